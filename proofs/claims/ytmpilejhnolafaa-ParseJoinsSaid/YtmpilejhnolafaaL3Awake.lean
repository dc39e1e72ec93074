/- Layer 3, plain: what every program answers that is one. -/
import Derived.Test.YtmpilejhnolafaaPPJx8
namespace Go.Proofs.Ytmpilejhnolafaa.PPJ
open Go.RowKit Go.Proofs.YtmpilejhnolafaaW.PrintWords Go.Proofs.YtmpilejhnolafaaW.PrintLast
set_option linter.unusedVariables false
set_option maxRecDepth 100000 in
theorem awake3_at : templelaw3_awake.f 64 = some true := by decide +kernel
theorem awake3 : Ev (fun k => templelaw3_awake.f k) true := by
  refine ⟨64, fun k hk => ?_⟩
  obtain ⟨d, rfl⟩ : ∃ d, k = 64 + d := ⟨k - 64, by omega⟩
  clear hk
  induction d with
  | zero => exact awake3_at
  | succ d ih => exact templelaw3_awake.mono _ _ ih
end Go.Proofs.Ytmpilejhnolafaa.PPJ
