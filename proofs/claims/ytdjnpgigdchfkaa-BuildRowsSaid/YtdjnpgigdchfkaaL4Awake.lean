/- Layer 4, plain: what every program answers that is one. -/
import Derived.Test.YtdjnpgigdchfkaaPBRx5
namespace Go.Proofs.Ytdjnpgigdchfkaa.PBR
open Go.RowKit Go.Proofs.YtdjnpgigdchfkaaW.PrintWords Go.Proofs.YtdjnpgigdchfkaaW.PrintLast
set_option linter.unusedVariables false
set_option maxRecDepth 100000 in
theorem awake_at : templelaw4_awake.f 24 = some true := by decide +kernel
theorem awake4 : Ev (fun k => templelaw4_awake.f k) true := by
  refine ⟨24, fun k hk => ?_⟩
  obtain ⟨d, rfl⟩ : ∃ d, k = 24 + d := ⟨k - 24, by omega⟩
  clear hk
  induction d with
  | zero => exact awake_at
  | succ d ih => exact templelaw4_awake.mono _ _ ih
end Go.Proofs.Ytdjnpgigdchfkaa.PBR
