/- Layer 4, plain: wrong grammars, in each of the 32 ways (BuildWrong). -/
import Derived.Test.YtdjnpgigdchfkaaL4Awake
import Derived.Test.YtdjnpgigdchfkaaPBWx9
namespace Go.Proofs.Ytdjnpgigdchfkaa.PBW
open Go.RowKit Go.Proofs.YtdjnpgigdchfkaaW.PrintWords Go.Proofs.YtdjnpgigdchfkaaW.PrintLast
set_option linter.unusedVariables false
set_option maxRecDepth 100000 in
set_option maxHeartbeats 4000000 in
theorem wrong_0 : ∀ b8 b4 b2 b1, bwF 400 false b8 b4 b2 b1 = some true := by decide +kernel
set_option maxRecDepth 100000 in
set_option maxHeartbeats 4000000 in
theorem wrong_1 : ∀ b8 b4 b2 b1, bwF 400 true b8 b4 b2 b1 = some true := by decide +kernel
theorem wrong_row (a0 : Int) : ∃ k, templelaw4_BuildWrong.f k a0 = some true := by
  refine ⟨400, ?_⟩
  have ha : templelaw4_awake.f 400 = some true :=
    (show ∀ d, templelaw4_awake.f (24 + d) = some true from fun d => by
      induction d with
      | zero => exact awake_at
      | succ d ih => exact templelaw4_awake.mono _ _ ih) 376
  have h : ∀ b16 b8 b4 b2 b1, bwF 400 b16 b8 b4 b2 b1 = some true := by
    intro b16 b8 b4 b2 b1
    cases b16
    · exact wrong_0 b8 b4 b2 b1
    · exact wrong_1 b8 b4 b2 b1
  unfold templelaw4_BuildWrong.f
  rw [ha, Option.bind_some, if_pos rfl]
  exact h _ _ _ _ _
end Go.Proofs.Ytdjnpgigdchfkaa.PBW
