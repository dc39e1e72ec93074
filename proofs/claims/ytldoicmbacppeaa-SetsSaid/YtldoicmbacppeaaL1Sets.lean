/- Layer 1, plain: the law Sets answers true. -/
import Derived.Test.YtldoicmbacppeaaL1
import Derived.Test.YtldoicmbacppeaaPL1x19
namespace Go.Proofs.Ytldoicmbacppeaa.PL1
open Go.RowKit Go.Proofs.YtldoicmbacppeaaW.PrintWords Go.Proofs.YtldoicmbacppeaaW.PrintLast
set_option linter.unusedVariables false
set_option linter.unusedSimpArgs false

theorem Sets_true (p q : Nat → Bool) (lo hi : Int) : ∃ k, templelaw1_Sets.f k (setW p 0) (setW p 1) (setW p 2) (setW p 3) (setW q 0) (setW q 1) (setW q 2) (setW q 3) lo hi = some true := by
  obtain ⟨K1, h1⟩ := refCount_ev p
  obtain ⟨K2, h2⟩ := Ranges_ev p
  obtain ⟨K3, h3⟩ := refRanges_ev p
  obtain ⟨K4, h4⟩ := SameEnds_self (runsL p 256) (by have := runsL_len p 256; omega)
  obtain ⟨K5, h5⟩ := awake_ev
  refine ⟨K1 + K2 + K3 + K4 + K5, ?_⟩
  have e1 := h1 _ (show K1 ≤ K1 + K2 + K3 + K4 + K5 by omega)
  have e2 := h2 _ (show K2 ≤ K1 + K2 + K3 + K4 + K5 by omega)
  have e3 := h3 _ (show K3 ≤ K1 + K2 + K3 + K4 + K5 by omega)
  have e4 := h4 _ (show K4 ≤ K1 + K2 + K3 + K4 + K5 by omega)
  have e5 := h5 _ (show K5 ≤ K1 + K2 + K3 + K4 + K5 by omega)
  clear h1 h2 h3 h4 h5
  dsimp only at e1 e2 e3 e4 e5
  generalize K1 + K2 + K3 + K4 + K5 = k at *
  have hr : ∃ a b c d e, byteset_Range.f lo hi = some (a, b, c, d, e) := by
    unfold byteset_Range.f
    split
    · exact ⟨_, _, _, _, _, rfl⟩
    · exact ⟨_, _, _, _, _, rfl⟩
  obtain ⟨a, b, c, d, e, hr⟩ := hr
  unfold templelaw1_Sets.f
  simp only [refRange, hr, Option.bind_some, Num_eq, beq_self_eq_true, Bool.and_self, if_true, Has_all, refHas_all, mix0, mix1, mix2, Or_set, And_set, Minus_set, Count_set, e1, e2, e3, e4, e5]

end Go.Proofs.Ytldoicmbacppeaa.PL1
