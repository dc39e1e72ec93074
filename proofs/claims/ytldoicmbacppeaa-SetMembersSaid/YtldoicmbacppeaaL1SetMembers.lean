/- Layer 1, plain: the law SetMembers answers true. -/
import Derived.Test.YtldoicmbacppeaaL1
import Derived.Test.YtldoicmbacppeaaPL1x21
namespace Go.Proofs.Ytldoicmbacppeaa.PL1
open Go.RowKit Go.Proofs.YtldoicmbacppeaaW.PrintWords Go.Proofs.YtldoicmbacppeaaW.PrintLast
set_option linter.unusedVariables false
set_option linter.unusedSimpArgs false

set_option maxRecDepth 100000 in
theorem SetMembers_true (a0 a1 a2 : Int) : ∃ k, templelaw1_SetMembers.f k a0 a1 a2 = some true := by
  have ha : 0 ≤ a0 % 256 ∧ a0 % 256 ≤ 255 := by omega
  have hb : 0 ≤ a1 % 256 ∧ a1 % 256 ≤ 255 := by omega
  generalize ea : a0 % 256 = a at *
  generalize eb : a1 % 256 = b at *
  obtain ⟨K1, h1⟩ := awake_ev
  obtain ⟨K2, h2⟩ := Ranges_ev (rangeP a b)
  obtain ⟨K3, h3⟩ := SameEnds_self ([⟨a, b⟩]) (by simp)
  refine ⟨K1 + K2 + K3, ?_⟩
  have e1 := h1 _ (show K1 ≤ K1 + K2 + K3 by omega)
  have e2 := h2 _ (show K2 ≤ K1 + K2 + K3 by omega)
  have e3 := h3 _ (show K3 ≤ K1 + K2 + K3 by omega)
  clear h1 h2 h3
  dsimp only at e1 e2 e3
  generalize K1 + K2 + K3 = k at *
  unfold templelaw1_SetMembers.f
  rw [i64_and255 a0, i64_and255 a1, ea, eb]
  by_cases hab : a > b
  · have hr := Range_no a b (by omega)
    simp only [e1, Option.bind_some, if_true, hr, hab, Num_eq, beq_self_eq_true, Bool.and_self]
  · have hr := Range_yes a b ha.1 hb.2 (by omega)
    have w1 : wrap64 (a - 256) = a - 256 := by unfold wrap64; omega
    have w2 : wrap64 (b + 256) = b + 256 := by unfold wrap64; omega
    have w3 : wrap64 (wrap64 (b - a) + 1) = b - a + 1 := by unfold wrap64; omega
    have hr1 := Range_no (a - 256) b (by omega)
    have hr2 := Range_no a (b + 256) (by omega)
    have hc : ((cntb (rangeP a b) 256 : Nat) : Int) = b - a + 1 := cntb_range a b ha.1 hb.2 (by omega)
    have hm : (decide (0 ≤ a2 ∧ a2 ≤ 255) && rangeP a b a2.toNat) = (decide (a2 ≥ a) && decide (a2 ≤ b)) := by
      unfold rangeP
      rw [Bool.eq_iff_iff]
      simp only [Bool.and_eq_true, decide_eq_true_eq]
      omega
    rw [runsL_range a b ha.1 hb.2 (by omega)] at e2
    rw [e1, Option.bind_some, if_pos rfl, hr, Option.bind_some, if_neg hab, w1, hr1, Option.bind_some, w2, hr2, Option.bind_some, Num_eq, Option.bind_some, if_pos rfl, Has_all, Option.bind_some, hm]
    by_cases hge : a2 ≥ a
    · rw [if_pos hge, show decide (a2 ≥ a) = true from by simpa using hge, Bool.true_and, if_pos (by simp), Count_set, Option.bind_some, hc, w3, if_pos rfl, Num_eq, Option.bind_some, if_pos rfl, Option.bind_some, if_pos rfl]
      dsimp only
      rw [e2, Option.bind_some, e3, Option.bind_some]
    · rw [if_neg hge, show decide (a2 ≥ a) = false from by simpa using hge, Bool.false_and, if_pos (by simp), Count_set, Option.bind_some, hc, w3, if_pos rfl, Num_eq, Option.bind_some, if_pos rfl, Option.bind_some, if_pos rfl]
      dsimp only
      rw [e2, Option.bind_some, e3, Option.bind_some]
end Go.Proofs.Ytldoicmbacppeaa.PL1
