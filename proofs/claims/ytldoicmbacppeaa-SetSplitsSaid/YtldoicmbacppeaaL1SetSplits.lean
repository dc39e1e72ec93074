/- Layer 1, plain: the law SetSplits answers true. -/
import Derived.Test.YtldoicmbacppeaaL1
import Derived.Test.YtldoicmbacppeaaPL1x25
namespace Go.Proofs.Ytldoicmbacppeaa.PL1
open Go.RowKit Go.Proofs.YtldoicmbacppeaaW.PrintWords Go.Proofs.YtldoicmbacppeaaW.PrintLast
set_option linter.unusedVariables false
set_option linter.unusedSimpArgs false

theorem SetSplits_j0 (a b c : Int) (ha : 0 ≤ a) (hb : b ≤ 255) (h : a ≤ c ∧ c < b) : Ev (fun k => templelaw1_SetSplits.j0 k a b c false) true := by
  obtain ⟨K2, h2⟩ := Ranges_ev (rangeP a b)
  obtain ⟨K3, h3⟩ := SameEnds_self ([⟨a, b⟩]) (by simp)
  refine ⟨K2 + K3 + 1, fun k hk => ?_⟩
  obtain ⟨k, rfl⟩ : ∃ m, k = m + 1 := ⟨k - 1, by omega⟩
  have e2 := h2 k (by omega)
  have e3 := h3 k (by omega)
  clear h2 h3
  dsimp only at e2 e3 ⊢
  rw [runsL_range a b ha hb (by omega)] at e2
  have w1 : wrap64 (c + 1) = c + 1 := by unfold wrap64; omega
  have r1 := Range_yes a b ha hb (by omega)
  have r2 := Range_yes a c ha (by omega) (by omega)
  have r3 := Range_yes (c + 1) b (by omega) hb (by omega)
  have q1 : (fun k => rangeP a c k || rangeP (c + 1) b k) = rangeP a b := by
    funext k
    unfold rangeP
    rw [Bool.eq_iff_iff]
    simp only [Bool.or_eq_true, decide_eq_true_eq]
    omega
  have q2 : (fun k => rangeP a c k && rangeP (c + 1) b k) = (fun _ => false) := by
    funext k
    unfold rangeP
    rw [Bool.eq_iff_iff]
    simp only [Bool.and_eq_true, decide_eq_true_eq, Bool.false_eq_true, iff_false]
    omega
  have q3 : (fun k => rangeP a b k && !rangeP a c k) = rangeP (c + 1) b := by
    funext k
    unfold rangeP
    rw [Bool.eq_iff_iff]
    simp only [Bool.and_eq_true, Bool.not_eq_true', decide_eq_true_eq, decide_eq_false_iff_not]
    omega
  have q4 : (fun k => rangeP (c + 1) b k || rangeP a c k) = rangeP a b := by
    rw [← q1]
    funext k
    exact Bool.or_comm _ _
  have hc : ∀ n, cntb (fun _ => false) n = 0 := by
    intro n
    induction n with
    | zero => rfl
    | succ n ih => rw [show cntb (fun _ => false) (n + 1) = cntb (fun _ => false) n + 0 from rfl, ih]
  simp only [templelaw1_SetSplits.j0, w1, Bool.false_eq_true, if_false, r1, r2, r3, Option.bind_some, Num_eq, if_true, Or_set, And_set, Minus_set, q1, q2, q3, q4, Count_set, hc, beq_self_eq_true, Bool.and_self, Int.natCast_zero, e2, e3]

theorem SetSplits_true (a0 a1 a2 : Int) : ∃ k, templelaw1_SetSplits.f k a0 a1 a2 = some true := by
  have ha : 0 ≤ a0 % 256 ∧ a0 % 256 ≤ 255 := by omega
  have hb : 0 ≤ a1 % 256 ∧ a1 % 256 ≤ 255 := by omega
  have hc : 0 ≤ a2 % 256 ∧ a2 % 256 ≤ 255 := by omega
  generalize ea : a0 % 256 = a at *
  generalize eb : a1 % 256 = b at *
  generalize ec : a2 % 256 = c at *
  obtain ⟨K1, h1⟩ := awake_ev
  unfold templelaw1_SetSplits.f
  rw [i64_and255 a0, i64_and255 a1, i64_and255 a2, ea, eb, ec]
  by_cases h : a > c
  · refine ⟨K1 + 1, ?_⟩
    have e1 := h1 (K1 + 1) (by omega)
    dsimp only at e1
    rw [e1, Option.bind_some, if_pos rfl, if_pos h]
    rfl
  by_cases hd : c ≥ b
  · refine ⟨K1 + 1, ?_⟩
    have e1 := h1 (K1 + 1) (by omega)
    dsimp only at e1
    rw [e1, Option.bind_some, if_pos rfl, if_neg h, show decide (c ≥ b) = true from by simpa using hd]
    rfl
  · obtain ⟨K2, h2⟩ := SetSplits_j0 a b c ha.1 hb.2 (by omega)
    refine ⟨K1 + K2, ?_⟩
    have e1 := h1 (K1 + K2) (by omega)
    have e2 := h2 (K1 + K2) (by omega)
    dsimp only at e1 e2
    rw [e1, Option.bind_some, if_pos rfl, if_neg h, show decide (c ≥ b) = false from by simpa using hd, e2]
end Go.Proofs.Ytldoicmbacppeaa.PL1
