/- Layer 1, the plain side: what the printed functions answer at sets that are told by a question. -/
import Derived.Test.YtldoicmbacppeaaPLRx3
import Derived.Test.YtldoicmbacppeaaPLRx4
import Derived.Test.YtldoicmbacppeaaPLRx10
import Derived.Test.YtldoicmbacppeaaPLRx6
import Derived.Test.YtldoicmbacppeaaPLRx7
import Derived.Test.YtldoicmbacppeaaPLRx8
import Derived.Test.YtldoicmbacppeaaPLRx9
import Derived.Test.YtldoicmbacppeaaPLRx12
import Derived.Test.YtldoicmbacppeaaPLRx11
import Derived.Test.YtldoicmbacppeaaPLRx13
namespace Go.Proofs.Ytldoicmbacppeaa.PLR
open Go.RowKit Go.Proofs.YtldoicmbacppeaaW.PrintWords Go.Proofs.YtldoicmbacppeaaW.PrintLast
set_option linter.unusedVariables false
set_option linter.unusedSimpArgs false

theorem eq4 {p q : Nat → Bool} (h : ∀ k, k < 256 → p k = q k) : (setW p 0 == setW q 0 && (setW p 1 == setW q 1 && (setW p 2 == setW q 2 && (setW p 3 == setW q 3)))) = true := by
  rw [setW_congr h 0 (by omega), setW_congr h 1 (by omega), setW_congr h 2 (by omega), setW_congr h 3 (by omega)]
  simp
theorem as_set {a b c d : Int} (h : wf4 a b c d) : ∃ p : Nat → Bool, a = setW p 0 ∧ b = setW p 1 ∧ c = setW p 2 ∧ d = setW p 3 :=
  ⟨memb a b c d, (setW_memb h).1.symm, (setW_memb h).2.1.symm, (setW_memb h).2.2.1.symm, (setW_memb h).2.2.2.symm⟩

/-! ### or, and, minus -/
theorem or_set (p q : Nat → Bool) (i : Nat) : Go.bits .or .u64 (setW p i) (setW q i) = setW (fun k => p k || q k) i := by
  unfold setW
  rw [u64_or _ _ (bsum_lt _ _) (bsum_lt _ _)]
  congr 1
  apply eq_of_bits (Nat.or_lt_two_pow (bsum_lt _ _) (bsum_lt _ _)) (bsum_lt _ _)
  intro j hj
  rw [Nat.testBit_or, bsum_testBit, bsum_testBit, bsum_testBit]
  simp [hj]
theorem and_set (p q : Nat → Bool) (i : Nat) : Go.bits .and .u64 (setW p i) (setW q i) = setW (fun k => p k && q k) i := by
  unfold setW
  rw [u64_and _ _ (bsum_lt _ _) (bsum_lt _ _)]
  congr 1
  apply eq_of_bits (Nat.and_lt_two_pow _ (bsum_lt _ _)) (bsum_lt _ _)
  intro j hj
  rw [Nat.testBit_and, bsum_testBit, bsum_testBit, bsum_testBit]
  simp [hj]
theorem minus_set (p q : Nat → Bool) (i : Nat) : Go.bits .andNot .u64 (setW p i) (setW q i) = setW (fun k => p k && !q k) i := by
  unfold setW
  obtain ⟨c, hc, hl, hb⟩ := u64_andNot (bsum (fun j => p (64 * i + j)) 64) (bsum (fun j => q (64 * i + j)) 64) (bsum_lt _ _)
  rw [hc]
  congr 1
  apply eq_of_bits hl (bsum_lt _ _)
  intro j hj
  rw [hb, bsum_testBit, bsum_testBit, bsum_testBit]
  simp [hj]
theorem Or_set (p q : Nat → Bool) : byteset_Or.f (setW p 0) (setW p 1) (setW p 2) (setW p 3) (setW q 0) (setW q 1) (setW q 2) (setW q 3) = some (setW (fun k => p k || q k) 0, setW (fun k => p k || q k) 1, setW (fun k => p k || q k) 2, setW (fun k => p k || q k) 3) := by
  unfold byteset_Or.f
  rw [or_set, or_set, or_set, or_set]
theorem And_set (p q : Nat → Bool) : byteset_And.f (setW p 0) (setW p 1) (setW p 2) (setW p 3) (setW q 0) (setW q 1) (setW q 2) (setW q 3) = some (setW (fun k => p k && q k) 0, setW (fun k => p k && q k) 1, setW (fun k => p k && q k) 2, setW (fun k => p k && q k) 3) := by
  unfold byteset_And.f
  rw [and_set, and_set, and_set, and_set]
theorem Minus_set (p q : Nat → Bool) : byteset_Minus.f (setW p 0) (setW p 1) (setW p 2) (setW p 3) (setW q 0) (setW q 1) (setW q 2) (setW q 3) = some (setW (fun k => p k && !q k) 0, setW (fun k => p k && !q k) 1, setW (fun k => p k && !q k) 2, setW (fun k => p k && !q k) 3) := by
  unfold byteset_Minus.f
  rw [minus_set, minus_set, minus_set, minus_set]
theorem Has_set (p : Nat → Bool) (c : Int) (h0 : 0 ≤ c) (h1 : c ≤ 255) : byteset_Has.f (setW p 0) (setW p 1) (setW p 2) (setW p 3) c = some (p c.toNat) := by
  unfold byteset_Has.f
  rw [if_pos (setW_wf p), memb_setW p _ (by omega), show decide (0 ≤ c ∧ c ≤ 255) = true from by simp; omega, Bool.true_and]
theorem Has_out (p : Nat → Bool) (c : Int) (h : ¬ (0 ≤ c ∧ c ≤ 255)) : byteset_Has.f (setW p 0) (setW p 1) (setW p 2) (setW p 3) c = some false := by
  unfold byteset_Has.f
  rw [if_pos (setW_wf p), show decide (0 ≤ c ∧ c ≤ 255) = false from by simpa using h, Bool.false_and]
theorem Has_all (p : Nat → Bool) (c : Int) : byteset_Has.f (setW p 0) (setW p 1) (setW p 2) (setW p 3) c = some (decide (0 ≤ c ∧ c ≤ 255) && p c.toNat) := by
  by_cases h : 0 ≤ c ∧ c ≤ 255
  · rw [Has_set p c h.1 h.2, show decide (0 ≤ c ∧ c ≤ 255) = true from by simpa using h, Bool.true_and]
  · rw [Has_out p c h, show decide (0 ≤ c ∧ c ≤ 255) = false from by simpa using h, Bool.false_and]
theorem Count_set (p : Nat → Bool) : byteset_Count.f (setW p 0) (setW p 1) (setW p 2) (setW p 3) = some ((cntb p 256 : Nat) : Int) := by
  unfold byteset_Count.f
  rw [if_pos (setW_wf p), popc4 (setW_wf p), cntb_congr (fun j hj => memb_setW p j hj)]
theorem Range_yes (lo hi : Int) (h0 : 0 ≤ lo) (h1 : hi ≤ 255) (h2 : lo ≤ hi) : byteset_Range.f lo hi = some (setW (rangeP lo hi) 0, setW (rangeP lo hi) 1, setW (rangeP lo hi) 2, setW (rangeP lo hi) 3, 0) := by
  unfold byteset_Range.f
  rw [if_pos ⟨h0, h1, h2⟩]
theorem Range_no (lo hi : Int) (h : ¬ (0 ≤ lo ∧ hi ≤ 255 ∧ lo ≤ hi)) : byteset_Range.f lo hi = some (0, 0, 0, 0, 100) := by
  unfold byteset_Range.f
  rw [if_neg h]
theorem Num_eq (c : Int) : templelaw0_Num.f c = some c := by
  unfold templelaw0_Num.f
  rfl

/-! ### runs -/
/-- One byte more. -/
def stepR (p : Nat → Bool) (c : Nat) (xs : List S40) : List S40 :=
  if p c then (if 0 < c ∧ p (c - 1) = true then xs.set (xs.length - 1) ⟨(rd_T40 xs ((xs.length : Int) - 1)).f0, (c : Int)⟩ else xs ++ [⟨(c : Int), (c : Int)⟩]) else xs
def runsL (p : Nat → Bool) : Nat → List S40
  | 0 => []
  | c + 1 => stepR p c (runsL p c)
theorem runsL_len (p : Nat → Bool) : ∀ c, (runsL p c).length ≤ c
  | 0 => Nat.le_refl _
  | c + 1 => by
    have := runsL_len p c
    unfold runsL stepR
    split
    · split
      · rw [List.length_set]; omega
      · rw [List.length_append]; simp; omega
    · omega
theorem runsL_pos (p : Nat → Bool) (c : Nat) (h : p c = true) : 0 < (runsL p (c + 1)).length := by
  have key : ∀ c, p c = true → 0 < (runsL p (c + 1)).length := by
    intro c
    induction c with
    | zero =>
      intro h
      unfold runsL stepR
      rw [if_pos h, if_neg (fun h2 => Nat.lt_irrefl _ h2.1)]
      simp
    | succ c ih =>
      intro h
      unfold runsL stepR
      rw [if_pos h]
      split
      · rename_i h2
        rw [List.length_set]
        exact ih h2.2
      · rw [List.length_append]; simp
  exact key c h
theorem runsL_congr {p q : Nat → Bool} : ∀ {n : Nat}, (∀ k, k < n → p k = q k) → runsL p n = runsL q n
  | 0, _ => rfl
  | n + 1, h => by
    unfold runsL
    rw [runsL_congr (fun k hk => h k (by omega))]
    unfold stepR
    rw [h n (by omega)]
    by_cases h0 : 0 < n
    · rw [h (n - 1) (by omega)]
    · simp [h0]
theorem SameEnds_self (xs : List S40) (hl : xs.length ≤ 9223372036854775806) : Ev (fun k => templelaw0_SameEnds.f k xs xs) true := by
  have key : ∀ d i : Nat, i + d = xs.length → Ev (fun k => templelaw0_SameEnds.l0 k xs xs (i : Int)) true := by
    intro d
    induction d with
    | zero =>
      intro i hi
      refine Ev.step (f := fun _ => some true) (fun k => ?_) (Ev.now _)
      simp only [templelaw0_SameEnds.l0]
      rw [if_neg (by omega)]
    | succ d ih =>
      intro i hi
      refine Ev.step (f := fun k => templelaw0_SameEnds.l0 k xs xs ((i + 1 : Nat) : Int)) (fun k => ?_) (ih (i + 1) (by omega))
      simp only [templelaw0_SameEnds.l0]
      rw [if_pos (by omega), if_pos (by omega), if_pos (by omega), if_neg (by simp), show wrap64 ((i : Int) + 1) = ((i + 1 : Nat) : Int) from by unfold wrap64; omega]
  refine Ev.congr (f := fun k => templelaw0_SameEnds.l0 k xs xs ((0 : Nat) : Int)) (fun k => ?_) (key xs.length 0 (by omega))
  unfold templelaw0_SameEnds.f
  rw [if_pos rfl]
  rfl
theorem Ranges_ev (p : Nat → Bool) : Ev (fun k => byteset_Ranges.f k (setW p 0) (setW p 1) (setW p 2) (setW p 3)) (runsL p 256) := by
  have key : ∀ d c : Nat, c + d = 256 → Ev (fun k => byteset_Ranges.l0 k (runsL p c) (c : Int) (setW p 0) (setW p 1) (setW p 2) (setW p 3)) (runsL p 256) := by
    intro d
    induction d with
    | zero =>
      intro c hc
      obtain rfl : c = 256 := by omega
      refine Ev.step (f := fun _ => some (runsL p 256)) (fun k => ?_) (Ev.now _)
      simp only [byteset_Ranges.l0]
      rw [if_neg (by omega)]
    | succ d ih =>
      intro c hc
      refine Ev.step (f := fun k => byteset_Ranges.l0 k (runsL p (c + 1)) ((c + 1 : Nat) : Int) (setW p 0) (setW p 1) (setW p 2) (setW p 3)) (fun k => ?_) (ih (c + 1) (by omega))
      have hl := runsL_len p c
      simp only [byteset_Ranges.l0]
      rw [if_pos (by omega), Has_set p _ (by omega) (by omega), Option.bind_some, show wrap64 ((c : Int) + 1) = ((c + 1 : Nat) : Int) from by unfold wrap64; omega, Int.toNat_natCast]
      rw [show runsL p (c + 1) = stepR p c (runsL p c) from rfl]
      unfold stepR
      by_cases hp : p c = true
      · rw [if_pos hp, if_pos hp]
        by_cases h0 : 0 < c
        · rw [if_pos (show (c : Int) > 0 by omega), show wrap64 ((c : Int) - 1) = ((c - 1 : Nat) : Int) from by unfold wrap64; omega, Has_set p _ (by omega) (by omega), Option.bind_some, Int.toNat_natCast]
          by_cases h1 : p (c - 1) = true
          · have hne : 0 < (runsL p c).length := by
              have := runsL_pos p (c - 1) h1
              rwa [show c - 1 + 1 = c from by omega] at this
            have e : wrap64 (((runsL p c).length : Int) - 1) = ((runsL p c).length : Int) - 1 := by unfold wrap64; omega
            rw [if_pos h1, e, if_pos (by omega), if_pos (by omega), if_pos ⟨h0, h1⟩, show (((runsL p c).length : Int) - 1).toNat = (runsL p c).length - 1 from by omega]
          · rw [if_neg h1, if_pos (by omega), if_neg (fun h => h1 h.2)]
        · rw [if_neg (show ¬ (c : Int) > 0 by omega), if_pos (by omega), if_neg (fun h => h0 h.1)]
      · rw [if_neg hp, if_neg hp]
  exact Ev.congr (fun k => rfl) (key 256 0 (by omega))

/-! ### the document's own answers -/
theorem runsL_range (lo hi : Int) (h0 : 0 ≤ lo) (h1 : hi ≤ 255) (h2 : lo ≤ hi) : runsL (rangeP lo hi) 256 = [⟨lo, hi⟩] := by
  have key : ∀ c : Nat, runsL (rangeP lo hi) c = if (c : Int) ≤ lo then [] else if (c : Int) ≤ hi then [⟨lo, (c : Int) - 1⟩] else [⟨lo, hi⟩] := by
    intro c
    induction c with
    | zero => rw [if_pos (by omega)]; rfl
    | succ c ih =>
      rw [show runsL (rangeP lo hi) (c + 1) = stepR (rangeP lo hi) c (runsL (rangeP lo hi) c) from rfl, ih]
      unfold stepR rangeP
      by_cases a : (c : Int) < lo
      · rw [if_neg (by simp; omega), if_pos (by omega), if_pos (by omega)]
      by_cases b : (c : Int) = lo
      · rw [if_pos (by simp; omega), if_neg (fun h => by have := h.2; simp at this; omega), if_pos (by omega), if_neg (by omega)]
        by_cases d : ((c + 1 : Nat) : Int) ≤ hi
        · rw [if_pos d]; simp; omega
        · rw [if_neg d]; simp; omega
      by_cases d : (c : Int) ≤ hi
      · rw [if_pos (by simp; omega), if_pos ⟨by omega, by simp; omega⟩, if_neg (by omega), if_pos (by omega), if_neg (by omega)]
        by_cases e : ((c + 1 : Nat) : Int) ≤ hi
        · rw [if_pos e]; simp [rd_T40]
        · rw [if_neg e]; simp [rd_T40]; omega
      · rw [if_neg (by simp; omega), if_neg (by omega), if_neg (by omega), if_neg (by omega), if_neg (by omega)]
  rw [key 256, if_neg (by omega)]
  split
  · simp; omega
  · rfl
theorem cntb_range (lo hi : Int) (h0 : 0 ≤ lo) (h1 : hi ≤ 255) (h2 : lo ≤ hi) : ((cntb (rangeP lo hi) 256 : Nat) : Int) = hi - lo + 1 := by
  have key : ∀ c : Nat, ((cntb (rangeP lo hi) c : Nat) : Int) = if (c : Int) ≤ lo then 0 else if (c : Int) ≤ hi then (c : Int) - lo else hi - lo + 1 := by
    intro c
    induction c with
    | zero => rw [if_pos (by omega)]; rfl
    | succ c ih =>
      rw [show cntb (rangeP lo hi) (c + 1) = cntb (rangeP lo hi) c + (if rangeP lo hi c then 1 else 0) from rfl, Int.natCast_add, ih]
      by_cases hq : rangeP lo hi c = true
      · have hq' : lo ≤ (c : Int) ∧ (c : Int) ≤ hi := by simpa [rangeP] using hq
        rw [if_pos hq]
        repeat' split
        all_goals omega
      · have hq' : ¬ (lo ≤ (c : Int) ∧ (c : Int) ≤ hi) := by simpa [rangeP] using hq
        rw [if_neg hq]
        repeat' split
        all_goals omega
  rw [key 256, if_neg (by omega)]
  split <;> omega

theorem awake_ev : Ev (fun k => templelaw1_awake.f k) true := by
  obtain ⟨K1, h1⟩ := Ranges_ev (fun k => rangeP 70 255 k && !rangeP 60 70 k)
  obtain ⟨K2, h2⟩ := SameEnds_self ([⟨71, 255⟩]) (by decide)
  refine ⟨K1 + K2, fun k hk => ?_⟩
  have e1 := h1 k (by omega)
  have e2 := h2 k (by omega)
  have e3 : runsL (fun k => rangeP 70 255 k && !rangeP 60 70 k) 256 = [⟨71, 255⟩] := by
    rw [← runsL_range 71 255 (by decide) (by decide) (by decide)]
    refine runsL_congr (fun k hk => ?_)
    unfold rangeP
    rw [Bool.eq_iff_iff]
    simp
    omega
  have c1 : ((cntb (fun k => rangeP 60 70 k || rangeP 70 255 k) 256 : Nat) : Int) = 196 := by
    refine (congrArg (fun n : Nat => (n : Int)) (cntb_congr (fun k hk => ?_))).trans (cntb_range 60 255 (by decide) (by decide) (by decide))
    unfold rangeP
    rw [Bool.eq_iff_iff]
    simp
    omega
  have c2 : ((cntb (fun k => rangeP 60 70 k && rangeP 70 255 k) 256 : Nat) : Int) = 1 := by
    refine (congrArg (fun n : Nat => (n : Int)) (cntb_congr (fun k hk => ?_))).trans (cntb_range 70 70 (by decide) (by decide) (by decide))
    unfold rangeP
    rw [Bool.eq_iff_iff]
    simp
    omega
  have c3 : ((cntb (fun k => rangeP 60 70 k && !rangeP 70 255 k) 256 : Nat) : Int) = 10 := by
    refine (congrArg (fun n : Nat => (n : Int)) (cntb_congr (fun k hk => ?_))).trans (cntb_range 60 69 (by decide) (by decide) (by decide))
    unfold rangeP
    rw [Bool.eq_iff_iff]
    simp
    omega
  have r1 := Range_yes 60 70 (by decide) (by decide) (by decide)
  have r2 := Range_yes 70 255 (by decide) (by decide) (by decide)
  have r3 := Range_no 5 4 (by decide)
  have s1 : byteset_Has.f (setW (rangeP 60 70) 0) (setW (rangeP 60 70) 1) (setW (rangeP 60 70) 2) (setW (rangeP 60 70) 3) 63 = some true := Has_set _ 63 (by decide) (by decide)
  have s2 : byteset_Has.f (setW (rangeP 60 70) 0) (setW (rangeP 60 70) 1) (setW (rangeP 60 70) 2) (setW (rangeP 60 70) 3) 64 = some true := Has_set _ 64 (by decide) (by decide)
  have s3 : byteset_Has.f (setW (rangeP 60 70) 0) (setW (rangeP 60 70) 1) (setW (rangeP 60 70) 2) (setW (rangeP 60 70) 3) 71 = some false := Has_set _ 71 (by decide) (by decide)
  have e1' : byteset_Ranges.f k (setW (fun k => rangeP 70 255 k && !rangeP 60 70 k) 0) (setW (fun k => rangeP 70 255 k && !rangeP 60 70 k) 1) (setW (fun k => rangeP 70 255 k && !rangeP 60 70 k) 2) (setW (fun k => rangeP 70 255 k && !rangeP 60 70 k) 3) = some [⟨71, 255⟩] := e1.trans (congrArg some e3)
  have e2' : templelaw0_SameEnds.f k [⟨71, 255⟩] [⟨71, 255⟩] = some true := e2
  clear e1 e2 e3 h1 h2
  show templelaw1_awake.f k = some true
  unfold templelaw1_awake.f
  simp only [r1, r2, r3, Option.bind_some, Num_eq, if_true, s1, s2, s3, Bool.false_eq_true, if_false, Or_set, And_set, Minus_set, Count_set, c1, c2, c3, e1', e2']
theorem i64_and255 (a : Int) : Go.bits .and .i64 a 255 = a % 256 := by
  have h : Go.bits .and .i64 a 255 = IntKind.i64.wrap (((BitVec.ofInt 64 a) &&& (BitVec.ofNat 64 255)).toNat : Int) := rfl
  rw [h, BitVec.toNat_and, BitVec.toNat_ofInt, BitVec.toNat_ofNat]
  have e : (a % (2 ^ 64 : Nat)).toNat &&& 255 % 2 ^ 64 = (a % (2 ^ 64 : Nat)).toNat % 256 := by
    rw [show 255 % 2 ^ 64 = 2 ^ 8 - 1 from by decide, Nat.and_two_pow_sub_one_eq_mod]
  rw [e, IntKind.wrap_i64]
  have e2 : ((2 ^ 64 : Nat) : Int) = 18446744073709551616 := by decide
  rw [e2]
  omega

end Go.Proofs.Ytldoicmbacppeaa.PLR
