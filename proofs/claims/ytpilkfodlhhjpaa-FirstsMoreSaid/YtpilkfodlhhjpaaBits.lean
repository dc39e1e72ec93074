import Derived.Laws.BitsLemmas
set_option linter.unusedVariables false
namespace Go.Proofs.Ytpilkfodlhhjpaa
def bsum (p : Nat → Bool) : Nat → Nat
  | 0 => 0
  | n + 1 => bsum p n + if p n then 2 ^ n else 0
theorem bsum_lt (p : Nat → Bool) : ∀ n, bsum p n < 2 ^ n
  | 0 => by simp [bsum]
  | n + 1 => by
    have h := bsum_lt p n
    have e : 2 ^ (n + 1) = 2 ^ n + 2 ^ n := by rw [Nat.pow_succ]; omega
    unfold bsum
    rw [e]
    cases p n
    · simp only [Bool.false_eq_true, if_false]; omega
    · simp only [if_true]; omega
theorem bsum_testBit (p : Nat → Bool) (j : Nat) : ∀ n, (bsum p n).testBit j = (decide (j < n) && p j)
  | 0 => by simp [bsum]
  | n + 1 => by
    have ih := bsum_testBit p j n
    have hl := bsum_lt p n
    unfold bsum
    by_cases hp : p n = true
    · rw [if_pos hp]
      rcases Nat.lt_trichotomy j n with h | h | h
      · rw [Nat.add_comm, Nat.testBit_two_pow_add_gt h, ih]
        simp [h, Nat.lt_succ_of_lt h]
      · subst h
        rw [Nat.add_comm, Nat.testBit_two_pow_add_eq, ih]
        simp [hp]
      · have : (bsum p n + 2 ^ n).testBit j = false := by
          apply Nat.testBit_lt_two_pow
          have e : 2 ^ (n + 1) = 2 ^ n + 2 ^ n := by rw [Nat.pow_succ]; omega
          have := Nat.pow_le_pow_right (n := 2) (by decide) (show n + 1 ≤ j by omega)
          omega
        rw [this]
        have h1 : ¬ j < n + 1 := by omega
        simp [h1]
    · have hp' : p n = false := by simpa using hp
      rw [hp']
      simp only [Bool.false_eq_true, if_false, Nat.add_zero]
      rw [ih]
      by_cases h : j = n
      · subst h; simp [hp']
      · have : (j < n) = (j < n + 1) := by simp; omega
        simp [this]
theorem bsum_congr {p q : Nat → Bool} : ∀ {n : Nat}, (∀ j, j < n → p j = q j) → bsum p n = bsum q n
  | 0, _ => rfl
  | n + 1, h => by
    unfold bsum
    rw [bsum_congr (fun j hj => h j (by omega)), h n (by omega)]
theorem eq_of_bits {x y : Nat} (hx : x < 2 ^ 64) (hy : y < 2 ^ 64) (h : ∀ j, j < 64 → x.testBit j = y.testBit j) : x = y := by
  apply Nat.eq_of_testBit_eq
  intro j
  by_cases hj : j < 64
  · exact h j hj
  · have := Nat.pow_le_pow_right (n := 2) (by decide) (show 64 ≤ j by omega)
    rw [Nat.testBit_lt_two_pow (by omega), Nat.testBit_lt_two_pow (by omega)]
theorem bsum_self {x : Nat} (hx : x < 2 ^ 64) : bsum (fun j => x.testBit j) 64 = x := by
  apply eq_of_bits (bsum_lt _ _) hx
  intro j hj
  rw [bsum_testBit]
  simp [hj]
theorem wrap_u64 (n : Int) (h0 : 0 ≤ n) (h1 : n < 18446744073709551616) : IntKind.u64.wrap n = n := by
  simp [IntKind.wrap, IntKind.bits, IntKind.signed]
  omega
theorem wraps_u64 (n : Int) (h0 : 0 ≤ n) (h1 : n < 2 ^ 64) : IntKind.u64.wrap n = n := wrap_u64 n h0 (by simpa using h1)
theorem u64_and (a b : Nat) (ha : a < 2 ^ 64) (hb : b < 2 ^ 64) : bits .and .u64 (a : Int) (b : Int) = ((a &&& b : Nat) : Int) := (bits_nat .u64 64 (by decide) wraps_u64 a b ha hb).1
theorem u64_or (a b : Nat) (ha : a < 2 ^ 64) (hb : b < 2 ^ 64) : bits .or .u64 (a : Int) (b : Int) = ((a ||| b : Nat) : Int) := (bits_nat .u64 64 (by decide) wraps_u64 a b ha hb).2
theorem u64_andNot (a b : Nat) (ha : a < 2 ^ 64) : ∃ c : Nat, bits .andNot .u64 (a : Int) (b : Int) = (c : Int) ∧ c < 2 ^ 64 ∧ ∀ j, c.testBit j = (a.testBit j && !b.testBit j) := by
  refine ⟨(BitVec.ofNat 64 a &&& ~~~ BitVec.ofNat 64 b).toNat, ?_, BitVec.isLt _, fun j => ?_⟩
  · have h : bits .andNot .u64 (a : Int) (b : Int) = IntKind.u64.wrap ((BitVec.ofNat 64 a &&& ~~~ BitVec.ofNat 64 b).toNat : Int) := by
      simp only [bits, BitVec.ofInt_natCast]
      rfl
    rw [h]
    exact wraps_u64 _ (Int.natCast_nonneg _) (by exact_mod_cast BitVec.isLt _)
  · rw [BitVec.testBit_toNat, BitVec.getLsbD_and, BitVec.getLsbD_not, BitVec.getLsbD_ofNat, BitVec.getLsbD_ofNat]
    by_cases hj : j < 64
    · simp [hj]
    · have := Nat.pow_le_pow_right (n := 2) (by decide) (show 64 ≤ j by omega)
      rw [Nat.testBit_lt_two_pow (show a < 2 ^ j by omega)]
      simp [hj]
theorem nat_of {x : Int} (h : 0 ≤ x ∧ x < 18446744073709551616) : ∃ n : Nat, x = (n : Int) ∧ n < 2 ^ 64 :=
  ⟨x.toNat, by omega, by have : (2 : Nat) ^ 64 = 18446744073709551616 := by decide
                         omega⟩
def isw (x : Int) : Prop := 0 ≤ x ∧ x < 18446744073709551616
instance (x : Int) : Decidable (isw x) := by unfold isw; infer_instance
def wf4 (a b c d : Int) : Prop := isw a ∧ isw b ∧ isw c ∧ isw d
instance (a b c d : Int) : Decidable (wf4 a b c d) := by unfold wf4; infer_instance
def wd (a b c d : Int) (i : Nat) : Int := match i with
  | 0 => a
  | 1 => b
  | 2 => c
  | _ => d
def memb (a b c d : Int) (k : Nat) : Bool := (wd a b c d (k / 64)).toNat.testBit (k % 64)
def setW (p : Nat → Bool) (i : Nat) : Int := ((bsum (fun j => p (64 * i + j)) 64 : Nat) : Int)
theorem setW_isw (p : Nat → Bool) (i : Nat) : isw (setW p i) := by
  have := bsum_lt (fun j => p (64 * i + j)) 64
  have e : (2 : Nat) ^ 64 = 18446744073709551616 := by decide
  unfold isw setW
  omega
theorem setW_wf (p : Nat → Bool) : wf4 (setW p 0) (setW p 1) (setW p 2) (setW p 3) := ⟨setW_isw _ _, setW_isw _ _, setW_isw _ _, setW_isw _ _⟩
theorem memb_setW (p : Nat → Bool) (k : Nat) (hk : k < 256) : memb (setW p 0) (setW p 1) (setW p 2) (setW p 3) k = p k := by
  have h : ∀ i : Nat, k / 64 = i → (setW p i).toNat.testBit (k % 64) = p k := by
    intro i hi
    unfold setW
    rw [Int.toNat_natCast, bsum_testBit]
    have h1 : k % 64 < 64 := Nat.mod_lt _ (by decide)
    have h2 : 64 * i + k % 64 = k := by omega
    simp [h1, h2]
  unfold memb
  have : k / 64 = 0 ∨ k / 64 = 1 ∨ k / 64 = 2 ∨ k / 64 = 3 := by omega
  rcases this with e | e | e | e <;> rw [← h _ e, e] <;> rfl
theorem setW_memb {a b c d : Int} (h : wf4 a b c d) : setW (memb a b c d) 0 = a ∧ setW (memb a b c d) 1 = b ∧ setW (memb a b c d) 2 = c ∧ setW (memb a b c d) 3 = d := by
  have key : ∀ (i : Nat) (x : Int), isw x → wd a b c d i = x → setW (memb a b c d) i = x := by
    intro i x hx he
    obtain ⟨n, rfl, hn⟩ := nat_of hx
    unfold setW
    congr 1
    rw [← bsum_self hn]
    apply bsum_congr
    intro j hj
    unfold memb
    have h1 : (64 * i + j) / 64 = i := by omega
    have h2 : (64 * i + j) % 64 = j := by omega
    rw [h1, h2, he, Int.toNat_natCast]
  exact ⟨key 0 a h.1 rfl, key 1 b h.2.1 rfl, key 2 c h.2.2.1 rfl, key 3 d h.2.2.2 rfl⟩
theorem setW_congr {p q : Nat → Bool} (h : ∀ k, k < 256 → p k = q k) (i : Nat) (hi : i < 4) : setW p i = setW q i := by
  unfold setW
  congr 1
  exact bsum_congr (fun j hj => h _ (by omega))
end Go.Proofs.Ytpilkfodlhhjpaa
