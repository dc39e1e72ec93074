import Derived.Test.YtpilkfodlhhjpaaBits
set_option linter.unusedVariables false
namespace Go.Proofs.Ytpilkfodlhhjpaa
def rangeP (lo hi : Int) (k : Nat) : Bool := decide (lo ≤ (k : Int) ∧ (k : Int) ≤ hi)
theorem setW_empty {lo hi : Int} (h : hi < lo) (i : Nat) : setW (rangeP lo hi) i = 0 := by
  have e : ∀ n, bsum (fun j => rangeP lo hi (64 * i + j)) n = 0 := by
    intro n
    induction n with
    | zero => rfl
    | succ n ih =>
      unfold bsum
      rw [ih]
      have : rangeP lo hi (64 * i + n) = false := by
        unfold rangeP
        simp
        omega
      simp [this]
  unfold setW
  rw [e]
  rfl
theorem setW_false (i : Nat) : setW (fun _ => false) i = 0 := by
  have e : ∀ n, bsum (fun _ => false) n = 0 := by
    intro n
    induction n with
    | zero => rfl
    | succ n ih => unfold bsum; rw [ih]; rfl
  unfold setW
  rw [e]
  rfl
theorem setW_same {lo c : Int} {i : Nat} (hc0 : 0 ≤ c) (hi : ¬ c / 64 = i) : setW (rangeP lo (c - 1)) i = setW (rangeP lo c) i := by
  unfold setW
  congr 1
  apply bsum_congr
  intro j hj
  unfold rangeP
  rw [decide_eq_decide]
  omega
theorem shl_bit {c : Int} (hc0 : 0 ≤ c) : IntKind.u64.wrap (2 ^ (c % 64).toNat) = ((2 ^ (c % 64).toNat : Nat) : Int) := by
  have h : (c % 64).toNat < 64 := by omega
  have h2 : 2 ^ (c % 64).toNat < 2 ^ 64 := Nat.pow_lt_pow_right (by decide) h
  have e : (2 : Nat) ^ 64 = 18446744073709551616 := by decide
  rw [show ((2 : Int) ^ (c % 64).toNat) = ((2 ^ (c % 64).toNat : Nat) : Int) from by simp]
  exact wrap_u64 _ (Int.natCast_nonneg _) (by omega)
theorem setW_step {lo c : Int} {i : Nat} (hc0 : 0 ≤ c) (hlo : lo ≤ c) (hi : c / 64 = i) : bits .or .u64 (setW (rangeP lo (c - 1)) i) (IntKind.u64.wrap (2 ^ (c % 64).toNat)) = setW (rangeP lo c) i := by
  have h : (c % 64).toNat < 64 := by omega
  have h2 : 2 ^ (c % 64).toNat < 2 ^ 64 := Nat.pow_lt_pow_right (by decide) h
  rw [shl_bit hc0]
  unfold setW
  rw [u64_or _ _ (bsum_lt _ _) h2]
  congr 1
  apply eq_of_bits (Nat.or_lt_two_pow (bsum_lt _ _) h2) (bsum_lt _ _)
  intro j hj
  rw [Nat.testBit_or, bsum_testBit, bsum_testBit, Nat.testBit_two_pow]
  unfold rangeP
  rw [Bool.eq_iff_iff]
  simp only [Bool.or_eq_true, Bool.and_eq_true, decide_eq_true_eq]
  omega
def mixOp (how a b : Int) : Int := if how = 0 then bits .or .u64 a b else if how = 1 then bits .and .u64 a b else bits .andNot .u64 a b
end Go.Proofs.Ytpilkfodlhhjpaa
