/- Layer 4, plain: how many names, rules, symbols there may be (GramLimits). -/
import Derived.Test.YtdjnpgigdchfkaaL4Awake
import Derived.Test.YtdjnpgigdchfkaaPGLx10
namespace Go.Proofs.Ytdjnpgigdchfkaa.PGL
open Go.RowKit Go.Proofs.YtdjnpgigdchfkaaW.PrintWords Go.Proofs.YtdjnpgigdchfkaaW.PrintLast
set_option linter.unusedVariables false
theorem and_pow (a : Int) (n : Nat) (hn : n ≤ 63) : Go.bits .and .i64 a (((2 ^ n - 1 : Nat) : Int)) = IntKind.i64.wrap (a % (2 ^ n : Nat)) := by
  have hp : (2 : Nat) ^ n ≤ 2 ^ 63 := Nat.pow_le_pow_right (by decide) hn
  have h : Go.bits .and .i64 a (((2 ^ n - 1 : Nat) : Int)) = IntKind.i64.wrap (((BitVec.ofInt 64 a) &&& (BitVec.ofInt 64 (((2 ^ n - 1 : Nat) : Int)))).toNat : Int) := rfl
  rw [h, BitVec.toNat_and, BitVec.toNat_ofInt, BitVec.toNat_ofInt]
  have e1 : ((((2 ^ n - 1 : Nat) : Int)) % (2 ^ 64 : Nat)).toNat = 2 ^ n - 1 := by
    have : ((2 ^ 64 : Nat) : Int) = 18446744073709551616 := by decide
    have h63 : (2 : Nat) ^ 63 = 9223372036854775808 := by decide
    rw [this]
    omega
  rw [e1, Nat.and_two_pow_sub_one_eq_mod]
  congr 1
  have e2 : ((a % (2 ^ 64 : Nat)).toNat : Int) = a % (2 ^ 64 : Nat) := Int.toNat_of_nonneg (Int.emod_nonneg _ (by decide))
  rw [Int.natCast_emod, e2]
  exact Int.emod_emod_of_dvd a (by
    obtain ⟨d, hd⟩ : ∃ d, 64 = n + d := ⟨64 - n, by omega⟩
    exact ⟨((2 ^ d : Nat) : Int), by rw [show (2 : Nat) ^ 64 = 2 ^ (n + d) from congrArg (fun e => 2 ^ e) hd, Nat.pow_add]; exact Int.natCast_mul _ _⟩)
theorem and1 (a : Int) : Go.bits .and .i64 a 1 = a % 2 := by
  have := and_pow a 1 (by decide)
  rw [show (((2 ^ 1 - 1 : Nat) : Int)) = 1 from by decide, show ((2 ^ 1 : Nat) : Int) = 2 from by decide, IntKind.wrap_i64] at this
  omega
theorem and3 (a : Int) : Go.bits .and .i64 a 3 = a % 4 := by
  have := and_pow a 2 (by decide)
  rw [show (((2 ^ 2 - 1 : Nat) : Int)) = 3 from by decide, show ((2 ^ 2 : Nat) : Int) = 4 from by decide, IntKind.wrap_i64] at this
  omega
theorem and63 (a : Int) : Go.bits .and .i64 a 63 = a % 64 := by
  have := and_pow a 6 (by decide)
  rw [show (((2 ^ 6 - 1 : Nat) : Int)) = 63 from by decide, show ((2 ^ 6 : Nat) : Int) = 64 from by decide, IntKind.wrap_i64] at this
  omega
theorem lim_l1 (x0 x1 : Int) : ∀ (k : Nat) (x5 x9 x10 y0 : Int) (y1 : List ByteArray) (y2 : List S51) (z0 : Int) (z1 : List ByteArray) (z2 : List S51), templelaw4_GramLimits.l1 k x0 x1 x5 x9 x10 y0 y1 y2 z0 z1 z2 = templelaw4_GramLimits.l1 k (x0 % 4) (x1 % 4) x5 x9 x10 y0 y1 y2 z0 z1 z2
  | 0, _, _, _, _, _, _, _, _, _ => by simp only [templelaw4_GramLimits.l1]
  | k + 1, x5, x9, x10, y0, y1, y2, z0, z1, z2 => by
    simp only [templelaw4_GramLimits.l1]
    rw [lim_l1 x0 x1 k, and1, and1, and1, and1, show x0 % 4 % 2 = x0 % 2 from by omega, show x1 % 4 % 2 = x1 % 2 from by omega]
theorem lim_l0 (x0 x1 : Int) : ∀ (k : Nat) (x5 x7 y0 : Int) (y1 : List ByteArray) (y2 : List S51), templelaw4_GramLimits.l0 k x0 x1 x5 x7 y0 y1 y2 = templelaw4_GramLimits.l0 k (x0 % 4) (x1 % 4) x5 x7 y0 y1 y2
  | 0, _, _, _, _, _ => by simp only [templelaw4_GramLimits.l0]
  | k + 1, x5, x7, y0, y1, y2 => by
    simp only [templelaw4_GramLimits.l0]
    rw [lim_l0 x0 x1 k, lim_l1 x0 x1 k, and3, and3, show x1 % 4 % 4 = x1 % 4 from by omega]
set_option maxRecDepth 1000000 in
theorem limits_all : ∀ n, n < 4 → ∀ m, m < 4 → templelaw4_GramLimits.l0 400 ((n : Nat) : Int) ((m : Nat) : Int) (wrap64 (254 + Go.bits .and .i64 ((n : Nat) : Int) 3)) 0 0 [⟨#[83]⟩] [] = some true := by decide +kernel
theorem GramLimits : templelaw4_GramLimits.Pure := by
  intro a0 a1 _ _
  refine ⟨400, ?_⟩
  have ha : templelaw4_awake.f 400 = some true := by
    obtain ⟨k, hk⟩ := awake4
    exact (show ∀ d, templelaw4_awake.f (24 + d) = some true from fun d => by
      induction d with
      | zero => exact awake_at
      | succ d ih => exact templelaw4_awake.mono _ _ ih) 376
  unfold templelaw4_GramLimits.f
  rw [ha, Option.bind_some, if_pos rfl, lim_l0]
  have h := limits_all (a0 % 4).toNat (by omega) (a1 % 4).toNat (by omega)
  rw [show (((a0 % 4).toNat : Nat) : Int) = a0 % 4 from by omega, show (((a1 % 4).toNat : Nat) : Int) = a1 % 4 from by omega, and3] at h
  rw [and3, ← show a0 % 4 % 4 = a0 % 4 from by omega]
  rw [show a0 % 4 % 4 = a0 % 4 from by omega] at h ⊢
  exact h
end Go.Proofs.Ytdjnpgigdchfkaa.PGL
