/- Layer 4, plain: texts that are too long for a conjunct (BuildLong). -/
import Derived.Test.YtdjnpgigdchfkaaL4Awake
import Derived.Test.YtdjnpgigdchfkaaPBLx10
namespace Go.Proofs.Ytdjnpgigdchfkaa.PBL
open Go.RowKit Go.Proofs.YtdjnpgigdchfkaaW.PrintWords Go.Proofs.YtdjnpgigdchfkaaW.PrintLast
set_option linter.unusedVariables false
theorem and_pow (a : Int) (n : Nat) (hn : n ≤ 63) : Go.bits .and .i64 a (((2 ^ n - 1 : Nat) : Int)) = IntKind.i64.wrap (a % (2 ^ n : Nat)) := by
  have hp : (2 : Nat) ^ n ≤ 2 ^ 63 := Nat.pow_le_pow_right (by decide) hn
  have h : Go.bits .and .i64 a (((2 ^ n - 1 : Nat) : Int)) = IntKind.i64.wrap (((BitVec.ofInt 64 a) &&& (BitVec.ofInt 64 (((2 ^ n - 1 : Nat) : Int)))).toNat : Int) := rfl
  rw [h, BitVec.toNat_and, BitVec.toNat_ofInt, BitVec.toNat_ofInt]
  have e1 : ((((2 ^ n - 1 : Nat) : Int)) % (2 ^ 64 : Nat)).toNat = 2 ^ n - 1 := by
    have : ((2 ^ 64 : Nat) : Int) = 18446744073709551616 := by decide
    have h63 : (2 : Nat) ^ 63 = 9223372036854775808 := by decide
    rw [this]
    omega
  rw [e1, Nat.and_two_pow_sub_one_eq_mod]
  congr 1
  have e2 : ((a % (2 ^ 64 : Nat)).toNat : Int) = a % (2 ^ 64 : Nat) := Int.toNat_of_nonneg (Int.emod_nonneg _ (by decide))
  rw [Int.natCast_emod, e2]
  exact Int.emod_emod_of_dvd a (by
    obtain ⟨d, hd⟩ : ∃ d, 64 = n + d := ⟨64 - n, by omega⟩
    exact ⟨((2 ^ d : Nat) : Int), by rw [show (2 : Nat) ^ 64 = 2 ^ (n + d) from congrArg (fun e => 2 ^ e) hd, Nat.pow_add]; exact Int.natCast_mul _ _⟩)
theorem and3 (a : Int) : Go.bits .and .i64 a 3 = a % 4 := by
  have := and_pow a 2 (by decide)
  rw [show (((2 ^ 2 - 1 : Nat) : Int)) = 3 from by decide, show ((2 ^ 2 : Nat) : Int) = 4 from by decide, IntKind.wrap_i64] at this
  omega
theorem and63 (a : Int) : Go.bits .and .i64 a 63 = a % 64 := by
  have := and_pow a 6 (by decide)
  rw [show (((2 ^ 6 - 1 : Nat) : Int)) = 63 from by decide, show ((2 ^ 6 : Nat) : Int) = 64 from by decide, IntKind.wrap_i64] at this
  omega
def longP (n q : Nat) : Bool := match blf 400 n q with | some b => longB n q b | none => false
set_option maxHeartbeats 80000000 in
set_option maxRecDepth 1000000 in
theorem long_0 : ∀ n, n < 8 → ∀ q, q < 4 → longP (0 + n) q = true := by decide +kernel
set_option maxHeartbeats 80000000 in
set_option maxRecDepth 1000000 in
theorem long_1 : ∀ n, n < 8 → ∀ q, q < 4 → longP (8 + n) q = true := by decide +kernel
set_option maxHeartbeats 80000000 in
set_option maxRecDepth 1000000 in
theorem long_2 : ∀ n, n < 8 → ∀ q, q < 4 → longP (16 + n) q = true := by decide +kernel
set_option maxHeartbeats 80000000 in
set_option maxRecDepth 1000000 in
theorem long_3 : ∀ n, n < 8 → ∀ q, q < 4 → longP (24 + n) q = true := by decide +kernel
set_option maxHeartbeats 80000000 in
set_option maxRecDepth 1000000 in
theorem long_4 : ∀ n, n < 8 → ∀ q, q < 4 → longP (32 + n) q = true := by decide +kernel
set_option maxHeartbeats 80000000 in
set_option maxRecDepth 1000000 in
theorem long_5 : ∀ n, n < 8 → ∀ q, q < 4 → longP (40 + n) q = true := by decide +kernel
set_option maxHeartbeats 80000000 in
set_option maxRecDepth 1000000 in
theorem long_6 : ∀ n, n < 8 → ∀ q, q < 4 → longP (48 + n) q = true := by decide +kernel
set_option maxHeartbeats 80000000 in
set_option maxRecDepth 1000000 in
theorem long_7 : ∀ n, n < 8 → ∀ q, q < 4 → longP (56 + n) q = true := by decide +kernel
theorem long_all (n : Nat) (hn : n < 64) (q : Nat) (hq : q < 4) : longP n q = true := by
  have h : ∀ a, a ≤ n → n < a + 8 → (∀ n, n < 8 → ∀ q, q < 4 → longP (a + n) q = true) → longP n q = true := fun a h1 h2 h3 => by
    have h4 := h3 (n - a) (by omega) q hq
    rwa [show a + (n - a) = n by omega] at h4
  rcases Nat.lt_or_ge n 8 with g1 | g1
  · exact h 0 (by omega) (by omega) long_0
  rcases Nat.lt_or_ge n 16 with g2 | g2
  · exact h 8 (by omega) (by omega) long_1
  rcases Nat.lt_or_ge n 24 with g3 | g3
  · exact h 16 (by omega) (by omega) long_2
  rcases Nat.lt_or_ge n 32 with g4 | g4
  · exact h 24 (by omega) (by omega) long_3
  rcases Nat.lt_or_ge n 40 with g5 | g5
  · exact h 32 (by omega) (by omega) long_4
  rcases Nat.lt_or_ge n 48 with g6 | g6
  · exact h 40 (by omega) (by omega) long_5
  rcases Nat.lt_or_ge n 56 with g7 | g7
  · exact h 48 (by omega) (by omega) long_6
  exact h 56 (by omega) (by omega) long_7
theorem long_row (a0 a1 : Int) : ∃ k, templelaw4_BuildLong.f k a0 a1 = some true := by
  refine ⟨400, ?_⟩
  have ha : templelaw4_awake.f 400 = some true :=
    (show ∀ d, templelaw4_awake.f (24 + d) = some true from fun d => by
      induction d with
      | zero => exact awake_at
      | succ d ih => exact templelaw4_awake.mono _ _ ih) 376
  unfold templelaw4_BuildLong.f
  have h := long_all (a0 % 64).toNat (by omega) (a1 % 4).toNat (by omega)
  rw [ha, Option.bind_some, if_pos rfl, and63, and3, if_pos (by omega)]
  cases hb : blf 400 (a0 % 64).toNat (a1 % 4).toNat with
  | none => unfold longP at h; rw [hb] at h; cases h
  | some b =>
    rw [Option.bind_some]
    unfold longP at h
    rw [hb] at h
    rw [if_pos h]
end Go.Proofs.Ytdjnpgigdchfkaa.PBL
