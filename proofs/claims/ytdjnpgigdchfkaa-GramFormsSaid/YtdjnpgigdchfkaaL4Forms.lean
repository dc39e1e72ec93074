/- Layer 4, plain: each part of a grammar that may not be (GramForms). -/
import Derived.Test.YtdjnpgigdchfkaaL4Awake
import Derived.Test.YtdjnpgigdchfkaaPGFx10
namespace Go.Proofs.Ytdjnpgigdchfkaa.PGF
open Go.RowKit Go.Proofs.YtdjnpgigdchfkaaW.PrintWords Go.Proofs.YtdjnpgigdchfkaaW.PrintLast
set_option linter.unusedVariables false
theorem and_pow (a : Int) (n : Nat) (hn : n ≤ 63) : Go.bits .and .i64 a (((2 ^ n - 1 : Nat) : Int)) = IntKind.i64.wrap (a % (2 ^ n : Nat)) := by
  have hp : (2 : Nat) ^ n ≤ 2 ^ 63 := Nat.pow_le_pow_right (by decide) hn
  have h : Go.bits .and .i64 a (((2 ^ n - 1 : Nat) : Int)) = IntKind.i64.wrap (((BitVec.ofInt 64 a) &&& (BitVec.ofInt 64 (((2 ^ n - 1 : Nat) : Int)))).toNat : Int) := rfl
  rw [h, BitVec.toNat_and, BitVec.toNat_ofInt, BitVec.toNat_ofInt]
  have e1 : ((((2 ^ n - 1 : Nat) : Int)) % (2 ^ 64 : Nat)).toNat = 2 ^ n - 1 := by
    have : ((2 ^ 64 : Nat) : Int) = 18446744073709551616 := by decide
    have h63 : (2 : Nat) ^ 63 = 9223372036854775808 := by decide
    rw [this]
    omega
  rw [e1, Nat.and_two_pow_sub_one_eq_mod]
  congr 1
  have e2 : ((a % (2 ^ 64 : Nat)).toNat : Int) = a % (2 ^ 64 : Nat) := Int.toNat_of_nonneg (Int.emod_nonneg _ (by decide))
  rw [Int.natCast_emod, e2]
  exact Int.emod_emod_of_dvd a (by
    obtain ⟨d, hd⟩ : ∃ d, 64 = n + d := ⟨64 - n, by omega⟩
    exact ⟨((2 ^ d : Nat) : Int), by rw [show (2 : Nat) ^ 64 = 2 ^ (n + d) from congrArg (fun e => 2 ^ e) hd, Nat.pow_add]; exact Int.natCast_mul _ _⟩)
theorem and63 (a : Int) : Go.bits .and .i64 a 63 = a % 64 := by
  have := and_pow a 6 (by decide)
  rw [show (((2 ^ 6 - 1 : Nat) : Int)) = 63 from by decide, show ((2 ^ 6 : Nat) : Int) = 64 from by decide, IntKind.wrap_i64] at this
  omega
def formsP (m n : Nat) : Bool := gfOk (m : Int) (1 + (n : Int))
set_option maxRecDepth 100000 in
set_option maxHeartbeats 4000000 in
theorem forms_0 : ∀ n, n < 64 → formsP 0 n = true := by decide +kernel
set_option maxRecDepth 100000 in
set_option maxHeartbeats 4000000 in
theorem forms_1 : ∀ n, n < 64 → formsP 1 n = true := by decide +kernel
set_option maxRecDepth 100000 in
set_option maxHeartbeats 4000000 in
theorem forms_2 : ∀ n, n < 64 → formsP 2 n = true := by decide +kernel
set_option maxRecDepth 100000 in
set_option maxHeartbeats 4000000 in
theorem forms_3 : ∀ n, n < 64 → formsP 3 n = true := by decide +kernel
set_option maxRecDepth 100000 in
set_option maxHeartbeats 4000000 in
theorem forms_4 : ∀ n, n < 64 → formsP 4 n = true := by decide +kernel
set_option maxRecDepth 100000 in
set_option maxHeartbeats 4000000 in
theorem forms_5 : ∀ n, n < 64 → formsP 5 n = true := by decide +kernel
set_option maxRecDepth 100000 in
set_option maxHeartbeats 4000000 in
theorem forms_6 : ∀ n, n < 64 → formsP 6 n = true := by decide +kernel
set_option maxRecDepth 100000 in
set_option maxHeartbeats 4000000 in
theorem forms_7 : ∀ n, n < 64 → formsP 7 n = true := by decide +kernel
set_option maxRecDepth 100000 in
set_option maxHeartbeats 4000000 in
theorem forms_8 : ∀ n, n < 64 → formsP 8 n = true := by decide +kernel
set_option maxRecDepth 100000 in
set_option maxHeartbeats 4000000 in
theorem forms_9 : ∀ n, n < 64 → formsP 9 n = true := by decide +kernel
set_option maxRecDepth 100000 in
set_option maxHeartbeats 4000000 in
theorem forms_10 : ∀ n, n < 64 → formsP 10 n = true := by decide +kernel
set_option maxRecDepth 100000 in
set_option maxHeartbeats 4000000 in
theorem forms_11 : ∀ n, n < 64 → formsP 11 n = true := by decide +kernel
set_option maxRecDepth 100000 in
set_option maxHeartbeats 4000000 in
theorem forms_12 : ∀ n, n < 64 → formsP 12 n = true := by decide +kernel
set_option maxRecDepth 100000 in
set_option maxHeartbeats 4000000 in
theorem forms_13 : ∀ n, n < 64 → formsP 13 n = true := by decide +kernel
set_option maxRecDepth 100000 in
set_option maxHeartbeats 4000000 in
theorem forms_14 : ∀ n, n < 64 → formsP 14 n = true := by decide +kernel
set_option maxRecDepth 100000 in
set_option maxHeartbeats 4000000 in
theorem forms_15 : ∀ n, n < 64 → formsP 15 n = true := by decide +kernel
set_option maxRecDepth 100000 in
set_option maxHeartbeats 4000000 in
theorem forms_16 : ∀ n, n < 64 → formsP 16 n = true := by decide +kernel
set_option maxRecDepth 100000 in
set_option maxHeartbeats 4000000 in
theorem forms_17 : ∀ n, n < 64 → formsP 17 n = true := by decide +kernel
theorem forms_all (m : Nat) (hm : m < 18) (n : Nat) (hn : n < 64) : formsP m n = true := by
  have h : m = 0 ∨ m = 1 ∨ m = 2 ∨ m = 3 ∨ m = 4 ∨ m = 5 ∨ m = 6 ∨ m = 7 ∨ m = 8 ∨ m = 9 ∨ m = 10 ∨ m = 11 ∨ m = 12 ∨ m = 13 ∨ m = 14 ∨ m = 15 ∨ m = 16 ∨ m = 17 := by omega
  rcases h with rfl | rfl | rfl | rfl | rfl | rfl | rfl | rfl | rfl | rfl | rfl | rfl | rfl | rfl | rfl | rfl | rfl | rfl
  · exact forms_0 n hn
  · exact forms_1 n hn
  · exact forms_2 n hn
  · exact forms_3 n hn
  · exact forms_4 n hn
  · exact forms_5 n hn
  · exact forms_6 n hn
  · exact forms_7 n hn
  · exact forms_8 n hn
  · exact forms_9 n hn
  · exact forms_10 n hn
  · exact forms_11 n hn
  · exact forms_12 n hn
  · exact forms_13 n hn
  · exact forms_14 n hn
  · exact forms_15 n hn
  · exact forms_16 n hn
  · exact forms_17 n hn
theorem forms_row (a0 a1 : Int) : ∃ k, templelaw4_GramForms.f k a0 a1 = some true := by
  obtain ⟨K, hK⟩ := awake4
  dsimp only at hK
  have h0 : 0 ≤ IntKind.u64.wrap a0 := by
    show 0 ≤ a0 % 18446744073709551616
    omega
  have h1 := Int.tmod_nonneg 18 h0
  have h2 := Int.tmod_lt_of_pos (IntKind.u64.wrap a0) (show (0 : Int) < 18 by decide)
  have h3 := and63 a1
  obtain ⟨m, hm⟩ := Int.eq_ofNat_of_zero_le h1
  obtain ⟨n, hn⟩ := Int.eq_ofNat_of_zero_le (show 0 ≤ Go.bits .and .i64 a1 63 by omega)
  have h4 := forms_all m (by omega) n (by omega)
  refine ⟨K, ?_⟩
  unfold templelaw4_GramForms.f
  rw [hK K (Nat.le_refl _), Option.bind_some, if_pos rfl, hm, hn]
  exact if_pos ⟨by omega, by omega, by omega, by omega, h4⟩
end Go.Proofs.Ytdjnpgigdchfkaa.PGF
