-- written by a program of the session's (wip/myprint.py) out of the translation
import Derived.Test.YtpilkfodlhhjpaaPFWx0
namespace Go.Proofs.Ytpilkfodlhhjpaa.PFW
open Go.RowKit Go.Proofs.YtpilkfodlhhjpaaW.PrintWords Go.Proofs.YtpilkfodlhhjpaaW.PrintLast Go.Proofs.YtpilkfodlhhjpaaW.PrintMore
attribute [local go_sem] max2_int min2_int max_two min_two max_three min_three max_four min_four   -- for this text's walks alone
set_option linter.unusedVariables false
set_option linter.unusedSimpArgs false

/-! ### templeref1_Has: function 24 -/
def templeref1_Has.f (a0_0 a0_1 a0_2 a0_3 : Int) (a1 : Int) : Option (Bool) := if wf4 a0_0 a0_1 a0_2 a0_3 then some (decide (0 ≤ a1 ∧ a1 ≤ 255) && memb a0_0 a0_1 a0_2 a0_3 a1.toNat) else none
theorem templeref1_Has.bit {x i : Int} {k : Nat} (hx : isw x) (hi : (i % 64).toNat = k) : (Go.bits .and .u64 (x / 2 ^ (i % 64).toNat) 1 == 1) = x.toNat.testBit k := by
 obtain ⟨n, rfl, hn⟩ := nat_of hx
 rw [hi, Int.toNat_natCast]
 have h2 : ((n : Int) / 2 ^ k) = ((n / 2 ^ k : Nat) : Int) := by simp
 have h3 : n / 2 ^ k < 2 ^ 64 := Nat.lt_of_le_of_lt (Nat.div_le_self _ _) hn
 rw [h2, show (1 : Int) = ((1 : Nat) : Int) from rfl, u64_and _ 1 h3 (by decide), Nat.testBit_eq_decide_div_mod_eq, Nat.and_one_is_mod]
 rcases Nat.mod_two_eq_zero_or_one (n / 2 ^ k) with e | e <;> rw [e] <;> rfl
set_option maxHeartbeats 8000000 in
set_option maxRecDepth 100000 in
theorem templeref1_Has.calls (a0_0 : Int) (a0_1 : Int) (a0_2 : Int) (a0_3 : Int) (a1 : Int) (r : Bool) (w : World) (h : templeref1_Has.f a0_0 a0_1 a0_2 a0_3 a1 = some r) :
  Calls Try.prog 24 #[.agg #[.int .u64 a0_0, .int .u64 a0_1, .int .u64 a0_2, .int .u64 a0_3], .int .i64 a1] w fun e w' => e = .returned (.bool r) ∧ Below w.heap.size w w' := by
 unfold templeref1_Has.f at h
 by_cases hw : wf4 a0_0 a0_1 a0_2 a0_3
 ·rw [if_pos hw] at h
  have Hr := Aside0.mk (Option.some.inj h)
  clear h
  have Hw := Aside0.mk hw
  clear hw
  by_cases hlo : a1 < 0
  ·go_enter Try.func24, Try.ntmps24
   go_wp2
   go_ret
   exact ⟨by rw [← Hr.out, show decide (0 ≤ a1 ∧ a1 ≤ 255) = false from by simp; omega]; rfl, (Below.refl _ _).alloc (Nat.le_refl _) _⟩
  have h0 : 0 ≤ a1 := by omega
  by_cases hhi : 255 < a1
  ·go_enter Try.func24, Try.ntmps24
   go_wp2
   go_ret
   exact ⟨by rw [← Hr.out, show decide (0 ≤ a1 ∧ a1 ≤ 255) = false from by simp; omega]; rfl, (Below.refl _ _).alloc (Nat.le_refl _) _⟩
  have h1 : a1 ≤ 255 := by omega
  have ht : (a1 % 64).toNat = a1.toNat % 64 := by omega
  have Ht := Aside0.mk ht
  clear ht
  have fin : ∀ (x : Int) (i : Nat), isw x → wd a0_0 a0_1 a0_2 a0_3 i = x → a1 / 64 = i → (Go.bits .and .u64 (x / 2 ^ (a1 % 64).toNat) 1 == 1) = r := by
   intro x i hx he hq
   rw [templeref1_Has.bit hx Ht.out, ← Hr.out, show decide (0 ≤ a1 ∧ a1 ≤ 255) = true from by simp; omega, Bool.true_and]
   unfold memb
   rw [show a1.toNat / 64 = i from by omega, he]
  have hq : a1 / 64 = 0 ∨ a1 / 64 = 1 ∨ a1 / 64 = 2 ∨ a1 / 64 = 3 := by omega
  rcases hq with hq | hq | hq | hq
  ·have F := Aside0.mk (fin a0_0 0 Hw.out.1 rfl hq)
   clear fin
   go_enter Try.func24, Try.ntmps24
   go_wp2
   go_ret
   exact ⟨by rw [← F.out]; rfl, (Below.refl _ _).alloc (Nat.le_refl _) _⟩
  ·have F := Aside0.mk (fin a0_1 1 Hw.out.2.1 rfl hq)
   clear fin
   go_enter Try.func24, Try.ntmps24
   go_wp2
   go_ret
   exact ⟨by rw [← F.out]; rfl, (Below.refl _ _).alloc (Nat.le_refl _) _⟩
  ·have F := Aside0.mk (fin a0_2 2 Hw.out.2.2.1 rfl hq)
   clear fin
   go_enter Try.func24, Try.ntmps24
   go_wp2
   go_ret
   exact ⟨by rw [← F.out]; rfl, (Below.refl _ _).alloc (Nat.le_refl _) _⟩
  ·have F := Aside0.mk (fin a0_3 3 Hw.out.2.2.2 rfl hq)
   clear fin
   go_enter Try.func24, Try.ntmps24
   go_wp2
   go_ret
   exact ⟨by rw [← F.out]; rfl, (Below.refl _ _).alloc (Nat.le_refl _) _⟩
 ·rw [if_neg hw] at h
  cases h


end Go.Proofs.Ytpilkfodlhhjpaa.PFW
