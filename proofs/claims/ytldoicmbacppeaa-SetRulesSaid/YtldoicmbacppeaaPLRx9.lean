-- written by a program of the session's (wip/myprint.py) out of the translation
import Derived.Test.YtldoicmbacppeaaPLRx0
namespace Go.Proofs.Ytldoicmbacppeaa.PLR
open Go.RowKit Go.Proofs.YtldoicmbacppeaaW.PrintWords Go.Proofs.YtldoicmbacppeaaW.PrintLast Go.Proofs.YtldoicmbacppeaaW.PrintMore
attribute [local go_sem] max2_int min2_int max_two min_two max_three min_three max_four min_four   -- for this text's walks alone
set_option linter.unusedVariables false
set_option linter.unusedSimpArgs false

/-! ### byteset_Count: function 19 -/
def byteset_Count.f (a0_0 a0_1 a0_2 a0_3 : Int) : Option (Int) := if wf4 a0_0 a0_1 a0_2 a0_3 then some ((popc a0_0.toNat + popc a0_1.toNat + popc a0_2.toNat + popc a0_3.toNat : Nat) : Int) else none
set_option maxHeartbeats 8000000 in
set_option maxRecDepth 100000 in
theorem byteset_Count.calls (a0_0 : Int) (a0_1 : Int) (a0_2 : Int) (a0_3 : Int) (r : Int) (w : World) (h : byteset_Count.f a0_0 a0_1 a0_2 a0_3 = some r) :
    Calls Try.prog 19 #[.agg #[.int .u64 a0_0, .int .u64 a0_1, .int .u64 a0_2, .int .u64 a0_3]] w fun e w' => e = .returned (.int .i64 r) ∧ Below w.heap.size w w' := by
  unfold byteset_Count.f at h
  by_cases hw : wf4 a0_0 a0_1 a0_2 a0_3
  · rw [if_pos hw] at h
    obtain ⟨h0, h1, h2, h3⟩ := hw
    obtain ⟨a, rfl, ha⟩ := nat_of h0
    obtain ⟨b, rfl, hb⟩ := nat_of h1
    obtain ⟨c, rfl, hc⟩ := nat_of h2
    obtain ⟨d, rfl, hd⟩ := nat_of h3
    simp only [Int.toNat_natCast] at h
    have Hr := Aside0.mk (Option.some.inj h)
    clear h h0 h1 h2 h3
    have hp := psum_le ha hb hc hd
    have HP := Aside0.mk hp
    have HA := Aside0.mk ha
    have HB := Aside0.mk hb
    have HC := Aside0.mk hc
    have HD := Aside0.mk hd
    clear hp ha hb hc hd
    have i0 : ∀ W : World, (Instr.index 24 (.agg #[.int .u64 (a : Int), .int .u64 (b : Int), .int .u64 (c : Int), .int .u64 (d : Int)]) (.int .i64 0)).run Try.prog W = .ok (.int .u64 (a : Int)) W := fun _ => by kernel_rfl
    have i1 : ∀ W : World, (Instr.index 24 (.agg #[.int .u64 (a : Int), .int .u64 (b : Int), .int .u64 (c : Int), .int .u64 (d : Int)]) (.int .i64 1)).run Try.prog W = .ok (.int .u64 (b : Int)) W := fun _ => by kernel_rfl
    have i2 : ∀ W : World, (Instr.index 24 (.agg #[.int .u64 (a : Int), .int .u64 (b : Int), .int .u64 (c : Int), .int .u64 (d : Int)]) (.int .i64 2)).run Try.prog W = .ok (.int .u64 (c : Int)) W := fun _ => by kernel_rfl
    have i3 : ∀ W : World, (Instr.index 24 (.agg #[.int .u64 (a : Int), .int .u64 (b : Int), .int .u64 (c : Int), .int .u64 (d : Int)]) (.int .i64 3)).run Try.prog W = .ok (.int .u64 (d : Int)) W := fun _ => by kernel_rfl
    go_enter Try.func19, Try.ntmps19
    go_wp2
    go_loop [3, 7] (fun n k => ∃ j : Nat, j ≤ 4 ∧ k = .int .i64 j ∧ n = .int .i64 ((psum a b c d j : Nat) : Int)) (fun _ k => 4 - (intOf k).toNat)
    case atStart => exact ⟨0, by omega, rfl, rfl⟩
    case round =>
      obtain ⟨j, hj, rfl, rfl⟩ := hrel
      have hj' : j = 0 ∨ j = 1 ∨ j = 2 ∨ j = 3 ∨ j = 4 := by omega
      clear hj
      rcases hj' with rfl | rfl | rfl | rfl | rfl
      · go_wp2
        go_loop [3, 5] (fun n v => ∃ x m : Nat, x < 2 ^ 64 ∧ v = .int .u64 x ∧ n = .int .i64 m ∧ Aside0 (m + popc x = psum a b c d (0 + 1))) (fun _ v => (intOf v).toNat)
        case atStart => exact ⟨a, psum a b c d 0, HA.out, rfl, rfl, ⟨by simp [psum]⟩⟩
        case round =>
          obtain ⟨x, m, hx, rfl, rfl, hm⟩ := hrel
          have hm2 : m ≤ 256 := by have := HP.out (0 + 1); have := hm.out; omega
          have HX := Aside0.mk hx
          clear hx
          by_cases hz : x = 0
          · subst hz
            go_wp2
            go_round
            case rel => exact ⟨0 + 1, by omega, by go_num, by have e := hm.out; rw [popc_zero] at e; rw [← e, Nat.add_zero]⟩
            case measure => simp [intOf]
          · have t0 : ((x : Int) != 0) = true := by rw [bne_iff_ne]; omega
            have hx0 : 0 < x := by omega
            have hx1 : (x : Int) < 18446744073709551616 := by have := HX.out; have e : (2 : Nat) ^ 64 = 18446744073709551616 := by decide
                                                              omega
            have t2 : IntKind.u64.wrap ((x : Int) - 1) = (x : Int) - 1 := wrap_u64 _ (by omega) (by omega)
            have t1 : Go.bits .and .u64 (x : Int) ((x : Int) - 1) = ((x &&& (x - 1) : Nat) : Int) := u64_dec HX.out hx0
            clear hx1
            go_wp2
            go_round
            case rel => exact ⟨x &&& (x - 1), m + 1, Nat.lt_of_le_of_lt Nat.and_le_left HX.out, rfl, by go_num, ⟨by have := popc_and x hx0; have := hm.out; omega⟩⟩
            case measure => simp [intOf]; have := Nat.and_le_right (n := x) (m := x - 1); omega
      · go_wp2
        go_loop [3, 5] (fun n v => ∃ x m : Nat, x < 2 ^ 64 ∧ v = .int .u64 x ∧ n = .int .i64 m ∧ Aside0 (m + popc x = psum a b c d (1 + 1))) (fun _ v => (intOf v).toNat)
        case atStart => exact ⟨b, psum a b c d 1, HB.out, rfl, rfl, ⟨by simp [psum]⟩⟩
        case round =>
          obtain ⟨x, m, hx, rfl, rfl, hm⟩ := hrel
          have hm2 : m ≤ 256 := by have := HP.out (1 + 1); have := hm.out; omega
          have HX := Aside0.mk hx
          clear hx
          by_cases hz : x = 0
          · subst hz
            go_wp2
            go_round
            case rel => exact ⟨1 + 1, by omega, by go_num, by have e := hm.out; rw [popc_zero] at e; rw [← e, Nat.add_zero]⟩
            case measure => simp [intOf]
          · have t0 : ((x : Int) != 0) = true := by rw [bne_iff_ne]; omega
            have hx0 : 0 < x := by omega
            have hx1 : (x : Int) < 18446744073709551616 := by have := HX.out; have e : (2 : Nat) ^ 64 = 18446744073709551616 := by decide
                                                              omega
            have t2 : IntKind.u64.wrap ((x : Int) - 1) = (x : Int) - 1 := wrap_u64 _ (by omega) (by omega)
            have t1 : Go.bits .and .u64 (x : Int) ((x : Int) - 1) = ((x &&& (x - 1) : Nat) : Int) := u64_dec HX.out hx0
            clear hx1
            go_wp2
            go_round
            case rel => exact ⟨x &&& (x - 1), m + 1, Nat.lt_of_le_of_lt Nat.and_le_left HX.out, rfl, by go_num, ⟨by have := popc_and x hx0; have := hm.out; omega⟩⟩
            case measure => simp [intOf]; have := Nat.and_le_right (n := x) (m := x - 1); omega
      · go_wp2
        go_loop [3, 5] (fun n v => ∃ x m : Nat, x < 2 ^ 64 ∧ v = .int .u64 x ∧ n = .int .i64 m ∧ Aside0 (m + popc x = psum a b c d (2 + 1))) (fun _ v => (intOf v).toNat)
        case atStart => exact ⟨c, psum a b c d 2, HC.out, rfl, rfl, ⟨by simp [psum]⟩⟩
        case round =>
          obtain ⟨x, m, hx, rfl, rfl, hm⟩ := hrel
          have hm2 : m ≤ 256 := by have := HP.out (2 + 1); have := hm.out; omega
          have HX := Aside0.mk hx
          clear hx
          by_cases hz : x = 0
          · subst hz
            go_wp2
            go_round
            case rel => exact ⟨2 + 1, by omega, by go_num, by have e := hm.out; rw [popc_zero] at e; rw [← e, Nat.add_zero]⟩
            case measure => simp [intOf]
          · have t0 : ((x : Int) != 0) = true := by rw [bne_iff_ne]; omega
            have hx0 : 0 < x := by omega
            have hx1 : (x : Int) < 18446744073709551616 := by have := HX.out; have e : (2 : Nat) ^ 64 = 18446744073709551616 := by decide
                                                              omega
            have t2 : IntKind.u64.wrap ((x : Int) - 1) = (x : Int) - 1 := wrap_u64 _ (by omega) (by omega)
            have t1 : Go.bits .and .u64 (x : Int) ((x : Int) - 1) = ((x &&& (x - 1) : Nat) : Int) := u64_dec HX.out hx0
            clear hx1
            go_wp2
            go_round
            case rel => exact ⟨x &&& (x - 1), m + 1, Nat.lt_of_le_of_lt Nat.and_le_left HX.out, rfl, by go_num, ⟨by have := popc_and x hx0; have := hm.out; omega⟩⟩
            case measure => simp [intOf]; have := Nat.and_le_right (n := x) (m := x - 1); omega
      · go_wp2
        go_loop [3, 5] (fun n v => ∃ x m : Nat, x < 2 ^ 64 ∧ v = .int .u64 x ∧ n = .int .i64 m ∧ Aside0 (m + popc x = psum a b c d (3 + 1))) (fun _ v => (intOf v).toNat)
        case atStart => exact ⟨d, psum a b c d 3, HD.out, rfl, rfl, ⟨by simp [psum]⟩⟩
        case round =>
          obtain ⟨x, m, hx, rfl, rfl, hm⟩ := hrel
          have hm2 : m ≤ 256 := by have := HP.out (3 + 1); have := hm.out; omega
          have HX := Aside0.mk hx
          clear hx
          by_cases hz : x = 0
          · subst hz
            go_wp2
            go_round
            case rel => exact ⟨3 + 1, by omega, by go_num, by have e := hm.out; rw [popc_zero] at e; rw [← e, Nat.add_zero]⟩
            case measure => simp [intOf]
          · have t0 : ((x : Int) != 0) = true := by rw [bne_iff_ne]; omega
            have hx0 : 0 < x := by omega
            have hx1 : (x : Int) < 18446744073709551616 := by have := HX.out; have e : (2 : Nat) ^ 64 = 18446744073709551616 := by decide
                                                              omega
            have t2 : IntKind.u64.wrap ((x : Int) - 1) = (x : Int) - 1 := wrap_u64 _ (by omega) (by omega)
            have t1 : Go.bits .and .u64 (x : Int) ((x : Int) - 1) = ((x &&& (x - 1) : Nat) : Int) := u64_dec HX.out hx0
            clear hx1
            go_wp2
            go_round
            case rel => exact ⟨x &&& (x - 1), m + 1, Nat.lt_of_le_of_lt Nat.and_le_left HX.out, rfl, by go_num, ⟨by have := popc_and x hx0; have := hm.out; omega⟩⟩
            case measure => simp [intOf]; have := Nat.and_le_right (n := x) (m := x - 1); omega
      · go_wp2
        go_ret
        exact ⟨by rw [← Hr.out]; rfl, (Below.refl _ _).alloc (Nat.le_refl _) _⟩
  · rw [if_neg hw] at h
    cases h


end Go.Proofs.Ytldoicmbacppeaa.PLR
