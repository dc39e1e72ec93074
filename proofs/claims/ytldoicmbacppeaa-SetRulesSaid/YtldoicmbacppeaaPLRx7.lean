-- written by a program of the session's (wip/myprint.py) out of the translation
import Derived.Test.YtldoicmbacppeaaPLRx0
namespace Go.Proofs.Ytldoicmbacppeaa.PLR
open Go.RowKit Go.Proofs.YtldoicmbacppeaaW.PrintWords Go.Proofs.YtldoicmbacppeaaW.PrintLast Go.Proofs.YtldoicmbacppeaaW.PrintMore
attribute [local go_sem] max2_int min2_int max_two min_two max_three min_three max_four min_four   -- for this text's walks alone
set_option linter.unusedVariables false
set_option linter.unusedSimpArgs false

/-! ### byteset_And: function 17 -/
def byteset_And.f (a0_0 a0_1 a0_2 a0_3 a1_0 a1_1 a1_2 a1_3 : Int) : Option (Int × Int × Int × Int) := some (Go.bits .and .u64 a0_0 a1_0, Go.bits .and .u64 a0_1 a1_1, Go.bits .and .u64 a0_2 a1_2, Go.bits .and .u64 a0_3 a1_3)
set_option maxHeartbeats 400000 in
theorem byteset_And.op (x y : Int) (w : World) :
    Calls Try.prog 27 #[.int .u64 x, .int .u64 y] w fun e w' => e = .returned (.int .u64 (Go.bits .and .u64 x y)) ∧ w = w' := by
  go_enter Try.func27, Try.ntmps27
  go_wp2
  go_ret
  exact ⟨rfl, rfl⟩
set_option maxHeartbeats 4000000 in
theorem byteset_And.each (a b c d a1 b1 c1 d1 : Int) (w : World) :
    Calls Try.prog 25 #[.agg #[.int .u64 a, .int .u64 b, .int .u64 c, .int .u64 d], .agg #[.int .u64 a1, .int .u64 b1, .int .u64 c1, .int .u64 d1], .func (.func 27) #[] #[]] w fun e w' => e = .returned (.agg #[.int .u64 (Go.bits .and .u64 a a1), .int .u64 (Go.bits .and .u64 b b1), .int .u64 (Go.bits .and .u64 c c1), .int .u64 (Go.bits .and .u64 d d1)]) ∧ Below w.heap.size w w' := by
  have n1 : w.heap.size ≠ w.heap.size + 1 := by omega
  have n2 : w.heap.size ≠ w.heap.size + 1 + 1 := by omega
  have n3 : w.heap.size + 1 ≠ w.heap.size + 1 + 1 := by omega
  go_enter Try.func25, Try.ntmps25
  go_wp2
  go_loopw [8] (fun v wr => ∃ k : Nat, k ≤ 4 ∧ v = .int .i64 k ∧ Aside0 (wr.heap[w.heap.size]? = some (.cells #[.int .u64 (if 0 < k then Go.bits .and .u64 a a1 else a), .int .u64 (if 1 < k then Go.bits .and .u64 b b1 else b), .int .u64 (if 2 < k then Go.bits .and .u64 c c1 else c), .int .u64 (if 3 < k then Go.bits .and .u64 d d1 else d)] 24 (0, 0))) ∧ Aside0 (wr.heap[w.heap.size + 1]? = some (.cells #[.int .u64 a1, .int .u64 b1, .int .u64 c1, .int .u64 d1] 24 (0, 0))) ∧ Aside0 (wr.heap[w.heap.size + 1 + 1]? = some (.cells #[.int .u64 0, .int .u64 0, .int .u64 0, .int .u64 0] 24 (0, 0))) ∧ Aside0 (Below w.heap.size w wr)) (fun v _ => 4 - (intOf v).toNat)
  case atStart => exact ⟨0, by omega, rfl, ⟨blk_alloc (blk_alloc (blk_new _ _) _) _⟩, ⟨blk_alloc (by simpa using blk_new (w.alloc _) _) _⟩, ⟨by simpa using blk_new ((w.alloc _).alloc _) _⟩, ⟨((Below.refl _ _).alloc (Nat.le_refl _) _ |>.alloc (by simp) _).alloc (by simp; omega) _⟩⟩
  case round =>
    obtain ⟨k, hk, rfl, h1, h2, h3, hb⟩ := hrel
    have hk' : k = 0 ∨ k = 1 ∨ k = 2 ∨ k = 3 ∨ k = 4 := by omega
    clear hk
    rcases hk' with rfl | rfl | rfl | rfl | rfl
    · have c1 := (blk_cell h1.out 0).trans rfl
      have f1 := blk_frozen h1.out 0
      have c2 := (blk_cell h2.out 0).trans rfl
      go_wp2
      go_region_with (first | (go_at_call 27; refine (byteset_And.op _ _ _).mono ?_; rintro e w' ⟨rfl, rfl⟩))
      all_goals
        go_wp2
        go_roundw
        case rel => exact ⟨1, by omega, rfl, ⟨blk_put (blk_drew h1.out) 0 _ rfl⟩, ⟨blk_far (blk_drew h2.out) (by simp) _⟩, ⟨blk_far (blk_drew h3.out) (by simp; omega) _⟩, ⟨below_set (pw_below_drewN hb.out 1) (Nat.le_refl _)⟩⟩
        case measure => simp [intOf]
    · have c1 := (blk_cell h1.out 1).trans rfl
      have f1 := blk_frozen h1.out 1
      have c2 := (blk_cell h2.out 1).trans rfl
      go_wp2
      go_region_with (first | (go_at_call 27; refine (byteset_And.op _ _ _).mono ?_; rintro e w' ⟨rfl, rfl⟩))
      all_goals
        go_wp2
        go_roundw
        case rel => exact ⟨2, by omega, rfl, ⟨blk_put (blk_drew h1.out) 1 _ rfl⟩, ⟨blk_far (blk_drew h2.out) (by simp) _⟩, ⟨blk_far (blk_drew h3.out) (by simp; omega) _⟩, ⟨below_set (pw_below_drewN hb.out 1) (Nat.le_refl _)⟩⟩
        case measure => simp [intOf]
    · have c1 := (blk_cell h1.out 2).trans rfl
      have f1 := blk_frozen h1.out 2
      have c2 := (blk_cell h2.out 2).trans rfl
      go_wp2
      go_region_with (first | (go_at_call 27; refine (byteset_And.op _ _ _).mono ?_; rintro e w' ⟨rfl, rfl⟩))
      all_goals
        go_wp2
        go_roundw
        case rel => exact ⟨3, by omega, rfl, ⟨blk_put (blk_drew h1.out) 2 _ rfl⟩, ⟨blk_far (blk_drew h2.out) (by simp) _⟩, ⟨blk_far (blk_drew h3.out) (by simp; omega) _⟩, ⟨below_set (pw_below_drewN hb.out 1) (Nat.le_refl _)⟩⟩
        case measure => simp [intOf]
    · have c1 := (blk_cell h1.out 3).trans rfl
      have f1 := blk_frozen h1.out 3
      have c2 := (blk_cell h2.out 3).trans rfl
      go_wp2
      go_region_with (first | (go_at_call 27; refine (byteset_And.op _ _ _).mono ?_; rintro e w' ⟨rfl, rfl⟩))
      all_goals
        go_wp2
        go_roundw
        case rel => exact ⟨4, by omega, rfl, ⟨blk_put (blk_drew h1.out) 3 _ rfl⟩, ⟨blk_far (blk_drew h2.out) (by simp) _⟩, ⟨blk_far (blk_drew h3.out) (by simp; omega) _⟩, ⟨below_set (pw_below_drewN hb.out 1) (Nat.le_refl _)⟩⟩
        case measure => simp [intOf]
    · have e0 : wr.cell? ⟨w.heap.size, 0, none⟩ = some (.int .u64 (Go.bits .and .u64 a a1)) := (blk_cell h1.out 0).trans rfl
      have e1 : wr.cell? ⟨w.heap.size, 1, none⟩ = some (.int .u64 (Go.bits .and .u64 b b1)) := (blk_cell h1.out 1).trans rfl
      have e2 : wr.cell? ⟨w.heap.size, 2, none⟩ = some (.int .u64 (Go.bits .and .u64 c c1)) := (blk_cell h1.out 2).trans rfl
      have e3 : wr.cell? ⟨w.heap.size, 3, none⟩ = some (.int .u64 (Go.bits .and .u64 d d1)) := (blk_cell h1.out 3).trans rfl
      have g0 : wr.cell? ⟨w.heap.size + 1 + 1, 0, none⟩ = some (.int .u64 0) := (blk_cell h3.out 0).trans rfl
      have g1 : wr.cell? ⟨w.heap.size + 1 + 1, 1, none⟩ = some (.int .u64 0) := (blk_cell h3.out 1).trans rfl
      have g2 : wr.cell? ⟨w.heap.size + 1 + 1, 2, none⟩ = some (.int .u64 0) := (blk_cell h3.out 2).trans rfl
      have g3 : wr.cell? ⟨w.heap.size + 1 + 1, 3, none⟩ = some (.int .u64 0) := (blk_cell h3.out 3).trans rfl
      have f0 := blk_frozen h3.out 0
      have f1 := blk_frozen h3.out 1
      have f2 := blk_frozen h3.out 2
      have f3 := blk_frozen h3.out 3
      clear h1 h2
      go_wp2
      exact bodyPost_ret (v := .agg #[.int .u64 (Go.bits .and .u64 a a1), .int .u64 (Go.bits .and .u64 b b1), .int .u64 (Go.bits .and .u64 c c1), .int .u64 (Go.bits .and .u64 d d1)]) (by simp [results, Try.results25, go_sem, e0, e1, e2, e3, g0, g1, g2, g3]) rfl ⟨rfl, by repeat (first | exact hb.out | refine below_set ?_ (by omega))⟩
set_option maxHeartbeats 8000000 in
set_option maxRecDepth 100000 in
theorem byteset_And.calls (a0_0 : Int) (a0_1 : Int) (a0_2 : Int) (a0_3 : Int) (a1_0 : Int) (a1_1 : Int) (a1_2 : Int) (a1_3 : Int) (r1 : Int) (r2 : Int) (r3 : Int) (r4 : Int) (w : World) (h : byteset_And.f a0_0 a0_1 a0_2 a0_3 a1_0 a1_1 a1_2 a1_3 = some (r1, r2, r3, r4)) :
    Calls Try.prog 17 #[.agg #[.int .u64 a0_0, .int .u64 a0_1, .int .u64 a0_2, .int .u64 a0_3], .agg #[.int .u64 a1_0, .int .u64 a1_1, .int .u64 a1_2, .int .u64 a1_3]] w fun e w' => e = .returned (.agg #[.int .u64 r1, .int .u64 r2, .int .u64 r3, .int .u64 r4]) ∧ Below w.heap.size w w' := by
  unfold byteset_And.f at h
  simp only [Option.some.injEq, Prod.mk.injEq] at h
  obtain ⟨rfl, rfl, rfl, rfl⟩ := h
  go_enter Try.func17, Try.ntmps17
  go_wp2_with (first | (go_at_call 25; refine (byteset_And.each _ _ _ _ _ _ _ _ _).mono ?_; rintro e w1 ⟨rfl, hb⟩; have h3 : w1.heap[w.heap.size + 1 + 1]? = some (.cells #[.int .u64 0, .int .u64 0, .int .u64 0, .int .u64 0] 24 (0, 0)) := (hb.block _ (by simp)).trans (by simpa using blk_new ((w.alloc _).alloc _) _); have HB : Aside0 (Below w.heap.size w w1) := ⟨below_step (((Below.refl _ _).alloc (Nat.le_refl _) _ |>.alloc (by simp) _).alloc (by simp; omega) _) hb⟩; clear hb; have g0 : w1.cell? ⟨w.heap.size + 1 + 1, 0, none⟩ = some (.int .u64 0) := (blk_cell h3 0).trans rfl; have g1 : w1.cell? ⟨w.heap.size + 1 + 1, 1, none⟩ = some (.int .u64 0) := (blk_cell h3 1).trans rfl; have g2 : w1.cell? ⟨w.heap.size + 1 + 1, 2, none⟩ = some (.int .u64 0) := (blk_cell h3 2).trans rfl; have g3 : w1.cell? ⟨w.heap.size + 1 + 1, 3, none⟩ = some (.int .u64 0) := (blk_cell h3 3).trans rfl; have f0 := blk_frozen h3 0; have f1 := blk_frozen h3 1; have f2 := blk_frozen h3 2; have f3 := blk_frozen h3 3; clear h3))
  exact bodyPost_ret (v := .agg #[.int .u64 (Go.bits .and .u64 a0_0 a1_0), .int .u64 (Go.bits .and .u64 a0_1 a1_1), .int .u64 (Go.bits .and .u64 a0_2 a1_2), .int .u64 (Go.bits .and .u64 a0_3 a1_3)]) (by simp [results, Try.results17, go_sem, g0, g1, g2, g3]) rfl ⟨rfl, by repeat (first | exact HB.out | refine below_set ?_ (by omega))⟩


end Go.Proofs.Ytldoicmbacppeaa.PLR
