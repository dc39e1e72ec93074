-- written by a program of the session's (wip/myprint.py) out of the translation
import Derived.Test.YtpilkfodlhhjpaaPFMx0
import Derived.Test.YtpilkfodlhhjpaaPFMx3
namespace Go.Proofs.Ytpilkfodlhhjpaa.PFM
open Go.RowKit Go.Proofs.YtpilkfodlhhjpaaW.PrintWords Go.Proofs.YtpilkfodlhhjpaaW.PrintLast Go.Proofs.YtpilkfodlhhjpaaW.PrintMore
attribute [local go_sem] max2_int min2_int max_two min_two max_three min_three max_four min_four   -- for this text's walks alone
set_option linter.unusedVariables false
set_option linter.unusedSimpArgs false

/-! ### first_First: function 12 -/
theorem fe_info63 : (Try.prog.info? 63).map (fun i => (i.zero, i.size, i.bytes)) = some (some (.agg #[(.int .u64 0), (.int .u64 0), (.int .u64 0), (.int .u64 0)]), 4, 32) := by kernel_rfl
def byteset_Or.f (a0_0 a0_1 a0_2 a0_3 a1_0 a1_1 a1_2 a1_3 : Int) : Option (Int × Int × Int × Int) := some (Go.bits .or .u64 a0_0 a1_0, Go.bits .or .u64 a0_1 a1_1, Go.bits .or .u64 a0_2 a1_2, Go.bits .or .u64 a0_3 a1_3)
set_option maxHeartbeats 400000 in
theorem byteset_Or.op (x y : Int) (w : World) :
  Calls Try.prog 52 #[.int .u64 x, .int .u64 y] w fun e w' => e = .returned (.int .u64 (Go.bits .or .u64 x y)) ∧ w = w' := by
 go_enter Try.func52, Try.ntmps52
 go_wp2
 go_ret
 exact ⟨rfl, rfl⟩
set_option maxHeartbeats 4000000 in
theorem byteset_Or.each (a b c d a1 b1 c1 d1 : Int) (w : World) :
  Calls Try.prog 51 #[.agg #[.int .u64 a, .int .u64 b, .int .u64 c, .int .u64 d], .agg #[.int .u64 a1, .int .u64 b1, .int .u64 c1, .int .u64 d1], .func (.func 52) #[] #[]] w fun e w' => e = .returned (.agg #[.int .u64 (Go.bits .or .u64 a a1), .int .u64 (Go.bits .or .u64 b b1), .int .u64 (Go.bits .or .u64 c c1), .int .u64 (Go.bits .or .u64 d d1)]) ∧ Below w.heap.size w w' := by
 have n1 : w.heap.size ≠ w.heap.size + 1 := by omega
 have n2 : w.heap.size ≠ w.heap.size + 1 + 1 := by omega
 have n3 : w.heap.size + 1 ≠ w.heap.size + 1 + 1 := by omega
 go_enter Try.func51, Try.ntmps51
 go_wp2
 go_loopw [8] (fun v wr => ∃ k : Nat, k ≤ 4 ∧ v = .int .i64 k ∧ Aside0 (wr.heap[w.heap.size]? = some (.cells #[.int .u64 (if 0 < k then Go.bits .or .u64 a a1 else a), .int .u64 (if 1 < k then Go.bits .or .u64 b b1 else b), .int .u64 (if 2 < k then Go.bits .or .u64 c c1 else c), .int .u64 (if 3 < k then Go.bits .or .u64 d d1 else d)] 63 (0, 0))) ∧ Aside0 (wr.heap[w.heap.size + 1]? = some (.cells #[.int .u64 a1, .int .u64 b1, .int .u64 c1, .int .u64 d1] 63 (0, 0))) ∧ Aside0 (wr.heap[w.heap.size + 1 + 1]? = some (.cells #[.int .u64 0, .int .u64 0, .int .u64 0, .int .u64 0] 63 (0, 0))) ∧ Aside0 (Below w.heap.size w wr)) (fun v _ => 4 - (intOf v).toNat)
 case atStart => exact ⟨0, by omega, rfl, ⟨blk_alloc (blk_alloc (blk_new _ _) _) _⟩, ⟨blk_alloc (by simpa using blk_new (w.alloc _) _) _⟩, ⟨by simpa using blk_new ((w.alloc _).alloc _) _⟩, ⟨((Below.refl _ _).alloc (Nat.le_refl _) _ |>.alloc (by simp) _).alloc (by simp; omega) _⟩⟩
 case round =>
  obtain ⟨k, hk, rfl, h1, h2, h3, hb⟩ := hrel
  have hk' : k = 0 ∨ k = 1 ∨ k = 2 ∨ k = 3 ∨ k = 4 := by omega
  clear hk
  rcases hk' with rfl | rfl | rfl | rfl | rfl
  ·have c1 := (blk_cell h1.out 0).trans rfl
   have f1 := blk_frozen h1.out 0
   have c2 := (blk_cell h2.out 0).trans rfl
   go_wp2
   go_region_with (first | (go_at_call 52; refine (byteset_Or.op _ _ _).mono ?_; rintro e w' ⟨rfl, rfl⟩))
   all_goals
    go_wp2
    go_roundw
    case rel => exact ⟨1, by omega, rfl, ⟨blk_put (blk_drew h1.out) 0 _ rfl⟩, ⟨blk_far (blk_drew h2.out) (by simp) _⟩, ⟨blk_far (blk_drew h3.out) (by simp; omega) _⟩, ⟨below_set (pw_below_drewN hb.out 1) (Nat.le_refl _)⟩⟩
    case measure => simp [intOf]
  ·have c1 := (blk_cell h1.out 1).trans rfl
   have f1 := blk_frozen h1.out 1
   have c2 := (blk_cell h2.out 1).trans rfl
   go_wp2
   go_region_with (first | (go_at_call 52; refine (byteset_Or.op _ _ _).mono ?_; rintro e w' ⟨rfl, rfl⟩))
   all_goals
    go_wp2
    go_roundw
    case rel => exact ⟨2, by omega, rfl, ⟨blk_put (blk_drew h1.out) 1 _ rfl⟩, ⟨blk_far (blk_drew h2.out) (by simp) _⟩, ⟨blk_far (blk_drew h3.out) (by simp; omega) _⟩, ⟨below_set (pw_below_drewN hb.out 1) (Nat.le_refl _)⟩⟩
    case measure => simp [intOf]
  ·have c1 := (blk_cell h1.out 2).trans rfl
   have f1 := blk_frozen h1.out 2
   have c2 := (blk_cell h2.out 2).trans rfl
   go_wp2
   go_region_with (first | (go_at_call 52; refine (byteset_Or.op _ _ _).mono ?_; rintro e w' ⟨rfl, rfl⟩))
   all_goals
    go_wp2
    go_roundw
    case rel => exact ⟨3, by omega, rfl, ⟨blk_put (blk_drew h1.out) 2 _ rfl⟩, ⟨blk_far (blk_drew h2.out) (by simp) _⟩, ⟨blk_far (blk_drew h3.out) (by simp; omega) _⟩, ⟨below_set (pw_below_drewN hb.out 1) (Nat.le_refl _)⟩⟩
    case measure => simp [intOf]
  ·have c1 := (blk_cell h1.out 3).trans rfl
   have f1 := blk_frozen h1.out 3
   have c2 := (blk_cell h2.out 3).trans rfl
   go_wp2
   go_region_with (first | (go_at_call 52; refine (byteset_Or.op _ _ _).mono ?_; rintro e w' ⟨rfl, rfl⟩))
   all_goals
    go_wp2
    go_roundw
    case rel => exact ⟨4, by omega, rfl, ⟨blk_put (blk_drew h1.out) 3 _ rfl⟩, ⟨blk_far (blk_drew h2.out) (by simp) _⟩, ⟨blk_far (blk_drew h3.out) (by simp; omega) _⟩, ⟨below_set (pw_below_drewN hb.out 1) (Nat.le_refl _)⟩⟩
    case measure => simp [intOf]
  ·have e0 : wr.cell? ⟨w.heap.size, 0, none⟩ = some (.int .u64 (Go.bits .or .u64 a a1)) := (blk_cell h1.out 0).trans rfl
   have e1 : wr.cell? ⟨w.heap.size, 1, none⟩ = some (.int .u64 (Go.bits .or .u64 b b1)) := (blk_cell h1.out 1).trans rfl
   have e2 : wr.cell? ⟨w.heap.size, 2, none⟩ = some (.int .u64 (Go.bits .or .u64 c c1)) := (blk_cell h1.out 2).trans rfl
   have e3 : wr.cell? ⟨w.heap.size, 3, none⟩ = some (.int .u64 (Go.bits .or .u64 d d1)) := (blk_cell h1.out 3).trans rfl
   have g0 : wr.cell? ⟨w.heap.size + 1 + 1, 0, none⟩ = some (.int .u64 0) := (blk_cell h3.out 0).trans rfl
   have g1 : wr.cell? ⟨w.heap.size + 1 + 1, 1, none⟩ = some (.int .u64 0) := (blk_cell h3.out 1).trans rfl
   have g2 : wr.cell? ⟨w.heap.size + 1 + 1, 2, none⟩ = some (.int .u64 0) := (blk_cell h3.out 2).trans rfl
   have g3 : wr.cell? ⟨w.heap.size + 1 + 1, 3, none⟩ = some (.int .u64 0) := (blk_cell h3.out 3).trans rfl
   have f0 := blk_frozen h3.out 0
   have f1 := blk_frozen h3.out 1
   have f2 := blk_frozen h3.out 2
   have f3 := blk_frozen h3.out 3
   clear h1 h2
   go_wp2
   exact bodyPost_ret (v := .agg #[.int .u64 (Go.bits .or .u64 a a1), .int .u64 (Go.bits .or .u64 b b1), .int .u64 (Go.bits .or .u64 c c1), .int .u64 (Go.bits .or .u64 d d1)]) (by simp [results, Try.results51, go_sem, e0, e1, e2, e3, g0, g1, g2, g3]) rfl ⟨rfl, by repeat (first | exact hb.out | refine below_set ?_ (by omega))⟩
set_option maxHeartbeats 4000000 in
set_option maxRecDepth 100000 in
theorem byteset_Or.calls (a0_0 : Int) (a0_1 : Int) (a0_2 : Int) (a0_3 : Int) (a1_0 : Int) (a1_1 : Int) (a1_2 : Int) (a1_3 : Int) (r1 : Int) (r2 : Int) (r3 : Int) (r4 : Int) (w : World) (h : byteset_Or.f a0_0 a0_1 a0_2 a0_3 a1_0 a1_1 a1_2 a1_3 = some (r1, r2, r3, r4)) :
  Calls Try.prog 35 #[.agg #[.int .u64 a0_0, .int .u64 a0_1, .int .u64 a0_2, .int .u64 a0_3], .agg #[.int .u64 a1_0, .int .u64 a1_1, .int .u64 a1_2, .int .u64 a1_3]] w fun e w' => e = .returned (.agg #[.int .u64 r1, .int .u64 r2, .int .u64 r3, .int .u64 r4]) ∧ Below w.heap.size w w' := by
 unfold byteset_Or.f at h
 simp only [Option.some.injEq, Prod.mk.injEq] at h
 obtain ⟨rfl, rfl, rfl, rfl⟩ := h
 go_enter Try.func35, Try.ntmps35
 go_wp2_with (first | (go_at_call 51; refine (byteset_Or.each _ _ _ _ _ _ _ _ _).mono ?_; rintro e w1 ⟨rfl, hb⟩; have h3 : w1.heap[w.heap.size + 1 + 1]? = some (.cells #[.int .u64 0, .int .u64 0, .int .u64 0, .int .u64 0] 63 (0, 0)) := (hb.block _ (by simp)).trans (by simpa using blk_new ((w.alloc _).alloc _) _); have HB : Aside0 (Below w.heap.size w w1) := ⟨below_step (((Below.refl _ _).alloc (Nat.le_refl _) _ |>.alloc (by simp) _).alloc (by simp; omega) _) hb⟩; clear hb; have g0 : w1.cell? ⟨w.heap.size + 1 + 1, 0, none⟩ = some (.int .u64 0) := (blk_cell h3 0).trans rfl; have g1 : w1.cell? ⟨w.heap.size + 1 + 1, 1, none⟩ = some (.int .u64 0) := (blk_cell h3 1).trans rfl; have g2 : w1.cell? ⟨w.heap.size + 1 + 1, 2, none⟩ = some (.int .u64 0) := (blk_cell h3 2).trans rfl; have g3 : w1.cell? ⟨w.heap.size + 1 + 1, 3, none⟩ = some (.int .u64 0) := (blk_cell h3 3).trans rfl; have f0 := blk_frozen h3 0; have f1 := blk_frozen h3 1; have f2 := blk_frozen h3 2; have f3 := blk_frozen h3 3; clear h3))
 exact bodyPost_ret (v := .agg #[.int .u64 (Go.bits .or .u64 a0_0 a1_0), .int .u64 (Go.bits .or .u64 a0_1 a1_1), .int .u64 (Go.bits .or .u64 a0_2 a1_2), .int .u64 (Go.bits .or .u64 a0_3 a1_3)]) (by simp [results, Try.results35, go_sem, g0, g1, g2, g3]) rfl ⟨rfl, by repeat (first | exact HB.out | refine below_set ?_ (by omega))⟩

def byteset_Range.f (a0 a1 : Int) : Option (Int × Int × Int × Int × Int) := if 0 ≤ a0 ∧ a1 ≤ 255 ∧ a0 ≤ a1 then some (setW (rangeP a0 a1) 0, setW (rangeP a0 a1) 1, setW (rangeP a0 a1) 2, setW (rangeP a0 a1) 3, 0) else some (0, 0, 0, 0, 100)
set_option maxHeartbeats 4000000 in
set_option maxRecDepth 100000 in
theorem byteset_Range.calls (a0 : Int) (a1 : Int) (r1 : Int) (r2 : Int) (r3 : Int) (r4 : Int) (r5 : Int) (w : World) (h : byteset_Range.f a0 a1 = some (r1, r2, r3, r4, r5)) :
  Calls Try.prog 53 #[.int .i64 a0, .int .i64 a1] w fun e w' => e = .returned (.tuple #[.agg #[.int .u64 r1, .int .u64 r2, .int .u64 r3, .int .u64 r4], .int .i64 r5]) ∧ Below w.heap.size w w' := by
 unfold byteset_Range.f at h
 by_cases hd : 0 ≤ a0 ∧ a1 ≤ 255 ∧ a0 ≤ a1
 ·rw [if_pos hd] at h
  simp only [Option.some.injEq, Prod.mk.injEq] at h
  obtain ⟨rfl, rfl, rfl, rfl, rfl⟩ := h
  obtain ⟨h0, h1, h2⟩ := hd
  go_enter Try.func53, Try.ntmps53
  go_wp2
  go_loopw [7] (fun v wr => ∃ c : Int, a0 ≤ c ∧ c ≤ a1 + 1 ∧ v = .int .i64 c ∧ Aside0 (wr.heap[w.heap.size]? = some (.cells #[.int .u64 0, .int .u64 0, .int .u64 0, .int .u64 0] 63 (0, 0))) ∧ Aside0 (wr.heap[w.heap.size + 1]? = some (.cells #[.int .u64 (setW (rangeP a0 (c - 1)) 0), .int .u64 (setW (rangeP a0 (c - 1)) 1), .int .u64 (setW (rangeP a0 (c - 1)) 2), .int .u64 (setW (rangeP a0 (c - 1)) 3)] 63 (0, 0))) ∧ Aside0 (Below w.heap.size w wr)) (fun v _ => (a1 + 1 - intOf v).toNat)
  case atStart =>
   refine ⟨a0, by omega, by omega, rfl, ⟨blk_alloc (blk_new _ _) _⟩, ⟨?_⟩, ⟨((Below.refl _ _).alloc (Nat.le_refl _) _).alloc (by simp) _⟩⟩
   rw [setW_empty (by omega), setW_empty (by omega), setW_empty (by omega), setW_empty (by omega)]
   simpa using blk_new (w.alloc _) _
  case round =>
   obtain ⟨c, hc1, hc2, rfl, h3, h4, hb⟩ := hrel
   by_cases hlt : c ≤ a1
   ·have hc0 : 0 ≤ c := by omega
    have hc3 : c ≤ 255 := by omega
    have hq : c / 64 = 0 ∨ c / 64 = 1 ∨ c / 64 = 2 ∨ c / 64 = 3 := by omega
    rcases hq with hq | hq | hq | hq
    ·have c1 : wr.cell? ⟨w.heap.size + 1, 0, none⟩ = some (.int .u64 (setW (rangeP a0 (c - 1)) 0)) := (blk_cell h4.out 0).trans rfl
     have f1 := blk_frozen h4.out 0
     go_wp2
     go_region
     all_goals
      go_wp2
      go_roundw
      case rel =>
       refine ⟨c + 1, by omega, by omega, rfl, ⟨blk_drew (blk_far h3.out (by simp) _)⟩, ⟨?_⟩, ⟨pw_below_drewN (below_set hb.out (by omega)) 1⟩⟩
       rw [show c + 1 - 1 = c from by omega, ← setW_step (i := 0) hc0 hc1 hq, ← setW_same (lo := a0) (i := 1) hc0 (by omega), ← setW_same (lo := a0) (i := 2) hc0 (by omega), ← setW_same (lo := a0) (i := 3) hc0 (by omega)]
       exact blk_drew (blk_put h4.out 0 _ rfl)
      case measure => simp [intOf]; omega
    ·have c1 : wr.cell? ⟨w.heap.size + 1, 1, none⟩ = some (.int .u64 (setW (rangeP a0 (c - 1)) 1)) := (blk_cell h4.out 1).trans rfl
     have f1 := blk_frozen h4.out 1
     go_wp2
     go_region
     all_goals
      go_wp2
      go_roundw
      case rel =>
       refine ⟨c + 1, by omega, by omega, rfl, ⟨blk_drew (blk_far h3.out (by simp) _)⟩, ⟨?_⟩, ⟨pw_below_drewN (below_set hb.out (by omega)) 1⟩⟩
       rw [show c + 1 - 1 = c from by omega, ← setW_step (i := 1) hc0 hc1 hq, ← setW_same (lo := a0) (i := 0) hc0 (by omega), ← setW_same (lo := a0) (i := 2) hc0 (by omega), ← setW_same (lo := a0) (i := 3) hc0 (by omega)]
       exact blk_drew (blk_put h4.out 1 _ rfl)
      case measure => simp [intOf]; omega
    ·have c1 : wr.cell? ⟨w.heap.size + 1, 2, none⟩ = some (.int .u64 (setW (rangeP a0 (c - 1)) 2)) := (blk_cell h4.out 2).trans rfl
     have f1 := blk_frozen h4.out 2
     go_wp2
     go_region
     all_goals
      go_wp2
      go_roundw
      case rel =>
       refine ⟨c + 1, by omega, by omega, rfl, ⟨blk_drew (blk_far h3.out (by simp) _)⟩, ⟨?_⟩, ⟨pw_below_drewN (below_set hb.out (by omega)) 1⟩⟩
       rw [show c + 1 - 1 = c from by omega, ← setW_step (i := 2) hc0 hc1 hq, ← setW_same (lo := a0) (i := 0) hc0 (by omega), ← setW_same (lo := a0) (i := 1) hc0 (by omega), ← setW_same (lo := a0) (i := 3) hc0 (by omega)]
       exact blk_drew (blk_put h4.out 2 _ rfl)
      case measure => simp [intOf]; omega
    ·have c1 : wr.cell? ⟨w.heap.size + 1, 3, none⟩ = some (.int .u64 (setW (rangeP a0 (c - 1)) 3)) := (blk_cell h4.out 3).trans rfl
     have f1 := blk_frozen h4.out 3
     go_wp2
     go_region
     all_goals
      go_wp2
      go_roundw
      case rel =>
       refine ⟨c + 1, by omega, by omega, rfl, ⟨blk_drew (blk_far h3.out (by simp) _)⟩, ⟨?_⟩, ⟨pw_below_drewN (below_set hb.out (by omega)) 1⟩⟩
       rw [show c + 1 - 1 = c from by omega, ← setW_step (i := 3) hc0 hc1 hq, ← setW_same (lo := a0) (i := 0) hc0 (by omega), ← setW_same (lo := a0) (i := 1) hc0 (by omega), ← setW_same (lo := a0) (i := 2) hc0 (by omega)]
       exact blk_drew (blk_put h4.out 3 _ rfl)
      case measure => simp [intOf]; omega
   ·have hc : c = a1 + 1 := by omega
    subst hc
    rw [show a1 + 1 - 1 = a1 from by omega] at h4
    have e0 : wr.cell? ⟨w.heap.size + 1, 0, none⟩ = some (.int .u64 (setW (rangeP a0 a1) 0)) := (blk_cell h4.out 0).trans rfl
    have e1 : wr.cell? ⟨w.heap.size + 1, 1, none⟩ = some (.int .u64 (setW (rangeP a0 a1) 1)) := (blk_cell h4.out 1).trans rfl
    have e2 : wr.cell? ⟨w.heap.size + 1, 2, none⟩ = some (.int .u64 (setW (rangeP a0 a1) 2)) := (blk_cell h4.out 2).trans rfl
    have e3 : wr.cell? ⟨w.heap.size + 1, 3, none⟩ = some (.int .u64 (setW (rangeP a0 a1) 3)) := (blk_cell h4.out 3).trans rfl
    have g0 : wr.cell? ⟨w.heap.size, 0, none⟩ = some (.int .u64 0) := (blk_cell h3.out 0).trans rfl
    have g1 : wr.cell? ⟨w.heap.size, 1, none⟩ = some (.int .u64 0) := (blk_cell h3.out 1).trans rfl
    have g2 : wr.cell? ⟨w.heap.size, 2, none⟩ = some (.int .u64 0) := (blk_cell h3.out 2).trans rfl
    have g3 : wr.cell? ⟨w.heap.size, 3, none⟩ = some (.int .u64 0) := (blk_cell h3.out 3).trans rfl
    have f0 := blk_frozen h3.out 0
    have f1 := blk_frozen h3.out 1
    have f2 := blk_frozen h3.out 2
    have f3 := blk_frozen h3.out 3
    clear h3 h4
    go_wp2
    exact bodyPost_ret (v := .tuple #[.agg #[.int .u64 (setW (rangeP a0 a1) 0), .int .u64 (setW (rangeP a0 a1) 1), .int .u64 (setW (rangeP a0 a1) 2), .int .u64 (setW (rangeP a0 a1) 3)], .int .i64 0]) (by simp [results, Try.results53, go_sem, g0, g1, g2, g3]) rfl ⟨rfl, by repeat (first | exact hb.out | refine below_set ?_ (by omega))⟩
 ·rw [if_neg hd] at h
  simp only [Option.some.injEq, Prod.mk.injEq] at h
  obtain ⟨rfl, rfl, rfl, rfl, rfl⟩ := h
  by_cases h0 : a0 < 0
  ·go_enter Try.func53, Try.ntmps53
   go_wp2
   exact bodyPost_ret (v := .tuple #[.agg #[.int .u64 0, .int .u64 0, .int .u64 0, .int .u64 0], .int .i64 100]) (by simp [results, Try.results53, go_sem]) rfl ⟨rfl, by repeat (first | exact Below.refl _ _ | apply below_alloc | refine below_set ?_ (by omega))⟩
  by_cases h1 : 255 < a1
  ·go_enter Try.func53, Try.ntmps53
   go_wp2
   exact bodyPost_ret (v := .tuple #[.agg #[.int .u64 0, .int .u64 0, .int .u64 0, .int .u64 0], .int .i64 100]) (by simp [results, Try.results53, go_sem]) rfl ⟨rfl, by repeat (first | exact Below.refl _ _ | apply below_alloc | refine below_set ?_ (by omega))⟩
  have h2 : a1 < a0 := by omega
  go_enter Try.func53, Try.ntmps53
  go_wp2
  exact bodyPost_ret (v := .tuple #[.agg #[.int .u64 0, .int .u64 0, .int .u64 0, .int .u64 0], .int .i64 100]) (by simp [results, Try.results53, go_sem]) rfl ⟨rfl, by repeat (first | exact Below.refl _ _ | apply below_alloc | refine below_set ?_ (by omega))⟩

def orS (a b : S63) : S63 := ⟨Go.bits .or .u64 a.f0 b.f0, Go.bits .or .u64 a.f1 b.f1, Go.bits .or .u64 a.f2 b.f2, Go.bits .or .u64 a.f3 b.f3⟩
def rangeS (lo hi : Int) : S63 := ⟨setW (rangeP lo hi) 0, setW (rangeP lo hi) 1, setW (rangeP lo hi) 2, setW (rangeP lo hi) 3⟩
def begA (e : List Bool) (fs : List S63) : S63 → List S68 → S63
 | out, [] => out
 | out, s :: q => if s.f0 < 0 then orS out (rangeS s.f1 s.f2) else if e.getD s.f0.toNat false = true then begA e fs (orS out (fs.getD s.f0.toNat z63)) q else orS out (fs.getD s.f0.toNat z63)
def encS (x : S63) : List Value := [.int .u64 x.f0, .int .u64 x.f1, .int .u64 x.f2, .int .u64 x.f3]
theorem encS_len (x : S63) : (encS x).length = 4 := rfl
theorem fe_or (a b : S63) (w : World) : Calls Try.prog 35 #[.agg #[.int .u64 a.f0, .int .u64 a.f1, .int .u64 a.f2, .int .u64 a.f3], .agg #[.int .u64 b.f0, .int .u64 b.f1, .int .u64 b.f2, .int .u64 b.f3]] w fun e w' => e = .returned (.agg #[.int .u64 (orS a b).f0, .int .u64 (orS a b).f1, .int .u64 (orS a b).f2, .int .u64 (orS a b).f3]) ∧ Below w.heap.size w w' :=
 byteset_Or.calls _ _ _ _ _ _ _ _ _ _ _ _ w rfl
theorem fe_range (lo hi : Int) (h0 : 0 ≤ lo) (h1 : hi ≤ 255) (h2 : lo ≤ hi) (w : World) : Calls Try.prog 53 #[.int .i64 lo, .int .i64 hi] w fun e w' => e = .returned (.tuple #[.agg #[.int .u64 (rangeS lo hi).f0, .int .u64 (rangeS lo hi).f1, .int .u64 (rangeS lo hi).f2, .int .u64 (rangeS lo hi).f3], .int .i64 0]) ∧ Below w.heap.size w w' :=
 byteset_Range.calls _ _ _ _ _ _ _ w (by unfold byteset_Range.f; rw [if_pos ⟨h0, h1, h2⟩]; rfl)
theorem fe_rds (l : List S63) (i : Int) : rd_T63 l i = l.getD i.toNat z63 := rfl
def SymF (n : Nat) (s : S68) : Prop := (s.f0 = -1 ∧ 0 ≤ s.f1 ∧ s.f1 ≤ s.f2 ∧ s.f2 ≤ 255) ∨ (0 ≤ s.f0 ∧ s.f0 < n)
theorem symF_of {n : Nat} {s : S68} (h : symB n s = true) : SymF n s := by
 unfold symB at h
 by_cases e : s.f0 = -1
 ·rw [if_pos e] at h
  have := of_decide_eq_true h
  exact .inl ⟨e, this.1, this.2.1, this.2.2⟩
 ·rw [if_neg e] at h
  have := of_decide_eq_true h
  exact .inr ⟨this.1, this.2.1⟩
def fe_begins.T8 : Bool × List (List Nat × List Nat) := (true, [([], []), ([], []), ([], []), ([2], [2]), ([1, 3], [1, 3]), ([4], [4]), ([0, 5], [0, 5]), ([6, 6, 0, 1, 2, 3, 4, 5, 6], [6])])
def fe_begins.B8 : List Nat := [0, 0, 0, 4, 14, 30, 63, 127]
theorem fe_begins.tab8 : rtab .any (opsOf Try.f36 8) = fe_begins.T8 := by kernel_rfl
theorem fe_begins.bits8 : waitsOk fe_begins.T8.2 fe_begins.B8 = true := by kernel_rfl
set_option maxHeartbeats 4000000 in
set_option maxRecDepth 100000 in
theorem fe_begins (q : List S68) (A : Option Addr) (c : Nat) (e : List Bool) (Ae : Option Addr) (ce : Nat) (fs : List S63) (Af : Option Addr) (cf : Nat) (w : World) (hq : Kd.C k68 w A q.length q) (he : Kd.C Kd.bool w Ae e.length e) (hf : Kd.C k63 w Af fs.length fs) (hok : ∀ s ∈ q, SymF e.length s) (hef : fs.length = e.length) (hl : q.length ≤ 64) :
  Calls Try.prog 36 #[.slice A q.length c, .slice Ae e.length ce, .slice Af fs.length cf] w fun e' w' => e' = .returned (.agg #[.int .u64 (begA e fs z63 q).f0, .int .u64 (begA e fs z63 q).f1, .int .u64 (begA e fs z63 q).f2, .int .u64 (begA e fs z63 q).f3]) ∧ Below w.heap.size w w' := by
 have HQ := Aside0.mk hq
 have HE := Aside0.mk he
 have HS := Aside0.mk hf
 have HO := Aside0.mk hok
 have HEF := Aside0.mk hef
 clear hq he hf hok hef
 obtain ⟨r, HR⟩ : ∃ r, Aside0 (begA e fs z63 q = r) := ⟨_, ⟨rfl⟩⟩
 rw [HR.out]
 have n1 : w.heap.size ≠ w.heap.size + 1 := by omega
 go_enter Try.func36, Try.ntmps36
 go_wp2
 go_loopw [14] (fun v wr => ∃ (i : Nat) (out : S63), i ≤ q.length ∧ v = .int .i64 i ∧ Aside0 (begA e fs out (q.drop i) = r) ∧ Aside0 (wr.heap[w.heap.size]? = some (.cells #[.int .u64 0, .int .u64 0, .int .u64 0, .int .u64 0] 63 (0, 0))) ∧ Aside0 (wr.heap[w.heap.size + 1]? = some (.cells #[.int .u64 out.f0, .int .u64 out.f1, .int .u64 out.f2, .int .u64 out.f3] 63 (0, 0))) ∧ Aside0 (Below w.heap.size w wr)) (fun v _ => q.length - (intOf v).toNat)
 case atStart => exact ⟨0, z63, by omega, rfl, ⟨HR.out⟩, ⟨blk_alloc (blk_new _ _) _⟩, ⟨by have h := blk_new (w.alloc (.cells #[.int .u64 0, .int .u64 0, .int .u64 0, .int .u64 0] 63 (0, 0))) (.cells #[.int .u64 0, .int .u64 0, .int .u64 0, .int .u64 0] 63 (0, 0)); rwa [show (w.alloc (.cells #[.int .u64 0, .int .u64 0, .int .u64 0, .int .u64 0] 63 (0, 0))).heap.size = w.heap.size + 1 from by simp] at h⟩, ⟨((Below.refl _ _).alloc (Nat.le_refl _) _).alloc (by simp) _⟩⟩
 case round =>
  obtain ⟨i, out, hi, rfl, hA, h6, h7, hb⟩ := hrel
  have o0 : wr.cell? ⟨w.heap.size + 1, 0, none⟩ = some (.int .u64 out.f0) := (blk_cell h7.out 0).trans rfl
  have o1 : wr.cell? ⟨w.heap.size + 1, 1, none⟩ = some (.int .u64 out.f1) := (blk_cell h7.out 1).trans rfl
  have o2 : wr.cell? ⟨w.heap.size + 1, 2, none⟩ = some (.int .u64 out.f2) := (blk_cell h7.out 2).trans rfl
  have o3 : wr.cell? ⟨w.heap.size + 1, 3, none⟩ = some (.int .u64 out.f3) := (blk_cell h7.out 3).trans rfl
  have z0 : wr.cell? ⟨w.heap.size, 0, none⟩ = some (.int .u64 0) := (blk_cell h6.out 0).trans rfl
  have z1 : wr.cell? ⟨w.heap.size, 1, none⟩ = some (.int .u64 0) := (blk_cell h6.out 1).trans rfl
  have z2 : wr.cell? ⟨w.heap.size, 2, none⟩ = some (.int .u64 0) := (blk_cell h6.out 2).trans rfl
  have z3 : wr.cell? ⟨w.heap.size, 3, none⟩ = some (.int .u64 0) := (blk_cell h6.out 3).trans rfl
  have y0 := blk_frozen h6.out 0
  have y1 := blk_frozen h6.out 1
  have y2 := blk_frozen h6.out 2
  have y3 := blk_frozen h6.out 3
  by_cases hlt : i < q.length
  ·obtain ⟨ad, eA, s0, s1, s2⟩ := at_T68 (Kd.C_below HQ.out hb.out) (i : Int) (by omega) (by omega)
   rw [fe_rdsym _ _ hlt] at s0 s1 s2
   rw [Int.toNat_natCast] at s0 s1 s2
   subst eA
   have hx := HO.out _ (List.getElem_mem hlt)
   have hA2 := hA.out
   rw [List.drop_eq_getElem_cons hlt] at hA2
   unfold begA at hA2
   have HA2 := Aside0.mk hA2
   clear hA2
   generalize q[i] = x at *
   rcases hx with hx | hx
   ·have HA3 := HA2.out
    rw [if_pos (by omega)] at HA3
    subst HA3
    clear HA2 hA
    have l0 := blk_lt h6.out
    have l1 := blk_lt h7.out
    go_wp2_with (first
     | (go_at_call 53; refine (fe_range _ _ hx.2.1 hx.2.2.2 hx.2.2.1 _).mono ?_; rintro e1 w1 ⟨rfl, hb1⟩; have HB1 := Aside0.mk hb1; have k7 := blk_below (blk_alloc h7.out _) hb1; have p0 : w1.cell? ⟨w.heap.size + 1, 0, none⟩ = some (.int .u64 out.f0) := (blk_cell k7 0).trans rfl; have p1 : w1.cell? ⟨w.heap.size + 1, 1, none⟩ = some (.int .u64 out.f1) := (blk_cell k7 1).trans rfl; have p2 : w1.cell? ⟨w.heap.size + 1, 2, none⟩ = some (.int .u64 out.f2) := (blk_cell k7 2).trans rfl; have p3 : w1.cell? ⟨w.heap.size + 1, 3, none⟩ = some (.int .u64 out.f3) := (blk_cell k7 3).trans rfl; have hs1 := hb1.size; simp at hs1; have lt1 : w.heap.size + 1 < w1.heap.size := Nat.lt_of_lt_of_le l1 (Nat.le_of_succ_le hs1); have lt0 : w.heap.size < w1.heap.size := Nat.lt_of_succ_lt lt1; clear hb1 k7)
     | (go_at_call 35; refine (fe_or out (rangeS x.f1 x.f2) _).mono ?_; rintro e2 w2 ⟨rfl, hb2⟩; have HB2 := Aside0.mk hb2; have k6 := blk_below (blk_alloc (blk_below (blk_alloc h6.out _) HB1.out) _) hb2; have K6 := Aside0.mk k6; have f0 := blk_frozen k6 0; have f1 := blk_frozen k6 1; have f2 := blk_frozen k6 2; have f3 := blk_frozen k6 3; have g0 : w2.cell? ⟨w.heap.size, 0, none⟩ = some (.int .u64 0) := (blk_cell k6 0).trans rfl; have g1 : w2.cell? ⟨w.heap.size, 1, none⟩ = some (.int .u64 0) := (blk_cell k6 1).trans rfl; have g2 : w2.cell? ⟨w.heap.size, 2, none⟩ = some (.int .u64 0) := (blk_cell k6 2).trans rfl; have g3 : w2.cell? ⟨w.heap.size, 3, none⟩ = some (.int .u64 0) := (blk_cell k6 3).trans rfl; clear hb2 k6))
    exact bodyPost_ret (v := .agg #[.int .u64 (orS out (rangeS x.f1 x.f2)).f0, .int .u64 (orS out (rangeS x.f1 x.f2)).f1, .int .u64 (orS out (rangeS x.f1 x.f2)).f2, .int .u64 (orS out (rangeS x.f1 x.f2)).f3]) (by simp [results, Try.results36, go_sem, g0, g1, g2, g3]) rfl ⟨rfl, by
     repeat (first | exact (below_step (below_step (hb.out.alloc hb.out.size _) HB1.out |>.alloc (below_step (hb.out.alloc hb.out.size _) HB1.out).size _) HB2.out) | refine below_set ?_ (by omega))⟩
   ·have hni : ¬ x.f0 < 0 := by omega
    have HA3 := HA2.out
    rw [if_neg hni] at HA3
    have HA4 := Aside0.mk HA3
    clear HA2 HA3 hA
    obtain ⟨h0, h1⟩ := hx
    obtain ⟨ad2, eA2, b0, b1, b2, b3⟩ := at_T63 (Kd.C_below HS.out hb.out) x.f0 h0 (by rw [HEF.out]; exact h1)
    rw [fe_rds] at b0 b1 b2 b3
    subst eA2
    obtain ⟨ad3, eA3, dw⟩ := Kd.at_bool HE.out x.f0 h0 h1
    rw [show rdOf false e x.f0 = e.getD x.f0.toNat false from rfl] at dw
    have DW := Aside0.mk dw
    have d0 := pw_cell_below hb.out dw
    clear dw
    subst eA3
    generalize fs.getD x.f0.toNat z63 = f at *
    have hfl : x.f0 < (fs.length : Int) := by rw [HEF.out]; exact h1
    have l7 : w.heap.size + 1 < wr.heap.size := blk_lt h7.out
    have l6 : w.heap.size < wr.heap.size := blk_lt h6.out
    have K7 : Aside0 ((wr.alloc (.cells #[.int .i64 x.f0, .int .i64 x.f1, .int .i64 x.f2] 68 (0, 0))).heap[w.heap.size + 1]? = some (.cells #[.int .u64 out.f0, .int .u64 out.f1, .int .u64 out.f2, .int .u64 out.f3] 63 (0, 0))) := ⟨blk_alloc h7.out _⟩
    have K6 : Aside0 ((wr.alloc (.cells #[.int .i64 x.f0, .int .i64 x.f1, .int .i64 x.f2] 68 (0, 0))).heap[w.heap.size]? = some (.cells #[.int .u64 0, .int .u64 0, .int .u64 0, .int .u64 0] 63 (0, 0))) := ⟨blk_alloc h6.out _⟩
    have X0 : Aside0 ((wr.alloc (.cells #[.int .i64 x.f0, .int .i64 x.f1, .int .i64 x.f2] 68 (0, 0))).drew.cell? ⟨wr.heap.size, 0, none⟩ = some (.int .i64 x.f0)) := ⟨(blk_cell (blk_drew (blk_new wr (.cells #[.int .i64 x.f0, .int .i64 x.f1, .int .i64 x.f2] 68 (0, 0)))) 0).trans rfl⟩
    have F0 : Aside0 ((wr.alloc (.cells #[.int .i64 x.f0, .int .i64 x.f1, .int .i64 x.f2] 68 (0, 0))).drew.cell? (ad2.add (x.f0.toNat * 4)) = some (.int .u64 f.f0)) := ⟨pw_cell_below (pw_below_drewN ((Below.refl _ wr).alloc (Nat.le_refl _) _) 1) b0⟩
    have F1 : Aside0 ((wr.alloc (.cells #[.int .i64 x.f0, .int .i64 x.f1, .int .i64 x.f2] 68 (0, 0))).drew.cell? ⟨(ad2.add (x.f0.toNat * 4)).block, (ad2.add (x.f0.toNat * 4)).off + 1, none⟩ = some (.int .u64 f.f1)) := ⟨pw_cell_below (pw_below_drewN ((Below.refl _ wr).alloc (Nat.le_refl _) _) 1) b1⟩
    have F2 : Aside0 ((wr.alloc (.cells #[.int .i64 x.f0, .int .i64 x.f1, .int .i64 x.f2] 68 (0, 0))).drew.cell? ⟨(ad2.add (x.f0.toNat * 4)).block, (ad2.add (x.f0.toNat * 4)).off + 2, none⟩ = some (.int .u64 f.f2)) := ⟨pw_cell_below (pw_below_drewN ((Below.refl _ wr).alloc (Nat.le_refl _) _) 1) b2⟩
    have F3 : Aside0 ((wr.alloc (.cells #[.int .i64 x.f0, .int .i64 x.f1, .int .i64 x.f2] 68 (0, 0))).drew.cell? ⟨(ad2.add (x.f0.toNat * 4)).block, (ad2.add (x.f0.toNat * 4)).off + 3, none⟩ = some (.int .u64 f.f3)) := ⟨pw_cell_below (pw_below_drewN ((Below.refl _ wr).alloc (Nat.le_refl _) _) 1) b3⟩
    go_wp2
    refine start_ (n := 8) (S := fun w' => w'.cell? ⟨wr.heap.size, 0, none⟩ = some (.int .i64 x.f0) ∧ w'.cell? ⟨w.heap.size + 1, 0, none⟩ = some (.int .u64 out.f0) ∧ w'.cell? ⟨w.heap.size + 1, 1, none⟩ = some (.int .u64 out.f1) ∧ w'.cell? ⟨w.heap.size + 1, 2, none⟩ = some (.int .u64 out.f2) ∧ w'.cell? ⟨w.heap.size + 1, 3, none⟩ = some (.int .u64 out.f3) ∧ w'.cell? (ad2.add (x.f0.toNat * 4)) = some (.int .u64 f.f0) ∧ w'.cell? ⟨(ad2.add (x.f0.toNat * 4)).block, (ad2.add (x.f0.toNat * 4)).off + 1, none⟩ = some (.int .u64 f.f1) ∧ w'.cell? ⟨(ad2.add (x.f0.toNat * 4)).block, (ad2.add (x.f0.toNat * 4)).off + 2, none⟩ = some (.int .u64 f.f2) ∧ w'.cell? ⟨(ad2.add (x.f0.toNat * 4)).block, (ad2.add (x.f0.toNat * 4)).off + 3, none⟩ = some (.int .u64 f.f3)) (ds := [7]) #[false, false, false, false, false, false, false, false] (by kernel_rfl) rfl rfl ⟨X0.out, (blk_cell (blk_drew K7.out) 0).trans rfl, (blk_cell (blk_drew K7.out) 1).trans rfl, (blk_cell (blk_drew K7.out) 2).trans rfl, (blk_cell (blk_drew K7.out) 3).trans rfl, F0.out, F1.out, F2.out, F3.out⟩ (fun hHeld => ?_)
    refine with_tabW fe_begins.tab8 fe_begins.bits8 (fun HT_ HW_ => ?_)
    refine pure_ (i := 1) (N := some 33) (v := ?_) (a' := ?_) #[false, true, false, false, false, false, false, false] rfl rfl (any_of HT_.out (by kernel_rfl)) (fun _ _ _ h => h) (Or.inl ⟨by rfl, ?_⟩) ?_ ?_
    rotate_left
    ·intro w'
     go_simp
     with_reducible rfl
    rotate_left
    ·simp only [Act.put, List.setIfInBounds_toArray, List.set_cons_zero, List.set_cons_succ, i64_w, i32_w]
     rfl
    refine pure_ (i := 2) (N := some 34) (v := ?_) (a' := ?_) #[false, true, true, false, false, false, false, false] rfl rfl (any_of HT_.out (by kernel_rfl)) (fun _ _ _ h => h) (Or.inl ⟨by rfl, ?_⟩) ?_ ?_
    rotate_left
    ·intro w'
     go_simp
     with_reducible rfl
    rotate_left
    ·simp only [Act.put, List.setIfInBounds_toArray, List.set_cons_zero, List.set_cons_succ, i64_w, i32_w]
     rfl
    refine take_ (i := 0) (N := some 32) (v := ?_) (a' := ?_) #[true, true, true, false, false, false, false, false] rfl rfl (take_ofW HT_.out HW_.out (by kernel_rfl)) (fun _ _ _ h => h) (Or.inl ⟨by rfl, ?_⟩) hHeld ?_ ?_
    rotate_left
    ·rintro w' ⟨s0, s1, s2, s3, s4, s5, s6, s7, s8⟩
     go_simp
     with_reducible rfl
    rotate_left
    ·simp only [Act.put, List.setIfInBounds_toArray, List.set_cons_zero, List.set_cons_succ, i64_w, i32_w]
     rfl
    refine take_ (i := 3) (N := some 35) (v := ?_) (a' := ?_) #[true, true, true, true, false, false, false, false] rfl rfl (take_ofW HT_.out HW_.out (by kernel_rfl)) (fun _ _ _ h => h) (Or.inl ⟨by rfl, ?_⟩) hHeld ?_ ?_
    rotate_left
    ·rintro w' ⟨s0, s1, s2, s3, s4, s5, s6, s7, s8⟩
     go_simp
     with_reducible rfl
    rotate_left
    ·simp only [Act.put, List.setIfInBounds_toArray, List.set_cons_zero, List.set_cons_succ, i64_w, i32_w]
     rfl
    refine pure_ (i := 4) (N := some 36) (v := ?_) (a' := ?_) #[true, true, true, true, true, false, false, false] rfl rfl (any_of HT_.out (by kernel_rfl)) (fun _ _ _ h => h) (Or.inl ⟨by rfl, ?_⟩) ?_ ?_
    rotate_left
    ·intro w'
     go_simp
     with_reducible rfl
    rotate_left
    ·simp only [Act.put, List.setIfInBounds_toArray, List.set_cons_zero, List.set_cons_succ, i64_w, i32_w]
     rfl
    refine take_ (i := 5) (N := some 37) (v := ?_) (a' := ?_) #[true, true, true, true, true, true, false, false] rfl rfl (take_ofW HT_.out HW_.out (by kernel_rfl)) (fun _ _ _ h => h) (Or.inl ⟨by rfl, ?_⟩) hHeld ?_ ?_
    rotate_left
    ·rintro w' ⟨s0, s1, s2, s3, s4, s5, s6, s7, s8⟩
     go_simp
     with_reducible rfl
    rotate_left
    ·simp only [Act.put, List.setIfInBounds_toArray, List.set_cons_zero, List.set_cons_succ, i64_w, i32_w]
     rfl
    refine one_ (i := 6) (N := some 38) #[true, true, true, true, true, true, true, false] rfl rfl (one_of HT_.out (by kernel_rfl)) (by decide) (fun K hK => ?_)
    refine goes_ Try.func35 (by kernel_rfl) rfl #[.agg #[.int .u64 out.f0, .int .u64 out.f1, .int .u64 out.f2, .int .u64 out.f3], .agg #[.int .u64 f.f0, .int .u64 f.f1, .int .u64 f.f2, .int .u64 f.f3]] (by rfl) rfl rfl (by (try simp only [List.map_toArray, List.map_cons, List.map_nil]); first | done | rfl) ?_
    refine (fe_or out f _).mono ?_
    rintro e1 w1 ⟨rfl, hb1⟩
    have HB1 := Aside0.mk hb1
    clear hb1
    refine ⟨_, rfl, ?_⟩
    refine hK.out _ _ ⟨pw_cell_below HB1.out X0.out, pw_cell_below HB1.out ((blk_cell (blk_drew K7.out) 0).trans rfl), pw_cell_below HB1.out ((blk_cell (blk_drew K7.out) 1).trans rfl), pw_cell_below HB1.out ((blk_cell (blk_drew K7.out) 2).trans rfl), pw_cell_below HB1.out ((blk_cell (blk_drew K7.out) 3).trans rfl), pw_cell_below HB1.out F0.out, pw_cell_below HB1.out F1.out, pw_cell_below HB1.out F2.out, pw_cell_below HB1.out F3.out⟩ (fun hHeld => ?_)
    clear hK K
    refine norm_ (a' := ?_) ?_ ?_
    rotate_left
    ·show Act.put _ (some 38) _ = _
     simp only [Act.put, List.setIfInBounds_toArray, List.set_cons_zero, List.set_cons_succ, i64_w, i32_w]
     rfl
    refine last_ (i := 7) (N := none) #[true, true, true, true, true, true, true, true] rfl rfl (one_of HT_.out (by kernel_rfl)) (by decide) (fun K hK => ?_)
    have M7 := Aside0.mk (blk_below (blk_drew K7.out) HB1.out)
    have m0 : w1.cell? ⟨w.heap.size + 1, 0, none⟩ = some (.int .u64 out.f0) := (blk_cell M7.out 0).trans rfl
    have m1 : w1.cell? ⟨w.heap.size + 1, 1, none⟩ = some (.int .u64 out.f1) := (blk_cell M7.out 1).trans rfl
    have m2 : w1.cell? ⟨w.heap.size + 1, 2, none⟩ = some (.int .u64 out.f2) := (blk_cell M7.out 2).trans rfl
    have m3 : w1.cell? ⟨w.heap.size + 1, 3, none⟩ = some (.int .u64 out.f3) := (blk_cell M7.out 3).trans rfl
    have v0 := blk_frozen M7.out 0
    have v1 := blk_frozen M7.out 1
    have v2 := blk_frozen M7.out 2
    have v3 := blk_frozen M7.out 3
    refine skip_ (w1 := ?_) (by rfl) rfl ?_ ?_
    rotate_left
    ·go_simp
     rfl
    refine hK.out _ _ ?_
    clear hK K
    refine done_ (done_of HT_.out (by kernel_rfl)) ?_
    have N7 : Aside0 (((((w1.setCell ⟨w.heap.size + 1, 0, none⟩ (.int .u64 (orS out f).f0)).setCell ⟨w.heap.size + 1, 1, none⟩ (.int .u64 (orS out f).f1)).setCell ⟨w.heap.size + 1, 2, none⟩ (.int .u64 (orS out f).f2)).setCell ⟨w.heap.size + 1, 3, none⟩ (.int .u64 (orS out f).f3)).heap[w.heap.size + 1]? = some (.cells #[.int .u64 (orS out f).f0, .int .u64 (orS out f).f1, .int .u64 (orS out f).f2, .int .u64 (orS out f).f3] 63 (0, 0))) := ⟨blk_put (blk_put (blk_put (blk_put M7.out 0 _ rfl) 1 _ rfl) 2 _ rfl) 3 _ rfl⟩
    have N6 : Aside0 (((((w1.setCell ⟨w.heap.size + 1, 0, none⟩ (.int .u64 (orS out f).f0)).setCell ⟨w.heap.size + 1, 1, none⟩ (.int .u64 (orS out f).f1)).setCell ⟨w.heap.size + 1, 2, none⟩ (.int .u64 (orS out f).f2)).setCell ⟨w.heap.size + 1, 3, none⟩ (.int .u64 (orS out f).f3)).heap[w.heap.size]? = some (.cells #[.int .u64 0, .int .u64 0, .int .u64 0, .int .u64 0] 63 (0, 0))) := ⟨blk_far (blk_far (blk_far (blk_far (blk_below (blk_drew K6.out) HB1.out) (by simp) _) (by simp) _) (by simp) _) (by simp) _⟩
    have N9 : Aside0 (((((w1.setCell ⟨w.heap.size + 1, 0, none⟩ (.int .u64 (orS out f).f0)).setCell ⟨w.heap.size + 1, 1, none⟩ (.int .u64 (orS out f).f1)).setCell ⟨w.heap.size + 1, 2, none⟩ (.int .u64 (orS out f).f2)).setCell ⟨w.heap.size + 1, 3, none⟩ (.int .u64 (orS out f).f3)).heap[wr.heap.size]? = some (.cells #[.int .i64 x.f0, .int .i64 x.f1, .int .i64 x.f2] 68 (0, 0))) := ⟨blk_far (blk_far (blk_far (blk_far (blk_below (blk_drew (blk_new wr (.cells #[.int .i64 x.f0, .int .i64 x.f1, .int .i64 x.f2] 68 (0, 0)))) HB1.out) (by simp; omega) _) (by simp; omega) _) (by simp; omega) _) (by simp; omega) _⟩
    have NB : Aside0 (Below w.heap.size w ((((w1.setCell ⟨w.heap.size + 1, 0, none⟩ (.int .u64 (orS out f).f0)).setCell ⟨w.heap.size + 1, 1, none⟩ (.int .u64 (orS out f).f1)).setCell ⟨w.heap.size + 1, 2, none⟩ (.int .u64 (orS out f).f2)).setCell ⟨w.heap.size + 1, 3, none⟩ (.int .u64 (orS out f).f3))) := ⟨below_set (below_set (below_set (below_set (below_step (pw_below_drewN (hb.out.alloc hb.out.size _) 1) HB1.out) (by omega)) (by omega)) (by omega)) (by omega)⟩
    clear m0 m1 m2 m3 v0 v1 v2 v3
    generalize ((((w1.setCell ⟨w.heap.size + 1, 0, none⟩ (.int .u64 (orS out f).f0)).setCell ⟨w.heap.size + 1, 1, none⟩ (.int .u64 (orS out f).f1)).setCell ⟨w.heap.size + 1, 2, none⟩ (.int .u64 (orS out f).f2)).setCell ⟨w.heap.size + 1, 3, none⟩ (.int .u64 (orS out f).f3)) = W2 at *
    have ND := pw_cell_below NB.out DW.out
    have x9 : W2.cell? ⟨wr.heap.size, 0, none⟩ = some (.int .i64 x.f0) := (blk_cell N9.out 0).trans rfl
    clear d0 b0 b1 b2 b3 o0 o1 o2 o3 z0 z1 z2 z3 y0 y1 y2 y3
    cases hv : e.getD x.f0.toNat false with
    | true =>
     have HA5 := HA4.out
     rw [if_pos hv] at HA5
     have HA6 := Aside0.mk HA5
     rw [hv] at ND
     clear HA5 HA4 hv
     go_wp2
     go_roundw
     case rel => exact ⟨i + 1, orS out f, by omega, by go_num, HA6, N6, N7, NB⟩
     case measure => simp [intOf]; omega
    | false =>
     have HA5 := HA4.out
     rw [if_neg (by rw [hv]; decide)] at HA5
     subst HA5
     rw [hv] at ND
     clear HA4 hv
     have o0 : W2.cell? ⟨w.heap.size + 1, 0, none⟩ = some (.int .u64 (orS out f).f0) := (blk_cell N7.out 0).trans rfl
     have o1 : W2.cell? ⟨w.heap.size + 1, 1, none⟩ = some (.int .u64 (orS out f).f1) := (blk_cell N7.out 1).trans rfl
     have o2 : W2.cell? ⟨w.heap.size + 1, 2, none⟩ = some (.int .u64 (orS out f).f2) := (blk_cell N7.out 2).trans rfl
     have o3 : W2.cell? ⟨w.heap.size + 1, 3, none⟩ = some (.int .u64 (orS out f).f3) := (blk_cell N7.out 3).trans rfl
     have z0 : W2.cell? ⟨w.heap.size, 0, none⟩ = some (.int .u64 0) := (blk_cell N6.out 0).trans rfl
     have z1 : W2.cell? ⟨w.heap.size, 1, none⟩ = some (.int .u64 0) := (blk_cell N6.out 1).trans rfl
     have z2 : W2.cell? ⟨w.heap.size, 2, none⟩ = some (.int .u64 0) := (blk_cell N6.out 2).trans rfl
     have z3 : W2.cell? ⟨w.heap.size, 3, none⟩ = some (.int .u64 0) := (blk_cell N6.out 3).trans rfl
     have y0 := blk_frozen N6.out 0
     have y1 := blk_frozen N6.out 1
     have y2 := blk_frozen N6.out 2
     have y3 := blk_frozen N6.out 3
     go_wp2
     exact bodyPost_ret (v := .agg #[.int .u64 (orS out f).f0, .int .u64 (orS out f).f1, .int .u64 (orS out f).f2, .int .u64 (orS out f).f3]) (by simp [results, Try.results36, go_sem, o0, o1, o2, o3, z0, z1, z2, z3]) rfl ⟨rfl, by
      repeat (first | exact NB.out | refine below_set ?_ (by omega))⟩
  ·obtain rfl : i = q.length := by omega
   have hA2 := hA.out
   rw [List.drop_length] at hA2
   have hA3 : out = r := hA2
   subst hA3
   go_wp2
   exact bodyPost_ret (v := .agg #[.int .u64 out.f0, .int .u64 out.f1, .int .u64 out.f2, .int .u64 out.f3]) (by simp [results, Try.results36, go_sem, o0, o1, o2, o3, z0, z1, z2, z3]) rfl ⟨rfl, by
    repeat (first | exact hb.out | refine below_set ?_ (by omega))⟩
def stepF (e : List Bool) (h : Int) (q : List S68) (s : List S63) : List S63 := s.set h.toNat (orS (s.getD h.toNat z63) (begA e s z63 q))
set_option maxRecDepth 100000 in
theorem eqH63 (d : Nat) (w : World) (x0 y0 : Int) (x1 y1 : Int) (x2 y2 : Int) (x3 y3 : Int) :
  (Op.equalIn (d + 2) 63 (.agg #[.int .u64 x0, .int .u64 x1, .int .u64 x2, .int .u64 x3]) (.agg #[.int .u64 y0, .int .u64 y1, .int .u64 y2, .int .u64 y3])).run Try.prog w = .ok (x0 == y0 && (x1 == y1 && (x2 == y2 && (x3 == y3)))) w := by
 have hinfo : (Try.prog.info? 61).map (fun i => (i.zero, i.size, i.bytes)) = some (some (.int .u64 0), 1, 8) := by kernel_rfl
 obtain ⟨i0, hi, hz0, hz1, hz2⟩ := info_parts hinfo
 rw [run_equalIn_array w (d + 1) _ _ Try.underlying63 hi]
 have hc : Try.prog.cellsOf 61 = 1 := by kernel_rfl
 rw [hc]
 simp only [List.range, List.range.loop]
 repeat (first | exact eqi_last (by go_simp; rfl) (by go_simp; rfl) (by go_simp) | refine eqi_cons (by go_simp; rfl) (by go_simp; rfl) (by go_simp) ?_)
attribute [local go_sem high] eqH63
def fe_turn34.T2 : Bool × List (List Nat × List Nat) := (true, [([], []), ([], []), ([], []), ([], []), ([], []), ([], []), ([3, 4, 5], [3, 4, 5]), ([2, 6, 6], [2, 6]), ([0, 1, 0, 1, 2, 3, 4, 5, 6, 7], [0, 1]), ([8, 7, 7, 0, 1, 2, 3, 4, 5, 6, 7], [7, 8])])
def fe_turn34.B2 : List Nat := [0, 0, 0, 0, 0, 0, 56, 124, 255, 511]
theorem fe_turn34.tab2 : rtab .any (opsOf Try.f34 2) = fe_turn34.T2 := by kernel_rfl
theorem fe_turn34.bits2 : waitsOk fe_turn34.T2.2 fe_turn34.B2 = true := by kernel_rfl
def fe_turn34.T3 : Bool × List (List Nat × List Nat) := (true, [([], []), ([], []), ([0, 1], [0, 1]), ([2], [2]), ([], []), ([3, 4], [3, 4]), ([5, 0, 1, 2, 3, 4, 5], [5])])
def fe_turn34.B3 : List Nat := [0, 0, 3, 7, 0, 31, 63]
theorem fe_turn34.tab3 : rtab .any (opsOf Try.f34 3) = fe_turn34.T3 := by kernel_rfl
theorem fe_turn34.bits3 : waitsOk fe_turn34.T3.2 fe_turn34.B3 = true := by kernel_rfl
def eqS (a b : S63) : Bool := a.f0 == b.f0 && (a.f1 == b.f1 && (a.f2 == b.f2 && (a.f3 == b.f3)))
theorem eqS_iff (a b : S63) : eqS a b = true ↔ a = b := by
 cases a
 cases b
 simp [eqS]
theorem encS_set (s : List S63) (i : Nat) (x : S63) (h : i < s.length) : ((((rowV encS s).setIfInBounds (i * 4) (.int .u64 x.f0)).setIfInBounds (i * 4 + 1) (.int .u64 x.f1)).setIfInBounds (i * 4 + 2) (.int .u64 x.f2)).setIfInBounds (i * 4 + 3) (.int .u64 x.f3) = rowV encS (s.set i x) := by
 obtain ⟨h1, h2⟩ := rowV_split encS_len s i h
 obtain ⟨h3, h4⟩ := rowV_split encS_len (s.set i x) i (by rw [List.length_set]; exact h)
 unfold rowV
 rw [h1, h3, List.getElem_set_self, List.take_set, List.set_eq_of_length_le (by rw [List.length_take]; omega), List.drop_set, if_pos (by omega)]
 generalize (s.take i).flatMap encS = P at *
 generalize (s.drop (i + 1)).flatMap encS = Q at *
 rw [← h2]
 simp [encS, List.set_append]
set_option maxHeartbeats 4000000 in
set_option maxRecDepth 100000 in
theorem fe_turn34 (bx ob ex : Nat) (s : List S63) (e : List Bool) (Ae : Option Addr) (ce : Nat) (hd : Int) (q : List S68) (A : Option Addr) (c : Nat) (w : World) (base : Nat)
  (hbox : w.heap[bx]? = some (.cells #[.slice (some ⟨ob, 0, none⟩) s.length s.length] 33 (0, 0))) (hdat : w.heap[ob]? = some (.cells (rowV encS s) 63 (0, 0))) (hex : w.heap[ex]? = some (.cells #[.slice Ae e.length ce] 27 (0, 0))) (he : Kd.C Kd.bool w Ae e.length e)
  (h0 : 0 ≤ hd) (h1 : hd < s.length) (hsl : s.length ≤ 9223372036854775807) (hse : s.length = e.length) (hok : ∀ x ∈ q, SymF e.length x) (hq : Kd.C k68 w A q.length q) (hl : q.length ≤ 64) (hb : base ≤ ob) (n1 : bx ≠ ob) (n2 : ex ≠ ob) :
  Calls Try.prog 34 #[.int .i64 hd, .slice A q.length c, .pointer (some ⟨bx, 0, none⟩), .pointer (some ⟨ex, 0, none⟩)] w fun e' w' => ∃ b, e' = .returned (.bool b) ∧ w'.heap[ob]? = some (.cells (rowV encS (stepF e hd q s)) 63 (0, 0)) ∧ KeepBut w w' ob none ∧ Below base w w' ∧ (b = false → stepF e hd q s = s) ∧ (b = true → stepF e hd q s ≠ s) := by
 have lb := blk_lt hdat
 have lx := blk_lt hbox
 have le := blk_lt hex
 have hdn : hd.toNat < s.length := by omega
 have k0 : w.cell? ⟨bx, 0, none⟩ = some (.slice (some ⟨ob, 0, none⟩) s.length s.length) := (blk_cell hbox 0).trans rfl
 have hrow : ∀ j, j < 4 → w.cell? ⟨ob, hd.toNat * 4 + j, none⟩ = (encS s[hd.toNat])[j]? := fun j hj => (blk_cell hdat (hd.toNat * 4 + j)).trans (rowV_get encS_len s hd.toNat j hdn hj)
 have hgd : s.getD hd.toNat z63 = s[hd.toNat] := by rw [List.getD_eq_getElem?_getD, List.getElem?_eq_getElem hdn]; rfl
 have hst : stepF e hd q s = s.set hd.toNat (orS s[hd.toNat] (begA e s z63 q)) := by unfold stepF; rw [hgd]
 generalize hx : s[hd.toNat] = x at *
 have d0 : w.cell? ⟨ob, hd.toNat * 4, none⟩ = some (.int .u64 x.f0) := hrow 0 (by omega)
 have d1 : w.cell? ⟨ob, hd.toNat * 4 + 1, none⟩ = some (.int .u64 x.f1) := hrow 1 (by omega)
 have d2 : w.cell? ⟨ob, hd.toNat * 4 + 2, none⟩ = some (.int .u64 x.f2) := hrow 2 (by omega)
 have d3 : w.cell? ⟨ob, hd.toNat * 4 + 3, none⟩ = some (.int .u64 x.f3) := hrow 3 (by omega)
 have HST := Aside0.mk hst
 have HXX := Aside0.mk hx
 have HSE := Aside0.mk hse
 have HBX := Aside0.mk hbox
 have HEX := Aside0.mk hex
 have HD := Aside0.mk hdat
 have HE := Aside0.mk he
 have HQ := Aside0.mk hq
 have HOK := Aside0.mk hok
 clear hbox hdat hex he hq hok hst hx hrow hgd hse
 obtain ⟨g, HG⟩ : ∃ g, Aside0 (begA e s z63 q = g) := ⟨_, ⟨rfl⟩⟩
 go_enter Try.func34, Try.ntmps34
 go_wp2
 have DB := Aside0.mk (blk_drew (blk_alloc HBX.out (.cells #[.int .u64 x.f0, .int .u64 x.f1, .int .u64 x.f2, .int .u64 x.f3] 63 (0, 0))))
 have DE := Aside0.mk (blk_drew (blk_alloc HEX.out (.cells #[.int .u64 x.f0, .int .u64 x.f1, .int .u64 x.f2, .int .u64 x.f3] 63 (0, 0))))
 have DD := Aside0.mk (blk_drew (blk_alloc HD.out (.cells #[.int .u64 x.f0, .int .u64 x.f1, .int .u64 x.f2, .int .u64 x.f3] 63 (0, 0))))
 have DX := Aside0.mk (blk_drew (blk_new w (.cells #[.int .u64 x.f0, .int .u64 x.f1, .int .u64 x.f2, .int .u64 x.f3] 63 (0, 0))))
 have B0 : Aside0 (Below w.heap.size w (w.alloc (.cells #[.int .u64 x.f0, .int .u64 x.f1, .int .u64 x.f2, .int .u64 x.f3] 63 (0, 0))).drew) := ⟨((Below.refl _ w).alloc (Nat.le_refl _) _).drew⟩
 refine start_ (n := 10) (S := fun w' => w'.cell? ⟨bx, 0, none⟩ = some (.slice (some ⟨ob, 0, none⟩) s.length s.length) ∧ w'.cell? ⟨w.heap.size, 0, none⟩ = some (.int .u64 x.f0) ∧ w'.cell? ⟨w.heap.size, 1, none⟩ = some (.int .u64 x.f1) ∧ w'.cell? ⟨w.heap.size, 2, none⟩ = some (.int .u64 x.f2) ∧ w'.cell? ⟨w.heap.size, 3, none⟩ = some (.int .u64 x.f3) ∧ w'.cell? ⟨ex, 0, none⟩ = some (.slice Ae e.length ce)) (ds := [9]) #[false, false, false, false, false, false, false, false, false, false] (by kernel_rfl) rfl rfl ⟨(blk_cell DB.out 0).trans rfl, (blk_cell DX.out 0).trans rfl, (blk_cell DX.out 1).trans rfl, (blk_cell DX.out 2).trans rfl, (blk_cell DX.out 3).trans rfl, (blk_cell DE.out 0).trans rfl⟩ (fun hHeld => ?_)
 refine with_tabW fe_turn34.tab2 fe_turn34.bits2 (fun HT_ HW_ => ?_)
 refine pure_ (i := 1) (N := some 13) (v := ?_) (a' := ?_) #[false, true, false, false, false, false, false, false, false, false] rfl rfl (any_of HT_.out (by kernel_rfl)) (fun _ _ _ h => h) (Or.inl ⟨by rfl, ?_⟩) ?_ ?_
 rotate_left
 ·intro w'
  go_simp
  with_reducible rfl
 rotate_left
 ·simp only [Act.put, List.setIfInBounds_toArray, List.set_cons_zero, List.set_cons_succ, i64_w, i32_w]
  rfl
 refine pure_ (i := 3) (N := some 15) (v := ?_) (a' := ?_) #[false, true, false, true, false, false, false, false, false, false] rfl rfl (any_of HT_.out (by kernel_rfl)) (fun _ _ _ h => h) (Or.inl ⟨by rfl, ?_⟩) ?_ ?_
 rotate_left
 ·intro w'
  go_simp
  with_reducible rfl
 rotate_left
 ·simp only [Act.put, List.setIfInBounds_toArray, List.set_cons_zero, List.set_cons_succ, i64_w, i32_w]
  rfl
 refine take_ (i := 0) (N := some 12) (v := ?_) (a' := ?_) #[true, true, false, true, false, false, false, false, false, false] rfl rfl (take_ofW HT_.out HW_.out (by kernel_rfl)) (fun _ _ _ h => h) (Or.inl ⟨by rfl, ?_⟩) hHeld ?_ ?_
 rotate_left
 ·rintro w' ⟨s0, s1, s2, s3, s4, s5⟩
  go_simp
  with_reducible rfl
 rotate_left
 ·simp only [Act.put, List.setIfInBounds_toArray, List.set_cons_zero, List.set_cons_succ, i64_w, i32_w]
  rfl
 refine take_ (i := 2) (N := some 14) (v := ?_) (a' := ?_) #[true, true, true, true, false, false, false, false, false, false] rfl rfl (take_ofW HT_.out HW_.out (by kernel_rfl)) (fun _ _ _ h => h) (Or.inl ⟨by rfl, ?_⟩) hHeld ?_ ?_
 rotate_left
 ·rintro w' ⟨s0, s1, s2, s3, s4, s5⟩
  go_simp
  with_reducible rfl
 rotate_left
 ·simp only [Act.put, List.setIfInBounds_toArray, List.set_cons_zero, List.set_cons_succ, i64_w, i32_w]
  rfl
 refine take_ (i := 4) (N := some 16) (v := ?_) (a' := ?_) #[true, true, true, true, true, false, false, false, false, false] rfl rfl (take_ofW HT_.out HW_.out (by kernel_rfl)) (fun _ _ _ h => h) (Or.inl ⟨by rfl, ?_⟩) hHeld ?_ ?_
 rotate_left
 ·rintro w' ⟨s0, s1, s2, s3, s4, s5⟩
  go_simp
  with_reducible rfl
 rotate_left
 ·simp only [Act.put, List.setIfInBounds_toArray, List.set_cons_zero, List.set_cons_succ, i64_w, i32_w]
  rfl
 refine take_ (i := 5) (N := some 17) (v := ?_) (a' := ?_) #[true, true, true, true, true, true, false, false, false, false] rfl rfl (take_ofW HT_.out HW_.out (by kernel_rfl)) (fun _ _ _ h => h) (Or.inl ⟨by rfl, ?_⟩) hHeld ?_ ?_
 rotate_left
 ·rintro w' ⟨s0, s1, s2, s3, s4, s5⟩
  go_simp
  with_reducible rfl
 rotate_left
 ·simp only [Act.put, List.setIfInBounds_toArray, List.set_cons_zero, List.set_cons_succ, i64_w, i32_w]
  rfl
 refine one_ (i := 6) (N := some 18) #[true, true, true, true, true, true, true, false, false, false] rfl rfl (one_of HT_.out (by kernel_rfl)) (by decide) (fun K hK => ?_)
 refine goes_ Try.func36 (by kernel_rfl) rfl #[.slice A q.length c, .slice Ae e.length ce, .slice (some ⟨ob, 0, none⟩) s.length s.length] (by rfl) rfl rfl (by (try simp only [List.map_toArray, List.map_cons, List.map_nil]); first | done | rfl) ?_
 refine (fe_begins q A c e Ae ce s (some ⟨ob, 0, none⟩) s.length _ (Kd.C_below HQ.out B0.out) (Kd.C_below HE.out B0.out) (rowV_C encS_len (d := k63) (fun w x => k63_mk w x) rfl DD.out hsl) HOK.out HSE.out hl).mono ?_
 rw [HG.out]
 rintro e1 w1 ⟨rfl, hb1⟩
 have HB1 := Aside0.mk hb1
 clear hb1
 refine ⟨_, rfl, ?_⟩
 refine hK.out _ _ ⟨pw_cell_below HB1.out ((blk_cell DB.out 0).trans rfl), pw_cell_below HB1.out ((blk_cell DX.out 0).trans rfl), pw_cell_below HB1.out ((blk_cell DX.out 1).trans rfl), pw_cell_below HB1.out ((blk_cell DX.out 2).trans rfl), pw_cell_below HB1.out ((blk_cell DX.out 3).trans rfl), pw_cell_below HB1.out ((blk_cell DE.out 0).trans rfl)⟩ (fun hHeld => ?_)
 clear hK K
 refine norm_ (a' := ?_) ?_ ?_
 rotate_left
 ·show Act.put _ (some 18) _ = _
  simp only [Act.put, List.setIfInBounds_toArray, List.set_cons_zero, List.set_cons_succ, i64_w, i32_w]
  rfl
 refine one_ (i := 7) (N := some 19) #[true, true, true, true, true, true, true, true, false, false] rfl rfl (one_of HT_.out (by kernel_rfl)) (by decide) (fun K hK => ?_)
 refine goes_ Try.func35 (by kernel_rfl) rfl #[.agg #[.int .u64 x.f0, .int .u64 x.f1, .int .u64 x.f2, .int .u64 x.f3], .agg #[.int .u64 g.f0, .int .u64 g.f1, .int .u64 g.f2, .int .u64 g.f3]] (by rfl) rfl rfl (by (try simp only [List.map_toArray, List.map_cons, List.map_nil]); first | done | rfl) ?_
 refine (fe_or x g _).mono ?_
 rintro e2 w2 ⟨rfl, hb2⟩
 have HB2 := Aside0.mk hb2
 clear hb2
 refine ⟨_, rfl, ?_⟩
 refine hK.out _ _ ⟨pw_cell_below HB2.out (pw_cell_below HB1.out ((blk_cell DB.out 0).trans rfl)), pw_cell_below HB2.out (pw_cell_below HB1.out ((blk_cell DX.out 0).trans rfl)), pw_cell_below HB2.out (pw_cell_below HB1.out ((blk_cell DX.out 1).trans rfl)), pw_cell_below HB2.out (pw_cell_below HB1.out ((blk_cell DX.out 2).trans rfl)), pw_cell_below HB2.out (pw_cell_below HB1.out ((blk_cell DX.out 3).trans rfl)), pw_cell_below HB2.out (pw_cell_below HB1.out ((blk_cell DE.out 0).trans rfl))⟩ (fun hHeld => ?_)
 clear hK K
 refine norm_ (a' := ?_) ?_ ?_
 rotate_left
 ·show Act.put _ (some 19) _ = _
  simp only [Act.put, List.setIfInBounds_toArray, List.set_cons_zero, List.set_cons_succ, i64_w, i32_w]
  rfl
 refine pure_ (i := 8) (N := some 20) (v := ?_) (a' := ?_) #[true, true, true, true, true, true, true, true, true, false] rfl rfl (any_of HT_.out (by kernel_rfl)) (fun _ _ _ h => h) (Or.inl ⟨by rfl, ?_⟩) ?_ ?_
 rotate_left
 ·intro w'
  go_simp
  with_reducible rfl
 rotate_left
 ·simp only [Act.put, List.setIfInBounds_toArray, List.set_cons_zero, List.set_cons_succ, i64_w, i32_w]
  rfl
 refine last_ (i := 9) (N := none) #[true, true, true, true, true, true, true, true, true, true] rfl rfl (one_of HT_.out (by kernel_rfl)) (by decide) (fun K hK => ?_)
 have D2 := Aside0.mk (blk_below (blk_below DD.out HB1.out) HB2.out)
 have m0 := pw_cell_below HB2.out (pw_cell_below HB1.out (pw_cell_below B0.out d0))
 have m1 := pw_cell_below HB2.out (pw_cell_below HB1.out (pw_cell_below B0.out d1))
 have m2 := pw_cell_below HB2.out (pw_cell_below HB1.out (pw_cell_below B0.out d2))
 have m3 := pw_cell_below HB2.out (pw_cell_below HB1.out (pw_cell_below B0.out d3))
 have v0 := blk_frozen D2.out (hd.toNat * 4)
 have v1 := blk_frozen D2.out (hd.toNat * 4 + 1)
 have v2 := blk_frozen D2.out (hd.toNat * 4 + 2)
 have v3 := blk_frozen D2.out (hd.toNat * 4 + 3)
 refine skip_ (w1 := ?_) (by rfl) rfl ?_ ?_
 rotate_left
 ·go_simp
  rfl
 refine hK.out _ _ ?_
 clear hK K
 refine done_ (done_of HT_.out (by kernel_rfl)) ?_
 have N1 : Aside0 (((((w2.setCell ⟨ob, hd.toNat * 4, none⟩ (.int .u64 (orS x g).f0)).setCell ⟨ob, hd.toNat * 4 + 1, none⟩ (.int .u64 (orS x g).f1)).setCell ⟨ob, hd.toNat * 4 + 2, none⟩ (.int .u64 (orS x g).f2)).setCell ⟨ob, hd.toNat * 4 + 3, none⟩ (.int .u64 (orS x g).f3)).heap[ob]? = some (.cells (rowV encS (s.set hd.toNat (orS x g))) 63 (0, 0))) := ⟨by rw [← encS_set _ _ _ hdn]; exact blk_put (blk_put (blk_put (blk_put D2.out _ _ rfl) _ _ rfl) _ _ rfl) _ _ rfl⟩
 have N2 : Aside0 (((((w2.setCell ⟨ob, hd.toNat * 4, none⟩ (.int .u64 (orS x g).f0)).setCell ⟨ob, hd.toNat * 4 + 1, none⟩ (.int .u64 (orS x g).f1)).setCell ⟨ob, hd.toNat * 4 + 2, none⟩ (.int .u64 (orS x g).f2)).setCell ⟨ob, hd.toNat * 4 + 3, none⟩ (.int .u64 (orS x g).f3)).heap[w.heap.size]? = some (.cells #[.int .u64 x.f0, .int .u64 x.f1, .int .u64 x.f2, .int .u64 x.f3] 63 (0, 0))) := ⟨blk_far (blk_far (blk_far (blk_far (blk_below (blk_below DX.out HB1.out) HB2.out) (by simp; omega) _) (by simp; omega) _) (by simp; omega) _) (by simp; omega) _⟩
 have N3 : Aside0 (((((w2.setCell ⟨ob, hd.toNat * 4, none⟩ (.int .u64 (orS x g).f0)).setCell ⟨ob, hd.toNat * 4 + 1, none⟩ (.int .u64 (orS x g).f1)).setCell ⟨ob, hd.toNat * 4 + 2, none⟩ (.int .u64 (orS x g).f2)).setCell ⟨ob, hd.toNat * 4 + 3, none⟩ (.int .u64 (orS x g).f3)).heap[bx]? = some (.cells #[.slice (some ⟨ob, 0, none⟩) s.length s.length] 33 (0, 0))) := ⟨blk_far (blk_far (blk_far (blk_far (blk_below (blk_below DB.out HB1.out) HB2.out) n1 _) n1 _) n1 _) n1 _⟩
 have NB : Aside0 (Below base w ((((w2.setCell ⟨ob, hd.toNat * 4, none⟩ (.int .u64 (orS x g).f0)).setCell ⟨ob, hd.toNat * 4 + 1, none⟩ (.int .u64 (orS x g).f1)).setCell ⟨ob, hd.toNat * 4 + 2, none⟩ (.int .u64 (orS x g).f2)).setCell ⟨ob, hd.toNat * 4 + 3, none⟩ (.int .u64 (orS x g).f3))) := ⟨((((((B0.out.trans (HB1.out.mono B0.out.size)).trans (HB2.out.mono (Nat.le_trans B0.out.size HB1.out.size))).mono (by omega)).setCell (p := ⟨ob, _, none⟩) hb _).setCell (p := ⟨ob, _, none⟩) hb _).setCell (p := ⟨ob, _, none⟩) hb _).setCell (p := ⟨ob, _, none⟩) hb _⟩
 have NK : Aside0 (KeepBut w ((((w2.setCell ⟨ob, hd.toNat * 4, none⟩ (.int .u64 (orS x g).f0)).setCell ⟨ob, hd.toNat * 4 + 1, none⟩ (.int .u64 (orS x g).f1)).setCell ⟨ob, hd.toNat * 4 + 2, none⟩ (.int .u64 (orS x g).f2)).setCell ⟨ob, hd.toNat * 4 + 3, none⟩ (.int .u64 (orS x g).f3)) ob none) := ⟨((((KeepBut.of_below (B0.out.trans ((HB1.out.mono B0.out.size).trans (HB2.out.mono (Nat.le_trans B0.out.size HB1.out.size)))) ob none).set_ _ _).set_ _ _).set_ _ _).set_ _ _⟩
 clear m0 m1 m2 m3 v0 v1 v2 v3 d0 d1 d2 d3
 generalize ((((w2.setCell ⟨ob, hd.toNat * 4, none⟩ (.int .u64 (orS x g).f0)).setCell ⟨ob, hd.toNat * 4 + 1, none⟩ (.int .u64 (orS x g).f1)).setCell ⟨ob, hd.toNat * 4 + 2, none⟩ (.int .u64 (orS x g).f2)).setCell ⟨ob, hd.toNat * 4 + 3, none⟩ (.int .u64 (orS x g).f3)) = W2 at *
 have hr2 : ∀ j, j < 4 → W2.cell? ⟨ob, hd.toNat * 4 + j, none⟩ = (encS (orS x g))[j]? := fun j hj => (blk_cell N1.out (hd.toNat * 4 + j)).trans ((rowV_get encS_len (s.set hd.toNat (orS x g)) hd.toNat j (by rw [List.length_set]; exact hdn) hj).trans (by rw [List.getElem_set_self]))
 have p0 : Aside0 (W2.drew.cell? ⟨ob, hd.toNat * 4, none⟩ = some (.int .u64 (orS x g).f0)) := ⟨hr2 0 (by omega)⟩
 have p1 : Aside0 (W2.drew.cell? ⟨ob, hd.toNat * 4 + 1, none⟩ = some (.int .u64 (orS x g).f1)) := ⟨hr2 1 (by omega)⟩
 have p2 : Aside0 (W2.drew.cell? ⟨ob, hd.toNat * 4 + 2, none⟩ = some (.int .u64 (orS x g).f2)) := ⟨hr2 2 (by omega)⟩
 have p3 : Aside0 (W2.drew.cell? ⟨ob, hd.toNat * 4 + 3, none⟩ = some (.int .u64 (orS x g).f3)) := ⟨hr2 3 (by omega)⟩
 clear hr2
 have HS2 : Aside0 (stepF e hd q s = s.set hd.toNat (orS x g)) := ⟨by rw [HST.out, HG.out]⟩
 clear HST
 generalize orS x g = y at *
 go_wp2
 refine start_ (n := 7) (S := fun w' => w'.cell? ⟨bx, 0, none⟩ = some (.slice (some ⟨ob, 0, none⟩) s.length s.length) ∧ w'.cell? ⟨w.heap.size, 0, none⟩ = some (.int .u64 x.f0) ∧ w'.cell? ⟨w.heap.size, 1, none⟩ = some (.int .u64 x.f1) ∧ w'.cell? ⟨w.heap.size, 2, none⟩ = some (.int .u64 x.f2) ∧ w'.cell? ⟨w.heap.size, 3, none⟩ = some (.int .u64 x.f3) ∧ w'.cell? ⟨ob, hd.toNat * 4, none⟩ = some (.int .u64 y.f0) ∧ w'.cell? ⟨ob, hd.toNat * 4 + 1, none⟩ = some (.int .u64 y.f1) ∧ w'.cell? ⟨ob, hd.toNat * 4 + 2, none⟩ = some (.int .u64 y.f2) ∧ w'.cell? ⟨ob, hd.toNat * 4 + 3, none⟩ = some (.int .u64 y.f3)) (ds := []) #[false, false, false, false, false, false, false] (by kernel_rfl) rfl rfl ⟨(blk_cell (blk_drew N3.out) 0).trans rfl, (blk_cell (blk_drew N2.out) 0).trans rfl, (blk_cell (blk_drew N2.out) 1).trans rfl, (blk_cell (blk_drew N2.out) 2).trans rfl, (blk_cell (blk_drew N2.out) 3).trans rfl, p0.out, p1.out, p2.out, p3.out⟩ (fun hHeld => ?_)
 refine with_tabW fe_turn34.tab3 fe_turn34.bits3 (fun HT_ HW_ => ?_)
 refine pure_ (i := 1) (N := some 22) (v := ?_) (a' := ?_) #[false, true, false, false, false, false, false] rfl rfl (any_of HT_.out (by kernel_rfl)) (fun _ _ _ h => h) (Or.inl ⟨by rfl, ?_⟩) ?_ ?_
 rotate_left
 ·intro w'
  go_simp
  with_reducible rfl
 rotate_left
 ·simp only [Act.put, List.setIfInBounds_toArray, List.set_cons_zero, List.set_cons_succ, i64_w, i32_w]
  rfl
 refine take_ (i := 0) (N := some 21) (v := ?_) (a' := ?_) #[true, true, false, false, false, false, false] rfl rfl (take_ofW HT_.out HW_.out (by kernel_rfl)) (fun _ _ _ h => h) (Or.inl ⟨by rfl, ?_⟩) hHeld ?_ ?_
 rotate_left
 ·rintro w' ⟨s0, s1, s2, s3, s4, s5, s6, s7, s8⟩
  go_simp
  with_reducible rfl
 rotate_left
 ·simp only [Act.put, List.setIfInBounds_toArray, List.set_cons_zero, List.set_cons_succ, i64_w, i32_w]
  rfl
 refine pure_ (i := 2) (N := some 23) (v := ?_) (a' := ?_) #[true, true, true, false, false, false, false] rfl rfl (any_of HT_.out (by kernel_rfl)) (fun _ _ _ h => h) (Or.inl ⟨by rfl, ?_⟩) ?_ ?_
 rotate_left
 ·intro w'
  go_simp
  with_reducible rfl
 rotate_left
 ·simp only [Act.put, List.setIfInBounds_toArray, List.set_cons_zero, List.set_cons_succ, i64_w, i32_w]
  rfl
 refine take_ (i := 3) (N := some 24) (v := ?_) (a' := ?_) #[true, true, true, true, false, false, false] rfl rfl (take_ofW HT_.out HW_.out (by kernel_rfl)) (fun _ _ _ h => h) (Or.inl ⟨by rfl, ?_⟩) hHeld ?_ ?_
 rotate_left
 ·rintro w' ⟨s0, s1, s2, s3, s4, s5, s6, s7, s8⟩
  go_simp
  with_reducible rfl
 rotate_left
 ·simp only [Act.put, List.setIfInBounds_toArray, List.set_cons_zero, List.set_cons_succ, i64_w, i32_w]
  rfl
 refine take_ (i := 4) (N := some 25) (v := ?_) (a' := ?_) #[true, true, true, true, true, false, false] rfl rfl (take_ofW HT_.out HW_.out (by kernel_rfl)) (fun _ _ _ h => h) (Or.inl ⟨by rfl, ?_⟩) hHeld ?_ ?_
 rotate_left
 ·rintro w' ⟨s0, s1, s2, s3, s4, s5, s6, s7, s8⟩
  go_simp
  with_reducible rfl
 rotate_left
 ·simp only [Act.put, List.setIfInBounds_toArray, List.set_cons_zero, List.set_cons_succ, i64_w, i32_w]
  rfl
 refine pure_ (i := 5) (N := some 26) (v := ?_) (a' := ?_) #[true, true, true, true, true, true, false] rfl rfl (any_of HT_.out (by kernel_rfl)) (fun _ _ _ h => h) (Or.inl ⟨by rfl, ?_⟩) ?_ ?_
 rotate_left
 ·intro w'
  go_simp
  with_reducible rfl
 rotate_left
 ·simp only [Act.put, List.setIfInBounds_toArray, List.set_cons_zero, List.set_cons_succ, i64_w, i32_w]
  rfl
 refine pure_ (i := 6) (N := some 6) (v := ?_) (a' := ?_) #[true, true, true, true, true, true, true] rfl rfl (any_of HT_.out (by kernel_rfl)) (fun _ _ _ h => h) (Or.inl ⟨by rfl, ?_⟩) ?_ ?_
 rotate_left
 ·intro w'
  go_simp
  with_reducible rfl
 rotate_left
 ·simp only [Act.put, List.setIfInBounds_toArray, List.set_cons_zero, List.set_cons_succ, i64_w, i32_w]
  rfl
 refine done_ (done_of HT_.out (by kernel_rfl)) ?_
 go_wp2
 go_ret
 have hq : (!y.f0 == x.f0 || (!y.f1 == x.f1 || (!y.f2 == x.f2 || !y.f3 == x.f3))) = !(eqS y x) := by unfold eqS; simp only [Bool.not_and]
 rw [hq, HS2.out]
 refine ⟨_, rfl, blk_drew N1.out, keep_drew NK.out, NB.out.drew, fun hb => ?_, fun hb => ?_⟩
 ·have : y = x := (eqS_iff y x).1 (by simpa using hb)
  rw [this, ← HXX.out]
  exact List.set_getElem_self hdn
 ·intro hh
  have : y = x := by
   have h2 : (s.set hd.toNat y)[hd.toNat]? = s[hd.toNat]? := by rw [hh]
   rw [List.getElem?_set_self hdn, List.getElem?_eq_getElem hdn, HXX.out] at h2
   exact Option.some.inj h2
  rw [(eqS_iff y x).2 this] at hb
  cases hb
set_option maxHeartbeats 4000000 in
theorem fe_each34 {σ : Type} (μ : σ → Nat) (step : Int → List S68 → σ → σ) (R : σ → World → Prop) (gb ob : Nat) (Ar : Option Addr) (cr : Nat) (rs : List S55) (p0_ p1_ : Addr) (w0 : World) (hC : Kd.C k55 w0 Ar rs.length rs) (hrl : rs.length ≤ 256) (hcl : ∀ r ∈ rs, r.f1.length ≤ 8)
  (hRa : ∀ s w1 o, R s w1 → R s (w1.alloc o)) (hRg : ∀ s w1, R s w1 → w1.cell? ⟨gb, 2, none⟩ = some (.slice Ar rs.length cr))
  (hturn : ∀ r ∈ rs, ∀ cj ∈ r.f1, ∀ s w1 A c, R s w1 → Below w0.heap.size w0 w1 → Kd.C k68 w0 A cj.f1.length cj.f1 → cj.f1.length ≤ c → Calls Try.prog 34 #[.int .i64 r.f0, .slice A cj.f1.length c, .pointer (some p0_), .pointer (some p1_)] w1 fun e w' => ∃ b, e = .returned (.bool b) ∧ R (step r.f0 cj.f1 s) w' ∧ KeepBut w1 w' ob none ∧ Below w0.heap.size w0 w' ∧ (b = false → step r.f0 cj.f1 s = s) ∧ (b = true → μ (step r.f0 cj.f1 s) < μ s))
  (s0 : σ) (w : World) (h0 : R s0 w) (hob : ob < w.heap.size) (hb0 : Below w0.heap.size w0 w) :
  Calls Try.prog 30 #[.pointer (some ⟨gb, 0, none⟩), .func (.func 34) #[] #[.pointer (some p0_), .pointer (some p1_)]] w fun e w' => e = .returned (.tuple #[]) ∧ (∃ m, R (iterT (passT step rs) m s0) w' ∧ passT step rs (iterT (passT step rs) m s0) = iterT (passT step rs) m s0) ∧ Below w0.heap.size w0 w' := by
 have HC := Aside0.mk hC
 have HCL := Aside0.mk hcl
 have HRA := Aside0.mk hRa
 have HRG := Aside0.mk hRg
 have HT := Aside0.mk hturn
 have H0 := Aside0.mk h0
 have HB0 := Aside0.mk hb0
 clear hC hcl hRa hRg hturn h0 hb0
 go_enter Try.func30, Try.ntmps30
 go_wp2
 go_loopg [4] (μ s0 + 1) (fun kq v4 wr => ∃ (s : σ) (b : Bool), v4 = .bool b ∧ Aside0 (∃ m, s = iterT (passT step rs) m s0) ∧ Aside0 (b = false → passT step rs s = s) ∧ Aside0 (R s wr) ∧ Aside0 (Below w0.heap.size w0 wr) ∧ ob < wr.heap.size ∧ Aside0 (μ s + b.toNat ≤ kq))
 case atStart => exact ⟨s0, true, rfl, ⟨0, rfl⟩, ⟨fun h => by cases h⟩, ⟨H0.out⟩, ⟨HB0.out⟩, hob, ⟨Nat.le_refl _⟩⟩
 case round =>
  clear H0 HB0
  obtain ⟨s, b, rfl, HM, HF, HR, HB, hob2, HK⟩ := hrel
  cases b with
  | false =>
   go_wp2
   go_end0
   refine ⟨rfl, ?_, HB.out⟩
   obtain ⟨m, rfl⟩ := HM.out
   exact ⟨m, HR.out, HF.out trivial⟩
  | true =>
   have g2 := HRG.out _ _ HR.out
   obtain ⟨wo, rfl⟩ : ∃ wo : World, wo = wr := ⟨_, rfl⟩
   go_wp2
   go_loopw [15, 4] (fun v v4 wi => ∃ (i : Nat) (s2 : σ) (b2 : Bool), i ≤ rs.length ∧ v = .int .i64 i ∧ v4 = .bool b2 ∧ Aside0 (s2 = passT step (rs.take i) s) ∧ Aside0 (b2 = false → s2 = s) ∧ Aside0 (b2 = true → μ s2 < μ s) ∧ Aside0 (R s2 wi) ∧ Aside0 (Below w0.heap.size w0 wi) ∧ ob < wi.heap.size) (fun v _ _ => rs.length - (intOf v).toNat)
   case atStart => exact ⟨0, s, false, by omega, rfl, rfl, ⟨rfl⟩, ⟨fun _ => rfl⟩, ⟨fun h => by cases h⟩, ⟨HR.out⟩, ⟨HB.out⟩, hob2⟩
   case round =>
    obtain ⟨i, s2, b2, hi, rfl, rfl, HS, HF2, HM2, HR2, HB2, hob3⟩ := hrel
    by_cases hlt : i < rs.length
    ·obtain ⟨ad, A1, c1, eA, q0, q1, hc1, hC1⟩ := at_T55 HC.out (i : Int) (by omega) (by omega)
     rw [fe_rdrule _ _ hlt] at q0 q1 hc1 hC1
     rw [Int.toNat_natCast] at q0 q1
     replace q0 := pw_cell_below HB2.out q0
     replace q1 := pw_cell_below HB2.out q1
     subst eA
     have HX := Aside0.mk (fe_passT_take step rs i hlt s)
     have hmem := List.getElem_mem hlt
     generalize rs[i] = x at *
     have HC1 := Aside0.mk hC1
     have hxl := HCL.out x hmem
     have HME := Aside0.mk hmem
     clear hC1 hmem
     have r1 := World.new_ne wr _ q0
     have r2 := World.new_ne wr _ q1
     obtain ⟨wp, rfl⟩ : ∃ wp : World, wp = wr := ⟨_, rfl⟩
     go_wp2
     go_loopw [22, 4] (fun v v4 wj => ∃ (j : Nat) (s3 : σ) (b3 : Bool), j ≤ x.f1.length ∧ v = .int .i64 j ∧ v4 = .bool b3 ∧ Aside0 (s3 = passC step x.f0 (x.f1.take j) s2) ∧ Aside0 (b3 = false → s3 = s) ∧ Aside0 (b3 = true → μ s3 < μ s) ∧ Aside0 (R s3 wj) ∧ Aside0 (wj.heap[wp.heap.size]? = some (.cells #[.int .i64 x.f0, .slice A1 x.f1.length c1] 55 (0, 0))) ∧ Aside0 (Below w0.heap.size w0 wj) ∧ ob < wp.heap.size) (fun v _ _ => x.f1.length - (intOf v).toNat)
     case atStart => exact ⟨0, s2, b2, by omega, rfl, rfl, ⟨rfl⟩, ⟨HF2.out⟩, ⟨HM2.out⟩, ⟨HRA.out _ _ _ HR2.out⟩, ⟨blk_new _ _⟩, ⟨HB2.out.alloc HB2.out.size _⟩, hob3⟩
     case round =>
      obtain ⟨j, s3, b3, hj, rfl, rfl, HS3, HF3, HM3, HR3, HK3, HB3, hob4⟩ := hrel
      by_cases hjl : j < x.f1.length
      ·obtain ⟨ad2, A2, c2, eA2, p0, p1, hc2, hC2⟩ := at_T58 HC1.out (j : Int) (by omega) (by omega)
       rw [fe_rdconj _ _ hjl] at p0 p1 hc2 hC2
       rw [Int.toNat_natCast] at p0 p1
       replace p0 := pw_cell_below HB3.out p0
       replace p1 := pw_cell_below HB3.out p1
       subst eA2
       have HY := Aside0.mk (fe_passC_take step x.f0 x.f1 j hjl s2)
       have hmem := List.getElem_mem hjl
       generalize x.f1[j] = y at *
       have HC2 := Aside0.mk hC2
       have HMY := Aside0.mk hmem
       clear hC2 hmem
       have t1 := World.new_ne wr _ p0
       have t2 := World.new_ne wr _ p1
       have k0 : wr.cell? ⟨wp.heap.size, 0, none⟩ = some (.int .i64 x.f0) := (blk_cell HK3.out 0).trans rfl
       have l0 := World.block_lt_of_cell? _ _ k0
       have hsz := HB3.out.size
       have HLE : Aside0 (μ s3 ≤ μ s) := ⟨by
        cases b3 with
        | false => rw [HF3.out rfl]; exact Nat.le_refl _
        | true => exact Nat.le_of_lt (HM3.out rfl)⟩
       obtain ⟨wq, rfl⟩ : ∃ wq : World, wq = wr := ⟨_, rfl⟩
       go_wp2_with (first
        | (go_at_call 34; refine (HT.out x HME.out y HMY.out s3 _ _ _ (HRA.out _ _ _ HR3.out) (HB3.out.alloc hsz _) HC2.out hc2).mono ?_; rintro e w1 ⟨bb, rfl, g1, gk, g2, g3, g4⟩; have G1 := Aside0.mk g1; have GK := Aside0.mk gk; have G2 := Aside0.mk g2; have G3 := Aside0.mk g3; have G4 := Aside0.mk g4; clear g1 gk g2 g3 g4; cases bb))
       all_goals
        go_wp2
        go_roundw
        case measure => simp [intOf]; omega
        case rel =>
         first
          | exact ⟨j + 1, step x.f0 y.f1 s3, true, by omega, by go_num, rfl, ⟨by rw [HY.out, ← HS3.out]⟩, ⟨fun h => by cases h⟩, ⟨fun _ => Nat.lt_of_lt_of_le (G4.out (by first | rfl | trivial)) HLE.out⟩, ⟨G1.out⟩, ⟨GK.out.blk (blk_alloc HK3.out _) (by omega) (by simp)⟩, ⟨G2.out⟩, hob4⟩
          | exact ⟨j + 1, step x.f0 y.f1 s3, b3, by omega, by go_num, rfl, ⟨by rw [HY.out, ← HS3.out]⟩, ⟨fun h => (G3.out (by first | rfl | trivial)).trans (HF3.out h)⟩, ⟨fun h => by rw [G3.out (by first | rfl | trivial)]; exact HM3.out h⟩, ⟨G1.out⟩, ⟨GK.out.blk (blk_alloc HK3.out _) (by omega) (by simp)⟩, ⟨G2.out⟩, hob4⟩
      ·obtain rfl : j = x.f1.length := by omega
       rw [List.take_length] at HS3
       go_wp2
       go_roundw
       case rel => exact ⟨i + 1, s3, b3, by omega, by go_num, rfl, ⟨by rw [HX.out, ← HS.out]; exact HS3.out⟩, ⟨HF3.out⟩, ⟨HM3.out⟩, ⟨HR3.out⟩, ⟨HB3.out⟩, by have := blk_lt HK3.out; omega⟩
       case measure => simp [intOf]; omega
    ·obtain rfl : i = rs.length := by omega
     rw [List.take_length] at HS
     go_wp2
     have hms : b2.toNat + μ s2 < μ s + 1 := by
      cases b2 with
      | false => have := HF2.out rfl; subst this; simp
      | true => have := HM2.out rfl; simp; omega
     have hkq := HK.out
     simp only [Bool.toNat_true] at hkq
     go_roundg (b2.toNat + μ s2)
     case measure => omega
     case rel => exact ⟨s2, b2, rfl, ⟨by obtain ⟨m, rfl⟩ := HM.out; exact ⟨m + 1, HS.out⟩⟩, ⟨fun h => by have := HF2.out h; rw [this, ← HS.out]; exact this⟩, ⟨HR2.out⟩, ⟨HB2.out⟩, hob3, ⟨by omega⟩⟩

def WfS (x : S63) : Prop := wf4 x.f0 x.f1 x.f2 x.f3
def bitS (x : S63) (k : Nat) : Bool := memb x.f0 x.f1 x.f2 x.f3 k
theorem fe_orset (p q : Nat → Bool) (i : Nat) : Go.bits .or .u64 (setW p i) (setW q i) = setW (fun k => p k || q k) i := by
 unfold setW
 rw [u64_or _ _ (bsum_lt _ _) (bsum_lt _ _)]
 congr 1
 apply eq_of_bits (Nat.or_lt_two_pow (bsum_lt _ _) (bsum_lt _ _)) (bsum_lt _ _)
 intro j hj
 rw [Nat.testBit_or, bsum_testBit, bsum_testBit, bsum_testBit]
 simp [hj]
def ofP (p : Nat → Bool) : S63 := ⟨setW p 0, setW p 1, setW p 2, setW p 3⟩
theorem ofP_wf (p : Nat → Bool) : WfS (ofP p) := setW_wf p
theorem ofP_bit (p : Nat → Bool) (k : Nat) (hk : k < 256) : bitS (ofP p) k = p k := memb_setW p k hk
theorem ofP_of {x : S63} (h : WfS x) : ofP (bitS x) = x := by
 obtain ⟨h1, h2, h3, h4⟩ := setW_memb h
 cases x
 unfold ofP bitS
 simp only at h1 h2 h3 h4 ⊢
 rw [h1, h2, h3, h4]
theorem ofP_or (p q : Nat → Bool) : orS (ofP p) (ofP q) = ofP (fun k => p k || q k) := by
 unfold orS ofP
 simp only [fe_orset]
theorem orS_bit {a b : S63} (ha : WfS a) (hb : WfS b) : WfS (orS a b) ∧ ∀ k, k < 256 → bitS (orS a b) k = (bitS a k || bitS b k) := by
 rw [← ofP_of ha, ← ofP_of hb, ofP_or]
 refine ⟨ofP_wf _, fun k hk => ?_⟩
 rw [ofP_bit _ _ hk, ofP_bit _ _ hk, ofP_bit _ _ hk]
theorem S_ext {a b : S63} (ha : WfS a) (hb : WfS b) (h : ∀ k, k < 256 → bitS a k = bitS b k) : a = b := by
 rw [← ofP_of ha, ← ofP_of hb]
 unfold ofP
 rw [setW_congr h 0 (by omega), setW_congr h 1 (by omega), setW_congr h 2 (by omega), setW_congr h 3 (by omega)]
theorem rangeS_wf (lo hi : Int) : WfS (rangeS lo hi) := ofP_wf _
theorem rangeS_bit (lo hi : Int) (k : Nat) (hk : k < 256) : bitS (rangeS lo hi) k = rangeP lo hi k := ofP_bit _ k hk
theorem z63_wf : WfS z63 := by unfold WfS z63; decide
theorem z63_bit (k : Nat) (hk : k < 256) : bitS z63 k = false := by
 have : z63 = ofP (fun _ => false) := by unfold ofP z63; rw [setW_false, setW_false, setW_false, setW_false]
 rw [this, ofP_bit _ _ hk]
/-- Byte k among those that may come first. -/
def begB (k : Nat) (e t : List Bool) : List S68 → Bool
 | [] => false
 | s :: q => if s.f0 < 0 then rangeP s.f1 s.f2 k else t.getD s.f0.toNat false || (if e.getD s.f0.toNat false = true then begB k e t q else false)
def bitL (k : Nat) (s : List S63) : List Bool := s.map (fun x => bitS x k)
theorem bitL_get (k : Nat) (hk : k < 256) (s : List S63) (i : Nat) : (bitL k s).getD i false = bitS (s.getD i z63) k := by
 unfold bitL
 rw [List.getD_eq_getElem?_getD, List.getElem?_map, List.getD_eq_getElem?_getD]
 cases s[i]? with
 | none => exact (z63_bit k hk).symm
 | some x => rfl
def WfL (s : List S63) : Prop := ∀ x ∈ s, WfS x
theorem wfL_get {s : List S63} (h : WfL s) (i : Nat) : WfS (s.getD i z63) := by
 rw [List.getD_eq_getElem?_getD]
 cases e : s[i]? with
 | none => exact z63_wf
 | some x => exact h x (List.mem_of_getElem? e)
theorem begA_bit (e : List Bool) (s : List S63) (hs : WfL s) : ∀ (q : List S68) (out : S63), WfS out → WfS (begA e s out q) ∧ ∀ k, k < 256 → bitS (begA e s out q) k = (bitS out k || begB k e (bitL k s) q)
 | [], out, ho => ⟨ho, fun k _ => by unfold begA begB; rw [Bool.or_false]⟩
 | x :: q, out, ho => by
  unfold begA begB
  by_cases h : x.f0 < 0
  ·rw [if_pos h]
   obtain ⟨h1, h2⟩ := orS_bit ho (rangeS_wf x.f1 x.f2)
   exact ⟨h1, fun k hk => by rw [h2 k hk, rangeS_bit _ _ _ hk, if_pos h]⟩
  ·rw [if_neg h]
   obtain ⟨h1, h2⟩ := orS_bit ho (wfL_get hs x.f0.toNat)
   by_cases he : e.getD x.f0.toNat false = true
   ·rw [if_pos he]
    obtain ⟨h3, h4⟩ := begA_bit e s hs q _ h1
    exact ⟨h3, fun k hk => by rw [h4 k hk, h2 k hk, if_neg h, if_pos he, bitL_get k hk, Bool.or_assoc]⟩
   ·rw [if_neg he]
    exact ⟨h1, fun k hk => by rw [h2 k hk, if_neg h, if_neg he, bitL_get k hk, Bool.or_false]⟩
def stepB (k : Nat) (e : List Bool) (h : Int) (q : List S68) (t : List Bool) : List Bool := stepG h.toNat (begB k e t q) t
theorem stepF_wf {e : List Bool} {h : Int} {q : List S68} {s : List S63} (hs : WfL s) : WfL (stepF e h q s) := by
 intro x hx
 rcases List.mem_or_eq_of_mem_set hx with hx | rfl
 ·exact hs x hx
 ·exact (orS_bit (wfL_get hs _) (begA_bit e s hs q z63 z63_wf).1).1
theorem stepF_bit {e : List Bool} {h : Int} {q : List S68} {s : List S63} (hs : WfL s) (hh : h.toNat < s.length) (k : Nat) (hk : k < 256) : bitL k (stepF e h q s) = stepB k e h q (bitL k s) := by
 obtain ⟨h1, h2⟩ := begA_bit e s hs q z63 z63_wf
 unfold stepB
 rw [← stepG_set _ _ _ (by unfold bitL; rw [List.length_map]; exact hh), bitL_get k hk]
 unfold stepF bitL
 rw [List.map_set, (orS_bit (wfL_get hs _) h1).2 k hk, h2 k hk, z63_bit k hk, Bool.false_or]
 rfl
theorem stepF_len (e : List Bool) (h : Int) (q : List S68) (s : List S63) : (stepF e h q s).length = s.length := List.length_set
def InF (n : Nat) (s : List S63) : Prop := s.length = n ∧ WfL s
theorem inF_step {n : Nat} {e : List Bool} {h : Int} {q : List S68} {s : List S63} (hs : InF n s) : InF n (stepF e h q s) := ⟨by rw [stepF_len]; exact hs.1, stepF_wf hs.2⟩
theorem inF_ext {n : Nat} {s s' : List S63} (h : InF n s) (h' : InF n s') (hb : ∀ k, k < 256 → bitL k s = bitL k s') : s = s' := by
 refine List.ext_getElem (h.1.trans h'.1.symm) (fun i h1 h2 => S_ext (h.2 _ (List.getElem_mem h1)) (h'.2 _ (List.getElem_mem h2)) (fun k hk => ?_))
 have e := congrArg (fun l => l[i]?) (hb k hk)
 simp only [bitL, List.getElem?_map, List.getElem?_eq_getElem h1, List.getElem?_eq_getElem h2, Option.map_some, Option.some.injEq] at e
 exact e
theorem stepF_mu {n : Nat} {e : List Bool} {h : Int} {q : List S68} {s : List S63} (hs : InF n s) (hh : h.toNat < n) (hne : stepF e h q s ≠ s) : 256 * n - chC 256 bitL (stepF e h q s) < 256 * n - chC 256 bitL s := by
 have hl : ∀ {s : List S63}, InF n s → ∀ k, k < 256 → (bitL k s).length = n := fun hs k _ => by unfold bitL; rw [List.length_map]; exact hs.1
 have h1 := (chan_step (f := stepF e h q) (φ := fun k t => stepB k e h q t) (b := bitL) (K := 256) (s := s) (fun k hk => stepF_bit hs.2 (by rw [hs.1]; exact hh) k hk) (fun k hk => stepG_cnt _ _ _ (by rw [hl hs k hk]; exact hh)) (fun hb => inF_ext (inF_step hs) hs hb)).resolve_left hne
 have h2 := chC_le 256 n bitL (stepF e h q s) (hl (inF_step hs))
 omega
def startF (n : Nat) : List S63 := List.replicate n z63
theorem startF_in (n : Nat) : InF n (startF n) := ⟨List.length_replicate, fun x hx => by rw [(List.mem_replicate.1 hx).2]; exact z63_wf⟩
theorem passT_chan {σ : Type} (step : Int → List S68 → σ → σ) (φ : Int → List S68 → List Bool → List Bool) (b : σ → List Bool) (I : σ → Prop) (rs : List S55) (hI : ∀ r ∈ rs, ∀ c ∈ r.f1, ∀ s, I s → I (step r.f0 c.f1 s)) (hb : ∀ r ∈ rs, ∀ c ∈ r.f1, ∀ s, I s → b (step r.f0 c.f1 s) = φ r.f0 c.f1 (b s)) (s : σ) (h : I s) : b (passT step rs s) = passT φ rs (b s) ∧ I (passT step rs s) := by
 have hc : ∀ r ∈ rs, ∀ s, I s → b (passC step r.f0 r.f1 s) = passC φ r.f0 r.f1 (b s) ∧ I (passC step r.f0 r.f1 s) := fun r hr s hs =>
  fold_chan (fun s (c : S58) => step r.f0 c.f1 s) (fun t c => φ r.f0 c.f1 t) b I r.f1 (fun s c hc h => hI r hr c hc s h) (fun s c hc h => hb r hr c hc s h) s hs
 exact fold_chan (fun s (r : S55) => passC step r.f0 r.f1 s) (fun t r => passC φ r.f0 r.f1 t) b I rs (fun s r hr h => (hc r hr s h).2) (fun s r hr h => (hc r hr s h).1) s h
theorem passF_stand (n : Nat) (e : List Bool) (rs : List S55) (hr : ∀ r ∈ rs, r.f0.toNat < n) : passT (stepF e) rs (iterT (passT (stepF e) rs) (n + 1) (startF n)) = iterT (passT (stepF e) rs) (n + 1) (startF n) := by
 have hp : ∀ k, k < 256 → ∀ s, InF n s → bitL k (passT (stepF e) rs s) = passT (stepB k e) rs (bitL k s) ∧ InF n (passT (stepF e) rs s) := fun k hk s hs =>
  passT_chan (stepF e) (stepB k e) (bitL k) (InF n) rs (fun r _ c _ s h => inF_step h) (fun r hm c _ s h => stepF_bit h.2 (by rw [h.1]; exact hr r hm) k hk) s hs
 refine chan_stand _ (fun k => passT (stepB k e) rs) bitL (InF n) 256 n (fun s hs => (hp 0 (by omega) s hs).2) (fun k hk s hs => (hp k hk s hs).1) (fun k _ s hs => by unfold bitL; rw [List.length_map]; exact hs.1) (fun k hk t ht => ?_) (fun s s' h h' hb => inF_ext h h' hb) _ (startF_in n)
 exact (pass_cnt (stepB k e) (fun t => t.count true) (fun t => t.length = n) rs (fun r _ c _ s h => by unfold stepB; rw [stepG_len]; exact h) (fun r hm c _ s h => stepG_cnt _ _ _ (by rw [h]; exact hr r hm)) t ht).1
def firstL (ns : List ByteArray) (rs : List S55) : List S63 := iterT (passT (stepF (emptyL ns rs)) rs) (ns.length + 1) (startF ns.length)
theorem emptyL_len (ns : List ByteArray) (rs : List S55) : (emptyL ns rs).length = ns.length := by
 unfold emptyL
 rw [iterT_len _ (fun s => passT_len stepE stepE_len rs s)]
 unfold startE
 rw [List.length_replicate]
theorem made_rowF (n : Nat) : madeCells #[.int .u64 0, .int .u64 0, .int .u64 0, .int .u64 0] (n * 4) = rowV encS (startF n) := by
 apply Array.ext'
 apply List.ext_getElem?
 intro i
 by_cases hi : i < n * 4
 ·have h1 : (rowV encS (startF n))[i / 4 * 4 + i % 4]? = (encS ((startF n)[i / 4]'(by unfold startF; rw [List.length_replicate]; omega)))[i % 4]? := rowV_get encS_len (startF n) (i / 4) (i % 4) (by unfold startF; rw [List.length_replicate]; omega) (Nat.mod_lt _ (by decide))
  rw [show i / 4 * 4 + i % 4 = i from by omega] at h1
  rw [Array.getElem?_toList, Array.getElem?_toList, h1]
  unfold startF
  rw [List.getElem_replicate]
  have h2 : i % 4 = 0 ∨ i % 4 = 1 ∨ i % 4 = 2 ∨ i % 4 = 3 := by omega
  unfold madeCells
  rw [Array.getElem?_map, Array.getElem?_range, if_pos hi]
  simp only [Option.map_some]
  rcases h2 with h2 | h2 | h2 | h2 <;> (show some (#[Value.int IntKind.u64 0, .int .u64 0, .int .u64 0, .int .u64 0][i % 4]!) = _; rw [h2]; rfl)
 ·have h1 : (madeCells #[.int .u64 0, .int .u64 0, .int .u64 0, .int .u64 0] (n * 4)).toList.length ≤ i := by simp [madeCells]; omega
  have h2 : (rowV encS (startF n)).toList.length ≤ i := by
   unfold rowV
   have := rowV_len encS_len (startF n)
   unfold startF at this ⊢
   rw [List.length_replicate] at this
   simp only [List.toList_toArray]
   omega
  rw [List.getElem?_eq_none h1, List.getElem?_eq_none h2]
theorem fe_make33 (n : Nat) (hn : n ≤ 64) (W : World) : (Instr.makeSlice 33 (.int .i64 (n : Int)) (.int .i64 (n : Int))).run Try.prog W = .ok (.slice (some ⟨W.heap.size, 0, none⟩) n n) (W.alloc (.cells (rowV encS (startF n)) 63)) := by
 obtain ⟨i0, hi, hz0, hz1, hz2⟩ := info_parts fe_info63
 have h := run_makeSlice (P := Try.prog) (w := W) 33 63 i0 _ Try.underlying33 hi hz0 .i64 .i64 (n : Int) (n : Int) (by omega) (by omega) (by rw [hz1]; omega) (by rw [hz2]; omega) (by omega)
 rw [hz1] at h
 rw [h, ← made_rowF]
 rfl
def first_First.f (a0_0 : Int) (l0_1 : List ByteArray) (l0_2 : List (S55)) : Option (List S63 × Int) := some (if mayB a0_0 l0_1 l0_2 then (firstL l0_1 l0_2, 0) else ([], 1200))
def FiR (gb bx ob ex n base : Nat) (cs : Array Value) (Ae : Option Addr) (ce : Nat) (e : List Bool) (s : List S63) (W : World) : Prop := W.heap[gb]? = some (.cells cs 25 (0, 0)) ∧ W.heap[bx]? = some (.cells #[.slice (some ⟨ob, 0, none⟩) n n] 33 (0, 0)) ∧ W.heap[ob]? = some (.cells (rowV encS s) 63 (0, 0)) ∧ W.heap[ex]? = some (.cells #[.slice Ae n ce] 27 (0, 0)) ∧ Kd.R Kd.bool 4 W base (fun k => k ≠ ob) (.slice Ae n ce) e ∧ InF n s
set_option maxHeartbeats 8000000 in
set_option maxRecDepth 100000 in
theorem first_First.calls (a0_0 : Int) (A0_1 : Option Addr) (c0_1 : Nat) (l0_1 : List ByteArray) (A0_2 : Option Addr) (c0_2 : Nat) (l0_2 : List (S55)) (r1 : List (S63)) (r2 : Int) (w : World) (hr0_1 : Kd.C Kd.string w A0_1 l0_1.length l0_1) (hc0_1 : l0_1.length ≤ c0_1) (hr0_2 : Kd.C k55 w A0_2 l0_2.length l0_2) (hc0_2 : l0_2.length ≤ c0_2) (h : first_First.f a0_0 l0_1 l0_2 = some (r1, r2)) :
  Calls Try.prog 12 #[.agg #[.int .i64 a0_0, .slice A0_1 l0_1.length c0_1, .slice A0_2 l0_2.length c0_2]] w fun e w' => ∃ v0_ : Value, e = .returned (.tuple #[v0_, .int .i64 r2]) ∧ Kd.R k63 63 w' w.heap.size (fun _ => True) v0_ r1 ∧ Below w.heap.size w w' := by
 have h := Option.some.inj h
 have H1 := Aside0.mk hr0_1
 have H2 := Aside0.mk hr0_2
 clear hr0_1 hr0_2
 cases hm : mayB a0_0 l0_1 l0_2 with
 | false =>
  rw [hm, if_neg (by decide)] at h
  obtain ⟨rfl, rfl⟩ := Prod.mk.inj h
  have HM : Aside0 (first_Empty.f a0_0 l0_1 l0_2 = some ([], 1200)) := ⟨by unfold first_Empty.f; rw [hm, if_neg (by decide)]⟩
  clear h hm
  go_enter Try.func12, Try.ntmps12
  go_wp2_with (go_at_call 10; refine (first_Empty.calls _ _ _ _ _ _ _ _ _ _ (Kd.C_alloc H1.out _) hc0_1 (Kd.C_alloc H2.out _) hc0_2 HM.out).mono ?_; rintro e w1 ⟨v, rfl, hv, hb1⟩; obtain ⟨Av, cv, rfl⟩ := Kd.R_slice hv; have HB1 := Aside0.mk hb1; clear hb1 hv)
  go_ret2
  exact ⟨_, rfl, Kd.R_nil _ _ _ _ _, (((Below.refl _ _).alloc (Nat.le_refl _) _).trans (HB1.out.mono (by simp))).alloc (by have := HB1.out.size; simp at this; omega) _⟩
 | true =>
  rw [hm, if_pos rfl] at h
  obtain ⟨rfl, rfl⟩ := Prod.mk.inj h
  have HM : Aside0 (first_Empty.f a0_0 l0_1 l0_2 = some (emptyL l0_1 l0_2, 0)) := ⟨by unfold first_Empty.f; rw [hm, if_pos rfl]⟩
  have F := may_facts hm
  have HF := Aside0.mk F
  obtain ⟨n1, n2, s0, s1, _, r2, _, _, _, _, _⟩ := F
  clear h hm
  have HEL := Aside0.mk (emptyL_len l0_1 l0_2)
  obtain ⟨E, HEQ⟩ : ∃ E, Aside0 (emptyL l0_1 l0_2 = E) := ⟨_, ⟨rfl⟩⟩
  rw [HEQ.out] at HEL HM
  have hmk := fe_make33 l0_1.length n2
  go_enter Try.func12, Try.ntmps12
  go_wp2_with (first
   | (go_at_call 10; refine (first_Empty.calls _ _ _ _ _ _ _ _ _ _ (Kd.C_alloc H1.out _) hc0_1 (Kd.C_alloc H2.out _) hc0_2 HM.out).mono ?_; rintro e w1 ⟨v, rfl, hv, hb1⟩; obtain ⟨Av, cv, rfl⟩ := Kd.R_slice hv; rw [HEL.out] at hv; have HV := Aside0.mk hv; have HB1 := Aside0.mk hb1; have HG : Aside0 (w1.heap[w.heap.size]? = some (.cells #[.int .i64 a0_0, .slice A0_1 l0_1.length c0_1, .slice A0_2 l0_2.length c0_2] 25 (0, 0))) := ⟨blk_below (blk_new _ _) hb1⟩; have k1 : w1.cell? ⟨w.heap.size, 1, none⟩ = some (.slice A0_1 l0_1.length c0_1) := (blk_cell HG.out 1).trans rfl; have hz := hb1.size; simp at hz; have lt1 : w.heap.size < w1.heap.size := hz; rw [HEL.out]; clear hb1 hv)
   | (go_at_call 30; refine (fe_each34 (fun s => 256 * l0_1.length - chC 256 bitL s) (stepF E) (FiR w.heap.size (w1.heap.size + 2) (w1.heap.size + 1) w1.heap.size l0_1.length w.heap.size #[.int .i64 a0_0, .slice A0_1 l0_1.length c0_1, .slice A0_2 l0_2.length c0_2] Av cv E) w.heap.size (w1.heap.size + 1) A0_2 c0_2 l0_2 ⟨w1.heap.size + 2, 0, none⟩ ⟨w1.heap.size, 0, none⟩ w H2.out r2 HF.out.cj ?ea ?eg ?et (startF l0_1.length) _ ?e0 ?eo ?eb).mono ?_))
  case ea =>
   rintro s1_ W o ⟨g1, g2, g3, g4, g5, g6⟩
   exact ⟨blk_alloc g1 _, blk_alloc g2 _, blk_alloc g3 _, blk_alloc g4 _, Kd.R_alloc g5 _, g6⟩
  case eg =>
   rintro s1_ W ⟨g1, g2, g3, g4, g5, g6⟩
   exact (blk_cell g1 2).trans rfl
  case et =>
   rintro r hr cj hcj s1_ W A c ⟨g1, g2, g3, g4, g5, g6⟩ hbW hq0 _
   have hq := Kd.C_below hq0 hbW
   have f0 := HF.out.hd0 r hr
   have f1 := HF.out.hd1 r hr
   obtain ⟨A', c', hee, _, hC⟩ := Kd.R_reads g5
   rw [HEL.out] at hee
   injection hee with h1 h2 h3
   subst h1 h3
   refine (fe_turn34 (w1.heap.size + 2) (w1.heap.size + 1) w1.heap.size s1_ E Av cv r.f0 cj.f1 A c W w.heap.size (by rw [g6.1]; exact g2) g3 (by rw [HEL.out]; exact g4) hC f0 (by rw [g6.1]; exact f1) (by rw [g6.1]; omega) (by rw [g6.1, HEL.out]) (fun x hx => by rw [HEL.out]; exact symF_of (HF.out.sy r hr cj hcj x hx)) hq (HF.out.sq r hr cj hcj) (by omega) (by omega) (by omega)).mono ?_
   rintro e W2 ⟨b, rfl, d1, d2, d3, d4, d5⟩
   exact ⟨b, rfl, ⟨d2.blk g1 (by omega) (by simp), d2.blk g2 (by omega) (by simp), d1, d2.blk g4 (by omega) (by simp), Kd.R_keep g5 d2 (fun k hk => hk), inF_step g6⟩, d2, hbW.trans d3, d4, fun hb => stepF_mu g6 (by omega) (d5 hb)⟩
  case e0 =>
   refine ⟨blk_alloc (blk_alloc (blk_alloc HG.out _) _) _, ?_, blk_alloc ?_ _, blk_alloc (blk_alloc (blk_new _ _) _) _, Kd.R_alloc (Kd.R_alloc (Kd.R_alloc (Kd.R_mono (Kd.R_elderB (Kd.R_lower HV.out (by simp)) (w1.heap.size + 1) (by omega)) (fun k hk => hk.2)) _) _) _, startF_in _⟩
   ·have h := blk_new ((w1.alloc (.cells #[Value.slice Av l0_1.length cv] 27 (0, 0))).alloc (.cells (rowV encS (startF l0_1.length)) 63 (0, 0))) (.cells #[.slice (some ⟨w1.heap.size + 1, 0, none⟩) l0_1.length l0_1.length] 33 (0, 0))
    rwa [show ((w1.alloc (.cells #[Value.slice Av l0_1.length cv] 27 (0, 0))).alloc (.cells (rowV encS (startF l0_1.length)) 63 (0, 0))).heap.size = w1.heap.size + 2 from by simp] at h
   ·have h := blk_new (w1.alloc (.cells #[Value.slice Av l0_1.length cv] 27 (0, 0))) (.cells (rowV encS (startF l0_1.length)) 63 (0, 0))
    rwa [show (w1.alloc (.cells #[Value.slice Av l0_1.length cv] 27 (0, 0))).heap.size = w1.heap.size + 1 from by simp] at h
  case eo => simp
  case eb => exact (((((Below.refl _ _).alloc (Nat.le_refl _) _).trans (HB1.out.mono (by simp))).alloc (by omega) _).alloc (by simp; omega) _).alloc (by simp; omega) _
  rintro e w2 ⟨rfl, ⟨m, he, hf⟩, hb2⟩
  have HE := Aside0.mk he
  have HFX := Aside0.mk hf
  have HB2 := Aside0.mk hb2
  have k2 : w2.cell? ⟨w1.heap.size + 2, 0, none⟩ = some (.slice (some ⟨w1.heap.size + 1, 0, none⟩) l0_1.length l0_1.length) := (blk_cell HE.out.2.1 0).trans rfl
  clear he hf hb2
  go_wp2
  go_ret2
  have hl := HE.out.2.2.2.2.2.1
  have he : iterT (passT (stepF E) l0_2) m (startF l0_1.length) = firstL l0_1 l0_2 := by
   unfold firstL
   rw [HEQ.out]
   exact iterT_two _ _ _ _ HFX.out (passF_stand _ _ _ (fun r hr => by have := HF.out.hd0 r hr; have := HF.out.hd1 r hr; omega))
  refine ⟨_, rfl, ?_, HB2.out⟩
  rw [← he]
  have hr := rowV_R encS_len (d := k63) (fun w b ok x => k63_mkM w b ok x) rfl (e := 63) (base := w.heap.size) (ok := fun _ => True) HE.out.2.2.1 (by rw [hl]; unfold maxLen; omega) (by omega) trivial
  rwa [hl] at hr


end Go.Proofs.Ytpilkfodlhhjpaa.PFM
