-- written by a program of the session's (wip/myprint.py) out of the translation
import Derived.Test.YtpilkfodlhhjpaaPFMx0
namespace Go.Proofs.Ytpilkfodlhhjpaa.PFM
open Go.RowKit Go.Proofs.YtpilkfodlhhjpaaW.PrintWords Go.Proofs.YtpilkfodlhhjpaaW.PrintLast Go.Proofs.YtpilkfodlhhjpaaW.PrintMore
attribute [local go_sem] max2_int min2_int max_two min_two max_three min_three max_four min_four   -- for this text's walks alone
set_option linter.unusedVariables false
set_option linter.unusedSimpArgs false

/-! ### templeref1_Mix: function 26 -/
def templeref1_Mix.f (a0 : Int) (a1_0 a1_1 a1_2 a1_3 a2_0 a2_1 a2_2 a2_3 : Int) : Option (Int × Int × Int × Int) := some (mixOp a0 a1_0 a2_0, mixOp a0 a1_1 a2_1, mixOp a0 a1_2 a2_2, mixOp a0 a1_3 a2_3)
set_option maxHeartbeats 8000000 in
set_option maxRecDepth 100000 in
theorem templeref1_Mix.calls (a0 : Int) (a1_0 : Int) (a1_1 : Int) (a1_2 : Int) (a1_3 : Int) (a2_0 : Int) (a2_1 : Int) (a2_2 : Int) (a2_3 : Int) (r1 : Int) (r2 : Int) (r3 : Int) (r4 : Int) (w : World) (h : templeref1_Mix.f a0 a1_0 a1_1 a1_2 a1_3 a2_0 a2_1 a2_2 a2_3 = some (r1, r2, r3, r4)) :
  Calls Try.prog 26 #[.int .i64 a0, .agg #[.int .u64 a1_0, .int .u64 a1_1, .int .u64 a1_2, .int .u64 a1_3], .agg #[.int .u64 a2_0, .int .u64 a2_1, .int .u64 a2_2, .int .u64 a2_3]] w fun e w' => e = .returned (.agg #[.int .u64 r1, .int .u64 r2, .int .u64 r3, .int .u64 r4]) ∧ Below w.heap.size w w' := by
 unfold templeref1_Mix.f at h
 simp only [Option.some.injEq, Prod.mk.injEq] at h
 obtain ⟨rfl, rfl, rfl, rfl⟩ := h
 by_cases h0 : a0 = 0
 ·subst h0
  have Hm := Aside0.mk (show ∀ x y : Int, mixOp 0 x y = Go.bits .or .u64 x y from fun x y => rfl)
  go_enter Try.func26, Try.ntmps26
  go_wp2
  go_loopw [7] (fun v wr => ∃ k : Nat, k ≤ 4 ∧ v = .int .i64 k ∧ Aside0 (wr.heap[w.heap.size]? = some (.cells #[.int .u64 (if 0 < k then Go.bits .or .u64 a1_0 a2_0 else a1_0), .int .u64 (if 1 < k then Go.bits .or .u64 a1_1 a2_1 else a1_1), .int .u64 (if 2 < k then Go.bits .or .u64 a1_2 a2_2 else a1_2), .int .u64 (if 3 < k then Go.bits .or .u64 a1_3 a2_3 else a1_3)] 63 (0, 0))) ∧ Aside0 (wr.heap[w.heap.size + 1]? = some (.cells #[.int .u64 a2_0, .int .u64 a2_1, .int .u64 a2_2, .int .u64 a2_3] 63 (0, 0))) ∧ Aside0 (wr.heap[w.heap.size + 1 + 1]? = some (.cells #[.int .u64 0, .int .u64 0, .int .u64 0, .int .u64 0] 63 (0, 0))) ∧ Aside0 (Below w.heap.size w wr)) (fun v _ => 4 - (intOf v).toNat)
  case atStart => exact ⟨0, by omega, rfl, ⟨blk_alloc (blk_alloc (blk_new _ _) _) _⟩, ⟨blk_alloc (by simpa using blk_new (w.alloc _) _) _⟩, ⟨by simpa using blk_new ((w.alloc _).alloc _) _⟩, ⟨((Below.refl _ _).alloc (Nat.le_refl _) _ |>.alloc (by simp) _).alloc (by simp; omega) _⟩⟩
  case round =>
   obtain ⟨k, hk, rfl, h1, h2, h3, hb⟩ := hrel
   have hk' : k = 0 ∨ k = 1 ∨ k = 2 ∨ k = 3 ∨ k = 4 := by omega
   clear hk
   rcases hk' with rfl | rfl | rfl | rfl | rfl
   ·have c1 : wr.cell? ⟨w.heap.size, 0, none⟩ = some (.int .u64 a1_0) := (blk_cell h1.out 0).trans rfl
    have f1 := blk_frozen h1.out 0
    have c2 : wr.cell? ⟨w.heap.size + 1, 0, none⟩ = some (.int .u64 a2_0) := (blk_cell h2.out 0).trans rfl
    go_wp2
    go_region
    all_goals
     go_wp2
     go_roundw
     case rel => exact ⟨1, by omega, rfl, ⟨blk_drew (blk_put h1.out 0 _ rfl)⟩, ⟨blk_drew (blk_far h2.out (by simp) _)⟩, ⟨blk_drew (blk_far h3.out (by simp; omega) _)⟩, ⟨pw_below_drewN (below_set hb.out (Nat.le_refl _)) 1⟩⟩
     case measure => simp [intOf]
   ·have c1 : wr.cell? ⟨w.heap.size, 1, none⟩ = some (.int .u64 a1_1) := (blk_cell h1.out 1).trans rfl
    have f1 := blk_frozen h1.out 1
    have c2 : wr.cell? ⟨w.heap.size + 1, 1, none⟩ = some (.int .u64 a2_1) := (blk_cell h2.out 1).trans rfl
    go_wp2
    go_region
    all_goals
     go_wp2
     go_roundw
     case rel => exact ⟨2, by omega, rfl, ⟨blk_drew (blk_put h1.out 1 _ rfl)⟩, ⟨blk_drew (blk_far h2.out (by simp) _)⟩, ⟨blk_drew (blk_far h3.out (by simp; omega) _)⟩, ⟨pw_below_drewN (below_set hb.out (Nat.le_refl _)) 1⟩⟩
     case measure => simp [intOf]
   ·have c1 : wr.cell? ⟨w.heap.size, 2, none⟩ = some (.int .u64 a1_2) := (blk_cell h1.out 2).trans rfl
    have f1 := blk_frozen h1.out 2
    have c2 : wr.cell? ⟨w.heap.size + 1, 2, none⟩ = some (.int .u64 a2_2) := (blk_cell h2.out 2).trans rfl
    go_wp2
    go_region
    all_goals
     go_wp2
     go_roundw
     case rel => exact ⟨3, by omega, rfl, ⟨blk_drew (blk_put h1.out 2 _ rfl)⟩, ⟨blk_drew (blk_far h2.out (by simp) _)⟩, ⟨blk_drew (blk_far h3.out (by simp; omega) _)⟩, ⟨pw_below_drewN (below_set hb.out (Nat.le_refl _)) 1⟩⟩
     case measure => simp [intOf]
   ·have c1 : wr.cell? ⟨w.heap.size, 3, none⟩ = some (.int .u64 a1_3) := (blk_cell h1.out 3).trans rfl
    have f1 := blk_frozen h1.out 3
    have c2 : wr.cell? ⟨w.heap.size + 1, 3, none⟩ = some (.int .u64 a2_3) := (blk_cell h2.out 3).trans rfl
    go_wp2
    go_region
    all_goals
     go_wp2
     go_roundw
     case rel => exact ⟨4, by omega, rfl, ⟨blk_drew (blk_put h1.out 3 _ rfl)⟩, ⟨blk_drew (blk_far h2.out (by simp) _)⟩, ⟨blk_drew (blk_far h3.out (by simp; omega) _)⟩, ⟨pw_below_drewN (below_set hb.out (Nat.le_refl _)) 1⟩⟩
     case measure => simp [intOf]
   ·have e0 : wr.cell? ⟨w.heap.size, 0, none⟩ = some (.int .u64 (Go.bits .or .u64 a1_0 a2_0)) := (blk_cell h1.out 0).trans rfl
    have e1 : wr.cell? ⟨w.heap.size, 1, none⟩ = some (.int .u64 (Go.bits .or .u64 a1_1 a2_1)) := (blk_cell h1.out 1).trans rfl
    have e2 : wr.cell? ⟨w.heap.size, 2, none⟩ = some (.int .u64 (Go.bits .or .u64 a1_2 a2_2)) := (blk_cell h1.out 2).trans rfl
    have e3 : wr.cell? ⟨w.heap.size, 3, none⟩ = some (.int .u64 (Go.bits .or .u64 a1_3 a2_3)) := (blk_cell h1.out 3).trans rfl
    have g0 : wr.cell? ⟨w.heap.size + 1 + 1, 0, none⟩ = some (.int .u64 0) := (blk_cell h3.out 0).trans rfl
    have g1 : wr.cell? ⟨w.heap.size + 1 + 1, 1, none⟩ = some (.int .u64 0) := (blk_cell h3.out 1).trans rfl
    have g2 : wr.cell? ⟨w.heap.size + 1 + 1, 2, none⟩ = some (.int .u64 0) := (blk_cell h3.out 2).trans rfl
    have g3 : wr.cell? ⟨w.heap.size + 1 + 1, 3, none⟩ = some (.int .u64 0) := (blk_cell h3.out 3).trans rfl
    have f0 := blk_frozen h3.out 0
    have f1 := blk_frozen h3.out 1
    have f2 := blk_frozen h3.out 2
    have f3 := blk_frozen h3.out 3
    clear h1 h2 h3
    go_wp2
    exact bodyPost_ret (v := .agg #[.int .u64 (Go.bits .or .u64 a1_0 a2_0), .int .u64 (Go.bits .or .u64 a1_1 a2_1), .int .u64 (Go.bits .or .u64 a1_2 a2_2), .int .u64 (Go.bits .or .u64 a1_3 a2_3)]) (by simp [results, Try.results26, go_sem, g0, g1, g2, g3]) rfl ⟨by rw [Hm.out, Hm.out, Hm.out, Hm.out], by repeat (first | exact hb.out | refine below_set ?_ (by omega))⟩
 by_cases h1 : a0 = 1
 ·subst h1
  have Hm := Aside0.mk (show ∀ x y : Int, mixOp 1 x y = Go.bits .and .u64 x y from fun x y => rfl)
  clear h0
  go_enter Try.func26, Try.ntmps26
  go_wp2
  go_loopw [7] (fun v wr => ∃ k : Nat, k ≤ 4 ∧ v = .int .i64 k ∧ Aside0 (wr.heap[w.heap.size]? = some (.cells #[.int .u64 (if 0 < k then Go.bits .and .u64 a1_0 a2_0 else a1_0), .int .u64 (if 1 < k then Go.bits .and .u64 a1_1 a2_1 else a1_1), .int .u64 (if 2 < k then Go.bits .and .u64 a1_2 a2_2 else a1_2), .int .u64 (if 3 < k then Go.bits .and .u64 a1_3 a2_3 else a1_3)] 63 (0, 0))) ∧ Aside0 (wr.heap[w.heap.size + 1]? = some (.cells #[.int .u64 a2_0, .int .u64 a2_1, .int .u64 a2_2, .int .u64 a2_3] 63 (0, 0))) ∧ Aside0 (wr.heap[w.heap.size + 1 + 1]? = some (.cells #[.int .u64 0, .int .u64 0, .int .u64 0, .int .u64 0] 63 (0, 0))) ∧ Aside0 (Below w.heap.size w wr)) (fun v _ => 4 - (intOf v).toNat)
  case atStart => exact ⟨0, by omega, rfl, ⟨blk_alloc (blk_alloc (blk_new _ _) _) _⟩, ⟨blk_alloc (by simpa using blk_new (w.alloc _) _) _⟩, ⟨by simpa using blk_new ((w.alloc _).alloc _) _⟩, ⟨((Below.refl _ _).alloc (Nat.le_refl _) _ |>.alloc (by simp) _).alloc (by simp; omega) _⟩⟩
  case round =>
   obtain ⟨k, hk, rfl, h1, h2, h3, hb⟩ := hrel
   have hk' : k = 0 ∨ k = 1 ∨ k = 2 ∨ k = 3 ∨ k = 4 := by omega
   clear hk
   rcases hk' with rfl | rfl | rfl | rfl | rfl
   ·have c1 : wr.cell? ⟨w.heap.size, 0, none⟩ = some (.int .u64 a1_0) := (blk_cell h1.out 0).trans rfl
    have f1 := blk_frozen h1.out 0
    have c2 : wr.cell? ⟨w.heap.size + 1, 0, none⟩ = some (.int .u64 a2_0) := (blk_cell h2.out 0).trans rfl
    go_wp2
    go_region
    all_goals
     go_wp2
     go_roundw
     case rel => exact ⟨1, by omega, rfl, ⟨blk_drew (blk_put h1.out 0 _ rfl)⟩, ⟨blk_drew (blk_far h2.out (by simp) _)⟩, ⟨blk_drew (blk_far h3.out (by simp; omega) _)⟩, ⟨pw_below_drewN (below_set hb.out (Nat.le_refl _)) 1⟩⟩
     case measure => simp [intOf]
   ·have c1 : wr.cell? ⟨w.heap.size, 1, none⟩ = some (.int .u64 a1_1) := (blk_cell h1.out 1).trans rfl
    have f1 := blk_frozen h1.out 1
    have c2 : wr.cell? ⟨w.heap.size + 1, 1, none⟩ = some (.int .u64 a2_1) := (blk_cell h2.out 1).trans rfl
    go_wp2
    go_region
    all_goals
     go_wp2
     go_roundw
     case rel => exact ⟨2, by omega, rfl, ⟨blk_drew (blk_put h1.out 1 _ rfl)⟩, ⟨blk_drew (blk_far h2.out (by simp) _)⟩, ⟨blk_drew (blk_far h3.out (by simp; omega) _)⟩, ⟨pw_below_drewN (below_set hb.out (Nat.le_refl _)) 1⟩⟩
     case measure => simp [intOf]
   ·have c1 : wr.cell? ⟨w.heap.size, 2, none⟩ = some (.int .u64 a1_2) := (blk_cell h1.out 2).trans rfl
    have f1 := blk_frozen h1.out 2
    have c2 : wr.cell? ⟨w.heap.size + 1, 2, none⟩ = some (.int .u64 a2_2) := (blk_cell h2.out 2).trans rfl
    go_wp2
    go_region
    all_goals
     go_wp2
     go_roundw
     case rel => exact ⟨3, by omega, rfl, ⟨blk_drew (blk_put h1.out 2 _ rfl)⟩, ⟨blk_drew (blk_far h2.out (by simp) _)⟩, ⟨blk_drew (blk_far h3.out (by simp; omega) _)⟩, ⟨pw_below_drewN (below_set hb.out (Nat.le_refl _)) 1⟩⟩
     case measure => simp [intOf]
   ·have c1 : wr.cell? ⟨w.heap.size, 3, none⟩ = some (.int .u64 a1_3) := (blk_cell h1.out 3).trans rfl
    have f1 := blk_frozen h1.out 3
    have c2 : wr.cell? ⟨w.heap.size + 1, 3, none⟩ = some (.int .u64 a2_3) := (blk_cell h2.out 3).trans rfl
    go_wp2
    go_region
    all_goals
     go_wp2
     go_roundw
     case rel => exact ⟨4, by omega, rfl, ⟨blk_drew (blk_put h1.out 3 _ rfl)⟩, ⟨blk_drew (blk_far h2.out (by simp) _)⟩, ⟨blk_drew (blk_far h3.out (by simp; omega) _)⟩, ⟨pw_below_drewN (below_set hb.out (Nat.le_refl _)) 1⟩⟩
     case measure => simp [intOf]
   ·have e0 : wr.cell? ⟨w.heap.size, 0, none⟩ = some (.int .u64 (Go.bits .and .u64 a1_0 a2_0)) := (blk_cell h1.out 0).trans rfl
    have e1 : wr.cell? ⟨w.heap.size, 1, none⟩ = some (.int .u64 (Go.bits .and .u64 a1_1 a2_1)) := (blk_cell h1.out 1).trans rfl
    have e2 : wr.cell? ⟨w.heap.size, 2, none⟩ = some (.int .u64 (Go.bits .and .u64 a1_2 a2_2)) := (blk_cell h1.out 2).trans rfl
    have e3 : wr.cell? ⟨w.heap.size, 3, none⟩ = some (.int .u64 (Go.bits .and .u64 a1_3 a2_3)) := (blk_cell h1.out 3).trans rfl
    have g0 : wr.cell? ⟨w.heap.size + 1 + 1, 0, none⟩ = some (.int .u64 0) := (blk_cell h3.out 0).trans rfl
    have g1 : wr.cell? ⟨w.heap.size + 1 + 1, 1, none⟩ = some (.int .u64 0) := (blk_cell h3.out 1).trans rfl
    have g2 : wr.cell? ⟨w.heap.size + 1 + 1, 2, none⟩ = some (.int .u64 0) := (blk_cell h3.out 2).trans rfl
    have g3 : wr.cell? ⟨w.heap.size + 1 + 1, 3, none⟩ = some (.int .u64 0) := (blk_cell h3.out 3).trans rfl
    have f0 := blk_frozen h3.out 0
    have f1 := blk_frozen h3.out 1
    have f2 := blk_frozen h3.out 2
    have f3 := blk_frozen h3.out 3
    clear h1 h2 h3
    go_wp2
    exact bodyPost_ret (v := .agg #[.int .u64 (Go.bits .and .u64 a1_0 a2_0), .int .u64 (Go.bits .and .u64 a1_1 a2_1), .int .u64 (Go.bits .and .u64 a1_2 a2_2), .int .u64 (Go.bits .and .u64 a1_3 a2_3)]) (by simp [results, Try.results26, go_sem, g0, g1, g2, g3]) rfl ⟨by rw [Hm.out, Hm.out, Hm.out, Hm.out], by repeat (first | exact hb.out | refine below_set ?_ (by omega))⟩
 ·have Hm := Aside0.mk (show ∀ x y : Int, mixOp a0 x y = Go.bits .andNot .u64 x y from fun x y => by unfold mixOp; rw [if_neg h0, if_neg h1])
  have t0 : (a0 == 0) = false := beq_eq_false_iff_ne.2 h0
  have t1 : (a0 == 1) = false := beq_eq_false_iff_ne.2 h1
  clear h0 h1
  go_enter Try.func26, Try.ntmps26
  go_wp2
  go_loopw [7] (fun v wr => ∃ k : Nat, k ≤ 4 ∧ v = .int .i64 k ∧ Aside0 (wr.heap[w.heap.size]? = some (.cells #[.int .u64 (if 0 < k then Go.bits .andNot .u64 a1_0 a2_0 else a1_0), .int .u64 (if 1 < k then Go.bits .andNot .u64 a1_1 a2_1 else a1_1), .int .u64 (if 2 < k then Go.bits .andNot .u64 a1_2 a2_2 else a1_2), .int .u64 (if 3 < k then Go.bits .andNot .u64 a1_3 a2_3 else a1_3)] 63 (0, 0))) ∧ Aside0 (wr.heap[w.heap.size + 1]? = some (.cells #[.int .u64 a2_0, .int .u64 a2_1, .int .u64 a2_2, .int .u64 a2_3] 63 (0, 0))) ∧ Aside0 (wr.heap[w.heap.size + 1 + 1]? = some (.cells #[.int .u64 0, .int .u64 0, .int .u64 0, .int .u64 0] 63 (0, 0))) ∧ Aside0 (Below w.heap.size w wr)) (fun v _ => 4 - (intOf v).toNat)
  case atStart => exact ⟨0, by omega, rfl, ⟨blk_alloc (blk_alloc (blk_new _ _) _) _⟩, ⟨blk_alloc (by simpa using blk_new (w.alloc _) _) _⟩, ⟨by simpa using blk_new ((w.alloc _).alloc _) _⟩, ⟨((Below.refl _ _).alloc (Nat.le_refl _) _ |>.alloc (by simp) _).alloc (by simp; omega) _⟩⟩
  case round =>
   obtain ⟨k, hk, rfl, h1, h2, h3, hb⟩ := hrel
   have hk' : k = 0 ∨ k = 1 ∨ k = 2 ∨ k = 3 ∨ k = 4 := by omega
   clear hk
   rcases hk' with rfl | rfl | rfl | rfl | rfl
   ·have c1 : wr.cell? ⟨w.heap.size, 0, none⟩ = some (.int .u64 a1_0) := (blk_cell h1.out 0).trans rfl
    have f1 := blk_frozen h1.out 0
    have c2 : wr.cell? ⟨w.heap.size + 1, 0, none⟩ = some (.int .u64 a2_0) := (blk_cell h2.out 0).trans rfl
    go_wp2
    go_region
    all_goals
     go_wp2
     go_roundw
     case rel => exact ⟨1, by omega, rfl, ⟨blk_drew (blk_put h1.out 0 _ rfl)⟩, ⟨blk_drew (blk_far h2.out (by simp) _)⟩, ⟨blk_drew (blk_far h3.out (by simp; omega) _)⟩, ⟨pw_below_drewN (below_set hb.out (Nat.le_refl _)) 1⟩⟩
     case measure => simp [intOf]
   ·have c1 : wr.cell? ⟨w.heap.size, 1, none⟩ = some (.int .u64 a1_1) := (blk_cell h1.out 1).trans rfl
    have f1 := blk_frozen h1.out 1
    have c2 : wr.cell? ⟨w.heap.size + 1, 1, none⟩ = some (.int .u64 a2_1) := (blk_cell h2.out 1).trans rfl
    go_wp2
    go_region
    all_goals
     go_wp2
     go_roundw
     case rel => exact ⟨2, by omega, rfl, ⟨blk_drew (blk_put h1.out 1 _ rfl)⟩, ⟨blk_drew (blk_far h2.out (by simp) _)⟩, ⟨blk_drew (blk_far h3.out (by simp; omega) _)⟩, ⟨pw_below_drewN (below_set hb.out (Nat.le_refl _)) 1⟩⟩
     case measure => simp [intOf]
   ·have c1 : wr.cell? ⟨w.heap.size, 2, none⟩ = some (.int .u64 a1_2) := (blk_cell h1.out 2).trans rfl
    have f1 := blk_frozen h1.out 2
    have c2 : wr.cell? ⟨w.heap.size + 1, 2, none⟩ = some (.int .u64 a2_2) := (blk_cell h2.out 2).trans rfl
    go_wp2
    go_region
    all_goals
     go_wp2
     go_roundw
     case rel => exact ⟨3, by omega, rfl, ⟨blk_drew (blk_put h1.out 2 _ rfl)⟩, ⟨blk_drew (blk_far h2.out (by simp) _)⟩, ⟨blk_drew (blk_far h3.out (by simp; omega) _)⟩, ⟨pw_below_drewN (below_set hb.out (Nat.le_refl _)) 1⟩⟩
     case measure => simp [intOf]
   ·have c1 : wr.cell? ⟨w.heap.size, 3, none⟩ = some (.int .u64 a1_3) := (blk_cell h1.out 3).trans rfl
    have f1 := blk_frozen h1.out 3
    have c2 : wr.cell? ⟨w.heap.size + 1, 3, none⟩ = some (.int .u64 a2_3) := (blk_cell h2.out 3).trans rfl
    go_wp2
    go_region
    all_goals
     go_wp2
     go_roundw
     case rel => exact ⟨4, by omega, rfl, ⟨blk_drew (blk_put h1.out 3 _ rfl)⟩, ⟨blk_drew (blk_far h2.out (by simp) _)⟩, ⟨blk_drew (blk_far h3.out (by simp; omega) _)⟩, ⟨pw_below_drewN (below_set hb.out (Nat.le_refl _)) 1⟩⟩
     case measure => simp [intOf]
   ·have e0 : wr.cell? ⟨w.heap.size, 0, none⟩ = some (.int .u64 (Go.bits .andNot .u64 a1_0 a2_0)) := (blk_cell h1.out 0).trans rfl
    have e1 : wr.cell? ⟨w.heap.size, 1, none⟩ = some (.int .u64 (Go.bits .andNot .u64 a1_1 a2_1)) := (blk_cell h1.out 1).trans rfl
    have e2 : wr.cell? ⟨w.heap.size, 2, none⟩ = some (.int .u64 (Go.bits .andNot .u64 a1_2 a2_2)) := (blk_cell h1.out 2).trans rfl
    have e3 : wr.cell? ⟨w.heap.size, 3, none⟩ = some (.int .u64 (Go.bits .andNot .u64 a1_3 a2_3)) := (blk_cell h1.out 3).trans rfl
    have g0 : wr.cell? ⟨w.heap.size + 1 + 1, 0, none⟩ = some (.int .u64 0) := (blk_cell h3.out 0).trans rfl
    have g1 : wr.cell? ⟨w.heap.size + 1 + 1, 1, none⟩ = some (.int .u64 0) := (blk_cell h3.out 1).trans rfl
    have g2 : wr.cell? ⟨w.heap.size + 1 + 1, 2, none⟩ = some (.int .u64 0) := (blk_cell h3.out 2).trans rfl
    have g3 : wr.cell? ⟨w.heap.size + 1 + 1, 3, none⟩ = some (.int .u64 0) := (blk_cell h3.out 3).trans rfl
    have f0 := blk_frozen h3.out 0
    have f1 := blk_frozen h3.out 1
    have f2 := blk_frozen h3.out 2
    have f3 := blk_frozen h3.out 3
    clear h1 h2 h3
    go_wp2
    exact bodyPost_ret (v := .agg #[.int .u64 (Go.bits .andNot .u64 a1_0 a2_0), .int .u64 (Go.bits .andNot .u64 a1_1 a2_1), .int .u64 (Go.bits .andNot .u64 a1_2 a2_2), .int .u64 (Go.bits .andNot .u64 a1_3 a2_3)]) (by simp [results, Try.results26, go_sem, g0, g1, g2, g3]) rfl ⟨by rw [Hm.out, Hm.out, Hm.out, Hm.out], by repeat (first | exact hb.out | refine below_set ?_ (by omega))⟩


end Go.Proofs.Ytpilkfodlhhjpaa.PFM
