-- written by a program of the session's (wip/myprint.py) out of the translation
import Derived.Test.YtpilkfodlhhjpaaPFWx0
namespace Go.Proofs.Ytpilkfodlhhjpaa.PFW
open Go.RowKit Go.Proofs.YtpilkfodlhhjpaaW.PrintWords Go.Proofs.YtpilkfodlhhjpaaW.PrintLast Go.Proofs.YtpilkfodlhhjpaaW.PrintMore
attribute [local go_sem] max2_int min2_int max_two min_two max_three min_three max_four min_four   -- for this text's walks alone
set_option linter.unusedVariables false
set_option linter.unusedSimpArgs false

/-! ### templeref1_Range: function 27 -/
def templeref1_Range.f (a0 a1 : Int) : Option (Int × Int × Int × Int × Int) := if 0 ≤ a0 ∧ a1 ≤ 255 ∧ a0 ≤ a1 then some (setW (rangeP a0 a1) 0, setW (rangeP a0 a1) 1, setW (rangeP a0 a1) 2, setW (rangeP a0 a1) 3, 0) else some (0, 0, 0, 0, 100)
set_option maxHeartbeats 8000000 in
set_option maxRecDepth 100000 in
theorem templeref1_Range.calls (a0 : Int) (a1 : Int) (r1 : Int) (r2 : Int) (r3 : Int) (r4 : Int) (r5 : Int) (w : World) (h : templeref1_Range.f a0 a1 = some (r1, r2, r3, r4, r5)) :
  Calls Try.prog 27 #[.int .i64 a0, .int .i64 a1] w fun e w' => e = .returned (.tuple #[.agg #[.int .u64 r1, .int .u64 r2, .int .u64 r3, .int .u64 r4], .int .i64 r5]) ∧ Below w.heap.size w w' := by
 unfold templeref1_Range.f at h
 by_cases hd : 0 ≤ a0 ∧ a1 ≤ 255 ∧ a0 ≤ a1
 ·rw [if_pos hd] at h
  simp only [Option.some.injEq, Prod.mk.injEq] at h
  obtain ⟨rfl, rfl, rfl, rfl, rfl⟩ := h
  obtain ⟨h0, h1, h2⟩ := hd
  go_enter Try.func27, Try.ntmps27
  go_wp2
  go_loopw [7] (fun v wr => ∃ c : Int, a0 ≤ c ∧ c ≤ a1 + 1 ∧ v = .int .i64 c ∧ Aside0 (wr.heap[w.heap.size]? = some (.cells #[.int .u64 0, .int .u64 0, .int .u64 0, .int .u64 0] 63 (0, 0))) ∧ Aside0 (wr.heap[w.heap.size + 1]? = some (.cells #[.int .u64 (setW (rangeP a0 (c - 1)) 0), .int .u64 (setW (rangeP a0 (c - 1)) 1), .int .u64 (setW (rangeP a0 (c - 1)) 2), .int .u64 (setW (rangeP a0 (c - 1)) 3)] 63 (0, 0))) ∧ Aside0 (Below w.heap.size w wr)) (fun v _ => (a1 + 1 - intOf v).toNat)
  case atStart =>
   refine ⟨a0, by omega, by omega, rfl, ⟨blk_alloc (blk_new _ _) _⟩, ⟨?_⟩, ⟨((Below.refl _ _).alloc (Nat.le_refl _) _).alloc (by simp) _⟩⟩
   rw [setW_empty (by omega), setW_empty (by omega), setW_empty (by omega), setW_empty (by omega)]
   simpa using blk_new (w.alloc _) _
  case round =>
   obtain ⟨c, hc1, hc2, rfl, h3, h4, hb⟩ := hrel
   by_cases hlt : c ≤ a1
   ·have hc0 : 0 ≤ c := by omega
    have hc3 : c ≤ 255 := by omega
    have hq : c / 64 = 0 ∨ c / 64 = 1 ∨ c / 64 = 2 ∨ c / 64 = 3 := by omega
    rcases hq with hq | hq | hq | hq
    ·have c1 : wr.cell? ⟨w.heap.size + 1, 0, none⟩ = some (.int .u64 (setW (rangeP a0 (c - 1)) 0)) := (blk_cell h4.out 0).trans rfl
     have f1 := blk_frozen h4.out 0
     go_wp2
     go_region
     all_goals
      go_wp2
      go_roundw
      case rel =>
       refine ⟨c + 1, by omega, by omega, rfl, ⟨blk_drew (blk_far h3.out (by simp) _)⟩, ⟨?_⟩, ⟨pw_below_drewN (below_set hb.out (by omega)) 1⟩⟩
       rw [show c + 1 - 1 = c from by omega, ← setW_step (i := 0) hc0 hc1 hq, ← setW_same (lo := a0) (i := 1) hc0 (by omega), ← setW_same (lo := a0) (i := 2) hc0 (by omega), ← setW_same (lo := a0) (i := 3) hc0 (by omega)]
       exact blk_drew (blk_put h4.out 0 _ rfl)
      case measure => simp [intOf]; omega
    ·have c1 : wr.cell? ⟨w.heap.size + 1, 1, none⟩ = some (.int .u64 (setW (rangeP a0 (c - 1)) 1)) := (blk_cell h4.out 1).trans rfl
     have f1 := blk_frozen h4.out 1
     go_wp2
     go_region
     all_goals
      go_wp2
      go_roundw
      case rel =>
       refine ⟨c + 1, by omega, by omega, rfl, ⟨blk_drew (blk_far h3.out (by simp) _)⟩, ⟨?_⟩, ⟨pw_below_drewN (below_set hb.out (by omega)) 1⟩⟩
       rw [show c + 1 - 1 = c from by omega, ← setW_step (i := 1) hc0 hc1 hq, ← setW_same (lo := a0) (i := 0) hc0 (by omega), ← setW_same (lo := a0) (i := 2) hc0 (by omega), ← setW_same (lo := a0) (i := 3) hc0 (by omega)]
       exact blk_drew (blk_put h4.out 1 _ rfl)
      case measure => simp [intOf]; omega
    ·have c1 : wr.cell? ⟨w.heap.size + 1, 2, none⟩ = some (.int .u64 (setW (rangeP a0 (c - 1)) 2)) := (blk_cell h4.out 2).trans rfl
     have f1 := blk_frozen h4.out 2
     go_wp2
     go_region
     all_goals
      go_wp2
      go_roundw
      case rel =>
       refine ⟨c + 1, by omega, by omega, rfl, ⟨blk_drew (blk_far h3.out (by simp) _)⟩, ⟨?_⟩, ⟨pw_below_drewN (below_set hb.out (by omega)) 1⟩⟩
       rw [show c + 1 - 1 = c from by omega, ← setW_step (i := 2) hc0 hc1 hq, ← setW_same (lo := a0) (i := 0) hc0 (by omega), ← setW_same (lo := a0) (i := 1) hc0 (by omega), ← setW_same (lo := a0) (i := 3) hc0 (by omega)]
       exact blk_drew (blk_put h4.out 2 _ rfl)
      case measure => simp [intOf]; omega
    ·have c1 : wr.cell? ⟨w.heap.size + 1, 3, none⟩ = some (.int .u64 (setW (rangeP a0 (c - 1)) 3)) := (blk_cell h4.out 3).trans rfl
     have f1 := blk_frozen h4.out 3
     go_wp2
     go_region
     all_goals
      go_wp2
      go_roundw
      case rel =>
       refine ⟨c + 1, by omega, by omega, rfl, ⟨blk_drew (blk_far h3.out (by simp) _)⟩, ⟨?_⟩, ⟨pw_below_drewN (below_set hb.out (by omega)) 1⟩⟩
       rw [show c + 1 - 1 = c from by omega, ← setW_step (i := 3) hc0 hc1 hq, ← setW_same (lo := a0) (i := 0) hc0 (by omega), ← setW_same (lo := a0) (i := 1) hc0 (by omega), ← setW_same (lo := a0) (i := 2) hc0 (by omega)]
       exact blk_drew (blk_put h4.out 3 _ rfl)
      case measure => simp [intOf]; omega
   ·have hc : c = a1 + 1 := by omega
    subst hc
    rw [show a1 + 1 - 1 = a1 from by omega] at h4
    have e0 : wr.cell? ⟨w.heap.size + 1, 0, none⟩ = some (.int .u64 (setW (rangeP a0 a1) 0)) := (blk_cell h4.out 0).trans rfl
    have e1 : wr.cell? ⟨w.heap.size + 1, 1, none⟩ = some (.int .u64 (setW (rangeP a0 a1) 1)) := (blk_cell h4.out 1).trans rfl
    have e2 : wr.cell? ⟨w.heap.size + 1, 2, none⟩ = some (.int .u64 (setW (rangeP a0 a1) 2)) := (blk_cell h4.out 2).trans rfl
    have e3 : wr.cell? ⟨w.heap.size + 1, 3, none⟩ = some (.int .u64 (setW (rangeP a0 a1) 3)) := (blk_cell h4.out 3).trans rfl
    have g0 : wr.cell? ⟨w.heap.size, 0, none⟩ = some (.int .u64 0) := (blk_cell h3.out 0).trans rfl
    have g1 : wr.cell? ⟨w.heap.size, 1, none⟩ = some (.int .u64 0) := (blk_cell h3.out 1).trans rfl
    have g2 : wr.cell? ⟨w.heap.size, 2, none⟩ = some (.int .u64 0) := (blk_cell h3.out 2).trans rfl
    have g3 : wr.cell? ⟨w.heap.size, 3, none⟩ = some (.int .u64 0) := (blk_cell h3.out 3).trans rfl
    have f0 := blk_frozen h3.out 0
    have f1 := blk_frozen h3.out 1
    have f2 := blk_frozen h3.out 2
    have f3 := blk_frozen h3.out 3
    clear h3 h4
    go_wp2
    exact bodyPost_ret (v := .tuple #[.agg #[.int .u64 (setW (rangeP a0 a1) 0), .int .u64 (setW (rangeP a0 a1) 1), .int .u64 (setW (rangeP a0 a1) 2), .int .u64 (setW (rangeP a0 a1) 3)], .int .i64 0]) (by simp [results, Try.results27, go_sem, g0, g1, g2, g3]) rfl ⟨rfl, by repeat (first | exact hb.out | refine below_set ?_ (by omega))⟩
 ·rw [if_neg hd] at h
  simp only [Option.some.injEq, Prod.mk.injEq] at h
  obtain ⟨rfl, rfl, rfl, rfl, rfl⟩ := h
  by_cases h0 : a0 < 0
  ·go_enter Try.func27, Try.ntmps27
   go_wp2
   exact bodyPost_ret (v := .tuple #[.agg #[.int .u64 0, .int .u64 0, .int .u64 0, .int .u64 0], .int .i64 100]) (by simp [results, Try.results27, go_sem]) rfl ⟨rfl, by repeat (first | exact Below.refl _ _ | apply below_alloc | refine below_set ?_ (by omega))⟩
  by_cases h1 : 255 < a1
  ·go_enter Try.func27, Try.ntmps27
   go_wp2
   exact bodyPost_ret (v := .tuple #[.agg #[.int .u64 0, .int .u64 0, .int .u64 0, .int .u64 0], .int .i64 100]) (by simp [results, Try.results27, go_sem]) rfl ⟨rfl, by repeat (first | exact Below.refl _ _ | apply below_alloc | refine below_set ?_ (by omega))⟩
  have h2 : a1 < a0 := by omega
  go_enter Try.func27, Try.ntmps27
  go_wp2
  exact bodyPost_ret (v := .tuple #[.agg #[.int .u64 0, .int .u64 0, .int .u64 0, .int .u64 0], .int .i64 100]) (by simp [results, Try.results27, go_sem]) rfl ⟨rfl, by repeat (first | exact Below.refl _ _ | apply below_alloc | refine below_set ?_ (by omega))⟩


end Go.Proofs.Ytpilkfodlhhjpaa.PFW
