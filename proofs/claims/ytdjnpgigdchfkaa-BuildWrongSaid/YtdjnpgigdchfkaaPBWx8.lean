-- written by a program of the session's (wip/myprint.py) out of the translation
import Derived.Test.YtdjnpgigdchfkaaPBWx0
import Derived.Test.YtdjnpgigdchfkaaPBWx3
import Derived.Test.YtdjnpgigdchfkaaPBWx6
import Derived.Test.YtdjnpgigdchfkaaPBWx7
namespace Go.Proofs.Ytdjnpgigdchfkaa.PBW
open Go.RowKit Go.Proofs.YtdjnpgigdchfkaaW.PrintWords Go.Proofs.YtdjnpgigdchfkaaW.PrintLast Go.Proofs.YtdjnpgigdchfkaaW.PrintMore
attribute [local go_sem] max2_int min2_int max_two min_two max_three min_three max_four min_four   -- for this text's walks alone
set_option linter.unusedVariables false
set_option linter.unusedSimpArgs false

/-! ### templelaw0_SameGrammar: function 13 -/
mutual
def templelaw0_SameGrammar.j0 : Nat → Bool → Int → List ByteArray → List (S51) → Int → List ByteArray → List (S51) → Option (Bool)
 | 0, _, _, _, _, _, _, _ => none
 | k + 1, x27, x173000, x173001, x173002, x174000, x174001, x174002 => if x27 = true then (some false) else (templelaw0_SameGrammar.l0 k 0 x173000 x173001 x173002 x174000 x174001 x174002)
def templelaw0_SameGrammar.l0 : Nat → Int → Int → List ByteArray → List (S51) → Int → List ByteArray → List (S51) → Option (Bool)
 | 0, _, _, _, _, _, _, _ => none
 | k + 1, x5, x173000, x173001, x173002, x174000, x174001, x174002 => if x5 < (x173002.length : Int) then (if 0 ≤ x5 then (if x5 < (x174002.length : Int) then ((templelaw0_SameRule.f k ((rd_T51 x173002 x5).f0) ((rd_T51 x173002 x5).f1) ((rd_T51 x174002 x5).f0) ((rd_T51 x174002 x5).f1)).bind fun t177 => (if t177 = true then (templelaw0_SameGrammar.l0 k (wrap64 (x5 + 1)) x173000 x173001 x173002 x174000 x174001 x174002) else (some false))) else (none)) else (none)) else (some true)
end
def templelaw0_SameGrammar.f (k : Nat) (a0_0 : Int) (l0_1 : List ByteArray) (l0_2 : List (S51)) (a1_0 : Int) (l1_1 : List ByteArray) (l1_2 : List (S51)) : Option (Bool) := if a0_0 = a1_0 then ((templelaw0_SameTexts.f k l0_1 l1_1).bind fun t174 => (if t174 = true then (templelaw0_SameGrammar.j0 k ((l0_2.length : Int) != (l1_2.length : Int)) a0_0 l0_1 l0_2 a1_0 l1_1 l1_2) else (templelaw0_SameGrammar.j0 k true a0_0 l0_1 l0_2 a1_0 l1_1 l1_2))) else (templelaw0_SameGrammar.j0 k true a0_0 l0_1 l0_2 a1_0 l1_1 l1_2)
theorem templelaw0_SameGrammar.mono_l : ∀ k, (∀ y0 y1 y2 y3 y4 y5 y6, LeO (templelaw0_SameGrammar.j0 k y0 y1 y2 y3 y4 y5 y6) (templelaw0_SameGrammar.j0 (k + 1) y0 y1 y2 y3 y4 y5 y6)) ∧ (∀ y0 y1 y2 y3 y4 y5 y6, LeO (templelaw0_SameGrammar.l0 k y0 y1 y2 y3 y4 y5 y6) (templelaw0_SameGrammar.l0 (k + 1) y0 y1 y2 y3 y4 y5 y6))
 | 0 => ⟨fun _ _ _ _ _ _ _ r h => by simp [templelaw0_SameGrammar.j0] at h, fun _ _ _ _ _ _ _ r h => by simp [templelaw0_SameGrammar.l0] at h⟩
 | k + 1 => by
  obtain ⟨ih0, ih1⟩ := templelaw0_SameGrammar.mono_l k
  refine ⟨?_, ?_⟩
  ·intro y0 y1 y2 y3 y4 y5 y6
   unfold templelaw0_SameGrammar.j0
   repeat' first
   | (with_reducible exact ih0 _ _ _ _ _ _ _)
   | (with_reducible exact ih1 _ _ _ _ _ _ _)
   | (with_reducible exact templelaw0_SameRule.mono _ _ _ _ _)
   | (with_reducible exact templelaw0_SameTexts.mono _ _ _)
   | (with_reducible exact LeO.refl _)
   | (with_reducible exact LeO.none _)
   | (with_reducible refine LeO.ite ?_ ?_)
   | (with_reducible refine LeO.bind ?_ (fun _ => ?_))
   | exact ih0 _ _ _ _ _ _ _
   | exact ih1 _ _ _ _ _ _ _
   | exact templelaw0_SameRule.mono _ _ _ _ _
   | exact templelaw0_SameTexts.mono _ _ _
   | exact LeO.none _
   | refine LeO.ite ?_ ?_
   | refine LeO.bind ?_ (fun _ => ?_)
  ·intro y0 y1 y2 y3 y4 y5 y6
   unfold templelaw0_SameGrammar.l0
   repeat' first
   | (with_reducible exact ih0 _ _ _ _ _ _ _)
   | (with_reducible exact ih1 _ _ _ _ _ _ _)
   | (with_reducible exact templelaw0_SameRule.mono _ _ _ _ _)
   | (with_reducible exact templelaw0_SameTexts.mono _ _ _)
   | (with_reducible exact LeO.refl _)
   | (with_reducible exact LeO.none _)
   | (with_reducible refine LeO.ite ?_ ?_)
   | (with_reducible refine LeO.bind ?_ (fun _ => ?_))
   | exact ih0 _ _ _ _ _ _ _
   | exact ih1 _ _ _ _ _ _ _
   | exact templelaw0_SameRule.mono _ _ _ _ _
   | exact templelaw0_SameTexts.mono _ _ _
   | exact LeO.none _
   | refine LeO.ite ?_ ?_
   | refine LeO.bind ?_ (fun _ => ?_)
theorem templelaw0_SameGrammar.mono : ∀ a0 a1 a2 a3 a4 a5 k, LeO (templelaw0_SameGrammar.f k a0 a1 a2 a3 a4 a5) (templelaw0_SameGrammar.f (k + 1) a0 a1 a2 a3 a4 a5) := by
 intro a0 a1 a2 a3 a4 a5 k
 obtain ⟨ih0, ih1⟩ := templelaw0_SameGrammar.mono_l k
 unfold templelaw0_SameGrammar.f
 repeat' first
   | (with_reducible exact ih0 _ _ _ _ _ _ _)
   | (with_reducible exact ih1 _ _ _ _ _ _ _)
   | (with_reducible exact templelaw0_SameRule.mono _ _ _ _ _)
   | (with_reducible exact templelaw0_SameTexts.mono _ _ _)
   | (with_reducible exact LeO.refl _)
   | (with_reducible exact LeO.none _)
   | (with_reducible refine LeO.ite ?_ ?_)
   | (with_reducible refine LeO.bind ?_ (fun _ => ?_))
   | exact ih0 _ _ _ _ _ _ _
   | exact ih1 _ _ _ _ _ _ _
   | exact templelaw0_SameRule.mono _ _ _ _ _
   | exact templelaw0_SameTexts.mono _ _ _
   | exact LeO.none _
   | refine LeO.ite ?_ ?_
   | refine LeO.bind ?_ (fun _ => ?_)
def templelaw0_SameGrammar.T6 : Bool × List (List Nat × List Nat) := (true, [([], []), ([0], [0]), ([], []), ([1, 2], [1, 2]), ([3], [3]), ([], []), ([5], [5]), ([], []), ([6, 7], [6, 7]), ([8], [8]), ([4, 9], [4, 9]), ([10], [10])])
def templelaw0_SameGrammar.B6 : List Nat := [0, 1, 0, 7, 15, 0, 32, 0, 224, 480, 1023, 2047]
theorem templelaw0_SameGrammar.tab6 : rtab .any (opsOf Try.f13 6) = templelaw0_SameGrammar.T6 := by kernel_rfl
theorem templelaw0_SameGrammar.bits6 : waitsOk templelaw0_SameGrammar.T6.2 templelaw0_SameGrammar.B6 = true := by kernel_rfl
set_option maxHeartbeats 8000000 in
set_option maxRecDepth 100000 in
theorem templelaw0_SameGrammar.calls (k : Nat) (a0_0 : Int) (A0_1 : Option Addr) (c0_1 : Nat) (l0_1 : List ByteArray) (A0_2 : Option Addr) (c0_2 : Nat) (l0_2 : List (S51)) (a1_0 : Int) (A1_1 : Option Addr) (c1_1 : Nat) (l1_1 : List ByteArray) (A1_2 : Option Addr) (c1_2 : Nat) (l1_2 : List (S51)) (r : Bool) (w : World) (hr0_1 : Kd.C Kd.string w A0_1 l0_1.length l0_1) (hc0_1 : l0_1.length ≤ c0_1) (hr0_2 : Kd.C k51 w A0_2 l0_2.length l0_2) (hc0_2 : l0_2.length ≤ c0_2) (hr1_1 : Kd.C Kd.string w A1_1 l1_1.length l1_1) (hc1_1 : l1_1.length ≤ c1_1) (hr1_2 : Kd.C k51 w A1_2 l1_2.length l1_2) (hc1_2 : l1_2.length ≤ c1_2) (h : templelaw0_SameGrammar.f k a0_0 l0_1 l0_2 a1_0 l1_1 l1_2 = some r) :
  Calls Try.prog 13 #[.agg #[.int .i64 a0_0, .slice A0_1 l0_1.length c0_1, .slice A0_2 l0_2.length c0_2], .agg #[.int .i64 a1_0, .slice A1_1 l1_1.length c1_1, .slice A1_2 l1_2.length c1_2]] w fun e w' => e = .returned (.bool r) ∧ Below w.heap.size w w' := by
 have hu28 := Try.underlying28
 have hu51 := Try.underlying51
 have HR0_1 := Aside0.mk hr0_1
 have HC0_1 := Aside0.mk hc0_1
 clear hr0_1 hc0_1
 have HR0_2 := Aside0.mk hr0_2
 have HC0_2 := Aside0.mk hc0_2
 clear hr0_2 hc0_2
 have HR1_1 := Aside0.mk hr1_1
 have HC1_1 := Aside0.mk hc1_1
 clear hr1_1 hc1_1
 have HR1_2 := Aside0.mk hr1_2
 have HC1_2 := Aside0.mk hc1_2
 clear hr1_2 hc1_2
 have HB := Aside0.mk (Below.refl w.heap.size w)
 have H : (if a0_0 = a1_0 then ((templelaw0_SameTexts.f k l0_1 l1_1).bind fun t174 => (if t174 = true then (templelaw0_SameGrammar.j0 k ((l0_2.length : Int) != (l1_2.length : Int)) a0_0 l0_1 l0_2 a1_0 l1_1 l1_2) else (templelaw0_SameGrammar.j0 k true a0_0 l0_1 l0_2 a1_0 l1_1 l1_2))) else (templelaw0_SameGrammar.j0 k true a0_0 l0_1 l0_2 a1_0 l1_1 l1_2)) = some r := h
 clear h
 have HC3 := Aside0.mk H
 clear H
 go_enter Try.func13, Try.ntmps13
 go_upto_region 1 with (first | ((with_reducible refine gate_dst (N := 2) rfl ?_); (try (refine gate_guard (by rfl) ?_; dsimp only)); refine box_event ?hg (N := 2) ?hd (cs := #[.int .i64 a0_0, .slice A0_1 l0_1.length c0_1, .slice A0_2 l0_2.length c0_2]) (t := 28) ?hr ?_; (case hd => rfl); (case hg => rfl); (case hr => first | (go_simp; done) | (go_simp; rfl)); intro gb172 hg w4 hbox hb; have n0_ := Aside0.mk (below_step (by repeat (first | (with_reducible first | exact HB.out | apply below_alloc | apply pw_below_drewN | apply below_drew1) | exact HB.out)) hb); have n1_ := Aside0.mk (hbox); have n2_ := Aside0.mk ((by rw [hg]; exact (below_size (by repeat (first | (with_reducible first | exact HB.out | apply below_alloc | apply pw_below_drewN | apply below_drew1) | exact HB.out))) : w.heap.size ≤ gb172)); have n3_ := Aside0.mk ((by rw [hg]; exact (below_size (by repeat (first | (with_reducible first | exact HB.out | apply below_alloc | apply pw_below_drewN | apply below_drew1) | exact HB.out))) : w.heap.size ≤ gb172)); clear HB; have HB := n0_; have BK172 := n1_; have GW172 := n2_; have GE172 := n3_; clear n0_ n1_ n2_ n3_; clear hb hbox hg) | ((with_reducible refine gate_dst (N := 3) rfl ?_); (try (refine gate_guard (by rfl) ?_; dsimp only)); refine box_event ?hg (N := 3) ?hd (cs := #[.int .i64 a1_0, .slice A1_1 l1_1.length c1_1, .slice A1_2 l1_2.length c1_2]) (t := 28) ?hr ?_; (case hd => rfl); (case hg => rfl); (case hr => first | (go_simp; done) | (go_simp; rfl)); intro gb173 hg w5 hbox hb; have n0_ := Aside0.mk (blk_below (g := gb172) (o := .cells #[.int .i64 a0_0, .slice A0_1 l0_1.length c0_1, .slice A0_2 l0_2.length c0_2] 28 (0, 0)) (by (with_reducible repeat (first | refine blk_drewN ?_ _ | refine blk_drew ?_ | refine blk_alloc ?_ _)); exact BK172.out) hb); have n1_ := Aside0.mk (below_step (by repeat (first | (with_reducible first | exact HB.out | apply below_alloc | apply pw_below_drewN | apply below_drew1 | refine below_set ?_ GE172.out) | exact HB.out)) hb); have n2_ := Aside0.mk (hbox); have n3_ := Aside0.mk ((by rw [hg]; exact (below_size (by repeat (first | (with_reducible first | exact HB.out | apply below_alloc | apply pw_below_drewN | apply below_drew1 | refine below_set ?_ GE172.out) | exact HB.out))) : w.heap.size ≤ gb173)); have n4_ := Aside0.mk ((by rw [hg]; exact (below_size (by repeat (first | (with_reducible first | exact HB.out | apply below_alloc | apply pw_below_drewN | apply below_drew1 | refine below_set ?_ GE172.out) | exact HB.out))) : w.heap.size ≤ gb173)); have n5_ := Aside0.mk ((by rw [hg]; exact Nat.ne_of_lt (blk_lt (g := gb172) (o := .cells #[.int .i64 a0_0, .slice A0_1 l0_1.length c0_1, .slice A0_2 l0_2.length c0_2] 28 (0, 0)) (by (with_reducible repeat (first | refine blk_drewN ?_ _ | refine blk_drew ?_ | refine blk_alloc ?_ _)); exact BK172.out)) : gb172 ≠ gb173)); have n6_ := Aside0.mk ((by rw [hg]; exact Nat.ne_of_gt (blk_lt (g := gb172) (o := .cells #[.int .i64 a0_0, .slice A0_1 l0_1.length c0_1, .slice A0_2 l0_2.length c0_2] 28 (0, 0)) (by (with_reducible repeat (first | refine blk_drewN ?_ _ | refine blk_drew ?_ | refine blk_alloc ?_ _)); exact BK172.out)) : gb173 ≠ gb172)); clear BK172; clear HB; have BK172 := n0_; have HB := n1_; have BK173 := n2_; have GW173 := n3_; have GE173 := n4_; have NB172_173 := n5_; have NB173_172 := n6_; clear n0_ n1_ n2_ n3_ n4_ n5_ n6_; clear hb hbox hg))
 (try simp only [Act.put, List.setIfInBounds_toArray, List.set_cons_zero, List.set_cons_succ])
 go_cut [27] (fun v27 wc => ∃ (kq : Nat) (x27_2 : Bool), v27 = .bool x27_2 ∧ Aside0 (templelaw0_SameGrammar.j0 kq x27_2 a0_0 l0_1 l0_2 a1_0 l1_1 l1_2 = some r) ∧ Aside0 (kq ≤ k) ∧ Aside0 (wc.heap[gb172]? = some (.cells #[.int .i64 a0_0, (.slice A0_1 l0_1.length c0_1), (.slice A0_2 l0_2.length c0_2)] 28 (0, 0))) ∧ Aside0 (wc.heap[gb173]? = some (.cells #[.int .i64 a1_0, (.slice A1_1 l1_1.length c1_1), (.slice A1_2 l1_2.length c1_2)] 28 (0, 0))) ∧ Aside0 (Below w.heap.size w wc))
 case first =>
  have H := HC3.out
  clear HC3
  by_cases c6 : a0_0 = a1_0
  ·rw [if_pos c6] at H
   have c6b0 : (a0_0 == a1_0) = true := beq_iff_eq.mpr c6
   have c6b1 : (a0_0 != a1_0) = false := bne_eq_false_iff_eq.mpr c6
   clear c6
   (first | rw [c6b0] | (simp only [i64_w, i32_w]; rw [c6b0]) | skip)
   replace H := Option.bind_eq_some_iff.mp H
   obtain ⟨t174, A70, H⟩ := H
   replace H : (if t174 = true then (templelaw0_SameGrammar.j0 k ((l0_2.length : Int) != (l1_2.length : Int)) a0_0 l0_1 l0_2 a1_0 l1_1 l1_2) else (templelaw0_SameGrammar.j0 k true a0_0 l0_1 l0_2 a1_0 l1_1 l1_2)) = some r := H
   have A7 := Aside0.mk A70
   clear A70
   by_cases c8 : t174 = true
   ·subst c8
    have H1 : (templelaw0_SameGrammar.j0 k ((l0_2.length : Int) != (l1_2.length : Int)) a0_0 l0_1 l0_2 a1_0 l1_1 l1_2) = some r := by rw [if_pos rfl] at H; exact H
    clear H
    have H := H1
    clear H1
    have H' := Aside0.mk H
    clear H
    have hnb9 := NB172_173.out
    have hnc9 := NB173_172.out
    have hcz10_0 : w5.cell? ⟨gb172, 0, none⟩ = some (.int .i64 a0_0) := (blk_cell BK172.out 0).trans rfl
    have hcz10_1 : w5.cell? ⟨gb172, 1, none⟩ = some (.slice A0_1 l0_1.length c0_1) := (blk_cell BK172.out 1).trans rfl
    have hcz10_2 : w5.cell? ⟨gb172, 2, none⟩ = some (.slice A0_2 l0_2.length c0_2) := (blk_cell BK172.out 2).trans rfl
    have hfz10_0 := blk_frozen BK172.out 0
    have hfz10_1 := blk_frozen BK172.out 1
    have hfz10_2 := blk_frozen BK172.out 2
    have hcz11_0 : w5.cell? ⟨gb173, 0, none⟩ = some (.int .i64 a1_0) := (blk_cell BK173.out 0).trans rfl
    have hcz11_1 : w5.cell? ⟨gb173, 1, none⟩ = some (.slice A1_1 l1_1.length c1_1) := (blk_cell BK173.out 1).trans rfl
    have hcz11_2 : w5.cell? ⟨gb173, 2, none⟩ = some (.slice A1_2 l1_2.length c1_2) := (blk_cell BK173.out 2).trans rfl
    have hfz11_0 := blk_frozen BK173.out 0
    have hfz11_1 := blk_frozen BK173.out 1
    have hfz11_2 := blk_frozen BK173.out 2
    go_wp2_with (first | (go_at_call 32; (with_reducible refine (templelaw0_SameTexts.calls k _ _ l0_1 _ _ l1_1 true _ ?side1 ?side2 ?side3 ?side4 A7.out).mono ?_); (case side1 => repeat (first | exact (Kd.C_below HR0_1.out HB.out) | (with_reducible refine Kd.C_alloc ?_ _) | (with_reducible refine Kd.C_drewN ?_ _) | (with_reducible refine Kd.C_drew ?_))); (case side2 => exact HC0_1.out); (case side3 => repeat (first | exact (Kd.C_below HR1_1.out HB.out) | (with_reducible refine Kd.C_alloc ?_ _) | (with_reducible refine Kd.C_drewN ?_ _) | (with_reducible refine Kd.C_drew ?_))); (case side4 => exact HC1_1.out); rintro e w' ⟨rfl, ⟨nd, rfl⟩⟩))
    go_meet
    case rel => exact ⟨_, (((l0_2.length : Int) != (l1_2.length : Int))), (by first | rfl | (simp; done) | (simp [i64_w]; done) | (simp [*]; done) | (simp [*, i64_w]; done) | (simp [*]; unfold wrap64; omega)), H', ⟨by first | omega | exact Nat.le_refl _⟩, ⟨by (with_reducible repeat (first | refine blk_drewN ?_ _ | refine blk_drew ?_ | refine blk_alloc ?_ _)); exact BK172.out⟩, ⟨by (with_reducible repeat (first | refine blk_drewN ?_ _ | refine blk_drew ?_ | refine blk_alloc ?_ _)); exact BK173.out⟩, ⟨by repeat (first | (with_reducible first | exact HB.out | apply below_alloc | apply pw_below_drewN | apply below_drew1 | refine below_set ?_ GE172.out | refine below_set ?_ GE173.out) | exact HB.out)⟩⟩
   ·replace c8 := Bool.eq_false_iff.mpr c8
    subst c8
    have H1 : (templelaw0_SameGrammar.j0 k true a0_0 l0_1 l0_2 a1_0 l1_1 l1_2) = some r := by rw [if_neg (show ¬ (false = true) by decide)] at H; exact H
    clear H
    have H := H1
    clear H1
    have H' := Aside0.mk H
    clear H
    have hnb12 := NB172_173.out
    have hnc12 := NB173_172.out
    have hcz13_0 : w5.cell? ⟨gb172, 0, none⟩ = some (.int .i64 a0_0) := (blk_cell BK172.out 0).trans rfl
    have hcz13_1 : w5.cell? ⟨gb172, 1, none⟩ = some (.slice A0_1 l0_1.length c0_1) := (blk_cell BK172.out 1).trans rfl
    have hcz13_2 : w5.cell? ⟨gb172, 2, none⟩ = some (.slice A0_2 l0_2.length c0_2) := (blk_cell BK172.out 2).trans rfl
    have hfz13_0 := blk_frozen BK172.out 0
    have hfz13_1 := blk_frozen BK172.out 1
    have hfz13_2 := blk_frozen BK172.out 2
    have hcz14_0 : w5.cell? ⟨gb173, 0, none⟩ = some (.int .i64 a1_0) := (blk_cell BK173.out 0).trans rfl
    have hcz14_1 : w5.cell? ⟨gb173, 1, none⟩ = some (.slice A1_1 l1_1.length c1_1) := (blk_cell BK173.out 1).trans rfl
    have hcz14_2 : w5.cell? ⟨gb173, 2, none⟩ = some (.slice A1_2 l1_2.length c1_2) := (blk_cell BK173.out 2).trans rfl
    have hfz14_0 := blk_frozen BK173.out 0
    have hfz14_1 := blk_frozen BK173.out 1
    have hfz14_2 := blk_frozen BK173.out 2
    go_wp2_with (first | (go_at_call 32; (with_reducible refine (templelaw0_SameTexts.calls k _ _ l0_1 _ _ l1_1 false _ ?side1 ?side2 ?side3 ?side4 A7.out).mono ?_); (case side1 => repeat (first | exact (Kd.C_below HR0_1.out HB.out) | (with_reducible refine Kd.C_alloc ?_ _) | (with_reducible refine Kd.C_drewN ?_ _) | (with_reducible refine Kd.C_drew ?_))); (case side2 => exact HC0_1.out); (case side3 => repeat (first | exact (Kd.C_below HR1_1.out HB.out) | (with_reducible refine Kd.C_alloc ?_ _) | (with_reducible refine Kd.C_drewN ?_ _) | (with_reducible refine Kd.C_drew ?_))); (case side4 => exact HC1_1.out); rintro e w' ⟨rfl, ⟨nd, rfl⟩⟩))
    go_meet
    case rel => exact ⟨_, (true), (by first | rfl | (simp; done) | (simp [i64_w]; done) | (simp [*]; done) | (simp [*, i64_w]; done) | (simp [*]; unfold wrap64; omega)), H', ⟨by first | omega | exact Nat.le_refl _⟩, ⟨by (with_reducible repeat (first | refine blk_drewN ?_ _ | refine blk_drew ?_ | refine blk_alloc ?_ _)); exact BK172.out⟩, ⟨by (with_reducible repeat (first | refine blk_drewN ?_ _ | refine blk_drew ?_ | refine blk_alloc ?_ _)); exact BK173.out⟩, ⟨by repeat (first | (with_reducible first | exact HB.out | apply below_alloc | apply pw_below_drewN | apply below_drew1 | refine below_set ?_ GE172.out | refine below_set ?_ GE173.out) | exact HB.out)⟩⟩
  ·rw [if_neg c6] at H
   have c6b0 : (a0_0 == a1_0) = false := beq_eq_false_iff_ne.mpr c6
   have c6b1 : (a0_0 != a1_0) = true := bne_iff_ne.mpr c6
   (first | rw [c6b0] | (simp only [i64_w, i32_w]; rw [c6b0]) | skip)
   have H' := Aside0.mk H
   clear H
   have hnb15 := NB172_173.out
   have hnc15 := NB173_172.out
   have hcz16_0 : w5.cell? ⟨gb172, 0, none⟩ = some (.int .i64 a0_0) := (blk_cell BK172.out 0).trans rfl
   have hcz16_1 : w5.cell? ⟨gb172, 1, none⟩ = some (.slice A0_1 l0_1.length c0_1) := (blk_cell BK172.out 1).trans rfl
   have hcz16_2 : w5.cell? ⟨gb172, 2, none⟩ = some (.slice A0_2 l0_2.length c0_2) := (blk_cell BK172.out 2).trans rfl
   have hfz16_0 := blk_frozen BK172.out 0
   have hfz16_1 := blk_frozen BK172.out 1
   have hfz16_2 := blk_frozen BK172.out 2
   have hcz17_0 : w5.cell? ⟨gb173, 0, none⟩ = some (.int .i64 a1_0) := (blk_cell BK173.out 0).trans rfl
   have hcz17_1 : w5.cell? ⟨gb173, 1, none⟩ = some (.slice A1_1 l1_1.length c1_1) := (blk_cell BK173.out 1).trans rfl
   have hcz17_2 : w5.cell? ⟨gb173, 2, none⟩ = some (.slice A1_2 l1_2.length c1_2) := (blk_cell BK173.out 2).trans rfl
   have hfz17_0 := blk_frozen BK173.out 0
   have hfz17_1 := blk_frozen BK173.out 1
   have hfz17_2 := blk_frozen BK173.out 2
   go_wp2
   go_meet
   case rel => exact ⟨_, (true), (by first | rfl | (simp; done) | (simp [i64_w]; done) | (simp [*]; done) | (simp [*, i64_w]; done) | (simp [*]; unfold wrap64; omega)), H', ⟨by first | omega | exact Nat.le_refl _⟩, ⟨by (with_reducible repeat (first | refine blk_drewN ?_ _ | refine blk_drew ?_ | refine blk_alloc ?_ _)); exact BK172.out⟩, ⟨by (with_reducible repeat (first | refine blk_drewN ?_ _ | refine blk_drew ?_ | refine blk_alloc ?_ _)); exact BK173.out⟩, ⟨by repeat (first | (with_reducible first | exact HB.out | apply below_alloc | apply pw_below_drewN | apply below_drew1 | refine below_set ?_ GE172.out | refine below_set ?_ GE173.out) | exact HB.out)⟩⟩
 case rest =>
  clear HC3
  try clear c1
  try clear p2
  try clear c6
  try clear c6b0
  try clear c6b1
  try clear c8
  try clear c9
  try clear c12
  try clear c13
  try clear c15
  try clear hcz10_0
  try clear hcz10_1
  try clear hcz10_2
  try clear hcz11_0
  try clear hcz11_1
  try clear hcz11_2
  try clear hcz13_0
  try clear hcz13_1
  try clear hcz13_2
  try clear hcz14_0
  try clear hcz14_1
  try clear hcz14_2
  try clear hcz16_0
  try clear hcz16_1
  try clear hcz16_2
  try clear hcz17_0
  try clear hcz17_1
  try clear hcz17_2
  try clear hfz10_0
  try clear hfz10_1
  try clear hfz10_2
  try clear hfz11_0
  try clear hfz11_1
  try clear hfz11_2
  try clear hfz13_0
  try clear hfz13_1
  try clear hfz13_2
  try clear hfz14_0
  try clear hfz14_1
  try clear hfz14_2
  try clear hfz16_0
  try clear hfz16_1
  try clear hfz16_2
  try clear hfz17_0
  try clear hfz17_1
  try clear hfz17_2
  obtain ⟨kq, x27_2, rfl, HA, HJ2, BK172, BK173, HB⟩ := hcut
  cases kq with
  | zero => exact absurd HA.out (by simp [templelaw0_SameGrammar.j0])
  | succ kj2 =>
   have H := HA.out
   clear HA
   simp only [templelaw0_SameGrammar.j0] at H
   by_cases c18 : x27_2 = true
   ·subst c18
    have H1 : (some false) = some r := by rw [if_pos rfl] at H; exact H
    clear H
    have H := H1
    clear H1
    obtain rfl := Option.some.inj H
    go_wp2
    go_ret
    exact ⟨by first | rfl | (simp [errW_none, errW_some] <;> rfl) | (simp [*, errW_none, errW_some] <;> rfl), by repeat (first | (with_reducible first | exact HB.out | apply below_alloc | apply pw_below_drewN | apply below_drew1 | refine below_set ?_ GE172.out | refine below_set ?_ GE173.out) | exact HB.out)⟩
   ·replace c18 := Bool.eq_false_iff.mpr c18
    subst c18
    have H1 : (templelaw0_SameGrammar.l0 kj2 0 a0_0 l0_1 l0_2 a1_0 l1_1 l1_2) = some r := by rw [if_neg (show ¬ (false = true) by decide)] at H; exact H
    clear H
    have H := H1
    clear H1
    have H' := Aside0.mk H
    clear H
    go_wp2
    go_loopg [5] kj2 (fun kq v5 w' => ∃ (x5_2 : Int), v5 = .int .i64 x5_2 ∧ Aside0 (templelaw0_SameGrammar.l0 kq x5_2 a0_0 l0_1 l0_2 a1_0 l1_1 l1_2 = some r) ∧ Aside0 (kq ≤ kj2) ∧ Aside0 (w'.heap[gb172]? = some (.cells #[.int .i64 a0_0, (.slice A0_1 l0_1.length c0_1), (.slice A0_2 l0_2.length c0_2)] 28 (0, 0))) ∧ Aside0 (w'.heap[gb173]? = some (.cells #[.int .i64 a1_0, (.slice A1_1 l1_1.length c1_1), (.slice A1_2 l1_2.length c1_2)] 28 (0, 0))) ∧ Aside0 (Below w.heap.size w w'))
    case atStart => exact ⟨(0), (by first | rfl | (simp; done) | (simp [i64_w]; done) | (simp [*]; done) | (simp [*, i64_w]; done) | (simp [*]; unfold wrap64; omega)), H', ⟨Nat.le_refl _⟩, ⟨by (with_reducible repeat (first | refine blk_drewN ?_ _ | refine blk_drew ?_ | refine blk_alloc ?_ _)); exact BK172.out⟩, ⟨by (with_reducible repeat (first | refine blk_drewN ?_ _ | refine blk_drew ?_ | refine blk_alloc ?_ _)); exact BK173.out⟩, ⟨by repeat (first | (with_reducible first | exact HB.out | apply below_alloc | apply pw_below_drewN | apply below_drew1 | refine below_set ?_ GE172.out | refine below_set ?_ GE173.out) | exact HB.out)⟩⟩
    case round =>
     clear H'
     try clear c1
     try clear p2
     try clear c6
     try clear c6b0
     try clear c6b1
     try clear c8
     try clear c9
     try clear c12
     try clear c13
     try clear c15
     try clear c18
     try clear hcz10_0
     try clear hcz10_1
     try clear hcz10_2
     try clear hcz11_0
     try clear hcz11_1
     try clear hcz11_2
     try clear hcz13_0
     try clear hcz13_1
     try clear hcz13_2
     try clear hcz14_0
     try clear hcz14_1
     try clear hcz14_2
     try clear hcz16_0
     try clear hcz16_1
     try clear hcz16_2
     try clear hcz17_0
     try clear hcz17_1
     try clear hcz17_2
     try clear hfz10_0
     try clear hfz10_1
     try clear hfz10_2
     try clear hfz11_0
     try clear hfz11_1
     try clear hfz11_2
     try clear hfz13_0
     try clear hfz13_1
     try clear hfz13_2
     try clear hfz14_0
     try clear hfz14_1
     try clear hfz14_2
     try clear hfz16_0
     try clear hfz16_1
     try clear hfz16_2
     try clear hfz17_0
     try clear hfz17_1
     try clear hfz17_2
     try clear p2
     obtain ⟨x5_2, rfl, HA, HK2, BK172, BK173, HB⟩ := hrel
     cases gk with
     | zero => exact absurd HA.out (by simp [templelaw0_SameGrammar.l0])
     | succ k2 =>
      have H := HA.out
      clear HA
      simp only [templelaw0_SameGrammar.l0] at H
      by_cases c19 : x5_2 < (l0_2.length : Int)
      ·rw [if_pos c19] at H
       have c19b0 : decide (x5_2 < (l0_2.length : Int)) = true := decide_eq_true c19
       clear c19
       by_cases c20 : 0 ≤ x5_2
       ·rw [if_pos c20] at H
        have c20b0 : decide (0 ≤ x5_2) = true := decide_eq_true c20
        clear c20
        by_cases c21 : x5_2 < (l1_2.length : Int)
        ·rw [if_pos c21] at H
         have c21b0 : decide (x5_2 < (l1_2.length : Int)) = true := decide_eq_true c21
         clear c21
         replace H := Option.bind_eq_some_iff.mp H
         obtain ⟨t177, A220, H⟩ := H
         replace H : (if t177 = true then (templelaw0_SameGrammar.l0 k2 (wrap64 (x5_2 + 1)) a0_0 l0_1 l0_2 a1_0 l1_1 l1_2) else (some false)) = some r := H
         have A22 := Aside0.mk A220
         clear A220
         by_cases c23 : t177 = true
         ·subst c23
          have H1 : (templelaw0_SameGrammar.l0 k2 (wrap64 (x5_2 + 1)) a0_0 l0_1 l0_2 a1_0 l1_1 l1_2) = some r := by rw [if_pos rfl] at H; exact H
          clear H
          have H := H1
          clear H1
          have H' := Aside0.mk H
          clear H
          have hnb24 := NB172_173.out
          have hnc24 := NB173_172.out
          have hcz25_0 : wr.cell? ⟨gb172, 0, none⟩ = some (.int .i64 a0_0) := (blk_cell BK172.out 0).trans rfl
          have hcz25_1 : wr.cell? ⟨gb172, 1, none⟩ = some (.slice A0_1 l0_1.length c0_1) := (blk_cell BK172.out 1).trans rfl
          have hcz25_2 : wr.cell? ⟨gb172, 2, none⟩ = some (.slice A0_2 l0_2.length c0_2) := (blk_cell BK172.out 2).trans rfl
          have hfz25_0 := blk_frozen BK172.out 0
          have hfz25_1 := blk_frozen BK172.out 1
          have hfz25_2 := blk_frozen BK172.out 2
          try go_wp2
          have n0_ := Aside0.mk (blk_drew BK172.out)
          have n1_ := Aside0.mk (blk_drew BK173.out)
          have n2_ := Aside0.mk (below_drew1 HB.out)
          clear BK172
          clear BK173
          clear HB
          have BK172 := n0_
          have BK173 := n1_
          have HB := n2_
          clear n0_ n1_ n2_
          have p175 : 0 ≤ (x5_2 : Int) := of_decide_eq_true (by first | (with_reducible assumption) | assumption)
          have q175 : x5_2 < (l0_2.length : Int) := of_decide_eq_true (by first | (with_reducible assumption) | assumption)
          obtain ⟨ad175, A175_1, c175_1, e175, hx175_0, hx175_1, hl175_1, hi175_1⟩ := at_T51 HR0_2.out x5_2 p175 q175
          have hw175_1 := hx175_1
          have hw175_0 := hx175_0
          cases e175
          replace hx175_0 := (HB.out.cell (World.block_lt_of_cell? w _ hx175_0)).trans hx175_0
          replace hx175_1 := (HB.out.cell (World.block_lt_of_cell? w _ hx175_1)).trans hx175_1
          have HR175_1 := Aside0.mk hi175_1
          have HC175_1 := Aside0.mk hl175_1
          clear hi175_1 hl175_1
          replace p175 := eq_true p175
          replace q175 := eq_true q175
          have p176 : 0 ≤ (x5_2 : Int) := of_decide_eq_true (by first | (with_reducible assumption) | assumption)
          have q176 : x5_2 < (l1_2.length : Int) := of_decide_eq_true (by first | (with_reducible assumption) | assumption)
          obtain ⟨ad176, A176_1, c176_1, e176, hx176_0, hx176_1, hl176_1, hi176_1⟩ := at_T51 HR1_2.out x5_2 p176 q176
          have hw176_1 := hx176_1
          have hw176_0 := hx176_0
          cases e176
          replace hx176_0 := (HB.out.cell (World.block_lt_of_cell? w _ hx176_0)).trans hx176_0
          replace hx176_1 := (HB.out.cell (World.block_lt_of_cell? w _ hx176_1)).trans hx176_1
          have HR176_1 := Aside0.mk hi176_1
          have HC176_1 := Aside0.mk hl176_1
          clear hi176_1 hl176_1
          replace p176 := eq_true p176
          replace q176 := eq_true q176
          refine start_ (n := 12) (S := fun w' => w'.cell? ⟨gb172, 0, none⟩ = some (.int .i64 a0_0) ∧ w'.cell? ⟨gb172, 1, none⟩ = some (.slice A0_1 l0_1.length c0_1) ∧ w'.cell? ⟨gb172, 2, none⟩ = some (.slice (some ad175) l0_2.length c0_2) ∧ w'.cell? ⟨gb173, 0, none⟩ = some (.int .i64 a1_0) ∧ w'.cell? ⟨gb173, 1, none⟩ = some (.slice A1_1 l1_1.length c1_1) ∧ w'.cell? ⟨gb173, 2, none⟩ = some (.slice (some ad176) l1_2.length c1_2) ∧ w'.cell? (ad175.add ((x5_2).toNat * 2)) = some (.int .i64 ((rd_T51 l0_2 x5_2).f0)) ∧ w'.cell? ⟨(ad175.add ((x5_2).toNat * 2)).block, (ad175.add ((x5_2).toNat * 2)).off + 1, none⟩ = some (.slice A175_1 ((rd_T51 l0_2 x5_2).f1).length c175_1) ∧ w'.cell? (ad176.add ((x5_2).toNat * 2)) = some (.int .i64 ((rd_T51 l1_2 x5_2).f0)) ∧ w'.cell? ⟨(ad176.add ((x5_2).toNat * 2)).block, (ad176.add ((x5_2).toNat * 2)).off + 1, none⟩ = some (.slice A176_1 ((rd_T51 l1_2 x5_2).f1).length c176_1)) (ds := []) #[false, false, false, false, false, false, false, false, false, false, false, false] (by kernel_rfl) rfl rfl ⟨(blk_cell BK172.out 0).trans rfl, (blk_cell BK172.out 1).trans rfl, (blk_cell BK172.out 2).trans rfl, (blk_cell BK173.out 0).trans rfl, (blk_cell BK173.out 1).trans rfl, (blk_cell BK173.out 2).trans rfl, ((HB.out.cell (World.block_lt_of_cell? w _ hw175_0)).trans hw175_0), ((HB.out.cell (World.block_lt_of_cell? w _ hw175_1)).trans hw175_1), ((HB.out.cell (World.block_lt_of_cell? w _ hw176_0)).trans hw176_0), ((HB.out.cell (World.block_lt_of_cell? w _ hw176_1)).trans hw176_1)⟩ (fun hHeld => ?_); refine with_tabW templelaw0_SameGrammar.tab6 templelaw0_SameGrammar.bits6 (fun HT_ HW_ => ?_)
          generalize wr.drew = w26 at BK172 BK173 HB HR175_1 HR176_1 hx175_0 hx175_1 hx176_0 hx176_1 hHeld ⊢
          refine pure_ (i := 0) (N := some 35) (v := ?_) (a' := ?_) #[true, false, false, false, false, false, false, false, false, false, false, false] rfl rfl (any_of HT_.out (by kernel_rfl)) (fun _ _ _ h => h) (Or.inl ⟨by rfl, ?_⟩) ?_ ?_
          rotate_left
          ·intro w'
           go_simp
           with_reducible rfl
          rotate_left
          ·simp only [Act.put, List.setIfInBounds_toArray, List.set_cons_zero, List.set_cons_succ, i64_w, i32_w]
           rfl
          refine pure_ (i := 2) (N := some 37) (v := ?_) (a' := ?_) #[true, false, true, false, false, false, false, false, false, false, false, false] rfl rfl (any_of HT_.out (by kernel_rfl)) (fun _ _ _ h => h) (Or.inl ⟨by rfl, ?_⟩) ?_ ?_
          rotate_left
          ·intro w'
           go_simp
           with_reducible rfl
          rotate_left
          ·simp only [Act.put, List.setIfInBounds_toArray, List.set_cons_zero, List.set_cons_succ, i64_w, i32_w]
           rfl
          refine pure_ (i := 5) (N := some 40) (v := ?_) (a' := ?_) #[true, false, true, false, false, true, false, false, false, false, false, false] rfl rfl (any_of HT_.out (by kernel_rfl)) (fun _ _ _ h => h) (Or.inl ⟨by rfl, ?_⟩) ?_ ?_
          rotate_left
          ·intro w'
           go_simp
           with_reducible rfl
          rotate_left
          ·simp only [Act.put, List.setIfInBounds_toArray, List.set_cons_zero, List.set_cons_succ, i64_w, i32_w]
           rfl
          refine pure_ (i := 7) (N := some 42) (v := ?_) (a' := ?_) #[true, false, true, false, false, true, false, true, false, false, false, false] rfl rfl (any_of HT_.out (by kernel_rfl)) (fun _ _ _ h => h) (Or.inl ⟨by rfl, ?_⟩) ?_ ?_
          rotate_left
          ·intro w'
           go_simp
           with_reducible rfl
          rotate_left
          ·simp only [Act.put, List.setIfInBounds_toArray, List.set_cons_zero, List.set_cons_succ, i64_w, i32_w]
           rfl
          refine take_ (i := 1) (N := some 36) (v := ?_) (a' := ?_) #[true, true, true, false, false, true, false, true, false, false, false, false] rfl rfl (take_ofW HT_.out HW_.out (by kernel_rfl)) (fun _ _ _ h => h) (Or.inl ⟨by rfl, ?_⟩) hHeld ?_ ?_
          rotate_left
          ·rintro w' ⟨s0, s1, s2, s3, s4, s5, s6, s7, s8, s9⟩
           go_simp
           with_reducible rfl
          rotate_left
          ·simp only [Act.put, List.setIfInBounds_toArray, List.set_cons_zero, List.set_cons_succ, i64_w, i32_w]
           rfl
          refine pure_ (i := 3) (N := some 38) (v := ?_) (a' := ?_) #[true, true, true, true, false, true, false, true, false, false, false, false] rfl rfl (any_of HT_.out (by kernel_rfl)) (fun _ _ _ h => h) (Or.inl ⟨by rfl, ?_⟩) ?_ ?_
          rotate_left
          ·intro w'
           go_simp
           with_reducible rfl
          rotate_left
          ·simp only [Act.put, List.setIfInBounds_toArray, List.set_cons_zero, List.set_cons_succ, i64_w, i32_w]
           rfl
          refine take_ (i := 4) (N := some 39) (v := ?_) (a' := ?_) #[true, true, true, true, true, true, false, true, false, false, false, false] rfl rfl (take_ofW HT_.out HW_.out (by kernel_rfl)) (fun _ _ _ h => h) (Or.inl ⟨by rfl, ?_⟩) hHeld ?_ ?_
          rotate_left
          ·rintro w' ⟨s0, s1, s2, s3, s4, s5, s6, s7, s8, s9⟩
           go_simp
           with_reducible rfl
          rotate_left
          ·simp only [Act.put, List.setIfInBounds_toArray, List.set_cons_zero, List.set_cons_succ, i64_w, i32_w]
           rfl
          refine take_ (i := 6) (N := some 41) (v := ?_) (a' := ?_) #[true, true, true, true, true, true, true, true, false, false, false, false] rfl rfl (take_ofW HT_.out HW_.out (by kernel_rfl)) (fun _ _ _ h => h) (Or.inl ⟨by rfl, ?_⟩) hHeld ?_ ?_
          rotate_left
          ·rintro w' ⟨s0, s1, s2, s3, s4, s5, s6, s7, s8, s9⟩
           go_simp
           with_reducible rfl
          rotate_left
          ·simp only [Act.put, List.setIfInBounds_toArray, List.set_cons_zero, List.set_cons_succ, i64_w, i32_w]
           rfl
          refine pure_ (i := 8) (N := some 43) (v := ?_) (a' := ?_) #[true, true, true, true, true, true, true, true, true, false, false, false] rfl rfl (any_of HT_.out (by kernel_rfl)) (fun _ _ _ h => h) (Or.inl ⟨by rfl, ?_⟩) ?_ ?_
          rotate_left
          ·intro w'
           go_simp
           with_reducible rfl
          rotate_left
          ·simp only [Act.put, List.setIfInBounds_toArray, List.set_cons_zero, List.set_cons_succ, i64_w, i32_w]
           rfl
          refine take_ (i := 9) (N := some 44) (v := ?_) (a' := ?_) #[true, true, true, true, true, true, true, true, true, true, false, false] rfl rfl (take_ofW HT_.out HW_.out (by kernel_rfl)) (fun _ _ _ h => h) (Or.inl ⟨by rfl, ?_⟩) hHeld ?_ ?_
          rotate_left
          ·rintro w' ⟨s0, s1, s2, s3, s4, s5, s6, s7, s8, s9⟩
           go_simp
           with_reducible rfl
          rotate_left
          ·simp only [Act.put, List.setIfInBounds_toArray, List.set_cons_zero, List.set_cons_succ, i64_w, i32_w]
           rfl
          refine one_ (i := 10) (N := some 45) #[true, true, true, true, true, true, true, true, true, true, true, false] rfl rfl (one_of HT_.out (by kernel_rfl)) (by decide) (fun K hK => ?_)
          refine goes_ Try.func33 (by kernel_rfl) rfl #[.agg #[.int .i64 ((rd_T51 l0_2 x5_2).f0), .slice A175_1 ((rd_T51 l0_2 x5_2).f1).length c175_1], .agg #[.int .i64 ((rd_T51 l1_2 x5_2).f0), .slice A176_1 ((rd_T51 l1_2 x5_2).f1).length c176_1]] (by rfl) rfl rfl (by (try simp only [List.map_toArray, List.map_cons, List.map_nil]); first | done | rfl | (simp only [List.length_drop, List.length_take]; rfl)) ?_
          with_reducible refine (templelaw0_SameRule.calls k2 ((rd_T51 l0_2 x5_2).f0) _ _ ((rd_T51 l0_2 x5_2).f1) ((rd_T51 l1_2 x5_2).f0) _ _ ((rd_T51 l1_2 x5_2).f1) true _ ?side1 ?side2 ?side3 ?side4 A22.out).mono ?_
          (case side1 => repeat (first | exact (Kd.C_below HR175_1.out HB.out) | (with_reducible refine Kd.C_alloc ?_ _) | (with_reducible refine Kd.C_drewN ?_ _) | (with_reducible refine Kd.C_drew ?_)))
          (case side2 => exact HC175_1.out)
          (case side3 => repeat (first | exact (Kd.C_below HR176_1.out HB.out) | (with_reducible refine Kd.C_alloc ?_ _) | (with_reducible refine Kd.C_drewN ?_ _) | (with_reducible refine Kd.C_drew ?_)))
          (case side4 => exact HC176_1.out)
          rintro e w27 ⟨rfl, hb⟩
          refine ⟨_, rfl, ?_⟩
          have n0_ := Aside0.mk (blk_below (g := gb172) (o := .cells #[.int .i64 a0_0, .slice A0_1 l0_1.length c0_1, .slice (some ad175) l0_2.length c0_2] 28 (0, 0)) (by (with_reducible repeat (first | refine blk_drewN ?_ _ | refine blk_drew ?_ | refine blk_alloc ?_ _)); exact BK172.out) hb)
          have n1_ := Aside0.mk (blk_below (g := gb173) (o := .cells #[.int .i64 a1_0, .slice A1_1 l1_1.length c1_1, .slice (some ad176) l1_2.length c1_2] 28 (0, 0)) (by (with_reducible repeat (first | refine blk_drewN ?_ _ | refine blk_drew ?_ | refine blk_alloc ?_ _)); exact BK173.out) hb)
          have n2_ := Aside0.mk (below_step (by repeat (first | (with_reducible first | exact HB.out | apply below_alloc | apply pw_below_drewN | apply below_drew1 | refine below_set ?_ GE172.out | refine below_set ?_ GE173.out) | exact HB.out)) hb)
          clear BK172
          clear BK173
          clear HB
          have BK172 := n0_
          have BK173 := n1_
          have HB := n2_
          clear n0_ n1_ n2_
          (try clear hb)
          (try clear hb2)
          (try clear hk)
          (try clear hi)
          refine hK.out _ _ ⟨(blk_cell BK172.out 0).trans rfl, (blk_cell BK172.out 1).trans rfl, (blk_cell BK172.out 2).trans rfl, (blk_cell BK173.out 0).trans rfl, (blk_cell BK173.out 1).trans rfl, (blk_cell BK173.out 2).trans rfl, ((HB.out.cell (World.block_lt_of_cell? w _ hw175_0)).trans hw175_0), ((HB.out.cell (World.block_lt_of_cell? w _ hw175_1)).trans hw175_1), ((HB.out.cell (World.block_lt_of_cell? w _ hw176_0)).trans hw176_0), ((HB.out.cell (World.block_lt_of_cell? w _ hw176_1)).trans hw176_1)⟩ (fun hHeld => ?_)
          clear hK K
          refine norm_ (a' := ?_) ?_ ?_
          rotate_left
          ·show Act.put _ (some 45) _ = _
           simp only [Act.put, List.setIfInBounds_toArray, List.set_cons_zero, List.set_cons_succ, i64_w, i32_w]
           rfl
          refine pure_ (i := 11) (N := some 46) (v := ?_) (a' := ?_) #[true, true, true, true, true, true, true, true, true, true, true, true] rfl rfl (any_of HT_.out (by kernel_rfl)) (fun _ _ _ h => h) (Or.inl ⟨by rfl, ?_⟩) ?_ ?_
          rotate_left
          ·intro w'
           go_simp
           with_reducible rfl
          rotate_left
          ·simp only [Act.put, List.setIfInBounds_toArray, List.set_cons_zero, List.set_cons_succ, i64_w, i32_w]
           rfl
          refine done_ (done_of HT_.out (by kernel_rfl)) ?_
          try go_wp2
          go_roundg k2
          case measure => have := HJ2.out; have := HK2.out; omega
          case rel => exact ⟨(wrap64 (x5_2 + 1)), (by first | rfl | (simp; done) | (simp [i64_w]; done) | (simp [*]; done) | (simp [*, i64_w]; done) | (simp [*]; unfold wrap64; omega)), H', ⟨by have := HJ2.out; have := HK2.out; omega⟩, ⟨by (with_reducible repeat (first | refine blk_drewN ?_ _ | refine blk_drew ?_ | refine blk_alloc ?_ _)); exact BK172.out⟩, ⟨by (with_reducible repeat (first | refine blk_drewN ?_ _ | refine blk_drew ?_ | refine blk_alloc ?_ _)); exact BK173.out⟩, ⟨by repeat (first | (with_reducible first | exact HB.out | apply below_alloc | apply pw_below_drewN | apply below_drew1 | refine below_set ?_ GE172.out | refine below_set ?_ GE173.out) | exact HB.out)⟩⟩
         ·replace c23 := Bool.eq_false_iff.mpr c23
          subst c23
          have H1 : (some false) = some r := by rw [if_neg (show ¬ (false = true) by decide)] at H; exact H
          clear H
          have H := H1
          clear H1
          obtain rfl := Option.some.inj H
          have hnb28 := NB172_173.out
          have hnc28 := NB173_172.out
          have hcz29_0 : wr.cell? ⟨gb172, 0, none⟩ = some (.int .i64 a0_0) := (blk_cell BK172.out 0).trans rfl
          have hcz29_1 : wr.cell? ⟨gb172, 1, none⟩ = some (.slice A0_1 l0_1.length c0_1) := (blk_cell BK172.out 1).trans rfl
          have hcz29_2 : wr.cell? ⟨gb172, 2, none⟩ = some (.slice A0_2 l0_2.length c0_2) := (blk_cell BK172.out 2).trans rfl
          have hfz29_0 := blk_frozen BK172.out 0
          have hfz29_1 := blk_frozen BK172.out 1
          have hfz29_2 := blk_frozen BK172.out 2
          try go_wp2
          have n0_ := Aside0.mk (blk_drew BK172.out)
          have n1_ := Aside0.mk (blk_drew BK173.out)
          have n2_ := Aside0.mk (below_drew1 HB.out)
          clear BK172
          clear BK173
          clear HB
          have BK172 := n0_
          have BK173 := n1_
          have HB := n2_
          clear n0_ n1_ n2_
          have p175 : 0 ≤ (x5_2 : Int) := of_decide_eq_true (by first | (with_reducible assumption) | assumption)
          have q175 : x5_2 < (l0_2.length : Int) := of_decide_eq_true (by first | (with_reducible assumption) | assumption)
          obtain ⟨ad175, A175_1, c175_1, e175, hx175_0, hx175_1, hl175_1, hi175_1⟩ := at_T51 HR0_2.out x5_2 p175 q175
          have hw175_1 := hx175_1
          have hw175_0 := hx175_0
          cases e175
          replace hx175_0 := (HB.out.cell (World.block_lt_of_cell? w _ hx175_0)).trans hx175_0
          replace hx175_1 := (HB.out.cell (World.block_lt_of_cell? w _ hx175_1)).trans hx175_1
          have HR175_1 := Aside0.mk hi175_1
          have HC175_1 := Aside0.mk hl175_1
          clear hi175_1 hl175_1
          replace p175 := eq_true p175
          replace q175 := eq_true q175
          have p176 : 0 ≤ (x5_2 : Int) := of_decide_eq_true (by first | (with_reducible assumption) | assumption)
          have q176 : x5_2 < (l1_2.length : Int) := of_decide_eq_true (by first | (with_reducible assumption) | assumption)
          obtain ⟨ad176, A176_1, c176_1, e176, hx176_0, hx176_1, hl176_1, hi176_1⟩ := at_T51 HR1_2.out x5_2 p176 q176
          have hw176_1 := hx176_1
          have hw176_0 := hx176_0
          cases e176
          replace hx176_0 := (HB.out.cell (World.block_lt_of_cell? w _ hx176_0)).trans hx176_0
          replace hx176_1 := (HB.out.cell (World.block_lt_of_cell? w _ hx176_1)).trans hx176_1
          have HR176_1 := Aside0.mk hi176_1
          have HC176_1 := Aside0.mk hl176_1
          clear hi176_1 hl176_1
          replace p176 := eq_true p176
          replace q176 := eq_true q176
          refine start_ (n := 12) (S := fun w' => w'.cell? ⟨gb172, 0, none⟩ = some (.int .i64 a0_0) ∧ w'.cell? ⟨gb172, 1, none⟩ = some (.slice A0_1 l0_1.length c0_1) ∧ w'.cell? ⟨gb172, 2, none⟩ = some (.slice (some ad175) l0_2.length c0_2) ∧ w'.cell? ⟨gb173, 0, none⟩ = some (.int .i64 a1_0) ∧ w'.cell? ⟨gb173, 1, none⟩ = some (.slice A1_1 l1_1.length c1_1) ∧ w'.cell? ⟨gb173, 2, none⟩ = some (.slice (some ad176) l1_2.length c1_2) ∧ w'.cell? (ad175.add ((x5_2).toNat * 2)) = some (.int .i64 ((rd_T51 l0_2 x5_2).f0)) ∧ w'.cell? ⟨(ad175.add ((x5_2).toNat * 2)).block, (ad175.add ((x5_2).toNat * 2)).off + 1, none⟩ = some (.slice A175_1 ((rd_T51 l0_2 x5_2).f1).length c175_1) ∧ w'.cell? (ad176.add ((x5_2).toNat * 2)) = some (.int .i64 ((rd_T51 l1_2 x5_2).f0)) ∧ w'.cell? ⟨(ad176.add ((x5_2).toNat * 2)).block, (ad176.add ((x5_2).toNat * 2)).off + 1, none⟩ = some (.slice A176_1 ((rd_T51 l1_2 x5_2).f1).length c176_1)) (ds := []) #[false, false, false, false, false, false, false, false, false, false, false, false] (by kernel_rfl) rfl rfl ⟨(blk_cell BK172.out 0).trans rfl, (blk_cell BK172.out 1).trans rfl, (blk_cell BK172.out 2).trans rfl, (blk_cell BK173.out 0).trans rfl, (blk_cell BK173.out 1).trans rfl, (blk_cell BK173.out 2).trans rfl, ((HB.out.cell (World.block_lt_of_cell? w _ hw175_0)).trans hw175_0), ((HB.out.cell (World.block_lt_of_cell? w _ hw175_1)).trans hw175_1), ((HB.out.cell (World.block_lt_of_cell? w _ hw176_0)).trans hw176_0), ((HB.out.cell (World.block_lt_of_cell? w _ hw176_1)).trans hw176_1)⟩ (fun hHeld => ?_); refine with_tabW templelaw0_SameGrammar.tab6 templelaw0_SameGrammar.bits6 (fun HT_ HW_ => ?_)
          generalize wr.drew = w30 at BK172 BK173 HB HR175_1 HR176_1 hx175_0 hx175_1 hx176_0 hx176_1 hHeld ⊢
          refine pure_ (i := 0) (N := some 35) (v := ?_) (a' := ?_) #[true, false, false, false, false, false, false, false, false, false, false, false] rfl rfl (any_of HT_.out (by kernel_rfl)) (fun _ _ _ h => h) (Or.inl ⟨by rfl, ?_⟩) ?_ ?_
          rotate_left
          ·intro w'
           go_simp
           with_reducible rfl
          rotate_left
          ·simp only [Act.put, List.setIfInBounds_toArray, List.set_cons_zero, List.set_cons_succ, i64_w, i32_w]
           rfl
          refine pure_ (i := 2) (N := some 37) (v := ?_) (a' := ?_) #[true, false, true, false, false, false, false, false, false, false, false, false] rfl rfl (any_of HT_.out (by kernel_rfl)) (fun _ _ _ h => h) (Or.inl ⟨by rfl, ?_⟩) ?_ ?_
          rotate_left
          ·intro w'
           go_simp
           with_reducible rfl
          rotate_left
          ·simp only [Act.put, List.setIfInBounds_toArray, List.set_cons_zero, List.set_cons_succ, i64_w, i32_w]
           rfl
          refine pure_ (i := 5) (N := some 40) (v := ?_) (a' := ?_) #[true, false, true, false, false, true, false, false, false, false, false, false] rfl rfl (any_of HT_.out (by kernel_rfl)) (fun _ _ _ h => h) (Or.inl ⟨by rfl, ?_⟩) ?_ ?_
          rotate_left
          ·intro w'
           go_simp
           with_reducible rfl
          rotate_left
          ·simp only [Act.put, List.setIfInBounds_toArray, List.set_cons_zero, List.set_cons_succ, i64_w, i32_w]
           rfl
          refine pure_ (i := 7) (N := some 42) (v := ?_) (a' := ?_) #[true, false, true, false, false, true, false, true, false, false, false, false] rfl rfl (any_of HT_.out (by kernel_rfl)) (fun _ _ _ h => h) (Or.inl ⟨by rfl, ?_⟩) ?_ ?_
          rotate_left
          ·intro w'
           go_simp
           with_reducible rfl
          rotate_left
          ·simp only [Act.put, List.setIfInBounds_toArray, List.set_cons_zero, List.set_cons_succ, i64_w, i32_w]
           rfl
          refine take_ (i := 1) (N := some 36) (v := ?_) (a' := ?_) #[true, true, true, false, false, true, false, true, false, false, false, false] rfl rfl (take_ofW HT_.out HW_.out (by kernel_rfl)) (fun _ _ _ h => h) (Or.inl ⟨by rfl, ?_⟩) hHeld ?_ ?_
          rotate_left
          ·rintro w' ⟨s0, s1, s2, s3, s4, s5, s6, s7, s8, s9⟩
           go_simp
           with_reducible rfl
          rotate_left
          ·simp only [Act.put, List.setIfInBounds_toArray, List.set_cons_zero, List.set_cons_succ, i64_w, i32_w]
           rfl
          refine pure_ (i := 3) (N := some 38) (v := ?_) (a' := ?_) #[true, true, true, true, false, true, false, true, false, false, false, false] rfl rfl (any_of HT_.out (by kernel_rfl)) (fun _ _ _ h => h) (Or.inl ⟨by rfl, ?_⟩) ?_ ?_
          rotate_left
          ·intro w'
           go_simp
           with_reducible rfl
          rotate_left
          ·simp only [Act.put, List.setIfInBounds_toArray, List.set_cons_zero, List.set_cons_succ, i64_w, i32_w]
           rfl
          refine take_ (i := 4) (N := some 39) (v := ?_) (a' := ?_) #[true, true, true, true, true, true, false, true, false, false, false, false] rfl rfl (take_ofW HT_.out HW_.out (by kernel_rfl)) (fun _ _ _ h => h) (Or.inl ⟨by rfl, ?_⟩) hHeld ?_ ?_
          rotate_left
          ·rintro w' ⟨s0, s1, s2, s3, s4, s5, s6, s7, s8, s9⟩
           go_simp
           with_reducible rfl
          rotate_left
          ·simp only [Act.put, List.setIfInBounds_toArray, List.set_cons_zero, List.set_cons_succ, i64_w, i32_w]
           rfl
          refine take_ (i := 6) (N := some 41) (v := ?_) (a' := ?_) #[true, true, true, true, true, true, true, true, false, false, false, false] rfl rfl (take_ofW HT_.out HW_.out (by kernel_rfl)) (fun _ _ _ h => h) (Or.inl ⟨by rfl, ?_⟩) hHeld ?_ ?_
          rotate_left
          ·rintro w' ⟨s0, s1, s2, s3, s4, s5, s6, s7, s8, s9⟩
           go_simp
           with_reducible rfl
          rotate_left
          ·simp only [Act.put, List.setIfInBounds_toArray, List.set_cons_zero, List.set_cons_succ, i64_w, i32_w]
           rfl
          refine pure_ (i := 8) (N := some 43) (v := ?_) (a' := ?_) #[true, true, true, true, true, true, true, true, true, false, false, false] rfl rfl (any_of HT_.out (by kernel_rfl)) (fun _ _ _ h => h) (Or.inl ⟨by rfl, ?_⟩) ?_ ?_
          rotate_left
          ·intro w'
           go_simp
           with_reducible rfl
          rotate_left
          ·simp only [Act.put, List.setIfInBounds_toArray, List.set_cons_zero, List.set_cons_succ, i64_w, i32_w]
           rfl
          refine take_ (i := 9) (N := some 44) (v := ?_) (a' := ?_) #[true, true, true, true, true, true, true, true, true, true, false, false] rfl rfl (take_ofW HT_.out HW_.out (by kernel_rfl)) (fun _ _ _ h => h) (Or.inl ⟨by rfl, ?_⟩) hHeld ?_ ?_
          rotate_left
          ·rintro w' ⟨s0, s1, s2, s3, s4, s5, s6, s7, s8, s9⟩
           go_simp
           with_reducible rfl
          rotate_left
          ·simp only [Act.put, List.setIfInBounds_toArray, List.set_cons_zero, List.set_cons_succ, i64_w, i32_w]
           rfl
          refine one_ (i := 10) (N := some 45) #[true, true, true, true, true, true, true, true, true, true, true, false] rfl rfl (one_of HT_.out (by kernel_rfl)) (by decide) (fun K hK => ?_)
          refine goes_ Try.func33 (by kernel_rfl) rfl #[.agg #[.int .i64 ((rd_T51 l0_2 x5_2).f0), .slice A175_1 ((rd_T51 l0_2 x5_2).f1).length c175_1], .agg #[.int .i64 ((rd_T51 l1_2 x5_2).f0), .slice A176_1 ((rd_T51 l1_2 x5_2).f1).length c176_1]] (by rfl) rfl rfl (by (try simp only [List.map_toArray, List.map_cons, List.map_nil]); first | done | rfl | (simp only [List.length_drop, List.length_take]; rfl)) ?_
          with_reducible refine (templelaw0_SameRule.calls k2 ((rd_T51 l0_2 x5_2).f0) _ _ ((rd_T51 l0_2 x5_2).f1) ((rd_T51 l1_2 x5_2).f0) _ _ ((rd_T51 l1_2 x5_2).f1) false _ ?side1 ?side2 ?side3 ?side4 A22.out).mono ?_
          (case side1 => repeat (first | exact (Kd.C_below HR175_1.out HB.out) | (with_reducible refine Kd.C_alloc ?_ _) | (with_reducible refine Kd.C_drewN ?_ _) | (with_reducible refine Kd.C_drew ?_)))
          (case side2 => exact HC175_1.out)
          (case side3 => repeat (first | exact (Kd.C_below HR176_1.out HB.out) | (with_reducible refine Kd.C_alloc ?_ _) | (with_reducible refine Kd.C_drewN ?_ _) | (with_reducible refine Kd.C_drew ?_)))
          (case side4 => exact HC176_1.out)
          rintro e w31 ⟨rfl, hb⟩
          refine ⟨_, rfl, ?_⟩
          have n0_ := Aside0.mk (blk_below (g := gb172) (o := .cells #[.int .i64 a0_0, .slice A0_1 l0_1.length c0_1, .slice (some ad175) l0_2.length c0_2] 28 (0, 0)) (by (with_reducible repeat (first | refine blk_drewN ?_ _ | refine blk_drew ?_ | refine blk_alloc ?_ _)); exact BK172.out) hb)
          have n1_ := Aside0.mk (blk_below (g := gb173) (o := .cells #[.int .i64 a1_0, .slice A1_1 l1_1.length c1_1, .slice (some ad176) l1_2.length c1_2] 28 (0, 0)) (by (with_reducible repeat (first | refine blk_drewN ?_ _ | refine blk_drew ?_ | refine blk_alloc ?_ _)); exact BK173.out) hb)
          have n2_ := Aside0.mk (below_step (by repeat (first | (with_reducible first | exact HB.out | apply below_alloc | apply pw_below_drewN | apply below_drew1 | refine below_set ?_ GE172.out | refine below_set ?_ GE173.out) | exact HB.out)) hb)
          clear BK172
          clear BK173
          clear HB
          have BK172 := n0_
          have BK173 := n1_
          have HB := n2_
          clear n0_ n1_ n2_
          (try clear hb)
          (try clear hb2)
          (try clear hk)
          (try clear hi)
          refine hK.out _ _ ⟨(blk_cell BK172.out 0).trans rfl, (blk_cell BK172.out 1).trans rfl, (blk_cell BK172.out 2).trans rfl, (blk_cell BK173.out 0).trans rfl, (blk_cell BK173.out 1).trans rfl, (blk_cell BK173.out 2).trans rfl, ((HB.out.cell (World.block_lt_of_cell? w _ hw175_0)).trans hw175_0), ((HB.out.cell (World.block_lt_of_cell? w _ hw175_1)).trans hw175_1), ((HB.out.cell (World.block_lt_of_cell? w _ hw176_0)).trans hw176_0), ((HB.out.cell (World.block_lt_of_cell? w _ hw176_1)).trans hw176_1)⟩ (fun hHeld => ?_)
          clear hK K
          refine norm_ (a' := ?_) ?_ ?_
          rotate_left
          ·show Act.put _ (some 45) _ = _
           simp only [Act.put, List.setIfInBounds_toArray, List.set_cons_zero, List.set_cons_succ, i64_w, i32_w]
           rfl
          refine pure_ (i := 11) (N := some 46) (v := ?_) (a' := ?_) #[true, true, true, true, true, true, true, true, true, true, true, true] rfl rfl (any_of HT_.out (by kernel_rfl)) (fun _ _ _ h => h) (Or.inl ⟨by rfl, ?_⟩) ?_ ?_
          rotate_left
          ·intro w'
           go_simp
           with_reducible rfl
          rotate_left
          ·simp only [Act.put, List.setIfInBounds_toArray, List.set_cons_zero, List.set_cons_succ, i64_w, i32_w]
           rfl
          refine done_ (done_of HT_.out (by kernel_rfl)) ?_
          try go_wp2
          go_ret
          exact ⟨by first | rfl | (simp [errW_none, errW_some] <;> rfl) | (simp [*, errW_none, errW_some] <;> rfl), by repeat (first | (with_reducible first | exact HB.out | apply below_alloc | apply pw_below_drewN | apply below_drew1 | refine below_set ?_ GE172.out | refine below_set ?_ GE173.out) | exact HB.out)⟩
        ·rw [if_neg c21] at H
         exact absurd H (by simp)
       ·rw [if_neg c20] at H
        exact absurd H (by simp)
      ·rw [if_neg c19] at H
       have c19b0 : decide (x5_2 < (l0_2.length : Int)) = false := decide_eq_false c19
       clear c19
       obtain rfl := Option.some.inj H
       have hnb32 := NB172_173.out
       have hnc32 := NB173_172.out
       have hcz33_0 : wr.cell? ⟨gb172, 0, none⟩ = some (.int .i64 a0_0) := (blk_cell BK172.out 0).trans rfl
       have hcz33_1 : wr.cell? ⟨gb172, 1, none⟩ = some (.slice A0_1 l0_1.length c0_1) := (blk_cell BK172.out 1).trans rfl
       have hcz33_2 : wr.cell? ⟨gb172, 2, none⟩ = some (.slice A0_2 l0_2.length c0_2) := (blk_cell BK172.out 2).trans rfl
       have hfz33_0 := blk_frozen BK172.out 0
       have hfz33_1 := blk_frozen BK172.out 1
       have hfz33_2 := blk_frozen BK172.out 2
       go_wp2
       go_ret
       exact ⟨by first | rfl | (simp [errW_none, errW_some] <;> rfl) | (simp [*, errW_none, errW_some] <;> rfl), by repeat (first | (with_reducible first | exact HB.out | apply below_alloc | apply pw_below_drewN | apply below_drew1 | refine below_set ?_ GE172.out | refine below_set ?_ GE173.out) | exact HB.out)⟩

/-! ### templelaw4_awake: function 20 -/
def awIts : List S61 := [⟨1, ⟨#[97, 98]⟩, 0, 0⟩, ⟨0, ⟨#[83]⟩, 0, 0⟩]
def awRaw : List S45 := [⟨⟨#[83]⟩, [[⟨true, awIts⟩]]⟩]
def awSyms : List S56 := [⟨-1, 97, 97⟩, ⟨-1, 98, 98⟩, ⟨0, 0, 0⟩]
def awRules : List S51 := [⟨0, [⟨true, awSyms⟩]⟩]
theorem aw_num (e : Int) : templelaw0_Num.f e = some e := rfl
theorem aw_raw {w : World} {gI gC gA gD : Nat} (h1 : w.heap[gI]? = some (.cells #[.int .i64 1, .string ⟨#[97, 98]⟩, .int .i64 0, .int .i64 0, .int .i64 0, .string ⟨#[83]⟩, .int .i64 0, .int .i64 0] 61 (0, 0))) (h2 : w.heap[gC]? = some (.cells #[.bool true, .slice (some ⟨gI, 0, none⟩) 2 2] 64 (0, 0)))
  (h3 : w.heap[gA]? = some (.cells #[.slice (some ⟨gC, 0, none⟩) 1 1] 65 (0, 0))) (h4 : w.heap[gD]? = some (.cells #[.string ⟨#[83]⟩, .slice (some ⟨gA, 0, none⟩) 1 1] 45 (0, 0))) : Kd.C k45 w (some ⟨gD, 0, none⟩) awRaw.length awRaw := by
 have c1 : Kd.C k61 w (some ⟨gI, 0, none⟩) awIts.length awIts := C_lit h1 (Reps.c4 (k61_mk w ⟨1, ⟨#[97, 98]⟩, 0, 0⟩) (Reps.c4 (k61_mk w ⟨0, ⟨#[83]⟩, 0, 0⟩) (Reps.none _ _))) (by decide)
 have c2 : Kd.C k64 w (some ⟨gC, 0, none⟩) [(⟨true, awIts⟩ : S64)].length [⟨true, awIts⟩] := C_lit h2 (Reps.c2 (k64_mk w ⟨true, awIts⟩ (by decide) c1) (Reps.none _ _)) (by decide)
 have c3 : Kd.C (Kd.slice 64 k64) w (some ⟨gA, 0, none⟩) [[(⟨true, awIts⟩ : S64)]].length [[⟨true, awIts⟩]] := C_lit h3 (Reps.one ⟨_, _, rfl, by decide, c2⟩ (Reps.none _ _)) (by decide)
 exact C_lit h4 (Reps.c2 (k45_mk w ⟨⟨#[83]⟩, [[⟨true, awIts⟩]]⟩ (by decide) c3) (Reps.none _ _)) (by decide)
theorem aw_str {w : World} {g : Nat} {s : ByteArray} (h : w.heap[g]? = some (.cells #[.string s] 9 (0, 0))) : Kd.C Kd.string w (some ⟨g, 0, none⟩) [s].length [s] := C_lit h (Reps.one rfl (Reps.none _ _)) (by simp)
theorem aw_rules {w : World} {gS gC gR : Nat} (h1 : w.heap[gS]? = some (.cells #[.int .i64 (-1), .int .i64 97, .int .i64 97, .int .i64 (-1), .int .i64 98, .int .i64 98, .int .i64 0, .int .i64 0, .int .i64 0] 56 (0, 0))) (h2 : w.heap[gC]? = some (.cells #[.bool true, .slice (some ⟨gS, 0, none⟩) 3 3] 54 (0, 0)))
  (h3 : w.heap[gR]? = some (.cells #[.int .i64 0, .slice (some ⟨gC, 0, none⟩) 1 1] 51 (0, 0))) : Kd.C k51 w (some ⟨gR, 0, none⟩) awRules.length awRules := by
 have c1 : Kd.C k56 w (some ⟨gS, 0, none⟩) awSyms.length awSyms := C_lit h1 (Reps.c3 (k56_mk w ⟨-1, 97, 97⟩) (Reps.c3 (k56_mk w ⟨-1, 98, 98⟩) (Reps.c3 (k56_mk w ⟨0, 0, 0⟩) (Reps.none _ _)))) (by decide)
 have c2 : Kd.C k54 w (some ⟨gC, 0, none⟩) [(⟨true, awSyms⟩ : S54)].length [⟨true, awSyms⟩] := C_lit h2 (Reps.c2 (k54_mk w ⟨true, awSyms⟩ (by decide) c1) (Reps.none _ _)) (by decide)
 exact C_lit h3 (Reps.c2 (k51_mk w ⟨0, [⟨true, awSyms⟩]⟩ (by decide) c2) (Reps.none _ _)) (by decide)
def templelaw4_awake.f (k : Nat) : Option (Bool) :=
 (gram_Build.f k [⟨#[83]⟩] awRaw).bind fun A => (gram_Build.f k [] []).bind fun B => (gram_Build.f k [⟨#[84]⟩] awRaw).bind fun C => (templelaw0_SameGrammar.f k A.1 A.2.1 A.2.2.1 0 [⟨#[83]⟩] awRules).bind fun s =>
  if s = true ∧ A.2.2.2.1.data.toList = [] ∧ A.2.2.2.2 = 0 ∧ B.2.2.2.2 = 400 ∧ C.2.2.2.1.data.toList = [84] ∧ C.2.2.2.2 = 402 ∧ mayB A.1 A.2.1 A.2.2.1 = true ∧ mayB 0 [] [] = false then some true else none
theorem templelaw4_awake.mono : ∀ k, LeO (templelaw4_awake.f k) (templelaw4_awake.f (k + 1)) := by
 intro k
 unfold templelaw4_awake.f
 repeat' first
   | (with_reducible exact gram_Build.mono _ _ _)
   | (with_reducible exact templelaw0_SameGrammar.mono _ _ _ _ _ _ _)
   | (with_reducible exact LeO.refl _)
   | (with_reducible exact LeO.none _)
   | (with_reducible refine LeO.bind ?_ (fun _ => ?_))
set_option maxHeartbeats 8000000 in
set_option maxRecDepth 100000 in
theorem templelaw4_awake.calls (k : Nat) (r : Bool) (w : World) (h : templelaw4_awake.f k = some r) :
  Calls Try.prog 20 #[] w fun e w' => e = .returned (.bool r) ∧ Below w.heap.size w w' := by
 unfold templelaw4_awake.f at h
 replace h := Option.bind_eq_some_iff.1 h
 obtain ⟨⟨a1, a2, a3, a4, a5⟩, hA, h⟩ := h
 replace h := Option.bind_eq_some_iff.1 h
 obtain ⟨⟨b1, b2, b3, b4, b5⟩, hB, h⟩ := h
 replace h := Option.bind_eq_some_iff.1 h
 obtain ⟨⟨c1, c2, c3, c4, c5⟩, hC, h⟩ := h
 replace h := Option.bind_eq_some_iff.1 h
 obtain ⟨s, hS, h⟩ := h
 dsimp only at hS h
 by_cases hp : s = true ∧ a4.data.toList = [] ∧ a5 = 0 ∧ b5 = 400 ∧ c4.data.toList = [84] ∧ c5 = 402 ∧ mayB a1 a2 a3 = true ∧ mayB 0 [] [] = false
 case neg => rw [if_neg hp] at h; cases h
 rw [if_pos hp] at h
 obtain rfl := Option.some.inj h
 obtain ⟨rfl, h4, rfl, rfl, h5, rfl, hm, hm0⟩ := hp
 obtain rfl : a4 = ⟨#[]⟩ := by cases a4; simp at h4; simp [h4]
 obtain rfl : c4 = ⟨#[84]⟩ := by cases c4; congr 1; exact Array.toList_inj.1 h5
 have FA := Aside0.mk hA
 have FB := Aside0.mk hB
 have FC := Aside0.mk hC
 have FS := Aside0.mk hS
 have FM := Aside0.mk (show gram_May.f a1 a2 a3 = some true by unfold gram_May.f; rw [hm])
 have FN := Aside0.mk (show gram_May.f 0 [] [] = some false by unfold gram_May.f; rw [hm0])
 clear h h4 h5 hA hB hC hS hm hm0
 go_enter Try.func20, Try.ntmps20
 go_upto_region 2 with (fail)
 have hsz : ((((((w.alloc (.cells #[.string ⟨#[83]⟩] 9)).alloc (.cells #[.int .i64 1, .string ⟨#[97, 98]⟩, .int .i64 0, .int .i64 0, .int .i64 0, .string ⟨#[83]⟩, .int .i64 0, .int .i64 0] 61)).alloc (.cells #[.bool true, .slice (some ⟨w.heap.size + 1, 0, none⟩) 2 2] 64)).alloc (.cells #[.slice (some ⟨w.heap.size + 1 + 1, 0, none⟩) 1 1] 65)).alloc (.cells #[.string ⟨#[83]⟩, .slice (some ⟨w.heap.size + 1 + 1 + 1, 0, none⟩) 1 1] 45)).alloc (.cells #[.slice (some ⟨w.heap.size, 0, none⟩) 1 1, .slice (some ⟨w.heap.size + 1 + 1 + 1 + 1, 0, none⟩) 1 1] 25)).heap.size = w.heap.size + 1 + 1 + 1 + 1 + 1 + 1 := by simp
 have m0 := (blk_alloc (blk_alloc (blk_alloc (blk_alloc (blk_alloc (blk_new w (.cells #[.string ⟨#[83]⟩] 9)) (.cells #[.int .i64 1, .string ⟨#[97, 98]⟩, .int .i64 0, .int .i64 0, .int .i64 0, .string ⟨#[83]⟩, .int .i64 0, .int .i64 0] 61)) (.cells #[.bool true, .slice (some ⟨w.heap.size + 1, 0, none⟩) 2 2] 64)) (.cells #[.slice (some ⟨w.heap.size + 1 + 1, 0, none⟩) 1 1] 65)) (.cells #[.string ⟨#[83]⟩, .slice (some ⟨w.heap.size + 1 + 1 + 1, 0, none⟩) 1 1] 45)) (.cells #[.slice (some ⟨w.heap.size, 0, none⟩) 1 1, .slice (some ⟨w.heap.size + 1 + 1 + 1 + 1, 0, none⟩) 1 1] 25))
 have e0 : True := trivial
 have m1 := (blk_alloc (blk_alloc (blk_alloc (blk_alloc (blk_new (w.alloc (.cells #[.string ⟨#[83]⟩] 9)) (.cells #[.int .i64 1, .string ⟨#[97, 98]⟩, .int .i64 0, .int .i64 0, .int .i64 0, .string ⟨#[83]⟩, .int .i64 0, .int .i64 0] 61)) (.cells #[.bool true, .slice (some ⟨w.heap.size + 1, 0, none⟩) 2 2] 64)) (.cells #[.slice (some ⟨w.heap.size + 1 + 1, 0, none⟩) 1 1] 65)) (.cells #[.string ⟨#[83]⟩, .slice (some ⟨w.heap.size + 1 + 1 + 1, 0, none⟩) 1 1] 45)) (.cells #[.slice (some ⟨w.heap.size, 0, none⟩) 1 1, .slice (some ⟨w.heap.size + 1 + 1 + 1 + 1, 0, none⟩) 1 1] 25))
 have e1 : (w.alloc (.cells #[.string ⟨#[83]⟩] 9)).heap.size = w.heap.size + 1 := by simp
 rw [e1] at m1
 have m2 := (blk_alloc (blk_alloc (blk_alloc (blk_new ((w.alloc (.cells #[.string ⟨#[83]⟩] 9)).alloc (.cells #[.int .i64 1, .string ⟨#[97, 98]⟩, .int .i64 0, .int .i64 0, .int .i64 0, .string ⟨#[83]⟩, .int .i64 0, .int .i64 0] 61)) (.cells #[.bool true, .slice (some ⟨w.heap.size + 1, 0, none⟩) 2 2] 64)) (.cells #[.slice (some ⟨w.heap.size + 1 + 1, 0, none⟩) 1 1] 65)) (.cells #[.string ⟨#[83]⟩, .slice (some ⟨w.heap.size + 1 + 1 + 1, 0, none⟩) 1 1] 45)) (.cells #[.slice (some ⟨w.heap.size, 0, none⟩) 1 1, .slice (some ⟨w.heap.size + 1 + 1 + 1 + 1, 0, none⟩) 1 1] 25))
 have e2 : ((w.alloc (.cells #[.string ⟨#[83]⟩] 9)).alloc (.cells #[.int .i64 1, .string ⟨#[97, 98]⟩, .int .i64 0, .int .i64 0, .int .i64 0, .string ⟨#[83]⟩, .int .i64 0, .int .i64 0] 61)).heap.size = w.heap.size + 1 + 1 := by simp
 rw [e2] at m2
 have m3 := (blk_alloc (blk_alloc (blk_new (((w.alloc (.cells #[.string ⟨#[83]⟩] 9)).alloc (.cells #[.int .i64 1, .string ⟨#[97, 98]⟩, .int .i64 0, .int .i64 0, .int .i64 0, .string ⟨#[83]⟩, .int .i64 0, .int .i64 0] 61)).alloc (.cells #[.bool true, .slice (some ⟨w.heap.size + 1, 0, none⟩) 2 2] 64)) (.cells #[.slice (some ⟨w.heap.size + 1 + 1, 0, none⟩) 1 1] 65)) (.cells #[.string ⟨#[83]⟩, .slice (some ⟨w.heap.size + 1 + 1 + 1, 0, none⟩) 1 1] 45)) (.cells #[.slice (some ⟨w.heap.size, 0, none⟩) 1 1, .slice (some ⟨w.heap.size + 1 + 1 + 1 + 1, 0, none⟩) 1 1] 25))
 have e3 : (((w.alloc (.cells #[.string ⟨#[83]⟩] 9)).alloc (.cells #[.int .i64 1, .string ⟨#[97, 98]⟩, .int .i64 0, .int .i64 0, .int .i64 0, .string ⟨#[83]⟩, .int .i64 0, .int .i64 0] 61)).alloc (.cells #[.bool true, .slice (some ⟨w.heap.size + 1, 0, none⟩) 2 2] 64)).heap.size = w.heap.size + 1 + 1 + 1 := by simp
 rw [e3] at m3
 have m4 := (blk_alloc (blk_new ((((w.alloc (.cells #[.string ⟨#[83]⟩] 9)).alloc (.cells #[.int .i64 1, .string ⟨#[97, 98]⟩, .int .i64 0, .int .i64 0, .int .i64 0, .string ⟨#[83]⟩, .int .i64 0, .int .i64 0] 61)).alloc (.cells #[.bool true, .slice (some ⟨w.heap.size + 1, 0, none⟩) 2 2] 64)).alloc (.cells #[.slice (some ⟨w.heap.size + 1 + 1, 0, none⟩) 1 1] 65)) (.cells #[.string ⟨#[83]⟩, .slice (some ⟨w.heap.size + 1 + 1 + 1, 0, none⟩) 1 1] 45)) (.cells #[.slice (some ⟨w.heap.size, 0, none⟩) 1 1, .slice (some ⟨w.heap.size + 1 + 1 + 1 + 1, 0, none⟩) 1 1] 25))
 have e4 : ((((w.alloc (.cells #[.string ⟨#[83]⟩] 9)).alloc (.cells #[.int .i64 1, .string ⟨#[97, 98]⟩, .int .i64 0, .int .i64 0, .int .i64 0, .string ⟨#[83]⟩, .int .i64 0, .int .i64 0] 61)).alloc (.cells #[.bool true, .slice (some ⟨w.heap.size + 1, 0, none⟩) 2 2] 64)).alloc (.cells #[.slice (some ⟨w.heap.size + 1 + 1, 0, none⟩) 1 1] 65)).heap.size = w.heap.size + 1 + 1 + 1 + 1 := by simp
 rw [e4] at m4
 have m5 := (blk_new (((((w.alloc (.cells #[.string ⟨#[83]⟩] 9)).alloc (.cells #[.int .i64 1, .string ⟨#[97, 98]⟩, .int .i64 0, .int .i64 0, .int .i64 0, .string ⟨#[83]⟩, .int .i64 0, .int .i64 0] 61)).alloc (.cells #[.bool true, .slice (some ⟨w.heap.size + 1, 0, none⟩) 2 2] 64)).alloc (.cells #[.slice (some ⟨w.heap.size + 1 + 1, 0, none⟩) 1 1] 65)).alloc (.cells #[.string ⟨#[83]⟩, .slice (some ⟨w.heap.size + 1 + 1 + 1, 0, none⟩) 1 1] 45)) (.cells #[.slice (some ⟨w.heap.size, 0, none⟩) 1 1, .slice (some ⟨w.heap.size + 1 + 1 + 1 + 1, 0, none⟩) 1 1] 25))
 have e5 : (((((w.alloc (.cells #[.string ⟨#[83]⟩] 9)).alloc (.cells #[.int .i64 1, .string ⟨#[97, 98]⟩, .int .i64 0, .int .i64 0, .int .i64 0, .string ⟨#[83]⟩, .int .i64 0, .int .i64 0] 61)).alloc (.cells #[.bool true, .slice (some ⟨w.heap.size + 1, 0, none⟩) 2 2] 64)).alloc (.cells #[.slice (some ⟨w.heap.size + 1 + 1, 0, none⟩) 1 1] 65)).alloc (.cells #[.string ⟨#[83]⟩, .slice (some ⟨w.heap.size + 1 + 1 + 1, 0, none⟩) 1 1] 45)).heap.size = w.heap.size + 1 + 1 + 1 + 1 + 1 := by simp
 rw [e5] at m5
 have hb := below_alloc (below_alloc (below_alloc (below_alloc (below_alloc (below_alloc (Below.refl w.heap.size w) (.cells #[.string ⟨#[83]⟩] 9)) (.cells #[.int .i64 1, .string ⟨#[97, 98]⟩, .int .i64 0, .int .i64 0, .int .i64 0, .string ⟨#[83]⟩, .int .i64 0, .int .i64 0] 61)) (.cells #[.bool true, .slice (some ⟨w.heap.size + 1, 0, none⟩) 2 2] 64)) (.cells #[.slice (some ⟨w.heap.size + 1 + 1, 0, none⟩) 1 1] 65)) (.cells #[.string ⟨#[83]⟩, .slice (some ⟨w.heap.size + 1 + 1 + 1, 0, none⟩) 1 1] 45)) (.cells #[.slice (some ⟨w.heap.size, 0, none⟩) 1 1, .slice (some ⟨w.heap.size + 1 + 1 + 1 + 1, 0, none⟩) 1 1] 25)
 clear e0 e1 e2 e3 e4 e5
 have M := Aside0.mk (And.intro hb (And.intro hsz (And.intro m0 (And.intro m1 (And.intro m2 (And.intro m3 (And.intro m4 m5)))))))
 clear hb hsz m0 m1 m2 m3 m4 m5
 generalize ((((((w.alloc (.cells #[.string ⟨#[83]⟩] 9)).alloc (.cells #[.int .i64 1, .string ⟨#[97, 98]⟩, .int .i64 0, .int .i64 0, .int .i64 0, .string ⟨#[83]⟩, .int .i64 0, .int .i64 0] 61)).alloc (.cells #[.bool true, .slice (some ⟨w.heap.size + 1, 0, none⟩) 2 2] 64)).alloc (.cells #[.slice (some ⟨w.heap.size + 1 + 1, 0, none⟩) 1 1] 65)).alloc (.cells #[.string ⟨#[83]⟩, .slice (some ⟨w.heap.size + 1 + 1 + 1, 0, none⟩) 1 1] 45)).alloc (.cells #[.slice (some ⟨w.heap.size, 0, none⟩) 1 1, .slice (some ⟨w.heap.size + 1 + 1 + 1 + 1, 0, none⟩) 1 1] 25)) = W0 at *
 have hS := Aside0.mk (aw_str M.out.2.2.1)
 have hR := Aside0.mk (aw_raw M.out.2.2.2.1 M.out.2.2.2.2.1 M.out.2.2.2.2.2.1 M.out.2.2.2.2.2.2.1)
 have kk0 : W0.cell? ⟨w.heap.size + 1 + 1 + 1 + 1 + 1, 0, none⟩ = some (.slice (some ⟨w.heap.size, 0, none⟩) 1 1) := (blk_cell M.out.2.2.2.2.2.2.2 0).trans rfl
 have kk1 : W0.cell? ⟨w.heap.size + 1 + 1 + 1 + 1 + 1, 1, none⟩ = some (.slice (some ⟨w.heap.size + 1 + 1 + 1 + 1, 0, none⟩) 1 1) := (blk_cell M.out.2.2.2.2.2.2.2 1).trans rfl
 go_upto_region 3 with (first | (go_at_call 11; refine (gram_Build.calls k _ 1 [⟨#[83]⟩] _ 1 awRaw a1 a2 a3 ⟨#[]⟩ 0 _ hS.out (Nat.le_refl _) hR.out (Nat.le_refl _) FA.out).mono ?_; rintro e w1 ⟨v0, v1, rfl, h0, h1, hb⟩; (obtain ⟨P1, p1, rfl⟩ := Kd.R_slice h0); (obtain ⟨P2, p2, rfl⟩ := Kd.R_slice h1); have D1 := Aside0.mk (And.intro h0 (And.intro h1 hb)); clear h0 h1 hb))
 clear kk0 kk1
 have hZ : Below W0.heap.size W0 (w1.alloc (.cells #[.int .i64 a1, .slice P1 a2.length p1, .slice P2 a3.length p2] 28)) := below_alloc D1.out.2.2 _
 have hBx := blk_new w1 (.cells #[.int .i64 a1, .slice P1 a2.length p1, .slice P2 a3.length p2] 28)
 have hlt : w1.heap.size < (w1.alloc (.cells #[.int .i64 a1, .slice P1 a2.length p1, .slice P2 a3.length p2] 28)).heap.size ∧ W0.heap.size ≤ w1.heap.size := ⟨by simp, D1.out.2.2.size⟩
 have hq0 := Kd.R_below D1.out.1 (below_alloc (Below.refl w1.heap.size w1) (.cells #[.int .i64 a1, .slice P1 a2.length p1, .slice P2 a3.length p2] 28))
 have hq1 := Kd.R_below D1.out.2.1 (below_alloc (Below.refl w1.heap.size w1) (.cells #[.int .i64 a1, .slice P1 a2.length p1, .slice P2 a3.length p2] 28))
 have E1 := Aside0.mk (And.intro hZ (And.intro hBx (And.intro hq0 (And.intro hq1 hlt))))
 clear hZ hBx hq0 hq1 hlt D1
 generalize w1.alloc (.cells #[.int .i64 a1, .slice P1 a2.length p1, .slice P2 a3.length p2] 28) = W1 at *
 generalize w1.heap.size = g2 at *
 go_upto_region 4 with (first | (go_at_call 11; refine (gram_Build.calls k none 0 [] none 0 [] b1 b2 b3 b4 400 _ (Kd.C_nil _ _) (Nat.le_refl _) (Kd.C_nil _ _) (Nat.le_refl _) FB.out).mono ?_; rintro e w2 ⟨v0, v1, rfl, h0, h1, hb⟩; (obtain ⟨Q1, q1, rfl⟩ := Kd.R_slice h0); (obtain ⟨Q2, q2, rfl⟩ := Kd.R_slice h1); have D2 := Aside0.mk (And.intro h0 (And.intro h1 hb)); clear h0 h1 hb))
 have hZ : Below W1.heap.size W1 (w2.alloc (.cells #[.int .i64 b1, .slice Q1 b2.length q1, .slice Q2 b3.length q2] 28)) := below_alloc D2.out.2.2 _
 have hBx := blk_new w2 (.cells #[.int .i64 b1, .slice Q1 b2.length q1, .slice Q2 b3.length q2] 28)
 have hlt : w2.heap.size < (w2.alloc (.cells #[.int .i64 b1, .slice Q1 b2.length q1, .slice Q2 b3.length q2] 28)).heap.size ∧ W1.heap.size ≤ w2.heap.size := ⟨by simp, D2.out.2.2.size⟩
 have hq0 := Kd.R_below D2.out.1 (below_alloc (Below.refl w2.heap.size w2) (.cells #[.int .i64 b1, .slice Q1 b2.length q1, .slice Q2 b3.length q2] 28))
 have hq1 := Kd.R_below D2.out.2.1 (below_alloc (Below.refl w2.heap.size w2) (.cells #[.int .i64 b1, .slice Q1 b2.length q1, .slice Q2 b3.length q2] 28))
 have E2 := Aside0.mk (And.intro hZ (And.intro hBx (And.intro hq0 (And.intro hq1 hlt))))
 clear hZ hBx hq0 hq1 hlt D2
 generalize w2.alloc (.cells #[.int .i64 b1, .slice Q1 b2.length q1, .slice Q2 b3.length q2] 28) = W2 at *
 generalize w2.heap.size = g5 at *
 have b02 := Aside0.mk (E1.out.1.trans (E2.out.1.mono E1.out.1.size))
 have kk0 : W2.cell? ⟨w.heap.size + 1 + 1 + 1 + 1 + 1, 0, none⟩ = some (.slice (some ⟨w.heap.size, 0, none⟩) 1 1) := (blk_cell ((b02.out.block _ (by rw [M.out.2.1]; omega)).trans M.out.2.2.2.2.2.2.2) 0).trans rfl
 have m0 := (b02.out.block w.heap.size (by rw [M.out.2.1]; omega)).trans M.out.2.2.1
 have kk2 : W2.cell? ⟨w.heap.size, 0, none⟩ = some (.string ⟨#[83]⟩) := (blk_cell m0 0).trans rfl
 have kk3 := blk_frozen m0 0
 go_upto_region 5 with (fail)
 clear kk0 kk2 kk3
 have n0 := blk_put m0 0 (.string ⟨#[84]⟩) rfl
 have n1 := blk_far ((b02.out.block (w.heap.size + 1) (by rw [M.out.2.1]; omega)).trans M.out.2.2.2.1) (p := ⟨w.heap.size, 0, none⟩) (by show w.heap.size + 1 ≠ w.heap.size; omega) (.string ⟨#[84]⟩)
 have n2 := blk_far ((b02.out.block (w.heap.size + 1 + 1) (by rw [M.out.2.1]; omega)).trans M.out.2.2.2.2.1) (p := ⟨w.heap.size, 0, none⟩) (by show w.heap.size + 1 + 1 ≠ w.heap.size; omega) (.string ⟨#[84]⟩)
 have n3 := blk_far ((b02.out.block (w.heap.size + 1 + 1 + 1) (by rw [M.out.2.1]; omega)).trans M.out.2.2.2.2.2.1) (p := ⟨w.heap.size, 0, none⟩) (by show w.heap.size + 1 + 1 + 1 ≠ w.heap.size; omega) (.string ⟨#[84]⟩)
 have n4 := blk_far ((b02.out.block (w.heap.size + 1 + 1 + 1 + 1) (by rw [M.out.2.1]; omega)).trans M.out.2.2.2.2.2.2.1) (p := ⟨w.heap.size, 0, none⟩) (by show w.heap.size + 1 + 1 + 1 + 1 ≠ w.heap.size; omega) (.string ⟨#[84]⟩)
 have n5 := blk_far ((b02.out.block (w.heap.size + 1 + 1 + 1 + 1 + 1) (by rw [M.out.2.1]; omega)).trans M.out.2.2.2.2.2.2.2) (p := ⟨w.heap.size, 0, none⟩) (by show w.heap.size + 1 + 1 + 1 + 1 + 1 ≠ w.heap.size; omega) (.string ⟨#[84]⟩)
 have hlo : w.heap.size < W0.heap.size := by rw [M.out.2.1]; omega
 have hbox := blk_far ((E2.out.1.block g2 E1.out.2.2.2.2.1).trans E1.out.2.1) (p := ⟨w.heap.size, 0, none⟩) (by show g2 ≠ w.heap.size; have := E1.out.2.2.2.2.2; omega) (.string ⟨#[84]⟩)
 have hp0 := Kd.R_far (p := ⟨w.heap.size, 0, none⟩) (Kd.R_below (Kd.R_mono (Kd.R_bound E1.out.2.2.1) (fun k hk => hk.2.1)) E2.out.1) (fun k hk => by show k ≠ w.heap.size; have : W0.heap.size ≤ k := hk; omega) (.string ⟨#[84]⟩)
 have hp1 := Kd.R_far (p := ⟨w.heap.size, 0, none⟩) (Kd.R_below (Kd.R_mono (Kd.R_bound E1.out.2.2.2.1) (fun k hk => hk.2.1)) E2.out.1) (fun k hk => by show k ≠ w.heap.size; have : W0.heap.size ≤ k := hk; omega) (.string ⟨#[84]⟩)
 have hbl := ((M.out.1.trans (b02.out.mono M.out.1.size)).setCell (p := ⟨w.heap.size, 0, none⟩) (Nat.le_refl _) (.string ⟨#[84]⟩))
 have hg2 : g2 < (W2.setCell ⟨w.heap.size, 0, none⟩ (.string ⟨#[84]⟩)).heap.size := Nat.lt_of_lt_of_le (Nat.lt_of_lt_of_le E1.out.2.2.2.2.1 E2.out.1.size) (Nat.le_of_eq (by simp))
 have N := Aside0.mk (And.intro n0 (And.intro n1 (And.intro n2 (And.intro n3 (And.intro n4 (And.intro n5 (And.intro hbox (And.intro hp0 (And.intro hp1 (And.intro hbl hg2))))))))))
 clear n0 n1 n2 n3 n4 n5 hbox hp0 hp1 hbl hg2 hlo m0 b02 E1 E2 M hS hR
 generalize (W2.setCell ⟨w.heap.size, 0, none⟩ (.string ⟨#[84]⟩)) = W3 at *
 have hS := Aside0.mk (aw_str N.out.1)
 have hR := Aside0.mk (aw_raw N.out.2.1 N.out.2.2.1 N.out.2.2.2.1 N.out.2.2.2.2.1)
 have kk0 : W3.cell? ⟨w.heap.size + 1 + 1 + 1 + 1 + 1, 0, none⟩ = some (.slice (some ⟨w.heap.size, 0, none⟩) 1 1) := (blk_cell N.out.2.2.2.2.2.1 0).trans rfl
 have kk1 : W3.cell? ⟨w.heap.size + 1 + 1 + 1 + 1 + 1, 1, none⟩ = some (.slice (some ⟨w.heap.size + 1 + 1 + 1 + 1, 0, none⟩) 1 1) := (blk_cell N.out.2.2.2.2.2.1 1).trans rfl
 go_upto_region 6 with (first | (go_at_call 11; refine (gram_Build.calls k _ 1 [⟨#[84]⟩] _ 1 awRaw c1 c2 c3 ⟨#[84]⟩ 402 _ hS.out (Nat.le_refl _) hR.out (Nat.le_refl _) FC.out).mono ?_; rintro e w3 ⟨v0, v1, rfl, h0, h1, hb⟩; (obtain ⟨V1, u1, rfl⟩ := Kd.R_slice h0); (obtain ⟨V2, u2, rfl⟩ := Kd.R_slice h1); have D3 := Aside0.mk (And.intro h0 (And.intro h1 hb)); clear h0 h1 hb))
 clear kk0 kk1 hS hR
 have hZ : Below W3.heap.size W3 (w3.alloc (.cells #[.int .i64 c1, .slice V1 c2.length u1, .slice V2 c3.length u2] 28)) := below_alloc D3.out.2.2 _
 have hBx := blk_new w3 (.cells #[.int .i64 c1, .slice V1 c2.length u1, .slice V2 c3.length u2] 28)
 have hlt : w3.heap.size < (w3.alloc (.cells #[.int .i64 c1, .slice V1 c2.length u1, .slice V2 c3.length u2] 28)).heap.size ∧ W3.heap.size ≤ w3.heap.size := ⟨by simp, D3.out.2.2.size⟩
 have hq0 := Kd.R_below D3.out.1 (below_alloc (Below.refl w3.heap.size w3) (.cells #[.int .i64 c1, .slice V1 c2.length u1, .slice V2 c3.length u2] 28))
 have hq1 := Kd.R_below D3.out.2.1 (below_alloc (Below.refl w3.heap.size w3) (.cells #[.int .i64 c1, .slice V1 c2.length u1, .slice V2 c3.length u2] 28))
 have E3 := Aside0.mk (And.intro hZ (And.intro hBx (And.intro hq0 (And.intro hq1 hlt))))
 clear hZ hBx hq0 hq1 hlt D3
 generalize w3.alloc (.cells #[.int .i64 c1, .slice V1 c2.length u1, .slice V2 c3.length u2] 28) = W4 at *
 generalize w3.heap.size = g8 at *
 have m0 := (blk_alloc (blk_alloc (blk_alloc (blk_new W4 (.cells #[.string ⟨#[83]⟩] 9)) (.cells #[.int .i64 (-1), .int .i64 97, .int .i64 97, .int .i64 (-1), .int .i64 98, .int .i64 98, .int .i64 0, .int .i64 0, .int .i64 0] 56)) (.cells #[.bool true, .slice (some ⟨W4.heap.size + 1, 0, none⟩) 3 3] 54)) (.cells #[.int .i64 0, .slice (some ⟨W4.heap.size + 1 + 1, 0, none⟩) 1 1] 51))
 have m1 := (blk_alloc (blk_alloc (blk_new (W4.alloc (.cells #[.string ⟨#[83]⟩] 9)) (.cells #[.int .i64 (-1), .int .i64 97, .int .i64 97, .int .i64 (-1), .int .i64 98, .int .i64 98, .int .i64 0, .int .i64 0, .int .i64 0] 56)) (.cells #[.bool true, .slice (some ⟨W4.heap.size + 1, 0, none⟩) 3 3] 54)) (.cells #[.int .i64 0, .slice (some ⟨W4.heap.size + 1 + 1, 0, none⟩) 1 1] 51))
 have e1 : (W4.alloc (.cells #[.string ⟨#[83]⟩] 9)).heap.size = W4.heap.size + 1 := by simp
 rw [e1] at m1
 clear e1
 have m2 := (blk_alloc (blk_new ((W4.alloc (.cells #[.string ⟨#[83]⟩] 9)).alloc (.cells #[.int .i64 (-1), .int .i64 97, .int .i64 97, .int .i64 (-1), .int .i64 98, .int .i64 98, .int .i64 0, .int .i64 0, .int .i64 0] 56)) (.cells #[.bool true, .slice (some ⟨W4.heap.size + 1, 0, none⟩) 3 3] 54)) (.cells #[.int .i64 0, .slice (some ⟨W4.heap.size + 1 + 1, 0, none⟩) 1 1] 51))
 have e2 : ((W4.alloc (.cells #[.string ⟨#[83]⟩] 9)).alloc (.cells #[.int .i64 (-1), .int .i64 97, .int .i64 97, .int .i64 (-1), .int .i64 98, .int .i64 98, .int .i64 0, .int .i64 0, .int .i64 0] 56)).heap.size = W4.heap.size + 1 + 1 := by simp
 rw [e2] at m2
 clear e2
 have m3 := (blk_new (((W4.alloc (.cells #[.string ⟨#[83]⟩] 9)).alloc (.cells #[.int .i64 (-1), .int .i64 97, .int .i64 97, .int .i64 (-1), .int .i64 98, .int .i64 98, .int .i64 0, .int .i64 0, .int .i64 0] 56)).alloc (.cells #[.bool true, .slice (some ⟨W4.heap.size + 1, 0, none⟩) 3 3] 54)) (.cells #[.int .i64 0, .slice (some ⟨W4.heap.size + 1 + 1, 0, none⟩) 1 1] 51))
 have e3 : (((W4.alloc (.cells #[.string ⟨#[83]⟩] 9)).alloc (.cells #[.int .i64 (-1), .int .i64 97, .int .i64 97, .int .i64 (-1), .int .i64 98, .int .i64 98, .int .i64 0, .int .i64 0, .int .i64 0] 56)).alloc (.cells #[.bool true, .slice (some ⟨W4.heap.size + 1, 0, none⟩) 3 3] 54)).heap.size = W4.heap.size + 1 + 1 + 1 := by simp
 rw [e3] at m3
 clear e3
 have hb5 := below_alloc (below_alloc (below_alloc (below_alloc (Below.refl W4.heap.size W4) (.cells #[.string ⟨#[83]⟩] 9)) (.cells #[.int .i64 (-1), .int .i64 97, .int .i64 97, .int .i64 (-1), .int .i64 98, .int .i64 98, .int .i64 0, .int .i64 0, .int .i64 0] 56)) (.cells #[.bool true, .slice (some ⟨W4.heap.size + 1, 0, none⟩) 3 3] 54)) (.cells #[.int .i64 0, .slice (some ⟨W4.heap.size + 1 + 1, 0, none⟩) 1 1] 51)
 have Z := Aside0.mk (And.intro (aw_str m0) (And.intro (aw_rules m1 m2 m3) hb5))
 clear m0 m1 m2 m3 hb5
 have hW4 := (E3.out.1.block g2 N.out.2.2.2.2.2.2.2.2.2.2).trans N.out.2.2.2.2.2.2.1
 have hc4 : Aside0 (g2 < W4.heap.size) := ⟨Nat.lt_of_lt_of_le N.out.2.2.2.2.2.2.2.2.2.2 E3.out.1.size⟩
 have hcs : ∀ w', Below W4.heap.size W4 w' → w'.cell? ⟨g2, 0, none⟩ = some (.int .i64 a1) ∧ w'.cell? ⟨g2, 1, none⟩ = some (.slice P1 a2.length p1) ∧ w'.cell? ⟨g2, 2, none⟩ = some (.slice P2 a3.length p2) := fun w' h => ⟨(blk_cell ((h.block g2 hc4.out).trans hW4) 0).trans rfl, (blk_cell ((h.block g2 hc4.out).trans hW4) 1).trans rfl, (blk_cell ((h.block g2 hc4.out).trans hW4) 2).trans rfl⟩
 obtain ⟨k1, k2, k3⟩ := hcs W4 (Below.refl _ _)
 have PC := Aside0.mk (And.intro (Kd.C_below (Kd.R_reads' N.out.2.2.2.2.2.2.2.1).2.2 E3.out.1) (And.intro (Kd.C_below (Kd.R_reads' N.out.2.2.2.2.2.2.2.2.1).2.2 E3.out.1) (And.intro (Kd.R_reads' N.out.2.2.2.2.2.2.2.1).2.1 (Kd.R_reads' N.out.2.2.2.2.2.2.2.2.1).2.1)))
 have BW := Aside0.mk (N.out.2.2.2.2.2.2.2.2.2.1.trans (E3.out.1.mono N.out.2.2.2.2.2.2.2.2.2.1.size))
 go_wp2_with (first | (go_at_call 17; (with_reducible refine (gram_May.calls a1 P1 p1 a2 P2 p2 a3 true _ (Kd.C_drewN (Kd.C_below PC.out.1 hb5.out) _) PC.out.2.2.1 (Kd.C_drewN (Kd.C_below PC.out.2.1 hb5.out) _) PC.out.2.2.2 FM.out).mono ?_); rintro e w6 ⟨rfl, hq⟩; have hb6 := Aside0.mk hq; clear hq) | (go_at_call 17; refine (gram_May.calls 0 none 0 [] none 0 [] false _ (Kd.C_nil _ _) (Nat.le_refl _) (Kd.C_nil _ _) (Nat.le_refl _) FN.out).mono ?_; rintro e w7 ⟨rfl, hq⟩; have hb7 := Aside0.mk hq; clear hq) | (go_at_call 13; refine (templelaw0_SameGrammar.calls k a1 P1 p1 a2 P2 p2 a3 0 _ 1 [⟨#[83]⟩] _ 1 awRules true _ (Kd.C_below PC.out.1 Z.out.2.2) PC.out.2.2.1 (Kd.C_below PC.out.2.1 Z.out.2.2) PC.out.2.2.2 Z.out.1 (Nat.le_refl _) Z.out.2.1 (Nat.le_refl _) FS.out).mono ?_; rintro e w5 ⟨rfl, hq⟩; have hb5 := Aside0.mk (Z.out.2.2.trans (hq.mono Z.out.2.2.size)); clear hq; (obtain ⟨j1, j2, j3⟩ := hcs w5 hb5.out)) | (go_at_call 14; (with_reducible refine (templelaw0_Num.calls 0 0 _ (aw_num 0)).mono ?_); rintro e w' ⟨rfl, ⟨nd, rfl⟩⟩) | (go_at_call 14; (with_reducible refine (templelaw0_Num.calls 400 400 _ (aw_num 400)).mono ?_); rintro e w' ⟨rfl, ⟨nd, rfl⟩⟩) | (go_at_call 14; (with_reducible refine (templelaw0_Num.calls 402 402 _ (aw_num 402)).mono ?_); rintro e w' ⟨rfl, ⟨nd, rfl⟩⟩))
 go_ret
 refine ⟨rfl, ?_⟩
 have y5 := BW.out.trans (hb5.out.mono BW.out.size)
 have y6 := (pw_below_drewN y5 _).trans (hb6.out.mono (pw_below_drewN y5 _).size)
 exact y6.trans (hb7.out.mono y6.size)


end Go.Proofs.Ytdjnpgigdchfkaa.PBW
