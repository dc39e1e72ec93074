-- written by a program of the session's (wip/myprint.py) out of the translation
import Derived.Test.YtpilkfodlhhjpaaPFHx0
import Derived.Test.YtpilkfodlhhjpaaPFHx1
import Derived.Test.YtpilkfodlhhjpaaPFHx10
import Derived.Test.YtpilkfodlhhjpaaPFHx11
import Derived.Test.YtpilkfodlhhjpaaPFHx12
import Derived.Test.YtpilkfodlhhjpaaPFHx17
import Derived.Test.YtpilkfodlhhjpaaPFHx24
import Derived.Test.YtpilkfodlhhjpaaPFHx25
import Derived.Test.YtpilkfodlhhjpaaPFHx26
import Derived.Test.YtpilkfodlhhjpaaPFHx27d
namespace Go.Proofs.Ytpilkfodlhhjpaa.PFH
open Go.RowKit Go.Proofs.YtpilkfodlhhjpaaW.PrintWords Go.Proofs.YtpilkfodlhhjpaaW.PrintLast Go.Proofs.YtpilkfodlhhjpaaW.PrintMore
attribute [local go_sem] max2_int min2_int max_two min_two max_three min_three max_four min_four   -- for this text's walks alone
set_option linter.unusedVariables false
set_option linter.unusedSimpArgs false

attribute [local go_sem high] eqA63
/-! ### templelaw12_FirstsHold: function 6 -/
def templelaw12_FirstsHold.T23 : Bool × List (List Nat × List Nat) := (true, [([], []), ([], []), ([], []), ([], []), ([2, 3], [2, 3]), ([4], [4]), ([5], [5]), ([1, 6], [1, 6]), ([7], [7]), ([0, 8], [0, 8]), ([9, 9, 0, 1, 2, 3, 4, 5, 6, 7, 8, 9], [9])])
def templelaw12_FirstsHold.B23 : List Nat := [0, 0, 0, 0, 12, 28, 60, 126, 254, 511, 1023]
theorem templelaw12_FirstsHold.tab23 : rtab .any (opsOf Try.f6 23) = templelaw12_FirstsHold.T23 := by kernel_rfl
theorem templelaw12_FirstsHold.bits23 : waitsOk templelaw12_FirstsHold.T23.2 templelaw12_FirstsHold.B23 = true := by kernel_rfl
def templelaw12_FirstsHold.T27 : Bool × List (List Nat × List Nat) := (true, [([], []), ([], []), ([], []), ([], []), ([2, 3], [2, 3]), ([4], [4]), ([5], [5]), ([1, 6], [1, 6]), ([7], [7]), ([0, 8], [0, 8]), ([9, 9, 0, 1, 2, 3, 4, 5, 6, 7, 8, 9], [9])])
def templelaw12_FirstsHold.B27 : List Nat := [0, 0, 0, 0, 12, 28, 60, 126, 254, 511, 1023]
theorem templelaw12_FirstsHold.tab27 : rtab .any (opsOf Try.f6 27) = templelaw12_FirstsHold.T27 := by kernel_rfl
theorem templelaw12_FirstsHold.bits27 : waitsOk templelaw12_FirstsHold.T27.2 templelaw12_FirstsHold.B27 = true := by kernel_rfl
def templelaw12_FirstsHold.T29 : Bool × List (List Nat × List Nat) := (true, [([], []), ([], []), ([0, 1], [0, 1]), ([2], [2]), ([3], [3]), ([], []), ([], []), ([5, 6], [5, 6]), ([7], [7]), ([8], [8]), ([4, 9], [4, 9]), ([10], [10]), ([11], [11]), ([11], [11]), ([], []), ([14, 12, 10, 0, 1, 2, 3, 4, 5, 6, 7, 8, 9, 10, 11, 12, 14], [12, 14]), ([13, 15, 0, 1, 2, 3, 4, 5, 6, 7, 8, 9, 10, 11, 12, 13, 14, 15], [13])])
def templelaw12_FirstsHold.B29 : List Nat := [0, 0, 3, 7, 15, 0, 0, 96, 224, 480, 1023, 2047, 4095, 4095, 0, 24575, 65535]
theorem templelaw12_FirstsHold.tab29 : rtab .any (opsOf Try.f6 29) = templelaw12_FirstsHold.T29 := by kernel_rfl
theorem templelaw12_FirstsHold.bits29 : waitsOk templelaw12_FirstsHold.T29.2 templelaw12_FirstsHold.B29 = true := by kernel_rfl
def templelaw12_FirstsHold.T31 : Bool × List (List Nat × List Nat) := (true, [([], []), ([], []), ([0, 1], [0, 1]), ([2], [2]), ([], []), ([3, 4], [3, 4]), ([5], [5]), ([6], [6]), ([6], [6]), ([7, 8, 6], [6, 7, 8]), ([9, 6], [6, 9]), ([6], [6]), ([10, 11, 6], [6, 10, 11]), ([6, 12], [6, 12])])
def templelaw12_FirstsHold.B31 : List Nat := [0, 0, 3, 7, 0, 31, 63, 127, 127, 511, 1023, 127, 4095, 8191]
theorem templelaw12_FirstsHold.tab31 : rtab .any (opsOf Try.f6 31) = templelaw12_FirstsHold.T31 := by kernel_rfl
theorem templelaw12_FirstsHold.bits31 : waitsOk templelaw12_FirstsHold.T31.2 templelaw12_FirstsHold.B31 = true := by kernel_rfl
set_option maxHeartbeats 8000000 in
set_option maxRecDepth 100000 in
theorem templelaw12_FirstsHold.calls (k : Nat) (a0_0 : Int) (A0_1 : Option Addr) (c0_1 : Nat) (l0_1 : List ByteArray) (A0_2 : Option Addr) (c0_2 : Nat) (l0_2 : List (S55)) (r : Bool) (w : World) (hr0_1 : Kd.C Kd.string w A0_1 l0_1.length l0_1) (hc0_1 : l0_1.length ≤ c0_1) (hr0_2 : Kd.C k55 w A0_2 l0_2.length l0_2) (hc0_2 : l0_2.length ≤ c0_2) (h : templelaw12_FirstsHold.f k a0_0 l0_1 l0_2 = some r) :
  Calls Try.prog 6 #[.agg #[.int .i64 a0_0, .slice A0_1 l0_1.length c0_1, .slice A0_2 l0_2.length c0_2]] w fun e w' => e = .returned (.bool r) ∧ Below w.heap.size w w' := by
 have hu25 := Try.underlying25
 have hu63 := Try.underlying63
 have HR0_1 := Aside0.mk hr0_1
 have HC0_1 := Aside0.mk hc0_1
 clear hr0_1 hc0_1
 have HR0_2 := Aside0.mk hr0_2
 have HC0_2 := Aside0.mk hc0_2
 clear hr0_2 hc0_2
 have HB := Aside0.mk (Below.refl w.heap.size w)
 have H : ((templelaw12_awake.f k).bind fun t192 => (if t192 = true then ((first_Empty.f a0_0 l0_1 l0_2).bind fun bt193 => ((first_First.f a0_0 l0_1 l0_2).bind fun bt197 => ((templelaw0_Num.f bt193.2).bind fun t201 => (if t201 = 0 then ((templelaw0_Num.f bt197.2).bind fun t202 => (templelaw12_FirstsHold.j0 k bt193.1 bt197.1 (t202 != 0) a0_0 l0_1 l0_2)) else (templelaw12_FirstsHold.j0 k bt193.1 bt197.1 true a0_0 l0_1 l0_2))))) else (none))) = some r := h
 clear h
 replace H := Option.bind_eq_some_iff.mp H
 obtain ⟨t192, A20, H⟩ := H
 try dsimp only at H
 have A2 := Aside0.mk A20
 clear A20
 by_cases c3 : t192 = true
 ·subst c3
  have H1 := H
  rw [if_pos rfl] at H1
  clear H
  have H := H1
  clear H1
  replace H := Option.bind_eq_some_iff.mp H
  obtain ⟨⟨t193, t196⟩, A40, H⟩ := H
  try dsimp only at H
  have A4 := Aside0.mk A40
  clear A40
  replace H := Option.bind_eq_some_iff.mp H
  obtain ⟨⟨t197, t200⟩, A50, H⟩ := H
  replace H : ((templelaw0_Num.f t196).bind fun t201 => (if t201 = 0 then ((templelaw0_Num.f t200).bind fun t202 => (templelaw12_FirstsHold.j0 k t193 t197 (t202 != 0) a0_0 l0_1 l0_2)) else (templelaw12_FirstsHold.j0 k t193 t197 true a0_0 l0_1 l0_2))) = some r := H
  have A5 := Aside0.mk A50
  clear A50
  have HC6 := Aside0.mk H
  clear H
  go_enter Try.func6, Try.ntmps6
  go_upto_region 5 with (first | ((with_reducible refine gate_dst (N := 1) rfl ?_); (try (refine gate_guard (by rfl) ?_; dsimp only)); refine box_event ?hg (N := 1) ?hd (cs := #[.int .i64 a0_0, .slice A0_1 l0_1.length c0_1, .slice A0_2 l0_2.length c0_2]) (t := 25) ?hr ?_; (case hd => rfl); (case hg => rfl); (case hr => first | (go_simp; done) | (go_simp; rfl)); intro gb191 hg w7 hbox hb; have n0_ := Aside0.mk (below_step (by repeat (first | (with_reducible first | exact HB.out | apply below_alloc | apply pw_below_drewN | apply below_drew1) | exact HB.out)) hb); have n1_ := Aside0.mk (hbox); have n2_ := Aside0.mk ((by rw [hg]; exact (below_size (by repeat (first | (with_reducible first | exact HB.out | apply below_alloc | apply pw_below_drewN | apply below_drew1) | exact HB.out))) : w.heap.size ≤ gb191)); have n3_ := Aside0.mk ((by rw [hg]; exact (below_size (by repeat (first | (with_reducible first | exact HB.out | apply below_alloc | apply pw_below_drewN | apply below_drew1) | exact HB.out))) : w.heap.size ≤ gb191)); clear HB; have HB := n0_; have BK191 := n1_; have GW191 := n2_; have GE191 := n3_; clear n0_ n1_ n2_ n3_; clear hb hbox hg) | ((with_reducible refine gate_callee (f := 21) rfl ?_); refine goesL_ (some 16) rfl rfl Try.func21 (by kernel_rfl) rfl #[] rfl (by (try simp only [List.map_toArray, List.map_cons, List.map_nil]); first | done | rfl | (simp only [List.length_drop, List.length_take]; rfl)) ?_; (with_reducible refine (templelaw12_awake.calls k  true _ A2.out).mono ?_); rintro e w8 ⟨rfl, hb⟩; refine ⟨_, rfl, ?_⟩; have n0_ := Aside0.mk (blk_below (g := gb191) (o := .cells #[.int .i64 a0_0, .slice A0_1 l0_1.length c0_1, .slice A0_2 l0_2.length c0_2] 25 (0, 0)) (by (with_reducible repeat (first | refine blk_drewN ?_ _ | refine blk_drew ?_ | refine blk_alloc ?_ _)); exact BK191.out) hb); have n1_ := Aside0.mk (below_step (by repeat (first | (with_reducible first | exact HB.out | apply below_alloc | apply pw_below_drewN | apply below_drew1 | refine below_set ?_ GE191.out) | exact HB.out)) hb); clear BK191; clear HB; have BK191 := n0_; have HB := n1_; clear n0_ n1_; (try clear hb); have hcz9_0 : w8.cell? ⟨gb191, 0, none⟩ = some (.int .i64 a0_0) := (blk_cell BK191.out 0).trans rfl; have hcz9_1 : w8.cell? ⟨gb191, 1, none⟩ = some (.slice A0_1 l0_1.length c0_1) := (blk_cell BK191.out 1).trans rfl; have hcz9_2 : w8.cell? ⟨gb191, 2, none⟩ = some (.slice A0_2 l0_2.length c0_2) := (blk_cell BK191.out 2).trans rfl; have hfz9_0 := blk_frozen BK191.out 0; have hfz9_1 := blk_frozen BK191.out 1; have hfz9_2 := blk_frozen BK191.out 2) | ((with_reducible refine gate_callee (f := 10) rfl ?_); refine goesL_ (some 20) rfl rfl Try.func10 (by kernel_rfl) rfl #[.agg #[.int .i64 a0_0, .slice A0_1 l0_1.length c0_1, .slice A0_2 l0_2.length c0_2]] rfl (by (try simp only [List.map_toArray, List.map_cons, List.map_nil]); first | done | rfl | (simp only [List.length_drop, List.length_take]; rfl)) ?_; (with_reducible refine (first_Empty.calls a0_0 _ _ l0_1 _ _ l0_2 t193 t196 _ ?side1 ?side2 ?side3 ?side4 A4.out).mono ?_); (case side1 => repeat (first | exact (Kd.C_below HR0_1.out HB.out) | (with_reducible refine Kd.C_alloc ?_ _) | (with_reducible refine Kd.C_drewN ?_ _) | (with_reducible refine Kd.C_drew ?_))); (case side2 => exact HC0_1.out); (case side3 => repeat (first | exact (Kd.C_below HR0_2.out HB.out) | (with_reducible refine Kd.C_alloc ?_ _) | (with_reducible refine Kd.C_drewN ?_ _) | (with_reducible refine Kd.C_drew ?_))); (case side4 => exact HC0_2.out); rintro e w10 ⟨v194, rfl, ho0, hb⟩; refine ⟨_, rfl, ?_⟩; have n0_ := Aside0.mk (Kd.R_lower ho0 (below_size (by repeat (first | (with_reducible first | exact HB.out | apply below_alloc | apply pw_below_drewN | apply below_drew1 | refine below_set ?_ GE191.out) | exact HB.out)))); have n1_ := Aside0.mk (blk_below (g := gb191) (o := .cells #[.int .i64 a0_0, .slice A0_1 l0_1.length c0_1, .slice A0_2 l0_2.length c0_2] 25 (0, 0)) (by (with_reducible repeat (first | refine blk_drewN ?_ _ | refine blk_drew ?_ | refine blk_alloc ?_ _)); exact BK191.out) hb); have n2_ := Aside0.mk (below_step (by repeat (first | (with_reducible first | exact HB.out | apply below_alloc | apply pw_below_drewN | apply below_drew1 | refine below_set ?_ GE191.out) | exact HB.out)) hb); clear BK191; clear HB; have HO195 := n0_; have BK191 := n1_; have HB := n2_; clear n0_ n1_ n2_; (try clear hb); (try clear ho0); have hcz11_0 : w10.cell? ⟨gb191, 0, none⟩ = some (.int .i64 a0_0) := (blk_cell BK191.out 0).trans rfl; have hcz11_1 : w10.cell? ⟨gb191, 1, none⟩ = some (.slice A0_1 l0_1.length c0_1) := (blk_cell BK191.out 1).trans rfl; have hcz11_2 : w10.cell? ⟨gb191, 2, none⟩ = some (.slice A0_2 l0_2.length c0_2) := (blk_cell BK191.out 2).trans rfl; have hfz11_0 := blk_frozen BK191.out 0; have hfz11_1 := blk_frozen BK191.out 1; have hfz11_2 := blk_frozen BK191.out 2) | ((with_reducible refine gate_callee (f := 12) rfl ?_); refine goesL_ (some 25) rfl rfl Try.func12 (by kernel_rfl) rfl #[.agg #[.int .i64 a0_0, .slice A0_1 l0_1.length c0_1, .slice A0_2 l0_2.length c0_2]] rfl (by (try simp only [List.map_toArray, List.map_cons, List.map_nil]); first | done | rfl | (simp only [List.length_drop, List.length_take]; rfl)) ?_; (with_reducible refine (first_First.calls a0_0 _ _ l0_1 _ _ l0_2 t197 t200 _ ?side1 ?side2 ?side3 ?side4 A5.out).mono ?_); (case side1 => repeat (first | exact (Kd.C_below HR0_1.out HB.out) | (with_reducible refine Kd.C_alloc ?_ _) | (with_reducible refine Kd.C_drewN ?_ _) | (with_reducible refine Kd.C_drew ?_))); (case side2 => exact HC0_1.out); (case side3 => repeat (first | exact (Kd.C_below HR0_2.out HB.out) | (with_reducible refine Kd.C_alloc ?_ _) | (with_reducible refine Kd.C_drewN ?_ _) | (with_reducible refine Kd.C_drew ?_))); (case side4 => exact HC0_2.out); rintro e w12 ⟨v198, rfl, ho0, hb⟩; refine ⟨_, rfl, ?_⟩; have n0_ := Aside0.mk (Kd.R_below (by (with_reducible repeat (first | apply Kd.R_alloc | apply Kd.R_drewN | apply Kd.R_drew)); exact HO195.out) hb); have n1_ := Aside0.mk (Kd.R_lower ho0 (below_size (by repeat (first | (with_reducible first | exact HB.out | apply below_alloc | apply pw_below_drewN | apply below_drew1 | refine below_set ?_ GE191.out) | exact HB.out)))); have n2_ := Aside0.mk (blk_below (g := gb191) (o := .cells #[.int .i64 a0_0, .slice A0_1 l0_1.length c0_1, .slice A0_2 l0_2.length c0_2] 25 (0, 0)) (by (with_reducible repeat (first | refine blk_drewN ?_ _ | refine blk_drew ?_ | refine blk_alloc ?_ _)); exact BK191.out) hb); have n3_ := Aside0.mk (below_step (by repeat (first | (with_reducible first | exact HB.out | apply below_alloc | apply pw_below_drewN | apply below_drew1 | refine below_set ?_ GE191.out) | exact HB.out)) hb); clear HO195; clear BK191; clear HB; have HO195 := n0_; have HO199 := n1_; have BK191 := n2_; have HB := n3_; clear n0_ n1_ n2_ n3_; (try clear hb); (try clear ho0)))
  (try simp only [Act.put, List.setIfInBounds_toArray, List.set_cons_zero, List.set_cons_succ])
  go_cut [35] (fun v35 wc => ∃ (kq : Nat) (x35_5 : Bool), v35 = .bool x35_5 ∧ Aside0 (templelaw12_FirstsHold.j0 kq t193 t197 x35_5 a0_0 l0_1 l0_2 = some r) ∧ Aside0 (kq ≤ k) ∧ Aside0 (Kd.R Kd.bool 4 wc w.heap.size (fun _ => True) v194 t193) ∧ Aside0 (Kd.R k63 63 wc w.heap.size (fun _ => True) v198 t197) ∧ Aside0 (wc.heap[gb191]? = some (.cells #[.int .i64 a0_0, (.slice A0_1 l0_1.length c0_1), (.slice A0_2 l0_2.length c0_2)] 25 (0, 0))) ∧ Aside0 (Below w.heap.size w wc))
  case first =>
   have H := HC6.out
   clear HC6
   replace H := Option.bind_eq_some_iff.mp H
   obtain ⟨t201, A130, H⟩ := H
   replace H : (if t201 = 0 then ((templelaw0_Num.f t200).bind fun t202 => (templelaw12_FirstsHold.j0 k t193 t197 (t202 != 0) a0_0 l0_1 l0_2)) else (templelaw12_FirstsHold.j0 k t193 t197 true a0_0 l0_1 l0_2)) = some r := H
   have A13 := Aside0.mk A130
   clear A130
   by_cases c14 : t201 = 0
   ·rw [if_pos c14] at H
    have c14b0 : (t201 == 0) = true := beq_iff_eq.mpr c14
    have c14b1 : (t201 != 0) = false := bne_eq_false_iff_eq.mpr c14
    clear c14
    (first | rw [c14b0] | (simp only [i64_w, i32_w]; rw [c14b0]) | skip)
    replace H := Option.bind_eq_some_iff.mp H
    obtain ⟨t202, A150, H⟩ := H
    replace H : (templelaw12_FirstsHold.j0 k t193 t197 (t202 != 0) a0_0 l0_1 l0_2) = some r := H
    have A15 := Aside0.mk A150
    clear A150
    have H' := Aside0.mk H
    clear H
    go_wp2_with (first | ((with_reducible refine gate_callee (f := 17) rfl ?_); refine goesL_ (some 29) rfl rfl Try.func17 (by kernel_rfl) rfl #[.int .i64 t196] rfl (by (try simp only [List.map_toArray, List.map_cons, List.map_nil]); first | done | rfl | (simp only [List.length_drop, List.length_take]; rfl)) ?_; (with_reducible refine (templelaw0_Num.calls t196 t201 _ A13.out).mono ?_); rintro e w' ⟨rfl, ⟨nd, rfl⟩⟩; refine ⟨_, rfl, ?_⟩) | (go_at_call 17; (with_reducible refine (templelaw0_Num.calls t200 t202 _ A15.out).mono ?_); rintro e w' ⟨rfl, ⟨nd, rfl⟩⟩))
    go_meet
    case rel => exact ⟨_, ((t202 != 0)), (by first | rfl | (simp; done) | (simp [i64_w]; done) | (simp [*]; done) | (simp [*, i64_w]; done) | (simp [*]; unfold wrap64; omega)), H', ⟨by first | omega | exact Nat.le_refl _⟩, ⟨by (with_reducible repeat (first | apply Kd.R_alloc | apply Kd.R_drewN | apply Kd.R_drew)); exact HO195.out⟩, ⟨by (with_reducible repeat (first | apply Kd.R_alloc | apply Kd.R_drewN | apply Kd.R_drew)); exact HO199.out⟩, ⟨by (with_reducible repeat (first | refine blk_drewN ?_ _ | refine blk_drew ?_ | refine blk_alloc ?_ _)); exact BK191.out⟩, ⟨by repeat (first | (with_reducible first | exact HB.out | apply below_alloc | apply pw_below_drewN | apply below_drew1 | refine below_set ?_ GE191.out) | exact HB.out)⟩⟩
   ·rw [if_neg c14] at H
    have c14b0 : (t201 == 0) = false := beq_eq_false_iff_ne.mpr c14
    have c14b1 : (t201 != 0) = true := bne_iff_ne.mpr c14
    (first | rw [c14b0] | (simp only [i64_w, i32_w]; rw [c14b0]) | skip)
    have H' := Aside0.mk H
    clear H
    go_wp2_with (first | ((with_reducible refine gate_callee (f := 17) rfl ?_); refine goesL_ (some 29) rfl rfl Try.func17 (by kernel_rfl) rfl #[.int .i64 t196] rfl (by (try simp only [List.map_toArray, List.map_cons, List.map_nil]); first | done | rfl | (simp only [List.length_drop, List.length_take]; rfl)) ?_; (with_reducible refine (templelaw0_Num.calls t196 t201 _ A13.out).mono ?_); rintro e w' ⟨rfl, ⟨nd, rfl⟩⟩; refine ⟨_, rfl, ?_⟩))
    go_meet
    case rel => exact ⟨_, (true), (by first | rfl | (simp; done) | (simp [i64_w]; done) | (simp [*]; done) | (simp [*, i64_w]; done) | (simp [*]; unfold wrap64; omega)), H', ⟨by first | omega | exact Nat.le_refl _⟩, ⟨by (with_reducible repeat (first | apply Kd.R_alloc | apply Kd.R_drewN | apply Kd.R_drew)); exact HO195.out⟩, ⟨by (with_reducible repeat (first | apply Kd.R_alloc | apply Kd.R_drewN | apply Kd.R_drew)); exact HO199.out⟩, ⟨by (with_reducible repeat (first | refine blk_drewN ?_ _ | refine blk_drew ?_ | refine blk_alloc ?_ _)); exact BK191.out⟩, ⟨by repeat (first | (with_reducible first | exact HB.out | apply below_alloc | apply pw_below_drewN | apply below_drew1 | refine below_set ?_ GE191.out) | exact HB.out)⟩⟩
  case rest => as_aux_lemma =>
   clear HC6
   try clear c1
   try clear c2
   try clear p2
   try clear c3
   try clear c6
   try clear c10
   try clear c12
   try clear c14
   try clear c14b0
   try clear c14b1
   try clear hcz11_0
   try clear hcz11_1
   try clear hcz11_2
   try clear hcz9_0
   try clear hcz9_1
   try clear hcz9_2
   try clear hfz11_0
   try clear hfz11_1
   try clear hfz11_2
   try clear hfz9_0
   try clear hfz9_1
   try clear hfz9_2
   obtain ⟨kq, x35_5, rfl, HA, HJ5, HO_3, HO_5, BK191, HB⟩ := hcut
   cases kq with
   | zero => exact absurd HA.out (by simp [templelaw12_FirstsHold.j0])
   | succ kj5 =>
    have H := HA.out
    clear HA
    simp only [templelaw12_FirstsHold.j0] at H
    by_cases c16 : x35_5 = true
    ·subst c16
     have H1 : (some ((wrap64 ((t193.length : Int) + (t197.length : Int))) == 0)) = some r := by rw [if_pos rfl] at H; exact H
     clear H
     have H := H1
     clear H1
     obtain rfl := Option.some.inj H
     obtain ⟨Ao17, co17, eo17⟩ := Kd.R_slice HO_3.out
     subst eo17
     obtain ⟨Ao18, co18, eo18⟩ := Kd.R_slice HO_5.out
     subst eo18
     go_wp2
     go_ret
     exact ⟨by first | rfl | (simp [errW_none, errW_some] <;> rfl) | (simp [*, errW_none, errW_some] <;> rfl), by repeat (first | (with_reducible first | exact HB.out | apply below_alloc | apply pw_below_drewN | apply below_drew1 | refine below_set ?_ GE191.out) | exact HB.out)⟩
    ·replace c16 := Bool.eq_false_iff.mpr c16
     subst c16
     have H1 := H
     rw [if_neg (show ¬ (false = true) by decide)] at H1
     clear H
     have H := H1
     clear H1
     replace H := Option.bind_eq_some_iff.mp H
     obtain ⟨t203, A190, H⟩ := H
     replace H : (if t203 = true then (if (t193.length : Int) = (l0_1.length : Int) then (if (t197.length : Int) = (l0_1.length : Int) then (templelaw12_FirstsHold.l0 kj5 t193 t197 0 a0_0 l0_1 l0_2) else (none)) else (none)) else (none)) = some r := H
     have A19 := Aside0.mk A190
     clear A190
     by_cases c20 : t203 = true
     ·subst c20
      have H1 : (if (t193.length : Int) = (l0_1.length : Int) then (if (t197.length : Int) = (l0_1.length : Int) then (templelaw12_FirstsHold.l0 kj5 t193 t197 0 a0_0 l0_1 l0_2) else (none)) else (none)) = some r := by rw [if_pos rfl] at H; exact H
      clear H
      have H := H1
      clear H1
      by_cases c21 : (t193.length : Int) = (l0_1.length : Int)
      ·rw [if_pos c21] at H
       have c21b0 : ((t193.length : Int) == (l0_1.length : Int)) = true := beq_iff_eq.mpr c21
       have c21b1 : ((t193.length : Int) != (l0_1.length : Int)) = false := bne_eq_false_iff_eq.mpr c21
       have c21b2 : (t193.length == l0_1.length) = true := by first | simpa using c21 | (simp at c21 ⊢; omega)
       clear c21
       by_cases c22 : (t197.length : Int) = (l0_1.length : Int)
       ·rw [if_pos c22] at H
        have c22b0 : ((t197.length : Int) == (l0_1.length : Int)) = true := beq_iff_eq.mpr c22
        have c22b1 : ((t197.length : Int) != (l0_1.length : Int)) = false := bne_eq_false_iff_eq.mpr c22
        have c22b2 : (t197.length == l0_1.length) = true := by first | simpa using c22 | (simp at c22 ⊢; omega)
        clear c22
        have H' := Aside0.mk H
        clear H
        have hcz23_0 : wc.cell? ⟨gb191, 0, none⟩ = some (.int .i64 a0_0) := (blk_cell BK191.out 0).trans rfl
        have hcz23_1 : wc.cell? ⟨gb191, 1, none⟩ = some (.slice A0_1 l0_1.length c0_1) := (blk_cell BK191.out 1).trans rfl
        have hcz23_2 : wc.cell? ⟨gb191, 2, none⟩ = some (.slice A0_2 l0_2.length c0_2) := (blk_cell BK191.out 2).trans rfl
        have hfz23_0 := blk_frozen BK191.out 0
        have hfz23_1 := blk_frozen BK191.out 1
        have hfz23_2 := blk_frozen BK191.out 2
        go_wp2_with (first | ((with_reducible refine gate_callee (f := 25) rfl ?_); refine goesL_ (some 43) rfl rfl Try.func25 (by kernel_rfl) rfl #[.agg #[.int .i64 a0_0, .slice A0_1 l0_1.length c0_1, .slice A0_2 l0_2.length c0_2]] rfl (by (try simp only [List.map_toArray, List.map_cons, List.map_nil]); first | done | rfl | (simp only [List.length_drop, List.length_take]; rfl)) ?_; (with_reducible refine (templeref1_May.calls kj5 a0_0 _ _ l0_1 _ _ l0_2 true _ ?side1 ?side2 ?side3 ?side4 A19.out).mono ?_); (case side1 => repeat (first | exact (Kd.C_below HR0_1.out HB.out) | (with_reducible refine Kd.C_alloc ?_ _) | (with_reducible refine Kd.C_drewN ?_ _) | (with_reducible refine Kd.C_drew ?_))); (case side2 => exact HC0_1.out); (case side3 => repeat (first | exact (Kd.C_below HR0_2.out HB.out) | (with_reducible refine Kd.C_alloc ?_ _) | (with_reducible refine Kd.C_drewN ?_ _) | (with_reducible refine Kd.C_drew ?_))); (case side4 => exact HC0_2.out); rintro e w24 ⟨rfl, hb⟩; refine ⟨_, rfl, ?_⟩; have n0_ := Aside0.mk (Kd.R_below (by (with_reducible repeat (first | apply Kd.R_alloc | apply Kd.R_drewN | apply Kd.R_drew)); exact HO_3.out) hb); have n1_ := Aside0.mk (Kd.R_below (by (with_reducible repeat (first | apply Kd.R_alloc | apply Kd.R_drewN | apply Kd.R_drew)); exact HO_5.out) hb); have n2_ := Aside0.mk (blk_below (g := gb191) (o := .cells #[.int .i64 a0_0, .slice A0_1 l0_1.length c0_1, .slice A0_2 l0_2.length c0_2] 25 (0, 0)) (by (with_reducible repeat (first | refine blk_drewN ?_ _ | refine blk_drew ?_ | refine blk_alloc ?_ _)); exact BK191.out) hb); have n3_ := Aside0.mk (below_step (by repeat (first | (with_reducible first | exact HB.out | apply below_alloc | apply pw_below_drewN | apply below_drew1 | refine below_set ?_ GE191.out) | exact HB.out)) hb); clear HO_3; clear HO_5; clear BK191; clear HB; have HO_3 := n0_; have HO_5 := n1_; have BK191 := n2_; have HB := n3_; clear n0_ n1_ n2_ n3_; (try clear hb); obtain ⟨Ao25, co25, eo25⟩ := Kd.R_slice HO_3.out; subst eo25; have hcz26_0 : w24.cell? ⟨gb191, 0, none⟩ = some (.int .i64 a0_0) := (blk_cell BK191.out 0).trans rfl; have hcz26_1 : w24.cell? ⟨gb191, 1, none⟩ = some (.slice A0_1 l0_1.length c0_1) := (blk_cell BK191.out 1).trans rfl; have hcz26_2 : w24.cell? ⟨gb191, 2, none⟩ = some (.slice A0_2 l0_2.length c0_2) := (blk_cell BK191.out 2).trans rfl; have hfz26_0 := blk_frozen BK191.out 0; have hfz26_1 := blk_frozen BK191.out 1; have hfz26_2 := blk_frozen BK191.out 2; obtain ⟨Ao27, co27, eo27⟩ := Kd.R_slice HO_5.out; subst eo27))
        go_loopg [7] kj5 (fun kq v7 w' => ∃ (x7_2 : Int), v7 = .int .i64 x7_2 ∧ Aside0 (templelaw12_FirstsHold.l0 kq t193 t197 x7_2 a0_0 l0_1 l0_2 = some r) ∧ Aside0 (kq ≤ kj5) ∧ Aside0 (Kd.R Kd.bool 4 w' w.heap.size (fun _ => True) (.slice Ao25 t193.length co25) t193) ∧ Aside0 (Kd.R k63 63 w' w.heap.size (fun _ => True) (.slice Ao27 t197.length co27) t197) ∧ Aside0 (w'.heap[gb191]? = some (.cells #[.int .i64 a0_0, (.slice A0_1 l0_1.length c0_1), (.slice A0_2 l0_2.length c0_2)] 25 (0, 0))) ∧ Aside0 (Below w.heap.size w w'))
        case atStart => exact ⟨(0), (by first | rfl | (simp; done) | (simp [i64_w]; done) | (simp [*]; done) | (simp [*, i64_w]; done) | (simp [*]; unfold wrap64; omega)), H', ⟨Nat.le_refl _⟩, ⟨by (with_reducible repeat (first | apply Kd.R_alloc | apply Kd.R_drewN | apply Kd.R_drew)); exact HO_3.out⟩, ⟨by (with_reducible repeat (first | apply Kd.R_alloc | apply Kd.R_drewN | apply Kd.R_drew)); exact HO_5.out⟩, ⟨by (with_reducible repeat (first | refine blk_drewN ?_ _ | refine blk_drew ?_ | refine blk_alloc ?_ _)); exact BK191.out⟩, ⟨by repeat (first | (with_reducible first | exact HB.out | apply below_alloc | apply pw_below_drewN | apply below_drew1 | refine below_set ?_ GE191.out) | exact HB.out)⟩⟩
        case round => as_aux_lemma =>
         clear H'
         try clear c1
         try clear c2
         try clear p2
         try clear c3
         try clear c6
         try clear p6
         try clear c10
         try clear c12
         try clear c14
         try clear c14b0
         try clear c14b1
         try clear c16
         try clear c17
         try clear c20
         try clear c21
         try clear c21b0
         try clear c21b1
         try clear c21b2
         try clear c22
         try clear c22b0
         try clear c22b1
         try clear c22b2
         try clear c25
         try clear hcz11_0
         try clear hcz11_1
         try clear hcz11_2
         try clear hcz23_0
         try clear hcz23_1
         try clear hcz23_2
         try clear hcz26_0
         try clear hcz26_1
         try clear hcz26_2
         try clear hcz9_0
         try clear hcz9_1
         try clear hcz9_2
         try clear hfz11_0
         try clear hfz11_1
         try clear hfz11_2
         try clear hfz23_0
         try clear hfz23_1
         try clear hfz23_2
         try clear hfz26_0
         try clear hfz26_1
         try clear hfz26_2
         try clear hfz9_0
         try clear hfz9_1
         try clear hfz9_2
         try clear p2
         obtain ⟨x7_2, rfl, HA, HK2, HO_3, HO_5, BK191, HB⟩ := hrel
         cases gk with
         | zero => exact absurd HA.out (by simp [templelaw12_FirstsHold.l0])
         | succ k2 =>
          have H := HA.out
          clear HA
          simp only [templelaw12_FirstsHold.l0] at H
          by_cases c28 : x7_2 < (l0_1.length : Int)
          ·rw [if_pos c28] at H
           have c28b0 : decide (x7_2 < (l0_1.length : Int)) = true := decide_eq_true c28
           clear c28
           have H' := Aside0.mk H
           clear H
           have hcz29_0 : wr.cell? ⟨gb191, 0, none⟩ = some (.int .i64 a0_0) := (blk_cell BK191.out 0).trans rfl
           have hcz29_1 : wr.cell? ⟨gb191, 1, none⟩ = some (.slice A0_1 l0_1.length c0_1) := (blk_cell BK191.out 1).trans rfl
           have hcz29_2 : wr.cell? ⟨gb191, 2, none⟩ = some (.slice A0_2 l0_2.length c0_2) := (blk_cell BK191.out 2).trans rfl
           have hfz29_0 := blk_frozen BK191.out 0
           have hfz29_1 := blk_frozen BK191.out 1
           have hfz29_2 := blk_frozen BK191.out 2
           go_wp2_with (first | ((with_reducible refine gate_dst (N := 9) rfl ?_); (try (refine gate_guard (by rfl) ?_; dsimp only)); refine box_event ?hg (N := 9) ?hd (cs := #[.int .u64 0, .int .u64 0, .int .u64 0, .int .u64 0]) (t := 63) ?hr ?_; (case hd => rfl); (case hg => rfl); (case hr => first | (go_simp; done) | (go_simp; rfl)); intro gb204 hg w30 hbox hb; have n0_ := Aside0.mk (Kd.R_below (by (with_reducible repeat (first | apply Kd.R_alloc | apply Kd.R_drewN | apply Kd.R_drew)); exact HO_3.out) hb); have n1_ := Aside0.mk (Kd.R_below (Kd.R_elderB (by (with_reducible repeat (first | apply Kd.R_alloc | apply Kd.R_drewN | apply Kd.R_drew)); exact HO_5.out) gb204 (Nat.le_of_eq hg.symm)) hb); have n2_ := Aside0.mk (blk_below (g := gb191) (o := .cells #[.int .i64 a0_0, .slice A0_1 l0_1.length c0_1, .slice A0_2 l0_2.length c0_2] 25 (0, 0)) (by (with_reducible repeat (first | refine blk_drewN ?_ _ | refine blk_drew ?_ | refine blk_alloc ?_ _)); exact BK191.out) hb); have n3_ := Aside0.mk (below_step (by repeat (first | (with_reducible first | exact HB.out | apply below_alloc | apply pw_below_drewN | apply below_drew1 | refine below_set ?_ GE191.out) | exact HB.out)) hb); have n4_ := Aside0.mk (hbox); have n5_ := Aside0.mk ((by rw [hg]; exact (below_size (by repeat (first | (with_reducible first | exact HB.out | apply below_alloc | apply pw_below_drewN | apply below_drew1 | refine below_set ?_ GE191.out) | exact HB.out))) : w.heap.size ≤ gb204)); have n6_ := Aside0.mk ((by rw [hg]; exact (below_size (by repeat (first | (with_reducible first | exact HB.out | apply below_alloc | apply pw_below_drewN | apply below_drew1 | refine below_set ?_ GE191.out) | exact HB.out))) : w.heap.size ≤ gb204)); have n7_ := Aside0.mk ((by rw [hg]; exact Nat.ne_of_lt (blk_lt (g := gb191) (o := .cells #[.int .i64 a0_0, .slice A0_1 l0_1.length c0_1, .slice A0_2 l0_2.length c0_2] 25 (0, 0)) (by (with_reducible repeat (first | refine blk_drewN ?_ _ | refine blk_drew ?_ | refine blk_alloc ?_ _)); exact BK191.out)) : gb191 ≠ gb204)); have n8_ := Aside0.mk ((by rw [hg]; exact Nat.ne_of_gt (blk_lt (g := gb191) (o := .cells #[.int .i64 a0_0, .slice A0_1 l0_1.length c0_1, .slice A0_2 l0_2.length c0_2] 25 (0, 0)) (by (with_reducible repeat (first | refine blk_drewN ?_ _ | refine blk_drew ?_ | refine blk_alloc ?_ _)); exact BK191.out)) : gb204 ≠ gb191)); clear HO_3; clear HO_5; clear BK191; clear HB; have HO_3 := n0_; have HO_5 := n1_; have BK191 := n2_; have HB := n3_; have BK204 := n4_; have GW204 := n5_; have GE204 := n6_; have NB191_204 := n7_; have NB204_191 := n8_; clear n0_ n1_ n2_ n3_ n4_ n5_ n6_ n7_ n8_; clear hb hbox hg))
           go_loopg [8, 10] k2 (fun kq v8 v10 w' => ∃ (x8_3 : Bool) (x10_3 : Int) (x205000_3 : Int) (x205001_3 : Int) (x205002_3 : Int) (x205003_3 : Int), v8 = .bool x8_3 ∧ v10 = .int .i64 x10_3 ∧ Aside0 (templelaw12_FirstsHold.l1 kq t193 t197 x7_2 x8_3 x10_3 a0_0 l0_1 l0_2 x205000_3 x205001_3 x205002_3 x205003_3 = some r) ∧ Aside0 (kq ≤ k2) ∧ Aside0 (Kd.R Kd.bool 4 w' w.heap.size (fun _ => True) (.slice Ao25 t193.length co25) t193) ∧ Aside0 (Kd.R k63 63 w' w.heap.size (fun k_ => k_ ≠ gb204) (.slice Ao27 t197.length co27) t197) ∧ Aside0 (w'.heap[gb191]? = some (.cells #[.int .i64 a0_0, (.slice A0_1 l0_1.length c0_1), (.slice A0_2 l0_2.length c0_2)] 25 (0, 0))) ∧ Aside0 (w'.heap[gb204]? = some (.cells #[.int .u64 x205000_3, .int .u64 x205001_3, .int .u64 x205002_3, .int .u64 x205003_3] 63 (0, 0))) ∧ Aside0 (Below w.heap.size w w'))
           case atStart => exact ⟨(false), (0), (0), (0), (0), (0), (by first | rfl | (simp; done) | (simp [i64_w]; done) | (simp [*]; done) | (simp [*, i64_w]; done) | (simp [*]; unfold wrap64; omega)), (by first | rfl | (simp; done) | (simp [i64_w]; done) | (simp [*]; done) | (simp [*, i64_w]; done) | (simp [*]; unfold wrap64; omega)), H', ⟨Nat.le_refl _⟩, ⟨by (with_reducible repeat (first | apply Kd.R_alloc | apply Kd.R_drewN | apply Kd.R_drew)); exact HO_3.out⟩, ⟨by (with_reducible repeat (first | apply Kd.R_alloc | apply Kd.R_drewN | apply Kd.R_drew)); exact Kd.R_mono HO_5.out (fun _ hk => hk.2)⟩, ⟨by (with_reducible repeat (first | refine blk_drewN ?_ _ | refine blk_drew ?_ | refine blk_alloc ?_ _)); exact BK191.out⟩, ⟨by (with_reducible repeat (first | refine blk_drewN ?_ _ | refine blk_drew ?_ | refine blk_alloc ?_ _)); exact BK204.out⟩, ⟨by repeat (first | (with_reducible first | exact HB.out | apply below_alloc | apply pw_below_drewN | apply below_drew1 | refine below_set ?_ GE191.out | refine below_set ?_ GE204.out) | exact HB.out)⟩⟩
           case round => as_aux_lemma =>
            clear H'
            try clear c1
            try clear c2
            try clear p2
            try clear c3
            try clear c6
            try clear p6
            try clear c10
            try clear c12
            try clear c14
            try clear c14b0
            try clear c14b1
            try clear c16
            try clear c17
            try clear c20
            try clear c21
            try clear c21b0
            try clear c21b1
            try clear c21b2
            try clear c22
            try clear c22b0
            try clear c22b1
            try clear c22b2
            try clear c25
            try clear c28
            try clear c28b0
            try clear hcz11_0
            try clear hcz11_1
            try clear hcz11_2
            try clear hcz23_0
            try clear hcz23_1
            try clear hcz23_2
            try clear hcz26_0
            try clear hcz26_1
            try clear hcz26_2
            try clear hcz29_0
            try clear hcz29_1
            try clear hcz29_2
            try clear hcz9_0
            try clear hcz9_1
            try clear hcz9_2
            try clear hfz11_0
            try clear hfz11_1
            try clear hfz11_2
            try clear hfz23_0
            try clear hfz23_1
            try clear hfz23_2
            try clear hfz26_0
            try clear hfz26_1
            try clear hfz26_2
            try clear hfz29_0
            try clear hfz29_1
            try clear hfz29_2
            try clear hfz9_0
            try clear hfz9_1
            try clear hfz9_2
            try clear p2
            try clear p6
            obtain ⟨x8_3, x10_3, x205000_3, x205001_3, x205002_3, x205003_3, rfl, rfl, HA, HK3, HO_3, HO_5, BK191, BK204, HB⟩ := hrel
            cases gk with
            | zero => exact absurd HA.out (by simp [templelaw12_FirstsHold.l1])
            | succ k3 =>
             have H := HA.out
             clear HA
             simp only [templelaw12_FirstsHold.l1] at H
             by_cases c31 : x10_3 < (l0_2.length : Int)
             ·rw [if_pos c31] at H
              have c31b0 : decide (x10_3 < (l0_2.length : Int)) = true := decide_eq_true c31
              clear c31
              have H' := Aside0.mk H
              clear H
              have hnb32 := NB191_204.out
              have hnc32 := NB204_191.out
              have hcz33_0 : wr.cell? ⟨gb191, 0, none⟩ = some (.int .i64 a0_0) := (blk_cell BK191.out 0).trans rfl
              have hcz33_1 : wr.cell? ⟨gb191, 1, none⟩ = some (.slice A0_1 l0_1.length c0_1) := (blk_cell BK191.out 1).trans rfl
              have hcz33_2 : wr.cell? ⟨gb191, 2, none⟩ = some (.slice A0_2 l0_2.length c0_2) := (blk_cell BK191.out 2).trans rfl
              have hfz33_0 := blk_frozen BK191.out 0
              have hfz33_1 := blk_frozen BK191.out 1
              have hfz33_2 := blk_frozen BK191.out 2
              go_wp2
              go_loopg [8, 11] k3 (fun kq v8 v11 w' => ∃ (x8_4 : Bool) (x11_4 : Int) (x205000_4 : Int) (x205001_4 : Int) (x205002_4 : Int) (x205003_4 : Int), v8 = .bool x8_4 ∧ v11 = .int .i64 x11_4 ∧ Aside0 (templelaw12_FirstsHold.l2 kq t193 t197 x7_2 x8_4 x10_3 x11_4 a0_0 l0_1 l0_2 x205000_4 x205001_4 x205002_4 x205003_4 = some r) ∧ Aside0 (kq ≤ k3) ∧ Aside0 (Kd.R Kd.bool 4 w' w.heap.size (fun _ => True) (.slice Ao25 t193.length co25) t193) ∧ Aside0 (Kd.R k63 63 w' w.heap.size (fun k_ => k_ ≠ gb204) (.slice Ao27 t197.length co27) t197) ∧ Aside0 (w'.heap[gb191]? = some (.cells #[.int .i64 a0_0, (.slice A0_1 l0_1.length c0_1), (.slice A0_2 l0_2.length c0_2)] 25 (0, 0))) ∧ Aside0 (w'.heap[gb204]? = some (.cells #[.int .u64 x205000_4, .int .u64 x205001_4, .int .u64 x205002_4, .int .u64 x205003_4] 63 (0, 0))) ∧ Aside0 (Below w.heap.size w w'))
              case atStart => exact ⟨(x8_3), (0), (x205000_3), (x205001_3), (x205002_3), (x205003_3), (by first | rfl | (simp; done) | (simp [i64_w]; done) | (simp [*]; done) | (simp [*, i64_w]; done) | (simp [*]; unfold wrap64; omega)), (by first | rfl | (simp; done) | (simp [i64_w]; done) | (simp [*]; done) | (simp [*, i64_w]; done) | (simp [*]; unfold wrap64; omega)), H', ⟨Nat.le_refl _⟩, ⟨by (with_reducible repeat (first | apply Kd.R_alloc | apply Kd.R_drewN | apply Kd.R_drew)); exact HO_3.out⟩, ⟨by (with_reducible repeat (first | apply Kd.R_alloc | apply Kd.R_drewN | apply Kd.R_drew)); exact HO_5.out⟩, ⟨by (with_reducible repeat (first | refine blk_drewN ?_ _ | refine blk_drew ?_ | refine blk_alloc ?_ _)); exact BK191.out⟩, ⟨by (with_reducible repeat (first | refine blk_drewN ?_ _ | refine blk_drew ?_ | refine blk_alloc ?_ _)); exact BK204.out⟩, ⟨by repeat (first | (with_reducible first | exact HB.out | apply below_alloc | apply pw_below_drewN | apply below_drew1 | refine below_set ?_ GE191.out | refine below_set ?_ GE204.out) | exact HB.out)⟩⟩
              case round => as_aux_lemma =>
               clear H'
               try clear c1
               try clear c2
               try clear p2
               try clear c3
               try clear c6
               try clear p6
               try clear c10
               try clear c12
               try clear c14
               try clear c14b0
               try clear c14b1
               try clear c16
               try clear c17
               try clear c20
               try clear c21
               try clear c21b0
               try clear c21b1
               try clear c21b2
               try clear c22
               try clear c22b0
               try clear c22b1
               try clear c22b2
               try clear c25
               try clear c28
               try clear c28b0
               try clear c31
               try clear c31b0
               try clear c32
               try clear hcz11_0
               try clear hcz11_1
               try clear hcz11_2
               try clear hcz23_0
               try clear hcz23_1
               try clear hcz23_2
               try clear hcz26_0
               try clear hcz26_1
               try clear hcz26_2
               try clear hcz29_0
               try clear hcz29_1
               try clear hcz29_2
               try clear hcz33_0
               try clear hcz33_1
               try clear hcz33_2
               try clear hcz9_0
               try clear hcz9_1
               try clear hcz9_2
               try clear hfz11_0
               try clear hfz11_1
               try clear hfz11_2
               try clear hfz23_0
               try clear hfz23_1
               try clear hfz23_2
               try clear hfz26_0
               try clear hfz26_1
               try clear hfz26_2
               try clear hfz29_0
               try clear hfz29_1
               try clear hfz29_2
               try clear hfz33_0
               try clear hfz33_1
               try clear hfz33_2
               try clear hfz9_0
               try clear hfz9_1
               try clear hfz9_2
               try clear p2
               try clear p6
               obtain ⟨x8_4, x11_4, x205000_4, x205001_4, x205002_4, x205003_4, rfl, rfl, HA, HK4, HO_3, HO_5, BK191, BK204, HB⟩ := hrel
               cases gk with
               | zero => exact absurd HA.out (by simp [templelaw12_FirstsHold.l2])
               | succ k4 =>
                have H := HA.out
                clear HA
                simp only [templelaw12_FirstsHold.l2] at H
                have HC34 := Aside0.mk H
                clear H
                go_upto_region 18 with (fail)
                go_cut [93] (fun v93 wc => ∃ (kq : Nat) (x93_33 : Bool), v93 = .bool x93_33 ∧ Aside0 (templelaw12_FirstsHold.j4 kq t193 t197 x7_2 x8_4 x10_3 x11_4 x93_33 a0_0 l0_1 l0_2 x205000_4 x205001_4 x205002_4 x205003_4 = some r) ∧ Aside0 (kq ≤ k4) ∧ Aside0 (Kd.R Kd.bool 4 wc w.heap.size (fun _ => True) (.slice Ao25 t193.length co25) t193) ∧ Aside0 (Kd.R k63 63 wc w.heap.size (fun k_ => k_ ≠ gb204) (.slice Ao27 t197.length co27) t197) ∧ Aside0 (wc.heap[gb191]? = some (.cells #[.int .i64 a0_0, (.slice A0_1 l0_1.length c0_1), (.slice A0_2 l0_2.length c0_2)] 25 (0, 0))) ∧ Aside0 (wc.heap[gb204]? = some (.cells #[.int .u64 x205000_4, .int .u64 x205001_4, .int .u64 x205002_4, .int .u64 x205003_4] 63 (0, 0))) ∧ Aside0 (Below w.heap.size w wc))
                case first =>
                 have H := HC34.out
                 clear HC34
                 by_cases c35 : 0 ≤ x10_3
                 ·rw [if_pos c35] at H
                  have c35b0 : decide (0 ≤ x10_3) = true := decide_eq_true c35
                  clear c35
                  (first | rw [c35b0] | (simp only [i64_w, i32_w]; rw [c35b0]) | skip)
                  by_cases c36 : x10_3 < (l0_2.length : Int)
                  ·rw [if_pos c36] at H
                   have c36b0 : decide (x10_3 < (l0_2.length : Int)) = true := decide_eq_true c36
                   clear c36
                   by_cases c37 : x11_4 < (((rd_T55 l0_2 x10_3).f1).length : Int)
                   ·rw [if_pos c37] at H
                    have c37b0 : decide (x11_4 < (((rd_T55 l0_2 x10_3).f1).length : Int)) = true := decide_eq_true c37
                    clear c37
                    have H' := Aside0.mk H
                    clear H
                    have hnb38 := NB191_204.out
                    have hnc38 := NB204_191.out
                    have hcz39_0 : wr.cell? ⟨gb191, 0, none⟩ = some (.int .i64 a0_0) := (blk_cell BK191.out 0).trans rfl
                    have hcz39_1 : wr.cell? ⟨gb191, 1, none⟩ = some (.slice A0_1 l0_1.length c0_1) := (blk_cell BK191.out 1).trans rfl
                    have hcz39_2 : wr.cell? ⟨gb191, 2, none⟩ = some (.slice A0_2 l0_2.length c0_2) := (blk_cell BK191.out 2).trans rfl
                    have hfz39_0 := blk_frozen BK191.out 0
                    have hfz39_1 := blk_frozen BK191.out 1
                    have hfz39_2 := blk_frozen BK191.out 2
                    have p207 : 0 ≤ (x10_3 : Int) := of_decide_eq_true (by first | (with_reducible assumption) | assumption)
                    have q207 : x10_3 < (l0_2.length : Int) := of_decide_eq_true (by first | (with_reducible assumption) | assumption)
                    obtain ⟨ad207, A207_1, c207_1, e207, hx207_0, hx207_1, hl207_1, hi207_1⟩ := at_T55 HR0_2.out x10_3 p207 q207
                    cases e207
                    replace hx207_0 := (HB.out.cell (World.block_lt_of_cell? w _ hx207_0)).trans hx207_0
                    replace hx207_1 := (HB.out.cell (World.block_lt_of_cell? w _ hx207_1)).trans hx207_1
                    have HR207_1 := Aside0.mk hi207_1
                    have HC207_1 := Aside0.mk hl207_1
                    clear hi207_1 hl207_1
                    replace p207 := eq_true p207
                    replace q207 := eq_true q207
                    have p208 : 0 ≤ (x10_3 : Int) := of_decide_eq_true (by first | (with_reducible assumption) | assumption)
                    have q208 : x10_3 < (l0_2.length : Int) := of_decide_eq_true (by first | (with_reducible assumption) | assumption)
                    obtain ⟨ad208, A208_1, c208_1, e208, hx208_0, hx208_1, hl208_1, hi208_1⟩ := at_T55 HR0_2.out x10_3 p208 q208
                    obtain rfl : ad207 = ad208 := (by injection e208)
                    replace hx208_0 := (HB.out.cell (World.block_lt_of_cell? w _ hx208_0)).trans hx208_0
                    replace hx208_1 := (HB.out.cell (World.block_lt_of_cell? w _ hx208_1)).trans hx208_1
                    have HR208_1 := Aside0.mk hi208_1
                    have HC208_1 := Aside0.mk hl208_1
                    clear hi208_1 hl208_1
                    replace p208 := eq_true p208
                    replace q208 := eq_true q208
                    have ea_ := Option.some.inj (hx207_1.symm.trans hx208_1)
                    injection ea_ with ea_ en_ ec_
                    subst ea_
                    subst ec_
                    clear en_
                    go_wp2
                    go_meet
                    case rel => exact ⟨_, ((((rd_T55 l0_2 x10_3).f0) == x7_2)), (by first | rfl | (simp; done) | (simp [i64_w]; done) | (simp [*]; done) | (simp [*, i64_w]; done) | (simp [*]; unfold wrap64; omega)), H', ⟨by have := HJ5.out; have := HK2.out; have := HK3.out; have := HK4.out; first | omega | exact Nat.le_refl _⟩, ⟨by (with_reducible repeat (first | apply Kd.R_alloc | apply Kd.R_drewN | apply Kd.R_drew)); exact HO_3.out⟩, ⟨by (with_reducible repeat (first | apply Kd.R_alloc | apply Kd.R_drewN | apply Kd.R_drew)); exact HO_5.out⟩, ⟨by (with_reducible repeat (first | refine blk_drewN ?_ _ | refine blk_drew ?_ | refine blk_alloc ?_ _)); exact BK191.out⟩, ⟨by (with_reducible repeat (first | refine blk_drewN ?_ _ | refine blk_drew ?_ | refine blk_alloc ?_ _)); exact BK204.out⟩, ⟨by repeat (first | (with_reducible first | exact HB.out | apply below_alloc | apply pw_below_drewN | apply below_drew1 | refine below_set ?_ GE191.out | refine below_set ?_ GE204.out) | exact HB.out)⟩⟩
                   ·rw [if_neg c37] at H
                    have c37b0 : decide (x11_4 < (((rd_T55 l0_2 x10_3).f1).length : Int)) = false := decide_eq_false c37
                    clear c37
                    have H' := Aside0.mk H
                    clear H
                    have hnb40 := NB191_204.out
                    have hnc40 := NB204_191.out
                    have hcz41_0 : wr.cell? ⟨gb191, 0, none⟩ = some (.int .i64 a0_0) := (blk_cell BK191.out 0).trans rfl
                    have hcz41_1 : wr.cell? ⟨gb191, 1, none⟩ = some (.slice A0_1 l0_1.length c0_1) := (blk_cell BK191.out 1).trans rfl
                    have hcz41_2 : wr.cell? ⟨gb191, 2, none⟩ = some (.slice A0_2 l0_2.length c0_2) := (blk_cell BK191.out 2).trans rfl
                    have hfz41_0 := blk_frozen BK191.out 0
                    have hfz41_1 := blk_frozen BK191.out 1
                    have hfz41_2 := blk_frozen BK191.out 2
                    have p207 : 0 ≤ (x10_3 : Int) := of_decide_eq_true (by first | (with_reducible assumption) | assumption)
                    have q207 : x10_3 < (l0_2.length : Int) := of_decide_eq_true (by first | (with_reducible assumption) | assumption)
                    obtain ⟨ad207, A207_1, c207_1, e207, hx207_0, hx207_1, hl207_1, hi207_1⟩ := at_T55 HR0_2.out x10_3 p207 q207
                    cases e207
                    replace hx207_0 := (HB.out.cell (World.block_lt_of_cell? w _ hx207_0)).trans hx207_0
                    replace hx207_1 := (HB.out.cell (World.block_lt_of_cell? w _ hx207_1)).trans hx207_1
                    have HR207_1 := Aside0.mk hi207_1
                    have HC207_1 := Aside0.mk hl207_1
                    clear hi207_1 hl207_1
                    replace p207 := eq_true p207
                    replace q207 := eq_true q207
                    go_wp2
                    go_meet
                    case rel => exact ⟨_, (false), (by first | rfl | (simp; done) | (simp [i64_w]; done) | (simp [*]; done) | (simp [*, i64_w]; done) | (simp [*]; unfold wrap64; omega)), H', ⟨by have := HJ5.out; have := HK2.out; have := HK3.out; have := HK4.out; first | omega | exact Nat.le_refl _⟩, ⟨by (with_reducible repeat (first | apply Kd.R_alloc | apply Kd.R_drewN | apply Kd.R_drew)); exact HO_3.out⟩, ⟨by (with_reducible repeat (first | apply Kd.R_alloc | apply Kd.R_drewN | apply Kd.R_drew)); exact HO_5.out⟩, ⟨by (with_reducible repeat (first | refine blk_drewN ?_ _ | refine blk_drew ?_ | refine blk_alloc ?_ _)); exact BK191.out⟩, ⟨by (with_reducible repeat (first | refine blk_drewN ?_ _ | refine blk_drew ?_ | refine blk_alloc ?_ _)); exact BK204.out⟩, ⟨by repeat (first | (with_reducible first | exact HB.out | apply below_alloc | apply pw_below_drewN | apply below_drew1 | refine below_set ?_ GE191.out | refine below_set ?_ GE204.out) | exact HB.out)⟩⟩
                  ·rw [if_neg c36] at H
                   exact absurd H (by simp)
                 ·rw [if_neg c35] at H
                  exact absurd H (by simp)
                case rest => as_aux_lemma =>
                 clear HC34
                 try clear c1
                 try clear c2
                 try clear p2
                 try clear q2
                 try clear hx2
                 try clear c3
                 try clear c4
                 try clear c6
                 try clear p6
                 try clear c10
                 try clear c12
                 try clear c14
                 try clear c14b0
                 try clear c14b1
                 try clear c16
                 try clear c17
                 try clear c20
                 try clear p20
                 try clear q20
                 try clear hx20
                 try clear c21
                 try clear c21b0
                 try clear c21b1
                 try clear c21b2
                 try clear c22
                 try clear c22b0
                 try clear c22b1
                 try clear c22b2
                 try clear c25
                 try clear c28
                 try clear c28b0
                 try clear c31
                 try clear c31b0
                 try clear c32
                 try clear c35
                 try clear c35b0
                 try clear c36
                 try clear c36b0
                 try clear c37
                 try clear c37b0
                 try clear c38
                 try clear c40
                 try clear hcz11_0
                 try clear hcz11_1
                 try clear hcz11_2
                 try clear hcz23_0
                 try clear hcz23_1
                 try clear hcz23_2
                 try clear hcz26_0
                 try clear hcz26_1
                 try clear hcz26_2
                 try clear hcz29_0
                 try clear hcz29_1
                 try clear hcz29_2
                 try clear hcz33_0
                 try clear hcz33_1
                 try clear hcz33_2
                 try clear hcz39_0
                 try clear hcz39_1
                 try clear hcz39_2
                 try clear hcz41_0
                 try clear hcz41_1
                 try clear hcz41_2
                 try clear hcz9_0
                 try clear hcz9_1
                 try clear hcz9_2
                 try clear hfz11_0
                 try clear hfz11_1
                 try clear hfz11_2
                 try clear hfz23_0
                 try clear hfz23_1
                 try clear hfz23_2
                 try clear hfz26_0
                 try clear hfz26_1
                 try clear hfz26_2
                 try clear hfz29_0
                 try clear hfz29_1
                 try clear hfz29_2
                 try clear hfz33_0
                 try clear hfz33_1
                 try clear hfz33_2
                 try clear hfz39_0
                 try clear hfz39_1
                 try clear hfz39_2
                 try clear hfz41_0
                 try clear hfz41_1
                 try clear hfz41_2
                 try clear hfz9_0
                 try clear hfz9_1
                 try clear hfz9_2
                 try clear hx207_0
                 try clear hx207_1
                 try clear hx208_0
                 try clear hx208_1
                 try clear p2
                 try clear p207
                 try clear p208
                 try clear p6
                 try clear q207
                 try clear q208
                 obtain ⟨kq, x93_33, rfl, HA, HJ33, HO_3, HO_5, BK191, BK204, HB⟩ := hcut
                 cases kq with
                 | zero => exact absurd HA.out (by simp [templelaw12_FirstsHold.j4])
                 | succ kj33 =>
                  have H := HA.out
                  clear HA
                  simp only [templelaw12_FirstsHold.j4] at H
                  by_cases c42 : x93_33 = true
                  ·subst c42
                   have H1 := H
                   rw [if_pos rfl] at H1
                   clear H
                   have H := H1
                   clear H1
                   by_cases c43 : 0 ≤ x10_3
                   ·rw [if_pos c43] at H
                    have c43b0 : decide (0 ≤ x10_3) = true := decide_eq_true c43
                    clear c43
                    by_cases c44 : x10_3 < (l0_2.length : Int)
                    ·rw [if_pos c44] at H
                     have c44b0 : decide (x10_3 < (l0_2.length : Int)) = true := decide_eq_true c44
                     clear c44
                     by_cases c45 : 0 ≤ x11_4
                     ·rw [if_pos c45] at H
                      have c45b0 : decide (0 ≤ x11_4) = true := decide_eq_true c45
                      clear c45
                      by_cases c46 : x11_4 < (((rd_T55 l0_2 x10_3).f1).length : Int)
                      ·rw [if_pos c46] at H
                       have c46b0 : decide (x11_4 < (((rd_T55 l0_2 x10_3).f1).length : Int)) = true := decide_eq_true c46
                       clear c46
                       have HC47 := Aside0.mk H
                       clear H
                       have hnb48 := NB191_204.out
                       have hnc48 := NB204_191.out
                       have hcz49_0 : wc.cell? ⟨gb191, 0, none⟩ = some (.int .i64 a0_0) := (blk_cell BK191.out 0).trans rfl
                       have hcz49_1 : wc.cell? ⟨gb191, 1, none⟩ = some (.slice A0_1 l0_1.length c0_1) := (blk_cell BK191.out 1).trans rfl
                       have hcz49_2 : wc.cell? ⟨gb191, 2, none⟩ = some (.slice A0_2 l0_2.length c0_2) := (blk_cell BK191.out 2).trans rfl
                       have hfz49_0 := blk_frozen BK191.out 0
                       have hfz49_1 := blk_frozen BK191.out 1
                       have hfz49_2 := blk_frozen BK191.out 2
                       have p209 : 0 ≤ (x10_3 : Int) := of_decide_eq_true (by first | (with_reducible assumption) | assumption)
                       have q209 : x10_3 < (l0_2.length : Int) := of_decide_eq_true (by first | (with_reducible assumption) | assumption)
                       obtain ⟨ad209, A209_1, c209_1, e209, hx209_0, hx209_1, hl209_1, hi209_1⟩ := at_T55 HR0_2.out x10_3 p209 q209
                       cases e209
                       replace hx209_0 := (HB.out.cell (World.block_lt_of_cell? w _ hx209_0)).trans hx209_0
                       replace hx209_1 := (HB.out.cell (World.block_lt_of_cell? w _ hx209_1)).trans hx209_1
                       have HR209_1 := Aside0.mk hi209_1
                       have HC209_1 := Aside0.mk hl209_1
                       clear hi209_1 hl209_1
                       replace p209 := eq_true p209
                       replace q209 := eq_true q209
                       have p210 : 0 ≤ (x11_4 : Int) := of_decide_eq_true (by first | (with_reducible assumption) | assumption)
                       have q210 : x11_4 < (((rd_T55 l0_2 x10_3).f1).length : Int) := of_decide_eq_true (by first | (with_reducible assumption) | assumption)
                       obtain ⟨ad210, A210_1, c210_1, e210, hx210_0, hx210_1, hl210_1, hi210_1⟩ := at_T58 HR209_1.out x11_4 p210 q210
                       cases e210
                       replace hx210_0 := (HB.out.cell (World.block_lt_of_cell? w _ hx210_0)).trans hx210_0
                       replace hx210_1 := (HB.out.cell (World.block_lt_of_cell? w _ hx210_1)).trans hx210_1
                       have HR210_1 := Aside0.mk hi210_1
                       have HC210_1 := Aside0.mk hl210_1
                       clear hi210_1 hl210_1
                       replace p210 := eq_true p210
                       replace q210 := eq_true q210
                       go_upto_block 6 with (fail)
                       go_cut [13] (fun v13 wc => ∃ (kq : Nat) (x13_46 : Int) (x205000_46 : Int) (x205001_46 : Int) (x205002_46 : Int) (x205003_46 : Int), v13 = .int .i64 x13_46 ∧ Aside0 (templelaw12_FirstsHold.j6 kq t193 t197 x7_2 x8_4 x10_3 x11_4 ((rd_T58 ((rd_T55 l0_2 x10_3).f1) x11_4).f1) x13_46 a0_0 l0_1 l0_2 x205000_46 x205001_46 x205002_46 x205003_46 = some r) ∧ Aside0 (kq ≤ kj33) ∧ Aside0 (Kd.R Kd.bool 4 wc w.heap.size (fun _ => True) (.slice Ao25 t193.length co25) t193) ∧ Aside0 (Kd.R k63 63 wc w.heap.size (fun k_ => k_ ≠ gb204) (.slice Ao27 t197.length co27) t197) ∧ Aside0 (wc.heap[gb191]? = some (.cells #[.int .i64 a0_0, (.slice A0_1 l0_1.length c0_1), (.slice (some ad209) l0_2.length c0_2)] 25 (0, 0))) ∧ Aside0 (wc.heap[gb204]? = some (.cells #[.int .u64 x205000_46, .int .u64 x205001_46, .int .u64 x205002_46, .int .u64 x205003_46] 63 (0, 0))) ∧ Aside0 (Below w.heap.size w wc))
                       case first =>
                        have H := HC47.out
                        clear HC47
                        have H' := Aside0.mk H
                        clear H
                        go_wp2
                        go_loopg [13] kj33 (fun kq v13 w' => ∃ (x13_6 : Int) (x205000_6 : Int) (x205001_6 : Int) (x205002_6 : Int) (x205003_6 : Int), v13 = .int .i64 x13_6 ∧ Aside0 (templelaw12_FirstsHold.l3 kq t193 t197 x7_2 x8_4 x10_3 x11_4 ((rd_T58 ((rd_T55 l0_2 x10_3).f1) x11_4).f1) x13_6 a0_0 l0_1 l0_2 x205000_6 x205001_6 x205002_6 x205003_6 = some r) ∧ Aside0 (kq ≤ kj33) ∧ Aside0 (Kd.R Kd.bool 4 w' w.heap.size (fun _ => True) (.slice Ao25 t193.length co25) t193) ∧ Aside0 (Kd.R k63 63 w' w.heap.size (fun k_ => k_ ≠ gb204) (.slice Ao27 t197.length co27) t197) ∧ Aside0 (w'.heap[gb191]? = some (.cells #[.int .i64 a0_0, (.slice A0_1 l0_1.length c0_1), (.slice (some ad209) l0_2.length c0_2)] 25 (0, 0))) ∧ Aside0 (w'.heap[gb204]? = some (.cells #[.int .u64 x205000_6, .int .u64 x205001_6, .int .u64 x205002_6, .int .u64 x205003_6] 63 (0, 0))) ∧ Aside0 (Below w.heap.size w w'))
                        case atStart => exact ⟨(0), (x205000_4), (x205001_4), (x205002_4), (x205003_4), (by first | rfl | (simp; done) | (simp [i64_w]; done) | (simp [*]; done) | (simp [*, i64_w]; done) | (simp [*]; unfold wrap64; omega)), H', ⟨Nat.le_refl _⟩, ⟨by (with_reducible repeat (first | apply Kd.R_alloc | apply Kd.R_drewN | apply Kd.R_drew)); exact HO_3.out⟩, ⟨by (with_reducible repeat (first | apply Kd.R_alloc | apply Kd.R_drewN | apply Kd.R_drew)); exact HO_5.out⟩, ⟨by (with_reducible repeat (first | refine blk_drewN ?_ _ | refine blk_drew ?_ | refine blk_alloc ?_ _)); exact BK191.out⟩, ⟨by (with_reducible repeat (first | refine blk_drewN ?_ _ | refine blk_drew ?_ | refine blk_alloc ?_ _)); exact BK204.out⟩, ⟨by repeat (first | (with_reducible first | exact HB.out | apply below_alloc | apply pw_below_drewN | apply below_drew1 | refine below_set ?_ GE191.out | refine below_set ?_ GE204.out) | exact HB.out)⟩⟩
                        case round => as_aux_lemma =>
                         clear H'
                         try clear c1
                         try clear c2
                         try clear p2
                         try clear q2
                         try clear hx2
                         try clear c3
                         try clear c4
                         try clear c6
                         try clear p6
                         try clear c10
                         try clear c12
                         try clear c14
                         try clear c14b0
                         try clear c14b1
                         try clear c16
                         try clear c17
                         try clear c20
                         try clear p20
                         try clear q20
                         try clear hx20
                         try clear c21
                         try clear c21b0
                         try clear c21b1
                         try clear c21b2
                         try clear p21
                         try clear q21
                         try clear hx21
                         try clear c22
                         try clear c22b0
                         try clear c22b1
                         try clear c22b2
                         try clear c25
                         try clear c28
                         try clear c28b0
                         try clear c31
                         try clear c31b0
                         try clear c32
                         try clear c35
                         try clear c35b0
                         try clear c36
                         try clear c36b0
                         try clear c37
                         try clear c37b0
                         try clear c38
                         try clear c40
                         try clear c42
                         try clear c43
                         try clear c43b0
                         try clear c44
                         try clear c44b0
                         try clear c45
                         try clear c45b0
                         try clear c46
                         try clear c46b0
                         try clear c48
                         try clear hcz11_0
                         try clear hcz11_1
                         try clear hcz11_2
                         try clear hcz23_0
                         try clear hcz23_1
                         try clear hcz23_2
                         try clear hcz26_0
                         try clear hcz26_1
                         try clear hcz26_2
                         try clear hcz29_0
                         try clear hcz29_1
                         try clear hcz29_2
                         try clear hcz33_0
                         try clear hcz33_1
                         try clear hcz33_2
                         try clear hcz39_0
                         try clear hcz39_1
                         try clear hcz39_2
                         try clear hcz41_0
                         try clear hcz41_1
                         try clear hcz41_2
                         try clear hcz49_0
                         try clear hcz49_1
                         try clear hcz49_2
                         try clear hcz9_0
                         try clear hcz9_1
                         try clear hcz9_2
                         try clear hfz11_0
                         try clear hfz11_1
                         try clear hfz11_2
                         try clear hfz23_0
                         try clear hfz23_1
                         try clear hfz23_2
                         try clear hfz26_0
                         try clear hfz26_1
                         try clear hfz26_2
                         try clear hfz29_0
                         try clear hfz29_1
                         try clear hfz29_2
                         try clear hfz33_0
                         try clear hfz33_1
                         try clear hfz33_2
                         try clear hfz39_0
                         try clear hfz39_1
                         try clear hfz39_2
                         try clear hfz41_0
                         try clear hfz41_1
                         try clear hfz41_2
                         try clear hfz49_0
                         try clear hfz49_1
                         try clear hfz49_2
                         try clear hfz9_0
                         try clear hfz9_1
                         try clear hfz9_2
                         try clear hx207_0
                         try clear hx207_1
                         try clear hx208_0
                         try clear hx208_1
                         try clear hx209_0
                         try clear hx209_1
                         try clear hx210_0
                         try clear hx210_1
                         try clear p2
                         try clear p20
                         try clear p207
                         try clear p208
                         try clear p209
                         try clear p210
                         try clear p6
                         try clear q2
                         try clear q20
                         try clear q207
                         try clear q208
                         try clear q209
                         try clear q210
                         obtain ⟨x13_6, x205000_6, x205001_6, x205002_6, x205003_6, rfl, HA, HK6, HO_3, HO_5, BK191, BK204, HB⟩ := hrel
                         cases gk with
                         | zero => exact absurd HA.out (by simp [templelaw12_FirstsHold.l3])
                         | succ k6 =>
                          have H := HA.out
                          clear HA
                          simp only [templelaw12_FirstsHold.l3] at H
                          by_cases c50 : x13_6 < (((rd_T58 ((rd_T55 l0_2 x10_3).f1) x11_4).f1).length : Int)
                          ·rw [if_pos c50] at H
                           have c50b0 : decide (x13_6 < (((rd_T58 ((rd_T55 l0_2 x10_3).f1) x11_4).f1).length : Int)) = true := decide_eq_true c50
                           clear c50
                           (first | rw [c50b0] | (simp only [i64_w, i32_w]; rw [c50b0]) | skip)
                           by_cases c51 : 0 ≤ x13_6
                           ·rw [if_pos c51] at H
                            have c51b0 : decide (0 ≤ x13_6) = true := decide_eq_true c51
                            clear c51
                            by_cases c52 : ((rd_T68 ((rd_T58 ((rd_T55 l0_2 x10_3).f1) x11_4).f1) x13_6).f0) ≥ 0
                            ·rw [if_pos c52] at H
                             have c52b0 : decide (0 ≤ ((rd_T68 ((rd_T58 ((rd_T55 l0_2 x10_3).f1) x11_4).f1) x13_6).f0)) = true := decide_eq_true c52
                             clear c52
                             by_cases c53 : 0 ≤ ((rd_T68 ((rd_T58 ((rd_T55 l0_2 x10_3).f1) x11_4).f1) x13_6).f0)
                             ·rw [if_pos c53] at H
                              have c53b0 : decide (0 ≤ ((rd_T68 ((rd_T58 ((rd_T55 l0_2 x10_3).f1) x11_4).f1) x13_6).f0)) = true := decide_eq_true c53
                              clear c53
                              by_cases c54 : ((rd_T68 ((rd_T58 ((rd_T55 l0_2 x10_3).f1) x11_4).f1) x13_6).f0) < (t193.length : Int)
                              ·rw [if_pos c54] at H
                               have c54b0 : decide (((rd_T68 ((rd_T58 ((rd_T55 l0_2 x10_3).f1) x11_4).f1) x13_6).f0) < (t193.length : Int)) = true := decide_eq_true c54
                               clear c54
                               obtain ⟨bq55, hbq55⟩ : ∃ b_ : Bool, b_ = (rdOf false t193 ((rd_T68 ((rd_T58 ((rd_T55 l0_2 x10_3).f1) x11_4).f1) x13_6).f0)) := ⟨_, rfl⟩
                               replace H : (if bq55 = true then (if ((rd_T68 ((rd_T58 ((rd_T55 l0_2 x10_3).f1) x11_4).f1) x13_6).f0) < (t197.length : Int) then ((templeref1_Mix.f 0 x205000_6 x205001_6 x205002_6 x205003_6 ((rd_T63 t197 ((rd_T68 ((rd_T58 ((rd_T55 l0_2 x10_3).f1) x11_4).f1) x13_6).f0)).f0) ((rd_T63 t197 ((rd_T68 ((rd_T58 ((rd_T55 l0_2 x10_3).f1) x11_4).f1) x13_6).f0)).f1) ((rd_T63 t197 ((rd_T68 ((rd_T58 ((rd_T55 l0_2 x10_3).f1) x11_4).f1) x13_6).f0)).f2) ((rd_T63 t197 ((rd_T68 ((rd_T58 ((rd_T55 l0_2 x10_3).f1) x11_4).f1) x13_6).f0)).f3)).bind fun bt216 => (templelaw12_FirstsHold.l3 k6 t193 t197 x7_2 x8_4 x10_3 x11_4 ((rd_T58 ((rd_T55 l0_2 x10_3).f1) x11_4).f1) (wrap64 (x13_6 + 1)) a0_0 l0_1 l0_2 bt216.1 bt216.2.1 bt216.2.2.1 bt216.2.2.2)) else (none)) else (templelaw12_FirstsHold.j6 k6 t193 t197 x7_2 x8_4 x10_3 x11_4 ((rd_T58 ((rd_T55 l0_2 x10_3).f1) x11_4).f1) x13_6 a0_0 l0_1 l0_2 x205000_6 x205001_6 x205002_6 x205003_6)) = some r := by rw [← hbq55] at H; exact H
                               have Nbq55 := Aside0.mk hbq55
                               clear hbq55
                               by_cases c56 : bq55 = true
                               ·subst c56
                                have H1 := H
                                rw [if_pos rfl] at H1
                                clear H
                                have H := H1
                                clear H1
                                by_cases c57 : ((rd_T68 ((rd_T58 ((rd_T55 l0_2 x10_3).f1) x11_4).f1) x13_6).f0) < (t197.length : Int)
                                ·rw [if_pos c57] at H
                                 have c57b0 : decide (((rd_T68 ((rd_T58 ((rd_T55 l0_2 x10_3).f1) x11_4).f1) x13_6).f0) < (t197.length : Int)) = true := decide_eq_true c57
                                 clear c57
                                 replace H := Option.bind_eq_some_iff.mp H
                                 obtain ⟨⟨t216, t217, t218, t219⟩, A580, H⟩ := H
                                 replace H : (templelaw12_FirstsHold.l3 k6 t193 t197 x7_2 x8_4 x10_3 x11_4 ((rd_T58 ((rd_T55 l0_2 x10_3).f1) x11_4).f1) (wrap64 (x13_6 + 1)) a0_0 l0_1 l0_2 t216 t217 t218 t219) = some r := H
                                 have A58 := Aside0.mk A580
                                 clear A580
                                 have H' := Aside0.mk H
                                 clear H
                                 have p211 : 0 ≤ (x13_6 : Int) := of_decide_eq_true (by first | (with_reducible assumption) | assumption)
                                 have q211 : x13_6 < (((rd_T58 ((rd_T55 l0_2 x10_3).f1) x11_4).f1).length : Int) := of_decide_eq_true (by first | (with_reducible assumption) | assumption)
                                 obtain ⟨ad211, e211, hx211_0, hx211_1, hx211_2⟩ := at_T68 HR210_1.out x13_6 p211 q211
                                 cases e211
                                 replace hx211_0 := (HB.out.cell (World.block_lt_of_cell? w _ hx211_0)).trans hx211_0
                                 replace hx211_1 := (HB.out.cell (World.block_lt_of_cell? w _ hx211_1)).trans hx211_1
                                 replace hx211_2 := (HB.out.cell (World.block_lt_of_cell? w _ hx211_2)).trans hx211_2
                                 replace p211 := eq_true p211
                                 replace q211 := eq_true q211
                                 have p212 : 0 ≤ (x13_6 : Int) := of_decide_eq_true (by first | (with_reducible assumption) | assumption)
                                 have q212 : x13_6 < (((rd_T58 ((rd_T55 l0_2 x10_3).f1) x11_4).f1).length : Int) := of_decide_eq_true (by first | (with_reducible assumption) | assumption)
                                 obtain ⟨ad212, e212, hx212_0, hx212_1, hx212_2⟩ := at_T68 HR210_1.out x13_6 p212 q212
                                 obtain rfl : ad211 = ad212 := (by injection e212)
                                 replace hx212_0 := (HB.out.cell (World.block_lt_of_cell? w _ hx212_0)).trans hx212_0
                                 replace hx212_1 := (HB.out.cell (World.block_lt_of_cell? w _ hx212_1)).trans hx212_1
                                 replace hx212_2 := (HB.out.cell (World.block_lt_of_cell? w _ hx212_2)).trans hx212_2
                                 replace p212 := eq_true p212
                                 replace q212 := eq_true q212
                                 have p213 : 0 ≤ (((rd_T68 ((rd_T58 ((rd_T55 l0_2 x10_3).f1) x11_4).f1) x13_6).f0) : Int) := of_decide_eq_true (by first | (with_reducible assumption) | assumption)
                                 have q213 : ((rd_T68 ((rd_T58 ((rd_T55 l0_2 x10_3).f1) x11_4).f1) x13_6).f0) < (t193.length : Int) := of_decide_eq_true (by first | (with_reducible assumption) | assumption)
                                 obtain ⟨ad213, e213, hx213_0⟩ := Kd.at_bool (Kd.R_reads' HO_3.out).2.2 ((rd_T68 ((rd_T58 ((rd_T55 l0_2 x10_3).f1) x11_4).f1) x13_6).f0) p213 q213
                                 (try rw [← Nbq55.out] at hx213_0)
                                 cases e213
                                 replace p213 := eq_true p213
                                 replace q213 := eq_true q213
                                 try go_wp2
                                 have n0_ := Aside0.mk (Kd.R_drew HO_3.out)
                                 have n1_ := Aside0.mk (Kd.R_drew HO_5.out)
                                 have n2_ := Aside0.mk (blk_drew BK191.out)
                                 have n3_ := Aside0.mk (blk_drew BK204.out)
                                 have n4_ := Aside0.mk (below_drew1 HB.out)
                                 clear HO_3
                                 clear HO_5
                                 clear BK191
                                 clear BK204
                                 clear HB
                                 have HO_3 := n0_
                                 have HO_5 := n1_
                                 have BK191 := n2_
                                 have BK204 := n3_
                                 have HB := n4_
                                 clear n0_ n1_ n2_ n3_ n4_
                                 have p214 : 0 ≤ (x13_6 : Int) := of_decide_eq_true (by first | (with_reducible assumption) | assumption)
                                 have q214 : x13_6 < (((rd_T58 ((rd_T55 l0_2 x10_3).f1) x11_4).f1).length : Int) := of_decide_eq_true (by first | (with_reducible assumption) | assumption)
                                 obtain ⟨ad214, e214, hx214_0, hx214_1, hx214_2⟩ := at_T68 HR210_1.out x13_6 p214 q214
                                 have hw214_2 := hx214_2
                                 have hw214_1 := hx214_1
                                 have hw214_0 := hx214_0
                                 obtain rfl : ad211 = ad214 := (by injection e214)
                                 replace hx214_0 := (HB.out.cell (World.block_lt_of_cell? w _ hx214_0)).trans hx214_0
                                 replace hx214_1 := (HB.out.cell (World.block_lt_of_cell? w _ hx214_1)).trans hx214_1
                                 replace hx214_2 := (HB.out.cell (World.block_lt_of_cell? w _ hx214_2)).trans hx214_2
                                 replace p214 := eq_true p214
                                 replace q214 := eq_true q214
                                 have p215 : 0 ≤ (((rd_T68 ((rd_T58 ((rd_T55 l0_2 x10_3).f1) x11_4).f1) x13_6).f0) : Int) := of_decide_eq_true (by first | (with_reducible assumption) | assumption)
                                 have q215 : ((rd_T68 ((rd_T58 ((rd_T55 l0_2 x10_3).f1) x11_4).f1) x13_6).f0) < (t197.length : Int) := of_decide_eq_true (by first | (with_reducible assumption) | assumption)
                                 obtain ⟨ad215, e215, hx215_0, hx215_1, hx215_2, hx215_3⟩ := at_T63 (Kd.R_reads' HO_5.out).2.2 ((rd_T68 ((rd_T58 ((rd_T55 l0_2 x10_3).f1) x11_4).f1) x13_6).f0) p215 q215
                                 cases e215
                                 replace p215 := eq_true p215
                                 replace q215 := eq_true q215
                                 refine start_ (n := 11) (S := fun w' => w'.cell? ⟨gb204, 0, none⟩ = some (.int .u64 x205000_6) ∧ w'.cell? ⟨gb204, 1, none⟩ = some (.int .u64 x205001_6) ∧ w'.cell? ⟨gb204, 2, none⟩ = some (.int .u64 x205002_6) ∧ w'.cell? ⟨gb204, 3, none⟩ = some (.int .u64 x205003_6) ∧ w'.cell? (ad211.add ((x13_6).toNat * 3)) = some (.int .i64 ((rd_T68 ((rd_T58 ((rd_T55 l0_2 x10_3).f1) x11_4).f1) x13_6).f0)) ∧ w'.cell? ⟨(ad211.add ((x13_6).toNat * 3)).block, (ad211.add ((x13_6).toNat * 3)).off + 1, none⟩ = some (.int .i64 ((rd_T68 ((rd_T58 ((rd_T55 l0_2 x10_3).f1) x11_4).f1) x13_6).f1)) ∧ w'.cell? ⟨(ad211.add ((x13_6).toNat * 3)).block, (ad211.add ((x13_6).toNat * 3)).off + 2, none⟩ = some (.int .i64 ((rd_T68 ((rd_T58 ((rd_T55 l0_2 x10_3).f1) x11_4).f1) x13_6).f2)) ∧ w'.cell? (ad215.add ((((rd_T68 ((rd_T58 ((rd_T55 l0_2 x10_3).f1) x11_4).f1) x13_6).f0)).toNat * 4)) = some (.int .u64 ((rd_T63 t197 ((rd_T68 ((rd_T58 ((rd_T55 l0_2 x10_3).f1) x11_4).f1) x13_6).f0)).f0)) ∧ w'.cell? ⟨(ad215.add ((((rd_T68 ((rd_T58 ((rd_T55 l0_2 x10_3).f1) x11_4).f1) x13_6).f0)).toNat * 4)).block, (ad215.add ((((rd_T68 ((rd_T58 ((rd_T55 l0_2 x10_3).f1) x11_4).f1) x13_6).f0)).toNat * 4)).off + 1, none⟩ = some (.int .u64 ((rd_T63 t197 ((rd_T68 ((rd_T58 ((rd_T55 l0_2 x10_3).f1) x11_4).f1) x13_6).f0)).f1)) ∧ w'.cell? ⟨(ad215.add ((((rd_T68 ((rd_T58 ((rd_T55 l0_2 x10_3).f1) x11_4).f1) x13_6).f0)).toNat * 4)).block, (ad215.add ((((rd_T68 ((rd_T58 ((rd_T55 l0_2 x10_3).f1) x11_4).f1) x13_6).f0)).toNat * 4)).off + 2, none⟩ = some (.int .u64 ((rd_T63 t197 ((rd_T68 ((rd_T58 ((rd_T55 l0_2 x10_3).f1) x11_4).f1) x13_6).f0)).f2)) ∧ w'.cell? ⟨(ad215.add ((((rd_T68 ((rd_T58 ((rd_T55 l0_2 x10_3).f1) x11_4).f1) x13_6).f0)).toNat * 4)).block, (ad215.add ((((rd_T68 ((rd_T58 ((rd_T55 l0_2 x10_3).f1) x11_4).f1) x13_6).f0)).toNat * 4)).off + 3, none⟩ = some (.int .u64 ((rd_T63 t197 ((rd_T68 ((rd_T58 ((rd_T55 l0_2 x10_3).f1) x11_4).f1) x13_6).f0)).f3))) (ds := [10]) #[false, false, false, false, false, false, false, false, false, false, false] (by kernel_rfl) rfl rfl ⟨(blk_cell BK204.out 0).trans rfl, (blk_cell BK204.out 1).trans rfl, (blk_cell BK204.out 2).trans rfl, (blk_cell BK204.out 3).trans rfl, ((HB.out.cell (World.block_lt_of_cell? w _ hw214_0)).trans hw214_0), ((HB.out.cell (World.block_lt_of_cell? w _ hw214_1)).trans hw214_1), ((HB.out.cell (World.block_lt_of_cell? w _ hw214_2)).trans hw214_2), hx215_0, hx215_1, hx215_2, hx215_3⟩ (fun hHeld => ?_); refine with_tabW templelaw12_FirstsHold.tab23 templelaw12_FirstsHold.bits23 (fun HT_ HW_ => ?_)
                                 generalize wr.drew = w59 at HO_3 HO_5 BK191 BK204 HB hx214_0 hx214_1 hx214_2 hx215_0 hx215_1 hx215_2 hx215_3 hHeld ⊢
                                 refine pure_ (i := 1) (N := some 129) (v := ?_) (a' := ?_) #[false, true, false, false, false, false, false, false, false, false, false] rfl rfl (any_of HT_.out (by kernel_rfl)) (fun _ _ _ h => h) (Or.inl ⟨by rfl, ?_⟩) ?_ ?_
                                 rotate_left
                                 ·intro w'
                                  go_simp
                                  with_reducible rfl
                                 rotate_left
                                 ·simp only [Act.put, List.setIfInBounds_toArray, List.set_cons_zero, List.set_cons_succ, i64_w, i32_w]
                                  rfl
                                 refine pure_ (i := 2) (N := some 130) (v := ?_) (a' := ?_) #[false, true, true, false, false, false, false, false, false, false, false] rfl rfl (any_of HT_.out (by kernel_rfl)) (fun _ _ _ h => h) (Or.inl ⟨by rfl, ?_⟩) ?_ ?_
                                 rotate_left
                                 ·intro w'
                                  go_simp
                                  with_reducible rfl
                                 rotate_left
                                 ·simp only [Act.put, List.setIfInBounds_toArray, List.set_cons_zero, List.set_cons_succ, i64_w, i32_w]
                                  rfl
                                 refine pure_ (i := 3) (N := some 131) (v := ?_) (a' := ?_) #[false, true, true, true, false, false, false, false, false, false, false] rfl rfl (any_of HT_.out (by kernel_rfl)) (fun _ _ _ h => h) (Or.inl ⟨by rfl, ?_⟩) ?_ ?_
                                 rotate_left
                                 ·intro w'
                                  go_simp
                                  with_reducible rfl
                                 rotate_left
                                 ·simp only [Act.put, List.setIfInBounds_toArray, List.set_cons_zero, List.set_cons_succ, i64_w, i32_w]
                                  rfl
                                 refine pure_ (i := 4) (N := some 132) (v := ?_) (a' := ?_) #[false, true, true, true, true, false, false, false, false, false, false] rfl rfl (any_of HT_.out (by kernel_rfl)) (fun _ _ _ h => h) (Or.inl ⟨by rfl, ?_⟩) ?_ ?_
                                 rotate_left
                                 ·intro w'
                                  go_simp
                                  with_reducible rfl
                                 rotate_left
                                 ·simp only [Act.put, List.setIfInBounds_toArray, List.set_cons_zero, List.set_cons_succ, i64_w, i32_w]
                                  rfl
                                 refine pure_ (i := 5) (N := some 133) (v := ?_) (a' := ?_) #[false, true, true, true, true, true, false, false, false, false, false] rfl rfl (any_of HT_.out (by kernel_rfl)) (fun _ _ _ h => h) (Or.inl ⟨by rfl, ?_⟩) ?_ ?_
                                 rotate_left
                                 ·intro w'
                                  go_simp
                                  with_reducible rfl
                                 rotate_left
                                 ·simp only [Act.put, List.setIfInBounds_toArray, List.set_cons_zero, List.set_cons_succ, i64_w, i32_w]
                                  rfl
                                 refine take_ (i := 0) (N := some 128) (v := ?_) (a' := ?_) #[true, true, true, true, true, true, false, false, false, false, false] rfl rfl (take_ofW HT_.out HW_.out (by kernel_rfl)) (fun _ _ _ h => h) (Or.inl ⟨by rfl, ?_⟩) hHeld ?_ ?_
                                 rotate_left
                                 ·rintro w' ⟨s0, s1, s2, s3, s4, s5, s6, s7, s8, s9, s10⟩
                                  go_simp
                                  with_reducible rfl
                                 rotate_left
                                 ·simp only [Act.put, List.setIfInBounds_toArray, List.set_cons_zero, List.set_cons_succ, i64_w, i32_w]
                                  rfl
                                 refine take_ (i := 6) (N := some 134) (v := ?_) (a' := ?_) #[true, true, true, true, true, true, true, false, false, false, false] rfl rfl (take_ofW HT_.out HW_.out (by kernel_rfl)) (fun _ _ _ h => h) (Or.inl ⟨by rfl, ?_⟩) hHeld ?_ ?_
                                 rotate_left
                                 ·rintro w' ⟨s0, s1, s2, s3, s4, s5, s6, s7, s8, s9, s10⟩
                                  go_simp
                                  with_reducible rfl
                                 rotate_left
                                 ·simp only [Act.put, List.setIfInBounds_toArray, List.set_cons_zero, List.set_cons_succ, i64_w, i32_w]
                                  rfl
                                 refine pure_ (i := 7) (N := some 135) (v := ?_) (a' := ?_) #[true, true, true, true, true, true, true, true, false, false, false] rfl rfl (any_of HT_.out (by kernel_rfl)) (fun _ _ _ h => h) (Or.inl ⟨by rfl, ?_⟩) ?_ ?_
                                 rotate_left
                                 ·intro w'
                                  go_simp
                                  with_reducible rfl
                                 rotate_left
                                 ·simp only [Act.put, List.setIfInBounds_toArray, List.set_cons_zero, List.set_cons_succ, i64_w, i32_w]
                                  rfl
                                 refine take_ (i := 8) (N := some 136) (v := ?_) (a' := ?_) #[true, true, true, true, true, true, true, true, true, false, false] rfl rfl (take_ofW HT_.out HW_.out (by kernel_rfl)) (fun _ _ _ h => h) (Or.inl ⟨by rfl, ?_⟩) hHeld ?_ ?_
                                 rotate_left
                                 ·rintro w' ⟨s0, s1, s2, s3, s4, s5, s6, s7, s8, s9, s10⟩
                                  go_simp
                                  with_reducible rfl
                                 rotate_left
                                 ·simp only [Act.put, List.setIfInBounds_toArray, List.set_cons_zero, List.set_cons_succ, i64_w, i32_w]
                                  rfl
                                 refine one_ (i := 9) (N := some 137) #[true, true, true, true, true, true, true, true, true, true, false] rfl rfl (one_of HT_.out (by kernel_rfl)) (by decide) (fun K hK => ?_)
                                 refine goes_ Try.func26 (by kernel_rfl) rfl #[.int .i64 0, .agg #[.int .u64 x205000_6, .int .u64 x205001_6, .int .u64 x205002_6, .int .u64 x205003_6], .agg #[.int .u64 ((rd_T63 t197 ((rd_T68 ((rd_T58 ((rd_T55 l0_2 x10_3).f1) x11_4).f1) x13_6).f0)).f0), .int .u64 ((rd_T63 t197 ((rd_T68 ((rd_T58 ((rd_T55 l0_2 x10_3).f1) x11_4).f1) x13_6).f0)).f1), .int .u64 ((rd_T63 t197 ((rd_T68 ((rd_T58 ((rd_T55 l0_2 x10_3).f1) x11_4).f1) x13_6).f0)).f2), .int .u64 ((rd_T63 t197 ((rd_T68 ((rd_T58 ((rd_T55 l0_2 x10_3).f1) x11_4).f1) x13_6).f0)).f3)]] (by rfl) rfl rfl (by (try simp only [List.map_toArray, List.map_cons, List.map_nil]); first | done | rfl | (simp only [List.length_drop, List.length_take]; rfl)) ?_
                                 with_reducible refine (templeref1_Mix.calls 0 x205000_6 x205001_6 x205002_6 x205003_6 ((rd_T63 t197 ((rd_T68 ((rd_T58 ((rd_T55 l0_2 x10_3).f1) x11_4).f1) x13_6).f0)).f0) ((rd_T63 t197 ((rd_T68 ((rd_T58 ((rd_T55 l0_2 x10_3).f1) x11_4).f1) x13_6).f0)).f1) ((rd_T63 t197 ((rd_T68 ((rd_T58 ((rd_T55 l0_2 x10_3).f1) x11_4).f1) x13_6).f0)).f2) ((rd_T63 t197 ((rd_T68 ((rd_T58 ((rd_T55 l0_2 x10_3).f1) x11_4).f1) x13_6).f0)).f3) t216 t217 t218 t219 _ A58.out).mono ?_
                                 rintro e w60 ⟨rfl, hb⟩
                                 have HS7_ := (hb.cell (World.block_lt_of_cell? _ _ (hHeld.2.2.2.2.2.2.2.1))).trans (hHeld.2.2.2.2.2.2.2.1)
                                 have HS8_ := (hb.cell (World.block_lt_of_cell? _ _ (hHeld.2.2.2.2.2.2.2.2.1))).trans (hHeld.2.2.2.2.2.2.2.2.1)
                                 have HS9_ := (hb.cell (World.block_lt_of_cell? _ _ (hHeld.2.2.2.2.2.2.2.2.2.1))).trans (hHeld.2.2.2.2.2.2.2.2.2.1)
                                 have HS10_ := (hb.cell (World.block_lt_of_cell? _ _ (hHeld.2.2.2.2.2.2.2.2.2.2))).trans (hHeld.2.2.2.2.2.2.2.2.2.2)
                                 refine ⟨_, rfl, ?_⟩
                                 have n0_ := Aside0.mk (Kd.R_below (by (with_reducible repeat (first | apply Kd.R_alloc | apply Kd.R_drewN | apply Kd.R_drew)); exact HO_3.out) hb)
                                 have n1_ := Aside0.mk (Kd.R_below (by (with_reducible repeat (first | apply Kd.R_alloc | apply Kd.R_drewN | apply Kd.R_drew)); exact HO_5.out) hb)
                                 have n2_ := Aside0.mk (blk_below (g := gb191) (o := .cells #[.int .i64 a0_0, .slice A0_1 l0_1.length c0_1, .slice (some ad209) l0_2.length c0_2] 25 (0, 0)) (by (with_reducible repeat (first | refine blk_drewN ?_ _ | refine blk_drew ?_ | refine blk_alloc ?_ _)); exact BK191.out) hb)
                                 have n3_ := Aside0.mk (blk_below (g := gb204) (o := .cells #[.int .u64 x205000_6, .int .u64 x205001_6, .int .u64 x205002_6, .int .u64 x205003_6] 63 (0, 0)) (by (with_reducible repeat (first | refine blk_drewN ?_ _ | refine blk_drew ?_ | refine blk_alloc ?_ _)); exact BK204.out) hb)
                                 have n4_ := Aside0.mk (below_step (by repeat (first | (with_reducible first | exact HB.out | apply below_alloc | apply pw_below_drewN | apply below_drew1 | refine below_set ?_ GE191.out | refine below_set ?_ GE204.out) | exact HB.out)) hb)
                                 clear HO_3
                                 clear HO_5
                                 clear BK191
                                 clear BK204
                                 clear HB
                                 have HO_3 := n0_
                                 have HO_5 := n1_
                                 have BK191 := n2_
                                 have BK204 := n3_
                                 have HB := n4_
                                 clear n0_ n1_ n2_ n3_ n4_
                                 (try clear hb)
                                 (try clear hb2)
                                 (try clear hk)
                                 (try clear hi)
                                 refine hK.out _ _ ⟨(blk_cell BK204.out 0).trans rfl, (blk_cell BK204.out 1).trans rfl, (blk_cell BK204.out 2).trans rfl, (blk_cell BK204.out 3).trans rfl, ((HB.out.cell (World.block_lt_of_cell? w _ hw214_0)).trans hw214_0), ((HB.out.cell (World.block_lt_of_cell? w _ hw214_1)).trans hw214_1), ((HB.out.cell (World.block_lt_of_cell? w _ hw214_2)).trans hw214_2), HS7_, HS8_, HS9_, HS10_⟩ (fun hHeld => ?_)
                                 clear hK K
                                 refine norm_ (a' := ?_) ?_ ?_
                                 rotate_left
                                 ·show Act.put _ (some 137) _ = _
                                  simp only [Act.put, List.setIfInBounds_toArray, List.set_cons_zero, List.set_cons_succ, i64_w, i32_w]
                                  rfl
                                 refine last_ (i := 10) (N := none) #[true, true, true, true, true, true, true, true, true, true, true] rfl rfl (one_of HT_.out (by kernel_rfl)) (by decide) (fun K hK => ?_)
                                 have hs61 : w60.cell? ⟨gb204, 0, none⟩ = some (.int .u64 x205000_6) := (blk_cell BK204.out 0).trans rfl
                                 have hfs61 := blk_frozen BK204.out 0
                                 have hns61_0 := NB191_204.out
                                 have hms61_0 := NB204_191.out
                                 have hs62 : w60.cell? ⟨gb204, 1, none⟩ = some (.int .u64 x205001_6) := (blk_cell BK204.out 1).trans rfl
                                 have hfs62 := blk_frozen BK204.out 1
                                 have hns62_0 := NB191_204.out
                                 have hms62_0 := NB204_191.out
                                 have hs63 : w60.cell? ⟨gb204, 2, none⟩ = some (.int .u64 x205002_6) := (blk_cell BK204.out 2).trans rfl
                                 have hfs63 := blk_frozen BK204.out 2
                                 have hns63_0 := NB191_204.out
                                 have hms63_0 := NB204_191.out
                                 have hs64 : w60.cell? ⟨gb204, 3, none⟩ = some (.int .u64 x205003_6) := (blk_cell BK204.out 3).trans rfl
                                 have hfs64 := blk_frozen BK204.out 3
                                 have hns64_0 := NB191_204.out
                                 have hms64_0 := NB204_191.out
                                 refine skip_ (w1 := ?_) (by rfl) rfl ?_ ?_
                                 rotate_left
                                 ·go_simp
                                  rfl
                                 refine hK.out _ _ ?_
                                 clear hK K
                                 refine done_ (done_of HT_.out (by kernel_rfl)) ?_
                                 try go_wp2
                                 go_roundg k6
                                 case measure => have := HJ5.out; have := HK2.out; have := HK3.out; have := HK4.out; have := HJ33.out; have := HK6.out; omega
                                 case rel => exact ⟨(wrap64 (x13_6 + 1)), (t216), (t217), (t218), (t219), (by first | rfl | (simp; done) | (simp [i64_w]; done) | (simp [*]; done) | (simp [*, i64_w]; done) | (simp [*]; unfold wrap64; omega)), H', ⟨by have := HJ5.out; have := HK2.out; have := HK3.out; have := HK4.out; have := HJ33.out; have := HK6.out; omega⟩, ⟨by (with_reducible repeat (first | apply Kd.R_alloc | apply Kd.R_drewN | apply Kd.R_drew)); exact Kd.R_mono (Kd.R_far (p := ⟨gb204, 3, none⟩) (Kd.R_far (p := ⟨gb204, 2, none⟩) (Kd.R_far (p := ⟨gb204, 1, none⟩) (Kd.R_far (p := ⟨gb204, 0, none⟩) (Kd.R_types HO_3.out BK204.out (by decide)) (fun _ hk => hk.2) (.int .u64 t216)) (fun _ hk => hk.2) (.int .u64 t217)) (fun _ hk => hk.2) (.int .u64 t218)) (fun _ hk => hk.2) (.int .u64 t219)) (fun _ hk => trivial)⟩, ⟨by (with_reducible repeat (first | apply Kd.R_alloc | apply Kd.R_drewN | apply Kd.R_drew)); exact Kd.R_mono (Kd.R_far (p := ⟨gb204, 3, none⟩) (Kd.R_far (p := ⟨gb204, 2, none⟩) (Kd.R_far (p := ⟨gb204, 1, none⟩) (Kd.R_far (p := ⟨gb204, 0, none⟩) (Kd.R_mono HO_5.out (fun k_ hk => (⟨hk, hk⟩ : _ ∧ k_ ≠ gb204))) (fun _ hk => hk.2) (.int .u64 t216)) (fun _ hk => hk.2) (.int .u64 t217)) (fun _ hk => hk.2) (.int .u64 t218)) (fun _ hk => hk.2) (.int .u64 t219)) (fun _ hk => hk.1)⟩, ⟨by (with_reducible repeat (first | refine blk_drewN ?_ _ | refine blk_drew ?_ | refine blk_alloc ?_ _)); refine blk_far ?_ NB191_204.out _; (with_reducible repeat (first | refine blk_drewN ?_ _ | refine blk_drew ?_ | refine blk_alloc ?_ _)); refine blk_far ?_ NB191_204.out _; (with_reducible repeat (first | refine blk_drewN ?_ _ | refine blk_drew ?_ | refine blk_alloc ?_ _)); refine blk_far ?_ NB191_204.out _; (with_reducible repeat (first | refine blk_drewN ?_ _ | refine blk_drew ?_ | refine blk_alloc ?_ _)); refine blk_far ?_ NB191_204.out _; (with_reducible repeat (first | refine blk_drewN ?_ _ | refine blk_drew ?_ | refine blk_alloc ?_ _)); exact BK191.out⟩, ⟨by (with_reducible repeat (first | refine blk_drewN ?_ _ | refine blk_drew ?_ | refine blk_alloc ?_ _)); refine blk_put (cs := #[.int .u64 t216, .int .u64 t217, .int .u64 t218, .int .u64 x205003_6]) ?_ 3 _ rfl; (with_reducible repeat (first | refine blk_drewN ?_ _ | refine blk_drew ?_ | refine blk_alloc ?_ _)); refine blk_put (cs := #[.int .u64 t216, .int .u64 t217, .int .u64 x205002_6, .int .u64 x205003_6]) ?_ 2 _ rfl; (with_reducible repeat (first | refine blk_drewN ?_ _ | refine blk_drew ?_ | refine blk_alloc ?_ _)); refine blk_put (cs := #[.int .u64 t216, .int .u64 x205001_6, .int .u64 x205002_6, .int .u64 x205003_6]) ?_ 1 _ rfl; (with_reducible repeat (first | refine blk_drewN ?_ _ | refine blk_drew ?_ | refine blk_alloc ?_ _)); refine blk_put (cs := #[.int .u64 x205000_6, .int .u64 x205001_6, .int .u64 x205002_6, .int .u64 x205003_6]) ?_ 0 _ rfl; (with_reducible repeat (first | refine blk_drewN ?_ _ | refine blk_drew ?_ | refine blk_alloc ?_ _)); exact BK204.out⟩, ⟨by repeat (first | (with_reducible first | exact HB.out | apply below_alloc | apply pw_below_drewN | apply below_drew1 | refine below_set ?_ GE191.out | refine below_set ?_ GE204.out) | exact HB.out)⟩⟩
                                ·rw [if_neg c57] at H
                                 exact absurd H (by simp)
                               ·replace c56 := Bool.eq_false_iff.mpr c56
                                subst c56
                                have H1 := H
                                rw [if_neg (show ¬ (false = true) by decide)] at H1
                                clear H
                                have H := H1
                                clear H1
                                have H' := Aside0.mk H
                                clear H
                                have p211 : 0 ≤ (x13_6 : Int) := of_decide_eq_true (by first | (with_reducible assumption) | assumption)
                                have q211 : x13_6 < (((rd_T58 ((rd_T55 l0_2 x10_3).f1) x11_4).f1).length : Int) := of_decide_eq_true (by first | (with_reducible assumption) | assumption)
                                obtain ⟨ad211, e211, hx211_0, hx211_1, hx211_2⟩ := at_T68 HR210_1.out x13_6 p211 q211
                                cases e211
                                replace hx211_0 := (HB.out.cell (World.block_lt_of_cell? w _ hx211_0)).trans hx211_0
                                replace hx211_1 := (HB.out.cell (World.block_lt_of_cell? w _ hx211_1)).trans hx211_1
                                replace hx211_2 := (HB.out.cell (World.block_lt_of_cell? w _ hx211_2)).trans hx211_2
                                replace p211 := eq_true p211
                                replace q211 := eq_true q211
                                have p212 : 0 ≤ (x13_6 : Int) := of_decide_eq_true (by first | (with_reducible assumption) | assumption)
                                have q212 : x13_6 < (((rd_T58 ((rd_T55 l0_2 x10_3).f1) x11_4).f1).length : Int) := of_decide_eq_true (by first | (with_reducible assumption) | assumption)
                                obtain ⟨ad212, e212, hx212_0, hx212_1, hx212_2⟩ := at_T68 HR210_1.out x13_6 p212 q212
                                obtain rfl : ad211 = ad212 := (by injection e212)
                                replace hx212_0 := (HB.out.cell (World.block_lt_of_cell? w _ hx212_0)).trans hx212_0
                                replace hx212_1 := (HB.out.cell (World.block_lt_of_cell? w _ hx212_1)).trans hx212_1
                                replace hx212_2 := (HB.out.cell (World.block_lt_of_cell? w _ hx212_2)).trans hx212_2
                                replace p212 := eq_true p212
                                replace q212 := eq_true q212
                                have p213 : 0 ≤ (((rd_T68 ((rd_T58 ((rd_T55 l0_2 x10_3).f1) x11_4).f1) x13_6).f0) : Int) := of_decide_eq_true (by first | (with_reducible assumption) | assumption)
                                have q213 : ((rd_T68 ((rd_T58 ((rd_T55 l0_2 x10_3).f1) x11_4).f1) x13_6).f0) < (t193.length : Int) := of_decide_eq_true (by first | (with_reducible assumption) | assumption)
                                obtain ⟨ad213, e213, hx213_0⟩ := Kd.at_bool (Kd.R_reads' HO_3.out).2.2 ((rd_T68 ((rd_T58 ((rd_T55 l0_2 x10_3).f1) x11_4).f1) x13_6).f0) p213 q213
                                (try rw [← Nbq55.out] at hx213_0)
                                cases e213
                                replace p213 := eq_true p213
                                replace q213 := eq_true q213
                                go_wp2
                                go_meet
                                case rel => exact ⟨_, (x13_6), (x205000_6), (x205001_6), (x205002_6), (x205003_6), (by first | rfl | (simp; done) | (simp [i64_w]; done) | (simp [*]; done) | (simp [*, i64_w]; done) | (simp [*]; unfold wrap64; omega)), H', ⟨by have := HJ5.out; have := HK2.out; have := HK3.out; have := HK4.out; have := HJ33.out; have := HK6.out; first | omega | exact Nat.le_refl _⟩, ⟨by (with_reducible repeat (first | apply Kd.R_alloc | apply Kd.R_drewN | apply Kd.R_drew)); exact HO_3.out⟩, ⟨by (with_reducible repeat (first | apply Kd.R_alloc | apply Kd.R_drewN | apply Kd.R_drew)); exact HO_5.out⟩, ⟨by (with_reducible repeat (first | refine blk_drewN ?_ _ | refine blk_drew ?_ | refine blk_alloc ?_ _)); exact BK191.out⟩, ⟨by (with_reducible repeat (first | refine blk_drewN ?_ _ | refine blk_drew ?_ | refine blk_alloc ?_ _)); exact BK204.out⟩, ⟨by repeat (first | (with_reducible first | exact HB.out | apply below_alloc | apply pw_below_drewN | apply below_drew1 | refine below_set ?_ GE191.out | refine below_set ?_ GE204.out) | exact HB.out)⟩⟩
                              ·rw [if_neg c54] at H
                               exact absurd H (by simp)
                             ·rw [if_neg c53] at H
                              exact absurd H (by simp)
                            ·rw [if_neg c52] at H
                             have c52b0 : decide (0 ≤ ((rd_T68 ((rd_T58 ((rd_T55 l0_2 x10_3).f1) x11_4).f1) x13_6).f0)) = false := decide_eq_false c52
                             clear c52
                             have H' := Aside0.mk H
                             clear H
                             have p211 : 0 ≤ (x13_6 : Int) := of_decide_eq_true (by first | (with_reducible assumption) | assumption)
                             have q211 : x13_6 < (((rd_T58 ((rd_T55 l0_2 x10_3).f1) x11_4).f1).length : Int) := of_decide_eq_true (by first | (with_reducible assumption) | assumption)
                             obtain ⟨ad211, e211, hx211_0, hx211_1, hx211_2⟩ := at_T68 HR210_1.out x13_6 p211 q211
                             cases e211
                             replace hx211_0 := (HB.out.cell (World.block_lt_of_cell? w _ hx211_0)).trans hx211_0
                             replace hx211_1 := (HB.out.cell (World.block_lt_of_cell? w _ hx211_1)).trans hx211_1
                             replace hx211_2 := (HB.out.cell (World.block_lt_of_cell? w _ hx211_2)).trans hx211_2
                             replace p211 := eq_true p211
                             replace q211 := eq_true q211
                             go_wp2
                             go_meet
                             case rel => exact ⟨_, (x13_6), (x205000_6), (x205001_6), (x205002_6), (x205003_6), (by first | rfl | (simp; done) | (simp [i64_w]; done) | (simp [*]; done) | (simp [*, i64_w]; done) | (simp [*]; unfold wrap64; omega)), H', ⟨by have := HJ5.out; have := HK2.out; have := HK3.out; have := HK4.out; have := HJ33.out; have := HK6.out; first | omega | exact Nat.le_refl _⟩, ⟨by (with_reducible repeat (first | apply Kd.R_alloc | apply Kd.R_drewN | apply Kd.R_drew)); exact HO_3.out⟩, ⟨by (with_reducible repeat (first | apply Kd.R_alloc | apply Kd.R_drewN | apply Kd.R_drew)); exact HO_5.out⟩, ⟨by (with_reducible repeat (first | refine blk_drewN ?_ _ | refine blk_drew ?_ | refine blk_alloc ?_ _)); exact BK191.out⟩, ⟨by (with_reducible repeat (first | refine blk_drewN ?_ _ | refine blk_drew ?_ | refine blk_alloc ?_ _)); exact BK204.out⟩, ⟨by repeat (first | (with_reducible first | exact HB.out | apply below_alloc | apply pw_below_drewN | apply below_drew1 | refine below_set ?_ GE191.out | refine below_set ?_ GE204.out) | exact HB.out)⟩⟩
                           ·rw [if_neg c51] at H
                            exact absurd H (by simp)
                          ·rw [if_neg c50] at H
                           have c50b0 : decide (x13_6 < (((rd_T58 ((rd_T55 l0_2 x10_3).f1) x11_4).f1).length : Int)) = false := decide_eq_false c50
                           clear c50
                           (first | rw [c50b0] | (simp only [i64_w, i32_w]; rw [c50b0]) | skip)
                           have H' := Aside0.mk H
                           clear H
                           go_wp2
                           go_meet
                           case rel => exact ⟨_, (x13_6), (x205000_6), (x205001_6), (x205002_6), (x205003_6), (by first | rfl | (simp; done) | (simp [i64_w]; done) | (simp [*]; done) | (simp [*, i64_w]; done) | (simp [*]; unfold wrap64; omega)), H', ⟨by have := HJ5.out; have := HK2.out; have := HK3.out; have := HK4.out; have := HJ33.out; have := HK6.out; first | omega | exact Nat.le_refl _⟩, ⟨by (with_reducible repeat (first | apply Kd.R_alloc | apply Kd.R_drewN | apply Kd.R_drew)); exact HO_3.out⟩, ⟨by (with_reducible repeat (first | apply Kd.R_alloc | apply Kd.R_drewN | apply Kd.R_drew)); exact HO_5.out⟩, ⟨by (with_reducible repeat (first | refine blk_drewN ?_ _ | refine blk_drew ?_ | refine blk_alloc ?_ _)); exact BK191.out⟩, ⟨by (with_reducible repeat (first | refine blk_drewN ?_ _ | refine blk_drew ?_ | refine blk_alloc ?_ _)); exact BK204.out⟩, ⟨by repeat (first | (with_reducible first | exact HB.out | apply below_alloc | apply pw_below_drewN | apply below_drew1 | refine below_set ?_ GE191.out | refine below_set ?_ GE204.out) | exact HB.out)⟩⟩
                       case rest => as_aux_lemma =>
                        clear HC47
                        try clear c1
                        try clear c2
                        try clear p2
                        try clear q2
                        try clear hx2
                        try clear c3
                        try clear c4
                        try clear c5
                        try clear q5
                        try clear c6
                        try clear p6
                        try clear c10
                        try clear c12
                        try clear c14
                        try clear c14b0
                        try clear c14b1
                        try clear c16
                        try clear c17
                        try clear c20
                        try clear p20
                        try clear q20
                        try clear hx20
                        try clear c21
                        try clear c21b0
                        try clear c21b1
                        try clear c21b2
                        try clear p21
                        try clear q21
                        try clear hx21
                        try clear c22
                        try clear c22b0
                        try clear c22b1
                        try clear c22b2
                        try clear c25
                        try clear c26
                        try clear c28
                        try clear c28b0
                        try clear c31
                        try clear c31b0
                        try clear c32
                        try clear c35
                        try clear c35b0
                        try clear c36
                        try clear c36b0
                        try clear c37
                        try clear c37b0
                        try clear c38
                        try clear c40
                        try clear c42
                        try clear c43
                        try clear c43b0
                        try clear c44
                        try clear c44b0
                        try clear c45
                        try clear c45b0
                        try clear c46
                        try clear c46b0
                        try clear c48
                        try clear c50
                        try clear c50b0
                        try clear c51
                        try clear c51b0
                        try clear c52
                        try clear c52b0
                        try clear c53
                        try clear c53b0
                        try clear c54
                        try clear c54b0
                        try clear q55
                        try clear c56
                        try clear c57
                        try clear c57b0
                        try clear p64
                        try clear hcz11_0
                        try clear hcz11_1
                        try clear hcz11_2
                        try clear hcz23_0
                        try clear hcz23_1
                        try clear hcz23_2
                        try clear hcz26_0
                        try clear hcz26_1
                        try clear hcz26_2
                        try clear hcz29_0
                        try clear hcz29_1
                        try clear hcz29_2
                        try clear hcz33_0
                        try clear hcz33_1
                        try clear hcz33_2
                        try clear hcz39_0
                        try clear hcz39_1
                        try clear hcz39_2
                        try clear hcz41_0
                        try clear hcz41_1
                        try clear hcz41_2
                        try clear hcz49_0
                        try clear hcz49_1
                        try clear hcz49_2
                        try clear hcz9_0
                        try clear hcz9_1
                        try clear hcz9_2
                        try clear hfz11_0
                        try clear hfz11_1
                        try clear hfz11_2
                        try clear hfz23_0
                        try clear hfz23_1
                        try clear hfz23_2
                        try clear hfz26_0
                        try clear hfz26_1
                        try clear hfz26_2
                        try clear hfz29_0
                        try clear hfz29_1
                        try clear hfz29_2
                        try clear hfz33_0
                        try clear hfz33_1
                        try clear hfz33_2
                        try clear hfz39_0
                        try clear hfz39_1
                        try clear hfz39_2
                        try clear hfz41_0
                        try clear hfz41_1
                        try clear hfz41_2
                        try clear hfz49_0
                        try clear hfz49_1
                        try clear hfz49_2
                        try clear hfz9_0
                        try clear hfz9_1
                        try clear hfz9_2
                        try clear hx207_0
                        try clear hx207_1
                        try clear hx208_0
                        try clear hx208_1
                        try clear hx209_0
                        try clear hx209_1
                        try clear hx210_0
                        try clear hx210_1
                        try clear hx211_0
                        try clear hx211_1
                        try clear hx211_2
                        try clear hx212_0
                        try clear hx212_1
                        try clear hx212_2
                        try clear hx213_0
                        try clear hx214_0
                        try clear hx214_1
                        try clear hx214_2
                        try clear hx215_0
                        try clear hx215_1
                        try clear hx215_2
                        try clear hx215_3
                        try clear p2
                        try clear p20
                        try clear p207
                        try clear p208
                        try clear p209
                        try clear p21
                        try clear p210
                        try clear p211
                        try clear p212
                        try clear p213
                        try clear p214
                        try clear p215
                        try clear p6
                        try clear q2
                        try clear q20
                        try clear q207
                        try clear q208
                        try clear q209
                        try clear q21
                        try clear q210
                        try clear q211
                        try clear q212
                        try clear q213
                        try clear q214
                        try clear q215
                        obtain ⟨kq, x13_46, x205000_46, x205001_46, x205002_46, x205003_46, rfl, HA, HJ46, HO_3, HO_5, BK191, BK204, HB⟩ := hcut
                        cases kq with
                        | zero => exact absurd HA.out (by simp [templelaw12_FirstsHold.j6])
                        | succ kj46 =>
                         have H := HA.out
                         clear HA
                         simp only [templelaw12_FirstsHold.j6] at H
                         have HC65 := Aside0.mk H
                         clear H
                         go_upto_region 25 with (fail)
                         go_cut [8] (fun v8 wc => ∃ (kq : Nat) (x8_64 : Bool), v8 = .bool x8_64 ∧ Aside0 (templelaw12_FirstsHold.j7 kq t193 t197 x7_2 x8_64 x10_3 x11_4 ((rd_T58 ((rd_T55 l0_2 x10_3).f1) x11_4).f1) x13_46 a0_0 l0_1 l0_2 x205000_46 x205001_46 x205002_46 x205003_46 = some r) ∧ Aside0 (kq ≤ kj46) ∧ Aside0 (Kd.R Kd.bool 4 wc w.heap.size (fun _ => True) (.slice Ao25 t193.length co25) t193) ∧ Aside0 (Kd.R k63 63 wc w.heap.size (fun k_ => k_ ≠ gb204) (.slice Ao27 t197.length co27) t197) ∧ Aside0 (wc.heap[gb191]? = some (.cells #[.int .i64 a0_0, (.slice A0_1 l0_1.length c0_1), (.slice (some ad209) l0_2.length c0_2)] 25 (0, 0))) ∧ Aside0 (wc.heap[gb204]? = some (.cells #[.int .u64 x205000_46, .int .u64 x205001_46, .int .u64 x205002_46, .int .u64 x205003_46] 63 (0, 0))) ∧ Aside0 (Below w.heap.size w wc))
                         case first =>
                          have H := HC65.out
                          clear HC65
                          by_cases c66 : x8_4 = true
                          ·subst c66
                           have H1 : (templelaw12_FirstsHold.j7 kj46 t193 t197 x7_2 true x10_3 x11_4 ((rd_T58 ((rd_T55 l0_2 x10_3).f1) x11_4).f1) x13_46 a0_0 l0_1 l0_2 x205000_46 x205001_46 x205002_46 x205003_46) = some r := by rw [if_pos rfl] at H; exact H
                           clear H
                           have H := H1
                           clear H1
                           have H' := Aside0.mk H
                           clear H
                           go_wp2
                           go_meet
                           case rel => exact ⟨_, (true), (by first | rfl | (simp; done) | (simp [i64_w]; done) | (simp [*]; done) | (simp [*, i64_w]; done) | (simp [*]; unfold wrap64; omega)), H', ⟨by have := HJ5.out; have := HK2.out; have := HK3.out; have := HK4.out; have := HJ33.out; have := HJ46.out; first | omega | exact Nat.le_refl _⟩, ⟨by (with_reducible repeat (first | apply Kd.R_alloc | apply Kd.R_drewN | apply Kd.R_drew)); exact HO_3.out⟩, ⟨by (with_reducible repeat (first | apply Kd.R_alloc | apply Kd.R_drewN | apply Kd.R_drew)); exact HO_5.out⟩, ⟨by (with_reducible repeat (first | refine blk_drewN ?_ _ | refine blk_drew ?_ | refine blk_alloc ?_ _)); exact BK191.out⟩, ⟨by (with_reducible repeat (first | refine blk_drewN ?_ _ | refine blk_drew ?_ | refine blk_alloc ?_ _)); exact BK204.out⟩, ⟨by repeat (first | (with_reducible first | exact HB.out | apply below_alloc | apply pw_below_drewN | apply below_drew1 | refine below_set ?_ GE191.out | refine below_set ?_ GE204.out) | exact HB.out)⟩⟩
                          ·replace c66 := Bool.eq_false_iff.mpr c66
                           subst c66
                           have H1 := H
                           rw [if_neg (show ¬ (false = true) by decide)] at H1
                           clear H
                           have H := H1
                           clear H1
                           have H' := Aside0.mk H
                           clear H
                           go_wp2
                           go_meet
                           case rel => exact ⟨_, ((x13_46 == (((rd_T58 ((rd_T55 l0_2 x10_3).f1) x11_4).f1).length : Int))), (by first | rfl | (simp; done) | (simp [i64_w]; done) | (simp [*]; done) | (simp [*, i64_w]; done) | (simp [*]; unfold wrap64; omega)), H', ⟨by have := HJ5.out; have := HK2.out; have := HK3.out; have := HK4.out; have := HJ33.out; have := HJ46.out; first | omega | exact Nat.le_refl _⟩, ⟨by (with_reducible repeat (first | apply Kd.R_alloc | apply Kd.R_drewN | apply Kd.R_drew)); exact HO_3.out⟩, ⟨by (with_reducible repeat (first | apply Kd.R_alloc | apply Kd.R_drewN | apply Kd.R_drew)); exact HO_5.out⟩, ⟨by (with_reducible repeat (first | refine blk_drewN ?_ _ | refine blk_drew ?_ | refine blk_alloc ?_ _)); exact BK191.out⟩, ⟨by (with_reducible repeat (first | refine blk_drewN ?_ _ | refine blk_drew ?_ | refine blk_alloc ?_ _)); exact BK204.out⟩, ⟨by repeat (first | (with_reducible first | exact HB.out | apply below_alloc | apply pw_below_drewN | apply below_drew1 | refine below_set ?_ GE191.out | refine below_set ?_ GE204.out) | exact HB.out)⟩⟩
                         case rest => as_aux_lemma =>
                          clear HC65
                          try clear c1
                          try clear c2
                          try clear p2
                          try clear q2
                          try clear hx2
                          try clear c3
                          try clear c4
                          try clear c5
                          try clear q5
                          try clear c6
                          try clear p6
                          try clear c10
                          try clear c12
                          try clear c14
                          try clear c14b0
                          try clear c14b1
                          try clear c16
                          try clear c17
                          try clear c20
                          try clear p20
                          try clear q20
                          try clear hx20
                          try clear c21
                          try clear c21b0
                          try clear c21b1
                          try clear c21b2
                          try clear p21
                          try clear q21
                          try clear hx21
                          try clear c22
                          try clear c22b0
                          try clear c22b1
                          try clear c22b2
                          try clear c25
                          try clear c26
                          try clear c28
                          try clear c28b0
                          try clear c31
                          try clear c31b0
                          try clear c32
                          try clear c35
                          try clear c35b0
                          try clear c36
                          try clear c36b0
                          try clear c37
                          try clear c37b0
                          try clear c38
                          try clear c40
                          try clear c42
                          try clear c43
                          try clear c43b0
                          try clear c44
                          try clear c44b0
                          try clear c45
                          try clear c45b0
                          try clear c46
                          try clear c46b0
                          try clear c48
                          try clear c50
                          try clear c50b0
                          try clear c51
                          try clear c51b0
                          try clear c52
                          try clear c52b0
                          try clear c53
                          try clear c53b0
                          try clear c54
                          try clear c54b0
                          try clear q55
                          try clear c56
                          try clear c57
                          try clear c57b0
                          try clear p64
                          try clear c66
                          try clear hcz11_0
                          try clear hcz11_1
                          try clear hcz11_2
                          try clear hcz23_0
                          try clear hcz23_1
                          try clear hcz23_2
                          try clear hcz26_0
                          try clear hcz26_1
                          try clear hcz26_2
                          try clear hcz29_0
                          try clear hcz29_1
                          try clear hcz29_2
                          try clear hcz33_0
                          try clear hcz33_1
                          try clear hcz33_2
                          try clear hcz39_0
                          try clear hcz39_1
                          try clear hcz39_2
                          try clear hcz41_0
                          try clear hcz41_1
                          try clear hcz41_2
                          try clear hcz49_0
                          try clear hcz49_1
                          try clear hcz49_2
                          try clear hcz9_0
                          try clear hcz9_1
                          try clear hcz9_2
                          try clear hfz11_0
                          try clear hfz11_1
                          try clear hfz11_2
                          try clear hfz23_0
                          try clear hfz23_1
                          try clear hfz23_2
                          try clear hfz26_0
                          try clear hfz26_1
                          try clear hfz26_2
                          try clear hfz29_0
                          try clear hfz29_1
                          try clear hfz29_2
                          try clear hfz33_0
                          try clear hfz33_1
                          try clear hfz33_2
                          try clear hfz39_0
                          try clear hfz39_1
                          try clear hfz39_2
                          try clear hfz41_0
                          try clear hfz41_1
                          try clear hfz41_2
                          try clear hfz49_0
                          try clear hfz49_1
                          try clear hfz49_2
                          try clear hfz9_0
                          try clear hfz9_1
                          try clear hfz9_2
                          try clear hx207_0
                          try clear hx207_1
                          try clear hx208_0
                          try clear hx208_1
                          try clear hx209_0
                          try clear hx209_1
                          try clear hx210_0
                          try clear hx210_1
                          try clear hx211_0
                          try clear hx211_1
                          try clear hx211_2
                          try clear hx212_0
                          try clear hx212_1
                          try clear hx212_2
                          try clear hx213_0
                          try clear hx214_0
                          try clear hx214_1
                          try clear hx214_2
                          try clear hx215_0
                          try clear hx215_1
                          try clear hx215_2
                          try clear hx215_3
                          try clear p2
                          try clear p20
                          try clear p207
                          try clear p208
                          try clear p209
                          try clear p21
                          try clear p210
                          try clear p211
                          try clear p212
                          try clear p213
                          try clear p214
                          try clear p215
                          try clear p6
                          try clear p64
                          try clear q2
                          try clear q20
                          try clear q207
                          try clear q208
                          try clear q209
                          try clear q21
                          try clear q210
                          try clear q211
                          try clear q212
                          try clear q213
                          try clear q214
                          try clear q215
                          try clear q5
                          try clear q55
                          obtain ⟨kq, x8_64, rfl, HA, HJ64, HO_3, HO_5, BK191, BK204, HB⟩ := hcut
                          cases kq with
                          | zero => exact absurd HA.out (by simp [templelaw12_FirstsHold.j7])
                          | succ kj64 =>
                           have H := HA.out
                           clear HA
                           simp only [templelaw12_FirstsHold.j7] at H
                           have HC67 := Aside0.mk H
                           clear H
                           go_upto_region 26 with (fail)
                           go_cut [158] (fun v158 wc => ∃ (kq : Nat) (x158_66 : Bool), v158 = .bool x158_66 ∧ Aside0 (templelaw12_FirstsHold.j8 kq t193 t197 x7_2 x8_64 x10_3 x11_4 ((rd_T58 ((rd_T55 l0_2 x10_3).f1) x11_4).f1) x13_46 x158_66 a0_0 l0_1 l0_2 x205000_46 x205001_46 x205002_46 x205003_46 = some r) ∧ Aside0 (kq ≤ kj64) ∧ Aside0 (Kd.R Kd.bool 4 wc w.heap.size (fun _ => True) (.slice Ao25 t193.length co25) t193) ∧ Aside0 (Kd.R k63 63 wc w.heap.size (fun k_ => k_ ≠ gb204) (.slice Ao27 t197.length co27) t197) ∧ Aside0 (wc.heap[gb191]? = some (.cells #[.int .i64 a0_0, (.slice A0_1 l0_1.length c0_1), (.slice (some ad209) l0_2.length c0_2)] 25 (0, 0))) ∧ Aside0 (wc.heap[gb204]? = some (.cells #[.int .u64 x205000_46, .int .u64 x205001_46, .int .u64 x205002_46, .int .u64 x205003_46] 63 (0, 0))) ∧ Aside0 (Below w.heap.size w wc))
                           case first =>
                            have H := HC67.out
                            clear HC67
                            by_cases c68 : x13_46 < (((rd_T58 ((rd_T55 l0_2 x10_3).f1) x11_4).f1).length : Int)
                            ·rw [if_pos c68] at H
                             have c68b0 : decide (x13_46 < (((rd_T58 ((rd_T55 l0_2 x10_3).f1) x11_4).f1).length : Int)) = true := decide_eq_true c68
                             clear c68
                             (first | rw [c68b0] | (simp only [i64_w, i32_w]; rw [c68b0]) | skip)
                             by_cases c69 : 0 ≤ x13_46
                             ·rw [if_pos c69] at H
                              have c69b0 : decide (0 ≤ x13_46) = true := decide_eq_true c69
                              clear c69
                              have H' := Aside0.mk H
                              clear H
                              have p220 : 0 ≤ (x13_46 : Int) := of_decide_eq_true (by first | (with_reducible assumption) | assumption)
                              have q220 : x13_46 < (((rd_T58 ((rd_T55 l0_2 x10_3).f1) x11_4).f1).length : Int) := of_decide_eq_true (by first | (with_reducible assumption) | assumption)
                              obtain ⟨ad220, e220, hx220_0, hx220_1, hx220_2⟩ := at_T68 HR210_1.out x13_46 p220 q220
                              cases e220
                              replace hx220_0 := (HB.out.cell (World.block_lt_of_cell? w _ hx220_0)).trans hx220_0
                              replace hx220_1 := (HB.out.cell (World.block_lt_of_cell? w _ hx220_1)).trans hx220_1
                              replace hx220_2 := (HB.out.cell (World.block_lt_of_cell? w _ hx220_2)).trans hx220_2
                              replace p220 := eq_true p220
                              replace q220 := eq_true q220
                              go_wp2
                              go_meet
                              case rel => exact ⟨_, (decide (((rd_T68 ((rd_T58 ((rd_T55 l0_2 x10_3).f1) x11_4).f1) x13_46).f0) ≥ 0)), (by first | rfl | (simp; done) | (simp [i64_w]; done) | (simp [*]; done) | (simp [*, i64_w]; done) | (simp [*]; unfold wrap64; omega)), H', ⟨by have := HJ5.out; have := HK2.out; have := HK3.out; have := HK4.out; have := HJ33.out; have := HJ46.out; have := HJ64.out; first | omega | exact Nat.le_refl _⟩, ⟨by (with_reducible repeat (first | apply Kd.R_alloc | apply Kd.R_drewN | apply Kd.R_drew)); exact HO_3.out⟩, ⟨by (with_reducible repeat (first | apply Kd.R_alloc | apply Kd.R_drewN | apply Kd.R_drew)); exact HO_5.out⟩, ⟨by (with_reducible repeat (first | refine blk_drewN ?_ _ | refine blk_drew ?_ | refine blk_alloc ?_ _)); exact BK191.out⟩, ⟨by (with_reducible repeat (first | refine blk_drewN ?_ _ | refine blk_drew ?_ | refine blk_alloc ?_ _)); exact BK204.out⟩, ⟨by repeat (first | (with_reducible first | exact HB.out | apply below_alloc | apply pw_below_drewN | apply below_drew1 | refine below_set ?_ GE191.out | refine below_set ?_ GE204.out) | exact HB.out)⟩⟩
                             ·rw [if_neg c69] at H
                              exact absurd H (by simp)
                            ·rw [if_neg c68] at H
                             have c68b0 : decide (x13_46 < (((rd_T58 ((rd_T55 l0_2 x10_3).f1) x11_4).f1).length : Int)) = false := decide_eq_false c68
                             clear c68
                             (first | rw [c68b0] | (simp only [i64_w, i32_w]; rw [c68b0]) | skip)
                             have H' := Aside0.mk H
                             clear H
                             go_wp2
                             go_meet
                             case rel => exact ⟨_, (false), (by first | rfl | (simp; done) | (simp [i64_w]; done) | (simp [*]; done) | (simp [*, i64_w]; done) | (simp [*]; unfold wrap64; omega)), H', ⟨by have := HJ5.out; have := HK2.out; have := HK3.out; have := HK4.out; have := HJ33.out; have := HJ46.out; have := HJ64.out; first | omega | exact Nat.le_refl _⟩, ⟨by (with_reducible repeat (first | apply Kd.R_alloc | apply Kd.R_drewN | apply Kd.R_drew)); exact HO_3.out⟩, ⟨by (with_reducible repeat (first | apply Kd.R_alloc | apply Kd.R_drewN | apply Kd.R_drew)); exact HO_5.out⟩, ⟨by (with_reducible repeat (first | refine blk_drewN ?_ _ | refine blk_drew ?_ | refine blk_alloc ?_ _)); exact BK191.out⟩, ⟨by (with_reducible repeat (first | refine blk_drewN ?_ _ | refine blk_drew ?_ | refine blk_alloc ?_ _)); exact BK204.out⟩, ⟨by repeat (first | (with_reducible first | exact HB.out | apply below_alloc | apply pw_below_drewN | apply below_drew1 | refine below_set ?_ GE191.out | refine below_set ?_ GE204.out) | exact HB.out)⟩⟩
                           case rest => as_aux_lemma =>
                            clear HC67
                            try clear c1
                            try clear c2
                            try clear p2
                            try clear q2
                            try clear hx2
                            try clear c3
                            try clear c4
                            try clear c5
                            try clear q5
                            try clear c6
                            try clear p6
                            try clear c10
                            try clear c12
                            try clear c14
                            try clear c14b0
                            try clear c14b1
                            try clear c16
                            try clear c17
                            try clear c20
                            try clear p20
                            try clear q20
                            try clear hx20
                            try clear c21
                            try clear c21b0
                            try clear c21b1
                            try clear c21b2
                            try clear p21
                            try clear q21
                            try clear hx21
                            try clear c22
                            try clear c22b0
                            try clear c22b1
                            try clear c22b2
                            try clear p22
                            try clear q22
                            try clear hx22
                            try clear c25
                            try clear c26
                            try clear c28
                            try clear c28b0
                            try clear c31
                            try clear c31b0
                            try clear c32
                            try clear c35
                            try clear c35b0
                            try clear c36
                            try clear c36b0
                            try clear c37
                            try clear c37b0
                            try clear c38
                            try clear c40
                            try clear c42
                            try clear c43
                            try clear c43b0
                            try clear c44
                            try clear c44b0
                            try clear c45
                            try clear c45b0
                            try clear c46
                            try clear c46b0
                            try clear c48
                            try clear c50
                            try clear c50b0
                            try clear c51
                            try clear c51b0
                            try clear c52
                            try clear c52b0
                            try clear c53
                            try clear c53b0
                            try clear c54
                            try clear c54b0
                            try clear q55
                            try clear c56
                            try clear c57
                            try clear c57b0
                            try clear p64
                            try clear c66
                            try clear c68
                            try clear c68b0
                            try clear c69
                            try clear c69b0
                            try clear hcz11_0
                            try clear hcz11_1
                            try clear hcz11_2
                            try clear hcz23_0
                            try clear hcz23_1
                            try clear hcz23_2
                            try clear hcz26_0
                            try clear hcz26_1
                            try clear hcz26_2
                            try clear hcz29_0
                            try clear hcz29_1
                            try clear hcz29_2
                            try clear hcz33_0
                            try clear hcz33_1
                            try clear hcz33_2
                            try clear hcz39_0
                            try clear hcz39_1
                            try clear hcz39_2
                            try clear hcz41_0
                            try clear hcz41_1
                            try clear hcz41_2
                            try clear hcz49_0
                            try clear hcz49_1
                            try clear hcz49_2
                            try clear hcz9_0
                            try clear hcz9_1
                            try clear hcz9_2
                            try clear hfz11_0
                            try clear hfz11_1
                            try clear hfz11_2
                            try clear hfz23_0
                            try clear hfz23_1
                            try clear hfz23_2
                            try clear hfz26_0
                            try clear hfz26_1
                            try clear hfz26_2
                            try clear hfz29_0
                            try clear hfz29_1
                            try clear hfz29_2
                            try clear hfz33_0
                            try clear hfz33_1
                            try clear hfz33_2
                            try clear hfz39_0
                            try clear hfz39_1
                            try clear hfz39_2
                            try clear hfz41_0
                            try clear hfz41_1
                            try clear hfz41_2
                            try clear hfz49_0
                            try clear hfz49_1
                            try clear hfz49_2
                            try clear hfz9_0
                            try clear hfz9_1
                            try clear hfz9_2
                            try clear hx207_0
                            try clear hx207_1
                            try clear hx208_0
                            try clear hx208_1
                            try clear hx209_0
                            try clear hx209_1
                            try clear hx210_0
                            try clear hx210_1
                            try clear hx211_0
                            try clear hx211_1
                            try clear hx211_2
                            try clear hx212_0
                            try clear hx212_1
                            try clear hx212_2
                            try clear hx213_0
                            try clear hx214_0
                            try clear hx214_1
                            try clear hx214_2
                            try clear hx215_0
                            try clear hx215_1
                            try clear hx215_2
                            try clear hx215_3
                            try clear hx220_0
                            try clear hx220_1
                            try clear hx220_2
                            try clear p2
                            try clear p20
                            try clear p207
                            try clear p208
                            try clear p209
                            try clear p21
                            try clear p210
                            try clear p211
                            try clear p212
                            try clear p213
                            try clear p214
                            try clear p215
                            try clear p220
                            try clear p6
                            try clear p64
                            try clear q2
                            try clear q20
                            try clear q207
                            try clear q208
                            try clear q209
                            try clear q21
                            try clear q210
                            try clear q211
                            try clear q212
                            try clear q213
                            try clear q214
                            try clear q215
                            try clear q220
                            try clear q5
                            try clear q55
                            obtain ⟨kq, x158_66, rfl, HA, HJ66, HO_3, HO_5, BK191, BK204, HB⟩ := hcut
                            cases kq with
                            | zero => exact absurd HA.out (by simp [templelaw12_FirstsHold.j8])
                            | succ kj66 =>
                             have H := HA.out
                             clear HA
                             simp only [templelaw12_FirstsHold.j8] at H
                             have HC70 := Aside0.mk H
                             clear H
                             go_upto_if 158 with (fail)
                             go_cut [] (fun wc => ∃ (kq : Nat) (x205000_69 : Int) (x205001_69 : Int) (x205002_69 : Int) (x205003_69 : Int), Aside0 (templelaw12_FirstsHold.j9 kq t193 t197 x7_2 x8_64 x10_3 x11_4 ((rd_T58 ((rd_T55 l0_2 x10_3).f1) x11_4).f1) x13_46 a0_0 l0_1 l0_2 x205000_69 x205001_69 x205002_69 x205003_69 = some r) ∧ Aside0 (kq ≤ kj66) ∧ Aside0 (Kd.R Kd.bool 4 wc w.heap.size (fun _ => True) (.slice Ao25 t193.length co25) t193) ∧ Aside0 (Kd.R k63 63 wc w.heap.size (fun k_ => k_ ≠ gb204) (.slice Ao27 t197.length co27) t197) ∧ Aside0 (wc.heap[gb191]? = some (.cells #[.int .i64 a0_0, (.slice A0_1 l0_1.length c0_1), (.slice (some ad209) l0_2.length c0_2)] 25 (0, 0))) ∧ Aside0 (wc.heap[gb204]? = some (.cells #[.int .u64 x205000_69, .int .u64 x205001_69, .int .u64 x205002_69, .int .u64 x205003_69] 63 (0, 0))) ∧ Aside0 (Below w.heap.size w wc))
                             case first =>
                              have H := HC70.out
                              clear HC70
                              by_cases c71 : x158_66 = true
                              ·subst c71
                               have H1 := H
                               rw [if_pos rfl] at H1
                               clear H
                               have H := H1
                               clear H1
                               by_cases c72 : 0 ≤ x13_46
                               ·rw [if_pos c72] at H
                                have c72b0 : decide (0 ≤ x13_46) = true := decide_eq_true c72
                                clear c72
                                (first | rw [c72b0] | (simp only [i64_w, i32_w]; rw [c72b0]) | skip)
                                by_cases c73 : x13_46 < (((rd_T58 ((rd_T55 l0_2 x10_3).f1) x11_4).f1).length : Int)
                                ·rw [if_pos c73] at H
                                 have c73b0 : decide (x13_46 < (((rd_T58 ((rd_T55 l0_2 x10_3).f1) x11_4).f1).length : Int)) = true := decide_eq_true c73
                                 clear c73
                                 by_cases c74 : 0 ≤ ((rd_T68 ((rd_T58 ((rd_T55 l0_2 x10_3).f1) x11_4).f1) x13_46).f0)
                                 ·rw [if_pos c74] at H
                                  have c74b0 : decide (0 ≤ ((rd_T68 ((rd_T58 ((rd_T55 l0_2 x10_3).f1) x11_4).f1) x13_46).f0)) = true := decide_eq_true c74
                                  clear c74
                                  by_cases c75 : ((rd_T68 ((rd_T58 ((rd_T55 l0_2 x10_3).f1) x11_4).f1) x13_46).f0) < (t197.length : Int)
                                  ·rw [if_pos c75] at H
                                   have c75b0 : decide (((rd_T68 ((rd_T58 ((rd_T55 l0_2 x10_3).f1) x11_4).f1) x13_46).f0) < (t197.length : Int)) = true := decide_eq_true c75
                                   clear c75
                                   replace H := Option.bind_eq_some_iff.mp H
                                   obtain ⟨⟨t223, t224, t225, t226⟩, A760, H⟩ := H
                                   replace H : (templelaw12_FirstsHold.j9 kj66 t193 t197 x7_2 x8_64 x10_3 x11_4 ((rd_T58 ((rd_T55 l0_2 x10_3).f1) x11_4).f1) x13_46 a0_0 l0_1 l0_2 t223 t224 t225 t226) = some r := H
                                   have A76 := Aside0.mk A760
                                   clear A760
                                   have H' := Aside0.mk H
                                   clear H
                                   try go_wp2
                                   have n0_ := Aside0.mk (Kd.R_drew HO_3.out)
                                   have n1_ := Aside0.mk (Kd.R_drew HO_5.out)
                                   have n2_ := Aside0.mk (blk_drew BK191.out)
                                   have n3_ := Aside0.mk (blk_drew BK204.out)
                                   have n4_ := Aside0.mk (below_drew1 HB.out)
                                   clear HO_3
                                   clear HO_5
                                   clear BK191
                                   clear BK204
                                   clear HB
                                   have HO_3 := n0_
                                   have HO_5 := n1_
                                   have BK191 := n2_
                                   have BK204 := n3_
                                   have HB := n4_
                                   clear n0_ n1_ n2_ n3_ n4_
                                   have p221 : 0 ≤ (x13_46 : Int) := of_decide_eq_true (by first | (with_reducible assumption) | assumption)
                                   have q221 : x13_46 < (((rd_T58 ((rd_T55 l0_2 x10_3).f1) x11_4).f1).length : Int) := of_decide_eq_true (by first | (with_reducible assumption) | assumption)
                                   obtain ⟨ad221, e221, hx221_0, hx221_1, hx221_2⟩ := at_T68 HR210_1.out x13_46 p221 q221
                                   have hw221_2 := hx221_2
                                   have hw221_1 := hx221_1
                                   have hw221_0 := hx221_0
                                   cases e221
                                   replace hx221_0 := (HB.out.cell (World.block_lt_of_cell? w _ hx221_0)).trans hx221_0
                                   replace hx221_1 := (HB.out.cell (World.block_lt_of_cell? w _ hx221_1)).trans hx221_1
                                   replace hx221_2 := (HB.out.cell (World.block_lt_of_cell? w _ hx221_2)).trans hx221_2
                                   replace p221 := eq_true p221
                                   replace q221 := eq_true q221
                                   have p222 : 0 ≤ (((rd_T68 ((rd_T58 ((rd_T55 l0_2 x10_3).f1) x11_4).f1) x13_46).f0) : Int) := of_decide_eq_true (by first | (with_reducible assumption) | assumption)
                                   have q222 : ((rd_T68 ((rd_T58 ((rd_T55 l0_2 x10_3).f1) x11_4).f1) x13_46).f0) < (t197.length : Int) := of_decide_eq_true (by first | (with_reducible assumption) | assumption)
                                   obtain ⟨ad222, e222, hx222_0, hx222_1, hx222_2, hx222_3⟩ := at_T63 (Kd.R_reads' HO_5.out).2.2 ((rd_T68 ((rd_T58 ((rd_T55 l0_2 x10_3).f1) x11_4).f1) x13_46).f0) p222 q222
                                   cases e222
                                   replace p222 := eq_true p222
                                   replace q222 := eq_true q222
                                   refine start_ (n := 11) (S := fun w' => w'.cell? ⟨gb204, 0, none⟩ = some (.int .u64 x205000_46) ∧ w'.cell? ⟨gb204, 1, none⟩ = some (.int .u64 x205001_46) ∧ w'.cell? ⟨gb204, 2, none⟩ = some (.int .u64 x205002_46) ∧ w'.cell? ⟨gb204, 3, none⟩ = some (.int .u64 x205003_46) ∧ w'.cell? (ad221.add ((x13_46).toNat * 3)) = some (.int .i64 ((rd_T68 ((rd_T58 ((rd_T55 l0_2 x10_3).f1) x11_4).f1) x13_46).f0)) ∧ w'.cell? ⟨(ad221.add ((x13_46).toNat * 3)).block, (ad221.add ((x13_46).toNat * 3)).off + 1, none⟩ = some (.int .i64 ((rd_T68 ((rd_T58 ((rd_T55 l0_2 x10_3).f1) x11_4).f1) x13_46).f1)) ∧ w'.cell? ⟨(ad221.add ((x13_46).toNat * 3)).block, (ad221.add ((x13_46).toNat * 3)).off + 2, none⟩ = some (.int .i64 ((rd_T68 ((rd_T58 ((rd_T55 l0_2 x10_3).f1) x11_4).f1) x13_46).f2)) ∧ w'.cell? (ad222.add ((((rd_T68 ((rd_T58 ((rd_T55 l0_2 x10_3).f1) x11_4).f1) x13_46).f0)).toNat * 4)) = some (.int .u64 ((rd_T63 t197 ((rd_T68 ((rd_T58 ((rd_T55 l0_2 x10_3).f1) x11_4).f1) x13_46).f0)).f0)) ∧ w'.cell? ⟨(ad222.add ((((rd_T68 ((rd_T58 ((rd_T55 l0_2 x10_3).f1) x11_4).f1) x13_46).f0)).toNat * 4)).block, (ad222.add ((((rd_T68 ((rd_T58 ((rd_T55 l0_2 x10_3).f1) x11_4).f1) x13_46).f0)).toNat * 4)).off + 1, none⟩ = some (.int .u64 ((rd_T63 t197 ((rd_T68 ((rd_T58 ((rd_T55 l0_2 x10_3).f1) x11_4).f1) x13_46).f0)).f1)) ∧ w'.cell? ⟨(ad222.add ((((rd_T68 ((rd_T58 ((rd_T55 l0_2 x10_3).f1) x11_4).f1) x13_46).f0)).toNat * 4)).block, (ad222.add ((((rd_T68 ((rd_T58 ((rd_T55 l0_2 x10_3).f1) x11_4).f1) x13_46).f0)).toNat * 4)).off + 2, none⟩ = some (.int .u64 ((rd_T63 t197 ((rd_T68 ((rd_T58 ((rd_T55 l0_2 x10_3).f1) x11_4).f1) x13_46).f0)).f2)) ∧ w'.cell? ⟨(ad222.add ((((rd_T68 ((rd_T58 ((rd_T55 l0_2 x10_3).f1) x11_4).f1) x13_46).f0)).toNat * 4)).block, (ad222.add ((((rd_T68 ((rd_T58 ((rd_T55 l0_2 x10_3).f1) x11_4).f1) x13_46).f0)).toNat * 4)).off + 3, none⟩ = some (.int .u64 ((rd_T63 t197 ((rd_T68 ((rd_T58 ((rd_T55 l0_2 x10_3).f1) x11_4).f1) x13_46).f0)).f3))) (ds := [10]) #[false, false, false, false, false, false, false, false, false, false, false] (by kernel_rfl) rfl rfl ⟨(blk_cell BK204.out 0).trans rfl, (blk_cell BK204.out 1).trans rfl, (blk_cell BK204.out 2).trans rfl, (blk_cell BK204.out 3).trans rfl, ((HB.out.cell (World.block_lt_of_cell? w _ hw221_0)).trans hw221_0), ((HB.out.cell (World.block_lt_of_cell? w _ hw221_1)).trans hw221_1), ((HB.out.cell (World.block_lt_of_cell? w _ hw221_2)).trans hw221_2), hx222_0, hx222_1, hx222_2, hx222_3⟩ (fun hHeld => ?_); refine with_tabW templelaw12_FirstsHold.tab27 templelaw12_FirstsHold.bits27 (fun HT_ HW_ => ?_)
                                   generalize wc.drew = w77 at HO_3 HO_5 BK191 BK204 HB hx221_0 hx221_1 hx221_2 hx222_0 hx222_1 hx222_2 hx222_3 hHeld ⊢
                                   refine pure_ (i := 1) (N := some 160) (v := ?_) (a' := ?_) #[false, true, false, false, false, false, false, false, false, false, false] rfl rfl (any_of HT_.out (by kernel_rfl)) (fun _ _ _ h => h) (Or.inl ⟨by rfl, ?_⟩) ?_ ?_
                                   rotate_left
                                   ·intro w'
                                    go_simp
                                    with_reducible rfl
                                   rotate_left
                                   ·simp only [Act.put, List.setIfInBounds_toArray, List.set_cons_zero, List.set_cons_succ, i64_w, i32_w]
                                    rfl
                                   refine pure_ (i := 2) (N := some 161) (v := ?_) (a' := ?_) #[false, true, true, false, false, false, false, false, false, false, false] rfl rfl (any_of HT_.out (by kernel_rfl)) (fun _ _ _ h => h) (Or.inl ⟨by rfl, ?_⟩) ?_ ?_
                                   rotate_left
                                   ·intro w'
                                    go_simp
                                    with_reducible rfl
                                   rotate_left
                                   ·simp only [Act.put, List.setIfInBounds_toArray, List.set_cons_zero, List.set_cons_succ, i64_w, i32_w]
                                    rfl
                                   refine pure_ (i := 3) (N := some 162) (v := ?_) (a' := ?_) #[false, true, true, true, false, false, false, false, false, false, false] rfl rfl (any_of HT_.out (by kernel_rfl)) (fun _ _ _ h => h) (Or.inl ⟨by rfl, ?_⟩) ?_ ?_
                                   rotate_left
                                   ·intro w'
                                    go_simp
                                    with_reducible rfl
                                   rotate_left
                                   ·simp only [Act.put, List.setIfInBounds_toArray, List.set_cons_zero, List.set_cons_succ, i64_w, i32_w]
                                    rfl
                                   refine pure_ (i := 4) (N := some 163) (v := ?_) (a' := ?_) #[false, true, true, true, true, false, false, false, false, false, false] rfl rfl (any_of HT_.out (by kernel_rfl)) (fun _ _ _ h => h) (Or.inl ⟨by rfl, ?_⟩) ?_ ?_
                                   rotate_left
                                   ·intro w'
                                    go_simp
                                    with_reducible rfl
                                   rotate_left
                                   ·simp only [Act.put, List.setIfInBounds_toArray, List.set_cons_zero, List.set_cons_succ, i64_w, i32_w]
                                    rfl
                                   refine pure_ (i := 5) (N := some 164) (v := ?_) (a' := ?_) #[false, true, true, true, true, true, false, false, false, false, false] rfl rfl (any_of HT_.out (by kernel_rfl)) (fun _ _ _ h => h) (Or.inl ⟨by rfl, ?_⟩) ?_ ?_
                                   rotate_left
                                   ·intro w'
                                    go_simp
                                    with_reducible rfl
                                   rotate_left
                                   ·simp only [Act.put, List.setIfInBounds_toArray, List.set_cons_zero, List.set_cons_succ, i64_w, i32_w]
                                    rfl
                                   refine take_ (i := 0) (N := some 159) (v := ?_) (a' := ?_) #[true, true, true, true, true, true, false, false, false, false, false] rfl rfl (take_ofW HT_.out HW_.out (by kernel_rfl)) (fun _ _ _ h => h) (Or.inl ⟨by rfl, ?_⟩) hHeld ?_ ?_
                                   rotate_left
                                   ·rintro w' ⟨s0, s1, s2, s3, s4, s5, s6, s7, s8, s9, s10⟩
                                    go_simp
                                    with_reducible rfl
                                   rotate_left
                                   ·simp only [Act.put, List.setIfInBounds_toArray, List.set_cons_zero, List.set_cons_succ, i64_w, i32_w]
                                    rfl
                                   refine take_ (i := 6) (N := some 165) (v := ?_) (a' := ?_) #[true, true, true, true, true, true, true, false, false, false, false] rfl rfl (take_ofW HT_.out HW_.out (by kernel_rfl)) (fun _ _ _ h => h) (Or.inl ⟨by rfl, ?_⟩) hHeld ?_ ?_
                                   rotate_left
                                   ·rintro w' ⟨s0, s1, s2, s3, s4, s5, s6, s7, s8, s9, s10⟩
                                    go_simp
                                    with_reducible rfl
                                   rotate_left
                                   ·simp only [Act.put, List.setIfInBounds_toArray, List.set_cons_zero, List.set_cons_succ, i64_w, i32_w]
                                    rfl
                                   refine pure_ (i := 7) (N := some 166) (v := ?_) (a' := ?_) #[true, true, true, true, true, true, true, true, false, false, false] rfl rfl (any_of HT_.out (by kernel_rfl)) (fun _ _ _ h => h) (Or.inl ⟨by rfl, ?_⟩) ?_ ?_
                                   rotate_left
                                   ·intro w'
                                    go_simp
                                    with_reducible rfl
                                   rotate_left
                                   ·simp only [Act.put, List.setIfInBounds_toArray, List.set_cons_zero, List.set_cons_succ, i64_w, i32_w]
                                    rfl
                                   refine take_ (i := 8) (N := some 167) (v := ?_) (a' := ?_) #[true, true, true, true, true, true, true, true, true, false, false] rfl rfl (take_ofW HT_.out HW_.out (by kernel_rfl)) (fun _ _ _ h => h) (Or.inl ⟨by rfl, ?_⟩) hHeld ?_ ?_
                                   rotate_left
                                   ·rintro w' ⟨s0, s1, s2, s3, s4, s5, s6, s7, s8, s9, s10⟩
                                    go_simp
                                    with_reducible rfl
                                   rotate_left
                                   ·simp only [Act.put, List.setIfInBounds_toArray, List.set_cons_zero, List.set_cons_succ, i64_w, i32_w]
                                    rfl
                                   refine one_ (i := 9) (N := some 168) #[true, true, true, true, true, true, true, true, true, true, false] rfl rfl (one_of HT_.out (by kernel_rfl)) (by decide) (fun K hK => ?_)
                                   refine goes_ Try.func26 (by kernel_rfl) rfl #[.int .i64 0, .agg #[.int .u64 x205000_46, .int .u64 x205001_46, .int .u64 x205002_46, .int .u64 x205003_46], .agg #[.int .u64 ((rd_T63 t197 ((rd_T68 ((rd_T58 ((rd_T55 l0_2 x10_3).f1) x11_4).f1) x13_46).f0)).f0), .int .u64 ((rd_T63 t197 ((rd_T68 ((rd_T58 ((rd_T55 l0_2 x10_3).f1) x11_4).f1) x13_46).f0)).f1), .int .u64 ((rd_T63 t197 ((rd_T68 ((rd_T58 ((rd_T55 l0_2 x10_3).f1) x11_4).f1) x13_46).f0)).f2), .int .u64 ((rd_T63 t197 ((rd_T68 ((rd_T58 ((rd_T55 l0_2 x10_3).f1) x11_4).f1) x13_46).f0)).f3)]] (by rfl) rfl rfl (by (try simp only [List.map_toArray, List.map_cons, List.map_nil]); first | done | rfl | (simp only [List.length_drop, List.length_take]; rfl)) ?_
                                   with_reducible refine (templeref1_Mix.calls 0 x205000_46 x205001_46 x205002_46 x205003_46 ((rd_T63 t197 ((rd_T68 ((rd_T58 ((rd_T55 l0_2 x10_3).f1) x11_4).f1) x13_46).f0)).f0) ((rd_T63 t197 ((rd_T68 ((rd_T58 ((rd_T55 l0_2 x10_3).f1) x11_4).f1) x13_46).f0)).f1) ((rd_T63 t197 ((rd_T68 ((rd_T58 ((rd_T55 l0_2 x10_3).f1) x11_4).f1) x13_46).f0)).f2) ((rd_T63 t197 ((rd_T68 ((rd_T58 ((rd_T55 l0_2 x10_3).f1) x11_4).f1) x13_46).f0)).f3) t223 t224 t225 t226 _ A76.out).mono ?_
                                   rintro e w78 ⟨rfl, hb⟩
                                   have HS7_ := (hb.cell (World.block_lt_of_cell? _ _ (hHeld.2.2.2.2.2.2.2.1))).trans (hHeld.2.2.2.2.2.2.2.1)
                                   have HS8_ := (hb.cell (World.block_lt_of_cell? _ _ (hHeld.2.2.2.2.2.2.2.2.1))).trans (hHeld.2.2.2.2.2.2.2.2.1)
                                   have HS9_ := (hb.cell (World.block_lt_of_cell? _ _ (hHeld.2.2.2.2.2.2.2.2.2.1))).trans (hHeld.2.2.2.2.2.2.2.2.2.1)
                                   have HS10_ := (hb.cell (World.block_lt_of_cell? _ _ (hHeld.2.2.2.2.2.2.2.2.2.2))).trans (hHeld.2.2.2.2.2.2.2.2.2.2)
                                   refine ⟨_, rfl, ?_⟩
                                   have n0_ := Aside0.mk (Kd.R_below (by (with_reducible repeat (first | apply Kd.R_alloc | apply Kd.R_drewN | apply Kd.R_drew)); exact HO_3.out) hb)
                                   have n1_ := Aside0.mk (Kd.R_below (by (with_reducible repeat (first | apply Kd.R_alloc | apply Kd.R_drewN | apply Kd.R_drew)); exact HO_5.out) hb)
                                   have n2_ := Aside0.mk (blk_below (g := gb191) (o := .cells #[.int .i64 a0_0, .slice A0_1 l0_1.length c0_1, .slice (some ad209) l0_2.length c0_2] 25 (0, 0)) (by (with_reducible repeat (first | refine blk_drewN ?_ _ | refine blk_drew ?_ | refine blk_alloc ?_ _)); exact BK191.out) hb)
                                   have n3_ := Aside0.mk (blk_below (g := gb204) (o := .cells #[.int .u64 x205000_46, .int .u64 x205001_46, .int .u64 x205002_46, .int .u64 x205003_46] 63 (0, 0)) (by (with_reducible repeat (first | refine blk_drewN ?_ _ | refine blk_drew ?_ | refine blk_alloc ?_ _)); exact BK204.out) hb)
                                   have n4_ := Aside0.mk (below_step (by repeat (first | (with_reducible first | exact HB.out | apply below_alloc | apply pw_below_drewN | apply below_drew1 | refine below_set ?_ GE191.out | refine below_set ?_ GE204.out) | exact HB.out)) hb)
                                   clear HO_3
                                   clear HO_5
                                   clear BK191
                                   clear BK204
                                   clear HB
                                   have HO_3 := n0_
                                   have HO_5 := n1_
                                   have BK191 := n2_
                                   have BK204 := n3_
                                   have HB := n4_
                                   clear n0_ n1_ n2_ n3_ n4_
                                   (try clear hb)
                                   (try clear hb2)
                                   (try clear hk)
                                   (try clear hi)
                                   refine hK.out _ _ ⟨(blk_cell BK204.out 0).trans rfl, (blk_cell BK204.out 1).trans rfl, (blk_cell BK204.out 2).trans rfl, (blk_cell BK204.out 3).trans rfl, ((HB.out.cell (World.block_lt_of_cell? w _ hw221_0)).trans hw221_0), ((HB.out.cell (World.block_lt_of_cell? w _ hw221_1)).trans hw221_1), ((HB.out.cell (World.block_lt_of_cell? w _ hw221_2)).trans hw221_2), HS7_, HS8_, HS9_, HS10_⟩ (fun hHeld => ?_)
                                   clear hK K
                                   refine norm_ (a' := ?_) ?_ ?_
                                   rotate_left
                                   ·show Act.put _ (some 168) _ = _
                                    simp only [Act.put, List.setIfInBounds_toArray, List.set_cons_zero, List.set_cons_succ, i64_w, i32_w]
                                    rfl
                                   refine last_ (i := 10) (N := none) #[true, true, true, true, true, true, true, true, true, true, true] rfl rfl (one_of HT_.out (by kernel_rfl)) (by decide) (fun K hK => ?_)
                                   have hs79 : w78.cell? ⟨gb204, 0, none⟩ = some (.int .u64 x205000_46) := (blk_cell BK204.out 0).trans rfl
                                   have hfs79 := blk_frozen BK204.out 0
                                   have hns79_0 := NB191_204.out
                                   have hms79_0 := NB204_191.out
                                   have hs80 : w78.cell? ⟨gb204, 1, none⟩ = some (.int .u64 x205001_46) := (blk_cell BK204.out 1).trans rfl
                                   have hfs80 := blk_frozen BK204.out 1
                                   have hns80_0 := NB191_204.out
                                   have hms80_0 := NB204_191.out
                                   have hs81 : w78.cell? ⟨gb204, 2, none⟩ = some (.int .u64 x205002_46) := (blk_cell BK204.out 2).trans rfl
                                   have hfs81 := blk_frozen BK204.out 2
                                   have hns81_0 := NB191_204.out
                                   have hms81_0 := NB204_191.out
                                   have hs82 : w78.cell? ⟨gb204, 3, none⟩ = some (.int .u64 x205003_46) := (blk_cell BK204.out 3).trans rfl
                                   have hfs82 := blk_frozen BK204.out 3
                                   have hns82_0 := NB191_204.out
                                   have hms82_0 := NB204_191.out
                                   refine skip_ (w1 := ?_) (by rfl) rfl ?_ ?_
                                   rotate_left
                                   ·go_simp
                                    rfl
                                   refine hK.out _ _ ?_
                                   clear hK K
                                   refine done_ (done_of HT_.out (by kernel_rfl)) ?_
                                   try go_wp2
                                   go_meet
                                   case rel => exact ⟨_, (t223), (t224), (t225), (t226), H', ⟨by have := HJ5.out; have := HK2.out; have := HK3.out; have := HK4.out; have := HJ33.out; have := HJ46.out; have := HJ64.out; have := HJ66.out; first | omega | exact Nat.le_refl _⟩, ⟨by (with_reducible repeat (first | apply Kd.R_alloc | apply Kd.R_drewN | apply Kd.R_drew)); exact Kd.R_mono (Kd.R_far (p := ⟨gb204, 3, none⟩) (Kd.R_far (p := ⟨gb204, 2, none⟩) (Kd.R_far (p := ⟨gb204, 1, none⟩) (Kd.R_far (p := ⟨gb204, 0, none⟩) (Kd.R_types HO_3.out BK204.out (by decide)) (fun _ hk => hk.2) (.int .u64 t223)) (fun _ hk => hk.2) (.int .u64 t224)) (fun _ hk => hk.2) (.int .u64 t225)) (fun _ hk => hk.2) (.int .u64 t226)) (fun _ hk => trivial)⟩, ⟨by (with_reducible repeat (first | apply Kd.R_alloc | apply Kd.R_drewN | apply Kd.R_drew)); exact Kd.R_mono (Kd.R_far (p := ⟨gb204, 3, none⟩) (Kd.R_far (p := ⟨gb204, 2, none⟩) (Kd.R_far (p := ⟨gb204, 1, none⟩) (Kd.R_far (p := ⟨gb204, 0, none⟩) (Kd.R_mono HO_5.out (fun k_ hk => (⟨hk, hk⟩ : _ ∧ k_ ≠ gb204))) (fun _ hk => hk.2) (.int .u64 t223)) (fun _ hk => hk.2) (.int .u64 t224)) (fun _ hk => hk.2) (.int .u64 t225)) (fun _ hk => hk.2) (.int .u64 t226)) (fun _ hk => hk.1)⟩, ⟨by (with_reducible repeat (first | refine blk_drewN ?_ _ | refine blk_drew ?_ | refine blk_alloc ?_ _)); refine blk_far ?_ NB191_204.out _; (with_reducible repeat (first | refine blk_drewN ?_ _ | refine blk_drew ?_ | refine blk_alloc ?_ _)); refine blk_far ?_ NB191_204.out _; (with_reducible repeat (first | refine blk_drewN ?_ _ | refine blk_drew ?_ | refine blk_alloc ?_ _)); refine blk_far ?_ NB191_204.out _; (with_reducible repeat (first | refine blk_drewN ?_ _ | refine blk_drew ?_ | refine blk_alloc ?_ _)); refine blk_far ?_ NB191_204.out _; (with_reducible repeat (first | refine blk_drewN ?_ _ | refine blk_drew ?_ | refine blk_alloc ?_ _)); exact BK191.out⟩, ⟨by (with_reducible repeat (first | refine blk_drewN ?_ _ | refine blk_drew ?_ | refine blk_alloc ?_ _)); refine blk_put (cs := #[.int .u64 t223, .int .u64 t224, .int .u64 t225, .int .u64 x205003_46]) ?_ 3 _ rfl; (with_reducible repeat (first | refine blk_drewN ?_ _ | refine blk_drew ?_ | refine blk_alloc ?_ _)); refine blk_put (cs := #[.int .u64 t223, .int .u64 t224, .int .u64 x205002_46, .int .u64 x205003_46]) ?_ 2 _ rfl; (with_reducible repeat (first | refine blk_drewN ?_ _ | refine blk_drew ?_ | refine blk_alloc ?_ _)); refine blk_put (cs := #[.int .u64 t223, .int .u64 x205001_46, .int .u64 x205002_46, .int .u64 x205003_46]) ?_ 1 _ rfl; (with_reducible repeat (first | refine blk_drewN ?_ _ | refine blk_drew ?_ | refine blk_alloc ?_ _)); refine blk_put (cs := #[.int .u64 x205000_46, .int .u64 x205001_46, .int .u64 x205002_46, .int .u64 x205003_46]) ?_ 0 _ rfl; (with_reducible repeat (first | refine blk_drewN ?_ _ | refine blk_drew ?_ | refine blk_alloc ?_ _)); exact BK204.out⟩, ⟨by repeat (first | (with_reducible first | exact HB.out | apply below_alloc | apply pw_below_drewN | apply below_drew1 | refine below_set ?_ GE191.out | refine below_set ?_ GE204.out) | exact HB.out)⟩⟩
                                  ·rw [if_neg c75] at H
                                   exact absurd H (by simp)
                                 ·rw [if_neg c74] at H
                                  exact absurd H (by simp)
                                ·rw [if_neg c73] at H
                                 exact absurd H (by simp)
                               ·rw [if_neg c72] at H
                                exact absurd H (by simp)
                              ·replace c71 := Bool.eq_false_iff.mpr c71
                               subst c71
                               have H1 := H
                               rw [if_neg (show ¬ (false = true) by decide)] at H1
                               clear H
                               have H := H1
                               clear H1
                               have H' := Aside0.mk H
                               clear H
                               go_wp2
                               go_meet
                               case rel => exact ⟨_, (x205000_46), (x205001_46), (x205002_46), (x205003_46), H', ⟨by have := HJ5.out; have := HK2.out; have := HK3.out; have := HK4.out; have := HJ33.out; have := HJ46.out; have := HJ64.out; have := HJ66.out; first | omega | exact Nat.le_refl _⟩, ⟨by (with_reducible repeat (first | apply Kd.R_alloc | apply Kd.R_drewN | apply Kd.R_drew)); exact HO_3.out⟩, ⟨by (with_reducible repeat (first | apply Kd.R_alloc | apply Kd.R_drewN | apply Kd.R_drew)); exact HO_5.out⟩, ⟨by (with_reducible repeat (first | refine blk_drewN ?_ _ | refine blk_drew ?_ | refine blk_alloc ?_ _)); exact BK191.out⟩, ⟨by (with_reducible repeat (first | refine blk_drewN ?_ _ | refine blk_drew ?_ | refine blk_alloc ?_ _)); exact BK204.out⟩, ⟨by repeat (first | (with_reducible first | exact HB.out | apply below_alloc | apply pw_below_drewN | apply below_drew1 | refine below_set ?_ GE191.out | refine below_set ?_ GE204.out) | exact HB.out)⟩⟩
                             case rest => as_aux_lemma =>
                              clear HC70
                              try clear c1
                              try clear c2
                              try clear p2
                              try clear q2
                              try clear hx2
                              try clear c3
                              try clear c4
                              try clear c5
                              try clear q5
                              try clear c6
                              try clear p6
                              try clear c7
                              try clear c10
                              try clear c12
                              try clear c14
                              try clear c14b0
                              try clear c14b1
                              try clear c16
                              try clear c17
                              try clear c20
                              try clear p20
                              try clear q20
                              try clear hx20
                              try clear c21
                              try clear c21b0
                              try clear c21b1
                              try clear c21b2
                              try clear p21
                              try clear q21
                              try clear hx21
                              try clear c22
                              try clear c22b0
                              try clear c22b1
                              try clear c22b2
                              try clear p22
                              try clear q22
                              try clear hx22
                              try clear c25
                              try clear c26
                              try clear c28
                              try clear c28b0
                              try clear c31
                              try clear c31b0
                              try clear c32
                              try clear c35
                              try clear c35b0
                              try clear c36
                              try clear c36b0
                              try clear c37
                              try clear c37b0
                              try clear c38
                              try clear c40
                              try clear c42
                              try clear c43
                              try clear c43b0
                              try clear c44
                              try clear c44b0
                              try clear c45
                              try clear c45b0
                              try clear c46
                              try clear c46b0
                              try clear c48
                              try clear c50
                              try clear c50b0
                              try clear c51
                              try clear c51b0
                              try clear c52
                              try clear c52b0
                              try clear c53
                              try clear c53b0
                              try clear c54
                              try clear c54b0
                              try clear q55
                              try clear c56
                              try clear c57
                              try clear c57b0
                              try clear p64
                              try clear c66
                              try clear c68
                              try clear c68b0
                              try clear c69
                              try clear c69b0
                              try clear c71
                              try clear c72
                              try clear c72b0
                              try clear c73
                              try clear c73b0
                              try clear c74
                              try clear c74b0
                              try clear c75
                              try clear c75b0
                              try clear hcz11_0
                              try clear hcz11_1
                              try clear hcz11_2
                              try clear hcz23_0
                              try clear hcz23_1
                              try clear hcz23_2
                              try clear hcz26_0
                              try clear hcz26_1
                              try clear hcz26_2
                              try clear hcz29_0
                              try clear hcz29_1
                              try clear hcz29_2
                              try clear hcz33_0
                              try clear hcz33_1
                              try clear hcz33_2
                              try clear hcz39_0
                              try clear hcz39_1
                              try clear hcz39_2
                              try clear hcz41_0
                              try clear hcz41_1
                              try clear hcz41_2
                              try clear hcz49_0
                              try clear hcz49_1
                              try clear hcz49_2
                              try clear hcz9_0
                              try clear hcz9_1
                              try clear hcz9_2
                              try clear hfz11_0
                              try clear hfz11_1
                              try clear hfz11_2
                              try clear hfz23_0
                              try clear hfz23_1
                              try clear hfz23_2
                              try clear hfz26_0
                              try clear hfz26_1
                              try clear hfz26_2
                              try clear hfz29_0
                              try clear hfz29_1
                              try clear hfz29_2
                              try clear hfz33_0
                              try clear hfz33_1
                              try clear hfz33_2
                              try clear hfz39_0
                              try clear hfz39_1
                              try clear hfz39_2
                              try clear hfz41_0
                              try clear hfz41_1
                              try clear hfz41_2
                              try clear hfz49_0
                              try clear hfz49_1
                              try clear hfz49_2
                              try clear hfz9_0
                              try clear hfz9_1
                              try clear hfz9_2
                              try clear hx207_0
                              try clear hx207_1
                              try clear hx208_0
                              try clear hx208_1
                              try clear hx209_0
                              try clear hx209_1
                              try clear hx210_0
                              try clear hx210_1
                              try clear hx211_0
                              try clear hx211_1
                              try clear hx211_2
                              try clear hx212_0
                              try clear hx212_1
                              try clear hx212_2
                              try clear hx213_0
                              try clear hx214_0
                              try clear hx214_1
                              try clear hx214_2
                              try clear hx215_0
                              try clear hx215_1
                              try clear hx215_2
                              try clear hx215_3
                              try clear hx220_0
                              try clear hx220_1
                              try clear hx220_2
                              try clear hx221_0
                              try clear hx221_1
                              try clear hx221_2
                              try clear hx222_0
                              try clear hx222_1
                              try clear hx222_2
                              try clear hx222_3
                              try clear p2
                              try clear p20
                              try clear p207
                              try clear p208
                              try clear p209
                              try clear p21
                              try clear p210
                              try clear p211
                              try clear p212
                              try clear p213
                              try clear p214
                              try clear p215
                              try clear p22
                              try clear p220
                              try clear p221
                              try clear p222
                              try clear p6
                              try clear p64
                              try clear q2
                              try clear q20
                              try clear q207
                              try clear q208
                              try clear q209
                              try clear q21
                              try clear q210
                              try clear q211
                              try clear q212
                              try clear q213
                              try clear q214
                              try clear q215
                              try clear q22
                              try clear q220
                              try clear q221
                              try clear q222
                              try clear q5
                              try clear q55
                              obtain ⟨kq, x205000_69, x205001_69, x205002_69, x205003_69, HA, HJ69, HO_3, HO_5, BK191, BK204, HB⟩ := hcut
                              cases kq with
                              | zero => exact absurd HA.out (by simp [templelaw12_FirstsHold.j9])
                              | succ kj69 =>
                               have H := HA.out
                               clear HA
                               simp only [templelaw12_FirstsHold.j9] at H
                               have HC83 := Aside0.mk H
                               clear H
                               go_upto_region 28 with (fail)
                               go_cut [180] (fun v180 wc => ∃ (kq : Nat) (x180_82 : Bool), v180 = .bool x180_82 ∧ Aside0 (templelaw12_FirstsHold.j10 kq t193 t197 x7_2 x8_64 x10_3 x11_4 ((rd_T58 ((rd_T55 l0_2 x10_3).f1) x11_4).f1) x13_46 x180_82 a0_0 l0_1 l0_2 x205000_69 x205001_69 x205002_69 x205003_69 = some r) ∧ Aside0 (kq ≤ kj69) ∧ Aside0 (Kd.R Kd.bool 4 wc w.heap.size (fun _ => True) (.slice Ao25 t193.length co25) t193) ∧ Aside0 (Kd.R k63 63 wc w.heap.size (fun k_ => k_ ≠ gb204) (.slice Ao27 t197.length co27) t197) ∧ Aside0 (wc.heap[gb191]? = some (.cells #[.int .i64 a0_0, (.slice A0_1 l0_1.length c0_1), (.slice (some ad209) l0_2.length c0_2)] 25 (0, 0))) ∧ Aside0 (wc.heap[gb204]? = some (.cells #[.int .u64 x205000_69, .int .u64 x205001_69, .int .u64 x205002_69, .int .u64 x205003_69] 63 (0, 0))) ∧ Aside0 (Below w.heap.size w wc))
                               case first =>
                                have H := HC83.out
                                clear HC83
                                by_cases c84 : x13_46 < (((rd_T58 ((rd_T55 l0_2 x10_3).f1) x11_4).f1).length : Int)
                                ·rw [if_pos c84] at H
                                 have c84b0 : decide (x13_46 < (((rd_T58 ((rd_T55 l0_2 x10_3).f1) x11_4).f1).length : Int)) = true := decide_eq_true c84
                                 clear c84
                                 (first | rw [c84b0] | (simp only [i64_w, i32_w]; rw [c84b0]) | skip)
                                 by_cases c85 : 0 ≤ x13_46
                                 ·rw [if_pos c85] at H
                                  have c85b0 : decide (0 ≤ x13_46) = true := decide_eq_true c85
                                  clear c85
                                  have H' := Aside0.mk H
                                  clear H
                                  have p227 : 0 ≤ (x13_46 : Int) := of_decide_eq_true (by first | (with_reducible assumption) | assumption)
                                  have q227 : x13_46 < (((rd_T58 ((rd_T55 l0_2 x10_3).f1) x11_4).f1).length : Int) := of_decide_eq_true (by first | (with_reducible assumption) | assumption)
                                  obtain ⟨ad227, e227, hx227_0, hx227_1, hx227_2⟩ := at_T68 HR210_1.out x13_46 p227 q227
                                  cases e227
                                  replace hx227_0 := (HB.out.cell (World.block_lt_of_cell? w _ hx227_0)).trans hx227_0
                                  replace hx227_1 := (HB.out.cell (World.block_lt_of_cell? w _ hx227_1)).trans hx227_1
                                  replace hx227_2 := (HB.out.cell (World.block_lt_of_cell? w _ hx227_2)).trans hx227_2
                                  replace p227 := eq_true p227
                                  replace q227 := eq_true q227
                                  go_wp2
                                  go_meet
                                  case rel => exact ⟨_, (decide (((rd_T68 ((rd_T58 ((rd_T55 l0_2 x10_3).f1) x11_4).f1) x13_46).f0) < 0)), (by first | rfl | (simp; done) | (simp [i64_w]; done) | (simp [*]; done) | (simp [*, i64_w]; done) | (simp [*]; unfold wrap64; omega)), H', ⟨by have := HJ5.out; have := HK2.out; have := HK3.out; have := HK4.out; have := HJ33.out; have := HJ46.out; have := HJ64.out; have := HJ66.out; have := HJ69.out; first | omega | exact Nat.le_refl _⟩, ⟨by (with_reducible repeat (first | apply Kd.R_alloc | apply Kd.R_drewN | apply Kd.R_drew)); exact HO_3.out⟩, ⟨by (with_reducible repeat (first | apply Kd.R_alloc | apply Kd.R_drewN | apply Kd.R_drew)); exact HO_5.out⟩, ⟨by (with_reducible repeat (first | refine blk_drewN ?_ _ | refine blk_drew ?_ | refine blk_alloc ?_ _)); exact BK191.out⟩, ⟨by (with_reducible repeat (first | refine blk_drewN ?_ _ | refine blk_drew ?_ | refine blk_alloc ?_ _)); exact BK204.out⟩, ⟨by repeat (first | (with_reducible first | exact HB.out | apply below_alloc | apply pw_below_drewN | apply below_drew1 | refine below_set ?_ GE191.out | refine below_set ?_ GE204.out) | exact HB.out)⟩⟩
                                 ·rw [if_neg c85] at H
                                  exact absurd H (by simp)
                                ·rw [if_neg c84] at H
                                 have c84b0 : decide (x13_46 < (((rd_T58 ((rd_T55 l0_2 x10_3).f1) x11_4).f1).length : Int)) = false := decide_eq_false c84
                                 clear c84
                                 (first | rw [c84b0] | (simp only [i64_w, i32_w]; rw [c84b0]) | skip)
                                 have H' := Aside0.mk H
                                 clear H
                                 go_wp2
                                 go_meet
                                 case rel => exact ⟨_, (false), (by first | rfl | (simp; done) | (simp [i64_w]; done) | (simp [*]; done) | (simp [*, i64_w]; done) | (simp [*]; unfold wrap64; omega)), H', ⟨by have := HJ5.out; have := HK2.out; have := HK3.out; have := HK4.out; have := HJ33.out; have := HJ46.out; have := HJ64.out; have := HJ66.out; have := HJ69.out; first | omega | exact Nat.le_refl _⟩, ⟨by (with_reducible repeat (first | apply Kd.R_alloc | apply Kd.R_drewN | apply Kd.R_drew)); exact HO_3.out⟩, ⟨by (with_reducible repeat (first | apply Kd.R_alloc | apply Kd.R_drewN | apply Kd.R_drew)); exact HO_5.out⟩, ⟨by (with_reducible repeat (first | refine blk_drewN ?_ _ | refine blk_drew ?_ | refine blk_alloc ?_ _)); exact BK191.out⟩, ⟨by (with_reducible repeat (first | refine blk_drewN ?_ _ | refine blk_drew ?_ | refine blk_alloc ?_ _)); exact BK204.out⟩, ⟨by repeat (first | (with_reducible first | exact HB.out | apply below_alloc | apply pw_below_drewN | apply below_drew1 | refine below_set ?_ GE191.out | refine below_set ?_ GE204.out) | exact HB.out)⟩⟩
                               case rest => as_aux_lemma =>
                                clear HC83
                                try clear c1
                                try clear c2
                                try clear p2
                                try clear q2
                                try clear hx2
                                try clear c3
                                try clear c4
                                try clear c5
                                try clear q5
                                try clear c6
                                try clear p6
                                try clear c7
                                try clear c8
                                try clear c10
                                try clear c12
                                try clear c14
                                try clear c14b0
                                try clear c14b1
                                try clear c16
                                try clear c17
                                try clear c20
                                try clear p20
                                try clear q20
                                try clear hx20
                                try clear c21
                                try clear c21b0
                                try clear c21b1
                                try clear c21b2
                                try clear p21
                                try clear q21
                                try clear hx21
                                try clear c22
                                try clear c22b0
                                try clear c22b1
                                try clear c22b2
                                try clear p22
                                try clear q22
                                try clear hx22
                                try clear c25
                                try clear c26
                                try clear c28
                                try clear c28b0
                                try clear c31
                                try clear c31b0
                                try clear c32
                                try clear c35
                                try clear c35b0
                                try clear c36
                                try clear c36b0
                                try clear c37
                                try clear c37b0
                                try clear c38
                                try clear c40
                                try clear c42
                                try clear c43
                                try clear c43b0
                                try clear c44
                                try clear c44b0
                                try clear c45
                                try clear c45b0
                                try clear c46
                                try clear c46b0
                                try clear c48
                                try clear c50
                                try clear c50b0
                                try clear c51
                                try clear c51b0
                                try clear c52
                                try clear c52b0
                                try clear c53
                                try clear c53b0
                                try clear c54
                                try clear c54b0
                                try clear q55
                                try clear c56
                                try clear c57
                                try clear c57b0
                                try clear p64
                                try clear c66
                                try clear c68
                                try clear c68b0
                                try clear c69
                                try clear c69b0
                                try clear c71
                                try clear c72
                                try clear c72b0
                                try clear c73
                                try clear c73b0
                                try clear c74
                                try clear c74b0
                                try clear c75
                                try clear c75b0
                                try clear c84
                                try clear c84b0
                                try clear c85
                                try clear c85b0
                                try clear hcz11_0
                                try clear hcz11_1
                                try clear hcz11_2
                                try clear hcz23_0
                                try clear hcz23_1
                                try clear hcz23_2
                                try clear hcz26_0
                                try clear hcz26_1
                                try clear hcz26_2
                                try clear hcz29_0
                                try clear hcz29_1
                                try clear hcz29_2
                                try clear hcz33_0
                                try clear hcz33_1
                                try clear hcz33_2
                                try clear hcz39_0
                                try clear hcz39_1
                                try clear hcz39_2
                                try clear hcz41_0
                                try clear hcz41_1
                                try clear hcz41_2
                                try clear hcz49_0
                                try clear hcz49_1
                                try clear hcz49_2
                                try clear hcz9_0
                                try clear hcz9_1
                                try clear hcz9_2
                                try clear hfz11_0
                                try clear hfz11_1
                                try clear hfz11_2
                                try clear hfz23_0
                                try clear hfz23_1
                                try clear hfz23_2
                                try clear hfz26_0
                                try clear hfz26_1
                                try clear hfz26_2
                                try clear hfz29_0
                                try clear hfz29_1
                                try clear hfz29_2
                                try clear hfz33_0
                                try clear hfz33_1
                                try clear hfz33_2
                                try clear hfz39_0
                                try clear hfz39_1
                                try clear hfz39_2
                                try clear hfz41_0
                                try clear hfz41_1
                                try clear hfz41_2
                                try clear hfz49_0
                                try clear hfz49_1
                                try clear hfz49_2
                                try clear hfz9_0
                                try clear hfz9_1
                                try clear hfz9_2
                                try clear hx207_0
                                try clear hx207_1
                                try clear hx208_0
                                try clear hx208_1
                                try clear hx209_0
                                try clear hx209_1
                                try clear hx210_0
                                try clear hx210_1
                                try clear hx211_0
                                try clear hx211_1
                                try clear hx211_2
                                try clear hx212_0
                                try clear hx212_1
                                try clear hx212_2
                                try clear hx213_0
                                try clear hx214_0
                                try clear hx214_1
                                try clear hx214_2
                                try clear hx215_0
                                try clear hx215_1
                                try clear hx215_2
                                try clear hx215_3
                                try clear hx220_0
                                try clear hx220_1
                                try clear hx220_2
                                try clear hx221_0
                                try clear hx221_1
                                try clear hx221_2
                                try clear hx222_0
                                try clear hx222_1
                                try clear hx222_2
                                try clear hx222_3
                                try clear hx227_0
                                try clear hx227_1
                                try clear hx227_2
                                try clear p2
                                try clear p20
                                try clear p207
                                try clear p208
                                try clear p209
                                try clear p21
                                try clear p210
                                try clear p211
                                try clear p212
                                try clear p213
                                try clear p214
                                try clear p215
                                try clear p22
                                try clear p220
                                try clear p221
                                try clear p222
                                try clear p227
                                try clear p6
                                try clear p64
                                try clear q2
                                try clear q20
                                try clear q207
                                try clear q208
                                try clear q209
                                try clear q21
                                try clear q210
                                try clear q211
                                try clear q212
                                try clear q213
                                try clear q214
                                try clear q215
                                try clear q22
                                try clear q220
                                try clear q221
                                try clear q222
                                try clear q227
                                try clear q5
                                try clear q55
                                obtain ⟨kq, x180_82, rfl, HA, HJ82, HO_3, HO_5, BK191, BK204, HB⟩ := hcut
                                cases kq with
                                | zero => exact absurd HA.out (by simp [templelaw12_FirstsHold.j10])
                                | succ kj82 =>
                                 have H := HA.out
                                 clear HA
                                 simp only [templelaw12_FirstsHold.j10] at H
                                 by_cases c86 : x180_82 = true
                                 ·subst c86
                                  have H1 := H
                                  rw [if_pos rfl] at H1
                                  clear H
                                  have H := H1
                                  clear H1
                                  by_cases c87 : 0 ≤ x13_46
                                  ·rw [if_pos c87] at H
                                   have c87b0 : decide (0 ≤ x13_46) = true := decide_eq_true c87
                                   clear c87
                                   by_cases c88 : x13_46 < (((rd_T58 ((rd_T55 l0_2 x10_3).f1) x11_4).f1).length : Int)
                                   ·rw [if_pos c88] at H
                                    have c88b0 : decide (x13_46 < (((rd_T58 ((rd_T55 l0_2 x10_3).f1) x11_4).f1).length : Int)) = true := decide_eq_true c88
                                    clear c88
                                    replace H := Option.bind_eq_some_iff.mp H
                                    obtain ⟨⟨t230, t231, t232, t233, t234⟩, A890, H⟩ := H
                                    try dsimp only at H
                                    have A89 := Aside0.mk A890
                                    clear A890
                                    replace H := Option.bind_eq_some_iff.mp H
                                    obtain ⟨⟨t236, t237, t238, t239⟩, A900, H⟩ := H
                                    replace H : (templelaw12_FirstsHold.l2 kj82 t193 t197 x7_2 x8_64 x10_3 (wrap64 (x11_4 + 1)) a0_0 l0_1 l0_2 t236 t237 t238 t239) = some r := H
                                    have A90 := Aside0.mk A900
                                    clear A900
                                    have H' := Aside0.mk H
                                    clear H
                                    try go_wp2
                                    have n0_ := Aside0.mk (Kd.R_drew HO_3.out)
                                    have n1_ := Aside0.mk (Kd.R_drew HO_5.out)
                                    have n2_ := Aside0.mk (blk_drew BK191.out)
                                    have n3_ := Aside0.mk (blk_drew BK204.out)
                                    have n4_ := Aside0.mk (below_drew1 HB.out)
                                    clear HO_3
                                    clear HO_5
                                    clear BK191
                                    clear BK204
                                    clear HB
                                    have HO_3 := n0_
                                    have HO_5 := n1_
                                    have BK191 := n2_
                                    have BK204 := n3_
                                    have HB := n4_
                                    clear n0_ n1_ n2_ n3_ n4_
                                    have p228 : 0 ≤ (x13_46 : Int) := of_decide_eq_true (by first | (with_reducible assumption) | assumption)
                                    have q228 : x13_46 < (((rd_T58 ((rd_T55 l0_2 x10_3).f1) x11_4).f1).length : Int) := of_decide_eq_true (by first | (with_reducible assumption) | assumption)
                                    obtain ⟨ad228, e228, hx228_0, hx228_1, hx228_2⟩ := at_T68 HR210_1.out x13_46 p228 q228
                                    have hw228_2 := hx228_2
                                    have hw228_1 := hx228_1
                                    have hw228_0 := hx228_0
                                    cases e228
                                    replace hx228_0 := (HB.out.cell (World.block_lt_of_cell? w _ hx228_0)).trans hx228_0
                                    replace hx228_1 := (HB.out.cell (World.block_lt_of_cell? w _ hx228_1)).trans hx228_1
                                    replace hx228_2 := (HB.out.cell (World.block_lt_of_cell? w _ hx228_2)).trans hx228_2
                                    replace p228 := eq_true p228
                                    replace q228 := eq_true q228
                                    have p229 : 0 ≤ (x13_46 : Int) := of_decide_eq_true (by first | (with_reducible assumption) | assumption)
                                    have q229 : x13_46 < (((rd_T58 ((rd_T55 l0_2 x10_3).f1) x11_4).f1).length : Int) := of_decide_eq_true (by first | (with_reducible assumption) | assumption)
                                    obtain ⟨ad229, e229, hx229_0, hx229_1, hx229_2⟩ := at_T68 HR210_1.out x13_46 p229 q229
                                    have hw229_2 := hx229_2
                                    have hw229_1 := hx229_1
                                    have hw229_0 := hx229_0
                                    obtain rfl : ad228 = ad229 := (by injection e229)
                                    replace hx229_0 := (HB.out.cell (World.block_lt_of_cell? w _ hx229_0)).trans hx229_0
                                    replace hx229_1 := (HB.out.cell (World.block_lt_of_cell? w _ hx229_1)).trans hx229_1
                                    replace hx229_2 := (HB.out.cell (World.block_lt_of_cell? w _ hx229_2)).trans hx229_2
                                    replace p229 := eq_true p229
                                    replace q229 := eq_true q229
                                    refine start_ (n := 17) (S := fun w' => w'.cell? (ad228.add ((x13_46).toNat * 3)) = some (.int .i64 ((rd_T68 ((rd_T58 ((rd_T55 l0_2 x10_3).f1) x11_4).f1) x13_46).f0)) ∧ w'.cell? ⟨(ad228.add ((x13_46).toNat * 3)).block, (ad228.add ((x13_46).toNat * 3)).off + 1, none⟩ = some (.int .i64 ((rd_T68 ((rd_T58 ((rd_T55 l0_2 x10_3).f1) x11_4).f1) x13_46).f1)) ∧ w'.cell? ⟨(ad228.add ((x13_46).toNat * 3)).block, (ad228.add ((x13_46).toNat * 3)).off + 2, none⟩ = some (.int .i64 ((rd_T68 ((rd_T58 ((rd_T55 l0_2 x10_3).f1) x11_4).f1) x13_46).f2)) ∧ w'.cell? (ad228.add ((x13_46).toNat * 3)) = some (.int .i64 ((rd_T68 ((rd_T58 ((rd_T55 l0_2 x10_3).f1) x11_4).f1) x13_46).f0)) ∧ w'.cell? ⟨(ad228.add ((x13_46).toNat * 3)).block, (ad228.add ((x13_46).toNat * 3)).off + 1, none⟩ = some (.int .i64 ((rd_T68 ((rd_T58 ((rd_T55 l0_2 x10_3).f1) x11_4).f1) x13_46).f1)) ∧ w'.cell? ⟨(ad228.add ((x13_46).toNat * 3)).block, (ad228.add ((x13_46).toNat * 3)).off + 2, none⟩ = some (.int .i64 ((rd_T68 ((rd_T58 ((rd_T55 l0_2 x10_3).f1) x11_4).f1) x13_46).f2))) (ds := []) #[false, false, false, false, false, false, false, false, false, false, false, false, false, false, false, false, false] (by kernel_rfl) rfl rfl ⟨((HB.out.cell (World.block_lt_of_cell? w _ hw228_0)).trans hw228_0), ((HB.out.cell (World.block_lt_of_cell? w _ hw228_1)).trans hw228_1), ((HB.out.cell (World.block_lt_of_cell? w _ hw228_2)).trans hw228_2), ((HB.out.cell (World.block_lt_of_cell? w _ hw229_0)).trans hw229_0), ((HB.out.cell (World.block_lt_of_cell? w _ hw229_1)).trans hw229_1), ((HB.out.cell (World.block_lt_of_cell? w _ hw229_2)).trans hw229_2)⟩ (fun hHeld => ?_); refine with_tabW templelaw12_FirstsHold.tab29 templelaw12_FirstsHold.bits29 (fun HT_ HW_ => ?_)
                                    generalize wc.drew = w91 at HO_3 HO_5 BK191 BK204 HB hx228_0 hx228_1 hx228_2 hx229_0 hx229_1 hx229_2 hHeld ⊢
                                    refine pure_ (i := 0) (N := some 182) (v := ?_) (a' := ?_) #[true, false, false, false, false, false, false, false, false, false, false, false, false, false, false, false, false] rfl rfl (any_of HT_.out (by kernel_rfl)) (fun _ _ _ h => h) (Or.inl ⟨by rfl, ?_⟩) ?_ ?_
                                    rotate_left
                                    ·intro w'
                                     go_simp
                                     with_reducible rfl
                                    rotate_left
                                    ·simp only [Act.put, List.setIfInBounds_toArray, List.set_cons_zero, List.set_cons_succ, i64_w, i32_w]
                                     rfl
                                    refine pure_ (i := 1) (N := some 183) (v := ?_) (a' := ?_) #[true, true, false, false, false, false, false, false, false, false, false, false, false, false, false, false, false] rfl rfl (any_of HT_.out (by kernel_rfl)) (fun _ _ _ h => h) (Or.inl ⟨by rfl, ?_⟩) ?_ ?_
                                    rotate_left
                                    ·intro w'
                                     go_simp
                                     with_reducible rfl
                                    rotate_left
                                    ·simp only [Act.put, List.setIfInBounds_toArray, List.set_cons_zero, List.set_cons_succ, i64_w, i32_w]
                                     rfl
                                    refine pure_ (i := 2) (N := some 184) (v := ?_) (a' := ?_) #[true, true, true, false, false, false, false, false, false, false, false, false, false, false, false, false, false] rfl rfl (any_of HT_.out (by kernel_rfl)) (fun _ _ _ h => h) (Or.inl ⟨by rfl, ?_⟩) ?_ ?_
                                    rotate_left
                                    ·intro w'
                                     go_simp
                                     with_reducible rfl
                                    rotate_left
                                    ·simp only [Act.put, List.setIfInBounds_toArray, List.set_cons_zero, List.set_cons_succ, i64_w, i32_w]
                                     rfl
                                    refine pure_ (i := 3) (N := some 185) (v := ?_) (a' := ?_) #[true, true, true, true, false, false, false, false, false, false, false, false, false, false, false, false, false] rfl rfl (any_of HT_.out (by kernel_rfl)) (fun _ _ _ h => h) (Or.inl ⟨by rfl, ?_⟩) ?_ ?_
                                    rotate_left
                                    ·intro w'
                                     go_simp
                                     with_reducible rfl
                                    rotate_left
                                    ·simp only [Act.put, List.setIfInBounds_toArray, List.set_cons_zero, List.set_cons_succ, i64_w, i32_w]
                                     rfl
                                    refine pure_ (i := 5) (N := some 187) (v := ?_) (a' := ?_) #[true, true, true, true, false, true, false, false, false, false, false, false, false, false, false, false, false] rfl rfl (any_of HT_.out (by kernel_rfl)) (fun _ _ _ h => h) (Or.inl ⟨by rfl, ?_⟩) ?_ ?_
                                    rotate_left
                                    ·intro w'
                                     go_simp
                                     with_reducible rfl
                                    rotate_left
                                    ·simp only [Act.put, List.setIfInBounds_toArray, List.set_cons_zero, List.set_cons_succ, i64_w, i32_w]
                                     rfl
                                    refine pure_ (i := 6) (N := some 188) (v := ?_) (a' := ?_) #[true, true, true, true, false, true, true, false, false, false, false, false, false, false, false, false, false] rfl rfl (any_of HT_.out (by kernel_rfl)) (fun _ _ _ h => h) (Or.inl ⟨by rfl, ?_⟩) ?_ ?_
                                    rotate_left
                                    ·intro w'
                                     go_simp
                                     with_reducible rfl
                                    rotate_left
                                    ·simp only [Act.put, List.setIfInBounds_toArray, List.set_cons_zero, List.set_cons_succ, i64_w, i32_w]
                                     rfl
                                    refine pure_ (i := 7) (N := some 189) (v := ?_) (a' := ?_) #[true, true, true, true, false, true, true, true, false, false, false, false, false, false, false, false, false] rfl rfl (any_of HT_.out (by kernel_rfl)) (fun _ _ _ h => h) (Or.inl ⟨by rfl, ?_⟩) ?_ ?_
                                    rotate_left
                                    ·intro w'
                                     go_simp
                                     with_reducible rfl
                                    rotate_left
                                    ·simp only [Act.put, List.setIfInBounds_toArray, List.set_cons_zero, List.set_cons_succ, i64_w, i32_w]
                                     rfl
                                    refine pure_ (i := 8) (N := some 190) (v := ?_) (a' := ?_) #[true, true, true, true, false, true, true, true, true, false, false, false, false, false, false, false, false] rfl rfl (any_of HT_.out (by kernel_rfl)) (fun _ _ _ h => h) (Or.inl ⟨by rfl, ?_⟩) ?_ ?_
                                    rotate_left
                                    ·intro w'
                                     go_simp
                                     with_reducible rfl
                                    rotate_left
                                    ·simp only [Act.put, List.setIfInBounds_toArray, List.set_cons_zero, List.set_cons_succ, i64_w, i32_w]
                                     rfl
                                    refine take_ (i := 4) (N := some 186) (v := ?_) (a' := ?_) #[true, true, true, true, true, true, true, true, true, false, false, false, false, false, false, false, false] rfl rfl (take_ofW HT_.out HW_.out (by kernel_rfl)) (fun _ _ _ h => h) (Or.inl ⟨by rfl, ?_⟩) hHeld ?_ ?_
                                    rotate_left
                                    ·rintro w' ⟨s0, s1, s2, s3, s4, s5⟩
                                     go_simp
                                     with_reducible rfl
                                    rotate_left
                                    ·simp only [Act.put, List.setIfInBounds_toArray, List.set_cons_zero, List.set_cons_succ, i64_w, i32_w]
                                     rfl
                                    refine take_ (i := 9) (N := some 191) (v := ?_) (a' := ?_) #[true, true, true, true, true, true, true, true, true, true, false, false, false, false, false, false, false] rfl rfl (take_ofW HT_.out HW_.out (by kernel_rfl)) (fun _ _ _ h => h) (Or.inl ⟨by rfl, ?_⟩) hHeld ?_ ?_
                                    rotate_left
                                    ·rintro w' ⟨s0, s1, s2, s3, s4, s5⟩
                                     go_simp
                                     with_reducible rfl
                                    rotate_left
                                    ·simp only [Act.put, List.setIfInBounds_toArray, List.set_cons_zero, List.set_cons_succ, i64_w, i32_w]
                                     rfl
                                    refine join_ (σ := Nat) 2 #[true, true, true, true, true, true, true, true, true, true, true, true, true, true, true, false, false] (fun s_ => [(192, .tuple #[.agg #[.int .u64 t230, .int .u64 t231, .int .u64 t232, .int .u64 t233], .int .i64 t234]), (14, .pointer (some ⟨s_, 0, none⟩)), (181, .tuple #[.agg #[.int .u64 t230, .int .u64 t231, .int .u64 t232, .int .u64 t233], .int .i64 t234]), (193, .agg #[.int .u64 t230, .int .u64 t231, .int .u64 t232, .int .u64 t233]), (194, .int .i64 t234)]) (fun s_ w' => (w'.cell? (ad228.add ((x13_46).toNat * 3)) = some (.int .i64 ((rd_T68 ((rd_T58 ((rd_T55 l0_2 x10_3).f1) x11_4).f1) x13_46).f0)) ∧ w'.cell? ⟨(ad228.add ((x13_46).toNat * 3)).block, (ad228.add ((x13_46).toNat * 3)).off + 1, none⟩ = some (.int .i64 ((rd_T68 ((rd_T58 ((rd_T55 l0_2 x10_3).f1) x11_4).f1) x13_46).f1)) ∧ w'.cell? ⟨(ad228.add ((x13_46).toNat * 3)).block, (ad228.add ((x13_46).toNat * 3)).off + 2, none⟩ = some (.int .i64 ((rd_T68 ((rd_T58 ((rd_T55 l0_2 x10_3).f1) x11_4).f1) x13_46).f2)) ∧ w'.cell? (ad228.add ((x13_46).toNat * 3)) = some (.int .i64 ((rd_T68 ((rd_T58 ((rd_T55 l0_2 x10_3).f1) x11_4).f1) x13_46).f0)) ∧ w'.cell? ⟨(ad228.add ((x13_46).toNat * 3)).block, (ad228.add ((x13_46).toNat * 3)).off + 1, none⟩ = some (.int .i64 ((rd_T68 ((rd_T58 ((rd_T55 l0_2 x10_3).f1) x11_4).f1) x13_46).f1)) ∧ w'.cell? ⟨(ad228.add ((x13_46).toNat * 3)).block, (ad228.add ((x13_46).toNat * 3)).off + 2, none⟩ = some (.int .i64 ((rd_T68 ((rd_T58 ((rd_T55 l0_2 x10_3).f1) x11_4).f1) x13_46).f2))) ∧ (Kd.R Kd.bool 4 w' w.heap.size (fun _ => True) (.slice Ao25 t193.length co25) t193) ∧ (Kd.R k63 63 w' w.heap.size (fun k_ => k_ ≠ gb204 ∧ k_ ≠ s_) (.slice Ao27 t197.length co27) t197) ∧ (w'.heap[gb191]? = some (.cells #[.int .i64 a0_0, .slice A0_1 l0_1.length c0_1, .slice (some ad209) l0_2.length c0_2] 25 (0, 0))) ∧ (w'.heap[gb204]? = some (.cells #[.int .u64 x205000_69, .int .u64 x205001_69, .int .u64 x205002_69, .int .u64 x205003_69] 63 (0, 0))) ∧ (w'.heap[s_]? = some (.cells #[.int .u64 0, .int .u64 0, .int .u64 0, .int .u64 0] 63 (0, 0))) ∧ (w.heap.size ≤ s_) ∧ (w.heap.size ≤ s_) ∧ (gb191 ≠ s_) ∧ (s_ ≠ gb191) ∧ (gb204 ≠ s_) ∧ (s_ ≠ gb204) ∧ (Below w.heap.size w w')) ?_ ?_
                                    rotate_left
                                    ·intro hCont
                                     refine two_ (i := 10) (j := 14) (Ni := some 192) (Nj := some 14) #[true, true, true, true, true, true, true, true, true, true, true, false, false, false, false, false, false] #[true, true, true, true, true, true, true, true, true, true, false, false, false, false, true, false, false] rfl rfl rfl rfl (two_of HT_.out (by kernel_rfl)) (by decide) (by decide) (fun K hK => ?_) (fun K hK => ?_)
                                     ·skip
                                      refine goes_ Try.func27 (by kernel_rfl) rfl #[.int .i64 ((rd_T68 ((rd_T58 ((rd_T55 l0_2 x10_3).f1) x11_4).f1) x13_46).f1), .int .i64 ((rd_T68 ((rd_T58 ((rd_T55 l0_2 x10_3).f1) x11_4).f1) x13_46).f2)] (by rfl) rfl rfl (by (try simp only [List.map_toArray, List.map_cons, List.map_nil]); first | done | rfl | (simp only [List.length_drop, List.length_take]; rfl)) ?_
                                      with_reducible refine (templeref1_Range.calls ((rd_T68 ((rd_T58 ((rd_T55 l0_2 x10_3).f1) x11_4).f1) x13_46).f1) ((rd_T68 ((rd_T58 ((rd_T55 l0_2 x10_3).f1) x11_4).f1) x13_46).f2) t230 t231 t232 t233 t234 _ A89.out).mono ?_
                                      rintro e w92 ⟨rfl, hb⟩
                                      refine ⟨_, rfl, ?_⟩
                                      have n0_ := Aside0.mk (Kd.R_below (by (with_reducible repeat (first | apply Kd.R_alloc | apply Kd.R_drewN | apply Kd.R_drew)); exact HO_3.out) hb)
                                      have n1_ := Aside0.mk (Kd.R_below (by (with_reducible repeat (first | apply Kd.R_alloc | apply Kd.R_drewN | apply Kd.R_drew)); exact HO_5.out) hb)
                                      have n2_ := Aside0.mk (blk_below (g := gb191) (o := .cells #[.int .i64 a0_0, .slice A0_1 l0_1.length c0_1, .slice (some ad209) l0_2.length c0_2] 25 (0, 0)) (by (with_reducible repeat (first | refine blk_drewN ?_ _ | refine blk_drew ?_ | refine blk_alloc ?_ _)); exact BK191.out) hb)
                                      have n3_ := Aside0.mk (blk_below (g := gb204) (o := .cells #[.int .u64 x205000_69, .int .u64 x205001_69, .int .u64 x205002_69, .int .u64 x205003_69] 63 (0, 0)) (by (with_reducible repeat (first | refine blk_drewN ?_ _ | refine blk_drew ?_ | refine blk_alloc ?_ _)); exact BK204.out) hb)
                                      have n4_ := Aside0.mk (below_step (by repeat (first | (with_reducible first | exact HB.out | apply below_alloc | apply pw_below_drewN | apply below_drew1 | refine below_set ?_ GE191.out | refine below_set ?_ GE204.out) | exact HB.out)) hb)
                                      clear HO_3
                                      clear HO_5
                                      clear BK191
                                      clear BK204
                                      clear HB
                                      have HO_3 := n0_
                                      have HO_5 := n1_
                                      have BK191 := n2_
                                      have BK204 := n3_
                                      have HB := n4_
                                      clear n0_ n1_ n2_ n3_ n4_
                                      (try clear hb)
                                      (try clear hb2)
                                      (try clear hk)
                                      (try clear hi)
                                      refine hK.out _ _ ⟨((HB.out.cell (World.block_lt_of_cell? w _ hw228_0)).trans hw228_0), ((HB.out.cell (World.block_lt_of_cell? w _ hw228_1)).trans hw228_1), ((HB.out.cell (World.block_lt_of_cell? w _ hw228_2)).trans hw228_2), ((HB.out.cell (World.block_lt_of_cell? w _ hw229_0)).trans hw229_0), ((HB.out.cell (World.block_lt_of_cell? w _ hw229_1)).trans hw229_1), ((HB.out.cell (World.block_lt_of_cell? w _ hw229_2)).trans hw229_2)⟩ (fun hHeld => ?_)
                                      clear hK K
                                      refine norm_ (a' := ?_) ?_ ?_
                                      rotate_left
                                      ·show Act.put _ (some 192) _ = _
                                       simp only [Act.put, List.setIfInBounds_toArray, List.set_cons_zero, List.set_cons_succ, i64_w, i32_w]
                                       rfl
                                      refine pure_ (i := 11) (N := some 181) (v := ?_) (a' := ?_) #[true, true, true, true, true, true, true, true, true, true, true, true, false, false, false, false, false] rfl rfl (any_of HT_.out (by kernel_rfl)) (fun _ _ _ h => h) (Or.inl ⟨by rfl, ?_⟩) ?_ ?_
                                      rotate_left
                                      ·intro w'
                                       go_simp
                                       with_reducible rfl
                                      rotate_left
                                      ·simp only [Act.put, List.setIfInBounds_toArray, List.set_cons_zero, List.set_cons_succ, i64_w, i32_w]
                                       rfl
                                      refine pure_ (i := 12) (N := some 193) (v := ?_) (a' := ?_) #[true, true, true, true, true, true, true, true, true, true, true, true, true, false, false, false, false] rfl rfl (any_of HT_.out (by kernel_rfl)) (fun _ _ _ h => h) (Or.inl ⟨by rfl, ?_⟩) ?_ ?_
                                      rotate_left
                                      ·intro w'
                                       go_simp
                                       with_reducible rfl
                                      rotate_left
                                      ·simp only [Act.put, List.setIfInBounds_toArray, List.set_cons_zero, List.set_cons_succ, i64_w, i32_w]
                                       rfl
                                      refine pure_ (i := 13) (N := some 194) (v := ?_) (a' := ?_) #[true, true, true, true, true, true, true, true, true, true, true, true, true, true, false, false, false] rfl rfl (any_of HT_.out (by kernel_rfl)) (fun _ _ _ h => h) (Or.inl ⟨by rfl, ?_⟩) ?_ ?_
                                      rotate_left
                                      ·intro w'
                                       go_simp
                                       with_reducible rfl
                                      rotate_left
                                      ·simp only [Act.put, List.setIfInBounds_toArray, List.set_cons_zero, List.set_cons_succ, i64_w, i32_w]
                                       rfl
                                      refine one_ (i := 14) (N := some 14) #[true, true, true, true, true, true, true, true, true, true, true, true, true, true, true, false, false] rfl rfl (one_of HT_.out (by kernel_rfl)) (by decide) (fun K hK => ?_)
                                      refine box_step ?hg (N := 14) ?hd (cs := #[.int .u64 0, .int .u64 0, .int .u64 0, .int .u64 0]) (t := 63) ?hr ?_; (case hd => rfl); (case hg => rfl); (case hr => first | (go_simp; done) | (go_simp; rfl))
                                      intro gb235 hg w93 hbox hb
                                      have n0_ := Aside0.mk (Kd.R_below (by (with_reducible repeat (first | apply Kd.R_alloc | apply Kd.R_drewN | apply Kd.R_drew)); exact HO_3.out) hb)
                                      have n1_ := Aside0.mk (Kd.R_below (Kd.R_elderB (by (with_reducible repeat (first | apply Kd.R_alloc | apply Kd.R_drewN | apply Kd.R_drew)); exact HO_5.out) gb235 (Nat.le_of_eq hg.symm)) hb)
                                      have n2_ := Aside0.mk (blk_below (g := gb191) (o := .cells #[.int .i64 a0_0, .slice A0_1 l0_1.length c0_1, .slice (some ad209) l0_2.length c0_2] 25 (0, 0)) (by (with_reducible repeat (first | refine blk_drewN ?_ _ | refine blk_drew ?_ | refine blk_alloc ?_ _)); exact BK191.out) hb)
                                      have n3_ := Aside0.mk (blk_below (g := gb204) (o := .cells #[.int .u64 x205000_69, .int .u64 x205001_69, .int .u64 x205002_69, .int .u64 x205003_69] 63 (0, 0)) (by (with_reducible repeat (first | refine blk_drewN ?_ _ | refine blk_drew ?_ | refine blk_alloc ?_ _)); exact BK204.out) hb)
                                      have n4_ := Aside0.mk (below_step (by repeat (first | (with_reducible first | exact HB.out | apply below_alloc | apply pw_below_drewN | apply below_drew1 | refine below_set ?_ GE191.out | refine below_set ?_ GE204.out) | exact HB.out)) hb)
                                      have n5_ := Aside0.mk (hbox)
                                      have n6_ := Aside0.mk ((by rw [hg]; exact (below_size (by repeat (first | (with_reducible first | exact HB.out | apply below_alloc | apply pw_below_drewN | apply below_drew1 | refine below_set ?_ GE191.out | refine below_set ?_ GE204.out) | exact HB.out))) : w.heap.size ≤ gb235))
                                      have n7_ := Aside0.mk ((by rw [hg]; exact (below_size (by repeat (first | (with_reducible first | exact HB.out | apply below_alloc | apply pw_below_drewN | apply below_drew1 | refine below_set ?_ GE191.out | refine below_set ?_ GE204.out) | exact HB.out))) : w.heap.size ≤ gb235))
                                      have n8_ := Aside0.mk ((by rw [hg]; exact Nat.ne_of_lt (blk_lt (g := gb191) (o := .cells #[.int .i64 a0_0, .slice A0_1 l0_1.length c0_1, .slice (some ad209) l0_2.length c0_2] 25 (0, 0)) (by (with_reducible repeat (first | refine blk_drewN ?_ _ | refine blk_drew ?_ | refine blk_alloc ?_ _)); exact BK191.out)) : gb191 ≠ gb235))
                                      have n9_ := Aside0.mk ((by rw [hg]; exact Nat.ne_of_gt (blk_lt (g := gb191) (o := .cells #[.int .i64 a0_0, .slice A0_1 l0_1.length c0_1, .slice (some ad209) l0_2.length c0_2] 25 (0, 0)) (by (with_reducible repeat (first | refine blk_drewN ?_ _ | refine blk_drew ?_ | refine blk_alloc ?_ _)); exact BK191.out)) : gb235 ≠ gb191))
                                      have n10_ := Aside0.mk ((by rw [hg]; exact Nat.ne_of_lt (blk_lt (g := gb204) (o := .cells #[.int .u64 x205000_69, .int .u64 x205001_69, .int .u64 x205002_69, .int .u64 x205003_69] 63 (0, 0)) (by (with_reducible repeat (first | refine blk_drewN ?_ _ | refine blk_drew ?_ | refine blk_alloc ?_ _)); exact BK204.out)) : gb204 ≠ gb235))
                                      have n11_ := Aside0.mk ((by rw [hg]; exact Nat.ne_of_gt (blk_lt (g := gb204) (o := .cells #[.int .u64 x205000_69, .int .u64 x205001_69, .int .u64 x205002_69, .int .u64 x205003_69] 63 (0, 0)) (by (with_reducible repeat (first | refine blk_drewN ?_ _ | refine blk_drew ?_ | refine blk_alloc ?_ _)); exact BK204.out)) : gb235 ≠ gb204))
                                      clear HO_3
                                      clear HO_5
                                      clear BK191
                                      clear BK204
                                      clear HB
                                      have HO_3 := n0_
                                      have HO_5 := n1_
                                      have BK191 := n2_
                                      have BK204 := n3_
                                      have HB := n4_
                                      have BK235 := n5_
                                      have GW235 := n6_
                                      have GE235 := n7_
                                      have NB191_235 := n8_
                                      have NB235_191 := n9_
                                      have NB204_235 := n10_
                                      have NB235_204 := n11_
                                      clear n0_ n1_ n2_ n3_ n4_ n5_ n6_ n7_ n8_ n9_ n10_ n11_
                                      clear hb hbox hg
                                      refine hK.out _ _ ⟨((HB.out.cell (World.block_lt_of_cell? w _ hw228_0)).trans hw228_0), ((HB.out.cell (World.block_lt_of_cell? w _ hw228_1)).trans hw228_1), ((HB.out.cell (World.block_lt_of_cell? w _ hw228_2)).trans hw228_2), ((HB.out.cell (World.block_lt_of_cell? w _ hw229_0)).trans hw229_0), ((HB.out.cell (World.block_lt_of_cell? w _ hw229_1)).trans hw229_1), ((HB.out.cell (World.block_lt_of_cell? w _ hw229_2)).trans hw229_2)⟩ (fun hHeld => ?_)
                                      clear hK K
                                      refine norm_ (a' := ?_) ?_ ?_
                                      rotate_left
                                      ·show Act.put _ (some 14) _ = _
                                       simp only [Act.put, List.setIfInBounds_toArray, List.set_cons_zero, List.set_cons_succ, i64_w, i32_w]
                                       rfl
                                      exact norm_ (by simp only [putAll, Act.put, List.setIfInBounds_toArray, List.set_cons_zero, List.set_cons_succ]) (hCont (gb235) _ ⟨hHeld, (by (with_reducible repeat (first | apply Kd.R_alloc | apply Kd.R_drewN | apply Kd.R_drew)); exact HO_3.out), (by (with_reducible repeat (first | apply Kd.R_alloc | apply Kd.R_drewN | apply Kd.R_drew)); exact HO_5.out), (by (with_reducible repeat (first | refine blk_drewN ?_ _ | refine blk_drew ?_ | refine blk_alloc ?_ _)); exact BK191.out), (by (with_reducible repeat (first | refine blk_drewN ?_ _ | refine blk_drew ?_ | refine blk_alloc ?_ _)); exact BK204.out), (by (with_reducible repeat (first | refine blk_drewN ?_ _ | refine blk_drew ?_ | refine blk_alloc ?_ _)); exact BK235.out), GW235.out, GE235.out, NB191_235.out, NB235_191.out, NB204_235.out, NB235_204.out, (by repeat (first | (with_reducible first | exact HB.out | apply below_alloc | apply pw_below_drewN | apply below_drew1 | refine below_set ?_ GE191.out | refine below_set ?_ GE204.out | refine below_set ?_ GE235.out) | exact HB.out))⟩)
                                     ·skip
                                      refine box_step ?hg (N := 14) ?hd (cs := #[.int .u64 0, .int .u64 0, .int .u64 0, .int .u64 0]) (t := 63) ?hr ?_; (case hd => rfl); (case hg => rfl); (case hr => first | (go_simp; done) | (go_simp; rfl))
                                      intro gb235 hg w92 hbox hb
                                      have n0_ := Aside0.mk (Kd.R_below (by (with_reducible repeat (first | apply Kd.R_alloc | apply Kd.R_drewN | apply Kd.R_drew)); exact HO_3.out) hb)
                                      have n1_ := Aside0.mk (Kd.R_below (Kd.R_elderB (by (with_reducible repeat (first | apply Kd.R_alloc | apply Kd.R_drewN | apply Kd.R_drew)); exact HO_5.out) gb235 (Nat.le_of_eq hg.symm)) hb)
                                      have n2_ := Aside0.mk (blk_below (g := gb191) (o := .cells #[.int .i64 a0_0, .slice A0_1 l0_1.length c0_1, .slice (some ad209) l0_2.length c0_2] 25 (0, 0)) (by (with_reducible repeat (first | refine blk_drewN ?_ _ | refine blk_drew ?_ | refine blk_alloc ?_ _)); exact BK191.out) hb)
                                      have n3_ := Aside0.mk (blk_below (g := gb204) (o := .cells #[.int .u64 x205000_69, .int .u64 x205001_69, .int .u64 x205002_69, .int .u64 x205003_69] 63 (0, 0)) (by (with_reducible repeat (first | refine blk_drewN ?_ _ | refine blk_drew ?_ | refine blk_alloc ?_ _)); exact BK204.out) hb)
                                      have n4_ := Aside0.mk (below_step (by repeat (first | (with_reducible first | exact HB.out | apply below_alloc | apply pw_below_drewN | apply below_drew1 | refine below_set ?_ GE191.out | refine below_set ?_ GE204.out) | exact HB.out)) hb)
                                      have n5_ := Aside0.mk (hbox)
                                      have n6_ := Aside0.mk ((by rw [hg]; exact (below_size (by repeat (first | (with_reducible first | exact HB.out | apply below_alloc | apply pw_below_drewN | apply below_drew1 | refine below_set ?_ GE191.out | refine below_set ?_ GE204.out) | exact HB.out))) : w.heap.size ≤ gb235))
                                      have n7_ := Aside0.mk ((by rw [hg]; exact (below_size (by repeat (first | (with_reducible first | exact HB.out | apply below_alloc | apply pw_below_drewN | apply below_drew1 | refine below_set ?_ GE191.out | refine below_set ?_ GE204.out) | exact HB.out))) : w.heap.size ≤ gb235))
                                      have n8_ := Aside0.mk ((by rw [hg]; exact Nat.ne_of_lt (blk_lt (g := gb191) (o := .cells #[.int .i64 a0_0, .slice A0_1 l0_1.length c0_1, .slice (some ad209) l0_2.length c0_2] 25 (0, 0)) (by (with_reducible repeat (first | refine blk_drewN ?_ _ | refine blk_drew ?_ | refine blk_alloc ?_ _)); exact BK191.out)) : gb191 ≠ gb235))
                                      have n9_ := Aside0.mk ((by rw [hg]; exact Nat.ne_of_gt (blk_lt (g := gb191) (o := .cells #[.int .i64 a0_0, .slice A0_1 l0_1.length c0_1, .slice (some ad209) l0_2.length c0_2] 25 (0, 0)) (by (with_reducible repeat (first | refine blk_drewN ?_ _ | refine blk_drew ?_ | refine blk_alloc ?_ _)); exact BK191.out)) : gb235 ≠ gb191))
                                      have n10_ := Aside0.mk ((by rw [hg]; exact Nat.ne_of_lt (blk_lt (g := gb204) (o := .cells #[.int .u64 x205000_69, .int .u64 x205001_69, .int .u64 x205002_69, .int .u64 x205003_69] 63 (0, 0)) (by (with_reducible repeat (first | refine blk_drewN ?_ _ | refine blk_drew ?_ | refine blk_alloc ?_ _)); exact BK204.out)) : gb204 ≠ gb235))
                                      have n11_ := Aside0.mk ((by rw [hg]; exact Nat.ne_of_gt (blk_lt (g := gb204) (o := .cells #[.int .u64 x205000_69, .int .u64 x205001_69, .int .u64 x205002_69, .int .u64 x205003_69] 63 (0, 0)) (by (with_reducible repeat (first | refine blk_drewN ?_ _ | refine blk_drew ?_ | refine blk_alloc ?_ _)); exact BK204.out)) : gb235 ≠ gb204))
                                      clear HO_3
                                      clear HO_5
                                      clear BK191
                                      clear BK204
                                      clear HB
                                      have HO_3 := n0_
                                      have HO_5 := n1_
                                      have BK191 := n2_
                                      have BK204 := n3_
                                      have HB := n4_
                                      have BK235 := n5_
                                      have GW235 := n6_
                                      have GE235 := n7_
                                      have NB191_235 := n8_
                                      have NB235_191 := n9_
                                      have NB204_235 := n10_
                                      have NB235_204 := n11_
                                      clear n0_ n1_ n2_ n3_ n4_ n5_ n6_ n7_ n8_ n9_ n10_ n11_
                                      clear hb hbox hg
                                      refine hK.out _ _ ⟨((HB.out.cell (World.block_lt_of_cell? w _ hw228_0)).trans hw228_0), ((HB.out.cell (World.block_lt_of_cell? w _ hw228_1)).trans hw228_1), ((HB.out.cell (World.block_lt_of_cell? w _ hw228_2)).trans hw228_2), ((HB.out.cell (World.block_lt_of_cell? w _ hw229_0)).trans hw229_0), ((HB.out.cell (World.block_lt_of_cell? w _ hw229_1)).trans hw229_1), ((HB.out.cell (World.block_lt_of_cell? w _ hw229_2)).trans hw229_2)⟩ (fun hHeld => ?_)
                                      clear hK K
                                      refine norm_ (a' := ?_) ?_ ?_
                                      rotate_left
                                      ·show Act.put _ (some 14) _ = _
                                       simp only [Act.put, List.setIfInBounds_toArray, List.set_cons_zero, List.set_cons_succ, i64_w, i32_w]
                                       rfl
                                      refine one_ (i := 10) (N := some 192) #[true, true, true, true, true, true, true, true, true, true, true, false, false, false, true, false, false] rfl rfl (one_of HT_.out (by kernel_rfl)) (by decide) (fun K hK => ?_)
                                      refine goes_ Try.func27 (by kernel_rfl) rfl #[.int .i64 ((rd_T68 ((rd_T58 ((rd_T55 l0_2 x10_3).f1) x11_4).f1) x13_46).f1), .int .i64 ((rd_T68 ((rd_T58 ((rd_T55 l0_2 x10_3).f1) x11_4).f1) x13_46).f2)] (by rfl) rfl rfl (by (try simp only [List.map_toArray, List.map_cons, List.map_nil]); first | done | rfl | (simp only [List.length_drop, List.length_take]; rfl)) ?_
                                      with_reducible refine (templeref1_Range.calls ((rd_T68 ((rd_T58 ((rd_T55 l0_2 x10_3).f1) x11_4).f1) x13_46).f1) ((rd_T68 ((rd_T58 ((rd_T55 l0_2 x10_3).f1) x11_4).f1) x13_46).f2) t230 t231 t232 t233 t234 _ A89.out).mono ?_
                                      rintro e w93 ⟨rfl, hb⟩
                                      refine ⟨_, rfl, ?_⟩
                                      have n0_ := Aside0.mk (Kd.R_below (by (with_reducible repeat (first | apply Kd.R_alloc | apply Kd.R_drewN | apply Kd.R_drew)); exact HO_3.out) hb)
                                      have n1_ := Aside0.mk (Kd.R_below (by (with_reducible repeat (first | apply Kd.R_alloc | apply Kd.R_drewN | apply Kd.R_drew)); exact HO_5.out) hb)
                                      have n2_ := Aside0.mk (blk_below (g := gb191) (o := .cells #[.int .i64 a0_0, .slice A0_1 l0_1.length c0_1, .slice (some ad209) l0_2.length c0_2] 25 (0, 0)) (by (with_reducible repeat (first | refine blk_drewN ?_ _ | refine blk_drew ?_ | refine blk_alloc ?_ _)); exact BK191.out) hb)
                                      have n3_ := Aside0.mk (blk_below (g := gb204) (o := .cells #[.int .u64 x205000_69, .int .u64 x205001_69, .int .u64 x205002_69, .int .u64 x205003_69] 63 (0, 0)) (by (with_reducible repeat (first | refine blk_drewN ?_ _ | refine blk_drew ?_ | refine blk_alloc ?_ _)); exact BK204.out) hb)
                                      have n4_ := Aside0.mk (blk_below (g := gb235) (o := .cells #[.int .u64 0, .int .u64 0, .int .u64 0, .int .u64 0] 63 (0, 0)) (by (with_reducible repeat (first | refine blk_drewN ?_ _ | refine blk_drew ?_ | refine blk_alloc ?_ _)); exact BK235.out) hb)
                                      have n5_ := Aside0.mk (below_step (by repeat (first | (with_reducible first | exact HB.out | apply below_alloc | apply pw_below_drewN | apply below_drew1 | refine below_set ?_ GE191.out | refine below_set ?_ GE204.out | refine below_set ?_ GE235.out) | exact HB.out)) hb)
                                      clear HO_3
                                      clear HO_5
                                      clear BK191
                                      clear BK204
                                      clear BK235
                                      clear HB
                                      have HO_3 := n0_
                                      have HO_5 := n1_
                                      have BK191 := n2_
                                      have BK204 := n3_
                                      have BK235 := n4_
                                      have HB := n5_
                                      clear n0_ n1_ n2_ n3_ n4_ n5_
                                      (try clear hb)
                                      (try clear hb2)
                                      (try clear hk)
                                      (try clear hi)
                                      refine hK.out _ _ ⟨((HB.out.cell (World.block_lt_of_cell? w _ hw228_0)).trans hw228_0), ((HB.out.cell (World.block_lt_of_cell? w _ hw228_1)).trans hw228_1), ((HB.out.cell (World.block_lt_of_cell? w _ hw228_2)).trans hw228_2), ((HB.out.cell (World.block_lt_of_cell? w _ hw229_0)).trans hw229_0), ((HB.out.cell (World.block_lt_of_cell? w _ hw229_1)).trans hw229_1), ((HB.out.cell (World.block_lt_of_cell? w _ hw229_2)).trans hw229_2)⟩ (fun hHeld => ?_)
                                      clear hK K
                                      refine norm_ (a' := ?_) ?_ ?_
                                      rotate_left
                                      ·show Act.put _ (some 192) _ = _
                                       simp only [Act.put, List.setIfInBounds_toArray, List.set_cons_zero, List.set_cons_succ, i64_w, i32_w]
                                       rfl
                                      refine pure_ (i := 11) (N := some 181) (v := ?_) (a' := ?_) #[true, true, true, true, true, true, true, true, true, true, true, true, false, false, true, false, false] rfl rfl (any_of HT_.out (by kernel_rfl)) (fun _ _ _ h => h) (Or.inl ⟨by rfl, ?_⟩) ?_ ?_
                                      rotate_left
                                      ·intro w'
                                       go_simp
                                       with_reducible rfl
                                      rotate_left
                                      ·simp only [Act.put, List.setIfInBounds_toArray, List.set_cons_zero, List.set_cons_succ, i64_w, i32_w]
                                       rfl
                                      refine pure_ (i := 12) (N := some 193) (v := ?_) (a' := ?_) #[true, true, true, true, true, true, true, true, true, true, true, true, true, false, true, false, false] rfl rfl (any_of HT_.out (by kernel_rfl)) (fun _ _ _ h => h) (Or.inl ⟨by rfl, ?_⟩) ?_ ?_
                                      rotate_left
                                      ·intro w'
                                       go_simp
                                       with_reducible rfl
                                      rotate_left
                                      ·simp only [Act.put, List.setIfInBounds_toArray, List.set_cons_zero, List.set_cons_succ, i64_w, i32_w]
                                       rfl
                                      refine pure_ (i := 13) (N := some 194) (v := ?_) (a' := ?_) #[true, true, true, true, true, true, true, true, true, true, true, true, true, true, true, false, false] rfl rfl (any_of HT_.out (by kernel_rfl)) (fun _ _ _ h => h) (Or.inl ⟨by rfl, ?_⟩) ?_ ?_
                                      rotate_left
                                      ·intro w'
                                       go_simp
                                       with_reducible rfl
                                      rotate_left
                                      ·simp only [Act.put, List.setIfInBounds_toArray, List.set_cons_zero, List.set_cons_succ, i64_w, i32_w]
                                       rfl
                                      exact norm_ (by simp only [putAll, Act.put, List.setIfInBounds_toArray, List.set_cons_zero, List.set_cons_succ]) (hCont (gb235) _ ⟨hHeld, (by (with_reducible repeat (first | apply Kd.R_alloc | apply Kd.R_drewN | apply Kd.R_drew)); exact HO_3.out), (by (with_reducible repeat (first | apply Kd.R_alloc | apply Kd.R_drewN | apply Kd.R_drew)); exact HO_5.out), (by (with_reducible repeat (first | refine blk_drewN ?_ _ | refine blk_drew ?_ | refine blk_alloc ?_ _)); exact BK191.out), (by (with_reducible repeat (first | refine blk_drewN ?_ _ | refine blk_drew ?_ | refine blk_alloc ?_ _)); exact BK204.out), (by (with_reducible repeat (first | refine blk_drewN ?_ _ | refine blk_drew ?_ | refine blk_alloc ?_ _)); exact BK235.out), GW235.out, GE235.out, NB191_235.out, NB235_191.out, NB204_235.out, NB235_204.out, (by repeat (first | (with_reducible first | exact HB.out | apply below_alloc | apply pw_below_drewN | apply below_drew1 | refine below_set ?_ GE191.out | refine below_set ?_ GE204.out | refine below_set ?_ GE235.out) | exact HB.out))⟩)
                                    rintro gb235 w94 ⟨hS_, h0_, h1_, h2_, h3_, h4_, h5_, h6_, h7_, h8_, h9_, h10_, h11_⟩
                                    have n0_ : Aside0 (Kd.R Kd.bool 4 w94 w.heap.size (fun _ => True) (.slice Ao25 t193.length co25) t193) := ⟨h0_⟩
                                    have n1_ : Aside0 (Kd.R k63 63 w94 w.heap.size (fun k_ => k_ ≠ gb204 ∧ k_ ≠ gb235) (.slice Ao27 t197.length co27) t197) := ⟨h1_⟩
                                    have n2_ : Aside0 (w94.heap[gb191]? = some (.cells #[.int .i64 a0_0, .slice A0_1 l0_1.length c0_1, .slice (some ad209) l0_2.length c0_2] 25 (0, 0))) := ⟨h2_⟩
                                    have n3_ : Aside0 (w94.heap[gb204]? = some (.cells #[.int .u64 x205000_69, .int .u64 x205001_69, .int .u64 x205002_69, .int .u64 x205003_69] 63 (0, 0))) := ⟨h3_⟩
                                    have n4_ : Aside0 (w94.heap[gb235]? = some (.cells #[.int .u64 0, .int .u64 0, .int .u64 0, .int .u64 0] 63 (0, 0))) := ⟨h4_⟩
                                    have n5_ : Aside0 (w.heap.size ≤ gb235) := ⟨h5_⟩
                                    have n6_ : Aside0 (w.heap.size ≤ gb235) := ⟨h6_⟩
                                    have n7_ : Aside0 (gb191 ≠ gb235) := ⟨h7_⟩
                                    have n8_ : Aside0 (gb235 ≠ gb191) := ⟨h8_⟩
                                    have n9_ : Aside0 (gb204 ≠ gb235) := ⟨h9_⟩
                                    have n10_ : Aside0 (gb235 ≠ gb204) := ⟨h10_⟩
                                    have n11_ : Aside0 (Below w.heap.size w w94) := ⟨h11_⟩
                                    clear HO_3
                                    clear HO_5
                                    clear BK191
                                    clear BK204
                                    clear HB
                                    clear h0_ h1_ h2_ h3_ h4_ h5_ h6_ h7_ h8_ h9_ h10_ h11_
                                    have HO_3 := n0_
                                    have HO_5 := n1_
                                    have BK191 := n2_
                                    have BK204 := n3_
                                    have BK235 := n4_
                                    have GW235 := n5_
                                    have GE235 := n6_
                                    have NB191_235 := n7_
                                    have NB235_191 := n8_
                                    have NB204_235 := n9_
                                    have NB235_204 := n10_
                                    have HB := n11_
                                    clear n0_ n1_ n2_ n3_ n4_ n5_ n6_ n7_ n8_ n9_ n10_ n11_
                                    have hHeld : w94.cell? (ad228.add ((x13_46).toNat * 3)) = some (.int .i64 ((rd_T68 ((rd_T58 ((rd_T55 l0_2 x10_3).f1) x11_4).f1) x13_46).f0)) ∧ w94.cell? ⟨(ad228.add ((x13_46).toNat * 3)).block, (ad228.add ((x13_46).toNat * 3)).off + 1, none⟩ = some (.int .i64 ((rd_T68 ((rd_T58 ((rd_T55 l0_2 x10_3).f1) x11_4).f1) x13_46).f1)) ∧ w94.cell? ⟨(ad228.add ((x13_46).toNat * 3)).block, (ad228.add ((x13_46).toNat * 3)).off + 2, none⟩ = some (.int .i64 ((rd_T68 ((rd_T58 ((rd_T55 l0_2 x10_3).f1) x11_4).f1) x13_46).f2)) ∧ w94.cell? (ad228.add ((x13_46).toNat * 3)) = some (.int .i64 ((rd_T68 ((rd_T58 ((rd_T55 l0_2 x10_3).f1) x11_4).f1) x13_46).f0)) ∧ w94.cell? ⟨(ad228.add ((x13_46).toNat * 3)).block, (ad228.add ((x13_46).toNat * 3)).off + 1, none⟩ = some (.int .i64 ((rd_T68 ((rd_T58 ((rd_T55 l0_2 x10_3).f1) x11_4).f1) x13_46).f1)) ∧ w94.cell? ⟨(ad228.add ((x13_46).toNat * 3)).block, (ad228.add ((x13_46).toNat * 3)).off + 2, none⟩ = some (.int .i64 ((rd_T68 ((rd_T58 ((rd_T55 l0_2 x10_3).f1) x11_4).f1) x13_46).f2)) := hS_
                                    refine norm_ (a' := ?_) ?_ ?_
                                    rotate_left
                                    ·simp only [putAll, Act.put, List.setIfInBounds_toArray, List.set_cons_zero, List.set_cons_succ]
                                     rfl
                                    refine one_ (i := 15) (N := none) #[true, true, true, true, true, true, true, true, true, true, true, true, true, true, true, true, false] rfl rfl (one_of HT_.out (by kernel_rfl)) (by decide) (fun K hK => ?_)
                                    have hs95 : w94.cell? ⟨gb235, 0, none⟩ = some (.int .u64 0) := (blk_cell BK235.out 0).trans rfl
                                    have hfs95 := blk_frozen BK235.out 0
                                    have hns95_0 := NB191_235.out
                                    have hns95_1 := NB204_235.out
                                    have hms95_0 := NB235_191.out
                                    have hms95_1 := NB235_204.out
                                    have hs96 : w94.cell? ⟨gb235, 1, none⟩ = some (.int .u64 0) := (blk_cell BK235.out 1).trans rfl
                                    have hfs96 := blk_frozen BK235.out 1
                                    have hns96_0 := NB191_235.out
                                    have hns96_1 := NB204_235.out
                                    have hms96_0 := NB235_191.out
                                    have hms96_1 := NB235_204.out
                                    have hs97 : w94.cell? ⟨gb235, 2, none⟩ = some (.int .u64 0) := (blk_cell BK235.out 2).trans rfl
                                    have hfs97 := blk_frozen BK235.out 2
                                    have hns97_0 := NB191_235.out
                                    have hns97_1 := NB204_235.out
                                    have hms97_0 := NB235_191.out
                                    have hms97_1 := NB235_204.out
                                    have hs98 : w94.cell? ⟨gb235, 3, none⟩ = some (.int .u64 0) := (blk_cell BK235.out 3).trans rfl
                                    have hfs98 := blk_frozen BK235.out 3
                                    have hns98_0 := NB191_235.out
                                    have hns98_1 := NB204_235.out
                                    have hms98_0 := NB235_191.out
                                    have hms98_1 := NB235_204.out
                                    refine skip_ (w1 := ?_) (by rfl) rfl ?_ ?_
                                    rotate_left
                                    ·go_simp
                                     rfl
                                    refine hK.out _ _ ⟨((cell_far (p := ⟨gb235, _, none⟩) (by first | exact Nat.ne_of_lt (Nat.lt_of_lt_of_le (by have := World.block_lt_of_cell? _ _ hw228_0; first | rwa [add_block] at this | exact this) GW235.out) | (rw [add_block]; exact Nat.ne_of_lt (Nat.lt_of_lt_of_le (by have := World.block_lt_of_cell? _ _ hw228_0; first | rwa [add_block] at this | exact this) GW235.out)) | (show (Addr.add _ _).block ≠ _; rw [add_block]; exact Nat.ne_of_lt (Nat.lt_of_lt_of_le (by have := World.block_lt_of_cell? _ _ hw228_0; first | rwa [add_block] at this | exact this) GW235.out)) | (dsimp only; exact Nat.ne_of_lt (Nat.lt_of_lt_of_le (by have := World.block_lt_of_cell? _ _ hw228_0; first | rwa [add_block] at this | exact this) GW235.out))) _).trans (((cell_far (p := ⟨gb235, _, none⟩) (by first | exact Nat.ne_of_lt (Nat.lt_of_lt_of_le (by have := World.block_lt_of_cell? _ _ hw228_0; first | rwa [add_block] at this | exact this) GW235.out) | (rw [add_block]; exact Nat.ne_of_lt (Nat.lt_of_lt_of_le (by have := World.block_lt_of_cell? _ _ hw228_0; first | rwa [add_block] at this | exact this) GW235.out)) | (show (Addr.add _ _).block ≠ _; rw [add_block]; exact Nat.ne_of_lt (Nat.lt_of_lt_of_le (by have := World.block_lt_of_cell? _ _ hw228_0; first | rwa [add_block] at this | exact this) GW235.out)) | (dsimp only; exact Nat.ne_of_lt (Nat.lt_of_lt_of_le (by have := World.block_lt_of_cell? _ _ hw228_0; first | rwa [add_block] at this | exact this) GW235.out))) _).trans (((cell_far (p := ⟨gb235, _, none⟩) (by first | exact Nat.ne_of_lt (Nat.lt_of_lt_of_le (by have := World.block_lt_of_cell? _ _ hw228_0; first | rwa [add_block] at this | exact this) GW235.out) | (rw [add_block]; exact Nat.ne_of_lt (Nat.lt_of_lt_of_le (by have := World.block_lt_of_cell? _ _ hw228_0; first | rwa [add_block] at this | exact this) GW235.out)) | (show (Addr.add _ _).block ≠ _; rw [add_block]; exact Nat.ne_of_lt (Nat.lt_of_lt_of_le (by have := World.block_lt_of_cell? _ _ hw228_0; first | rwa [add_block] at this | exact this) GW235.out)) | (dsimp only; exact Nat.ne_of_lt (Nat.lt_of_lt_of_le (by have := World.block_lt_of_cell? _ _ hw228_0; first | rwa [add_block] at this | exact this) GW235.out))) _).trans (((cell_far (p := ⟨gb235, _, none⟩) (by first | exact Nat.ne_of_lt (Nat.lt_of_lt_of_le (by have := World.block_lt_of_cell? _ _ hw228_0; first | rwa [add_block] at this | exact this) GW235.out) | (rw [add_block]; exact Nat.ne_of_lt (Nat.lt_of_lt_of_le (by have := World.block_lt_of_cell? _ _ hw228_0; first | rwa [add_block] at this | exact this) GW235.out)) | (show (Addr.add _ _).block ≠ _; rw [add_block]; exact Nat.ne_of_lt (Nat.lt_of_lt_of_le (by have := World.block_lt_of_cell? _ _ hw228_0; first | rwa [add_block] at this | exact this) GW235.out)) | (dsimp only; exact Nat.ne_of_lt (Nat.lt_of_lt_of_le (by have := World.block_lt_of_cell? _ _ hw228_0; first | rwa [add_block] at this | exact this) GW235.out))) _).trans (hHeld.1)))))))), ((cell_far (p := ⟨gb235, _, none⟩) (by first | exact Nat.ne_of_lt (Nat.lt_of_lt_of_le (by have := World.block_lt_of_cell? _ _ hw228_1; first | rwa [add_block] at this | exact this) GW235.out) | (rw [add_block]; exact Nat.ne_of_lt (Nat.lt_of_lt_of_le (by have := World.block_lt_of_cell? _ _ hw228_1; first | rwa [add_block] at this | exact this) GW235.out)) | (show (Addr.add _ _).block ≠ _; rw [add_block]; exact Nat.ne_of_lt (Nat.lt_of_lt_of_le (by have := World.block_lt_of_cell? _ _ hw228_1; first | rwa [add_block] at this | exact this) GW235.out)) | (dsimp only; exact Nat.ne_of_lt (Nat.lt_of_lt_of_le (by have := World.block_lt_of_cell? _ _ hw228_1; first | rwa [add_block] at this | exact this) GW235.out))) _).trans (((cell_far (p := ⟨gb235, _, none⟩) (by first | exact Nat.ne_of_lt (Nat.lt_of_lt_of_le (by have := World.block_lt_of_cell? _ _ hw228_1; first | rwa [add_block] at this | exact this) GW235.out) | (rw [add_block]; exact Nat.ne_of_lt (Nat.lt_of_lt_of_le (by have := World.block_lt_of_cell? _ _ hw228_1; first | rwa [add_block] at this | exact this) GW235.out)) | (show (Addr.add _ _).block ≠ _; rw [add_block]; exact Nat.ne_of_lt (Nat.lt_of_lt_of_le (by have := World.block_lt_of_cell? _ _ hw228_1; first | rwa [add_block] at this | exact this) GW235.out)) | (dsimp only; exact Nat.ne_of_lt (Nat.lt_of_lt_of_le (by have := World.block_lt_of_cell? _ _ hw228_1; first | rwa [add_block] at this | exact this) GW235.out))) _).trans (((cell_far (p := ⟨gb235, _, none⟩) (by first | exact Nat.ne_of_lt (Nat.lt_of_lt_of_le (by have := World.block_lt_of_cell? _ _ hw228_1; first | rwa [add_block] at this | exact this) GW235.out) | (rw [add_block]; exact Nat.ne_of_lt (Nat.lt_of_lt_of_le (by have := World.block_lt_of_cell? _ _ hw228_1; first | rwa [add_block] at this | exact this) GW235.out)) | (show (Addr.add _ _).block ≠ _; rw [add_block]; exact Nat.ne_of_lt (Nat.lt_of_lt_of_le (by have := World.block_lt_of_cell? _ _ hw228_1; first | rwa [add_block] at this | exact this) GW235.out)) | (dsimp only; exact Nat.ne_of_lt (Nat.lt_of_lt_of_le (by have := World.block_lt_of_cell? _ _ hw228_1; first | rwa [add_block] at this | exact this) GW235.out))) _).trans (((cell_far (p := ⟨gb235, _, none⟩) (by first | exact Nat.ne_of_lt (Nat.lt_of_lt_of_le (by have := World.block_lt_of_cell? _ _ hw228_1; first | rwa [add_block] at this | exact this) GW235.out) | (rw [add_block]; exact Nat.ne_of_lt (Nat.lt_of_lt_of_le (by have := World.block_lt_of_cell? _ _ hw228_1; first | rwa [add_block] at this | exact this) GW235.out)) | (show (Addr.add _ _).block ≠ _; rw [add_block]; exact Nat.ne_of_lt (Nat.lt_of_lt_of_le (by have := World.block_lt_of_cell? _ _ hw228_1; first | rwa [add_block] at this | exact this) GW235.out)) | (dsimp only; exact Nat.ne_of_lt (Nat.lt_of_lt_of_le (by have := World.block_lt_of_cell? _ _ hw228_1; first | rwa [add_block] at this | exact this) GW235.out))) _).trans (hHeld.2.1)))))))), ((cell_far (p := ⟨gb235, _, none⟩) (by first | exact Nat.ne_of_lt (Nat.lt_of_lt_of_le (by have := World.block_lt_of_cell? _ _ hw228_2; first | rwa [add_block] at this | exact this) GW235.out) | (rw [add_block]; exact Nat.ne_of_lt (Nat.lt_of_lt_of_le (by have := World.block_lt_of_cell? _ _ hw228_2; first | rwa [add_block] at this | exact this) GW235.out)) | (show (Addr.add _ _).block ≠ _; rw [add_block]; exact Nat.ne_of_lt (Nat.lt_of_lt_of_le (by have := World.block_lt_of_cell? _ _ hw228_2; first | rwa [add_block] at this | exact this) GW235.out)) | (dsimp only; exact Nat.ne_of_lt (Nat.lt_of_lt_of_le (by have := World.block_lt_of_cell? _ _ hw228_2; first | rwa [add_block] at this | exact this) GW235.out))) _).trans (((cell_far (p := ⟨gb235, _, none⟩) (by first | exact Nat.ne_of_lt (Nat.lt_of_lt_of_le (by have := World.block_lt_of_cell? _ _ hw228_2; first | rwa [add_block] at this | exact this) GW235.out) | (rw [add_block]; exact Nat.ne_of_lt (Nat.lt_of_lt_of_le (by have := World.block_lt_of_cell? _ _ hw228_2; first | rwa [add_block] at this | exact this) GW235.out)) | (show (Addr.add _ _).block ≠ _; rw [add_block]; exact Nat.ne_of_lt (Nat.lt_of_lt_of_le (by have := World.block_lt_of_cell? _ _ hw228_2; first | rwa [add_block] at this | exact this) GW235.out)) | (dsimp only; exact Nat.ne_of_lt (Nat.lt_of_lt_of_le (by have := World.block_lt_of_cell? _ _ hw228_2; first | rwa [add_block] at this | exact this) GW235.out))) _).trans (((cell_far (p := ⟨gb235, _, none⟩) (by first | exact Nat.ne_of_lt (Nat.lt_of_lt_of_le (by have := World.block_lt_of_cell? _ _ hw228_2; first | rwa [add_block] at this | exact this) GW235.out) | (rw [add_block]; exact Nat.ne_of_lt (Nat.lt_of_lt_of_le (by have := World.block_lt_of_cell? _ _ hw228_2; first | rwa [add_block] at this | exact this) GW235.out)) | (show (Addr.add _ _).block ≠ _; rw [add_block]; exact Nat.ne_of_lt (Nat.lt_of_lt_of_le (by have := World.block_lt_of_cell? _ _ hw228_2; first | rwa [add_block] at this | exact this) GW235.out)) | (dsimp only; exact Nat.ne_of_lt (Nat.lt_of_lt_of_le (by have := World.block_lt_of_cell? _ _ hw228_2; first | rwa [add_block] at this | exact this) GW235.out))) _).trans (((cell_far (p := ⟨gb235, _, none⟩) (by first | exact Nat.ne_of_lt (Nat.lt_of_lt_of_le (by have := World.block_lt_of_cell? _ _ hw228_2; first | rwa [add_block] at this | exact this) GW235.out) | (rw [add_block]; exact Nat.ne_of_lt (Nat.lt_of_lt_of_le (by have := World.block_lt_of_cell? _ _ hw228_2; first | rwa [add_block] at this | exact this) GW235.out)) | (show (Addr.add _ _).block ≠ _; rw [add_block]; exact Nat.ne_of_lt (Nat.lt_of_lt_of_le (by have := World.block_lt_of_cell? _ _ hw228_2; first | rwa [add_block] at this | exact this) GW235.out)) | (dsimp only; exact Nat.ne_of_lt (Nat.lt_of_lt_of_le (by have := World.block_lt_of_cell? _ _ hw228_2; first | rwa [add_block] at this | exact this) GW235.out))) _).trans (hHeld.2.2.1)))))))), ((cell_far (p := ⟨gb235, _, none⟩) (by first | exact Nat.ne_of_lt (Nat.lt_of_lt_of_le (by have := World.block_lt_of_cell? _ _ hw229_0; first | rwa [add_block] at this | exact this) GW235.out) | (rw [add_block]; exact Nat.ne_of_lt (Nat.lt_of_lt_of_le (by have := World.block_lt_of_cell? _ _ hw229_0; first | rwa [add_block] at this | exact this) GW235.out)) | (show (Addr.add _ _).block ≠ _; rw [add_block]; exact Nat.ne_of_lt (Nat.lt_of_lt_of_le (by have := World.block_lt_of_cell? _ _ hw229_0; first | rwa [add_block] at this | exact this) GW235.out)) | (dsimp only; exact Nat.ne_of_lt (Nat.lt_of_lt_of_le (by have := World.block_lt_of_cell? _ _ hw229_0; first | rwa [add_block] at this | exact this) GW235.out))) _).trans (((cell_far (p := ⟨gb235, _, none⟩) (by first | exact Nat.ne_of_lt (Nat.lt_of_lt_of_le (by have := World.block_lt_of_cell? _ _ hw229_0; first | rwa [add_block] at this | exact this) GW235.out) | (rw [add_block]; exact Nat.ne_of_lt (Nat.lt_of_lt_of_le (by have := World.block_lt_of_cell? _ _ hw229_0; first | rwa [add_block] at this | exact this) GW235.out)) | (show (Addr.add _ _).block ≠ _; rw [add_block]; exact Nat.ne_of_lt (Nat.lt_of_lt_of_le (by have := World.block_lt_of_cell? _ _ hw229_0; first | rwa [add_block] at this | exact this) GW235.out)) | (dsimp only; exact Nat.ne_of_lt (Nat.lt_of_lt_of_le (by have := World.block_lt_of_cell? _ _ hw229_0; first | rwa [add_block] at this | exact this) GW235.out))) _).trans (((cell_far (p := ⟨gb235, _, none⟩) (by first | exact Nat.ne_of_lt (Nat.lt_of_lt_of_le (by have := World.block_lt_of_cell? _ _ hw229_0; first | rwa [add_block] at this | exact this) GW235.out) | (rw [add_block]; exact Nat.ne_of_lt (Nat.lt_of_lt_of_le (by have := World.block_lt_of_cell? _ _ hw229_0; first | rwa [add_block] at this | exact this) GW235.out)) | (show (Addr.add _ _).block ≠ _; rw [add_block]; exact Nat.ne_of_lt (Nat.lt_of_lt_of_le (by have := World.block_lt_of_cell? _ _ hw229_0; first | rwa [add_block] at this | exact this) GW235.out)) | (dsimp only; exact Nat.ne_of_lt (Nat.lt_of_lt_of_le (by have := World.block_lt_of_cell? _ _ hw229_0; first | rwa [add_block] at this | exact this) GW235.out))) _).trans (((cell_far (p := ⟨gb235, _, none⟩) (by first | exact Nat.ne_of_lt (Nat.lt_of_lt_of_le (by have := World.block_lt_of_cell? _ _ hw229_0; first | rwa [add_block] at this | exact this) GW235.out) | (rw [add_block]; exact Nat.ne_of_lt (Nat.lt_of_lt_of_le (by have := World.block_lt_of_cell? _ _ hw229_0; first | rwa [add_block] at this | exact this) GW235.out)) | (show (Addr.add _ _).block ≠ _; rw [add_block]; exact Nat.ne_of_lt (Nat.lt_of_lt_of_le (by have := World.block_lt_of_cell? _ _ hw229_0; first | rwa [add_block] at this | exact this) GW235.out)) | (dsimp only; exact Nat.ne_of_lt (Nat.lt_of_lt_of_le (by have := World.block_lt_of_cell? _ _ hw229_0; first | rwa [add_block] at this | exact this) GW235.out))) _).trans (hHeld.2.2.2.1)))))))), ((cell_far (p := ⟨gb235, _, none⟩) (by first | exact Nat.ne_of_lt (Nat.lt_of_lt_of_le (by have := World.block_lt_of_cell? _ _ hw229_1; first | rwa [add_block] at this | exact this) GW235.out) | (rw [add_block]; exact Nat.ne_of_lt (Nat.lt_of_lt_of_le (by have := World.block_lt_of_cell? _ _ hw229_1; first | rwa [add_block] at this | exact this) GW235.out)) | (show (Addr.add _ _).block ≠ _; rw [add_block]; exact Nat.ne_of_lt (Nat.lt_of_lt_of_le (by have := World.block_lt_of_cell? _ _ hw229_1; first | rwa [add_block] at this | exact this) GW235.out)) | (dsimp only; exact Nat.ne_of_lt (Nat.lt_of_lt_of_le (by have := World.block_lt_of_cell? _ _ hw229_1; first | rwa [add_block] at this | exact this) GW235.out))) _).trans (((cell_far (p := ⟨gb235, _, none⟩) (by first | exact Nat.ne_of_lt (Nat.lt_of_lt_of_le (by have := World.block_lt_of_cell? _ _ hw229_1; first | rwa [add_block] at this | exact this) GW235.out) | (rw [add_block]; exact Nat.ne_of_lt (Nat.lt_of_lt_of_le (by have := World.block_lt_of_cell? _ _ hw229_1; first | rwa [add_block] at this | exact this) GW235.out)) | (show (Addr.add _ _).block ≠ _; rw [add_block]; exact Nat.ne_of_lt (Nat.lt_of_lt_of_le (by have := World.block_lt_of_cell? _ _ hw229_1; first | rwa [add_block] at this | exact this) GW235.out)) | (dsimp only; exact Nat.ne_of_lt (Nat.lt_of_lt_of_le (by have := World.block_lt_of_cell? _ _ hw229_1; first | rwa [add_block] at this | exact this) GW235.out))) _).trans (((cell_far (p := ⟨gb235, _, none⟩) (by first | exact Nat.ne_of_lt (Nat.lt_of_lt_of_le (by have := World.block_lt_of_cell? _ _ hw229_1; first | rwa [add_block] at this | exact this) GW235.out) | (rw [add_block]; exact Nat.ne_of_lt (Nat.lt_of_lt_of_le (by have := World.block_lt_of_cell? _ _ hw229_1; first | rwa [add_block] at this | exact this) GW235.out)) | (show (Addr.add _ _).block ≠ _; rw [add_block]; exact Nat.ne_of_lt (Nat.lt_of_lt_of_le (by have := World.block_lt_of_cell? _ _ hw229_1; first | rwa [add_block] at this | exact this) GW235.out)) | (dsimp only; exact Nat.ne_of_lt (Nat.lt_of_lt_of_le (by have := World.block_lt_of_cell? _ _ hw229_1; first | rwa [add_block] at this | exact this) GW235.out))) _).trans (((cell_far (p := ⟨gb235, _, none⟩) (by first | exact Nat.ne_of_lt (Nat.lt_of_lt_of_le (by have := World.block_lt_of_cell? _ _ hw229_1; first | rwa [add_block] at this | exact this) GW235.out) | (rw [add_block]; exact Nat.ne_of_lt (Nat.lt_of_lt_of_le (by have := World.block_lt_of_cell? _ _ hw229_1; first | rwa [add_block] at this | exact this) GW235.out)) | (show (Addr.add _ _).block ≠ _; rw [add_block]; exact Nat.ne_of_lt (Nat.lt_of_lt_of_le (by have := World.block_lt_of_cell? _ _ hw229_1; first | rwa [add_block] at this | exact this) GW235.out)) | (dsimp only; exact Nat.ne_of_lt (Nat.lt_of_lt_of_le (by have := World.block_lt_of_cell? _ _ hw229_1; first | rwa [add_block] at this | exact this) GW235.out))) _).trans (hHeld.2.2.2.2.1)))))))), ((cell_far (p := ⟨gb235, _, none⟩) (by first | exact Nat.ne_of_lt (Nat.lt_of_lt_of_le (by have := World.block_lt_of_cell? _ _ hw229_2; first | rwa [add_block] at this | exact this) GW235.out) | (rw [add_block]; exact Nat.ne_of_lt (Nat.lt_of_lt_of_le (by have := World.block_lt_of_cell? _ _ hw229_2; first | rwa [add_block] at this | exact this) GW235.out)) | (show (Addr.add _ _).block ≠ _; rw [add_block]; exact Nat.ne_of_lt (Nat.lt_of_lt_of_le (by have := World.block_lt_of_cell? _ _ hw229_2; first | rwa [add_block] at this | exact this) GW235.out)) | (dsimp only; exact Nat.ne_of_lt (Nat.lt_of_lt_of_le (by have := World.block_lt_of_cell? _ _ hw229_2; first | rwa [add_block] at this | exact this) GW235.out))) _).trans (((cell_far (p := ⟨gb235, _, none⟩) (by first | exact Nat.ne_of_lt (Nat.lt_of_lt_of_le (by have := World.block_lt_of_cell? _ _ hw229_2; first | rwa [add_block] at this | exact this) GW235.out) | (rw [add_block]; exact Nat.ne_of_lt (Nat.lt_of_lt_of_le (by have := World.block_lt_of_cell? _ _ hw229_2; first | rwa [add_block] at this | exact this) GW235.out)) | (show (Addr.add _ _).block ≠ _; rw [add_block]; exact Nat.ne_of_lt (Nat.lt_of_lt_of_le (by have := World.block_lt_of_cell? _ _ hw229_2; first | rwa [add_block] at this | exact this) GW235.out)) | (dsimp only; exact Nat.ne_of_lt (Nat.lt_of_lt_of_le (by have := World.block_lt_of_cell? _ _ hw229_2; first | rwa [add_block] at this | exact this) GW235.out))) _).trans (((cell_far (p := ⟨gb235, _, none⟩) (by first | exact Nat.ne_of_lt (Nat.lt_of_lt_of_le (by have := World.block_lt_of_cell? _ _ hw229_2; first | rwa [add_block] at this | exact this) GW235.out) | (rw [add_block]; exact Nat.ne_of_lt (Nat.lt_of_lt_of_le (by have := World.block_lt_of_cell? _ _ hw229_2; first | rwa [add_block] at this | exact this) GW235.out)) | (show (Addr.add _ _).block ≠ _; rw [add_block]; exact Nat.ne_of_lt (Nat.lt_of_lt_of_le (by have := World.block_lt_of_cell? _ _ hw229_2; first | rwa [add_block] at this | exact this) GW235.out)) | (dsimp only; exact Nat.ne_of_lt (Nat.lt_of_lt_of_le (by have := World.block_lt_of_cell? _ _ hw229_2; first | rwa [add_block] at this | exact this) GW235.out))) _).trans (((cell_far (p := ⟨gb235, _, none⟩) (by first | exact Nat.ne_of_lt (Nat.lt_of_lt_of_le (by have := World.block_lt_of_cell? _ _ hw229_2; first | rwa [add_block] at this | exact this) GW235.out) | (rw [add_block]; exact Nat.ne_of_lt (Nat.lt_of_lt_of_le (by have := World.block_lt_of_cell? _ _ hw229_2; first | rwa [add_block] at this | exact this) GW235.out)) | (show (Addr.add _ _).block ≠ _; rw [add_block]; exact Nat.ne_of_lt (Nat.lt_of_lt_of_le (by have := World.block_lt_of_cell? _ _ hw229_2; first | rwa [add_block] at this | exact this) GW235.out)) | (dsimp only; exact Nat.ne_of_lt (Nat.lt_of_lt_of_le (by have := World.block_lt_of_cell? _ _ hw229_2; first | rwa [add_block] at this | exact this) GW235.out))) _).trans (hHeld.2.2.2.2.2))))))))⟩ (fun hHeld => ?_)
                                    clear hK K
                                    refine pure_ (i := 16) (N := some 15) (v := ?_) (a' := ?_) #[true, true, true, true, true, true, true, true, true, true, true, true, true, true, true, true, true] rfl rfl (any_of HT_.out (by kernel_rfl)) (fun _ _ _ h => h) (Or.inl ⟨by rfl, ?_⟩) ?_ ?_
                                    rotate_left
                                    ·intro w'
                                     go_simp
                                     with_reducible rfl
                                    rotate_left
                                    ·simp only [Act.put, List.setIfInBounds_toArray, List.set_cons_zero, List.set_cons_succ, i64_w, i32_w]
                                     rfl
                                    refine done_ (done_of HT_.out (by kernel_rfl)) ?_
                                    have hnb99 := NB204_191.out
                                    have hnc99 := NB191_204.out
                                    have hnb100 := NB204_235.out
                                    have hnc100 := NB235_204.out
                                    have hcz101_0 : w94.cell? ⟨gb204, 0, none⟩ = some (.int .u64 x205000_69) := (blk_cell BK204.out 0).trans rfl
                                    have hcz101_1 : w94.cell? ⟨gb204, 1, none⟩ = some (.int .u64 x205001_69) := (blk_cell BK204.out 1).trans rfl
                                    have hcz101_2 : w94.cell? ⟨gb204, 2, none⟩ = some (.int .u64 x205002_69) := (blk_cell BK204.out 2).trans rfl
                                    have hcz101_3 : w94.cell? ⟨gb204, 3, none⟩ = some (.int .u64 x205003_69) := (blk_cell BK204.out 3).trans rfl
                                    have hfz101_0 := blk_frozen BK204.out 0
                                    have hfz101_1 := blk_frozen BK204.out 1
                                    have hfz101_2 := blk_frozen BK204.out 2
                                    have hfz101_3 := blk_frozen BK204.out 3
                                    have hnb102 := NB235_191.out
                                    have hnc102 := NB191_235.out
                                    have hcz103_0 : w94.cell? ⟨gb235, 0, none⟩ = some (.int .u64 0) := (blk_cell BK235.out 0).trans rfl
                                    have hcz103_1 : w94.cell? ⟨gb235, 1, none⟩ = some (.int .u64 0) := (blk_cell BK235.out 1).trans rfl
                                    have hcz103_2 : w94.cell? ⟨gb235, 2, none⟩ = some (.int .u64 0) := (blk_cell BK235.out 2).trans rfl
                                    have hcz103_3 : w94.cell? ⟨gb235, 3, none⟩ = some (.int .u64 0) := (blk_cell BK235.out 3).trans rfl
                                    have hfz103_0 := blk_frozen BK235.out 0
                                    have hfz103_1 := blk_frozen BK235.out 1
                                    have hfz103_2 := blk_frozen BK235.out 2
                                    have hfz103_3 := blk_frozen BK235.out 3
                                    try go_wp2_with (first | ((with_reducible refine gate_callee (f := 26) rfl ?_); refine goesL_ (some 197) rfl rfl Try.func26 (by kernel_rfl) rfl #[.int .i64 0, .agg #[.int .u64 x205000_69, .int .u64 x205001_69, .int .u64 x205002_69, .int .u64 x205003_69], .agg #[.int .u64 t230, .int .u64 t231, .int .u64 t232, .int .u64 t233]] rfl (by (try simp only [List.map_toArray, List.map_cons, List.map_nil]); first | done | rfl | (simp only [List.length_drop, List.length_take]; rfl)) ?_; (with_reducible refine (templeref1_Mix.calls 0 x205000_69 x205001_69 x205002_69 x205003_69 t230 t231 t232 t233 t236 t237 t238 t239 _ A90.out).mono ?_); rintro e w104 ⟨rfl, hb⟩; refine ⟨_, rfl, ?_⟩; have n0_ := Aside0.mk (Kd.R_below (by (with_reducible repeat (first | apply Kd.R_alloc | apply Kd.R_drewN | apply Kd.R_drew)); exact (Kd.R_mono (Kd.R_far (p := ⟨gb235, 3, none⟩) (Kd.R_far (p := ⟨gb235, 2, none⟩) (Kd.R_far (p := ⟨gb235, 1, none⟩) (Kd.R_far (p := ⟨gb235, 0, none⟩) (Kd.R_types HO_3.out BK235.out (by decide)) (fun _ hk => hk.2) (.int .u64 t230)) (fun _ hk => hk.2) (.int .u64 t231)) (fun _ hk => hk.2) (.int .u64 t232)) (fun _ hk => hk.2) (.int .u64 t233)) (fun _ h_ => h_.1))) hb); have n1_ := Aside0.mk (Kd.R_below (by (with_reducible repeat (first | apply Kd.R_alloc | apply Kd.R_drewN | apply Kd.R_drew)); exact (Kd.R_mono (Kd.R_far (p := ⟨gb235, 3, none⟩) (Kd.R_far (p := ⟨gb235, 2, none⟩) (Kd.R_far (p := ⟨gb235, 1, none⟩) (Kd.R_far (p := ⟨gb235, 0, none⟩) (Kd.R_mono HO_5.out (fun k_ hk => (⟨hk, hk.2⟩ : _ ∧ k_ ≠ gb235))) (fun _ hk => hk.2) (.int .u64 t230)) (fun _ hk => hk.2) (.int .u64 t231)) (fun _ hk => hk.2) (.int .u64 t232)) (fun _ hk => hk.2) (.int .u64 t233)) (fun _ h_ => h_.1))) hb); have n2_ := Aside0.mk (blk_below (g := gb191) (o := .cells #[.int .i64 a0_0, .slice A0_1 l0_1.length c0_1, .slice (some ad209) l0_2.length c0_2] 25 (0, 0)) (by (with_reducible repeat (first | refine blk_drewN ?_ _ | refine blk_drew ?_ | refine blk_alloc ?_ _)); refine blk_far ?_ NB191_235.out _; (with_reducible repeat (first | refine blk_drewN ?_ _ | refine blk_drew ?_ | refine blk_alloc ?_ _)); refine blk_far ?_ NB191_235.out _; (with_reducible repeat (first | refine blk_drewN ?_ _ | refine blk_drew ?_ | refine blk_alloc ?_ _)); refine blk_far ?_ NB191_235.out _; (with_reducible repeat (first | refine blk_drewN ?_ _ | refine blk_drew ?_ | refine blk_alloc ?_ _)); refine blk_far ?_ NB191_235.out _; (with_reducible repeat (first | refine blk_drewN ?_ _ | refine blk_drew ?_ | refine blk_alloc ?_ _)); exact BK191.out) hb); have n3_ := Aside0.mk (blk_below (g := gb204) (o := .cells #[.int .u64 x205000_69, .int .u64 x205001_69, .int .u64 x205002_69, .int .u64 x205003_69] 63 (0, 0)) (by (with_reducible repeat (first | refine blk_drewN ?_ _ | refine blk_drew ?_ | refine blk_alloc ?_ _)); refine blk_far ?_ NB204_235.out _; (with_reducible repeat (first | refine blk_drewN ?_ _ | refine blk_drew ?_ | refine blk_alloc ?_ _)); refine blk_far ?_ NB204_235.out _; (with_reducible repeat (first | refine blk_drewN ?_ _ | refine blk_drew ?_ | refine blk_alloc ?_ _)); refine blk_far ?_ NB204_235.out _; (with_reducible repeat (first | refine blk_drewN ?_ _ | refine blk_drew ?_ | refine blk_alloc ?_ _)); refine blk_far ?_ NB204_235.out _; (with_reducible repeat (first | refine blk_drewN ?_ _ | refine blk_drew ?_ | refine blk_alloc ?_ _)); exact BK204.out) hb); have n4_ := Aside0.mk (blk_below (g := gb235) (o := .cells #[.int .u64 t230, .int .u64 t231, .int .u64 t232, .int .u64 t233] 63 (0, 0)) (by (with_reducible repeat (first | refine blk_drewN ?_ _ | refine blk_drew ?_ | refine blk_alloc ?_ _)); refine blk_put (cs := #[.int .u64 t230, .int .u64 t231, .int .u64 t232, .int .u64 0]) ?_ 3 _ rfl; (with_reducible repeat (first | refine blk_drewN ?_ _ | refine blk_drew ?_ | refine blk_alloc ?_ _)); refine blk_put (cs := #[.int .u64 t230, .int .u64 t231, .int .u64 0, .int .u64 0]) ?_ 2 _ rfl; (with_reducible repeat (first | refine blk_drewN ?_ _ | refine blk_drew ?_ | refine blk_alloc ?_ _)); refine blk_put (cs := #[.int .u64 t230, .int .u64 0, .int .u64 0, .int .u64 0]) ?_ 1 _ rfl; (with_reducible repeat (first | refine blk_drewN ?_ _ | refine blk_drew ?_ | refine blk_alloc ?_ _)); refine blk_put (cs := #[.int .u64 0, .int .u64 0, .int .u64 0, .int .u64 0]) ?_ 0 _ rfl; (with_reducible repeat (first | refine blk_drewN ?_ _ | refine blk_drew ?_ | refine blk_alloc ?_ _)); exact BK235.out) hb); have n5_ := Aside0.mk (below_step (by repeat (first | (with_reducible first | exact HB.out | apply below_alloc | apply pw_below_drewN | apply below_drew1 | refine below_set ?_ GE191.out | refine below_set ?_ GE204.out | refine below_set ?_ GE235.out) | exact HB.out)) hb); clear HO_3; clear HO_5; clear BK191; clear BK204; clear BK235; clear HB; have HO_3 := n0_; have HO_5 := n1_; have BK191 := n2_; have BK204 := n3_; have BK235 := n4_; have HB := n5_; clear n0_ n1_ n2_ n3_ n4_ n5_; (try clear hb); have hcz105_0 : w104.cell? ⟨gb204, 0, none⟩ = some (.int .u64 x205000_69) := (blk_cell BK204.out 0).trans rfl; have hcz105_1 : w104.cell? ⟨gb204, 1, none⟩ = some (.int .u64 x205001_69) := (blk_cell BK204.out 1).trans rfl; have hcz105_2 : w104.cell? ⟨gb204, 2, none⟩ = some (.int .u64 x205002_69) := (blk_cell BK204.out 2).trans rfl; have hcz105_3 : w104.cell? ⟨gb204, 3, none⟩ = some (.int .u64 x205003_69) := (blk_cell BK204.out 3).trans rfl; have hfz105_0 := blk_frozen BK204.out 0; have hfz105_1 := blk_frozen BK204.out 1; have hfz105_2 := blk_frozen BK204.out 2; have hfz105_3 := blk_frozen BK204.out 3))
                                    go_roundg kj82
                                    case measure => have := HJ5.out; have := HK2.out; have := HK3.out; have := HK4.out; have := HJ33.out; have := HJ46.out; have := HJ64.out; have := HJ66.out; have := HJ69.out; have := HJ82.out; omega
                                    case rel => exact ⟨(x8_64), (wrap64 (x11_4 + 1)), (t236), (t237), (t238), (t239), (by first | rfl | (simp; done) | (simp [i64_w]; done) | (simp [*]; done) | (simp [*, i64_w]; done) | (simp [*]; unfold wrap64; omega)), (by first | rfl | (simp; done) | (simp [i64_w]; done) | (simp [*]; done) | (simp [*, i64_w]; done) | (simp [*]; unfold wrap64; omega)), H', ⟨by have := HJ5.out; have := HK2.out; have := HK3.out; have := HK4.out; have := HJ33.out; have := HJ46.out; have := HJ64.out; have := HJ66.out; have := HJ69.out; have := HJ82.out; omega⟩, ⟨by (with_reducible repeat (first | apply Kd.R_alloc | apply Kd.R_drewN | apply Kd.R_drew)); exact Kd.R_mono (Kd.R_far (p := ⟨gb204, 3, none⟩) (Kd.R_far (p := ⟨gb204, 2, none⟩) (Kd.R_far (p := ⟨gb204, 1, none⟩) (Kd.R_far (p := ⟨gb204, 0, none⟩) (Kd.R_types HO_3.out BK204.out (by decide)) (fun _ hk => hk.2) (.int .u64 t236)) (fun _ hk => hk.2) (.int .u64 t237)) (fun _ hk => hk.2) (.int .u64 t238)) (fun _ hk => hk.2) (.int .u64 t239)) (fun _ hk => trivial)⟩, ⟨by (with_reducible repeat (first | apply Kd.R_alloc | apply Kd.R_drewN | apply Kd.R_drew)); exact Kd.R_mono (Kd.R_far (p := ⟨gb204, 3, none⟩) (Kd.R_far (p := ⟨gb204, 2, none⟩) (Kd.R_far (p := ⟨gb204, 1, none⟩) (Kd.R_far (p := ⟨gb204, 0, none⟩) (Kd.R_mono HO_5.out (fun k_ hk => (⟨hk, hk.1⟩ : _ ∧ k_ ≠ gb204))) (fun _ hk => hk.2) (.int .u64 t236)) (fun _ hk => hk.2) (.int .u64 t237)) (fun _ hk => hk.2) (.int .u64 t238)) (fun _ hk => hk.2) (.int .u64 t239)) (fun _ hk => hk.1.1)⟩, ⟨by (with_reducible repeat (first | refine blk_drewN ?_ _ | refine blk_drew ?_ | refine blk_alloc ?_ _)); refine blk_far ?_ NB191_204.out _; (with_reducible repeat (first | refine blk_drewN ?_ _ | refine blk_drew ?_ | refine blk_alloc ?_ _)); refine blk_far ?_ NB191_204.out _; (with_reducible repeat (first | refine blk_drewN ?_ _ | refine blk_drew ?_ | refine blk_alloc ?_ _)); refine blk_far ?_ NB191_204.out _; (with_reducible repeat (first | refine blk_drewN ?_ _ | refine blk_drew ?_ | refine blk_alloc ?_ _)); refine blk_far ?_ NB191_204.out _; (with_reducible repeat (first | refine blk_drewN ?_ _ | refine blk_drew ?_ | refine blk_alloc ?_ _)); exact BK191.out⟩, ⟨by (with_reducible repeat (first | refine blk_drewN ?_ _ | refine blk_drew ?_ | refine blk_alloc ?_ _)); refine blk_put (cs := #[.int .u64 t236, .int .u64 t237, .int .u64 t238, .int .u64 x205003_69]) ?_ 3 _ rfl; (with_reducible repeat (first | refine blk_drewN ?_ _ | refine blk_drew ?_ | refine blk_alloc ?_ _)); refine blk_put (cs := #[.int .u64 t236, .int .u64 t237, .int .u64 x205002_69, .int .u64 x205003_69]) ?_ 2 _ rfl; (with_reducible repeat (first | refine blk_drewN ?_ _ | refine blk_drew ?_ | refine blk_alloc ?_ _)); refine blk_put (cs := #[.int .u64 t236, .int .u64 x205001_69, .int .u64 x205002_69, .int .u64 x205003_69]) ?_ 1 _ rfl; (with_reducible repeat (first | refine blk_drewN ?_ _ | refine blk_drew ?_ | refine blk_alloc ?_ _)); refine blk_put (cs := #[.int .u64 x205000_69, .int .u64 x205001_69, .int .u64 x205002_69, .int .u64 x205003_69]) ?_ 0 _ rfl; (with_reducible repeat (first | refine blk_drewN ?_ _ | refine blk_drew ?_ | refine blk_alloc ?_ _)); exact BK204.out⟩, ⟨by repeat (first | (with_reducible first | exact HB.out | apply below_alloc | apply pw_below_drewN | apply below_drew1 | refine below_set ?_ GE191.out | refine below_set ?_ GE204.out | refine below_set ?_ GE235.out) | exact HB.out)⟩⟩
                                   ·rw [if_neg c88] at H
                                    exact absurd H (by simp)
                                  ·rw [if_neg c87] at H
                                   exact absurd H (by simp)
                                 ·replace c86 := Bool.eq_false_iff.mpr c86
                                  subst c86
                                  have H1 : (templelaw12_FirstsHold.l2 kj82 t193 t197 x7_2 x8_64 x10_3 (wrap64 (x11_4 + 1)) a0_0 l0_1 l0_2 x205000_69 x205001_69 x205002_69 x205003_69) = some r := by rw [if_neg (show ¬ (false = true) by decide)] at H; exact H
                                  clear H
                                  have H := H1
                                  clear H1
                                  have H' := Aside0.mk H
                                  clear H
                                  go_wp2
                                  go_roundg kj82
                                  case measure => have := HJ5.out; have := HK2.out; have := HK3.out; have := HK4.out; have := HJ33.out; have := HJ46.out; have := HJ64.out; have := HJ66.out; have := HJ69.out; have := HJ82.out; omega
                                  case rel => exact ⟨(x8_64), (wrap64 (x11_4 + 1)), (x205000_69), (x205001_69), (x205002_69), (x205003_69), (by first | rfl | (simp; done) | (simp [i64_w]; done) | (simp [*]; done) | (simp [*, i64_w]; done) | (simp [*]; unfold wrap64; omega)), (by first | rfl | (simp; done) | (simp [i64_w]; done) | (simp [*]; done) | (simp [*, i64_w]; done) | (simp [*]; unfold wrap64; omega)), H', ⟨by have := HJ5.out; have := HK2.out; have := HK3.out; have := HK4.out; have := HJ33.out; have := HJ46.out; have := HJ64.out; have := HJ66.out; have := HJ69.out; have := HJ82.out; omega⟩, ⟨by (with_reducible repeat (first | apply Kd.R_alloc | apply Kd.R_drewN | apply Kd.R_drew)); exact HO_3.out⟩, ⟨by (with_reducible repeat (first | apply Kd.R_alloc | apply Kd.R_drewN | apply Kd.R_drew)); exact HO_5.out⟩, ⟨by (with_reducible repeat (first | refine blk_drewN ?_ _ | refine blk_drew ?_ | refine blk_alloc ?_ _)); exact BK191.out⟩, ⟨by (with_reducible repeat (first | refine blk_drewN ?_ _ | refine blk_drew ?_ | refine blk_alloc ?_ _)); exact BK204.out⟩, ⟨by repeat (first | (with_reducible first | exact HB.out | apply below_alloc | apply pw_below_drewN | apply below_drew1 | refine below_set ?_ GE191.out | refine below_set ?_ GE204.out) | exact HB.out)⟩⟩
                      ·rw [if_neg c46] at H
                       exact absurd H (by simp)
                     ·rw [if_neg c45] at H
                      exact absurd H (by simp)
                    ·rw [if_neg c44] at H
                     exact absurd H (by simp)
                   ·rw [if_neg c43] at H
                    exact absurd H (by simp)
                  ·replace c42 := Bool.eq_false_iff.mpr c42
                   subst c42
                   have H1 : (templelaw12_FirstsHold.l1 kj33 t193 t197 x7_2 x8_4 (wrap64 (x10_3 + 1)) a0_0 l0_1 l0_2 x205000_4 x205001_4 x205002_4 x205003_4) = some r := by rw [if_neg (show ¬ (false = true) by decide)] at H; exact H
                   clear H
                   have H := H1
                   clear H1
                   have H' := Aside0.mk H
                   clear H
                   go_wp2
                   go_roundg kj33
                   case measure => have := HJ5.out; have := HK2.out; have := HK3.out; have := HK4.out; have := HJ33.out; omega
                   case rel => exact ⟨(x8_4), (wrap64 (x10_3 + 1)), (x205000_4), (x205001_4), (x205002_4), (x205003_4), (by first | rfl | (simp; done) | (simp [i64_w]; done) | (simp [*]; done) | (simp [*, i64_w]; done) | (simp [*]; unfold wrap64; omega)), (by first | rfl | (simp; done) | (simp [i64_w]; done) | (simp [*]; done) | (simp [*, i64_w]; done) | (simp [*]; unfold wrap64; omega)), H', ⟨by have := HJ5.out; have := HK2.out; have := HK3.out; have := HK4.out; have := HJ33.out; omega⟩, ⟨by (with_reducible repeat (first | apply Kd.R_alloc | apply Kd.R_drewN | apply Kd.R_drew)); exact HO_3.out⟩, ⟨by (with_reducible repeat (first | apply Kd.R_alloc | apply Kd.R_drewN | apply Kd.R_drew)); exact HO_5.out⟩, ⟨by (with_reducible repeat (first | refine blk_drewN ?_ _ | refine blk_drew ?_ | refine blk_alloc ?_ _)); exact BK191.out⟩, ⟨by (with_reducible repeat (first | refine blk_drewN ?_ _ | refine blk_drew ?_ | refine blk_alloc ?_ _)); exact BK204.out⟩, ⟨by repeat (first | (with_reducible first | exact HB.out | apply below_alloc | apply pw_below_drewN | apply below_drew1 | refine below_set ?_ GE191.out | refine below_set ?_ GE204.out) | exact HB.out)⟩⟩
             ·rw [if_neg c31] at H
              have c31b0 : decide (x10_3 < (l0_2.length : Int)) = false := decide_eq_false c31
              clear c31
              by_cases c106 : 0 ≤ x7_2
              ·rw [if_pos c106] at H
               have c106b0 : decide (0 ≤ x7_2) = true := decide_eq_true c106
               clear c106
               by_cases c107 : x7_2 < (t193.length : Int)
               ·rw [if_pos c107] at H
                have c107b0 : decide (x7_2 < (t193.length : Int)) = true := decide_eq_true c107
                clear c107
                by_cases c108 : ((rdOf false t193 x7_2) != x8_3) = true
                ·rw [if_pos c108] at H
                 exact absurd H (by simp)
                ·rw [if_neg c108] at H
                 have c108b0 : ((rdOf false t193 x7_2) != x8_3) = false := by simpa using c108
                 (try (have c108b1 : decide ((rdOf false t193 x7_2) = x8_3) = true := by simpa using c108))
                 (try (have c108b2 : ((rdOf false t193 x7_2) == x8_3) = true := by simpa using c108))
                 clear c108
                 by_cases c109 : x7_2 < (t197.length : Int)
                 ·rw [if_pos c109] at H
                  have c109b0 : decide (x7_2 < (t197.length : Int)) = true := decide_eq_true c109
                  clear c109
                  by_cases c110 : (!(((rd_T63 t197 x7_2).f0) == x205000_3) || (!(((rd_T63 t197 x7_2).f1) == x205001_3) || (!(((rd_T63 t197 x7_2).f2) == x205002_3) || (!(((rd_T63 t197 x7_2).f3) == x205003_3))))) = true
                  ·rw [if_pos c110] at H
                   exact absurd H (by simp)
                  ·rw [if_neg c110] at H
                   have c110b0 : (!(((rd_T63 t197 x7_2).f0) == x205000_3) || (!(((rd_T63 t197 x7_2).f1) == x205001_3) || (!(((rd_T63 t197 x7_2).f2) == x205002_3) || (!(((rd_T63 t197 x7_2).f3) == x205003_3))))) = false := by simpa using c110
                   clear c110
                   have H' := Aside0.mk H
                   clear H
                   have hnb111 := NB191_204.out
                   have hnc111 := NB204_191.out
                   have hcz112_0 : wr.cell? ⟨gb191, 0, none⟩ = some (.int .i64 a0_0) := (blk_cell BK191.out 0).trans rfl
                   have hcz112_1 : wr.cell? ⟨gb191, 1, none⟩ = some (.slice A0_1 l0_1.length c0_1) := (blk_cell BK191.out 1).trans rfl
                   have hcz112_2 : wr.cell? ⟨gb191, 2, none⟩ = some (.slice A0_2 l0_2.length c0_2) := (blk_cell BK191.out 2).trans rfl
                   have hfz112_0 := blk_frozen BK191.out 0
                   have hfz112_1 := blk_frozen BK191.out 1
                   have hfz112_2 := blk_frozen BK191.out 2
                   try go_wp2
                   have n0_ := Aside0.mk (Kd.R_drew HO_3.out)
                   have n1_ := Aside0.mk (Kd.R_drew HO_5.out)
                   have n2_ := Aside0.mk (blk_drew BK191.out)
                   have n3_ := Aside0.mk (blk_drew BK204.out)
                   have n4_ := Aside0.mk (below_drew1 HB.out)
                   clear HO_3
                   clear HO_5
                   clear BK191
                   clear BK204
                   clear HB
                   have HO_3 := n0_
                   have HO_5 := n1_
                   have BK191 := n2_
                   have BK204 := n3_
                   have HB := n4_
                   clear n0_ n1_ n2_ n3_ n4_
                   have p205 : 0 ≤ (x7_2 : Int) := of_decide_eq_true (by first | (with_reducible assumption) | assumption)
                   have q205 : x7_2 < (t193.length : Int) := of_decide_eq_true (by first | (with_reducible assumption) | assumption)
                   obtain ⟨ad205, e205, hx205_0⟩ := Kd.at_bool (Kd.R_reads' HO_3.out).2.2 x7_2 p205 q205
                   cases e205
                   replace p205 := eq_true p205
                   replace q205 := eq_true q205
                   have p206 : 0 ≤ (x7_2 : Int) := of_decide_eq_true (by first | (with_reducible assumption) | assumption)
                   have q206 : x7_2 < (t197.length : Int) := of_decide_eq_true (by first | (with_reducible assumption) | assumption)
                   obtain ⟨ad206, e206, hx206_0, hx206_1, hx206_2, hx206_3⟩ := at_T63 (Kd.R_reads' HO_5.out).2.2 x7_2 p206 q206
                   cases e206
                   replace p206 := eq_true p206
                   replace q206 := eq_true q206
                   refine start_ (n := 14) (S := fun w' => w'.cell? ⟨gb204, 0, none⟩ = some (.int .u64 x205000_3) ∧ w'.cell? ⟨gb204, 1, none⟩ = some (.int .u64 x205001_3) ∧ w'.cell? ⟨gb204, 2, none⟩ = some (.int .u64 x205002_3) ∧ w'.cell? ⟨gb204, 3, none⟩ = some (.int .u64 x205003_3) ∧ w'.cell? (ad205.add (x7_2).toNat) = some (.bool (rdOf false t193 x7_2)) ∧ w'.cell? (ad206.add ((x7_2).toNat * 4)) = some (.int .u64 ((rd_T63 t197 x7_2).f0)) ∧ w'.cell? ⟨(ad206.add ((x7_2).toNat * 4)).block, (ad206.add ((x7_2).toNat * 4)).off + 1, none⟩ = some (.int .u64 ((rd_T63 t197 x7_2).f1)) ∧ w'.cell? ⟨(ad206.add ((x7_2).toNat * 4)).block, (ad206.add ((x7_2).toNat * 4)).off + 2, none⟩ = some (.int .u64 ((rd_T63 t197 x7_2).f2)) ∧ w'.cell? ⟨(ad206.add ((x7_2).toNat * 4)).block, (ad206.add ((x7_2).toNat * 4)).off + 3, none⟩ = some (.int .u64 ((rd_T63 t197 x7_2).f3))) (ds := []) #[false, false, false, false, false, false, false, false, false, false, false, false, false, false] (by kernel_rfl) rfl rfl ⟨(blk_cell BK204.out 0).trans rfl, (blk_cell BK204.out 1).trans rfl, (blk_cell BK204.out 2).trans rfl, (blk_cell BK204.out 3).trans rfl, hx205_0, hx206_0, hx206_1, hx206_2, hx206_3⟩ (fun hHeld => ?_); refine with_tabW templelaw12_FirstsHold.tab31 templelaw12_FirstsHold.bits31 (fun HT_ HW_ => ?_)
                   generalize wr.drew = w113 at HO_3 HO_5 BK191 BK204 HB hx205_0 hx206_0 hx206_1 hx206_2 hx206_3 hHeld ⊢
                   refine pure_ (i := 0) (N := some 198) (v := ?_) (a' := ?_) #[true, false, false, false, false, false, false, false, false, false, false, false, false, false] rfl rfl (any_of HT_.out (by kernel_rfl)) (fun _ _ _ h => h) (Or.inl ⟨by rfl, ?_⟩) ?_ ?_
                   rotate_left
                   ·intro w'
                    go_simp
                    with_reducible rfl
                   rotate_left
                   ·simp only [Act.put, List.setIfInBounds_toArray, List.set_cons_zero, List.set_cons_succ, i64_w, i32_w]
                    rfl
                   refine pure_ (i := 1) (N := some 199) (v := ?_) (a' := ?_) #[true, true, false, false, false, false, false, false, false, false, false, false, false, false] rfl rfl (any_of HT_.out (by kernel_rfl)) (fun _ _ _ h => h) (Or.inl ⟨by rfl, ?_⟩) ?_ ?_
                   rotate_left
                   ·intro w'
                    go_simp
                    with_reducible rfl
                   rotate_left
                   ·simp only [Act.put, List.setIfInBounds_toArray, List.set_cons_zero, List.set_cons_succ, i64_w, i32_w]
                    rfl
                   refine pure_ (i := 2) (N := some 200) (v := ?_) (a' := ?_) #[true, true, true, false, false, false, false, false, false, false, false, false, false, false] rfl rfl (any_of HT_.out (by kernel_rfl)) (fun _ _ _ h => h) (Or.inl ⟨by rfl, ?_⟩) ?_ ?_
                   rotate_left
                   ·intro w'
                    go_simp
                    with_reducible rfl
                   rotate_left
                   ·simp only [Act.put, List.setIfInBounds_toArray, List.set_cons_zero, List.set_cons_succ, i64_w, i32_w]
                    rfl
                   refine pure_ (i := 4) (N := some 202) (v := ?_) (a' := ?_) #[true, true, true, false, true, false, false, false, false, false, false, false, false, false] rfl rfl (any_of HT_.out (by kernel_rfl)) (fun _ _ _ h => h) (Or.inl ⟨by rfl, ?_⟩) ?_ ?_
                   rotate_left
                   ·intro w'
                    go_simp
                    with_reducible rfl
                   rotate_left
                   ·simp only [Act.put, List.setIfInBounds_toArray, List.set_cons_zero, List.set_cons_succ, i64_w, i32_w]
                    rfl
                   refine take_ (i := 3) (N := some 201) (v := ?_) (a' := ?_) #[true, true, true, true, true, false, false, false, false, false, false, false, false, false] rfl rfl (take_ofW HT_.out HW_.out (by kernel_rfl)) (fun _ _ _ h => h) (Or.inl ⟨by rfl, ?_⟩) hHeld ?_ ?_
                   rotate_left
                   ·rintro w' ⟨s0, s1, s2, s3, s4, s5, s6, s7, s8⟩
                    go_simp
                    with_reducible rfl
                   rotate_left
                   ·simp only [Act.put, List.setIfInBounds_toArray, List.set_cons_zero, List.set_cons_succ, i64_w, i32_w]
                    rfl
                   refine pure_ (i := 5) (N := some 203) (v := ?_) (a' := ?_) #[true, true, true, true, true, true, false, false, false, false, false, false, false, false] rfl rfl (any_of HT_.out (by kernel_rfl)) (fun _ _ _ h => h) (Or.inl ⟨by rfl, ?_⟩) ?_ ?_
                   rotate_left
                   ·intro w'
                    go_simp
                    with_reducible rfl
                   rotate_left
                   ·simp only [Act.put, List.setIfInBounds_toArray, List.set_cons_zero, List.set_cons_succ, i64_w, i32_w]
                    rfl
                   refine pure_ (i := 6) (N := some 204) (v := ?_) (a' := ?_) #[true, true, true, true, true, true, true, false, false, false, false, false, false, false] rfl rfl (any_of HT_.out (by kernel_rfl)) (fun _ _ _ h => h) (Or.inl ⟨by rfl, ?_⟩) ?_ ?_
                   rotate_left
                   ·intro w'
                    go_simp
                    with_reducible rfl
                   rotate_left
                   ·simp only [Act.put, List.setIfInBounds_toArray, List.set_cons_zero, List.set_cons_succ, i64_w, i32_w]
                    rfl
                   refine pure_ (i := 7) (N := some 205) (v := ?_) (a' := ?_) #[true, true, true, true, true, true, true, true, false, false, false, false, false, false] rfl rfl (any_of HT_.out (by kernel_rfl)) (fun _ _ _ h => h) (Or.inl ⟨by rfl, ?_⟩) ?_ ?_
                   rotate_left
                   ·intro w'
                    go_simp
                    with_reducible rfl
                   rotate_left
                   ·simp only [Act.put, List.setIfInBounds_toArray, List.set_cons_zero, List.set_cons_succ, i64_w, i32_w]
                    rfl
                   refine pure_ (i := 8) (N := some 206) (v := ?_) (a' := ?_) #[true, true, true, true, true, true, true, true, true, false, false, false, false, false] rfl rfl (any_of HT_.out (by kernel_rfl)) (fun _ _ _ h => h) (Or.inl ⟨by rfl, ?_⟩) ?_ ?_
                   rotate_left
                   ·intro w'
                    go_simp
                    with_reducible rfl
                   rotate_left
                   ·simp only [Act.put, List.setIfInBounds_toArray, List.set_cons_zero, List.set_cons_succ, i64_w, i32_w]
                    rfl
                   refine pure_ (i := 9) (N := some 207) (v := ?_) (a' := ?_) #[true, true, true, true, true, true, true, true, true, true, false, false, false, false] rfl rfl (any_of HT_.out (by kernel_rfl)) (fun _ _ _ h => h) (Or.inl ⟨by rfl, ?_⟩) ?_ ?_
                   rotate_left
                   ·intro w'
                    go_simp
                    with_reducible rfl
                   rotate_left
                   ·simp only [Act.put, List.setIfInBounds_toArray, List.set_cons_zero, List.set_cons_succ, i64_w, i32_w]
                    rfl
                   refine take_ (i := 10) (N := some 208) (v := ?_) (a' := ?_) #[true, true, true, true, true, true, true, true, true, true, true, false, false, false] rfl rfl (take_ofW HT_.out HW_.out (by kernel_rfl)) (fun _ _ _ h => h) (Or.inl ⟨by rfl, ?_⟩) hHeld ?_ ?_
                   rotate_left
                   ·rintro w' ⟨s0, s1, s2, s3, s4, s5, s6, s7, s8⟩
                    go_simp
                    with_reducible rfl
                   rotate_left
                   ·simp only [Act.put, List.setIfInBounds_toArray, List.set_cons_zero, List.set_cons_succ, i64_w, i32_w]
                    rfl
                   refine take_ (i := 11) (N := some 209) (v := ?_) (a' := ?_) #[true, true, true, true, true, true, true, true, true, true, true, true, false, false] rfl rfl (take_ofW HT_.out HW_.out (by kernel_rfl)) (fun _ _ _ h => h) (Or.inl ⟨by rfl, ?_⟩) hHeld ?_ ?_
                   rotate_left
                   ·rintro w' ⟨s0, s1, s2, s3, s4, s5, s6, s7, s8⟩
                    go_simp
                    with_reducible rfl
                   rotate_left
                   ·simp only [Act.put, List.setIfInBounds_toArray, List.set_cons_zero, List.set_cons_succ, i64_w, i32_w]
                    rfl
                   refine pure_ (i := 12) (N := some 210) (v := ?_) (a' := ?_) #[true, true, true, true, true, true, true, true, true, true, true, true, true, false] rfl rfl (any_of HT_.out (by kernel_rfl)) (fun _ _ _ h => h) (Or.inl ⟨by rfl, ?_⟩) ?_ ?_
                   rotate_left
                   ·intro w'
                    go_simp
                    with_reducible rfl
                   rotate_left
                   ·simp only [Act.put, List.setIfInBounds_toArray, List.set_cons_zero, List.set_cons_succ, i64_w, i32_w]
                    rfl
                   refine pure_ (i := 13) (N := some 211) (v := ?_) (a' := ?_) #[true, true, true, true, true, true, true, true, true, true, true, true, true, true] rfl rfl (any_of HT_.out (by kernel_rfl)) (fun _ _ _ h => h) (Or.inl ⟨by rfl, ?_⟩) ?_ ?_
                   rotate_left
                   ·intro w'
                    go_simp
                    with_reducible rfl
                   rotate_left
                   ·simp only [Act.put, List.setIfInBounds_toArray, List.set_cons_zero, List.set_cons_succ, i64_w, i32_w]
                    rfl
                   refine done_ (done_of HT_.out (by kernel_rfl)) ?_
                   try go_wp2
                   go_roundg k3
                   case measure => have := HJ5.out; have := HK2.out; have := HK3.out; omega
                   case rel => exact ⟨(wrap64 (x7_2 + 1)), (by first | rfl | (simp; done) | (simp [i64_w]; done) | (simp [*]; done) | (simp [*, i64_w]; done) | (simp [*]; unfold wrap64; omega)), H', ⟨by have := HJ5.out; have := HK2.out; have := HK3.out; omega⟩, ⟨by (with_reducible repeat (first | apply Kd.R_alloc | apply Kd.R_drewN | apply Kd.R_drew)); exact HO_3.out⟩, ⟨by (with_reducible repeat (first | apply Kd.R_alloc | apply Kd.R_drewN | apply Kd.R_drew)); exact Kd.R_mono HO_5.out (fun _ hk => trivial)⟩, ⟨by (with_reducible repeat (first | refine blk_drewN ?_ _ | refine blk_drew ?_ | refine blk_alloc ?_ _)); exact BK191.out⟩, ⟨by repeat (first | (with_reducible first | exact HB.out | apply below_alloc | apply pw_below_drewN | apply below_drew1 | refine below_set ?_ GE191.out | refine below_set ?_ GE204.out) | exact HB.out)⟩⟩
                 ·rw [if_neg c109] at H
                  exact absurd H (by simp)
               ·rw [if_neg c107] at H
                exact absurd H (by simp)
              ·rw [if_neg c106] at H
               exact absurd H (by simp)
          ·rw [if_neg c28] at H
           have c28b0 : decide (x7_2 < (l0_1.length : Int)) = false := decide_eq_false c28
           clear c28
           obtain rfl := Option.some.inj H
           have hcz114_0 : wr.cell? ⟨gb191, 0, none⟩ = some (.int .i64 a0_0) := (blk_cell BK191.out 0).trans rfl
           have hcz114_1 : wr.cell? ⟨gb191, 1, none⟩ = some (.slice A0_1 l0_1.length c0_1) := (blk_cell BK191.out 1).trans rfl
           have hcz114_2 : wr.cell? ⟨gb191, 2, none⟩ = some (.slice A0_2 l0_2.length c0_2) := (blk_cell BK191.out 2).trans rfl
           have hfz114_0 := blk_frozen BK191.out 0
           have hfz114_1 := blk_frozen BK191.out 1
           have hfz114_2 := blk_frozen BK191.out 2
           go_wp2
           go_ret
           exact ⟨by first | rfl | (simp [errW_none, errW_some] <;> rfl) | (simp [*, errW_none, errW_some] <;> rfl), by repeat (first | (with_reducible first | exact HB.out | apply below_alloc | apply pw_below_drewN | apply below_drew1 | refine below_set ?_ GE191.out) | exact HB.out)⟩
       ·rw [if_neg c22] at H
        exact absurd H (by simp)
      ·rw [if_neg c21] at H
       exact absurd H (by simp)
     ·replace c20 := Bool.eq_false_iff.mpr c20
      subst c20
      have H1 : (none) = some r := by rw [if_neg (show ¬ (false = true) by decide)] at H; exact H
      clear H
      have H := H1
      clear H1
      exact absurd H (by simp)
 ·replace c3 := Bool.eq_false_iff.mpr c3
  subst c3
  have H1 : (none) = some r := by rw [if_neg (show ¬ (false = true) by decide)] at H; exact H
  clear H
  have H := H1
  clear H1
  exact absurd H (by simp)

end Go.Proofs.Ytpilkfodlhhjpaa.PFH
