-- written by a program of the session's (wip/myprint.py) out of the translation
import Derived.Test.YtpilkfodlhhjpaaPFWx0
import Derived.Test.YtpilkfodlhhjpaaPFWx1
import Derived.Test.YtpilkfodlhhjpaaPFWx10
import Derived.Test.YtpilkfodlhhjpaaPFWx11
import Derived.Test.YtpilkfodlhhjpaaPFWx12
import Derived.Test.YtpilkfodlhhjpaaPFWx13
import Derived.Test.YtpilkfodlhhjpaaPFWx17
import Derived.Test.YtpilkfodlhhjpaaPFWx24
import Derived.Test.YtpilkfodlhhjpaaPFWx25
import Derived.Test.YtpilkfodlhhjpaaPFWx26
import Derived.Test.YtpilkfodlhhjpaaPFWx27d
namespace Go.Proofs.Ytpilkfodlhhjpaa.PFW
open Go.RowKit Go.Proofs.YtpilkfodlhhjpaaW.PrintWords Go.Proofs.YtpilkfodlhhjpaaW.PrintLast Go.Proofs.YtpilkfodlhhjpaaW.PrintMore
attribute [local go_sem] max2_int min2_int max_two min_two max_three min_three max_four min_four   -- for this text's walks alone
set_option linter.unusedVariables false
set_option linter.unusedSimpArgs false

attribute [local go_sem high] eqA63
/-! ### templelaw12_FollowsHold: function 5 -/
set_option maxHeartbeats 80000000 in
set_option maxRecDepth 100000 in
theorem templelaw12_FollowsHold.calls (k : Nat) (aq : Int) (A0_1 : Option Addr) (c0_1 : Nat) (lq : List ByteArray) (A0_2 : Option Addr) (c0_2 : Nat) (lr : List (S55)) (r : Bool) (w : World) (hr0_1 : Kd.C Kd.string w A0_1 lq.length lq) (hc0_1 : lq.length ≤ c0_1) (hr0_2 : Kd.C k55 w A0_2 lr.length lr) (hc0_2 : lr.length ≤ c0_2) (h : templelaw12_FollowsHold.f k aq lq lr = some r) :
  Calls Try.prog 5 #[.agg #[.int .i64 aq, .slice A0_1 lq.length c0_1, .slice A0_2 lr.length c0_2]] w fun e w' => e = .returned (.bool r) ∧ Below w.heap.size w w' := by
 have hu25 := Try.underlying25; have hu63 := Try.underlying63; have hu68 := Try.underlying68; have hu66 := Try.underlying66; have HR0_1 := Aside0.mk hr0_1; have HC0_1 := Aside0.mk hc0_1; clear hr0_1 hc0_1; have HR0_2 := Aside0.mk hr0_2; have HC0_2 := Aside0.mk hc0_2; clear hr0_2 hc0_2
 have HB := Aside0.mk (Below.refl w.heap.size w)
 have H : ((templelaw12_awake.f k).bind fun t192 => (if t192 = true then ((first_Empty.f aq lq lr).bind fun bt193 => ((first_First.f aq lq lr).bind fun bt197 => ((first_Follow.f aq lq lr).bind fun bt201 => ((templelaw0_Num.f bt193.2).bind fun t205 => (if t205 = 0 then ((templelaw0_Num.f bt197.2).bind fun t206 => (if t206 = 0 then ((templelaw0_Num.f bt201.2).bind fun t207 => (templelaw12_FollowsHold.j0 k bt193.1 bt197.1 bt201.1 (t207 != 0) aq lq lr)) else (templelaw12_FollowsHold.j0 k bt193.1 bt197.1 bt201.1 true aq lq lr))) else (templelaw12_FollowsHold.j0 k bt193.1 bt197.1 bt201.1 true aq lq lr)))))) else (none))) = some r := h
 clear h; replace H := Option.bind_eq_some_iff.mp H; obtain ⟨t192, A20, H⟩ := H; (try dsimp only at H); have A2 := Aside0.mk A20; clear A20
 by_cases c3 : t192 = true
 ·subst c3; have H1 := H
  rw [if_pos rfl] at H1
  clear H; have H := H1; clear H1; replace H := Option.bind_eq_some_iff.mp H; obtain ⟨⟨td, t196⟩, A40, H⟩ := H; (try dsimp only at H); have A4 := Aside0.mk A40; clear A40; replace H := Option.bind_eq_some_iff.mp H; obtain ⟨⟨te, t200⟩, A50, H⟩ := H; (try dsimp only at H); have A5 := Aside0.mk A50; clear A50; replace H := Option.bind_eq_some_iff.mp H; obtain ⟨⟨tf, t204⟩, A60, H⟩ := H; (try dsimp only at H); have A6 := Aside0.mk A60; clear A60; have HC7 := Aside0.mk H; clear H
  go_enter Try.func5, Try.ntmps5
  go_upto_region 6 with (first | ((with_reducible refine gate_dst (N := 1) rfl ?_); (try (refine gate_guard (by rfl) ?_; dsimp only)); refine box_event ?hg (N := 1) ?hd (cs := #[.int .i64 aq, .slice A0_1 lq.length c0_1, .slice A0_2 lr.length c0_2]) (t := 25) ?hr ?_; (case hd => rfl); (case hg => rfl); (case hr => first | (go_simp; done) | (go_simp; rfl)); intro gz hg w8 hbox hb; have n0_ := Aside0.mk (below_step (by repeat (first | (with_reducible first | exact HB.out | apply below_alloc | apply pw_below_drewN | apply below_drew1) | exact HB.out)) hb); have n1_ := Aside0.mk (hbox); have n2_ := Aside0.mk ((by rw [hg]; exact (below_size (by repeat (first | (with_reducible first | exact HB.out | apply below_alloc | apply pw_below_drewN | apply below_drew1) | exact HB.out))) : w.heap.size ≤ gz)); have n3_ := Aside0.mk ((by rw [hg]; exact (below_size (by repeat (first | (with_reducible first | exact HB.out | apply below_alloc | apply pw_below_drewN | apply below_drew1) | exact HB.out))) : w.heap.size ≤ gz)); clear HB; have HB := n0_; have BK191 := n1_; have GW191 := n2_; have GE191 := n3_; clear n0_ n1_ n2_ n3_; clear hb hbox hg) | ((with_reducible refine gate_callee (f := 21) rfl ?_); refine goesL_ (some 20) rfl rfl Try.func21 (by decide +kernel) rfl #[] rfl (by (try simp only [List.map_toArray, List.map_cons, List.map_nil]); first | done | rfl | (simp only [List.length_drop, List.length_take]; rfl)) ?_; (with_reducible refine (templelaw12_awake.calls k  true _ A2.out).mono ?_); rintro e w9 ⟨rfl, hb⟩; refine ⟨_, rfl, ?_⟩; have n0_ := Aside0.mk (blk_below (g := gz) (o := .cells #[.int .i64 aq, .slice A0_1 lq.length c0_1, .slice A0_2 lr.length c0_2] 25 (0, 0)) (by (with_reducible repeat (first | refine blk_drewN ?_ _ | refine blk_drew ?_ | refine blk_alloc ?_ _)); exact BK191.out) hb); have n1_ := Aside0.mk (below_step (by repeat (first | (with_reducible first | exact HB.out | apply below_alloc | apply pw_below_drewN | apply below_drew1 | refine below_set ?_ GE191.out) | exact HB.out)) hb); clear BK191; clear HB; have BK191 := n0_; have HB := n1_; clear n0_ n1_; (try clear hb); have hcz10_0 : w9.cell? ⟨gz, 0, none⟩ = some (.int .i64 aq) := (blk_cell BK191.out 0).trans rfl; have hcz10_1 : w9.cell? ⟨gz, 1, none⟩ = some (.slice A0_1 lq.length c0_1) := (blk_cell BK191.out 1).trans rfl; have hcz10_2 : w9.cell? ⟨gz, 2, none⟩ = some (.slice A0_2 lr.length c0_2) := (blk_cell BK191.out 2).trans rfl; have hfz10_0 := blk_frozen BK191.out 0; have hfz10_1 := blk_frozen BK191.out 1; have hfz10_2 := blk_frozen BK191.out 2) | ((with_reducible refine gate_callee (f := 10) rfl ?_); refine goesL_ (some 24) rfl rfl Try.func10 (by decide +kernel) rfl #[.agg #[.int .i64 aq, .slice A0_1 lq.length c0_1, .slice A0_2 lr.length c0_2]] rfl (by (try simp only [List.map_toArray, List.map_cons, List.map_nil]); first | done | rfl | (simp only [List.length_drop, List.length_take]; rfl)) ?_; (with_reducible refine (first_Empty.calls aq _ _ lq _ _ lr td t196 _ ?side1 ?side2 ?side3 ?side4 A4.out).mono ?_); (case side1 => repeat (first | exact (Kd.C_below HR0_1.out HB.out) | (with_reducible refine Kd.C_alloc ?_ _) | (with_reducible refine Kd.C_drewN ?_ _) | (with_reducible refine Kd.C_drew ?_))); (case side2 => exact HC0_1.out); (case side3 => repeat (first | exact (Kd.C_below HR0_2.out HB.out) | (with_reducible refine Kd.C_alloc ?_ _) | (with_reducible refine Kd.C_drewN ?_ _) | (with_reducible refine Kd.C_drew ?_))); (case side4 => exact HC0_2.out); rintro e w11 ⟨v194, rfl, ho0, hb⟩; refine ⟨_, rfl, ?_⟩; have n0_ := Aside0.mk (Kd.R_lower ho0 (below_size (by repeat (first | (with_reducible first | exact HB.out | apply below_alloc | apply pw_below_drewN | apply below_drew1 | refine below_set ?_ GE191.out) | exact HB.out)))); have n1_ := Aside0.mk (blk_below (g := gz) (o := .cells #[.int .i64 aq, .slice A0_1 lq.length c0_1, .slice A0_2 lr.length c0_2] 25 (0, 0)) (by (with_reducible repeat (first | refine blk_drewN ?_ _ | refine blk_drew ?_ | refine blk_alloc ?_ _)); exact BK191.out) hb); have n2_ := Aside0.mk (below_step (by repeat (first | (with_reducible first | exact HB.out | apply below_alloc | apply pw_below_drewN | apply below_drew1 | refine below_set ?_ GE191.out) | exact HB.out)) hb); clear BK191; clear HB; have HO195 := n0_; have BK191 := n1_; have HB := n2_; clear n0_ n1_ n2_; (try clear hb); (try clear ho0); have hcz12_0 : w11.cell? ⟨gz, 0, none⟩ = some (.int .i64 aq) := (blk_cell BK191.out 0).trans rfl; have hcz12_1 : w11.cell? ⟨gz, 1, none⟩ = some (.slice A0_1 lq.length c0_1) := (blk_cell BK191.out 1).trans rfl; have hcz12_2 : w11.cell? ⟨gz, 2, none⟩ = some (.slice A0_2 lr.length c0_2) := (blk_cell BK191.out 2).trans rfl; have hfz12_0 := blk_frozen BK191.out 0; have hfz12_1 := blk_frozen BK191.out 1; have hfz12_2 := blk_frozen BK191.out 2) | ((with_reducible refine gate_callee (f := 12) rfl ?_); refine goesL_ (some 29) rfl rfl Try.func12 (by decide +kernel) rfl #[.agg #[.int .i64 aq, .slice A0_1 lq.length c0_1, .slice A0_2 lr.length c0_2]] rfl (by (try simp only [List.map_toArray, List.map_cons, List.map_nil]); first | done | rfl | (simp only [List.length_drop, List.length_take]; rfl)) ?_; (with_reducible refine (first_First.calls aq _ _ lq _ _ lr te t200 _ ?side1 ?side2 ?side3 ?side4 A5.out).mono ?_); (case side1 => repeat (first | exact (Kd.C_below HR0_1.out HB.out) | (with_reducible refine Kd.C_alloc ?_ _) | (with_reducible refine Kd.C_drewN ?_ _) | (with_reducible refine Kd.C_drew ?_))); (case side2 => exact HC0_1.out); (case side3 => repeat (first | exact (Kd.C_below HR0_2.out HB.out) | (with_reducible refine Kd.C_alloc ?_ _) | (with_reducible refine Kd.C_drewN ?_ _) | (with_reducible refine Kd.C_drew ?_))); (case side4 => exact HC0_2.out); rintro e w13 ⟨v198, rfl, ho0, hb⟩; refine ⟨_, rfl, ?_⟩; have n0_ := Aside0.mk (Kd.R_below (by (with_reducible repeat (first | apply Kd.R_alloc | apply Kd.R_drewN | apply Kd.R_drew)); exact HO195.out) hb); have n1_ := Aside0.mk (Kd.R_lower ho0 (below_size (by repeat (first | (with_reducible first | exact HB.out | apply below_alloc | apply pw_below_drewN | apply below_drew1 | refine below_set ?_ GE191.out) | exact HB.out)))); have n2_ := Aside0.mk (blk_below (g := gz) (o := .cells #[.int .i64 aq, .slice A0_1 lq.length c0_1, .slice A0_2 lr.length c0_2] 25 (0, 0)) (by (with_reducible repeat (first | refine blk_drewN ?_ _ | refine blk_drew ?_ | refine blk_alloc ?_ _)); exact BK191.out) hb); have n3_ := Aside0.mk (below_step (by repeat (first | (with_reducible first | exact HB.out | apply below_alloc | apply pw_below_drewN | apply below_drew1 | refine below_set ?_ GE191.out) | exact HB.out)) hb); clear HO195; clear BK191; clear HB; have HO195 := n0_; have HO199 := n1_; have BK191 := n2_; have HB := n3_; clear n0_ n1_ n2_ n3_; (try clear hb); (try clear ho0); have hcz14_0 : w13.cell? ⟨gz, 0, none⟩ = some (.int .i64 aq) := (blk_cell BK191.out 0).trans rfl; have hcz14_1 : w13.cell? ⟨gz, 1, none⟩ = some (.slice A0_1 lq.length c0_1) := (blk_cell BK191.out 1).trans rfl; have hcz14_2 : w13.cell? ⟨gz, 2, none⟩ = some (.slice A0_2 lr.length c0_2) := (blk_cell BK191.out 2).trans rfl; have hfz14_0 := blk_frozen BK191.out 0; have hfz14_1 := blk_frozen BK191.out 1; have hfz14_2 := blk_frozen BK191.out 2) | ((with_reducible refine gate_callee (f := 14) rfl ?_); refine goesL_ (some 34) rfl rfl Try.func14 (by decide +kernel) rfl #[.agg #[.int .i64 aq, .slice A0_1 lq.length c0_1, .slice A0_2 lr.length c0_2]] rfl (by (try simp only [List.map_toArray, List.map_cons, List.map_nil]); first | done | rfl | (simp only [List.length_drop, List.length_take]; rfl)) ?_; (with_reducible refine (first_Follow.calls aq _ _ lq _ _ lr tf t204 _ ?side1 ?side2 ?side3 ?side4 A6.out).mono ?_); (case side1 => repeat (first | exact (Kd.C_below HR0_1.out HB.out) | (with_reducible refine Kd.C_alloc ?_ _) | (with_reducible refine Kd.C_drewN ?_ _) | (with_reducible refine Kd.C_drew ?_))); (case side2 => exact HC0_1.out); (case side3 => repeat (first | exact (Kd.C_below HR0_2.out HB.out) | (with_reducible refine Kd.C_alloc ?_ _) | (with_reducible refine Kd.C_drewN ?_ _) | (with_reducible refine Kd.C_drew ?_))); (case side4 => exact HC0_2.out); rintro e w15 ⟨v202, rfl, ho0, hb⟩; refine ⟨_, rfl, ?_⟩; have n0_ := Aside0.mk (Kd.R_below (by (with_reducible repeat (first | apply Kd.R_alloc | apply Kd.R_drewN | apply Kd.R_drew)); exact HO195.out) hb); have n1_ := Aside0.mk (Kd.R_below (by (with_reducible repeat (first | apply Kd.R_alloc | apply Kd.R_drewN | apply Kd.R_drew)); exact HO199.out) hb); have n2_ := Aside0.mk (Kd.R_lower ho0 (below_size (by repeat (first | (with_reducible first | exact HB.out | apply below_alloc | apply pw_below_drewN | apply below_drew1 | refine below_set ?_ GE191.out) | exact HB.out)))); have n3_ := Aside0.mk (blk_below (g := gz) (o := .cells #[.int .i64 aq, .slice A0_1 lq.length c0_1, .slice A0_2 lr.length c0_2] 25 (0, 0)) (by (with_reducible repeat (first | refine blk_drewN ?_ _ | refine blk_drew ?_ | refine blk_alloc ?_ _)); exact BK191.out) hb); have n4_ := Aside0.mk (below_step (by repeat (first | (with_reducible first | exact HB.out | apply below_alloc | apply pw_below_drewN | apply below_drew1 | refine below_set ?_ GE191.out) | exact HB.out)) hb); clear HO195; clear HO199; clear BK191; clear HB; have HO195 := n0_; have HO199 := n1_; have HO203 := n2_; have BK191 := n3_; have HB := n4_; clear n0_ n1_ n2_ n3_ n4_; (try clear hb); (try clear ho0)))
  (try simp only [Act.put, s1, s2, s3])
  go_cut [49] (fun v49 wc => ∃ (kq : Nat) (x49_6 : Bool), v49 = .bool x49_6 ∧ Aside0 (templelaw12_FollowsHold.j0 kq td te tf x49_6 aq lq lr = some r) ∧ Aside0 (kq ≤ k) ∧ Aside0 (Kd.R Kd.bool 4 wc w.heap.size (fun _ => True) v194 td) ∧ Aside0 (Kd.R k63 63 wc w.heap.size (fun _ => True) v198 te) ∧ Aside0 (Kd.R k66 66 wc w.heap.size (fun _ => True) v202 tf) ∧ Aside0 (wc.heap[gz]? = some (.cells #[.int .i64 aq, (.slice A0_1 lq.length c0_1), (.slice A0_2 lr.length c0_2)] 25 (0, 0))) ∧ Aside0 (Below w.heap.size w wc))
  case first =>
   have H := HC7.out; clear HC7; replace H := Option.bind_eq_some_iff.mp H; obtain ⟨t205, A160, H⟩ := H; (try dsimp only at H); have A16 := Aside0.mk A160; clear A160
   by_cases c17 : t205 = 0
   ·rw [if_pos c17] at H; have c17b0 : (t205 == 0) = true := beq_iff_eq.mpr c17; have c17b1 : (t205 != 0) = false := bne_eq_false_iff_eq.mpr c17; clear c17
    (first | rw [c17b0] | (simp only [i64_w, i32_w]; rw [c17b0]) | skip)
    replace H := Option.bind_eq_some_iff.mp H; obtain ⟨t206, A180, H⟩ := H
    replace H : (if t206 = 0 then ((templelaw0_Num.f t204).bind fun t207 => (templelaw12_FollowsHold.j0 k td te tf (t207 != 0) aq lq lr)) else (templelaw12_FollowsHold.j0 k td te tf true aq lq lr)) = some r := H
    have A18 := Aside0.mk A180; clear A180
    by_cases c19 : t206 = 0
    ·rw [if_pos c19] at H; have c19b0 : (t206 == 0) = true := beq_iff_eq.mpr c19; have c19b1 : (t206 != 0) = false := bne_eq_false_iff_eq.mpr c19; clear c19; replace H := Option.bind_eq_some_iff.mp H; obtain ⟨t207, A200, H⟩ := H
     replace H : (templelaw12_FollowsHold.j0 k td te tf (t207 != 0) aq lq lr) = some r := H
     have A20 := Aside0.mk A200; clear A200; have H' := Aside0.mk H; clear H
     go_wp2_with (first | ((with_reducible refine gate_callee (f := 17) rfl ?_); refine goesL_ (some 38) rfl rfl Try.func17 (by decide +kernel) rfl #[.int .i64 t196] rfl (by (try simp only [List.map_toArray, List.map_cons, List.map_nil]); first | done | rfl | (simp only [List.length_drop, List.length_take]; rfl)) ?_; (with_reducible refine (templelaw0_Num.calls t196 t205 _ A16.out).mono ?_); rintro e w' ⟨rfl, ⟨nd, rfl⟩⟩; refine ⟨_, rfl, ?_⟩) | (go_at_call 17; (with_reducible refine (templelaw0_Num.calls t200 t206 _ A18.out).mono ?_); rintro e w' ⟨rfl, ⟨nd, rfl⟩⟩) | (go_at_call 17; (with_reducible refine (templelaw0_Num.calls t204 t207 _ A20.out).mono ?_); rintro e w' ⟨rfl, ⟨nd, rfl⟩⟩))
     go_meet
     case rel => exact ⟨_, ((t207 != 0)), (by first | rfl | (simp; done) | (simp [i64_w]; done) | (simp [*]; done) | (simp [*, i64_w]; done) | (simp [*]; unfold wrap64; omega)), H', ⟨by first | omega | exact Nat.le_refl _⟩, ⟨by (with_reducible repeat (first | apply Kd.R_alloc | apply Kd.R_drewN | apply Kd.R_drew)); exact HO195.out⟩, ⟨by (with_reducible repeat (first | apply Kd.R_alloc | apply Kd.R_drewN | apply Kd.R_drew)); exact HO199.out⟩, ⟨by (with_reducible repeat (first | apply Kd.R_alloc | apply Kd.R_drewN | apply Kd.R_drew)); exact HO203.out⟩, ⟨by (with_reducible repeat (first | refine blk_drewN ?_ _ | refine blk_drew ?_ | refine blk_alloc ?_ _)); exact BK191.out⟩, ⟨by repeat (first | (with_reducible first | exact HB.out | apply below_alloc | apply pw_below_drewN | apply below_drew1 | refine below_set ?_ GE191.out) | exact HB.out)⟩⟩
    ·rw [if_neg c19] at H; have c19b0 : (t206 == 0) = false := beq_eq_false_iff_ne.mpr c19; have c19b1 : (t206 != 0) = true := bne_iff_ne.mpr c19; have H' := Aside0.mk H; clear H
     go_wp2_with (first | ((with_reducible refine gate_callee (f := 17) rfl ?_); refine goesL_ (some 38) rfl rfl Try.func17 (by decide +kernel) rfl #[.int .i64 t196] rfl (by (try simp only [List.map_toArray, List.map_cons, List.map_nil]); first | done | rfl | (simp only [List.length_drop, List.length_take]; rfl)) ?_; (with_reducible refine (templelaw0_Num.calls t196 t205 _ A16.out).mono ?_); rintro e w' ⟨rfl, ⟨nd, rfl⟩⟩; refine ⟨_, rfl, ?_⟩) | (go_at_call 17; (with_reducible refine (templelaw0_Num.calls t200 t206 _ A18.out).mono ?_); rintro e w' ⟨rfl, ⟨nd, rfl⟩⟩))
     go_meet
     case rel => exact ⟨_, (true), (by first | rfl | (simp; done) | (simp [i64_w]; done) | (simp [*]; done) | (simp [*, i64_w]; done) | (simp [*]; unfold wrap64; omega)), H', ⟨by first | omega | exact Nat.le_refl _⟩, ⟨by (with_reducible repeat (first | apply Kd.R_alloc | apply Kd.R_drewN | apply Kd.R_drew)); exact HO195.out⟩, ⟨by (with_reducible repeat (first | apply Kd.R_alloc | apply Kd.R_drewN | apply Kd.R_drew)); exact HO199.out⟩, ⟨by (with_reducible repeat (first | apply Kd.R_alloc | apply Kd.R_drewN | apply Kd.R_drew)); exact HO203.out⟩, ⟨by (with_reducible repeat (first | refine blk_drewN ?_ _ | refine blk_drew ?_ | refine blk_alloc ?_ _)); exact BK191.out⟩, ⟨by repeat (first | (with_reducible first | exact HB.out | apply below_alloc | apply pw_below_drewN | apply below_drew1 | refine below_set ?_ GE191.out) | exact HB.out)⟩⟩
   ·rw [if_neg c17] at H; have c17b0 : (t205 == 0) = false := beq_eq_false_iff_ne.mpr c17; have c17b1 : (t205 != 0) = true := bne_iff_ne.mpr c17
    (first | rw [c17b0] | (simp only [i64_w, i32_w]; rw [c17b0]) | skip)
    have H' := Aside0.mk H; clear H
    go_wp2_with (first | ((with_reducible refine gate_callee (f := 17) rfl ?_); refine goesL_ (some 38) rfl rfl Try.func17 (by decide +kernel) rfl #[.int .i64 t196] rfl (by (try simp only [List.map_toArray, List.map_cons, List.map_nil]); first | done | rfl | (simp only [List.length_drop, List.length_take]; rfl)) ?_; (with_reducible refine (templelaw0_Num.calls t196 t205 _ A16.out).mono ?_); rintro e w' ⟨rfl, ⟨nd, rfl⟩⟩; refine ⟨_, rfl, ?_⟩))
    go_meet
    case rel => exact ⟨_, (true), (by first | rfl | (simp; done) | (simp [i64_w]; done) | (simp [*]; done) | (simp [*, i64_w]; done) | (simp [*]; unfold wrap64; omega)), H', ⟨by first | omega | exact Nat.le_refl _⟩, ⟨by (with_reducible repeat (first | apply Kd.R_alloc | apply Kd.R_drewN | apply Kd.R_drew)); exact HO195.out⟩, ⟨by (with_reducible repeat (first | apply Kd.R_alloc | apply Kd.R_drewN | apply Kd.R_drew)); exact HO199.out⟩, ⟨by (with_reducible repeat (first | apply Kd.R_alloc | apply Kd.R_drewN | apply Kd.R_drew)); exact HO203.out⟩, ⟨by (with_reducible repeat (first | refine blk_drewN ?_ _ | refine blk_drew ?_ | refine blk_alloc ?_ _)); exact BK191.out⟩, ⟨by repeat (first | (with_reducible first | exact HB.out | apply below_alloc | apply pw_below_drewN | apply below_drew1 | refine below_set ?_ GE191.out) | exact HB.out)⟩⟩
  case rest =>
   clear HC7; (try clear c1); (try clear c2); (try clear p2); (try clear c3); (try clear c5); (try clear c10); (try clear c12); (try clear c14); (try clear c17); (try clear c17b0); (try clear c17b1); (try clear c19); (try clear c19b0); (try clear c19b1); (try clear hcz10_0); (try clear hcz10_1); (try clear hcz10_2); (try clear hcz12_0); (try clear hcz12_1); (try clear hcz12_2); (try clear hcz14_0); (try clear hcz14_1); (try clear hcz14_2); (try clear hfz10_0); (try clear hfz10_1); (try clear hfz10_2); (try clear hfz12_0); (try clear hfz12_1); (try clear hfz12_2); (try clear hfz14_0); (try clear hfz14_1); (try clear hfz14_2); obtain ⟨kq, x49_6, rfl, HA, HJ6, HO_3, HO_5, HO_7, BK191, HB⟩ := hcut
   cases kq with
   | zero => exact absurd HA.out (by simp [templelaw12_FollowsHold.j0])
   | succ kj6 =>
    have H := HA.out; clear HA
    simp only [templelaw12_FollowsHold.j0] at H
    by_cases c21 : x49_6 = true
    ·subst c21
     have H1 : (some ((wrap64 ((wrap64 ((td.length : Int) + (te.length : Int))) + (tf.length : Int))) == 0)) = some r := by rw [if_pos rfl] at H; exact H
     clear H; have H := H1; clear H1; obtain rfl := Option.some.inj H; obtain ⟨Ao22, co22, eo22⟩ := Kd.R_slice HO_3.out; subst eo22; obtain ⟨Ao23, co23, eo23⟩ := Kd.R_slice HO_5.out; subst eo23; obtain ⟨Ao24, co24, eo24⟩ := Kd.R_slice HO_7.out; subst eo24; go_wp2; go_ret
     exact ⟨by first | rfl | (simp [errW_none, errW_some] <;> rfl) | (simp [*, errW_none, errW_some] <;> rfl), by repeat (first | (with_reducible first | exact HB.out | apply below_alloc | apply pw_below_drewN | apply below_drew1 | refine below_set ?_ GE191.out) | exact HB.out)⟩
    ·replace c21 := Bool.eq_false_iff.mpr c21
     subst c21; have H1 := H
     rw [if_neg (show ¬ (false = true) by decide)] at H1
     clear H; have H := H1; clear H1; replace H := Option.bind_eq_some_iff.mp H; obtain ⟨t208, A250, H⟩ := H; (try dsimp only at H); have A25 := Aside0.mk A250; clear A250
     by_cases c26 : t208 = true
     ·subst c26; have H1 := H
      rw [if_pos rfl] at H1
      clear H; have H := H1; clear H1
      by_cases c27 : (td.length : Int) = (lq.length : Int)
      rotate_left
      ·(rw [if_neg c27] at H; exact absurd H (by simp))
      rw [if_pos c27] at H; have c27b0 : ((td.length : Int) == (lq.length : Int)) = true := beq_iff_eq.mpr c27; have c27b1 : ((td.length : Int) != (lq.length : Int)) = false := bne_eq_false_iff_eq.mpr c27
      have c27b2 : (td.length == lq.length) = true := by first | simpa using c27 | (simp at c27 ⊢; omega)
      clear c27
      by_cases c28 : (te.length : Int) = (lq.length : Int)
      rotate_left
      ·(rw [if_neg c28] at H; exact absurd H (by simp))
      rw [if_pos c28] at H; have c28b0 : ((te.length : Int) == (lq.length : Int)) = true := beq_iff_eq.mpr c28; have c28b1 : ((te.length : Int) != (lq.length : Int)) = false := bne_eq_false_iff_eq.mpr c28
      have c28b2 : (te.length == lq.length) = true := by first | simpa using c28 | (simp at c28 ⊢; omega)
      clear c28
      by_cases c29 : (tf.length : Int) = (lq.length : Int)
      rotate_left
      ·(rw [if_neg c29] at H; exact absurd H (by simp))
      rw [if_pos c29] at H; have c29b0 : ((tf.length : Int) == (lq.length : Int)) = true := beq_iff_eq.mpr c29; have c29b1 : ((tf.length : Int) != (lq.length : Int)) = false := bne_eq_false_iff_eq.mpr c29
      have c29b2 : (tf.length == lq.length) = true := by first | simpa using c29 | (simp at c29 ⊢; omega)
      clear c29
      by_cases c30 : 0 ≤ aq
      rotate_left
      ·(rw [if_neg c30] at H; exact absurd H (by simp))
      rw [if_pos c30] at H; have c30b0 : decide (0 ≤ aq) = true := decide_eq_true c30; clear c30
      by_cases c31 : aq < (tf.length : Int)
      rotate_left
      ·(rw [if_neg c31] at H; exact absurd H (by simp))
      rw [if_pos c31] at H; have c31b0 : decide (aq < (tf.length : Int)) = true := decide_eq_true c31; clear c31; obtain ⟨bq32, hbq32⟩ : ∃ b_ : Bool, b_ = ((rd_T66 tf aq).f1) := ⟨_, rfl⟩
      replace H : (if (bq32 = true) then (templelaw12_FollowsHold.l0 kj6 td te tf 0 aq lq lr) else (none)) = some r := by rw [← hbq32] at H; exact H
      have Nbq32 := Aside0.mk hbq32; clear hbq32
      by_cases c33 : (bq32 = true)
      ·subst c33
       have H1 : (templelaw12_FollowsHold.l0 kj6 td te tf 0 aq lq lr) = some r := by rw [if_pos rfl] at H; exact H
       clear H; have H := H1; clear H1; have H' := Aside0.mk H; clear H
       have hcz34_0 : wc.cell? ⟨gz, 0, none⟩ = some (.int .i64 aq) := (blk_cell BK191.out 0).trans rfl
       have hcz34_1 : wc.cell? ⟨gz, 1, none⟩ = some (.slice A0_1 lq.length c0_1) := (blk_cell BK191.out 1).trans rfl
       have hcz34_2 : wc.cell? ⟨gz, 2, none⟩ = some (.slice A0_2 lr.length c0_2) := (blk_cell BK191.out 2).trans rfl
       have hfz34_0 := blk_frozen BK191.out 0; have hfz34_1 := blk_frozen BK191.out 1; have hfz34_2 := blk_frozen BK191.out 2
       go_wp2_with (first | ((with_reducible refine gate_callee (f := 25) rfl ?_); refine goesL_ (some 63) rfl rfl Try.func25 (by decide +kernel) rfl #[.agg #[.int .i64 aq, .slice A0_1 lq.length c0_1, .slice A0_2 lr.length c0_2]] rfl (by (try simp only [List.map_toArray, List.map_cons, List.map_nil]); first | done | rfl | (simp only [List.length_drop, List.length_take]; rfl)) ?_; (with_reducible refine (templeref1_May.calls kj6 aq _ _ lq _ _ lr true _ ?side1 ?side2 ?side3 ?side4 A25.out).mono ?_); (case side1 => repeat (first | exact (Kd.C_below HR0_1.out HB.out) | (with_reducible refine Kd.C_alloc ?_ _) | (with_reducible refine Kd.C_drewN ?_ _) | (with_reducible refine Kd.C_drew ?_))); (case side2 => exact HC0_1.out); (case side3 => repeat (first | exact (Kd.C_below HR0_2.out HB.out) | (with_reducible refine Kd.C_alloc ?_ _) | (with_reducible refine Kd.C_drewN ?_ _) | (with_reducible refine Kd.C_drew ?_))); (case side4 => exact HC0_2.out); rintro e w35 ⟨rfl, hb⟩; refine ⟨_, rfl, ?_⟩; have n0_ := Aside0.mk (Kd.R_below (by (with_reducible repeat (first | apply Kd.R_alloc | apply Kd.R_drewN | apply Kd.R_drew)); exact HO_3.out) hb); have n1_ := Aside0.mk (Kd.R_below (by (with_reducible repeat (first | apply Kd.R_alloc | apply Kd.R_drewN | apply Kd.R_drew)); exact HO_5.out) hb); have n2_ := Aside0.mk (Kd.R_below (by (with_reducible repeat (first | apply Kd.R_alloc | apply Kd.R_drewN | apply Kd.R_drew)); exact HO_7.out) hb); have n3_ := Aside0.mk (blk_below (g := gz) (o := .cells #[.int .i64 aq, .slice A0_1 lq.length c0_1, .slice A0_2 lr.length c0_2] 25 (0, 0)) (by (with_reducible repeat (first | refine blk_drewN ?_ _ | refine blk_drew ?_ | refine blk_alloc ?_ _)); exact BK191.out) hb); have n4_ := Aside0.mk (below_step (by repeat (first | (with_reducible first | exact HB.out | apply below_alloc | apply pw_below_drewN | apply below_drew1 | refine below_set ?_ GE191.out) | exact HB.out)) hb); clear HO_3; clear HO_5; clear HO_7; clear BK191; clear HB; have HO_3 := n0_; have HO_5 := n1_; have HO_7 := n2_; have BK191 := n3_; have HB := n4_; clear n0_ n1_ n2_ n3_ n4_; (try clear hb); obtain ⟨Ao36, co36, eo36⟩ := Kd.R_slice HO_3.out; subst eo36; obtain ⟨Ao37, co37, eo37⟩ := Kd.R_slice HO_5.out; subst eo37; obtain ⟨Ao38, co38, eo38⟩ := Kd.R_slice HO_7.out; subst eo38; have hcz39_0 : w35.cell? ⟨gz, 0, none⟩ = some (.int .i64 aq) := (blk_cell BK191.out 0).trans rfl; have hcz39_1 : w35.cell? ⟨gz, 1, none⟩ = some (.slice A0_1 lq.length c0_1) := (blk_cell BK191.out 1).trans rfl; have hcz39_2 : w35.cell? ⟨gz, 2, none⟩ = some (.slice A0_2 lr.length c0_2) := (blk_cell BK191.out 2).trans rfl; have hfz39_0 := blk_frozen BK191.out 0; have hfz39_1 := blk_frozen BK191.out 1; have hfz39_2 := blk_frozen BK191.out 2; have p209 : 0 ≤ (aq : Int) := of_decide_eq_true (by first | (with_reducible assumption) | assumption); have q209 : aq < (tf.length : Int) := of_decide_eq_true (by first | (with_reducible assumption) | assumption); obtain ⟨ad209, e209, hx209_0, hx209_1, hx209_2, hx209_3, hx209_4⟩ := at_T66 (Kd.R_reads' HO_7.out).2.2 aq p209 q209; (try rw [← Nbq32.out] at hx209_4); cases e209; replace p209 := eq_true p209; replace q209 := eq_true q209))
       go_loopg [10] kj6 (fun kq v10 w' => ∃ (xi : Int), v10 = .int .i64 xi ∧ Aside0 (templelaw12_FollowsHold.l0 kq td te tf xi aq lq lr = some r) ∧ Aside0 (kq ≤ kj6) ∧ Aside0 (Kd.R Kd.bool 4 w' w.heap.size (fun _ => True) (.slice Ao36 td.length co36) td) ∧ Aside0 (Kd.R k63 63 w' w.heap.size (fun _ => True) (.slice Ao37 te.length co37) te) ∧ Aside0 (Kd.R k66 66 w' w.heap.size (fun _ => True) (.slice (some ad209) tf.length co38) tf) ∧ Aside0 (w'.heap[gz]? = some (.cells #[.int .i64 aq, (.slice A0_1 lq.length c0_1), (.slice A0_2 lr.length c0_2)] 25 (0, 0))) ∧ Aside0 (Below w.heap.size w w'))
       case atStart => exact ⟨(0), (by first | rfl | (simp; done) | (simp [i64_w]; done) | (simp [*]; done) | (simp [*, i64_w]; done) | (simp [*]; unfold wrap64; omega)), H', ⟨Nat.le_refl _⟩, ⟨by (with_reducible repeat (first | apply Kd.R_alloc | apply Kd.R_drewN | apply Kd.R_drew)); exact HO_3.out⟩, ⟨by (with_reducible repeat (first | apply Kd.R_alloc | apply Kd.R_drewN | apply Kd.R_drew)); exact HO_5.out⟩, ⟨by (with_reducible repeat (first | apply Kd.R_alloc | apply Kd.R_drewN | apply Kd.R_drew)); exact HO_7.out⟩, ⟨by (with_reducible repeat (first | refine blk_drewN ?_ _ | refine blk_drew ?_ | refine blk_alloc ?_ _)); exact BK191.out⟩, ⟨by repeat (first | (with_reducible first | exact HB.out | apply below_alloc | apply pw_below_drewN | apply below_drew1 | refine below_set ?_ GE191.out) | exact HB.out)⟩⟩
       case round =>
        clear H'; (try clear c1); (try clear c2); (try clear p2); (try clear q2); (try clear hx2); (try clear c3); (try clear q3); (try clear c5); (try clear p6); (try clear c10); (try clear c12); (try clear c14); (try clear c17); (try clear c17b0); (try clear c17b1); (try clear c19); (try clear c19b0); (try clear c19b1); (try clear p20); (try clear q20); (try clear hx20); (try clear c21); (try clear c25); (try clear c26); (try clear c27); (try clear c27b0); (try clear c27b1); (try clear c27b2); (try clear c28); (try clear c28b0); (try clear c28b1); (try clear c28b2); (try clear c29); (try clear c29b0); (try clear c29b1); (try clear c29b2); (try clear c30); (try clear c30b0); (try clear c31); (try clear c31b0); (try clear q32); (try clear c33); (try clear hcz10_0); (try clear hcz10_1); (try clear hcz10_2); (try clear hcz12_0); (try clear hcz12_1); (try clear hcz12_2); (try clear hcz14_0); (try clear hcz14_1); (try clear hcz14_2); (try clear hcz34_0); (try clear hcz34_1); (try clear hcz34_2); (try clear hcz39_0); (try clear hcz39_1); (try clear hcz39_2); (try clear hfz10_0); (try clear hfz10_1); (try clear hfz10_2); (try clear hfz12_0); (try clear hfz12_1); (try clear hfz12_2); (try clear hfz14_0); (try clear hfz14_1); (try clear hfz14_2); (try clear hfz34_0); (try clear hfz34_1); (try clear hfz34_2); (try clear hfz39_0); (try clear hfz39_1); (try clear hfz39_2); (try clear hx209_0); (try clear hx209_1); (try clear hx209_2); (try clear hx209_3); (try clear hx209_4); (try clear p2); (try clear p209); (try clear q209); obtain ⟨xi, rfl, HA, HK2, HO_3, HO_5, HO_7, BK191, HB⟩ := hrel
        cases gk with
        | zero => exact absurd HA.out (by simp [templelaw12_FollowsHold.l0])
        | succ k2 =>
         have H := HA.out; clear HA
         simp only [templelaw12_FollowsHold.l0] at H
         by_cases c40 : xi < (lr.length : Int)
         ·rw [if_pos c40] at H; have c40b0 : decide (xi < (lr.length : Int)) = true := decide_eq_true c40; clear c40; have H' := Aside0.mk H; clear H
          have hcz41_0 : wr.cell? ⟨gz, 0, none⟩ = some (.int .i64 aq) := (blk_cell BK191.out 0).trans rfl
          have hcz41_1 : wr.cell? ⟨gz, 1, none⟩ = some (.slice A0_1 lq.length c0_1) := (blk_cell BK191.out 1).trans rfl
          have hcz41_2 : wr.cell? ⟨gz, 2, none⟩ = some (.slice A0_2 lr.length c0_2) := (blk_cell BK191.out 2).trans rfl
          have hfz41_0 := blk_frozen BK191.out 0; have hfz41_1 := blk_frozen BK191.out 1; have hfz41_2 := blk_frozen BK191.out 2; go_wp2
          go_loopg [11] k2 (fun kq v11 w' => ∃ (xj : Int), v11 = .int .i64 xj ∧ Aside0 (templelaw12_FollowsHold.l1 kq td te tf xi xj aq lq lr = some r) ∧ Aside0 (kq ≤ k2) ∧ Aside0 (Kd.R Kd.bool 4 w' w.heap.size (fun _ => True) (.slice Ao36 td.length co36) td) ∧ Aside0 (Kd.R k63 63 w' w.heap.size (fun _ => True) (.slice Ao37 te.length co37) te) ∧ Aside0 (Kd.R k66 66 w' w.heap.size (fun _ => True) (.slice (some ad209) tf.length co38) tf) ∧ Aside0 (w'.heap[gz]? = some (.cells #[.int .i64 aq, (.slice A0_1 lq.length c0_1), (.slice A0_2 lr.length c0_2)] 25 (0, 0))) ∧ Aside0 (Below w.heap.size w w'))
          case atStart => exact ⟨(0), (by first | rfl | (simp; done) | (simp [i64_w]; done) | (simp [*]; done) | (simp [*, i64_w]; done) | (simp [*]; unfold wrap64; omega)), H', ⟨Nat.le_refl _⟩, ⟨by (with_reducible repeat (first | apply Kd.R_alloc | apply Kd.R_drewN | apply Kd.R_drew)); exact HO_3.out⟩, ⟨by (with_reducible repeat (first | apply Kd.R_alloc | apply Kd.R_drewN | apply Kd.R_drew)); exact HO_5.out⟩, ⟨by (with_reducible repeat (first | apply Kd.R_alloc | apply Kd.R_drewN | apply Kd.R_drew)); exact HO_7.out⟩, ⟨by (with_reducible repeat (first | refine blk_drewN ?_ _ | refine blk_drew ?_ | refine blk_alloc ?_ _)); exact BK191.out⟩, ⟨by repeat (first | (with_reducible first | exact HB.out | apply below_alloc | apply pw_below_drewN | apply below_drew1 | refine below_set ?_ GE191.out) | exact HB.out)⟩⟩
          case round =>
           clear H'; (try clear c1); (try clear c2); (try clear p2); (try clear q2); (try clear hx2); (try clear c3); (try clear q3); (try clear c4); (try clear c5); (try clear p6); (try clear c10); (try clear c12); (try clear c14); (try clear c17); (try clear c17b0); (try clear c17b1); (try clear c19); (try clear c19b0); (try clear c19b1); (try clear p20); (try clear q20); (try clear hx20); (try clear c21); (try clear c25); (try clear c26); (try clear c27); (try clear c27b0); (try clear c27b1); (try clear c27b2); (try clear c28); (try clear c28b0); (try clear c28b1); (try clear c28b2); (try clear c29); (try clear c29b0); (try clear c29b1); (try clear c29b2); (try clear c30); (try clear c30b0); (try clear c31); (try clear c31b0); (try clear q32); (try clear c33); (try clear c40); (try clear c40b0); (try clear hcz10_0); (try clear hcz10_1); (try clear hcz10_2); (try clear hcz12_0); (try clear hcz12_1); (try clear hcz12_2); (try clear hcz14_0); (try clear hcz14_1); (try clear hcz14_2); (try clear hcz34_0); (try clear hcz34_1); (try clear hcz34_2); (try clear hcz39_0); (try clear hcz39_1); (try clear hcz39_2); (try clear hcz41_0); (try clear hcz41_1); (try clear hcz41_2); (try clear hfz10_0); (try clear hfz10_1); (try clear hfz10_2); (try clear hfz12_0); (try clear hfz12_1); (try clear hfz12_2); (try clear hfz14_0); (try clear hfz14_1); (try clear hfz14_2); (try clear hfz34_0); (try clear hfz34_1); (try clear hfz34_2); (try clear hfz39_0); (try clear hfz39_1); (try clear hfz39_2); (try clear hfz41_0); (try clear hfz41_1); (try clear hfz41_2); (try clear hx209_0); (try clear hx209_1); (try clear hx209_2); (try clear hx209_3); (try clear hx209_4); (try clear p2); (try clear p20); (try clear p209); (try clear p6); (try clear q2); (try clear q20); (try clear q209); (try clear q3); (try clear q32); obtain ⟨xj, rfl, HA, HK3, HO_3, HO_5, HO_7, BK191, HB⟩ := hrel
           cases gk with
           | zero => exact absurd HA.out (by simp [templelaw12_FollowsHold.l1])
           | succ k3 =>
            have H := HA.out; clear HA
            simp only [templelaw12_FollowsHold.l1] at H
            by_cases c42 : 0 ≤ xi
            rotate_left
            ·(rw [if_neg c42] at H; exact absurd H (by simp))
            rw [if_pos c42] at H; have c42b0 : decide (0 ≤ xi) = true := decide_eq_true c42; clear c42
            by_cases c43 : xi < (lr.length : Int)
            rotate_left
            ·(rw [if_neg c43] at H; exact absurd H (by simp))
            rw [if_pos c43] at H; have c43b0 : decide (xi < (lr.length : Int)) = true := decide_eq_true c43; clear c43
            by_cases c44 : xj < (((rd_T55 lr xi).f1).length : Int)
            ·rw [if_pos c44] at H; have c44b0 : decide (xj < (((rd_T55 lr xi).f1).length : Int)) = true := decide_eq_true c44; clear c44
             by_cases c45 : 0 ≤ xj
             rotate_left
             ·(rw [if_neg c45] at H; exact absurd H (by simp))
             rw [if_pos c45] at H; have c45b0 : decide (0 ≤ xj) = true := decide_eq_true c45; clear c45; have H' := Aside0.mk H; clear H
             have hcz46_0 : wr.cell? ⟨gz, 0, none⟩ = some (.int .i64 aq) := (blk_cell BK191.out 0).trans rfl
             have hcz46_1 : wr.cell? ⟨gz, 1, none⟩ = some (.slice A0_1 lq.length c0_1) := (blk_cell BK191.out 1).trans rfl
             have hcz46_2 : wr.cell? ⟨gz, 2, none⟩ = some (.slice A0_2 lr.length c0_2) := (blk_cell BK191.out 2).trans rfl
             have hfz46_0 := blk_frozen BK191.out 0; have hfz46_1 := blk_frozen BK191.out 1; have hfz46_2 := blk_frozen BK191.out 2
             have p210 : 0 ≤ (xi : Int) := of_decide_eq_true (by first | (with_reducible assumption) | assumption)
             have q210 : xi < (lr.length : Int) := of_decide_eq_true (by first | (with_reducible assumption) | assumption)
             obtain ⟨ad210, A210_1, c210_1, e210, hx210_0, hx210_1, hl210_1, hi210_1⟩ := at_T55 HR0_2.out xi p210 q210; cases e210
             replace hx210_0 := (HB.out.cell (World.block_lt_of_cell? w _ hx210_0)).trans hx210_0
             replace hx210_1 := (HB.out.cell (World.block_lt_of_cell? w _ hx210_1)).trans hx210_1
             have HR210_1 := Aside0.mk hi210_1; have HC210_1 := Aside0.mk hl210_1; clear hi210_1 hl210_1; replace p210 := eq_true p210; replace q210 := eq_true q210
             have p211 : 0 ≤ (xi : Int) := of_decide_eq_true (by first | (with_reducible assumption) | assumption)
             have q211 : xi < (lr.length : Int) := of_decide_eq_true (by first | (with_reducible assumption) | assumption)
             obtain ⟨ad211, A211_1, c211_1, e211, hx211_0, hx211_1, hl211_1, hi211_1⟩ := at_T55 HR0_2.out xi p211 q211; obtain rfl : ad210 = ad211 := (by injection e211)
             replace hx211_0 := (HB.out.cell (World.block_lt_of_cell? w _ hx211_0)).trans hx211_0
             replace hx211_1 := (HB.out.cell (World.block_lt_of_cell? w _ hx211_1)).trans hx211_1
             have HR211_1 := Aside0.mk hi211_1; have HC211_1 := Aside0.mk hl211_1; clear hi211_1 hl211_1; replace p211 := eq_true p211; replace q211 := eq_true q211
             have ea_ := Option.some.inj (hx210_1.symm.trans hx211_1)
             injection ea_ with ea_ en_ ec_
             subst ea_; subst ec_; clear en_
             have p212 : 0 ≤ (xj : Int) := of_decide_eq_true (by first | (with_reducible assumption) | assumption)
             have q212 : xj < (((rd_T55 lr xi).f1).length : Int) := of_decide_eq_true (by first | (with_reducible assumption) | assumption)
             obtain ⟨ad212, A212_1, c212_1, e212, hx212_0, hx212_1, hl212_1, hi212_1⟩ := at_T58 HR211_1.out xj p212 q212
             (try rw [← Nbq32.out] at hx212_0)
             cases e212
             replace hx212_0 := (HB.out.cell (World.block_lt_of_cell? w _ hx212_0)).trans hx212_0
             replace hx212_1 := (HB.out.cell (World.block_lt_of_cell? w _ hx212_1)).trans hx212_1
             have HR212_1 := Aside0.mk hi212_1; have HC212_1 := Aside0.mk hl212_1; clear hi212_1 hl212_1; replace p212 := eq_true p212; replace q212 := eq_true q212
             go_wp2_with (first | ((with_reducible refine gate_dst (N := 14) rfl ?_); (try (refine gate_guard (by rfl) ?_; dsimp only)); refine box_event ?hg (N := 14) ?hd (cs := #[.int .u64 0, .int .u64 0, .int .u64 0, .int .u64 0]) (t := 63) ?hr ?_; (case hd => rfl); (case hg => rfl); (case hr => first | (go_simp; done) | (go_simp; rfl)); intro gp hg w47 hbox hb; have n0_ := Aside0.mk (Kd.R_below (by (with_reducible repeat (first | apply Kd.R_alloc | apply Kd.R_drewN | apply Kd.R_drew)); exact HO_3.out) hb); have n1_ := Aside0.mk (Kd.R_below (Kd.R_elderB (by (with_reducible repeat (first | apply Kd.R_alloc | apply Kd.R_drewN | apply Kd.R_drew)); exact HO_5.out) gp (Nat.le_of_eq hg.symm)) hb); have n2_ := Aside0.mk (Kd.R_below (by (with_reducible repeat (first | apply Kd.R_alloc | apply Kd.R_drewN | apply Kd.R_drew)); exact HO_7.out) hb); have n3_ := Aside0.mk (blk_below (g := gz) (o := .cells #[.int .i64 aq, .slice A0_1 lq.length c0_1, .slice (some ad210) lr.length c0_2] 25 (0, 0)) (by (with_reducible repeat (first | refine blk_drewN ?_ _ | refine blk_drew ?_ | refine blk_alloc ?_ _)); exact BK191.out) hb); have n4_ := Aside0.mk (below_step (by repeat (first | (with_reducible first | exact HB.out | apply below_alloc | apply pw_below_drewN | apply below_drew1 | refine below_set ?_ GE191.out) | exact HB.out)) hb); have n5_ := Aside0.mk (hbox); have n6_ := Aside0.mk ((by rw [hg]; exact (below_size (by repeat (first | (with_reducible first | exact HB.out | apply below_alloc | apply pw_below_drewN | apply below_drew1 | refine below_set ?_ GE191.out) | exact HB.out))) : w.heap.size ≤ gp)); have n7_ := Aside0.mk ((by rw [hg]; exact (below_size (by repeat (first | (with_reducible first | exact HB.out | apply below_alloc | apply pw_below_drewN | apply below_drew1 | refine below_set ?_ GE191.out) | exact HB.out))) : w.heap.size ≤ gp)); have n8_ := Aside0.mk ((by rw [hg]; exact Nat.ne_of_lt (blk_lt (g := gz) (o := .cells #[.int .i64 aq, .slice A0_1 lq.length c0_1, .slice (some ad210) lr.length c0_2] 25 (0, 0)) (by (with_reducible repeat (first | refine blk_drewN ?_ _ | refine blk_drew ?_ | refine blk_alloc ?_ _)); exact BK191.out)) : gz ≠ gp)); have n9_ := Aside0.mk ((by rw [hg]; exact Nat.ne_of_gt (blk_lt (g := gz) (o := .cells #[.int .i64 aq, .slice A0_1 lq.length c0_1, .slice (some ad210) lr.length c0_2] 25 (0, 0)) (by (with_reducible repeat (first | refine blk_drewN ?_ _ | refine blk_drew ?_ | refine blk_alloc ?_ _)); exact BK191.out)) : gp ≠ gz)); clear HO_3; clear HO_5; clear HO_7; clear BK191; clear HB; have HO_3 := n0_; have HO_5 := n1_; have HO_7 := n2_; have BK191 := n3_; have HB := n4_; have BK213 := n5_; have GW213 := n6_; have GE213 := n7_; have NB191_213 := n8_; have NB213_191 := n9_; clear n0_ n1_ n2_ n3_ n4_ n5_ n6_ n7_ n8_ n9_; clear hb hbox hg))
             go_loopg [13, 15] k3 (fun kq v13 v15 w' => ∃ (xm : Bool) (xk : Int) (ya : Int) (yb : Int) (yc : Int) (yd : Int), v13 = .bool xm ∧ v15 = .int .i64 xk ∧ Aside0 (templelaw12_FollowsHold.l2 kq td te tf xi xj ((rd_T58 ((rd_T55 lr xi).f1) xj).f1) xm xk aq lq lr ya yb yc yd = some r) ∧ Aside0 (kq ≤ k3) ∧ Aside0 (Kd.R Kd.bool 4 w' w.heap.size (fun _ => True) (.slice Ao36 td.length co36) td) ∧ Aside0 (Kd.R k63 63 w' w.heap.size (fun k_ => k_ ≠ gp) (.slice Ao37 te.length co37) te) ∧ Aside0 (Kd.R k66 66 w' w.heap.size (fun _ => True) (.slice (some ad209) tf.length co38) tf) ∧ Aside0 (w'.heap[gz]? = some (.cells #[.int .i64 aq, (.slice A0_1 lq.length c0_1), (.slice (some ad210) lr.length c0_2)] 25 (0, 0))) ∧ Aside0 (w'.heap[gp]? = some (.cells #[.int .u64 ya, .int .u64 yb, .int .u64 yc, .int .u64 yd] 63 (0, 0))) ∧ Aside0 (Below w.heap.size w w'))
             case atStart => exact ⟨(true), (wrap64 ((((rd_T58 ((rd_T55 lr xi).f1) xj).f1).length : Int) - 1)), (0), (0), (0), (0), (by first | rfl | (simp; done) | (simp [i64_w]; done) | (simp [*]; done) | (simp [*, i64_w]; done) | (simp [*]; unfold wrap64; omega)), (by first | rfl | (simp; done) | (simp [i64_w]; done) | (simp [*]; done) | (simp [*, i64_w]; done) | (simp [*]; unfold wrap64; omega)), H', ⟨Nat.le_refl _⟩, ⟨by (with_reducible repeat (first | apply Kd.R_alloc | apply Kd.R_drewN | apply Kd.R_drew)); exact HO_3.out⟩, ⟨by (with_reducible repeat (first | apply Kd.R_alloc | apply Kd.R_drewN | apply Kd.R_drew)); exact Kd.R_mono HO_5.out (fun _ hk => hk.2)⟩, ⟨by (with_reducible repeat (first | apply Kd.R_alloc | apply Kd.R_drewN | apply Kd.R_drew)); exact HO_7.out⟩, ⟨by (with_reducible repeat (first | refine blk_drewN ?_ _ | refine blk_drew ?_ | refine blk_alloc ?_ _)); exact BK191.out⟩, ⟨by (with_reducible repeat (first | refine blk_drewN ?_ _ | refine blk_drew ?_ | refine blk_alloc ?_ _)); exact BK213.out⟩, ⟨by repeat (first | (with_reducible first | exact HB.out | apply below_alloc | apply pw_below_drewN | apply below_drew1 | refine below_set ?_ GE191.out | refine below_set ?_ GE213.out) | exact HB.out)⟩⟩
             case round =>
              clear H'; (try clear c1); (try clear c2); (try clear p2); (try clear q2); (try clear hx2); (try clear c3); (try clear q3); (try clear c4); (try clear c5); (try clear p6); (try clear c10); (try clear c12); (try clear c14); (try clear c17); (try clear c17b0); (try clear c17b1); (try clear c19); (try clear c19b0); (try clear c19b1); (try clear p20); (try clear q20); (try clear hx20); (try clear c21); (try clear p21); (try clear q21); (try clear hx21); (try clear c25); (try clear c26); (try clear c27); (try clear c27b0); (try clear c27b1); (try clear c27b2); (try clear c28); (try clear c28b0); (try clear c28b1); (try clear c28b2); (try clear c29); (try clear c29b0); (try clear c29b1); (try clear c29b2); (try clear c30); (try clear c30b0); (try clear c31); (try clear c31b0); (try clear q32); (try clear c33); (try clear c40); (try clear c40b0); (try clear c42); (try clear c42b0); (try clear c43); (try clear c43b0); (try clear c44); (try clear c44b0); (try clear c45); (try clear c45b0); (try clear hcz10_0); (try clear hcz10_1); (try clear hcz10_2); (try clear hcz12_0); (try clear hcz12_1); (try clear hcz12_2); (try clear hcz14_0); (try clear hcz14_1); (try clear hcz14_2); (try clear hcz34_0); (try clear hcz34_1); (try clear hcz34_2); (try clear hcz39_0); (try clear hcz39_1); (try clear hcz39_2); (try clear hcz41_0); (try clear hcz41_1); (try clear hcz41_2); (try clear hcz46_0); (try clear hcz46_1); (try clear hcz46_2); (try clear hfz10_0); (try clear hfz10_1); (try clear hfz10_2); (try clear hfz12_0); (try clear hfz12_1); (try clear hfz12_2); (try clear hfz14_0); (try clear hfz14_1); (try clear hfz14_2); (try clear hfz34_0); (try clear hfz34_1); (try clear hfz34_2); (try clear hfz39_0); (try clear hfz39_1); (try clear hfz39_2); (try clear hfz41_0); (try clear hfz41_1); (try clear hfz41_2); (try clear hfz46_0); (try clear hfz46_1); (try clear hfz46_2); (try clear hx209_0); (try clear hx209_1); (try clear hx209_2); (try clear hx209_3); (try clear hx209_4); (try clear hx210_0); (try clear hx210_1); (try clear hx211_0); (try clear hx211_1); (try clear hx212_0); (try clear hx212_1); (try clear p2); (try clear p20); (try clear p209); (try clear p210); (try clear p211); (try clear p212); (try clear p6); (try clear q2); (try clear q20); (try clear q209); (try clear q210); (try clear q211); (try clear q212); (try clear q3); (try clear q32); obtain ⟨xm, xk, ya, yb, yc, yd, rfl, rfl, HA, HK4, HO_3, HO_5, HO_7, BK191, BK213, HB⟩ := hrel
              cases gk with
              | zero => exact absurd HA.out (by simp [templelaw12_FollowsHold.l2])
              | succ k4 =>
               have H := HA.out; clear HA
               simp only [templelaw12_FollowsHold.l2] at H
               by_cases c48 : xk ≥ 0
               ·rw [if_pos c48] at H; have c48b0 : decide (0 ≤ xk) = true := decide_eq_true c48; clear c48
                by_cases c49 : 0 ≤ xk
                rotate_left
                ·(rw [if_neg c49] at H; exact absurd H (by simp))
                rw [if_pos c49] at H; have c49b0 : decide (0 ≤ xk) = true := decide_eq_true c49; clear c49
                by_cases c50 : xk < (((rd_T58 ((rd_T55 lr xi).f1) xj).f1).length : Int)
                rotate_left
                ·(rw [if_neg c50] at H; exact absurd H (by simp))
                rw [if_pos c50] at H; have c50b0 : decide (xk < (((rd_T58 ((rd_T55 lr xi).f1) xj).f1).length : Int)) = true := decide_eq_true c50; clear c50
                by_cases c51 : ((rd_T68 ((rd_T58 ((rd_T55 lr xi).f1) xj).f1) xk).f0) ≥ 0
                ·rw [if_pos c51] at H; have c51b0 : decide (0 ≤ ((rd_T68 ((rd_T58 ((rd_T55 lr xi).f1) xj).f1) xk).f0)) = true := decide_eq_true c51; clear c51
                 by_cases c52 : 0 ≤ ((rd_T68 ((rd_T58 ((rd_T55 lr xi).f1) xj).f1) xk).f0)
                 rotate_left
                 ·(rw [if_neg c52] at H; exact absurd H (by simp))
                 rw [if_pos c52] at H; have c52b0 : decide (0 ≤ ((rd_T68 ((rd_T58 ((rd_T55 lr xi).f1) xj).f1) xk).f0)) = true := decide_eq_true c52; clear c52
                 by_cases c53 : ((rd_T68 ((rd_T58 ((rd_T55 lr xi).f1) xj).f1) xk).f0) < (tf.length : Int)
                 rotate_left
                 ·(rw [if_neg c53] at H; exact absurd H (by simp))
                 rw [if_pos c53] at H; have c53b0 : decide (((rd_T68 ((rd_T58 ((rd_T55 lr xi).f1) xj).f1) xk).f0) < (tf.length : Int)) = true := decide_eq_true c53; clear c53; have HC54 := Aside0.mk H; clear H
                 have p214 : 0 ≤ (xk : Int) := of_decide_eq_true (by first | (with_reducible assumption) | assumption)
                 have q214 : xk < (((rd_T58 ((rd_T55 lr xi).f1) xj).f1).length : Int) := of_decide_eq_true (by first | (with_reducible assumption) | assumption)
                 obtain ⟨ad214, e214, hx214_0, hx214_1, hx214_2⟩ := at_T68 HR212_1.out xk p214 q214; cases e214
                 replace hx214_0 := (HB.out.cell (World.block_lt_of_cell? w _ hx214_0)).trans hx214_0
                 replace hx214_1 := (HB.out.cell (World.block_lt_of_cell? w _ hx214_1)).trans hx214_1
                 replace hx214_2 := (HB.out.cell (World.block_lt_of_cell? w _ hx214_2)).trans hx214_2
                 replace p214 := eq_true p214; replace q214 := eq_true q214
                 go_upto_region 26 with (first | ((with_reducible refine gate_dst (N := 16) rfl ?_); (try (refine gate_guard (by rfl) ?_; dsimp only)); refine box_event ?hg (N := 16) ?hd (cs := #[.int .i64 0, .int .i64 0, .int .i64 0]) (t := 68) ?hr ?_; (case hd => rfl); (case hg => rfl); (case hr => first | (go_simp; done) | (go_simp; rfl)); intro gs hg w55 hbox hb; have n0_ := Aside0.mk (Kd.R_below (by (with_reducible repeat (first | apply Kd.R_alloc | apply Kd.R_drewN | apply Kd.R_drew)); exact HO_3.out) hb); have n1_ := Aside0.mk (Kd.R_below (by (with_reducible repeat (first | apply Kd.R_alloc | apply Kd.R_drewN | apply Kd.R_drew)); exact HO_5.out) hb); have n2_ := Aside0.mk (Kd.R_below (by (with_reducible repeat (first | apply Kd.R_alloc | apply Kd.R_drewN | apply Kd.R_drew)); exact HO_7.out) hb); have n3_ := Aside0.mk (blk_below (g := gz) (o := .cells #[.int .i64 aq, .slice A0_1 lq.length c0_1, .slice (some ad210) lr.length c0_2] 25 (0, 0)) (by (with_reducible repeat (first | refine blk_drewN ?_ _ | refine blk_drew ?_ | refine blk_alloc ?_ _)); exact BK191.out) hb); have n4_ := Aside0.mk (blk_below (g := gp) (o := .cells #[.int .u64 ya, .int .u64 yb, .int .u64 yc, .int .u64 yd] 63 (0, 0)) (by (with_reducible repeat (first | refine blk_drewN ?_ _ | refine blk_drew ?_ | refine blk_alloc ?_ _)); exact BK213.out) hb); have n5_ := Aside0.mk (below_step (by repeat (first | (with_reducible first | exact HB.out | apply below_alloc | apply pw_below_drewN | apply below_drew1 | refine below_set ?_ GE191.out | refine below_set ?_ GE213.out) | exact HB.out)) hb); have n6_ := Aside0.mk (hbox); have n7_ := Aside0.mk ((by rw [hg]; exact (below_size (by repeat (first | (with_reducible first | exact HB.out | apply below_alloc | apply pw_below_drewN | apply below_drew1 | refine below_set ?_ GE191.out | refine below_set ?_ GE213.out) | exact HB.out))) : w.heap.size ≤ gs)); have n8_ := Aside0.mk ((by rw [hg]; exact (below_size (by repeat (first | (with_reducible first | exact HB.out | apply below_alloc | apply pw_below_drewN | apply below_drew1 | refine below_set ?_ GE191.out | refine below_set ?_ GE213.out) | exact HB.out))) : w.heap.size ≤ gs)); have n9_ := Aside0.mk ((by rw [hg]; exact Nat.ne_of_lt (blk_lt (g := gz) (o := .cells #[.int .i64 aq, .slice A0_1 lq.length c0_1, .slice (some ad210) lr.length c0_2] 25 (0, 0)) (by (with_reducible repeat (first | refine blk_drewN ?_ _ | refine blk_drew ?_ | refine blk_alloc ?_ _)); exact BK191.out)) : gz ≠ gs)); have n10_ := Aside0.mk ((by rw [hg]; exact Nat.ne_of_gt (blk_lt (g := gz) (o := .cells #[.int .i64 aq, .slice A0_1 lq.length c0_1, .slice (some ad210) lr.length c0_2] 25 (0, 0)) (by (with_reducible repeat (first | refine blk_drewN ?_ _ | refine blk_drew ?_ | refine blk_alloc ?_ _)); exact BK191.out)) : gs ≠ gz)); have n11_ := Aside0.mk ((by rw [hg]; exact Nat.ne_of_lt (blk_lt (g := gp) (o := .cells #[.int .u64 ya, .int .u64 yb, .int .u64 yc, .int .u64 yd] 63 (0, 0)) (by (with_reducible repeat (first | refine blk_drewN ?_ _ | refine blk_drew ?_ | refine blk_alloc ?_ _)); exact BK213.out)) : gp ≠ gs)); have n12_ := Aside0.mk ((by rw [hg]; exact Nat.ne_of_gt (blk_lt (g := gp) (o := .cells #[.int .u64 ya, .int .u64 yb, .int .u64 yc, .int .u64 yd] 63 (0, 0)) (by (with_reducible repeat (first | refine blk_drewN ?_ _ | refine blk_drew ?_ | refine blk_alloc ?_ _)); exact BK213.out)) : gs ≠ gp)); clear HO_3; clear HO_5; clear HO_7; clear BK191; clear BK213; clear HB; have HO_3 := n0_; have HO_5 := n1_; have HO_7 := n2_; have BK191 := n3_; have BK213 := n4_; have HB := n5_; have BK215 := n6_; have GW215 := n7_; have GE215 := n8_; have NB191_215 := n9_; have NB215_191 := n10_; have NB213_215 := n11_; have NB215_213 := n12_; clear n0_ n1_ n2_ n3_ n4_ n5_ n6_ n7_ n8_ n9_ n10_ n11_ n12_; clear hb hbox hg; have hnb56 := NB215_191.out; have hnc56 := NB191_215.out; have hnb57 := NB215_213.out; have hnc57 := NB213_215.out; have hcz58_0 : w55.cell? ⟨gs, 0, none⟩ = some (.int .i64 0) := (blk_cell BK215.out 0).trans rfl; have hcz58_1 : w55.cell? ⟨gs, 1, none⟩ = some (.int .i64 0) := (blk_cell BK215.out 1).trans rfl; have hcz58_2 : w55.cell? ⟨gs, 2, none⟩ = some (.int .i64 0) := (blk_cell BK215.out 2).trans rfl; have hfz58_0 := blk_frozen BK215.out 0; have hfz58_1 := blk_frozen BK215.out 1; have hfz58_2 := blk_frozen BK215.out 2; have p216 : 0 ≤ (((rd_T68 ((rd_T58 ((rd_T55 lr xi).f1) xj).f1) xk).f0) : Int) := of_decide_eq_true (by first | (with_reducible assumption) | assumption); have q216 : ((rd_T68 ((rd_T58 ((rd_T55 lr xi).f1) xj).f1) xk).f0) < (tf.length : Int) := of_decide_eq_true (by first | (with_reducible assumption) | assumption); obtain ⟨ad216, e216, hx216_0, hx216_1, hx216_2, hx216_3, hx216_4⟩ := at_T66 (Kd.R_reads' HO_7.out).2.2 ((rd_T68 ((rd_T58 ((rd_T55 lr xi).f1) xj).f1) xk).f0) p216 q216; (try rw [← Nbq32.out] at hx216_4); obtain rfl : ad209 = ad216 := (by injection e216); have hn216_0 : ad209.block ≠ gs := Kd.own_blk (by first | exact Kd.R_ne HO_7.out BK215.out (by decide) | (intro he_; have q_ := HO_7.out.1 _ he_.symm; first | exact q_.2 rfl | exact q_.1.2 rfl | exact q_.1.1.2 rfl)); have hn216_1 : ad209.block ≠ gs := Kd.own_blk (by first | exact Kd.R_ne HO_7.out BK215.out (by decide) | (intro he_; have q_ := HO_7.out.1 _ he_.symm; first | exact q_.2 rfl | exact q_.1.2 rfl | exact q_.1.1.2 rfl)); have hn216_2 : ad209.block ≠ gs := Kd.own_blk (by first | exact Kd.R_ne HO_7.out BK215.out (by decide) | (intro he_; have q_ := HO_7.out.1 _ he_.symm; first | exact q_.2 rfl | exact q_.1.2 rfl | exact q_.1.1.2 rfl)); replace hx216_0 := (cell_far (p := ⟨gs, 0, none⟩) (by first | (rw [add_block]; exact hn216_0) | (show (Addr.add _ _).block ≠ _; rw [add_block]; exact hn216_0) | exact hn216_0) (.int .i64 ((rd_T68 ((rd_T58 ((rd_T55 lr xi).f1) xj).f1) xk).f0))).trans hx216_0; replace hx216_1 := (cell_far (p := ⟨gs, 0, none⟩) (by first | (rw [add_block]; exact hn216_0) | (show (Addr.add _ _).block ≠ _; rw [add_block]; exact hn216_0) | exact hn216_0) (.int .i64 ((rd_T68 ((rd_T58 ((rd_T55 lr xi).f1) xj).f1) xk).f0))).trans hx216_1; replace hx216_2 := (cell_far (p := ⟨gs, 0, none⟩) (by first | (rw [add_block]; exact hn216_0) | (show (Addr.add _ _).block ≠ _; rw [add_block]; exact hn216_0) | exact hn216_0) (.int .i64 ((rd_T68 ((rd_T58 ((rd_T55 lr xi).f1) xj).f1) xk).f0))).trans hx216_2; replace hx216_3 := (cell_far (p := ⟨gs, 0, none⟩) (by first | (rw [add_block]; exact hn216_0) | (show (Addr.add _ _).block ≠ _; rw [add_block]; exact hn216_0) | exact hn216_0) (.int .i64 ((rd_T68 ((rd_T58 ((rd_T55 lr xi).f1) xj).f1) xk).f0))).trans hx216_3; replace hx216_4 := (cell_far (p := ⟨gs, 0, none⟩) (by first | (rw [add_block]; exact hn216_0) | (show (Addr.add _ _).block ≠ _; rw [add_block]; exact hn216_0) | exact hn216_0) (.int .i64 ((rd_T68 ((rd_T58 ((rd_T55 lr xi).f1) xj).f1) xk).f0))).trans hx216_4; replace hx216_0 := (cell_far (p := ⟨gs, 1, none⟩) (by first | (rw [add_block]; exact hn216_1) | (show (Addr.add _ _).block ≠ _; rw [add_block]; exact hn216_1) | exact hn216_1) (.int .i64 ((rd_T68 ((rd_T58 ((rd_T55 lr xi).f1) xj).f1) xk).f1))).trans hx216_0; replace hx216_1 := (cell_far (p := ⟨gs, 1, none⟩) (by first | (rw [add_block]; exact hn216_1) | (show (Addr.add _ _).block ≠ _; rw [add_block]; exact hn216_1) | exact hn216_1) (.int .i64 ((rd_T68 ((rd_T58 ((rd_T55 lr xi).f1) xj).f1) xk).f1))).trans hx216_1; replace hx216_2 := (cell_far (p := ⟨gs, 1, none⟩) (by first | (rw [add_block]; exact hn216_1) | (show (Addr.add _ _).block ≠ _; rw [add_block]; exact hn216_1) | exact hn216_1) (.int .i64 ((rd_T68 ((rd_T58 ((rd_T55 lr xi).f1) xj).f1) xk).f1))).trans hx216_2; replace hx216_3 := (cell_far (p := ⟨gs, 1, none⟩) (by first | (rw [add_block]; exact hn216_1) | (show (Addr.add _ _).block ≠ _; rw [add_block]; exact hn216_1) | exact hn216_1) (.int .i64 ((rd_T68 ((rd_T58 ((rd_T55 lr xi).f1) xj).f1) xk).f1))).trans hx216_3; replace hx216_4 := (cell_far (p := ⟨gs, 1, none⟩) (by first | (rw [add_block]; exact hn216_1) | (show (Addr.add _ _).block ≠ _; rw [add_block]; exact hn216_1) | exact hn216_1) (.int .i64 ((rd_T68 ((rd_T58 ((rd_T55 lr xi).f1) xj).f1) xk).f1))).trans hx216_4; replace hx216_0 := (cell_far (p := ⟨gs, 2, none⟩) (by first | (rw [add_block]; exact hn216_2) | (show (Addr.add _ _).block ≠ _; rw [add_block]; exact hn216_2) | exact hn216_2) (.int .i64 ((rd_T68 ((rd_T58 ((rd_T55 lr xi).f1) xj).f1) xk).f2))).trans hx216_0; replace hx216_1 := (cell_far (p := ⟨gs, 2, none⟩) (by first | (rw [add_block]; exact hn216_2) | (show (Addr.add _ _).block ≠ _; rw [add_block]; exact hn216_2) | exact hn216_2) (.int .i64 ((rd_T68 ((rd_T58 ((rd_T55 lr xi).f1) xj).f1) xk).f2))).trans hx216_1; replace hx216_2 := (cell_far (p := ⟨gs, 2, none⟩) (by first | (rw [add_block]; exact hn216_2) | (show (Addr.add _ _).block ≠ _; rw [add_block]; exact hn216_2) | exact hn216_2) (.int .i64 ((rd_T68 ((rd_T58 ((rd_T55 lr xi).f1) xj).f1) xk).f2))).trans hx216_2; replace hx216_3 := (cell_far (p := ⟨gs, 2, none⟩) (by first | (rw [add_block]; exact hn216_2) | (show (Addr.add _ _).block ≠ _; rw [add_block]; exact hn216_2) | exact hn216_2) (.int .i64 ((rd_T68 ((rd_T58 ((rd_T55 lr xi).f1) xj).f1) xk).f2))).trans hx216_3; replace hx216_4 := (cell_far (p := ⟨gs, 2, none⟩) (by first | (rw [add_block]; exact hn216_2) | (show (Addr.add _ _).block ≠ _; rw [add_block]; exact hn216_2) | exact hn216_2) (.int .i64 ((rd_T68 ((rd_T58 ((rd_T55 lr xi).f1) xj).f1) xk).f2))).trans hx216_4; clear hn216_0; clear hn216_1; clear hn216_2; replace p216 := eq_true p216; replace q216 := eq_true q216) | ((with_reducible refine gate_dst (N := 17) rfl ?_); (try (refine gate_guard (by rfl) ?_; dsimp only)); refine box_event ?hg (N := 17) ?hd (cs := #[.int .u64 0, .int .u64 0, .int .u64 0, .int .u64 0, .bool false]) (t := 66) ?hr ?_; (case hd => rfl); (case hg => rfl); (case hr => first | (go_simp; done) | (go_simp; rfl)); intro gq hg w59 hbox hb; have n0_ := Aside0.mk (Kd.R_below (by (with_reducible repeat (first | apply Kd.R_alloc | apply Kd.R_drewN | apply Kd.R_drew)); exact (Kd.R_mono (Kd.R_far (p := ⟨gs, 2, none⟩) (Kd.R_far (p := ⟨gs, 1, none⟩) (Kd.R_far (p := ⟨gs, 0, none⟩) (Kd.R_types HO_3.out BK215.out (by decide)) (fun _ hk => hk.2) (.int .i64 ((rd_T68 ((rd_T58 ((rd_T55 lr xi).f1) xj).f1) xk).f0))) (fun _ hk => hk.2) (.int .i64 ((rd_T68 ((rd_T58 ((rd_T55 lr xi).f1) xj).f1) xk).f1))) (fun _ hk => hk.2) (.int .i64 ((rd_T68 ((rd_T58 ((rd_T55 lr xi).f1) xj).f1) xk).f2))) (fun _ h_ => h_.1))) hb); have n1_ := Aside0.mk (Kd.R_below (by (with_reducible repeat (first | apply Kd.R_alloc | apply Kd.R_drewN | apply Kd.R_drew)); exact (Kd.R_mono (Kd.R_far (p := ⟨gs, 2, none⟩) (Kd.R_far (p := ⟨gs, 1, none⟩) (Kd.R_far (p := ⟨gs, 0, none⟩) (Kd.R_types HO_5.out BK215.out (by decide)) (fun _ hk => hk.2) (.int .i64 ((rd_T68 ((rd_T58 ((rd_T55 lr xi).f1) xj).f1) xk).f0))) (fun _ hk => hk.2) (.int .i64 ((rd_T68 ((rd_T58 ((rd_T55 lr xi).f1) xj).f1) xk).f1))) (fun _ hk => hk.2) (.int .i64 ((rd_T68 ((rd_T58 ((rd_T55 lr xi).f1) xj).f1) xk).f2))) (fun _ h_ => h_.1))) hb); have n2_ := Aside0.mk (Kd.R_below (Kd.R_elderB (by (with_reducible repeat (first | apply Kd.R_alloc | apply Kd.R_drewN | apply Kd.R_drew)); exact (Kd.R_mono (Kd.R_far (p := ⟨gs, 2, none⟩) (Kd.R_far (p := ⟨gs, 1, none⟩) (Kd.R_far (p := ⟨gs, 0, none⟩) (Kd.R_types HO_7.out BK215.out (by decide)) (fun _ hk => hk.2) (.int .i64 ((rd_T68 ((rd_T58 ((rd_T55 lr xi).f1) xj).f1) xk).f0))) (fun _ hk => hk.2) (.int .i64 ((rd_T68 ((rd_T58 ((rd_T55 lr xi).f1) xj).f1) xk).f1))) (fun _ hk => hk.2) (.int .i64 ((rd_T68 ((rd_T58 ((rd_T55 lr xi).f1) xj).f1) xk).f2))) (fun _ h_ => h_.1))) gq (Nat.le_of_eq hg.symm)) hb); have n3_ := Aside0.mk (blk_below (g := gz) (o := .cells #[.int .i64 aq, .slice A0_1 lq.length c0_1, .slice (some ad210) lr.length c0_2] 25 (0, 0)) (by (with_reducible repeat (first | refine blk_drewN ?_ _ | refine blk_drew ?_ | refine blk_alloc ?_ _)); refine blk_far ?_ NB191_215.out _; (with_reducible repeat (first | refine blk_drewN ?_ _ | refine blk_drew ?_ | refine blk_alloc ?_ _)); refine blk_far ?_ NB191_215.out _; (with_reducible repeat (first | refine blk_drewN ?_ _ | refine blk_drew ?_ | refine blk_alloc ?_ _)); refine blk_far ?_ NB191_215.out _; (with_reducible repeat (first | refine blk_drewN ?_ _ | refine blk_drew ?_ | refine blk_alloc ?_ _)); exact BK191.out) hb); have n4_ := Aside0.mk (blk_below (g := gp) (o := .cells #[.int .u64 ya, .int .u64 yb, .int .u64 yc, .int .u64 yd] 63 (0, 0)) (by (with_reducible repeat (first | refine blk_drewN ?_ _ | refine blk_drew ?_ | refine blk_alloc ?_ _)); refine blk_far ?_ NB213_215.out _; (with_reducible repeat (first | refine blk_drewN ?_ _ | refine blk_drew ?_ | refine blk_alloc ?_ _)); refine blk_far ?_ NB213_215.out _; (with_reducible repeat (first | refine blk_drewN ?_ _ | refine blk_drew ?_ | refine blk_alloc ?_ _)); refine blk_far ?_ NB213_215.out _; (with_reducible repeat (first | refine blk_drewN ?_ _ | refine blk_drew ?_ | refine blk_alloc ?_ _)); exact BK213.out) hb); have n5_ := Aside0.mk (blk_below (g := gs) (o := .cells #[.int .i64 ((rd_T68 ((rd_T58 ((rd_T55 lr xi).f1) xj).f1) xk).f0), .int .i64 ((rd_T68 ((rd_T58 ((rd_T55 lr xi).f1) xj).f1) xk).f1), .int .i64 ((rd_T68 ((rd_T58 ((rd_T55 lr xi).f1) xj).f1) xk).f2)] 68 (0, 0)) (by (with_reducible repeat (first | refine blk_drewN ?_ _ | refine blk_drew ?_ | refine blk_alloc ?_ _)); refine blk_put (cs := #[.int .i64 ((rd_T68 ((rd_T58 ((rd_T55 lr xi).f1) xj).f1) xk).f0), .int .i64 ((rd_T68 ((rd_T58 ((rd_T55 lr xi).f1) xj).f1) xk).f1), .int .i64 0]) ?_ 2 _ rfl; (with_reducible repeat (first | refine blk_drewN ?_ _ | refine blk_drew ?_ | refine blk_alloc ?_ _)); refine blk_put (cs := #[.int .i64 ((rd_T68 ((rd_T58 ((rd_T55 lr xi).f1) xj).f1) xk).f0), .int .i64 0, .int .i64 0]) ?_ 1 _ rfl; (with_reducible repeat (first | refine blk_drewN ?_ _ | refine blk_drew ?_ | refine blk_alloc ?_ _)); refine blk_put (cs := #[.int .i64 0, .int .i64 0, .int .i64 0]) ?_ 0 _ rfl; (with_reducible repeat (first | refine blk_drewN ?_ _ | refine blk_drew ?_ | refine blk_alloc ?_ _)); exact BK215.out) hb); have n6_ := Aside0.mk (below_step (by repeat (first | (with_reducible first | exact HB.out | apply below_alloc | apply pw_below_drewN | apply below_drew1 | refine below_set ?_ GE191.out | refine below_set ?_ GE213.out | refine below_set ?_ GE215.out) | exact HB.out)) hb); have n7_ := Aside0.mk (hbox); have n8_ := Aside0.mk ((by rw [hg]; exact (below_size (by repeat (first | (with_reducible first | exact HB.out | apply below_alloc | apply pw_below_drewN | apply below_drew1 | refine below_set ?_ GE191.out | refine below_set ?_ GE213.out | refine below_set ?_ GE215.out) | exact HB.out))) : w.heap.size ≤ gq)); have n9_ := Aside0.mk ((by rw [hg]; exact (below_size (by repeat (first | (with_reducible first | exact HB.out | apply below_alloc | apply pw_below_drewN | apply below_drew1 | refine below_set ?_ GE191.out | refine below_set ?_ GE213.out | refine below_set ?_ GE215.out) | exact HB.out))) : w.heap.size ≤ gq)); have n10_ := Aside0.mk ((by rw [hg]; exact Nat.ne_of_lt (blk_lt (g := gz) (o := .cells #[.int .i64 aq, .slice A0_1 lq.length c0_1, .slice (some ad210) lr.length c0_2] 25 (0, 0)) (by (with_reducible repeat (first | refine blk_drewN ?_ _ | refine blk_drew ?_ | refine blk_alloc ?_ _)); refine blk_far ?_ NB191_215.out _; (with_reducible repeat (first | refine blk_drewN ?_ _ | refine blk_drew ?_ | refine blk_alloc ?_ _)); refine blk_far ?_ NB191_215.out _; (with_reducible repeat (first | refine blk_drewN ?_ _ | refine blk_drew ?_ | refine blk_alloc ?_ _)); refine blk_far ?_ NB191_215.out _; (with_reducible repeat (first | refine blk_drewN ?_ _ | refine blk_drew ?_ | refine blk_alloc ?_ _)); exact BK191.out)) : gz ≠ gq)); have n11_ := Aside0.mk ((by rw [hg]; exact Nat.ne_of_gt (blk_lt (g := gz) (o := .cells #[.int .i64 aq, .slice A0_1 lq.length c0_1, .slice (some ad210) lr.length c0_2] 25 (0, 0)) (by (with_reducible repeat (first | refine blk_drewN ?_ _ | refine blk_drew ?_ | refine blk_alloc ?_ _)); refine blk_far ?_ NB191_215.out _; (with_reducible repeat (first | refine blk_drewN ?_ _ | refine blk_drew ?_ | refine blk_alloc ?_ _)); refine blk_far ?_ NB191_215.out _; (with_reducible repeat (first | refine blk_drewN ?_ _ | refine blk_drew ?_ | refine blk_alloc ?_ _)); refine blk_far ?_ NB191_215.out _; (with_reducible repeat (first | refine blk_drewN ?_ _ | refine blk_drew ?_ | refine blk_alloc ?_ _)); exact BK191.out)) : gq ≠ gz)); have n12_ := Aside0.mk ((by rw [hg]; exact Nat.ne_of_lt (blk_lt (g := gp) (o := .cells #[.int .u64 ya, .int .u64 yb, .int .u64 yc, .int .u64 yd] 63 (0, 0)) (by (with_reducible repeat (first | refine blk_drewN ?_ _ | refine blk_drew ?_ | refine blk_alloc ?_ _)); refine blk_far ?_ NB213_215.out _; (with_reducible repeat (first | refine blk_drewN ?_ _ | refine blk_drew ?_ | refine blk_alloc ?_ _)); refine blk_far ?_ NB213_215.out _; (with_reducible repeat (first | refine blk_drewN ?_ _ | refine blk_drew ?_ | refine blk_alloc ?_ _)); refine blk_far ?_ NB213_215.out _; (with_reducible repeat (first | refine blk_drewN ?_ _ | refine blk_drew ?_ | refine blk_alloc ?_ _)); exact BK213.out)) : gp ≠ gq)); have n13_ := Aside0.mk ((by rw [hg]; exact Nat.ne_of_gt (blk_lt (g := gp) (o := .cells #[.int .u64 ya, .int .u64 yb, .int .u64 yc, .int .u64 yd] 63 (0, 0)) (by (with_reducible repeat (first | refine blk_drewN ?_ _ | refine blk_drew ?_ | refine blk_alloc ?_ _)); refine blk_far ?_ NB213_215.out _; (with_reducible repeat (first | refine blk_drewN ?_ _ | refine blk_drew ?_ | refine blk_alloc ?_ _)); refine blk_far ?_ NB213_215.out _; (with_reducible repeat (first | refine blk_drewN ?_ _ | refine blk_drew ?_ | refine blk_alloc ?_ _)); refine blk_far ?_ NB213_215.out _; (with_reducible repeat (first | refine blk_drewN ?_ _ | refine blk_drew ?_ | refine blk_alloc ?_ _)); exact BK213.out)) : gq ≠ gp)); have n14_ := Aside0.mk ((by rw [hg]; exact Nat.ne_of_lt (blk_lt (g := gs) (o := .cells #[.int .i64 ((rd_T68 ((rd_T58 ((rd_T55 lr xi).f1) xj).f1) xk).f0), .int .i64 ((rd_T68 ((rd_T58 ((rd_T55 lr xi).f1) xj).f1) xk).f1), .int .i64 ((rd_T68 ((rd_T58 ((rd_T55 lr xi).f1) xj).f1) xk).f2)] 68 (0, 0)) (by (with_reducible repeat (first | refine blk_drewN ?_ _ | refine blk_drew ?_ | refine blk_alloc ?_ _)); refine blk_put (cs := #[.int .i64 ((rd_T68 ((rd_T58 ((rd_T55 lr xi).f1) xj).f1) xk).f0), .int .i64 ((rd_T68 ((rd_T58 ((rd_T55 lr xi).f1) xj).f1) xk).f1), .int .i64 0]) ?_ 2 _ rfl; (with_reducible repeat (first | refine blk_drewN ?_ _ | refine blk_drew ?_ | refine blk_alloc ?_ _)); refine blk_put (cs := #[.int .i64 ((rd_T68 ((rd_T58 ((rd_T55 lr xi).f1) xj).f1) xk).f0), .int .i64 0, .int .i64 0]) ?_ 1 _ rfl; (with_reducible repeat (first | refine blk_drewN ?_ _ | refine blk_drew ?_ | refine blk_alloc ?_ _)); refine blk_put (cs := #[.int .i64 0, .int .i64 0, .int .i64 0]) ?_ 0 _ rfl; (with_reducible repeat (first | refine blk_drewN ?_ _ | refine blk_drew ?_ | refine blk_alloc ?_ _)); exact BK215.out)) : gs ≠ gq)); have n15_ := Aside0.mk ((by rw [hg]; exact Nat.ne_of_gt (blk_lt (g := gs) (o := .cells #[.int .i64 ((rd_T68 ((rd_T58 ((rd_T55 lr xi).f1) xj).f1) xk).f0), .int .i64 ((rd_T68 ((rd_T58 ((rd_T55 lr xi).f1) xj).f1) xk).f1), .int .i64 ((rd_T68 ((rd_T58 ((rd_T55 lr xi).f1) xj).f1) xk).f2)] 68 (0, 0)) (by (with_reducible repeat (first | refine blk_drewN ?_ _ | refine blk_drew ?_ | refine blk_alloc ?_ _)); refine blk_put (cs := #[.int .i64 ((rd_T68 ((rd_T58 ((rd_T55 lr xi).f1) xj).f1) xk).f0), .int .i64 ((rd_T68 ((rd_T58 ((rd_T55 lr xi).f1) xj).f1) xk).f1), .int .i64 0]) ?_ 2 _ rfl; (with_reducible repeat (first | refine blk_drewN ?_ _ | refine blk_drew ?_ | refine blk_alloc ?_ _)); refine blk_put (cs := #[.int .i64 ((rd_T68 ((rd_T58 ((rd_T55 lr xi).f1) xj).f1) xk).f0), .int .i64 0, .int .i64 0]) ?_ 1 _ rfl; (with_reducible repeat (first | refine blk_drewN ?_ _ | refine blk_drew ?_ | refine blk_alloc ?_ _)); refine blk_put (cs := #[.int .i64 0, .int .i64 0, .int .i64 0]) ?_ 0 _ rfl; (with_reducible repeat (first | refine blk_drewN ?_ _ | refine blk_drew ?_ | refine blk_alloc ?_ _)); exact BK215.out)) : gq ≠ gs)); clear HO_3; clear HO_5; clear HO_7; clear BK191; clear BK213; clear BK215; clear HB; have HO_3 := n0_; have HO_5 := n1_; have HO_7 := n2_; have BK191 := n3_; have BK213 := n4_; have BK215 := n5_; have HB := n6_; have BK217 := n7_; have GW217 := n8_; have GE217 := n9_; have NB191_217 := n10_; have NB217_191 := n11_; have NB213_217 := n12_; have NB217_213 := n13_; have NB215_217 := n14_; have NB217_215 := n15_; clear n0_ n1_ n2_ n3_ n4_ n5_ n6_ n7_ n8_ n9_ n10_ n11_ n12_ n13_ n14_ n15_; clear hb hbox hg; have hnb60 := NB217_191.out; have hnc60 := NB191_217.out; have hnb61 := NB217_213.out; have hnc61 := NB213_217.out; have hnb62 := NB217_215.out; have hnc62 := NB215_217.out; have hcz63_0 : w59.cell? ⟨gq, 0, none⟩ = some (.int .u64 0) := (blk_cell BK217.out 0).trans rfl; have hcz63_1 : w59.cell? ⟨gq, 1, none⟩ = some (.int .u64 0) := (blk_cell BK217.out 1).trans rfl; have hcz63_2 : w59.cell? ⟨gq, 2, none⟩ = some (.int .u64 0) := (blk_cell BK217.out 2).trans rfl; have hcz63_3 : w59.cell? ⟨gq, 3, none⟩ = some (.int .u64 0) := (blk_cell BK217.out 3).trans rfl; have hcz63_4 : w59.cell? ⟨gq, 4, none⟩ = some (.bool false) := (blk_cell BK217.out 4).trans rfl; have hfz63_0 := blk_frozen BK217.out 0; have hfz63_1 := blk_frozen BK217.out 1; have hfz63_2 := blk_frozen BK217.out 2; have hfz63_3 := blk_frozen BK217.out 3; have hfz63_4 := blk_frozen BK217.out 4))
                 (try simp only [Act.put, s1, s2, s3])
                 go_cut [183] (fun v183 wc => ∃ (kq : Nat) (x183_53 : Bool), v183 = .bool x183_53 ∧ Aside0 (templelaw12_FollowsHold.j4 kq td te tf xi xj ((rd_T58 ((rd_T55 lr xi).f1) xj).f1) xm xk x183_53 aq lq lr ya yb yc yd ((rd_T68 ((rd_T58 ((rd_T55 lr xi).f1) xj).f1) xk).f0) ((rd_T68 ((rd_T58 ((rd_T55 lr xi).f1) xj).f1) xk).f1) ((rd_T68 ((rd_T58 ((rd_T55 lr xi).f1) xj).f1) xk).f2) = some r) ∧ Aside0 (kq ≤ k4) ∧ Aside0 (Kd.R Kd.bool 4 wc w.heap.size (fun _ => True) (.slice Ao36 td.length co36) td) ∧ Aside0 (Kd.R k63 63 wc w.heap.size (fun k_ => k_ ≠ gp) (.slice Ao37 te.length co37) te) ∧ Aside0 (Kd.R k66 66 wc w.heap.size (fun k_ => k_ ≠ gq) (.slice (some ad209) tf.length co38) tf) ∧ Aside0 (wc.heap[gz]? = some (.cells #[.int .i64 aq, (.slice A0_1 lq.length c0_1), (.slice (some ad210) lr.length c0_2)] 25 (0, 0))) ∧ Aside0 (wc.heap[gp]? = some (.cells #[.int .u64 ya, .int .u64 yb, .int .u64 yc, .int .u64 yd] 63 (0, 0))) ∧ Aside0 (wc.heap[gs]? = some (.cells #[.int .i64 ((rd_T68 ((rd_T58 ((rd_T55 lr xi).f1) xj).f1) xk).f0), .int .i64 ((rd_T68 ((rd_T58 ((rd_T55 lr xi).f1) xj).f1) xk).f1), .int .i64 ((rd_T68 ((rd_T58 ((rd_T55 lr xi).f1) xj).f1) xk).f2)] 68 (0, 0))) ∧ Aside0 (wc.heap[gq]? = some (.cells #[.int .u64 ((rd_T66 tf ((rd_T68 ((rd_T58 ((rd_T55 lr xi).f1) xj).f1) xk).f0)).f0.f0), .int .u64 ((rd_T66 tf ((rd_T68 ((rd_T58 ((rd_T55 lr xi).f1) xj).f1) xk).f0)).f0.f1), .int .u64 ((rd_T66 tf ((rd_T68 ((rd_T58 ((rd_T55 lr xi).f1) xj).f1) xk).f0)).f0.f2), .int .u64 ((rd_T66 tf ((rd_T68 ((rd_T58 ((rd_T55 lr xi).f1) xj).f1) xk).f0)).f0.f3), .bool ((rd_T66 tf ((rd_T68 ((rd_T58 ((rd_T55 lr xi).f1) xj).f1) xk).f0)).f1)] 66 (0, 0))) ∧ Aside0 (Below w.heap.size w wc))
                 case first =>
                  have H := HC54.out; clear HC54; replace H := Option.bind_eq_some_iff.mp H; obtain ⟨⟨t218, t219, t220, t221⟩, A640, H⟩ := H; (try dsimp only at H); have A64 := Aside0.mk A640; clear A640
                  by_cases c65 : (!(t218 == ((rd_T66 tf ((rd_T68 ((rd_T58 ((rd_T55 lr xi).f1) xj).f1) xk).f0)).f0.f0)) || (!(t219 == ((rd_T66 tf ((rd_T68 ((rd_T58 ((rd_T55 lr xi).f1) xj).f1) xk).f0)).f0.f1)) || (!(t220 == ((rd_T66 tf ((rd_T68 ((rd_T58 ((rd_T55 lr xi).f1) xj).f1) xk).f0)).f0.f2)) || (!(t221 == ((rd_T66 tf ((rd_T68 ((rd_T58 ((rd_T55 lr xi).f1) xj).f1) xk).f0)).f0.f3)))))) = true
                  ·rw [if_pos c65] at H
                   exact absurd H (by simp)
                  ·rw [if_neg c65] at H
                   have c65b0 : (!(t218 == ((rd_T66 tf ((rd_T68 ((rd_T58 ((rd_T55 lr xi).f1) xj).f1) xk).f0)).f0.f0)) || (!(t219 == ((rd_T66 tf ((rd_T68 ((rd_T58 ((rd_T55 lr xi).f1) xj).f1) xk).f0)).f0.f1)) || (!(t220 == ((rd_T66 tf ((rd_T68 ((rd_T58 ((rd_T55 lr xi).f1) xj).f1) xk).f0)).f0.f2)) || (!(t221 == ((rd_T66 tf ((rd_T68 ((rd_T58 ((rd_T55 lr xi).f1) xj).f1) xk).f0)).f0.f3)))))) = false := by simpa using c65
                   clear c65
                   (first | rw [c65b0] | (simp only [i64_w, i32_w]; rw [c65b0]) | skip)
                   by_cases c66 : xm = true
                   ·subst c66; have H1 := H
                    rw [if_pos rfl] at H1
                    clear H; have H := H1; clear H1
                    by_cases c67 : 0 ≤ xi
                    rotate_left
                    ·(rw [if_neg c67] at H; exact absurd H (by simp))
                    rw [if_pos c67] at H; have c67b0 : decide (0 ≤ xi) = true := decide_eq_true c67; clear c67
                    by_cases c68 : xi < (lr.length : Int)
                    rotate_left
                    ·(rw [if_neg c68] at H; exact absurd H (by simp))
                    rw [if_pos c68] at H; have c68b0 : decide (xi < (lr.length : Int)) = true := decide_eq_true c68; clear c68
                    by_cases c69 : 0 ≤ ((rd_T55 lr xi).f0)
                    rotate_left
                    ·(rw [if_neg c69] at H; exact absurd H (by simp))
                    rw [if_pos c69] at H; have c69b0 : decide (0 ≤ ((rd_T55 lr xi).f0)) = true := decide_eq_true c69; clear c69
                    by_cases c70 : ((rd_T55 lr xi).f0) < (tf.length : Int)
                    rotate_left
                    ·(rw [if_neg c70] at H; exact absurd H (by simp))
                    rw [if_pos c70] at H; have c70b0 : decide (((rd_T55 lr xi).f0) < (tf.length : Int)) = true := decide_eq_true c70; clear c70; replace H := Option.bind_eq_some_iff.mp H; obtain ⟨⟨t224, t225, t226, t227⟩, A710, H⟩ := H; (try dsimp only at H); have A71 := Aside0.mk A710; clear A710
                    by_cases c72 : (!(t224 == ((rd_T66 tf ((rd_T68 ((rd_T58 ((rd_T55 lr xi).f1) xj).f1) xk).f0)).f0.f0)) || (!(t225 == ((rd_T66 tf ((rd_T68 ((rd_T58 ((rd_T55 lr xi).f1) xj).f1) xk).f0)).f0.f1)) || (!(t226 == ((rd_T66 tf ((rd_T68 ((rd_T58 ((rd_T55 lr xi).f1) xj).f1) xk).f0)).f0.f2)) || (!(t227 == ((rd_T66 tf ((rd_T68 ((rd_T58 ((rd_T55 lr xi).f1) xj).f1) xk).f0)).f0.f3)))))) = true
                    ·as_aux_lemma =>
                     rw [if_pos c72] at H
                     have c72b0 : (!(t224 == ((rd_T66 tf ((rd_T68 ((rd_T58 ((rd_T55 lr xi).f1) xj).f1) xk).f0)).f0.f0)) || (!(t225 == ((rd_T66 tf ((rd_T68 ((rd_T58 ((rd_T55 lr xi).f1) xj).f1) xk).f0)).f0.f1)) || (!(t226 == ((rd_T66 tf ((rd_T68 ((rd_T58 ((rd_T55 lr xi).f1) xj).f1) xk).f0)).f0.f2)) || (!(t227 == ((rd_T66 tf ((rd_T68 ((rd_T58 ((rd_T55 lr xi).f1) xj).f1) xk).f0)).f0.f3)))))) = true := c72
                     clear c72; have H' := Aside0.mk H; clear H
                     try go_wp2
                     obtain ⟨w73, hw_⟩ : ∃ W_, W_ = (((((w59.setCell ⟨gq, 0, none⟩ (.int .u64 ((rd_T66 tf ((rd_T68 ((rd_T58 ((rd_T55 lr xi).f1) xj).f1) xk).f0)).f0.f0))).setCell ⟨gq, 1, none⟩ (.int .u64 ((rd_T66 tf ((rd_T68 ((rd_T58 ((rd_T55 lr xi).f1) xj).f1) xk).f0)).f0.f1))).setCell ⟨gq, 2, none⟩ (.int .u64 ((rd_T66 tf ((rd_T68 ((rd_T58 ((rd_T55 lr xi).f1) xj).f1) xk).f0)).f0.f2))).setCell ⟨gq, 3, none⟩ (.int .u64 ((rd_T66 tf ((rd_T68 ((rd_T58 ((rd_T55 lr xi).f1) xj).f1) xk).f0)).f0.f3))).setCell ⟨gq, 4, none⟩ (.bool ((rd_T66 tf ((rd_T68 ((rd_T58 ((rd_T55 lr xi).f1) xj).f1) xk).f0)).f1))) := ⟨_, rfl⟩
                     have n0_ : Aside0 (Kd.R Kd.bool 4 w73 w.heap.size (fun _ => True) (.slice Ao36 td.length co36) td) := ⟨Kd.R_mono (r5 hw_ (Kd.R_types HO_3.out BK217.out (by decide)) (fun _ hk => hk.2)) (fun _ hk => trivial)⟩
                     have n1_ : Aside0 (Kd.R k63 63 w73 w.heap.size (fun k_ => k_ ≠ gp) (.slice Ao37 te.length co37) te) := ⟨Kd.R_mono (r5 hw_ (Kd.R_types HO_5.out BK217.out (by decide)) (fun _ hk => hk.2)) (fun _ hk => hk.1)⟩
                     have n2_ : Aside0 (Kd.R k66 66 w73 w.heap.size (fun k_ => k_ ≠ gq) (.slice (some ad209) tf.length co38) tf) := ⟨Kd.R_mono (r5 hw_ (Kd.R_mono HO_7.out (fun k_ hk => (⟨hk, hk.2⟩ : _ ∧ k_ ≠ gq))) (fun _ hk => hk.2)) (fun _ hk => hk.1.2)⟩
                     have n3_ : Aside0 (w73.heap[gz]? = some (.cells #[.int .i64 aq, .slice A0_1 lq.length c0_1, .slice (some ad210) lr.length c0_2] 25 (0, 0))) := ⟨b5 hw_ BK191.out NB191_217.out⟩
                     have n4_ : Aside0 (w73.heap[gp]? = some (.cells #[.int .u64 ya, .int .u64 yb, .int .u64 yc, .int .u64 yd] 63 (0, 0))) := ⟨b5 hw_ BK213.out NB213_217.out⟩
                     have n5_ : Aside0 (w73.heap[gs]? = some (.cells #[.int .i64 ((rd_T68 ((rd_T58 ((rd_T55 lr xi).f1) xj).f1) xk).f0), .int .i64 ((rd_T68 ((rd_T58 ((rd_T55 lr xi).f1) xj).f1) xk).f1), .int .i64 ((rd_T68 ((rd_T58 ((rd_T55 lr xi).f1) xj).f1) xk).f2)] 68 (0, 0))) := ⟨b5 hw_ BK215.out NB215_217.out⟩
                     have n6_ : Aside0 (w73.heap[gq]? = some (.cells #[.int .u64 ((rd_T66 tf ((rd_T68 ((rd_T58 ((rd_T55 lr xi).f1) xj).f1) xk).f0)).f0.f0), .int .u64 ((rd_T66 tf ((rd_T68 ((rd_T58 ((rd_T55 lr xi).f1) xj).f1) xk).f0)).f0.f1), .int .u64 ((rd_T66 tf ((rd_T68 ((rd_T58 ((rd_T55 lr xi).f1) xj).f1) xk).f0)).f0.f2), .int .u64 ((rd_T66 tf ((rd_T68 ((rd_T58 ((rd_T55 lr xi).f1) xj).f1) xk).f0)).f0.f3), .bool ((rd_T66 tf ((rd_T68 ((rd_T58 ((rd_T55 lr xi).f1) xj).f1) xk).f0)).f1)] 66 (0, 0))) := ⟨p5 hw_ BK217.out⟩
                     have n7_ : Aside0 (Below w.heap.size w w73) := ⟨l5 hw_ HB.out GE217.out⟩
                     (try clear HO_3); (try clear HO_5); (try clear HO_7); (try clear BK191); (try clear BK213); (try clear BK215); (try clear BK217); (try clear HB)
                     rw [← hw_]; clear hw_
                     have HO_3 := n0_; have HO_5 := n1_; have HO_7 := n2_; have BK191 := n3_; have BK213 := n4_; have BK215 := n5_; have BK217 := n6_; have HB := n7_; clear n0_ n1_ n2_ n3_ n4_ n5_ n6_ n7_; have n0_ := Aside0.mk (Kd.R_drew HO_3.out); have n1_ := Aside0.mk (Kd.R_drew HO_5.out); have n2_ := Aside0.mk (Kd.R_drew HO_7.out); have n3_ := Aside0.mk (blk_drew BK191.out); have n4_ := Aside0.mk (blk_drew BK213.out); have n5_ := Aside0.mk (blk_drew BK215.out); have n6_ := Aside0.mk (blk_drew BK217.out); have n7_ := Aside0.mk (below_drew1 HB.out); clear HO_3; clear HO_5; clear HO_7; clear BK191; clear BK213; clear BK215; clear BK217; clear HB; have HO_3 := n0_; have HO_5 := n1_; have HO_7 := n2_; have BK191 := n3_; have BK213 := n4_; have BK215 := n5_; have BK217 := n6_; have HB := n7_; clear n0_ n1_ n2_ n3_ n4_ n5_ n6_ n7_
                     have p222 : 0 ≤ (xi : Int) := of_decide_eq_true (by first | (with_reducible assumption) | assumption)
                     have q222 : xi < (lr.length : Int) := of_decide_eq_true (by first | (with_reducible assumption) | assumption)
                     obtain ⟨ad222, A222_1, c222_1, e222, hx222_0, hx222_1, hl222_1, hi222_1⟩ := at_T55 HR0_2.out xi p222 q222; have hw222_1 := hx222_1; have hw222_0 := hx222_0; obtain rfl : ad210 = ad222 := (by injection e222)
                     replace hx222_0 := (HB.out.cell (World.block_lt_of_cell? w _ hx222_0)).trans hx222_0
                     replace hx222_1 := (HB.out.cell (World.block_lt_of_cell? w _ hx222_1)).trans hx222_1
                     have HR222_1 := Aside0.mk hi222_1; have HC222_1 := Aside0.mk hl222_1; clear hi222_1 hl222_1; replace p222 := eq_true p222; replace q222 := eq_true q222
                     have p223 : 0 ≤ (((rd_T55 lr xi).f0) : Int) := of_decide_eq_true (by first | (with_reducible assumption) | assumption)
                     have q223 : ((rd_T55 lr xi).f0) < (tf.length : Int) := of_decide_eq_true (by first | (with_reducible assumption) | assumption)
                     obtain ⟨ad223, e223, hx223_0, hx223_1, hx223_2, hx223_3, hx223_4⟩ := at_T66 (Kd.R_reads' HO_7.out).2.2 ((rd_T55 lr xi).f0) p223 q223
                     (try rw [← Nbq32.out] at hx223_4)
                     obtain rfl : ad209 = ad223 := (by injection e223); replace p223 := eq_true p223; replace q223 := eq_true q223
                     refine start_ (n := 45) (S := fun w' => w'.cell? ⟨gq, 0, none⟩ = some (.int .u64 ((rd_T66 tf ((rd_T68 ((rd_T58 ((rd_T55 lr xi).f1) xj).f1) xk).f0)).f0.f0)) ∧ w'.cell? ⟨gq, 1, none⟩ = some (.int .u64 ((rd_T66 tf ((rd_T68 ((rd_T58 ((rd_T55 lr xi).f1) xj).f1) xk).f0)).f0.f1)) ∧ w'.cell? ⟨gq, 2, none⟩ = some (.int .u64 ((rd_T66 tf ((rd_T68 ((rd_T58 ((rd_T55 lr xi).f1) xj).f1) xk).f0)).f0.f2)) ∧ w'.cell? ⟨gq, 3, none⟩ = some (.int .u64 ((rd_T66 tf ((rd_T68 ((rd_T58 ((rd_T55 lr xi).f1) xj).f1) xk).f0)).f0.f3)) ∧ w'.cell? ⟨gq, 4, none⟩ = some (.bool ((rd_T66 tf ((rd_T68 ((rd_T58 ((rd_T55 lr xi).f1) xj).f1) xk).f0)).f1)) ∧ w'.cell? ⟨gp, 0, none⟩ = some (.int .u64 ya) ∧ w'.cell? ⟨gp, 1, none⟩ = some (.int .u64 yb) ∧ w'.cell? ⟨gp, 2, none⟩ = some (.int .u64 yc) ∧ w'.cell? ⟨gp, 3, none⟩ = some (.int .u64 yd) ∧ w'.cell? ⟨gz, 0, none⟩ = some (.int .i64 aq) ∧ w'.cell? ⟨gz, 1, none⟩ = some (.slice A0_1 lq.length c0_1) ∧ w'.cell? ⟨gz, 2, none⟩ = some (.slice (some ad210) lr.length c0_2) ∧ w'.cell? (ad210.add ((xi).toNat * 2)) = some (.int .i64 ((rd_T55 lr xi).f0)) ∧ w'.cell? ⟨(ad210.add ((xi).toNat * 2)).block, (ad210.add ((xi).toNat * 2)).off + 1, none⟩ = some (.slice A222_1 ((rd_T55 lr xi).f1).length c222_1) ∧ w'.cell? (ad209.add ((((rd_T55 lr xi).f0)).toNat * 5)) = some (.int .u64 ((rd_T66 tf ((rd_T55 lr xi).f0)).f0.f0)) ∧ w'.cell? ⟨(ad209.add ((((rd_T55 lr xi).f0)).toNat * 5)).block, (ad209.add ((((rd_T55 lr xi).f0)).toNat * 5)).off + 1, none⟩ = some (.int .u64 ((rd_T66 tf ((rd_T55 lr xi).f0)).f0.f1)) ∧ w'.cell? ⟨(ad209.add ((((rd_T55 lr xi).f0)).toNat * 5)).block, (ad209.add ((((rd_T55 lr xi).f0)).toNat * 5)).off + 2, none⟩ = some (.int .u64 ((rd_T66 tf ((rd_T55 lr xi).f0)).f0.f2)) ∧ w'.cell? ⟨(ad209.add ((((rd_T55 lr xi).f0)).toNat * 5)).block, (ad209.add ((((rd_T55 lr xi).f0)).toNat * 5)).off + 3, none⟩ = some (.int .u64 ((rd_T66 tf ((rd_T55 lr xi).f0)).f0.f3)) ∧ w'.cell? ⟨(ad209.add ((((rd_T55 lr xi).f0)).toNat * 5)).block, (ad209.add ((((rd_T55 lr xi).f0)).toNat * 5)).off + 4, none⟩ = some (.bool ((rd_T66 tf ((rd_T55 lr xi).f0)).f1))) (ds := []) #[false, false, false, false, false, false, false, false, false, false, false, false, false, false, false, false, false, false, false, false, false, false, false, false, false, false, false, false, false, false, false, false, false, false, false, false, false, false, false, false, false, false, false, false, false] (by decide +kernel) rfl rfl ⟨(blk_cell BK217.out 0).trans rfl, (blk_cell BK217.out 1).trans rfl, (blk_cell BK217.out 2).trans rfl, (blk_cell BK217.out 3).trans rfl, (blk_cell BK217.out 4).trans rfl, (blk_cell BK213.out 0).trans rfl, (blk_cell BK213.out 1).trans rfl, (blk_cell BK213.out 2).trans rfl, (blk_cell BK213.out 3).trans rfl, (blk_cell BK191.out 0).trans rfl, (blk_cell BK191.out 1).trans rfl, (blk_cell BK191.out 2).trans rfl, ((HB.out.cell (World.block_lt_of_cell? w _ hw222_0)).trans hw222_0), ((HB.out.cell (World.block_lt_of_cell? w _ hw222_1)).trans hw222_1), hx223_0, hx223_1, hx223_2, hx223_3, hx223_4⟩ (fun hHeld => ?_); refine with_tabW templelaw12_FollowsHold.tab26 templelaw12_FollowsHold.bits26 (fun HT_ HW_ => ?_)
                     generalize w73.drew = w74 at HO_3 HO_5 HO_7 BK191 BK213 BK215 BK217 HB HR222_1 hx222_0 hx222_1 hx223_0 hx223_1 hx223_2 hx223_3 hx223_4 hHeld ⊢
                     refine pure_ (i := 0) (N := some 139) (v := ?_) (a' := ?_) (bs 45 1) rfl rfl (any_of HT_.out (by decide +kernel)) (fun _ _ _ h => h) (Or.inl ⟨by rfl, ?_⟩) ?_ ?_
                     rotate_left
                     ·intro w'
                      go_simp; with_reducible rfl
                     rotate_left
                     ·simp only [Act.put, s1, s2, s3, i64_w, i32_w]
                      rfl
                     refine pure_ (i := 4) (N := some 143) (v := ?_) (a' := ?_) (bs 45 17) rfl rfl (any_of HT_.out (by decide +kernel)) (fun _ _ _ h => h) (Or.inl ⟨by rfl, ?_⟩) ?_ ?_
                     rotate_left
                     ·intro w'
                      go_simp; with_reducible rfl
                     rotate_left
                     ·simp only [Act.put, s1, s2, s3, i64_w, i32_w]
                      rfl
                     refine take_ (i := 1) (N := some 140) (v := ?_) (a' := ?_) (bs 45 19) rfl rfl (take_ofW HT_.out HW_.out (by decide +kernel)) (fun _ _ _ h => h) (Or.inl ⟨by rfl, ?_⟩) hHeld ?_ ?_
                     rotate_left
                     ·rintro w' ⟨s0, s1, s2, s3, s4, s5, s6, s7, s8, s9, s10, s11, s12, s13, s14, s15, s16, s17, s18⟩; go_simp; with_reducible rfl
                     rotate_left
                     ·simp only [Act.put, s1, s2, s3, i64_w, i32_w]
                      rfl
                     refine take_ (i := 2) (N := some 141) (v := ?_) (a' := ?_) (bs 45 23) rfl rfl (take_ofW HT_.out HW_.out (by decide +kernel)) (fun _ _ _ h => h) (Or.inl ⟨by rfl, ?_⟩) hHeld ?_ ?_
                     rotate_left
                     ·rintro w' ⟨s0, s1, s2, s3, s4, s5, s6, s7, s8, s9, s10, s11, s12, s13, s14, s15, s16, s17, s18⟩; go_simp; with_reducible rfl
                     rotate_left
                     ·simp only [Act.put, s1, s2, s3, i64_w, i32_w]
                      rfl
                     refine take_ (i := 5) (N := some 144) (v := ?_) (a' := ?_) (bs 45 55) rfl rfl (take_ofW HT_.out HW_.out (by decide +kernel)) (fun _ _ _ h => h) (Or.inl ⟨by rfl, ?_⟩) hHeld ?_ ?_
                     rotate_left
                     ·rintro w' ⟨s0, s1, s2, s3, s4, s5, s6, s7, s8, s9, s10, s11, s12, s13, s14, s15, s16, s17, s18⟩; go_simp; with_reducible rfl
                     rotate_left
                     ·simp only [Act.put, s1, s2, s3, i64_w, i32_w]
                      rfl
                     refine one_ (i := 3) (N := some 142) (bs 45 63) rfl rfl (one_of HT_.out (by decide +kernel)) (by decide) (fun K hK => ?_)
                     refine goes_ Try.func26 (by decide +kernel) rfl #[.int .i64 0, .agg #[.int .u64 ((rd_T66 tf ((rd_T68 ((rd_T58 ((rd_T55 lr xi).f1) xj).f1) xk).f0)).f0.f0), .int .u64 ((rd_T66 tf ((rd_T68 ((rd_T58 ((rd_T55 lr xi).f1) xj).f1) xk).f0)).f0.f1), .int .u64 ((rd_T66 tf ((rd_T68 ((rd_T58 ((rd_T55 lr xi).f1) xj).f1) xk).f0)).f0.f2), .int .u64 ((rd_T66 tf ((rd_T68 ((rd_T58 ((rd_T55 lr xi).f1) xj).f1) xk).f0)).f0.f3)], .agg #[.int .u64 ya, .int .u64 yb, .int .u64 yc, .int .u64 yd]] (by rfl) rfl rfl (by (try simp only [List.map_toArray, List.map_cons, List.map_nil]); first | done | rfl | (simp only [List.length_drop, List.length_take]; rfl)) ?_
                     with_reducible refine (templeref1_Mix.calls 0 ((rd_T66 tf ((rd_T68 ((rd_T58 ((rd_T55 lr xi).f1) xj).f1) xk).f0)).f0.f0) ((rd_T66 tf ((rd_T68 ((rd_T58 ((rd_T55 lr xi).f1) xj).f1) xk).f0)).f0.f1) ((rd_T66 tf ((rd_T68 ((rd_T58 ((rd_T55 lr xi).f1) xj).f1) xk).f0)).f0.f2) ((rd_T66 tf ((rd_T68 ((rd_T58 ((rd_T55 lr xi).f1) xj).f1) xk).f0)).f0.f3) ya yb yc yd t218 t219 t220 t221 _ A64.out).mono ?_
                     rintro e w75 ⟨rfl, hb⟩
                     have HS14_ := (hb.cell (World.block_lt_of_cell? _ _ (hHeld.2.2.2.2.2.2.2.2.2.2.2.2.2.2.1))).trans (hHeld.2.2.2.2.2.2.2.2.2.2.2.2.2.2.1)
                     have HS15_ := (hb.cell (World.block_lt_of_cell? _ _ (hHeld.2.2.2.2.2.2.2.2.2.2.2.2.2.2.2.1))).trans (hHeld.2.2.2.2.2.2.2.2.2.2.2.2.2.2.2.1)
                     have HS16_ := (hb.cell (World.block_lt_of_cell? _ _ (hHeld.2.2.2.2.2.2.2.2.2.2.2.2.2.2.2.2.1))).trans (hHeld.2.2.2.2.2.2.2.2.2.2.2.2.2.2.2.2.1)
                     have HS17_ := (hb.cell (World.block_lt_of_cell? _ _ (hHeld.2.2.2.2.2.2.2.2.2.2.2.2.2.2.2.2.2.1))).trans (hHeld.2.2.2.2.2.2.2.2.2.2.2.2.2.2.2.2.2.1)
                     have HS18_ := (hb.cell (World.block_lt_of_cell? _ _ (hHeld.2.2.2.2.2.2.2.2.2.2.2.2.2.2.2.2.2.2))).trans (hHeld.2.2.2.2.2.2.2.2.2.2.2.2.2.2.2.2.2.2)
                     refine ⟨_, rfl, ?_⟩
                     have n0_ := Aside0.mk (Kd.R_below (by (with_reducible repeat (first | apply Kd.R_alloc | apply Kd.R_drewN | apply Kd.R_drew)); exact HO_3.out) hb); have n1_ := Aside0.mk (Kd.R_below (by (with_reducible repeat (first | apply Kd.R_alloc | apply Kd.R_drewN | apply Kd.R_drew)); exact HO_5.out) hb); have n2_ := Aside0.mk (Kd.R_below (by (with_reducible repeat (first | apply Kd.R_alloc | apply Kd.R_drewN | apply Kd.R_drew)); exact HO_7.out) hb); have n3_ := kb BK191 hb; have n4_ := kb BK213 hb; have n5_ := Aside0.mk (blk_below (g := gs) (o := .cells #[.int .i64 ((rd_T68 ((rd_T58 ((rd_T55 lr xi).f1) xj).f1) xk).f0), .int .i64 ((rd_T68 ((rd_T58 ((rd_T55 lr xi).f1) xj).f1) xk).f1), .int .i64 ((rd_T68 ((rd_T58 ((rd_T55 lr xi).f1) xj).f1) xk).f2)] 68 (0, 0)) (by (with_reducible repeat (first | refine blk_drewN ?_ _ | refine blk_drew ?_ | refine blk_alloc ?_ _)); exact BK215.out) hb); have n6_ := Aside0.mk (blk_below (g := gq) (o := .cells #[.int .u64 ((rd_T66 tf ((rd_T68 ((rd_T58 ((rd_T55 lr xi).f1) xj).f1) xk).f0)).f0.f0), .int .u64 ((rd_T66 tf ((rd_T68 ((rd_T58 ((rd_T55 lr xi).f1) xj).f1) xk).f0)).f0.f1), .int .u64 ((rd_T66 tf ((rd_T68 ((rd_T58 ((rd_T55 lr xi).f1) xj).f1) xk).f0)).f0.f2), .int .u64 ((rd_T66 tf ((rd_T68 ((rd_T58 ((rd_T55 lr xi).f1) xj).f1) xk).f0)).f0.f3), .bool ((rd_T66 tf ((rd_T68 ((rd_T58 ((rd_T55 lr xi).f1) xj).f1) xk).f0)).f1)] 66 (0, 0)) (by (with_reducible repeat (first | refine blk_drewN ?_ _ | refine blk_drew ?_ | refine blk_alloc ?_ _)); exact BK217.out) hb); have n7_ := ks HB hb; clear HO_3; clear HO_5; clear HO_7; clear BK191; clear BK213; clear BK215; clear BK217; clear HB; have HO_3 := n0_; have HO_5 := n1_; have HO_7 := n2_; have BK191 := n3_; have BK213 := n4_; have BK215 := n5_; have BK217 := n6_; have HB := n7_; clear n0_ n1_ n2_ n3_ n4_ n5_ n6_ n7_; (try clear hb)
                     refine hK.out _ _ ⟨(blk_cell BK217.out 0).trans rfl, (blk_cell BK217.out 1).trans rfl, (blk_cell BK217.out 2).trans rfl, (blk_cell BK217.out 3).trans rfl, (blk_cell BK217.out 4).trans rfl, (blk_cell BK213.out 0).trans rfl, (blk_cell BK213.out 1).trans rfl, (blk_cell BK213.out 2).trans rfl, (blk_cell BK213.out 3).trans rfl, (blk_cell BK191.out 0).trans rfl, (blk_cell BK191.out 1).trans rfl, (blk_cell BK191.out 2).trans rfl, ((HB.out.cell (World.block_lt_of_cell? w _ hw222_0)).trans hw222_0), ((HB.out.cell (World.block_lt_of_cell? w _ hw222_1)).trans hw222_1), HS14_, HS15_, HS16_, HS17_, HS18_⟩ (fun hHeld => ?_)
                     clear hK K
                     refine norm_ (a' := ?_) ?_ ?_
                     rotate_left
                     ·show Act.put _ (some 142) _ = _
                      simp only [Act.put, s1, s2, s3, i64_w, i32_w]
                      rfl
                     refine pure_ (i := 6) (N := some 145) (v := ?_) (a' := ?_) (bs 45 127) rfl rfl (any_of HT_.out (by decide +kernel)) (fun _ _ _ h => h) (Or.inl ⟨by rfl, ?_⟩) ?_ ?_
                     rotate_left
                     ·intro w'
                      go_simp; with_reducible rfl
                     rotate_left
                     ·simp only [Act.put, s1, s2, s3, i64_w, i32_w]
                      rfl
                     refine pure_ (i := 7) (N := some 146) (v := ?_) (a' := ?_) (bs 45 255) rfl rfl (any_of HT_.out (by decide +kernel)) (fun _ _ _ h => h) (Or.inl ⟨by rfl, ?_⟩) ?_ ?_
                     rotate_left
                     ·intro w'
                      go_simp; with_reducible rfl
                     rotate_left
                     ·simp only [Act.put, s1, s2, s3, i64_w, i32_w]
                      rfl
                     refine pure_ (i := 8) (N := some 147) (v := ?_) (a' := ?_) (bs 45 511) rfl rfl (any_of HT_.out (by decide +kernel)) (fun _ _ _ h => h) (Or.inl ⟨by rfl, ?_⟩) ?_ ?_
                     rotate_left
                     ·intro w'
                      go_simp; with_reducible rfl
                     rotate_left
                     ·simp only [Act.put, s1, s2, s3, i64_w, i32_w]
                      rfl
                     refine pure_ (i := 9) (N := some 148) (v := ?_) (a' := ?_) (bs 45 1023) rfl rfl (any_of HT_.out (by decide +kernel)) (fun _ _ _ h => h) (Or.inl ⟨by rfl, ?_⟩) ?_ ?_
                     rotate_left
                     ·intro w'
                      go_simp; with_reducible rfl
                     rotate_left
                     ·simp only [Act.put, s1, s2, s3, i64_w, i32_w]
                      rfl
                     refine pure_ (i := 10) (N := some 149) (v := ?_) (a' := ?_) (bs 45 2047) rfl rfl (any_of HT_.out (by decide +kernel)) (fun _ _ _ h => h) (Or.inl ⟨by rfl, ?_⟩) ?_ ?_
                     rotate_left
                     ·intro w'
                      go_simp; with_reducible rfl
                     rotate_left
                     ·simp only [Act.put, s1, s2, s3, i64_w, i32_w]
                      rfl
                     refine pure_ (i := 12) (N := some 151) (v := ?_) (a' := ?_) (bs 45 6143) rfl rfl (any_of HT_.out (by decide +kernel)) (fun _ _ _ h => h) (Or.inl ⟨by rfl, ?_⟩) ?_ ?_
                     rotate_left
                     ·intro w'
                      go_simp; with_reducible rfl
                     rotate_left
                     ·simp only [Act.put, s1, s2, s3, i64_w, i32_w]
                      rfl
                     refine pure_ (i := 13) (N := some 152) (v := ?_) (a' := ?_) (bs 45 14335) rfl rfl (any_of HT_.out (by decide +kernel)) (fun _ _ _ h => h) (Or.inl ⟨by rfl, ?_⟩) ?_ ?_
                     rotate_left
                     ·intro w'
                      go_simp; with_reducible rfl
                     rotate_left
                     ·simp only [Act.put, s1, s2, s3, i64_w, i32_w]
                      rfl
                     refine pure_ (i := 15) (N := some 154) (v := ?_) (a' := ?_) (bs 45 47103) rfl rfl (any_of HT_.out (by decide +kernel)) (fun _ _ _ h => h) (Or.inl ⟨by rfl, ?_⟩) ?_ ?_
                     rotate_left
                     ·intro w'
                      go_simp; with_reducible rfl
                     rotate_left
                     ·simp only [Act.put, s1, s2, s3, i64_w, i32_w]
                      rfl
                     refine pure_ (i := 23) (N := some 162) (v := ?_) (a' := ?_) (bs 45 8435711) rfl rfl (any_of HT_.out (by decide +kernel)) (fun _ _ _ h => h) (Or.inl ⟨by rfl, ?_⟩) ?_ ?_
                     rotate_left
                     ·intro w'
                      go_simp; with_reducible rfl
                     rotate_left
                     ·simp only [Act.put, s1, s2, s3, i64_w, i32_w]
                      rfl
                     refine take_ (i := 11) (N := some 150) (v := ?_) (a' := ?_) (bs 45 8437759) rfl rfl (take_ofW HT_.out HW_.out (by decide +kernel)) (fun _ _ _ h => h) (Or.inl ⟨by rfl, ?_⟩) hHeld ?_ ?_
                     rotate_left
                     ·rintro w' ⟨s0, s1, s2, s3, s4, s5, s6, s7, s8, s9, s10, s11, s12, s13, s14, s15, s16, s17, s18⟩; go_simp; with_reducible rfl
                     rotate_left
                     ·simp only [Act.put, s1, s2, s3, i64_w, i32_w]
                      rfl
                     refine take_ (i := 14) (N := some 153) (v := ?_) (a' := ?_) (bs 45 8454143) rfl rfl (take_ofW HT_.out HW_.out (by decide +kernel)) (fun _ _ _ h => h) (Or.inl ⟨by rfl, ?_⟩) hHeld ?_ ?_
                     rotate_left
                     ·rintro w' ⟨s0, s1, s2, s3, s4, s5, s6, s7, s8, s9, s10, s11, s12, s13, s14, s15, s16, s17, s18⟩; go_simp; with_reducible rfl
                     rotate_left
                     ·simp only [Act.put, s1, s2, s3, i64_w, i32_w]
                      rfl
                     refine pure_ (i := 16) (N := some 155) (v := ?_) (a' := ?_) (bs 45 8519679) rfl rfl (any_of HT_.out (by decide +kernel)) (fun _ _ _ h => h) (Or.inl ⟨by rfl, ?_⟩) ?_ ?_
                     rotate_left
                     ·intro w'
                      go_simp; with_reducible rfl
                     rotate_left
                     ·simp only [Act.put, s1, s2, s3, i64_w, i32_w]
                      rfl
                     refine pure_ (i := 17) (N := some 156) (v := ?_) (a' := ?_) (bs 45 8650751) rfl rfl (any_of HT_.out (by decide +kernel)) (fun _ _ _ h => h) (Or.inl ⟨by rfl, ?_⟩) ?_ ?_
                     rotate_left
                     ·intro w'
                      go_simp; with_reducible rfl
                     rotate_left
                     ·simp only [Act.put, s1, s2, s3, i64_w, i32_w]
                      rfl
                     refine take_ (i := 18) (N := some 157) (v := ?_) (a' := ?_) (bs 45 8912895) rfl rfl (take_ofW HT_.out HW_.out (by decide +kernel)) (fun _ _ _ h => h) (Or.inl ⟨by rfl, ?_⟩) hHeld ?_ ?_
                     rotate_left
                     ·rintro w' ⟨s0, s1, s2, s3, s4, s5, s6, s7, s8, s9, s10, s11, s12, s13, s14, s15, s16, s17, s18⟩; go_simp; with_reducible rfl
                     rotate_left
                     ·simp only [Act.put, s1, s2, s3, i64_w, i32_w]
                      rfl
                     refine pure_ (i := 19) (N := some 158) (v := ?_) (a' := ?_) (bs 45 9437183) rfl rfl (any_of HT_.out (by decide +kernel)) (fun _ _ _ h => h) (Or.inl ⟨by rfl, ?_⟩) ?_ ?_
                     rotate_left
                     ·intro w'
                      go_simp; with_reducible rfl
                     rotate_left
                     ·simp only [Act.put, s1, s2, s3, i64_w, i32_w]
                      rfl
                     refine pure_ (i := 20) (N := some 159) (v := ?_) (a' := ?_) (bs 45 10485759) rfl rfl (any_of HT_.out (by decide +kernel)) (fun _ _ _ h => h) (Or.inl ⟨by rfl, ?_⟩) ?_ ?_
                     rotate_left
                     ·intro w'
                      go_simp; with_reducible rfl
                     rotate_left
                     ·simp only [Act.put, s1, s2, s3, i64_w, i32_w]
                      rfl
                     refine take_ (i := 21) (N := some 160) (v := ?_) (a' := ?_) (bs 45 12582911) rfl rfl (take_ofW HT_.out HW_.out (by decide +kernel)) (fun _ _ _ h => h) (Or.inl ⟨by rfl, ?_⟩) hHeld ?_ ?_
                     rotate_left
                     ·rintro w' ⟨s0, s1, s2, s3, s4, s5, s6, s7, s8, s9, s10, s11, s12, s13, s14, s15, s16, s17, s18⟩; go_simp; with_reducible rfl
                     rotate_left
                     ·simp only [Act.put, s1, s2, s3, i64_w, i32_w]
                      rfl
                     refine take_ (i := 24) (N := some 163) (v := ?_) (a' := ?_) (bs 45 29360127) rfl rfl (take_ofW HT_.out HW_.out (by decide +kernel)) (fun _ _ _ h => h) (Or.inl ⟨by rfl, ?_⟩) hHeld ?_ ?_
                     rotate_left
                     ·rintro w' ⟨s0, s1, s2, s3, s4, s5, s6, s7, s8, s9, s10, s11, s12, s13, s14, s15, s16, s17, s18⟩; go_simp; with_reducible rfl
                     rotate_left
                     ·simp only [Act.put, s1, s2, s3, i64_w, i32_w]
                      rfl
                     refine one_ (i := 22) (N := some 161) (bs 45 33554431) rfl rfl (one_of HT_.out (by decide +kernel)) (by decide) (fun K hK => ?_)
                     refine goes_ Try.func26 (by decide +kernel) rfl #[.int .i64 0, .agg #[.int .u64 ((rd_T66 tf ((rd_T68 ((rd_T58 ((rd_T55 lr xi).f1) xj).f1) xk).f0)).f0.f0), .int .u64 ((rd_T66 tf ((rd_T68 ((rd_T58 ((rd_T55 lr xi).f1) xj).f1) xk).f0)).f0.f1), .int .u64 ((rd_T66 tf ((rd_T68 ((rd_T58 ((rd_T55 lr xi).f1) xj).f1) xk).f0)).f0.f2), .int .u64 ((rd_T66 tf ((rd_T68 ((rd_T58 ((rd_T55 lr xi).f1) xj).f1) xk).f0)).f0.f3)], .agg #[.int .u64 ((rd_T66 tf ((rd_T55 lr xi).f0)).f0.f0), .int .u64 ((rd_T66 tf ((rd_T55 lr xi).f0)).f0.f1), .int .u64 ((rd_T66 tf ((rd_T55 lr xi).f0)).f0.f2), .int .u64 ((rd_T66 tf ((rd_T55 lr xi).f0)).f0.f3)]] (by rfl) rfl rfl (by (try simp only [List.map_toArray, List.map_cons, List.map_nil]); first | done | rfl | (simp only [List.length_drop, List.length_take]; rfl)) ?_
                     with_reducible refine (templeref1_Mix.calls 0 ((rd_T66 tf ((rd_T68 ((rd_T58 ((rd_T55 lr xi).f1) xj).f1) xk).f0)).f0.f0) ((rd_T66 tf ((rd_T68 ((rd_T58 ((rd_T55 lr xi).f1) xj).f1) xk).f0)).f0.f1) ((rd_T66 tf ((rd_T68 ((rd_T58 ((rd_T55 lr xi).f1) xj).f1) xk).f0)).f0.f2) ((rd_T66 tf ((rd_T68 ((rd_T58 ((rd_T55 lr xi).f1) xj).f1) xk).f0)).f0.f3) ((rd_T66 tf ((rd_T55 lr xi).f0)).f0.f0) ((rd_T66 tf ((rd_T55 lr xi).f0)).f0.f1) ((rd_T66 tf ((rd_T55 lr xi).f0)).f0.f2) ((rd_T66 tf ((rd_T55 lr xi).f0)).f0.f3) t224 t225 t226 t227 _ A71.out).mono ?_
                     rintro e w76 ⟨rfl, hb⟩
                     have HS14_ := (hb.cell (World.block_lt_of_cell? _ _ (hHeld.2.2.2.2.2.2.2.2.2.2.2.2.2.2.1))).trans (hHeld.2.2.2.2.2.2.2.2.2.2.2.2.2.2.1)
                     have HS15_ := (hb.cell (World.block_lt_of_cell? _ _ (hHeld.2.2.2.2.2.2.2.2.2.2.2.2.2.2.2.1))).trans (hHeld.2.2.2.2.2.2.2.2.2.2.2.2.2.2.2.1)
                     have HS16_ := (hb.cell (World.block_lt_of_cell? _ _ (hHeld.2.2.2.2.2.2.2.2.2.2.2.2.2.2.2.2.1))).trans (hHeld.2.2.2.2.2.2.2.2.2.2.2.2.2.2.2.2.1)
                     have HS17_ := (hb.cell (World.block_lt_of_cell? _ _ (hHeld.2.2.2.2.2.2.2.2.2.2.2.2.2.2.2.2.2.1))).trans (hHeld.2.2.2.2.2.2.2.2.2.2.2.2.2.2.2.2.2.1)
                     have HS18_ := (hb.cell (World.block_lt_of_cell? _ _ (hHeld.2.2.2.2.2.2.2.2.2.2.2.2.2.2.2.2.2.2))).trans (hHeld.2.2.2.2.2.2.2.2.2.2.2.2.2.2.2.2.2.2)
                     refine ⟨_, rfl, ?_⟩
                     have n0_ := Aside0.mk (Kd.R_below (by (with_reducible repeat (first | apply Kd.R_alloc | apply Kd.R_drewN | apply Kd.R_drew)); exact HO_3.out) hb); have n1_ := Aside0.mk (Kd.R_below (by (with_reducible repeat (first | apply Kd.R_alloc | apply Kd.R_drewN | apply Kd.R_drew)); exact HO_5.out) hb); have n2_ := Aside0.mk (Kd.R_below (by (with_reducible repeat (first | apply Kd.R_alloc | apply Kd.R_drewN | apply Kd.R_drew)); exact HO_7.out) hb); have n3_ := kb BK191 hb; have n4_ := kb BK213 hb; have n5_ := Aside0.mk (blk_below (g := gs) (o := .cells #[.int .i64 ((rd_T68 ((rd_T58 ((rd_T55 lr xi).f1) xj).f1) xk).f0), .int .i64 ((rd_T68 ((rd_T58 ((rd_T55 lr xi).f1) xj).f1) xk).f1), .int .i64 ((rd_T68 ((rd_T58 ((rd_T55 lr xi).f1) xj).f1) xk).f2)] 68 (0, 0)) (by (with_reducible repeat (first | refine blk_drewN ?_ _ | refine blk_drew ?_ | refine blk_alloc ?_ _)); exact BK215.out) hb); have n6_ := Aside0.mk (blk_below (g := gq) (o := .cells #[.int .u64 ((rd_T66 tf ((rd_T68 ((rd_T58 ((rd_T55 lr xi).f1) xj).f1) xk).f0)).f0.f0), .int .u64 ((rd_T66 tf ((rd_T68 ((rd_T58 ((rd_T55 lr xi).f1) xj).f1) xk).f0)).f0.f1), .int .u64 ((rd_T66 tf ((rd_T68 ((rd_T58 ((rd_T55 lr xi).f1) xj).f1) xk).f0)).f0.f2), .int .u64 ((rd_T66 tf ((rd_T68 ((rd_T58 ((rd_T55 lr xi).f1) xj).f1) xk).f0)).f0.f3), .bool ((rd_T66 tf ((rd_T68 ((rd_T58 ((rd_T55 lr xi).f1) xj).f1) xk).f0)).f1)] 66 (0, 0)) (by (with_reducible repeat (first | refine blk_drewN ?_ _ | refine blk_drew ?_ | refine blk_alloc ?_ _)); exact BK217.out) hb); have n7_ := ks HB hb; clear HO_3; clear HO_5; clear HO_7; clear BK191; clear BK213; clear BK215; clear BK217; clear HB; have HO_3 := n0_; have HO_5 := n1_; have HO_7 := n2_; have BK191 := n3_; have BK213 := n4_; have BK215 := n5_; have BK217 := n6_; have HB := n7_; clear n0_ n1_ n2_ n3_ n4_ n5_ n6_ n7_; (try clear hb)
                     refine hK.out _ _ ⟨(blk_cell BK217.out 0).trans rfl, (blk_cell BK217.out 1).trans rfl, (blk_cell BK217.out 2).trans rfl, (blk_cell BK217.out 3).trans rfl, (blk_cell BK217.out 4).trans rfl, (blk_cell BK213.out 0).trans rfl, (blk_cell BK213.out 1).trans rfl, (blk_cell BK213.out 2).trans rfl, (blk_cell BK213.out 3).trans rfl, (blk_cell BK191.out 0).trans rfl, (blk_cell BK191.out 1).trans rfl, (blk_cell BK191.out 2).trans rfl, ((HB.out.cell (World.block_lt_of_cell? w _ hw222_0)).trans hw222_0), ((HB.out.cell (World.block_lt_of_cell? w _ hw222_1)).trans hw222_1), HS14_, HS15_, HS16_, HS17_, HS18_⟩ (fun hHeld => ?_)
                     clear hK K
                     refine norm_ (a' := ?_) ?_ ?_
                     rotate_left
                     ·show Act.put _ (some 161) _ = _
                      simp only [Act.put, s1, s2, s3, i64_w, i32_w]
                      rfl
                     refine pure_ (i := 25) (N := some 164) (v := ?_) (a' := ?_) (bs 45 67108863) rfl rfl (any_of HT_.out (by decide +kernel)) (fun _ _ _ h => h) (Or.inl ⟨by rfl, ?_⟩) ?_ ?_
                     rotate_left
                     ·intro w'
                      go_simp; with_reducible rfl
                     rotate_left
                     ·simp only [Act.put, s1, s2, s3, i64_w, i32_w]
                      rfl
                     refine pure_ (i := 26) (N := some 165) (v := ?_) (a' := ?_) (bs 45 134217727) rfl rfl (any_of HT_.out (by decide +kernel)) (fun _ _ _ h => h) (Or.inl ⟨by rfl, ?_⟩) ?_ ?_
                     rotate_left
                     ·intro w'
                      go_simp; with_reducible rfl
                     rotate_left
                     ·simp only [Act.put, s1, s2, s3, i64_w, i32_w]
                      rfl
                     refine pure_ (i := 27) (N := some 166) (v := undef) (a' := ?_) (bs 45 268435455) rfl rfl (any_of HT_.out (by decide +kernel)) (fun _ _ _ h => h) (Or.inr ⟨by rfl, rfl⟩) ?_ ?_
                     rotate_left
                     ·simp only [Act.put, s1, s2, s3, i64_w, i32_w]
                      rfl
                     refine pure_ (i := 28) (N := some 167) (v := undef) (a' := ?_) (bs 45 536870911) rfl rfl (any_of HT_.out (by decide +kernel)) (fun _ _ _ h => h) (Or.inr ⟨by rfl, rfl⟩) ?_ ?_
                     rotate_left
                     ·simp only [Act.put, s1, s2, s3, i64_w, i32_w]
                      rfl
                     refine pure_ (i := 29) (N := some 168) (v := undef) (a' := ?_) (bs 45 1073741823) rfl rfl (any_of HT_.out (by decide +kernel)) (fun _ _ _ h => h) (Or.inr ⟨by rfl, rfl⟩) ?_ ?_
                     rotate_left
                     ·simp only [Act.put, s1, s2, s3, i64_w, i32_w]
                      rfl
                     refine pure_ (i := 30) (N := some 169) (v := undef) (a' := ?_) (bs 45 2147483647) rfl rfl (any_of HT_.out (by decide +kernel)) (fun _ _ _ h => h) (Or.inr ⟨by rfl, rfl⟩) ?_ ?_
                     rotate_left
                     ·simp only [Act.put, s1, s2, s3, i64_w, i32_w]
                      rfl
                     refine pure_ (i := 31) (N := some 170) (v := undef) (a' := ?_) (bs 45 4294967295) rfl rfl (any_of HT_.out (by decide +kernel)) (fun _ _ _ h => h) (Or.inr ⟨by rfl, rfl⟩) ?_ ?_
                     rotate_left
                     ·simp only [Act.put, s1, s2, s3, i64_w, i32_w]
                      rfl
                     refine pure_ (i := 32) (N := some 171) (v := undef) (a' := ?_) (bs 45 8589934591) rfl rfl (any_of HT_.out (by decide +kernel)) (fun _ _ _ h => h) (Or.inr ⟨by rfl, rfl⟩) ?_ ?_
                     rotate_left
                     ·simp only [Act.put, s1, s2, s3, i64_w, i32_w]
                      rfl
                     refine pure_ (i := 33) (N := some 172) (v := undef) (a' := ?_) (bs 45 17179869183) rfl rfl (any_of HT_.out (by decide +kernel)) (fun _ _ _ h => h) (Or.inr ⟨by rfl, rfl⟩) ?_ ?_
                     rotate_left
                     ·simp only [Act.put, s1, s2, s3, i64_w, i32_w]
                      rfl
                     refine pure_ (i := 34) (N := some 173) (v := undef) (a' := ?_) (bs 45 34359738367) rfl rfl (any_of HT_.out (by decide +kernel)) (fun _ _ _ h => h) (Or.inr ⟨by rfl, rfl⟩) ?_ ?_
                     rotate_left
                     ·simp only [Act.put, s1, s2, s3, i64_w, i32_w]
                      rfl
                     refine pure_ (i := 35) (N := some 174) (v := undef) (a' := ?_) (bs 45 68719476735) rfl rfl (any_of HT_.out (by decide +kernel)) (fun _ _ _ h => h) (Or.inr ⟨by rfl, rfl⟩) ?_ ?_
                     rotate_left
                     ·simp only [Act.put, s1, s2, s3, i64_w, i32_w]
                      rfl
                     refine pure_ (i := 36) (N := some 175) (v := undef) (a' := ?_) (bs 45 137438953471) rfl rfl (any_of HT_.out (by decide +kernel)) (fun _ _ _ h => h) (Or.inr ⟨by rfl, rfl⟩) ?_ ?_
                     rotate_left
                     ·simp only [Act.put, s1, s2, s3, i64_w, i32_w]
                      rfl
                     refine pure_ (i := 37) (N := some 176) (v := undef) (a' := ?_) (bs 45 274877906943) rfl rfl (any_of HT_.out (by decide +kernel)) (fun _ _ _ h => h) (Or.inr ⟨by rfl, rfl⟩) ?_ ?_
                     rotate_left
                     ·simp only [Act.put, s1, s2, s3, i64_w, i32_w]
                      rfl
                     refine pure_ (i := 38) (N := some 177) (v := undef) (a' := ?_) (bs 45 549755813887) rfl rfl (any_of HT_.out (by decide +kernel)) (fun _ _ _ h => h) (Or.inr ⟨by rfl, rfl⟩) ?_ ?_
                     rotate_left
                     ·simp only [Act.put, s1, s2, s3, i64_w, i32_w]
                      rfl
                     refine pure_ (i := 39) (N := some 178) (v := undef) (a' := ?_) (bs 45 1099511627775) rfl rfl (any_of HT_.out (by decide +kernel)) (fun _ _ _ h => h) (Or.inr ⟨by rfl, rfl⟩) ?_ ?_
                     rotate_left
                     ·simp only [Act.put, s1, s2, s3, i64_w, i32_w]
                      rfl
                     refine pure_ (i := 40) (N := some 179) (v := undef) (a' := ?_) (bs 45 2199023255551) rfl rfl (any_of HT_.out (by decide +kernel)) (fun _ _ _ h => h) (Or.inr ⟨by rfl, rfl⟩) ?_ ?_
                     rotate_left
                     ·simp only [Act.put, s1, s2, s3, i64_w, i32_w]
                      rfl
                     refine pure_ (i := 41) (N := some 180) (v := undef) (a' := ?_) (bs 45 4398046511103) rfl rfl (any_of HT_.out (by decide +kernel)) (fun _ _ _ h => h) (Or.inr ⟨by rfl, rfl⟩) ?_ ?_
                     rotate_left
                     ·simp only [Act.put, s1, s2, s3, i64_w, i32_w]
                      rfl
                     refine pure_ (i := 42) (N := some 181) (v := ?_) (a' := ?_) (bs 45 8796093022207) rfl rfl (any_of HT_.out (by decide +kernel)) (fun _ _ _ h => h) (Or.inl ⟨by rfl, ?_⟩) ?_ ?_
                     rotate_left
                     ·intro w'
                      go_simp; with_reducible rfl
                     rotate_left
                     ·simp only [Act.put, s1, s2, s3, i64_w, i32_w]
                      rfl
                     refine pure_ (i := 43) (N := some 182) (v := ?_) (a' := ?_) (bs 45 17592186044415) rfl rfl (any_of HT_.out (by decide +kernel)) (fun _ _ _ h => h) (Or.inl ⟨by rfl, ?_⟩) ?_ ?_
                     rotate_left
                     ·intro w'
                      go_simp; with_reducible rfl
                     rotate_left
                     ·simp only [Act.put, s1, s2, s3, i64_w, i32_w]
                      rfl
                     refine pure_ (i := 44) (N := some 183) (v := ?_) (a' := ?_) (bs 45 35184372088831) rfl rfl (any_of HT_.out (by decide +kernel)) (fun _ _ _ h => h) (Or.inl ⟨by rfl, ?_⟩) ?_ ?_
                     rotate_left
                     ·intro w'
                      go_simp; with_reducible rfl
                     rotate_left
                     ·simp only [Act.put, s1, s2, s3, i64_w, i32_w]
                      rfl
                     refine done_ (done_of HT_.out (by decide +kernel)) ?_
                     try go_wp2
                     go_meet
                     case rel => exact ⟨_, (true), (by first | rfl | (simp; done) | (simp [i64_w]; done) | (simp [*]; done) | (simp [*, i64_w]; done) | (simp [*]; unfold wrap64; omega)), H', ⟨by have := HJ6.out; have := HK2.out; have := HK3.out; have := HK4.out; first | omega | exact Nat.le_refl _⟩, ⟨by (with_reducible repeat (first | apply Kd.R_alloc | apply Kd.R_drewN | apply Kd.R_drew)); exact HO_3.out⟩, ⟨by (with_reducible repeat (first | apply Kd.R_alloc | apply Kd.R_drewN | apply Kd.R_drew)); exact HO_5.out⟩, ⟨by (with_reducible repeat (first | apply Kd.R_alloc | apply Kd.R_drewN | apply Kd.R_drew)); exact HO_7.out⟩, ⟨by (with_reducible repeat (first | refine blk_drewN ?_ _ | refine blk_drew ?_ | refine blk_alloc ?_ _)); exact BK191.out⟩, ⟨by (with_reducible repeat (first | refine blk_drewN ?_ _ | refine blk_drew ?_ | refine blk_alloc ?_ _)); exact BK213.out⟩, ⟨by (with_reducible repeat (first | refine blk_drewN ?_ _ | refine blk_drew ?_ | refine blk_alloc ?_ _)); exact BK215.out⟩, ⟨by (with_reducible repeat (first | refine blk_drewN ?_ _ | refine blk_drew ?_ | refine blk_alloc ?_ _)); exact BK217.out⟩, ⟨by repeat (first | (with_reducible first | exact HB.out | apply below_alloc | apply pw_below_drewN | apply below_drew1 | refine below_set ?_ GE191.out | refine below_set ?_ GE213.out | refine below_set ?_ GE215.out | refine below_set ?_ GE217.out) | exact HB.out)⟩⟩
                    ·rw [if_neg c72] at H
                     have c72b0 : (!(t224 == ((rd_T66 tf ((rd_T68 ((rd_T58 ((rd_T55 lr xi).f1) xj).f1) xk).f0)).f0.f0)) || (!(t225 == ((rd_T66 tf ((rd_T68 ((rd_T58 ((rd_T55 lr xi).f1) xj).f1) xk).f0)).f0.f1)) || (!(t226 == ((rd_T66 tf ((rd_T68 ((rd_T58 ((rd_T55 lr xi).f1) xj).f1) xk).f0)).f0.f2)) || (!(t227 == ((rd_T66 tf ((rd_T68 ((rd_T58 ((rd_T55 lr xi).f1) xj).f1) xk).f0)).f0.f3)))))) = false := by simpa using c72
                     clear c72; obtain ⟨bq77, hbq77⟩ : ∃ b_ : Bool, b_ = ((rd_T66 tf ((rd_T55 lr xi).f0)).f1) := ⟨_, rfl⟩
                     replace H : (if bq77 = true then (templelaw12_FollowsHold.j4 k4 td te tf xi xj ((rd_T58 ((rd_T55 lr xi).f1) xj).f1) true xk (!((rd_T66 tf ((rd_T68 ((rd_T58 ((rd_T55 lr xi).f1) xj).f1) xk).f0)).f1)) aq lq lr ya yb yc yd ((rd_T68 ((rd_T58 ((rd_T55 lr xi).f1) xj).f1) xk).f0) ((rd_T68 ((rd_T58 ((rd_T55 lr xi).f1) xj).f1) xk).f1) ((rd_T68 ((rd_T58 ((rd_T55 lr xi).f1) xj).f1) xk).f2)) else (templelaw12_FollowsHold.j4 k4 td te tf xi xj ((rd_T58 ((rd_T55 lr xi).f1) xj).f1) true xk false aq lq lr ya yb yc yd ((rd_T68 ((rd_T58 ((rd_T55 lr xi).f1) xj).f1) xk).f0) ((rd_T68 ((rd_T58 ((rd_T55 lr xi).f1) xj).f1) xk).f1) ((rd_T68 ((rd_T58 ((rd_T55 lr xi).f1) xj).f1) xk).f2))) = some r := by rw [← hbq77] at H; exact H
                     have Nbq77 := Aside0.mk hbq77; clear hbq77
                     by_cases c78 : bq77 = true
                     ·as_aux_lemma =>
                      subst c78; have H1 := H
                      rw [if_pos rfl] at H1
                      clear H; have H := H1; clear H1; have H' := Aside0.mk H; clear H
                      try go_wp2
                      obtain ⟨w79, hw_⟩ : ∃ W_, W_ = (((((w59.setCell ⟨gq, 0, none⟩ (.int .u64 ((rd_T66 tf ((rd_T68 ((rd_T58 ((rd_T55 lr xi).f1) xj).f1) xk).f0)).f0.f0))).setCell ⟨gq, 1, none⟩ (.int .u64 ((rd_T66 tf ((rd_T68 ((rd_T58 ((rd_T55 lr xi).f1) xj).f1) xk).f0)).f0.f1))).setCell ⟨gq, 2, none⟩ (.int .u64 ((rd_T66 tf ((rd_T68 ((rd_T58 ((rd_T55 lr xi).f1) xj).f1) xk).f0)).f0.f2))).setCell ⟨gq, 3, none⟩ (.int .u64 ((rd_T66 tf ((rd_T68 ((rd_T58 ((rd_T55 lr xi).f1) xj).f1) xk).f0)).f0.f3))).setCell ⟨gq, 4, none⟩ (.bool ((rd_T66 tf ((rd_T68 ((rd_T58 ((rd_T55 lr xi).f1) xj).f1) xk).f0)).f1))) := ⟨_, rfl⟩
                      have n0_ : Aside0 (Kd.R Kd.bool 4 w79 w.heap.size (fun _ => True) (.slice Ao36 td.length co36) td) := ⟨Kd.R_mono (r5 hw_ (Kd.R_types HO_3.out BK217.out (by decide)) (fun _ hk => hk.2)) (fun _ hk => trivial)⟩
                      have n1_ : Aside0 (Kd.R k63 63 w79 w.heap.size (fun k_ => k_ ≠ gp) (.slice Ao37 te.length co37) te) := ⟨Kd.R_mono (r5 hw_ (Kd.R_types HO_5.out BK217.out (by decide)) (fun _ hk => hk.2)) (fun _ hk => hk.1)⟩
                      have n2_ : Aside0 (Kd.R k66 66 w79 w.heap.size (fun k_ => k_ ≠ gq) (.slice (some ad209) tf.length co38) tf) := ⟨Kd.R_mono (r5 hw_ (Kd.R_mono HO_7.out (fun k_ hk => (⟨hk, hk.2⟩ : _ ∧ k_ ≠ gq))) (fun _ hk => hk.2)) (fun _ hk => hk.1.2)⟩
                      have n3_ : Aside0 (w79.heap[gz]? = some (.cells #[.int .i64 aq, .slice A0_1 lq.length c0_1, .slice (some ad210) lr.length c0_2] 25 (0, 0))) := ⟨b5 hw_ BK191.out NB191_217.out⟩
                      have n4_ : Aside0 (w79.heap[gp]? = some (.cells #[.int .u64 ya, .int .u64 yb, .int .u64 yc, .int .u64 yd] 63 (0, 0))) := ⟨b5 hw_ BK213.out NB213_217.out⟩
                      have n5_ : Aside0 (w79.heap[gs]? = some (.cells #[.int .i64 ((rd_T68 ((rd_T58 ((rd_T55 lr xi).f1) xj).f1) xk).f0), .int .i64 ((rd_T68 ((rd_T58 ((rd_T55 lr xi).f1) xj).f1) xk).f1), .int .i64 ((rd_T68 ((rd_T58 ((rd_T55 lr xi).f1) xj).f1) xk).f2)] 68 (0, 0))) := ⟨b5 hw_ BK215.out NB215_217.out⟩
                      have n6_ : Aside0 (w79.heap[gq]? = some (.cells #[.int .u64 ((rd_T66 tf ((rd_T68 ((rd_T58 ((rd_T55 lr xi).f1) xj).f1) xk).f0)).f0.f0), .int .u64 ((rd_T66 tf ((rd_T68 ((rd_T58 ((rd_T55 lr xi).f1) xj).f1) xk).f0)).f0.f1), .int .u64 ((rd_T66 tf ((rd_T68 ((rd_T58 ((rd_T55 lr xi).f1) xj).f1) xk).f0)).f0.f2), .int .u64 ((rd_T66 tf ((rd_T68 ((rd_T58 ((rd_T55 lr xi).f1) xj).f1) xk).f0)).f0.f3), .bool ((rd_T66 tf ((rd_T68 ((rd_T58 ((rd_T55 lr xi).f1) xj).f1) xk).f0)).f1)] 66 (0, 0))) := ⟨p5 hw_ BK217.out⟩
                      have n7_ : Aside0 (Below w.heap.size w w79) := ⟨l5 hw_ HB.out GE217.out⟩
                      (try clear HO_3); (try clear HO_5); (try clear HO_7); (try clear BK191); (try clear BK213); (try clear BK215); (try clear BK217); (try clear HB)
                      rw [← hw_]; clear hw_
                      have HO_3 := n0_; have HO_5 := n1_; have HO_7 := n2_; have BK191 := n3_; have BK213 := n4_; have BK215 := n5_; have BK217 := n6_; have HB := n7_; clear n0_ n1_ n2_ n3_ n4_ n5_ n6_ n7_; have n0_ := Aside0.mk (Kd.R_drew HO_3.out); have n1_ := Aside0.mk (Kd.R_drew HO_5.out); have n2_ := Aside0.mk (Kd.R_drew HO_7.out); have n3_ := Aside0.mk (blk_drew BK191.out); have n4_ := Aside0.mk (blk_drew BK213.out); have n5_ := Aside0.mk (blk_drew BK215.out); have n6_ := Aside0.mk (blk_drew BK217.out); have n7_ := Aside0.mk (below_drew1 HB.out); clear HO_3; clear HO_5; clear HO_7; clear BK191; clear BK213; clear BK215; clear BK217; clear HB; have HO_3 := n0_; have HO_5 := n1_; have HO_7 := n2_; have BK191 := n3_; have BK213 := n4_; have BK215 := n5_; have BK217 := n6_; have HB := n7_; clear n0_ n1_ n2_ n3_ n4_ n5_ n6_ n7_
                      have p222 : 0 ≤ (xi : Int) := of_decide_eq_true (by first | (with_reducible assumption) | assumption)
                      have q222 : xi < (lr.length : Int) := of_decide_eq_true (by first | (with_reducible assumption) | assumption)
                      obtain ⟨ad222, A222_1, c222_1, e222, hx222_0, hx222_1, hl222_1, hi222_1⟩ := at_T55 HR0_2.out xi p222 q222; have hw222_1 := hx222_1; have hw222_0 := hx222_0; obtain rfl : ad210 = ad222 := (by injection e222)
                      replace hx222_0 := (HB.out.cell (World.block_lt_of_cell? w _ hx222_0)).trans hx222_0
                      replace hx222_1 := (HB.out.cell (World.block_lt_of_cell? w _ hx222_1)).trans hx222_1
                      have HR222_1 := Aside0.mk hi222_1; have HC222_1 := Aside0.mk hl222_1; clear hi222_1 hl222_1; replace p222 := eq_true p222; replace q222 := eq_true q222
                      have p223 : 0 ≤ (((rd_T55 lr xi).f0) : Int) := of_decide_eq_true (by first | (with_reducible assumption) | assumption)
                      have q223 : ((rd_T55 lr xi).f0) < (tf.length : Int) := of_decide_eq_true (by first | (with_reducible assumption) | assumption)
                      obtain ⟨ad223, e223, hx223_0, hx223_1, hx223_2, hx223_3, hx223_4⟩ := at_T66 (Kd.R_reads' HO_7.out).2.2 ((rd_T55 lr xi).f0) p223 q223
                      (try rw [← Nbq32.out] at hx223_4)
                      (try rw [← Nbq77.out] at hx223_4)
                      obtain rfl : ad209 = ad223 := (by injection e223); replace p223 := eq_true p223; replace q223 := eq_true q223
                      have p228 : 0 ≤ (xi : Int) := of_decide_eq_true (by first | (with_reducible assumption) | assumption)
                      have q228 : xi < (lr.length : Int) := of_decide_eq_true (by first | (with_reducible assumption) | assumption)
                      obtain ⟨ad228, A228_1, c228_1, e228, hx228_0, hx228_1, hl228_1, hi228_1⟩ := at_T55 HR0_2.out xi p228 q228; have hw228_1 := hx228_1; have hw228_0 := hx228_0; obtain rfl : ad210 = ad228 := (by injection e228)
                      replace hx228_0 := (HB.out.cell (World.block_lt_of_cell? w _ hx228_0)).trans hx228_0
                      replace hx228_1 := (HB.out.cell (World.block_lt_of_cell? w _ hx228_1)).trans hx228_1
                      have HR228_1 := Aside0.mk hi228_1; have HC228_1 := Aside0.mk hl228_1; clear hi228_1 hl228_1; replace p228 := eq_true p228; replace q228 := eq_true q228
                      have p229 : 0 ≤ (((rd_T55 lr xi).f0) : Int) := of_decide_eq_true (by first | (with_reducible assumption) | assumption)
                      have q229 : ((rd_T55 lr xi).f0) < (tf.length : Int) := of_decide_eq_true (by first | (with_reducible assumption) | assumption)
                      obtain ⟨ad229, e229, hx229_0, hx229_1, hx229_2, hx229_3, hx229_4⟩ := at_T66 (Kd.R_reads' HO_7.out).2.2 ((rd_T55 lr xi).f0) p229 q229
                      (try rw [← Nbq32.out] at hx229_4)
                      (try rw [← Nbq77.out] at hx229_4)
                      obtain rfl : ad209 = ad229 := (by injection e229); replace p229 := eq_true p229; replace q229 := eq_true q229
                      refine start_ (n := 45) (S := fun w' => w'.cell? ⟨gq, 0, none⟩ = some (.int .u64 ((rd_T66 tf ((rd_T68 ((rd_T58 ((rd_T55 lr xi).f1) xj).f1) xk).f0)).f0.f0)) ∧ w'.cell? ⟨gq, 1, none⟩ = some (.int .u64 ((rd_T66 tf ((rd_T68 ((rd_T58 ((rd_T55 lr xi).f1) xj).f1) xk).f0)).f0.f1)) ∧ w'.cell? ⟨gq, 2, none⟩ = some (.int .u64 ((rd_T66 tf ((rd_T68 ((rd_T58 ((rd_T55 lr xi).f1) xj).f1) xk).f0)).f0.f2)) ∧ w'.cell? ⟨gq, 3, none⟩ = some (.int .u64 ((rd_T66 tf ((rd_T68 ((rd_T58 ((rd_T55 lr xi).f1) xj).f1) xk).f0)).f0.f3)) ∧ w'.cell? ⟨gq, 4, none⟩ = some (.bool ((rd_T66 tf ((rd_T68 ((rd_T58 ((rd_T55 lr xi).f1) xj).f1) xk).f0)).f1)) ∧ w'.cell? ⟨gp, 0, none⟩ = some (.int .u64 ya) ∧ w'.cell? ⟨gp, 1, none⟩ = some (.int .u64 yb) ∧ w'.cell? ⟨gp, 2, none⟩ = some (.int .u64 yc) ∧ w'.cell? ⟨gp, 3, none⟩ = some (.int .u64 yd) ∧ w'.cell? ⟨gz, 0, none⟩ = some (.int .i64 aq) ∧ w'.cell? ⟨gz, 1, none⟩ = some (.slice A0_1 lq.length c0_1) ∧ w'.cell? ⟨gz, 2, none⟩ = some (.slice (some ad210) lr.length c0_2) ∧ w'.cell? (ad210.add ((xi).toNat * 2)) = some (.int .i64 ((rd_T55 lr xi).f0)) ∧ w'.cell? ⟨(ad210.add ((xi).toNat * 2)).block, (ad210.add ((xi).toNat * 2)).off + 1, none⟩ = some (.slice A222_1 ((rd_T55 lr xi).f1).length c222_1) ∧ w'.cell? (ad209.add ((((rd_T55 lr xi).f0)).toNat * 5)) = some (.int .u64 ((rd_T66 tf ((rd_T55 lr xi).f0)).f0.f0)) ∧ w'.cell? ⟨(ad209.add ((((rd_T55 lr xi).f0)).toNat * 5)).block, (ad209.add ((((rd_T55 lr xi).f0)).toNat * 5)).off + 1, none⟩ = some (.int .u64 ((rd_T66 tf ((rd_T55 lr xi).f0)).f0.f1)) ∧ w'.cell? ⟨(ad209.add ((((rd_T55 lr xi).f0)).toNat * 5)).block, (ad209.add ((((rd_T55 lr xi).f0)).toNat * 5)).off + 2, none⟩ = some (.int .u64 ((rd_T66 tf ((rd_T55 lr xi).f0)).f0.f2)) ∧ w'.cell? ⟨(ad209.add ((((rd_T55 lr xi).f0)).toNat * 5)).block, (ad209.add ((((rd_T55 lr xi).f0)).toNat * 5)).off + 3, none⟩ = some (.int .u64 ((rd_T66 tf ((rd_T55 lr xi).f0)).f0.f3)) ∧ w'.cell? ⟨(ad209.add ((((rd_T55 lr xi).f0)).toNat * 5)).block, (ad209.add ((((rd_T55 lr xi).f0)).toNat * 5)).off + 4, none⟩ = some (.bool true) ∧ w'.cell? (ad210.add ((xi).toNat * 2)) = some (.int .i64 ((rd_T55 lr xi).f0)) ∧ w'.cell? ⟨(ad210.add ((xi).toNat * 2)).block, (ad210.add ((xi).toNat * 2)).off + 1, none⟩ = some (.slice A228_1 ((rd_T55 lr xi).f1).length c228_1) ∧ w'.cell? (ad209.add ((((rd_T55 lr xi).f0)).toNat * 5)) = some (.int .u64 ((rd_T66 tf ((rd_T55 lr xi).f0)).f0.f0)) ∧ w'.cell? ⟨(ad209.add ((((rd_T55 lr xi).f0)).toNat * 5)).block, (ad209.add ((((rd_T55 lr xi).f0)).toNat * 5)).off + 1, none⟩ = some (.int .u64 ((rd_T66 tf ((rd_T55 lr xi).f0)).f0.f1)) ∧ w'.cell? ⟨(ad209.add ((((rd_T55 lr xi).f0)).toNat * 5)).block, (ad209.add ((((rd_T55 lr xi).f0)).toNat * 5)).off + 2, none⟩ = some (.int .u64 ((rd_T66 tf ((rd_T55 lr xi).f0)).f0.f2)) ∧ w'.cell? ⟨(ad209.add ((((rd_T55 lr xi).f0)).toNat * 5)).block, (ad209.add ((((rd_T55 lr xi).f0)).toNat * 5)).off + 3, none⟩ = some (.int .u64 ((rd_T66 tf ((rd_T55 lr xi).f0)).f0.f3)) ∧ w'.cell? ⟨(ad209.add ((((rd_T55 lr xi).f0)).toNat * 5)).block, (ad209.add ((((rd_T55 lr xi).f0)).toNat * 5)).off + 4, none⟩ = some (.bool true)) (ds := []) #[false, false, false, false, false, false, false, false, false, false, false, false, false, false, false, false, false, false, false, false, false, false, false, false, false, false, false, false, false, false, false, false, false, false, false, false, false, false, false, false, false, false, false, false, false] (by decide +kernel) rfl rfl ⟨(blk_cell BK217.out 0).trans rfl, (blk_cell BK217.out 1).trans rfl, (blk_cell BK217.out 2).trans rfl, (blk_cell BK217.out 3).trans rfl, (blk_cell BK217.out 4).trans rfl, (blk_cell BK213.out 0).trans rfl, (blk_cell BK213.out 1).trans rfl, (blk_cell BK213.out 2).trans rfl, (blk_cell BK213.out 3).trans rfl, (blk_cell BK191.out 0).trans rfl, (blk_cell BK191.out 1).trans rfl, (blk_cell BK191.out 2).trans rfl, ((HB.out.cell (World.block_lt_of_cell? w _ hw222_0)).trans hw222_0), ((HB.out.cell (World.block_lt_of_cell? w _ hw222_1)).trans hw222_1), hx223_0, hx223_1, hx223_2, hx223_3, hx223_4, ((HB.out.cell (World.block_lt_of_cell? w _ hw228_0)).trans hw228_0), ((HB.out.cell (World.block_lt_of_cell? w _ hw228_1)).trans hw228_1), hx229_0, hx229_1, hx229_2, hx229_3, hx229_4⟩ (fun hHeld => ?_); refine with_tabW templelaw12_FollowsHold.tab26 templelaw12_FollowsHold.bits26 (fun HT_ HW_ => ?_)
                      generalize w79.drew = w80 at HO_3 HO_5 HO_7 BK191 BK213 BK215 BK217 HB HR222_1 HR228_1 hx222_0 hx222_1 hx223_0 hx223_1 hx223_2 hx223_3 hx223_4 hx228_0 hx228_1 hx229_0 hx229_1 hx229_2 hx229_3 hx229_4 hHeld ⊢
                      refine pure_ (i := 0) (N := some 139) (v := ?_) (a' := ?_) (bs 45 1) rfl rfl (any_of HT_.out (by decide +kernel)) (fun _ _ _ h => h) (Or.inl ⟨by rfl, ?_⟩) ?_ ?_
                      rotate_left
                      ·intro w'
                       go_simp; with_reducible rfl
                      rotate_left
                      ·simp only [Act.put, s1, s2, s3, i64_w, i32_w]
                       rfl
                      refine pure_ (i := 4) (N := some 143) (v := ?_) (a' := ?_) (bs 45 17) rfl rfl (any_of HT_.out (by decide +kernel)) (fun _ _ _ h => h) (Or.inl ⟨by rfl, ?_⟩) ?_ ?_
                      rotate_left
                      ·intro w'
                       go_simp; with_reducible rfl
                      rotate_left
                      ·simp only [Act.put, s1, s2, s3, i64_w, i32_w]
                       rfl
                      refine take_ (i := 1) (N := some 140) (v := ?_) (a' := ?_) (bs 45 19) rfl rfl (take_ofW HT_.out HW_.out (by decide +kernel)) (fun _ _ _ h => h) (Or.inl ⟨by rfl, ?_⟩) hHeld ?_ ?_
                      rotate_left
                      ·rintro w' ⟨s0, s1, s2, s3, s4, s5, s6, s7, s8, s9, s10, s11, s12, s13, s14, s15, s16, s17, s18, s19, s20, s21, s22, s23, s24, s25⟩; go_simp; with_reducible rfl
                      rotate_left
                      ·simp only [Act.put, s1, s2, s3, i64_w, i32_w]
                       rfl
                      refine take_ (i := 2) (N := some 141) (v := ?_) (a' := ?_) (bs 45 23) rfl rfl (take_ofW HT_.out HW_.out (by decide +kernel)) (fun _ _ _ h => h) (Or.inl ⟨by rfl, ?_⟩) hHeld ?_ ?_
                      rotate_left
                      ·rintro w' ⟨s0, s1, s2, s3, s4, s5, s6, s7, s8, s9, s10, s11, s12, s13, s14, s15, s16, s17, s18, s19, s20, s21, s22, s23, s24, s25⟩; go_simp; with_reducible rfl
                      rotate_left
                      ·simp only [Act.put, s1, s2, s3, i64_w, i32_w]
                       rfl
                      refine take_ (i := 5) (N := some 144) (v := ?_) (a' := ?_) (bs 45 55) rfl rfl (take_ofW HT_.out HW_.out (by decide +kernel)) (fun _ _ _ h => h) (Or.inl ⟨by rfl, ?_⟩) hHeld ?_ ?_
                      rotate_left
                      ·rintro w' ⟨s0, s1, s2, s3, s4, s5, s6, s7, s8, s9, s10, s11, s12, s13, s14, s15, s16, s17, s18, s19, s20, s21, s22, s23, s24, s25⟩; go_simp; with_reducible rfl
                      rotate_left
                      ·simp only [Act.put, s1, s2, s3, i64_w, i32_w]
                       rfl
                      refine one_ (i := 3) (N := some 142) (bs 45 63) rfl rfl (one_of HT_.out (by decide +kernel)) (by decide) (fun K hK => ?_)
                      refine goes_ Try.func26 (by decide +kernel) rfl #[.int .i64 0, .agg #[.int .u64 ((rd_T66 tf ((rd_T68 ((rd_T58 ((rd_T55 lr xi).f1) xj).f1) xk).f0)).f0.f0), .int .u64 ((rd_T66 tf ((rd_T68 ((rd_T58 ((rd_T55 lr xi).f1) xj).f1) xk).f0)).f0.f1), .int .u64 ((rd_T66 tf ((rd_T68 ((rd_T58 ((rd_T55 lr xi).f1) xj).f1) xk).f0)).f0.f2), .int .u64 ((rd_T66 tf ((rd_T68 ((rd_T58 ((rd_T55 lr xi).f1) xj).f1) xk).f0)).f0.f3)], .agg #[.int .u64 ya, .int .u64 yb, .int .u64 yc, .int .u64 yd]] (by rfl) rfl rfl (by (try simp only [List.map_toArray, List.map_cons, List.map_nil]); first | done | rfl | (simp only [List.length_drop, List.length_take]; rfl)) ?_
                      with_reducible refine (templeref1_Mix.calls 0 ((rd_T66 tf ((rd_T68 ((rd_T58 ((rd_T55 lr xi).f1) xj).f1) xk).f0)).f0.f0) ((rd_T66 tf ((rd_T68 ((rd_T58 ((rd_T55 lr xi).f1) xj).f1) xk).f0)).f0.f1) ((rd_T66 tf ((rd_T68 ((rd_T58 ((rd_T55 lr xi).f1) xj).f1) xk).f0)).f0.f2) ((rd_T66 tf ((rd_T68 ((rd_T58 ((rd_T55 lr xi).f1) xj).f1) xk).f0)).f0.f3) ya yb yc yd t218 t219 t220 t221 _ A64.out).mono ?_
                      rintro e w81 ⟨rfl, hb⟩
                      have HS14_ := (hb.cell (World.block_lt_of_cell? _ _ (hHeld.2.2.2.2.2.2.2.2.2.2.2.2.2.2.1))).trans (hHeld.2.2.2.2.2.2.2.2.2.2.2.2.2.2.1)
                      have HS15_ := (hb.cell (World.block_lt_of_cell? _ _ (hHeld.2.2.2.2.2.2.2.2.2.2.2.2.2.2.2.1))).trans (hHeld.2.2.2.2.2.2.2.2.2.2.2.2.2.2.2.1)
                      have HS16_ := (hb.cell (World.block_lt_of_cell? _ _ (hHeld.2.2.2.2.2.2.2.2.2.2.2.2.2.2.2.2.1))).trans (hHeld.2.2.2.2.2.2.2.2.2.2.2.2.2.2.2.2.1)
                      have HS17_ := (hb.cell (World.block_lt_of_cell? _ _ (hHeld.2.2.2.2.2.2.2.2.2.2.2.2.2.2.2.2.2.1))).trans (hHeld.2.2.2.2.2.2.2.2.2.2.2.2.2.2.2.2.2.1)
                      have HS18_ := (hb.cell (World.block_lt_of_cell? _ _ (hHeld.2.2.2.2.2.2.2.2.2.2.2.2.2.2.2.2.2.2.1))).trans (hHeld.2.2.2.2.2.2.2.2.2.2.2.2.2.2.2.2.2.2.1)
                      have HS21_ := (hb.cell (World.block_lt_of_cell? _ _ (hHeld.2.2.2.2.2.2.2.2.2.2.2.2.2.2.2.2.2.2.2.2.2.1))).trans (hHeld.2.2.2.2.2.2.2.2.2.2.2.2.2.2.2.2.2.2.2.2.2.1)
                      have HS22_ := (hb.cell (World.block_lt_of_cell? _ _ (hHeld.2.2.2.2.2.2.2.2.2.2.2.2.2.2.2.2.2.2.2.2.2.2.1))).trans (hHeld.2.2.2.2.2.2.2.2.2.2.2.2.2.2.2.2.2.2.2.2.2.2.1)
                      have HS23_ := (hb.cell (World.block_lt_of_cell? _ _ (hHeld.2.2.2.2.2.2.2.2.2.2.2.2.2.2.2.2.2.2.2.2.2.2.2.1))).trans (hHeld.2.2.2.2.2.2.2.2.2.2.2.2.2.2.2.2.2.2.2.2.2.2.2.1)
                      have HS24_ := (hb.cell (World.block_lt_of_cell? _ _ (hHeld.2.2.2.2.2.2.2.2.2.2.2.2.2.2.2.2.2.2.2.2.2.2.2.2.1))).trans (hHeld.2.2.2.2.2.2.2.2.2.2.2.2.2.2.2.2.2.2.2.2.2.2.2.2.1)
                      have HS25_ := (hb.cell (World.block_lt_of_cell? _ _ (hHeld.2.2.2.2.2.2.2.2.2.2.2.2.2.2.2.2.2.2.2.2.2.2.2.2.2))).trans (hHeld.2.2.2.2.2.2.2.2.2.2.2.2.2.2.2.2.2.2.2.2.2.2.2.2.2)
                      refine ⟨_, rfl, ?_⟩
                      have n0_ := Aside0.mk (Kd.R_below (by (with_reducible repeat (first | apply Kd.R_alloc | apply Kd.R_drewN | apply Kd.R_drew)); exact HO_3.out) hb); have n1_ := Aside0.mk (Kd.R_below (by (with_reducible repeat (first | apply Kd.R_alloc | apply Kd.R_drewN | apply Kd.R_drew)); exact HO_5.out) hb); have n2_ := Aside0.mk (Kd.R_below (by (with_reducible repeat (first | apply Kd.R_alloc | apply Kd.R_drewN | apply Kd.R_drew)); exact HO_7.out) hb); have n3_ := kb BK191 hb; have n4_ := kb BK213 hb; have n5_ := Aside0.mk (blk_below (g := gs) (o := .cells #[.int .i64 ((rd_T68 ((rd_T58 ((rd_T55 lr xi).f1) xj).f1) xk).f0), .int .i64 ((rd_T68 ((rd_T58 ((rd_T55 lr xi).f1) xj).f1) xk).f1), .int .i64 ((rd_T68 ((rd_T58 ((rd_T55 lr xi).f1) xj).f1) xk).f2)] 68 (0, 0)) (by (with_reducible repeat (first | refine blk_drewN ?_ _ | refine blk_drew ?_ | refine blk_alloc ?_ _)); exact BK215.out) hb); have n6_ := Aside0.mk (blk_below (g := gq) (o := .cells #[.int .u64 ((rd_T66 tf ((rd_T68 ((rd_T58 ((rd_T55 lr xi).f1) xj).f1) xk).f0)).f0.f0), .int .u64 ((rd_T66 tf ((rd_T68 ((rd_T58 ((rd_T55 lr xi).f1) xj).f1) xk).f0)).f0.f1), .int .u64 ((rd_T66 tf ((rd_T68 ((rd_T58 ((rd_T55 lr xi).f1) xj).f1) xk).f0)).f0.f2), .int .u64 ((rd_T66 tf ((rd_T68 ((rd_T58 ((rd_T55 lr xi).f1) xj).f1) xk).f0)).f0.f3), .bool ((rd_T66 tf ((rd_T68 ((rd_T58 ((rd_T55 lr xi).f1) xj).f1) xk).f0)).f1)] 66 (0, 0)) (by (with_reducible repeat (first | refine blk_drewN ?_ _ | refine blk_drew ?_ | refine blk_alloc ?_ _)); exact BK217.out) hb); have n7_ := ks HB hb; clear HO_3; clear HO_5; clear HO_7; clear BK191; clear BK213; clear BK215; clear BK217; clear HB; have HO_3 := n0_; have HO_5 := n1_; have HO_7 := n2_; have BK191 := n3_; have BK213 := n4_; have BK215 := n5_; have BK217 := n6_; have HB := n7_; clear n0_ n1_ n2_ n3_ n4_ n5_ n6_ n7_; (try clear hb)
                      refine hK.out _ _ ⟨(blk_cell BK217.out 0).trans rfl, (blk_cell BK217.out 1).trans rfl, (blk_cell BK217.out 2).trans rfl, (blk_cell BK217.out 3).trans rfl, (blk_cell BK217.out 4).trans rfl, (blk_cell BK213.out 0).trans rfl, (blk_cell BK213.out 1).trans rfl, (blk_cell BK213.out 2).trans rfl, (blk_cell BK213.out 3).trans rfl, (blk_cell BK191.out 0).trans rfl, (blk_cell BK191.out 1).trans rfl, (blk_cell BK191.out 2).trans rfl, ((HB.out.cell (World.block_lt_of_cell? w _ hw222_0)).trans hw222_0), ((HB.out.cell (World.block_lt_of_cell? w _ hw222_1)).trans hw222_1), HS14_, HS15_, HS16_, HS17_, HS18_, ((HB.out.cell (World.block_lt_of_cell? w _ hw228_0)).trans hw228_0), ((HB.out.cell (World.block_lt_of_cell? w _ hw228_1)).trans hw228_1), HS21_, HS22_, HS23_, HS24_, HS25_⟩ (fun hHeld => ?_)
                      clear hK K
                      refine norm_ (a' := ?_) ?_ ?_
                      rotate_left
                      ·show Act.put _ (some 142) _ = _
                       simp only [Act.put, s1, s2, s3, i64_w, i32_w]
                       rfl
                      refine pure_ (i := 6) (N := some 145) (v := ?_) (a' := ?_) (bs 45 127) rfl rfl (any_of HT_.out (by decide +kernel)) (fun _ _ _ h => h) (Or.inl ⟨by rfl, ?_⟩) ?_ ?_
                      rotate_left
                      ·intro w'
                       go_simp; with_reducible rfl
                      rotate_left
                      ·simp only [Act.put, s1, s2, s3, i64_w, i32_w]
                       rfl
                      refine pure_ (i := 7) (N := some 146) (v := ?_) (a' := ?_) (bs 45 255) rfl rfl (any_of HT_.out (by decide +kernel)) (fun _ _ _ h => h) (Or.inl ⟨by rfl, ?_⟩) ?_ ?_
                      rotate_left
                      ·intro w'
                       go_simp; with_reducible rfl
                      rotate_left
                      ·simp only [Act.put, s1, s2, s3, i64_w, i32_w]
                       rfl
                      refine pure_ (i := 8) (N := some 147) (v := ?_) (a' := ?_) (bs 45 511) rfl rfl (any_of HT_.out (by decide +kernel)) (fun _ _ _ h => h) (Or.inl ⟨by rfl, ?_⟩) ?_ ?_
                      rotate_left
                      ·intro w'
                       go_simp; with_reducible rfl
                      rotate_left
                      ·simp only [Act.put, s1, s2, s3, i64_w, i32_w]
                       rfl
                      refine pure_ (i := 9) (N := some 148) (v := ?_) (a' := ?_) (bs 45 1023) rfl rfl (any_of HT_.out (by decide +kernel)) (fun _ _ _ h => h) (Or.inl ⟨by rfl, ?_⟩) ?_ ?_
                      rotate_left
                      ·intro w'
                       go_simp; with_reducible rfl
                      rotate_left
                      ·simp only [Act.put, s1, s2, s3, i64_w, i32_w]
                       rfl
                      refine pure_ (i := 10) (N := some 149) (v := ?_) (a' := ?_) (bs 45 2047) rfl rfl (any_of HT_.out (by decide +kernel)) (fun _ _ _ h => h) (Or.inl ⟨by rfl, ?_⟩) ?_ ?_
                      rotate_left
                      ·intro w'
                       go_simp; with_reducible rfl
                      rotate_left
                      ·simp only [Act.put, s1, s2, s3, i64_w, i32_w]
                       rfl
                      refine pure_ (i := 12) (N := some 151) (v := ?_) (a' := ?_) (bs 45 6143) rfl rfl (any_of HT_.out (by decide +kernel)) (fun _ _ _ h => h) (Or.inl ⟨by rfl, ?_⟩) ?_ ?_
                      rotate_left
                      ·intro w'
                       go_simp; with_reducible rfl
                      rotate_left
                      ·simp only [Act.put, s1, s2, s3, i64_w, i32_w]
                       rfl
                      refine pure_ (i := 13) (N := some 152) (v := ?_) (a' := ?_) (bs 45 14335) rfl rfl (any_of HT_.out (by decide +kernel)) (fun _ _ _ h => h) (Or.inl ⟨by rfl, ?_⟩) ?_ ?_
                      rotate_left
                      ·intro w'
                       go_simp; with_reducible rfl
                      rotate_left
                      ·simp only [Act.put, s1, s2, s3, i64_w, i32_w]
                       rfl
                      refine pure_ (i := 15) (N := some 154) (v := ?_) (a' := ?_) (bs 45 47103) rfl rfl (any_of HT_.out (by decide +kernel)) (fun _ _ _ h => h) (Or.inl ⟨by rfl, ?_⟩) ?_ ?_
                      rotate_left
                      ·intro w'
                       go_simp; with_reducible rfl
                      rotate_left
                      ·simp only [Act.put, s1, s2, s3, i64_w, i32_w]
                       rfl
                      refine pure_ (i := 23) (N := some 162) (v := ?_) (a' := ?_) (bs 45 8435711) rfl rfl (any_of HT_.out (by decide +kernel)) (fun _ _ _ h => h) (Or.inl ⟨by rfl, ?_⟩) ?_ ?_
                      rotate_left
                      ·intro w'
                       go_simp; with_reducible rfl
                      rotate_left
                      ·simp only [Act.put, s1, s2, s3, i64_w, i32_w]
                       rfl
                      refine take_ (i := 11) (N := some 150) (v := ?_) (a' := ?_) (bs 45 8437759) rfl rfl (take_ofW HT_.out HW_.out (by decide +kernel)) (fun _ _ _ h => h) (Or.inl ⟨by rfl, ?_⟩) hHeld ?_ ?_
                      rotate_left
                      ·rintro w' ⟨s0, s1, s2, s3, s4, s5, s6, s7, s8, s9, s10, s11, s12, s13, s14, s15, s16, s17, s18, s19, s20, s21, s22, s23, s24, s25⟩; go_simp; with_reducible rfl
                      rotate_left
                      ·simp only [Act.put, s1, s2, s3, i64_w, i32_w]
                       rfl
                      refine take_ (i := 14) (N := some 153) (v := ?_) (a' := ?_) (bs 45 8454143) rfl rfl (take_ofW HT_.out HW_.out (by decide +kernel)) (fun _ _ _ h => h) (Or.inl ⟨by rfl, ?_⟩) hHeld ?_ ?_
                      rotate_left
                      ·rintro w' ⟨s0, s1, s2, s3, s4, s5, s6, s7, s8, s9, s10, s11, s12, s13, s14, s15, s16, s17, s18, s19, s20, s21, s22, s23, s24, s25⟩; go_simp; with_reducible rfl
                      rotate_left
                      ·simp only [Act.put, s1, s2, s3, i64_w, i32_w]
                       rfl
                      refine pure_ (i := 16) (N := some 155) (v := ?_) (a' := ?_) (bs 45 8519679) rfl rfl (any_of HT_.out (by decide +kernel)) (fun _ _ _ h => h) (Or.inl ⟨by rfl, ?_⟩) ?_ ?_
                      rotate_left
                      ·intro w'
                       go_simp; with_reducible rfl
                      rotate_left
                      ·simp only [Act.put, s1, s2, s3, i64_w, i32_w]
                       rfl
                      refine pure_ (i := 17) (N := some 156) (v := ?_) (a' := ?_) (bs 45 8650751) rfl rfl (any_of HT_.out (by decide +kernel)) (fun _ _ _ h => h) (Or.inl ⟨by rfl, ?_⟩) ?_ ?_
                      rotate_left
                      ·intro w'
                       go_simp; with_reducible rfl
                      rotate_left
                      ·simp only [Act.put, s1, s2, s3, i64_w, i32_w]
                       rfl
                      refine take_ (i := 18) (N := some 157) (v := ?_) (a' := ?_) (bs 45 8912895) rfl rfl (take_ofW HT_.out HW_.out (by decide +kernel)) (fun _ _ _ h => h) (Or.inl ⟨by rfl, ?_⟩) hHeld ?_ ?_
                      rotate_left
                      ·rintro w' ⟨s0, s1, s2, s3, s4, s5, s6, s7, s8, s9, s10, s11, s12, s13, s14, s15, s16, s17, s18, s19, s20, s21, s22, s23, s24, s25⟩; go_simp; with_reducible rfl
                      rotate_left
                      ·simp only [Act.put, s1, s2, s3, i64_w, i32_w]
                       rfl
                      refine pure_ (i := 19) (N := some 158) (v := ?_) (a' := ?_) (bs 45 9437183) rfl rfl (any_of HT_.out (by decide +kernel)) (fun _ _ _ h => h) (Or.inl ⟨by rfl, ?_⟩) ?_ ?_
                      rotate_left
                      ·intro w'
                       go_simp; with_reducible rfl
                      rotate_left
                      ·simp only [Act.put, s1, s2, s3, i64_w, i32_w]
                       rfl
                      refine pure_ (i := 20) (N := some 159) (v := ?_) (a' := ?_) (bs 45 10485759) rfl rfl (any_of HT_.out (by decide +kernel)) (fun _ _ _ h => h) (Or.inl ⟨by rfl, ?_⟩) ?_ ?_
                      rotate_left
                      ·intro w'
                       go_simp; with_reducible rfl
                      rotate_left
                      ·simp only [Act.put, s1, s2, s3, i64_w, i32_w]
                       rfl
                      refine take_ (i := 21) (N := some 160) (v := ?_) (a' := ?_) (bs 45 12582911) rfl rfl (take_ofW HT_.out HW_.out (by decide +kernel)) (fun _ _ _ h => h) (Or.inl ⟨by rfl, ?_⟩) hHeld ?_ ?_
                      rotate_left
                      ·rintro w' ⟨s0, s1, s2, s3, s4, s5, s6, s7, s8, s9, s10, s11, s12, s13, s14, s15, s16, s17, s18, s19, s20, s21, s22, s23, s24, s25⟩; go_simp; with_reducible rfl
                      rotate_left
                      ·simp only [Act.put, s1, s2, s3, i64_w, i32_w]
                       rfl
                      refine take_ (i := 24) (N := some 163) (v := ?_) (a' := ?_) (bs 45 29360127) rfl rfl (take_ofW HT_.out HW_.out (by decide +kernel)) (fun _ _ _ h => h) (Or.inl ⟨by rfl, ?_⟩) hHeld ?_ ?_
                      rotate_left
                      ·rintro w' ⟨s0, s1, s2, s3, s4, s5, s6, s7, s8, s9, s10, s11, s12, s13, s14, s15, s16, s17, s18, s19, s20, s21, s22, s23, s24, s25⟩; go_simp; with_reducible rfl
                      rotate_left
                      ·simp only [Act.put, s1, s2, s3, i64_w, i32_w]
                       rfl
                      refine one_ (i := 22) (N := some 161) (bs 45 33554431) rfl rfl (one_of HT_.out (by decide +kernel)) (by decide) (fun K hK => ?_)
                      refine goes_ Try.func26 (by decide +kernel) rfl #[.int .i64 0, .agg #[.int .u64 ((rd_T66 tf ((rd_T68 ((rd_T58 ((rd_T55 lr xi).f1) xj).f1) xk).f0)).f0.f0), .int .u64 ((rd_T66 tf ((rd_T68 ((rd_T58 ((rd_T55 lr xi).f1) xj).f1) xk).f0)).f0.f1), .int .u64 ((rd_T66 tf ((rd_T68 ((rd_T58 ((rd_T55 lr xi).f1) xj).f1) xk).f0)).f0.f2), .int .u64 ((rd_T66 tf ((rd_T68 ((rd_T58 ((rd_T55 lr xi).f1) xj).f1) xk).f0)).f0.f3)], .agg #[.int .u64 ((rd_T66 tf ((rd_T55 lr xi).f0)).f0.f0), .int .u64 ((rd_T66 tf ((rd_T55 lr xi).f0)).f0.f1), .int .u64 ((rd_T66 tf ((rd_T55 lr xi).f0)).f0.f2), .int .u64 ((rd_T66 tf ((rd_T55 lr xi).f0)).f0.f3)]] (by rfl) rfl rfl (by (try simp only [List.map_toArray, List.map_cons, List.map_nil]); first | done | rfl | (simp only [List.length_drop, List.length_take]; rfl)) ?_
                      with_reducible refine (templeref1_Mix.calls 0 ((rd_T66 tf ((rd_T68 ((rd_T58 ((rd_T55 lr xi).f1) xj).f1) xk).f0)).f0.f0) ((rd_T66 tf ((rd_T68 ((rd_T58 ((rd_T55 lr xi).f1) xj).f1) xk).f0)).f0.f1) ((rd_T66 tf ((rd_T68 ((rd_T58 ((rd_T55 lr xi).f1) xj).f1) xk).f0)).f0.f2) ((rd_T66 tf ((rd_T68 ((rd_T58 ((rd_T55 lr xi).f1) xj).f1) xk).f0)).f0.f3) ((rd_T66 tf ((rd_T55 lr xi).f0)).f0.f0) ((rd_T66 tf ((rd_T55 lr xi).f0)).f0.f1) ((rd_T66 tf ((rd_T55 lr xi).f0)).f0.f2) ((rd_T66 tf ((rd_T55 lr xi).f0)).f0.f3) t224 t225 t226 t227 _ A71.out).mono ?_
                      rintro e w82 ⟨rfl, hb⟩
                      have HS14_ := (hb.cell (World.block_lt_of_cell? _ _ (hHeld.2.2.2.2.2.2.2.2.2.2.2.2.2.2.1))).trans (hHeld.2.2.2.2.2.2.2.2.2.2.2.2.2.2.1)
                      have HS15_ := (hb.cell (World.block_lt_of_cell? _ _ (hHeld.2.2.2.2.2.2.2.2.2.2.2.2.2.2.2.1))).trans (hHeld.2.2.2.2.2.2.2.2.2.2.2.2.2.2.2.1)
                      have HS16_ := (hb.cell (World.block_lt_of_cell? _ _ (hHeld.2.2.2.2.2.2.2.2.2.2.2.2.2.2.2.2.1))).trans (hHeld.2.2.2.2.2.2.2.2.2.2.2.2.2.2.2.2.1)
                      have HS17_ := (hb.cell (World.block_lt_of_cell? _ _ (hHeld.2.2.2.2.2.2.2.2.2.2.2.2.2.2.2.2.2.1))).trans (hHeld.2.2.2.2.2.2.2.2.2.2.2.2.2.2.2.2.2.1)
                      have HS18_ := (hb.cell (World.block_lt_of_cell? _ _ (hHeld.2.2.2.2.2.2.2.2.2.2.2.2.2.2.2.2.2.2.1))).trans (hHeld.2.2.2.2.2.2.2.2.2.2.2.2.2.2.2.2.2.2.1)
                      have HS21_ := (hb.cell (World.block_lt_of_cell? _ _ (hHeld.2.2.2.2.2.2.2.2.2.2.2.2.2.2.2.2.2.2.2.2.2.1))).trans (hHeld.2.2.2.2.2.2.2.2.2.2.2.2.2.2.2.2.2.2.2.2.2.1)
                      have HS22_ := (hb.cell (World.block_lt_of_cell? _ _ (hHeld.2.2.2.2.2.2.2.2.2.2.2.2.2.2.2.2.2.2.2.2.2.2.1))).trans (hHeld.2.2.2.2.2.2.2.2.2.2.2.2.2.2.2.2.2.2.2.2.2.2.1)
                      have HS23_ := (hb.cell (World.block_lt_of_cell? _ _ (hHeld.2.2.2.2.2.2.2.2.2.2.2.2.2.2.2.2.2.2.2.2.2.2.2.1))).trans (hHeld.2.2.2.2.2.2.2.2.2.2.2.2.2.2.2.2.2.2.2.2.2.2.2.1)
                      have HS24_ := (hb.cell (World.block_lt_of_cell? _ _ (hHeld.2.2.2.2.2.2.2.2.2.2.2.2.2.2.2.2.2.2.2.2.2.2.2.2.1))).trans (hHeld.2.2.2.2.2.2.2.2.2.2.2.2.2.2.2.2.2.2.2.2.2.2.2.2.1)
                      have HS25_ := (hb.cell (World.block_lt_of_cell? _ _ (hHeld.2.2.2.2.2.2.2.2.2.2.2.2.2.2.2.2.2.2.2.2.2.2.2.2.2))).trans (hHeld.2.2.2.2.2.2.2.2.2.2.2.2.2.2.2.2.2.2.2.2.2.2.2.2.2)
                      refine ⟨_, rfl, ?_⟩
                      have n0_ := Aside0.mk (Kd.R_below (by (with_reducible repeat (first | apply Kd.R_alloc | apply Kd.R_drewN | apply Kd.R_drew)); exact HO_3.out) hb); have n1_ := Aside0.mk (Kd.R_below (by (with_reducible repeat (first | apply Kd.R_alloc | apply Kd.R_drewN | apply Kd.R_drew)); exact HO_5.out) hb); have n2_ := Aside0.mk (Kd.R_below (by (with_reducible repeat (first | apply Kd.R_alloc | apply Kd.R_drewN | apply Kd.R_drew)); exact HO_7.out) hb); have n3_ := kb BK191 hb; have n4_ := kb BK213 hb; have n5_ := Aside0.mk (blk_below (g := gs) (o := .cells #[.int .i64 ((rd_T68 ((rd_T58 ((rd_T55 lr xi).f1) xj).f1) xk).f0), .int .i64 ((rd_T68 ((rd_T58 ((rd_T55 lr xi).f1) xj).f1) xk).f1), .int .i64 ((rd_T68 ((rd_T58 ((rd_T55 lr xi).f1) xj).f1) xk).f2)] 68 (0, 0)) (by (with_reducible repeat (first | refine blk_drewN ?_ _ | refine blk_drew ?_ | refine blk_alloc ?_ _)); exact BK215.out) hb); have n6_ := Aside0.mk (blk_below (g := gq) (o := .cells #[.int .u64 ((rd_T66 tf ((rd_T68 ((rd_T58 ((rd_T55 lr xi).f1) xj).f1) xk).f0)).f0.f0), .int .u64 ((rd_T66 tf ((rd_T68 ((rd_T58 ((rd_T55 lr xi).f1) xj).f1) xk).f0)).f0.f1), .int .u64 ((rd_T66 tf ((rd_T68 ((rd_T58 ((rd_T55 lr xi).f1) xj).f1) xk).f0)).f0.f2), .int .u64 ((rd_T66 tf ((rd_T68 ((rd_T58 ((rd_T55 lr xi).f1) xj).f1) xk).f0)).f0.f3), .bool ((rd_T66 tf ((rd_T68 ((rd_T58 ((rd_T55 lr xi).f1) xj).f1) xk).f0)).f1)] 66 (0, 0)) (by (with_reducible repeat (first | refine blk_drewN ?_ _ | refine blk_drew ?_ | refine blk_alloc ?_ _)); exact BK217.out) hb); have n7_ := ks HB hb; clear HO_3; clear HO_5; clear HO_7; clear BK191; clear BK213; clear BK215; clear BK217; clear HB; have HO_3 := n0_; have HO_5 := n1_; have HO_7 := n2_; have BK191 := n3_; have BK213 := n4_; have BK215 := n5_; have BK217 := n6_; have HB := n7_; clear n0_ n1_ n2_ n3_ n4_ n5_ n6_ n7_; (try clear hb)
                      refine hK.out _ _ ⟨(blk_cell BK217.out 0).trans rfl, (blk_cell BK217.out 1).trans rfl, (blk_cell BK217.out 2).trans rfl, (blk_cell BK217.out 3).trans rfl, (blk_cell BK217.out 4).trans rfl, (blk_cell BK213.out 0).trans rfl, (blk_cell BK213.out 1).trans rfl, (blk_cell BK213.out 2).trans rfl, (blk_cell BK213.out 3).trans rfl, (blk_cell BK191.out 0).trans rfl, (blk_cell BK191.out 1).trans rfl, (blk_cell BK191.out 2).trans rfl, ((HB.out.cell (World.block_lt_of_cell? w _ hw222_0)).trans hw222_0), ((HB.out.cell (World.block_lt_of_cell? w _ hw222_1)).trans hw222_1), HS14_, HS15_, HS16_, HS17_, HS18_, ((HB.out.cell (World.block_lt_of_cell? w _ hw228_0)).trans hw228_0), ((HB.out.cell (World.block_lt_of_cell? w _ hw228_1)).trans hw228_1), HS21_, HS22_, HS23_, HS24_, HS25_⟩ (fun hHeld => ?_)
                      clear hK K
                      refine norm_ (a' := ?_) ?_ ?_
                      rotate_left
                      ·show Act.put _ (some 161) _ = _
                       simp only [Act.put, s1, s2, s3, i64_w, i32_w]
                       rfl
                      refine pure_ (i := 25) (N := some 164) (v := ?_) (a' := ?_) (bs 45 67108863) rfl rfl (any_of HT_.out (by decide +kernel)) (fun _ _ _ h => h) (Or.inl ⟨by rfl, ?_⟩) ?_ ?_
                      rotate_left
                      ·intro w'
                       go_simp; with_reducible rfl
                      rotate_left
                      ·simp only [Act.put, s1, s2, s3, i64_w, i32_w]
                       rfl
                      refine pure_ (i := 26) (N := some 165) (v := ?_) (a' := ?_) (bs 45 134217727) rfl rfl (any_of HT_.out (by decide +kernel)) (fun _ _ _ h => h) (Or.inl ⟨by rfl, ?_⟩) ?_ ?_
                      rotate_left
                      ·intro w'
                       go_simp; with_reducible rfl
                      rotate_left
                      ·simp only [Act.put, s1, s2, s3, i64_w, i32_w]
                       rfl
                      refine pure_ (i := 27) (N := some 166) (v := ?_) (a' := ?_) (bs 45 268435455) rfl rfl (any_of HT_.out (by decide +kernel)) (fun _ _ _ h => h) (Or.inl ⟨by rfl, ?_⟩) ?_ ?_
                      rotate_left
                      ·intro w'
                       go_simp; with_reducible rfl
                      rotate_left
                      ·simp only [Act.put, s1, s2, s3, i64_w, i32_w]
                       rfl
                      refine pure_ (i := 28) (N := some 167) (v := ?_) (a' := ?_) (bs 45 536870911) rfl rfl (any_of HT_.out (by decide +kernel)) (fun _ _ _ h => h) (Or.inl ⟨by rfl, ?_⟩) ?_ ?_
                      rotate_left
                      ·intro w'
                       go_simp; with_reducible rfl
                      rotate_left
                      ·simp only [Act.put, s1, s2, s3, i64_w, i32_w]
                       rfl
                      refine pure_ (i := 30) (N := some 169) (v := ?_) (a' := ?_) (bs 45 1610612735) rfl rfl (any_of HT_.out (by decide +kernel)) (fun _ _ _ h => h) (Or.inl ⟨by rfl, ?_⟩) ?_ ?_
                      rotate_left
                      ·intro w'
                       go_simp; with_reducible rfl
                      rotate_left
                      ·simp only [Act.put, s1, s2, s3, i64_w, i32_w]
                       rfl
                      refine take_ (i := 29) (N := some 168) (v := ?_) (a' := ?_) (bs 45 2147483647) rfl rfl (take_ofW HT_.out HW_.out (by decide +kernel)) (fun _ _ _ h => h) (Or.inl ⟨by rfl, ?_⟩) hHeld ?_ ?_
                      rotate_left
                      ·rintro w' ⟨s0, s1, s2, s3, s4, s5, s6, s7, s8, s9, s10, s11, s12, s13, s14, s15, s16, s17, s18, s19, s20, s21, s22, s23, s24, s25⟩; go_simp; with_reducible rfl
                      rotate_left
                      ·simp only [Act.put, s1, s2, s3, i64_w, i32_w]
                       rfl
                      refine pure_ (i := 31) (N := some 170) (v := ?_) (a' := ?_) (bs 45 4294967295) rfl rfl (any_of HT_.out (by decide +kernel)) (fun _ _ _ h => h) (Or.inl ⟨by rfl, ?_⟩) ?_ ?_
                      rotate_left
                      ·intro w'
                       go_simp; with_reducible rfl
                      rotate_left
                      ·simp only [Act.put, s1, s2, s3, i64_w, i32_w]
                       rfl
                      refine pure_ (i := 32) (N := some 171) (v := ?_) (a' := ?_) (bs 45 8589934591) rfl rfl (any_of HT_.out (by decide +kernel)) (fun _ _ _ h => h) (Or.inl ⟨by rfl, ?_⟩) ?_ ?_
                      rotate_left
                      ·intro w'
                       go_simp; with_reducible rfl
                      rotate_left
                      ·simp only [Act.put, s1, s2, s3, i64_w, i32_w]
                       rfl
                      refine take_ (i := 33) (N := some 172) (v := ?_) (a' := ?_) (bs 45 17179869183) rfl rfl (take_ofW HT_.out HW_.out (by decide +kernel)) (fun _ _ _ h => h) (Or.inl ⟨by rfl, ?_⟩) hHeld ?_ ?_
                      rotate_left
                      ·rintro w' ⟨s0, s1, s2, s3, s4, s5, s6, s7, s8, s9, s10, s11, s12, s13, s14, s15, s16, s17, s18, s19, s20, s21, s22, s23, s24, s25⟩; go_simp; with_reducible rfl
                      rotate_left
                      ·simp only [Act.put, s1, s2, s3, i64_w, i32_w]
                       rfl
                      refine pure_ (i := 34) (N := some 173) (v := ?_) (a' := ?_) (bs 45 34359738367) rfl rfl (any_of HT_.out (by decide +kernel)) (fun _ _ _ h => h) (Or.inl ⟨by rfl, ?_⟩) ?_ ?_
                      rotate_left
                      ·intro w'
                       go_simp; with_reducible rfl
                      rotate_left
                      ·simp only [Act.put, s1, s2, s3, i64_w, i32_w]
                       rfl
                      refine pure_ (i := 35) (N := some 174) (v := ?_) (a' := ?_) (bs 45 68719476735) rfl rfl (any_of HT_.out (by decide +kernel)) (fun _ _ _ h => h) (Or.inl ⟨by rfl, ?_⟩) ?_ ?_
                      rotate_left
                      ·intro w'
                       go_simp; with_reducible rfl
                      rotate_left
                      ·simp only [Act.put, s1, s2, s3, i64_w, i32_w]
                       rfl
                      refine take_ (i := 36) (N := some 175) (v := ?_) (a' := ?_) (bs 45 137438953471) rfl rfl (take_ofW HT_.out HW_.out (by decide +kernel)) (fun _ _ _ h => h) (Or.inl ⟨by rfl, ?_⟩) hHeld ?_ ?_
                      rotate_left
                      ·rintro w' ⟨s0, s1, s2, s3, s4, s5, s6, s7, s8, s9, s10, s11, s12, s13, s14, s15, s16, s17, s18, s19, s20, s21, s22, s23, s24, s25⟩; go_simp; with_reducible rfl
                      rotate_left
                      ·simp only [Act.put, s1, s2, s3, i64_w, i32_w]
                       rfl
                      refine pure_ (i := 37) (N := some 176) (v := ?_) (a' := ?_) (bs 45 274877906943) rfl rfl (any_of HT_.out (by decide +kernel)) (fun _ _ _ h => h) (Or.inl ⟨by rfl, ?_⟩) ?_ ?_
                      rotate_left
                      ·intro w'
                       go_simp; with_reducible rfl
                      rotate_left
                      ·simp only [Act.put, s1, s2, s3, i64_w, i32_w]
                       rfl
                      refine pure_ (i := 38) (N := some 177) (v := ?_) (a' := ?_) (bs 45 549755813887) rfl rfl (any_of HT_.out (by decide +kernel)) (fun _ _ _ h => h) (Or.inl ⟨by rfl, ?_⟩) ?_ ?_
                      rotate_left
                      ·intro w'
                       go_simp; with_reducible rfl
                      rotate_left
                      ·simp only [Act.put, s1, s2, s3, i64_w, i32_w]
                       rfl
                      refine take_ (i := 39) (N := some 178) (v := ?_) (a' := ?_) (bs 45 1099511627775) rfl rfl (take_ofW HT_.out HW_.out (by decide +kernel)) (fun _ _ _ h => h) (Or.inl ⟨by rfl, ?_⟩) hHeld ?_ ?_
                      rotate_left
                      ·rintro w' ⟨s0, s1, s2, s3, s4, s5, s6, s7, s8, s9, s10, s11, s12, s13, s14, s15, s16, s17, s18, s19, s20, s21, s22, s23, s24, s25⟩; go_simp; with_reducible rfl
                      rotate_left
                      ·simp only [Act.put, s1, s2, s3, i64_w, i32_w]
                       rfl
                      refine pure_ (i := 40) (N := some 179) (v := ?_) (a' := ?_) (bs 45 2199023255551) rfl rfl (any_of HT_.out (by decide +kernel)) (fun _ _ _ h => h) (Or.inl ⟨by rfl, ?_⟩) ?_ ?_
                      rotate_left
                      ·intro w'
                       go_simp; with_reducible rfl
                      rotate_left
                      ·simp only [Act.put, s1, s2, s3, i64_w, i32_w]
                       rfl
                      refine pure_ (i := 41) (N := some 180) (v := ?_) (a' := ?_) (bs 45 4398046511103) rfl rfl (any_of HT_.out (by decide +kernel)) (fun _ _ _ h => h) (Or.inl ⟨by rfl, ?_⟩) ?_ ?_
                      rotate_left
                      ·intro w'
                       go_simp; with_reducible rfl
                      rotate_left
                      ·simp only [Act.put, s1, s2, s3, i64_w, i32_w]
                       rfl
                      refine pure_ (i := 42) (N := some 181) (v := ?_) (a' := ?_) (bs 45 8796093022207) rfl rfl (any_of HT_.out (by decide +kernel)) (fun _ _ _ h => h) (Or.inl ⟨by rfl, ?_⟩) ?_ ?_
                      rotate_left
                      ·intro w'
                       go_simp; with_reducible rfl
                      rotate_left
                      ·simp only [Act.put, s1, s2, s3, i64_w, i32_w]
                       rfl
                      refine pure_ (i := 43) (N := some 182) (v := ?_) (a' := ?_) (bs 45 17592186044415) rfl rfl (any_of HT_.out (by decide +kernel)) (fun _ _ _ h => h) (Or.inl ⟨by rfl, ?_⟩) ?_ ?_
                      rotate_left
                      ·intro w'
                       go_simp; with_reducible rfl
                      rotate_left
                      ·simp only [Act.put, s1, s2, s3, i64_w, i32_w]
                       rfl
                      refine pure_ (i := 44) (N := some 183) (v := ?_) (a' := ?_) (bs 45 35184372088831) rfl rfl (any_of HT_.out (by decide +kernel)) (fun _ _ _ h => h) (Or.inl ⟨by rfl, ?_⟩) ?_ ?_
                      rotate_left
                      ·intro w'
                       go_simp; with_reducible rfl
                      rotate_left
                      ·simp only [Act.put, s1, s2, s3, i64_w, i32_w]
                       rfl
                      refine done_ (done_of HT_.out (by decide +kernel)) ?_
                      try go_wp2
                      go_meet
                      case rel => exact ⟨_, (!((rd_T66 tf ((rd_T68 ((rd_T58 ((rd_T55 lr xi).f1) xj).f1) xk).f0)).f1)), (by first | rfl | (simp; done) | (simp [i64_w]; done) | (simp [*]; done) | (simp [*, i64_w]; done) | (simp [*]; unfold wrap64; omega)), H', ⟨by have := HJ6.out; have := HK2.out; have := HK3.out; have := HK4.out; first | omega | exact Nat.le_refl _⟩, ⟨by (with_reducible repeat (first | apply Kd.R_alloc | apply Kd.R_drewN | apply Kd.R_drew)); exact HO_3.out⟩, ⟨by (with_reducible repeat (first | apply Kd.R_alloc | apply Kd.R_drewN | apply Kd.R_drew)); exact HO_5.out⟩, ⟨by (with_reducible repeat (first | apply Kd.R_alloc | apply Kd.R_drewN | apply Kd.R_drew)); exact HO_7.out⟩, ⟨by (with_reducible repeat (first | refine blk_drewN ?_ _ | refine blk_drew ?_ | refine blk_alloc ?_ _)); exact BK191.out⟩, ⟨by (with_reducible repeat (first | refine blk_drewN ?_ _ | refine blk_drew ?_ | refine blk_alloc ?_ _)); exact BK213.out⟩, ⟨by (with_reducible repeat (first | refine blk_drewN ?_ _ | refine blk_drew ?_ | refine blk_alloc ?_ _)); exact BK215.out⟩, ⟨by (with_reducible repeat (first | refine blk_drewN ?_ _ | refine blk_drew ?_ | refine blk_alloc ?_ _)); exact BK217.out⟩, ⟨by repeat (first | (with_reducible first | exact HB.out | apply below_alloc | apply pw_below_drewN | apply below_drew1 | refine below_set ?_ GE191.out | refine below_set ?_ GE213.out | refine below_set ?_ GE215.out | refine below_set ?_ GE217.out) | exact HB.out)⟩⟩
                     ·as_aux_lemma =>
                      replace c78 := Bool.eq_false_iff.mpr c78
                      subst c78; have H1 := H
                      rw [if_neg (show ¬ (false = true) by decide)] at H1
                      clear H; have H := H1; clear H1; have H' := Aside0.mk H; clear H
                      try go_wp2
                      obtain ⟨w83, hw_⟩ : ∃ W_, W_ = (((((w59.setCell ⟨gq, 0, none⟩ (.int .u64 ((rd_T66 tf ((rd_T68 ((rd_T58 ((rd_T55 lr xi).f1) xj).f1) xk).f0)).f0.f0))).setCell ⟨gq, 1, none⟩ (.int .u64 ((rd_T66 tf ((rd_T68 ((rd_T58 ((rd_T55 lr xi).f1) xj).f1) xk).f0)).f0.f1))).setCell ⟨gq, 2, none⟩ (.int .u64 ((rd_T66 tf ((rd_T68 ((rd_T58 ((rd_T55 lr xi).f1) xj).f1) xk).f0)).f0.f2))).setCell ⟨gq, 3, none⟩ (.int .u64 ((rd_T66 tf ((rd_T68 ((rd_T58 ((rd_T55 lr xi).f1) xj).f1) xk).f0)).f0.f3))).setCell ⟨gq, 4, none⟩ (.bool ((rd_T66 tf ((rd_T68 ((rd_T58 ((rd_T55 lr xi).f1) xj).f1) xk).f0)).f1))) := ⟨_, rfl⟩
                      have n0_ : Aside0 (Kd.R Kd.bool 4 w83 w.heap.size (fun _ => True) (.slice Ao36 td.length co36) td) := ⟨Kd.R_mono (r5 hw_ (Kd.R_types HO_3.out BK217.out (by decide)) (fun _ hk => hk.2)) (fun _ hk => trivial)⟩
                      have n1_ : Aside0 (Kd.R k63 63 w83 w.heap.size (fun k_ => k_ ≠ gp) (.slice Ao37 te.length co37) te) := ⟨Kd.R_mono (r5 hw_ (Kd.R_types HO_5.out BK217.out (by decide)) (fun _ hk => hk.2)) (fun _ hk => hk.1)⟩
                      have n2_ : Aside0 (Kd.R k66 66 w83 w.heap.size (fun k_ => k_ ≠ gq) (.slice (some ad209) tf.length co38) tf) := ⟨Kd.R_mono (r5 hw_ (Kd.R_mono HO_7.out (fun k_ hk => (⟨hk, hk.2⟩ : _ ∧ k_ ≠ gq))) (fun _ hk => hk.2)) (fun _ hk => hk.1.2)⟩
                      have n3_ : Aside0 (w83.heap[gz]? = some (.cells #[.int .i64 aq, .slice A0_1 lq.length c0_1, .slice (some ad210) lr.length c0_2] 25 (0, 0))) := ⟨b5 hw_ BK191.out NB191_217.out⟩
                      have n4_ : Aside0 (w83.heap[gp]? = some (.cells #[.int .u64 ya, .int .u64 yb, .int .u64 yc, .int .u64 yd] 63 (0, 0))) := ⟨b5 hw_ BK213.out NB213_217.out⟩
                      have n5_ : Aside0 (w83.heap[gs]? = some (.cells #[.int .i64 ((rd_T68 ((rd_T58 ((rd_T55 lr xi).f1) xj).f1) xk).f0), .int .i64 ((rd_T68 ((rd_T58 ((rd_T55 lr xi).f1) xj).f1) xk).f1), .int .i64 ((rd_T68 ((rd_T58 ((rd_T55 lr xi).f1) xj).f1) xk).f2)] 68 (0, 0))) := ⟨b5 hw_ BK215.out NB215_217.out⟩
                      have n6_ : Aside0 (w83.heap[gq]? = some (.cells #[.int .u64 ((rd_T66 tf ((rd_T68 ((rd_T58 ((rd_T55 lr xi).f1) xj).f1) xk).f0)).f0.f0), .int .u64 ((rd_T66 tf ((rd_T68 ((rd_T58 ((rd_T55 lr xi).f1) xj).f1) xk).f0)).f0.f1), .int .u64 ((rd_T66 tf ((rd_T68 ((rd_T58 ((rd_T55 lr xi).f1) xj).f1) xk).f0)).f0.f2), .int .u64 ((rd_T66 tf ((rd_T68 ((rd_T58 ((rd_T55 lr xi).f1) xj).f1) xk).f0)).f0.f3), .bool ((rd_T66 tf ((rd_T68 ((rd_T58 ((rd_T55 lr xi).f1) xj).f1) xk).f0)).f1)] 66 (0, 0))) := ⟨p5 hw_ BK217.out⟩
                      have n7_ : Aside0 (Below w.heap.size w w83) := ⟨l5 hw_ HB.out GE217.out⟩
                      (try clear HO_3); (try clear HO_5); (try clear HO_7); (try clear BK191); (try clear BK213); (try clear BK215); (try clear BK217); (try clear HB)
                      rw [← hw_]; clear hw_
                      have HO_3 := n0_; have HO_5 := n1_; have HO_7 := n2_; have BK191 := n3_; have BK213 := n4_; have BK215 := n5_; have BK217 := n6_; have HB := n7_; clear n0_ n1_ n2_ n3_ n4_ n5_ n6_ n7_; have n0_ := Aside0.mk (Kd.R_drew HO_3.out); have n1_ := Aside0.mk (Kd.R_drew HO_5.out); have n2_ := Aside0.mk (Kd.R_drew HO_7.out); have n3_ := Aside0.mk (blk_drew BK191.out); have n4_ := Aside0.mk (blk_drew BK213.out); have n5_ := Aside0.mk (blk_drew BK215.out); have n6_ := Aside0.mk (blk_drew BK217.out); have n7_ := Aside0.mk (below_drew1 HB.out); clear HO_3; clear HO_5; clear HO_7; clear BK191; clear BK213; clear BK215; clear BK217; clear HB; have HO_3 := n0_; have HO_5 := n1_; have HO_7 := n2_; have BK191 := n3_; have BK213 := n4_; have BK215 := n5_; have BK217 := n6_; have HB := n7_; clear n0_ n1_ n2_ n3_ n4_ n5_ n6_ n7_
                      have p222 : 0 ≤ (xi : Int) := of_decide_eq_true (by first | (with_reducible assumption) | assumption)
                      have q222 : xi < (lr.length : Int) := of_decide_eq_true (by first | (with_reducible assumption) | assumption)
                      obtain ⟨ad222, A222_1, c222_1, e222, hx222_0, hx222_1, hl222_1, hi222_1⟩ := at_T55 HR0_2.out xi p222 q222; have hw222_1 := hx222_1; have hw222_0 := hx222_0; obtain rfl : ad210 = ad222 := (by injection e222)
                      replace hx222_0 := (HB.out.cell (World.block_lt_of_cell? w _ hx222_0)).trans hx222_0
                      replace hx222_1 := (HB.out.cell (World.block_lt_of_cell? w _ hx222_1)).trans hx222_1
                      have HR222_1 := Aside0.mk hi222_1; have HC222_1 := Aside0.mk hl222_1; clear hi222_1 hl222_1; replace p222 := eq_true p222; replace q222 := eq_true q222
                      have p223 : 0 ≤ (((rd_T55 lr xi).f0) : Int) := of_decide_eq_true (by first | (with_reducible assumption) | assumption)
                      have q223 : ((rd_T55 lr xi).f0) < (tf.length : Int) := of_decide_eq_true (by first | (with_reducible assumption) | assumption)
                      obtain ⟨ad223, e223, hx223_0, hx223_1, hx223_2, hx223_3, hx223_4⟩ := at_T66 (Kd.R_reads' HO_7.out).2.2 ((rd_T55 lr xi).f0) p223 q223
                      (try rw [← Nbq32.out] at hx223_4)
                      (try rw [← Nbq77.out] at hx223_4)
                      obtain rfl : ad209 = ad223 := (by injection e223); replace p223 := eq_true p223; replace q223 := eq_true q223
                      have p228 : 0 ≤ (xi : Int) := of_decide_eq_true (by first | (with_reducible assumption) | assumption)
                      have q228 : xi < (lr.length : Int) := of_decide_eq_true (by first | (with_reducible assumption) | assumption)
                      obtain ⟨ad228, A228_1, c228_1, e228, hx228_0, hx228_1, hl228_1, hi228_1⟩ := at_T55 HR0_2.out xi p228 q228; have hw228_1 := hx228_1; have hw228_0 := hx228_0; obtain rfl : ad210 = ad228 := (by injection e228)
                      replace hx228_0 := (HB.out.cell (World.block_lt_of_cell? w _ hx228_0)).trans hx228_0
                      replace hx228_1 := (HB.out.cell (World.block_lt_of_cell? w _ hx228_1)).trans hx228_1
                      have HR228_1 := Aside0.mk hi228_1; have HC228_1 := Aside0.mk hl228_1; clear hi228_1 hl228_1; replace p228 := eq_true p228; replace q228 := eq_true q228
                      have p229 : 0 ≤ (((rd_T55 lr xi).f0) : Int) := of_decide_eq_true (by first | (with_reducible assumption) | assumption)
                      have q229 : ((rd_T55 lr xi).f0) < (tf.length : Int) := of_decide_eq_true (by first | (with_reducible assumption) | assumption)
                      obtain ⟨ad229, e229, hx229_0, hx229_1, hx229_2, hx229_3, hx229_4⟩ := at_T66 (Kd.R_reads' HO_7.out).2.2 ((rd_T55 lr xi).f0) p229 q229
                      (try rw [← Nbq32.out] at hx229_4)
                      (try rw [← Nbq77.out] at hx229_4)
                      obtain rfl : ad209 = ad229 := (by injection e229); replace p229 := eq_true p229; replace q229 := eq_true q229
                      refine start_ (n := 45) (S := fun w' => w'.cell? ⟨gq, 0, none⟩ = some (.int .u64 ((rd_T66 tf ((rd_T68 ((rd_T58 ((rd_T55 lr xi).f1) xj).f1) xk).f0)).f0.f0)) ∧ w'.cell? ⟨gq, 1, none⟩ = some (.int .u64 ((rd_T66 tf ((rd_T68 ((rd_T58 ((rd_T55 lr xi).f1) xj).f1) xk).f0)).f0.f1)) ∧ w'.cell? ⟨gq, 2, none⟩ = some (.int .u64 ((rd_T66 tf ((rd_T68 ((rd_T58 ((rd_T55 lr xi).f1) xj).f1) xk).f0)).f0.f2)) ∧ w'.cell? ⟨gq, 3, none⟩ = some (.int .u64 ((rd_T66 tf ((rd_T68 ((rd_T58 ((rd_T55 lr xi).f1) xj).f1) xk).f0)).f0.f3)) ∧ w'.cell? ⟨gq, 4, none⟩ = some (.bool ((rd_T66 tf ((rd_T68 ((rd_T58 ((rd_T55 lr xi).f1) xj).f1) xk).f0)).f1)) ∧ w'.cell? ⟨gp, 0, none⟩ = some (.int .u64 ya) ∧ w'.cell? ⟨gp, 1, none⟩ = some (.int .u64 yb) ∧ w'.cell? ⟨gp, 2, none⟩ = some (.int .u64 yc) ∧ w'.cell? ⟨gp, 3, none⟩ = some (.int .u64 yd) ∧ w'.cell? ⟨gz, 0, none⟩ = some (.int .i64 aq) ∧ w'.cell? ⟨gz, 1, none⟩ = some (.slice A0_1 lq.length c0_1) ∧ w'.cell? ⟨gz, 2, none⟩ = some (.slice (some ad210) lr.length c0_2) ∧ w'.cell? (ad210.add ((xi).toNat * 2)) = some (.int .i64 ((rd_T55 lr xi).f0)) ∧ w'.cell? ⟨(ad210.add ((xi).toNat * 2)).block, (ad210.add ((xi).toNat * 2)).off + 1, none⟩ = some (.slice A222_1 ((rd_T55 lr xi).f1).length c222_1) ∧ w'.cell? (ad209.add ((((rd_T55 lr xi).f0)).toNat * 5)) = some (.int .u64 ((rd_T66 tf ((rd_T55 lr xi).f0)).f0.f0)) ∧ w'.cell? ⟨(ad209.add ((((rd_T55 lr xi).f0)).toNat * 5)).block, (ad209.add ((((rd_T55 lr xi).f0)).toNat * 5)).off + 1, none⟩ = some (.int .u64 ((rd_T66 tf ((rd_T55 lr xi).f0)).f0.f1)) ∧ w'.cell? ⟨(ad209.add ((((rd_T55 lr xi).f0)).toNat * 5)).block, (ad209.add ((((rd_T55 lr xi).f0)).toNat * 5)).off + 2, none⟩ = some (.int .u64 ((rd_T66 tf ((rd_T55 lr xi).f0)).f0.f2)) ∧ w'.cell? ⟨(ad209.add ((((rd_T55 lr xi).f0)).toNat * 5)).block, (ad209.add ((((rd_T55 lr xi).f0)).toNat * 5)).off + 3, none⟩ = some (.int .u64 ((rd_T66 tf ((rd_T55 lr xi).f0)).f0.f3)) ∧ w'.cell? ⟨(ad209.add ((((rd_T55 lr xi).f0)).toNat * 5)).block, (ad209.add ((((rd_T55 lr xi).f0)).toNat * 5)).off + 4, none⟩ = some (.bool false) ∧ w'.cell? (ad210.add ((xi).toNat * 2)) = some (.int .i64 ((rd_T55 lr xi).f0)) ∧ w'.cell? ⟨(ad210.add ((xi).toNat * 2)).block, (ad210.add ((xi).toNat * 2)).off + 1, none⟩ = some (.slice A228_1 ((rd_T55 lr xi).f1).length c228_1) ∧ w'.cell? (ad209.add ((((rd_T55 lr xi).f0)).toNat * 5)) = some (.int .u64 ((rd_T66 tf ((rd_T55 lr xi).f0)).f0.f0)) ∧ w'.cell? ⟨(ad209.add ((((rd_T55 lr xi).f0)).toNat * 5)).block, (ad209.add ((((rd_T55 lr xi).f0)).toNat * 5)).off + 1, none⟩ = some (.int .u64 ((rd_T66 tf ((rd_T55 lr xi).f0)).f0.f1)) ∧ w'.cell? ⟨(ad209.add ((((rd_T55 lr xi).f0)).toNat * 5)).block, (ad209.add ((((rd_T55 lr xi).f0)).toNat * 5)).off + 2, none⟩ = some (.int .u64 ((rd_T66 tf ((rd_T55 lr xi).f0)).f0.f2)) ∧ w'.cell? ⟨(ad209.add ((((rd_T55 lr xi).f0)).toNat * 5)).block, (ad209.add ((((rd_T55 lr xi).f0)).toNat * 5)).off + 3, none⟩ = some (.int .u64 ((rd_T66 tf ((rd_T55 lr xi).f0)).f0.f3)) ∧ w'.cell? ⟨(ad209.add ((((rd_T55 lr xi).f0)).toNat * 5)).block, (ad209.add ((((rd_T55 lr xi).f0)).toNat * 5)).off + 4, none⟩ = some (.bool false)) (ds := []) #[false, false, false, false, false, false, false, false, false, false, false, false, false, false, false, false, false, false, false, false, false, false, false, false, false, false, false, false, false, false, false, false, false, false, false, false, false, false, false, false, false, false, false, false, false] (by decide +kernel) rfl rfl ⟨(blk_cell BK217.out 0).trans rfl, (blk_cell BK217.out 1).trans rfl, (blk_cell BK217.out 2).trans rfl, (blk_cell BK217.out 3).trans rfl, (blk_cell BK217.out 4).trans rfl, (blk_cell BK213.out 0).trans rfl, (blk_cell BK213.out 1).trans rfl, (blk_cell BK213.out 2).trans rfl, (blk_cell BK213.out 3).trans rfl, (blk_cell BK191.out 0).trans rfl, (blk_cell BK191.out 1).trans rfl, (blk_cell BK191.out 2).trans rfl, ((HB.out.cell (World.block_lt_of_cell? w _ hw222_0)).trans hw222_0), ((HB.out.cell (World.block_lt_of_cell? w _ hw222_1)).trans hw222_1), hx223_0, hx223_1, hx223_2, hx223_3, hx223_4, ((HB.out.cell (World.block_lt_of_cell? w _ hw228_0)).trans hw228_0), ((HB.out.cell (World.block_lt_of_cell? w _ hw228_1)).trans hw228_1), hx229_0, hx229_1, hx229_2, hx229_3, hx229_4⟩ (fun hHeld => ?_); refine with_tabW templelaw12_FollowsHold.tab26 templelaw12_FollowsHold.bits26 (fun HT_ HW_ => ?_)
                      generalize w83.drew = w84 at HO_3 HO_5 HO_7 BK191 BK213 BK215 BK217 HB HR222_1 HR228_1 hx222_0 hx222_1 hx223_0 hx223_1 hx223_2 hx223_3 hx223_4 hx228_0 hx228_1 hx229_0 hx229_1 hx229_2 hx229_3 hx229_4 hHeld ⊢
                      refine pure_ (i := 0) (N := some 139) (v := ?_) (a' := ?_) (bs 45 1) rfl rfl (any_of HT_.out (by decide +kernel)) (fun _ _ _ h => h) (Or.inl ⟨by rfl, ?_⟩) ?_ ?_
                      rotate_left
                      ·intro w'
                       go_simp; with_reducible rfl
                      rotate_left
                      ·simp only [Act.put, s1, s2, s3, i64_w, i32_w]
                       rfl
                      refine pure_ (i := 4) (N := some 143) (v := ?_) (a' := ?_) (bs 45 17) rfl rfl (any_of HT_.out (by decide +kernel)) (fun _ _ _ h => h) (Or.inl ⟨by rfl, ?_⟩) ?_ ?_
                      rotate_left
                      ·intro w'
                       go_simp; with_reducible rfl
                      rotate_left
                      ·simp only [Act.put, s1, s2, s3, i64_w, i32_w]
                       rfl
                      refine take_ (i := 1) (N := some 140) (v := ?_) (a' := ?_) (bs 45 19) rfl rfl (take_ofW HT_.out HW_.out (by decide +kernel)) (fun _ _ _ h => h) (Or.inl ⟨by rfl, ?_⟩) hHeld ?_ ?_
                      rotate_left
                      ·rintro w' ⟨s0, s1, s2, s3, s4, s5, s6, s7, s8, s9, s10, s11, s12, s13, s14, s15, s16, s17, s18, s19, s20, s21, s22, s23, s24, s25⟩; go_simp; with_reducible rfl
                      rotate_left
                      ·simp only [Act.put, s1, s2, s3, i64_w, i32_w]
                       rfl
                      refine take_ (i := 2) (N := some 141) (v := ?_) (a' := ?_) (bs 45 23) rfl rfl (take_ofW HT_.out HW_.out (by decide +kernel)) (fun _ _ _ h => h) (Or.inl ⟨by rfl, ?_⟩) hHeld ?_ ?_
                      rotate_left
                      ·rintro w' ⟨s0, s1, s2, s3, s4, s5, s6, s7, s8, s9, s10, s11, s12, s13, s14, s15, s16, s17, s18, s19, s20, s21, s22, s23, s24, s25⟩; go_simp; with_reducible rfl
                      rotate_left
                      ·simp only [Act.put, s1, s2, s3, i64_w, i32_w]
                       rfl
                      refine take_ (i := 5) (N := some 144) (v := ?_) (a' := ?_) (bs 45 55) rfl rfl (take_ofW HT_.out HW_.out (by decide +kernel)) (fun _ _ _ h => h) (Or.inl ⟨by rfl, ?_⟩) hHeld ?_ ?_
                      rotate_left
                      ·rintro w' ⟨s0, s1, s2, s3, s4, s5, s6, s7, s8, s9, s10, s11, s12, s13, s14, s15, s16, s17, s18, s19, s20, s21, s22, s23, s24, s25⟩; go_simp; with_reducible rfl
                      rotate_left
                      ·simp only [Act.put, s1, s2, s3, i64_w, i32_w]
                       rfl
                      refine one_ (i := 3) (N := some 142) (bs 45 63) rfl rfl (one_of HT_.out (by decide +kernel)) (by decide) (fun K hK => ?_)
                      refine goes_ Try.func26 (by decide +kernel) rfl #[.int .i64 0, .agg #[.int .u64 ((rd_T66 tf ((rd_T68 ((rd_T58 ((rd_T55 lr xi).f1) xj).f1) xk).f0)).f0.f0), .int .u64 ((rd_T66 tf ((rd_T68 ((rd_T58 ((rd_T55 lr xi).f1) xj).f1) xk).f0)).f0.f1), .int .u64 ((rd_T66 tf ((rd_T68 ((rd_T58 ((rd_T55 lr xi).f1) xj).f1) xk).f0)).f0.f2), .int .u64 ((rd_T66 tf ((rd_T68 ((rd_T58 ((rd_T55 lr xi).f1) xj).f1) xk).f0)).f0.f3)], .agg #[.int .u64 ya, .int .u64 yb, .int .u64 yc, .int .u64 yd]] (by rfl) rfl rfl (by (try simp only [List.map_toArray, List.map_cons, List.map_nil]); first | done | rfl | (simp only [List.length_drop, List.length_take]; rfl)) ?_
                      with_reducible refine (templeref1_Mix.calls 0 ((rd_T66 tf ((rd_T68 ((rd_T58 ((rd_T55 lr xi).f1) xj).f1) xk).f0)).f0.f0) ((rd_T66 tf ((rd_T68 ((rd_T58 ((rd_T55 lr xi).f1) xj).f1) xk).f0)).f0.f1) ((rd_T66 tf ((rd_T68 ((rd_T58 ((rd_T55 lr xi).f1) xj).f1) xk).f0)).f0.f2) ((rd_T66 tf ((rd_T68 ((rd_T58 ((rd_T55 lr xi).f1) xj).f1) xk).f0)).f0.f3) ya yb yc yd t218 t219 t220 t221 _ A64.out).mono ?_
                      rintro e w85 ⟨rfl, hb⟩
                      have HS14_ := (hb.cell (World.block_lt_of_cell? _ _ (hHeld.2.2.2.2.2.2.2.2.2.2.2.2.2.2.1))).trans (hHeld.2.2.2.2.2.2.2.2.2.2.2.2.2.2.1)
                      have HS15_ := (hb.cell (World.block_lt_of_cell? _ _ (hHeld.2.2.2.2.2.2.2.2.2.2.2.2.2.2.2.1))).trans (hHeld.2.2.2.2.2.2.2.2.2.2.2.2.2.2.2.1)
                      have HS16_ := (hb.cell (World.block_lt_of_cell? _ _ (hHeld.2.2.2.2.2.2.2.2.2.2.2.2.2.2.2.2.1))).trans (hHeld.2.2.2.2.2.2.2.2.2.2.2.2.2.2.2.2.1)
                      have HS17_ := (hb.cell (World.block_lt_of_cell? _ _ (hHeld.2.2.2.2.2.2.2.2.2.2.2.2.2.2.2.2.2.1))).trans (hHeld.2.2.2.2.2.2.2.2.2.2.2.2.2.2.2.2.2.1)
                      have HS18_ := (hb.cell (World.block_lt_of_cell? _ _ (hHeld.2.2.2.2.2.2.2.2.2.2.2.2.2.2.2.2.2.2.1))).trans (hHeld.2.2.2.2.2.2.2.2.2.2.2.2.2.2.2.2.2.2.1)
                      have HS21_ := (hb.cell (World.block_lt_of_cell? _ _ (hHeld.2.2.2.2.2.2.2.2.2.2.2.2.2.2.2.2.2.2.2.2.2.1))).trans (hHeld.2.2.2.2.2.2.2.2.2.2.2.2.2.2.2.2.2.2.2.2.2.1)
                      have HS22_ := (hb.cell (World.block_lt_of_cell? _ _ (hHeld.2.2.2.2.2.2.2.2.2.2.2.2.2.2.2.2.2.2.2.2.2.2.1))).trans (hHeld.2.2.2.2.2.2.2.2.2.2.2.2.2.2.2.2.2.2.2.2.2.2.1)
                      have HS23_ := (hb.cell (World.block_lt_of_cell? _ _ (hHeld.2.2.2.2.2.2.2.2.2.2.2.2.2.2.2.2.2.2.2.2.2.2.2.1))).trans (hHeld.2.2.2.2.2.2.2.2.2.2.2.2.2.2.2.2.2.2.2.2.2.2.2.1)
                      have HS24_ := (hb.cell (World.block_lt_of_cell? _ _ (hHeld.2.2.2.2.2.2.2.2.2.2.2.2.2.2.2.2.2.2.2.2.2.2.2.2.1))).trans (hHeld.2.2.2.2.2.2.2.2.2.2.2.2.2.2.2.2.2.2.2.2.2.2.2.2.1)
                      have HS25_ := (hb.cell (World.block_lt_of_cell? _ _ (hHeld.2.2.2.2.2.2.2.2.2.2.2.2.2.2.2.2.2.2.2.2.2.2.2.2.2))).trans (hHeld.2.2.2.2.2.2.2.2.2.2.2.2.2.2.2.2.2.2.2.2.2.2.2.2.2)
                      refine ⟨_, rfl, ?_⟩
                      have n0_ := Aside0.mk (Kd.R_below (by (with_reducible repeat (first | apply Kd.R_alloc | apply Kd.R_drewN | apply Kd.R_drew)); exact HO_3.out) hb); have n1_ := Aside0.mk (Kd.R_below (by (with_reducible repeat (first | apply Kd.R_alloc | apply Kd.R_drewN | apply Kd.R_drew)); exact HO_5.out) hb); have n2_ := Aside0.mk (Kd.R_below (by (with_reducible repeat (first | apply Kd.R_alloc | apply Kd.R_drewN | apply Kd.R_drew)); exact HO_7.out) hb); have n3_ := kb BK191 hb; have n4_ := kb BK213 hb; have n5_ := Aside0.mk (blk_below (g := gs) (o := .cells #[.int .i64 ((rd_T68 ((rd_T58 ((rd_T55 lr xi).f1) xj).f1) xk).f0), .int .i64 ((rd_T68 ((rd_T58 ((rd_T55 lr xi).f1) xj).f1) xk).f1), .int .i64 ((rd_T68 ((rd_T58 ((rd_T55 lr xi).f1) xj).f1) xk).f2)] 68 (0, 0)) (by (with_reducible repeat (first | refine blk_drewN ?_ _ | refine blk_drew ?_ | refine blk_alloc ?_ _)); exact BK215.out) hb); have n6_ := Aside0.mk (blk_below (g := gq) (o := .cells #[.int .u64 ((rd_T66 tf ((rd_T68 ((rd_T58 ((rd_T55 lr xi).f1) xj).f1) xk).f0)).f0.f0), .int .u64 ((rd_T66 tf ((rd_T68 ((rd_T58 ((rd_T55 lr xi).f1) xj).f1) xk).f0)).f0.f1), .int .u64 ((rd_T66 tf ((rd_T68 ((rd_T58 ((rd_T55 lr xi).f1) xj).f1) xk).f0)).f0.f2), .int .u64 ((rd_T66 tf ((rd_T68 ((rd_T58 ((rd_T55 lr xi).f1) xj).f1) xk).f0)).f0.f3), .bool ((rd_T66 tf ((rd_T68 ((rd_T58 ((rd_T55 lr xi).f1) xj).f1) xk).f0)).f1)] 66 (0, 0)) (by (with_reducible repeat (first | refine blk_drewN ?_ _ | refine blk_drew ?_ | refine blk_alloc ?_ _)); exact BK217.out) hb); have n7_ := ks HB hb; clear HO_3; clear HO_5; clear HO_7; clear BK191; clear BK213; clear BK215; clear BK217; clear HB; have HO_3 := n0_; have HO_5 := n1_; have HO_7 := n2_; have BK191 := n3_; have BK213 := n4_; have BK215 := n5_; have BK217 := n6_; have HB := n7_; clear n0_ n1_ n2_ n3_ n4_ n5_ n6_ n7_; (try clear hb)
                      refine hK.out _ _ ⟨(blk_cell BK217.out 0).trans rfl, (blk_cell BK217.out 1).trans rfl, (blk_cell BK217.out 2).trans rfl, (blk_cell BK217.out 3).trans rfl, (blk_cell BK217.out 4).trans rfl, (blk_cell BK213.out 0).trans rfl, (blk_cell BK213.out 1).trans rfl, (blk_cell BK213.out 2).trans rfl, (blk_cell BK213.out 3).trans rfl, (blk_cell BK191.out 0).trans rfl, (blk_cell BK191.out 1).trans rfl, (blk_cell BK191.out 2).trans rfl, ((HB.out.cell (World.block_lt_of_cell? w _ hw222_0)).trans hw222_0), ((HB.out.cell (World.block_lt_of_cell? w _ hw222_1)).trans hw222_1), HS14_, HS15_, HS16_, HS17_, HS18_, ((HB.out.cell (World.block_lt_of_cell? w _ hw228_0)).trans hw228_0), ((HB.out.cell (World.block_lt_of_cell? w _ hw228_1)).trans hw228_1), HS21_, HS22_, HS23_, HS24_, HS25_⟩ (fun hHeld => ?_)
                      clear hK K
                      refine norm_ (a' := ?_) ?_ ?_
                      rotate_left
                      ·show Act.put _ (some 142) _ = _
                       simp only [Act.put, s1, s2, s3, i64_w, i32_w]
                       rfl
                      refine pure_ (i := 6) (N := some 145) (v := ?_) (a' := ?_) (bs 45 127) rfl rfl (any_of HT_.out (by decide +kernel)) (fun _ _ _ h => h) (Or.inl ⟨by rfl, ?_⟩) ?_ ?_
                      rotate_left
                      ·intro w'
                       go_simp; with_reducible rfl
                      rotate_left
                      ·simp only [Act.put, s1, s2, s3, i64_w, i32_w]
                       rfl
                      refine pure_ (i := 7) (N := some 146) (v := ?_) (a' := ?_) (bs 45 255) rfl rfl (any_of HT_.out (by decide +kernel)) (fun _ _ _ h => h) (Or.inl ⟨by rfl, ?_⟩) ?_ ?_
                      rotate_left
                      ·intro w'
                       go_simp; with_reducible rfl
                      rotate_left
                      ·simp only [Act.put, s1, s2, s3, i64_w, i32_w]
                       rfl
                      refine pure_ (i := 8) (N := some 147) (v := ?_) (a' := ?_) (bs 45 511) rfl rfl (any_of HT_.out (by decide +kernel)) (fun _ _ _ h => h) (Or.inl ⟨by rfl, ?_⟩) ?_ ?_
                      rotate_left
                      ·intro w'
                       go_simp; with_reducible rfl
                      rotate_left
                      ·simp only [Act.put, s1, s2, s3, i64_w, i32_w]
                       rfl
                      refine pure_ (i := 9) (N := some 148) (v := ?_) (a' := ?_) (bs 45 1023) rfl rfl (any_of HT_.out (by decide +kernel)) (fun _ _ _ h => h) (Or.inl ⟨by rfl, ?_⟩) ?_ ?_
                      rotate_left
                      ·intro w'
                       go_simp; with_reducible rfl
                      rotate_left
                      ·simp only [Act.put, s1, s2, s3, i64_w, i32_w]
                       rfl
                      refine pure_ (i := 10) (N := some 149) (v := ?_) (a' := ?_) (bs 45 2047) rfl rfl (any_of HT_.out (by decide +kernel)) (fun _ _ _ h => h) (Or.inl ⟨by rfl, ?_⟩) ?_ ?_
                      rotate_left
                      ·intro w'
                       go_simp; with_reducible rfl
                      rotate_left
                      ·simp only [Act.put, s1, s2, s3, i64_w, i32_w]
                       rfl
                      refine pure_ (i := 12) (N := some 151) (v := ?_) (a' := ?_) (bs 45 6143) rfl rfl (any_of HT_.out (by decide +kernel)) (fun _ _ _ h => h) (Or.inl ⟨by rfl, ?_⟩) ?_ ?_
                      rotate_left
                      ·intro w'
                       go_simp; with_reducible rfl
                      rotate_left
                      ·simp only [Act.put, s1, s2, s3, i64_w, i32_w]
                       rfl
                      refine pure_ (i := 13) (N := some 152) (v := ?_) (a' := ?_) (bs 45 14335) rfl rfl (any_of HT_.out (by decide +kernel)) (fun _ _ _ h => h) (Or.inl ⟨by rfl, ?_⟩) ?_ ?_
                      rotate_left
                      ·intro w'
                       go_simp; with_reducible rfl
                      rotate_left
                      ·simp only [Act.put, s1, s2, s3, i64_w, i32_w]
                       rfl
                      refine pure_ (i := 15) (N := some 154) (v := ?_) (a' := ?_) (bs 45 47103) rfl rfl (any_of HT_.out (by decide +kernel)) (fun _ _ _ h => h) (Or.inl ⟨by rfl, ?_⟩) ?_ ?_
                      rotate_left
                      ·intro w'
                       go_simp; with_reducible rfl
                      rotate_left
                      ·simp only [Act.put, s1, s2, s3, i64_w, i32_w]
                       rfl
                      refine pure_ (i := 23) (N := some 162) (v := ?_) (a' := ?_) (bs 45 8435711) rfl rfl (any_of HT_.out (by decide +kernel)) (fun _ _ _ h => h) (Or.inl ⟨by rfl, ?_⟩) ?_ ?_
                      rotate_left
                      ·intro w'
                       go_simp; with_reducible rfl
                      rotate_left
                      ·simp only [Act.put, s1, s2, s3, i64_w, i32_w]
                       rfl
                      refine take_ (i := 11) (N := some 150) (v := ?_) (a' := ?_) (bs 45 8437759) rfl rfl (take_ofW HT_.out HW_.out (by decide +kernel)) (fun _ _ _ h => h) (Or.inl ⟨by rfl, ?_⟩) hHeld ?_ ?_
                      rotate_left
                      ·rintro w' ⟨s0, s1, s2, s3, s4, s5, s6, s7, s8, s9, s10, s11, s12, s13, s14, s15, s16, s17, s18, s19, s20, s21, s22, s23, s24, s25⟩; go_simp; with_reducible rfl
                      rotate_left
                      ·simp only [Act.put, s1, s2, s3, i64_w, i32_w]
                       rfl
                      refine take_ (i := 14) (N := some 153) (v := ?_) (a' := ?_) (bs 45 8454143) rfl rfl (take_ofW HT_.out HW_.out (by decide +kernel)) (fun _ _ _ h => h) (Or.inl ⟨by rfl, ?_⟩) hHeld ?_ ?_
                      rotate_left
                      ·rintro w' ⟨s0, s1, s2, s3, s4, s5, s6, s7, s8, s9, s10, s11, s12, s13, s14, s15, s16, s17, s18, s19, s20, s21, s22, s23, s24, s25⟩; go_simp; with_reducible rfl
                      rotate_left
                      ·simp only [Act.put, s1, s2, s3, i64_w, i32_w]
                       rfl
                      refine pure_ (i := 16) (N := some 155) (v := ?_) (a' := ?_) (bs 45 8519679) rfl rfl (any_of HT_.out (by decide +kernel)) (fun _ _ _ h => h) (Or.inl ⟨by rfl, ?_⟩) ?_ ?_
                      rotate_left
                      ·intro w'
                       go_simp; with_reducible rfl
                      rotate_left
                      ·simp only [Act.put, s1, s2, s3, i64_w, i32_w]
                       rfl
                      refine pure_ (i := 17) (N := some 156) (v := ?_) (a' := ?_) (bs 45 8650751) rfl rfl (any_of HT_.out (by decide +kernel)) (fun _ _ _ h => h) (Or.inl ⟨by rfl, ?_⟩) ?_ ?_
                      rotate_left
                      ·intro w'
                       go_simp; with_reducible rfl
                      rotate_left
                      ·simp only [Act.put, s1, s2, s3, i64_w, i32_w]
                       rfl
                      refine take_ (i := 18) (N := some 157) (v := ?_) (a' := ?_) (bs 45 8912895) rfl rfl (take_ofW HT_.out HW_.out (by decide +kernel)) (fun _ _ _ h => h) (Or.inl ⟨by rfl, ?_⟩) hHeld ?_ ?_
                      rotate_left
                      ·rintro w' ⟨s0, s1, s2, s3, s4, s5, s6, s7, s8, s9, s10, s11, s12, s13, s14, s15, s16, s17, s18, s19, s20, s21, s22, s23, s24, s25⟩; go_simp; with_reducible rfl
                      rotate_left
                      ·simp only [Act.put, s1, s2, s3, i64_w, i32_w]
                       rfl
                      refine pure_ (i := 19) (N := some 158) (v := ?_) (a' := ?_) (bs 45 9437183) rfl rfl (any_of HT_.out (by decide +kernel)) (fun _ _ _ h => h) (Or.inl ⟨by rfl, ?_⟩) ?_ ?_
                      rotate_left
                      ·intro w'
                       go_simp; with_reducible rfl
                      rotate_left
                      ·simp only [Act.put, s1, s2, s3, i64_w, i32_w]
                       rfl
                      refine pure_ (i := 20) (N := some 159) (v := ?_) (a' := ?_) (bs 45 10485759) rfl rfl (any_of HT_.out (by decide +kernel)) (fun _ _ _ h => h) (Or.inl ⟨by rfl, ?_⟩) ?_ ?_
                      rotate_left
                      ·intro w'
                       go_simp; with_reducible rfl
                      rotate_left
                      ·simp only [Act.put, s1, s2, s3, i64_w, i32_w]
                       rfl
                      refine take_ (i := 21) (N := some 160) (v := ?_) (a' := ?_) (bs 45 12582911) rfl rfl (take_ofW HT_.out HW_.out (by decide +kernel)) (fun _ _ _ h => h) (Or.inl ⟨by rfl, ?_⟩) hHeld ?_ ?_
                      rotate_left
                      ·rintro w' ⟨s0, s1, s2, s3, s4, s5, s6, s7, s8, s9, s10, s11, s12, s13, s14, s15, s16, s17, s18, s19, s20, s21, s22, s23, s24, s25⟩; go_simp; with_reducible rfl
                      rotate_left
                      ·simp only [Act.put, s1, s2, s3, i64_w, i32_w]
                       rfl
                      refine take_ (i := 24) (N := some 163) (v := ?_) (a' := ?_) (bs 45 29360127) rfl rfl (take_ofW HT_.out HW_.out (by decide +kernel)) (fun _ _ _ h => h) (Or.inl ⟨by rfl, ?_⟩) hHeld ?_ ?_
                      rotate_left
                      ·rintro w' ⟨s0, s1, s2, s3, s4, s5, s6, s7, s8, s9, s10, s11, s12, s13, s14, s15, s16, s17, s18, s19, s20, s21, s22, s23, s24, s25⟩; go_simp; with_reducible rfl
                      rotate_left
                      ·simp only [Act.put, s1, s2, s3, i64_w, i32_w]
                       rfl
                      refine one_ (i := 22) (N := some 161) (bs 45 33554431) rfl rfl (one_of HT_.out (by decide +kernel)) (by decide) (fun K hK => ?_)
                      refine goes_ Try.func26 (by decide +kernel) rfl #[.int .i64 0, .agg #[.int .u64 ((rd_T66 tf ((rd_T68 ((rd_T58 ((rd_T55 lr xi).f1) xj).f1) xk).f0)).f0.f0), .int .u64 ((rd_T66 tf ((rd_T68 ((rd_T58 ((rd_T55 lr xi).f1) xj).f1) xk).f0)).f0.f1), .int .u64 ((rd_T66 tf ((rd_T68 ((rd_T58 ((rd_T55 lr xi).f1) xj).f1) xk).f0)).f0.f2), .int .u64 ((rd_T66 tf ((rd_T68 ((rd_T58 ((rd_T55 lr xi).f1) xj).f1) xk).f0)).f0.f3)], .agg #[.int .u64 ((rd_T66 tf ((rd_T55 lr xi).f0)).f0.f0), .int .u64 ((rd_T66 tf ((rd_T55 lr xi).f0)).f0.f1), .int .u64 ((rd_T66 tf ((rd_T55 lr xi).f0)).f0.f2), .int .u64 ((rd_T66 tf ((rd_T55 lr xi).f0)).f0.f3)]] (by rfl) rfl rfl (by (try simp only [List.map_toArray, List.map_cons, List.map_nil]); first | done | rfl | (simp only [List.length_drop, List.length_take]; rfl)) ?_
                      with_reducible refine (templeref1_Mix.calls 0 ((rd_T66 tf ((rd_T68 ((rd_T58 ((rd_T55 lr xi).f1) xj).f1) xk).f0)).f0.f0) ((rd_T66 tf ((rd_T68 ((rd_T58 ((rd_T55 lr xi).f1) xj).f1) xk).f0)).f0.f1) ((rd_T66 tf ((rd_T68 ((rd_T58 ((rd_T55 lr xi).f1) xj).f1) xk).f0)).f0.f2) ((rd_T66 tf ((rd_T68 ((rd_T58 ((rd_T55 lr xi).f1) xj).f1) xk).f0)).f0.f3) ((rd_T66 tf ((rd_T55 lr xi).f0)).f0.f0) ((rd_T66 tf ((rd_T55 lr xi).f0)).f0.f1) ((rd_T66 tf ((rd_T55 lr xi).f0)).f0.f2) ((rd_T66 tf ((rd_T55 lr xi).f0)).f0.f3) t224 t225 t226 t227 _ A71.out).mono ?_
                      rintro e w86 ⟨rfl, hb⟩
                      have HS14_ := (hb.cell (World.block_lt_of_cell? _ _ (hHeld.2.2.2.2.2.2.2.2.2.2.2.2.2.2.1))).trans (hHeld.2.2.2.2.2.2.2.2.2.2.2.2.2.2.1)
                      have HS15_ := (hb.cell (World.block_lt_of_cell? _ _ (hHeld.2.2.2.2.2.2.2.2.2.2.2.2.2.2.2.1))).trans (hHeld.2.2.2.2.2.2.2.2.2.2.2.2.2.2.2.1)
                      have HS16_ := (hb.cell (World.block_lt_of_cell? _ _ (hHeld.2.2.2.2.2.2.2.2.2.2.2.2.2.2.2.2.1))).trans (hHeld.2.2.2.2.2.2.2.2.2.2.2.2.2.2.2.2.1)
                      have HS17_ := (hb.cell (World.block_lt_of_cell? _ _ (hHeld.2.2.2.2.2.2.2.2.2.2.2.2.2.2.2.2.2.1))).trans (hHeld.2.2.2.2.2.2.2.2.2.2.2.2.2.2.2.2.2.1)
                      have HS18_ := (hb.cell (World.block_lt_of_cell? _ _ (hHeld.2.2.2.2.2.2.2.2.2.2.2.2.2.2.2.2.2.2.1))).trans (hHeld.2.2.2.2.2.2.2.2.2.2.2.2.2.2.2.2.2.2.1)
                      have HS21_ := (hb.cell (World.block_lt_of_cell? _ _ (hHeld.2.2.2.2.2.2.2.2.2.2.2.2.2.2.2.2.2.2.2.2.2.1))).trans (hHeld.2.2.2.2.2.2.2.2.2.2.2.2.2.2.2.2.2.2.2.2.2.1)
                      have HS22_ := (hb.cell (World.block_lt_of_cell? _ _ (hHeld.2.2.2.2.2.2.2.2.2.2.2.2.2.2.2.2.2.2.2.2.2.2.1))).trans (hHeld.2.2.2.2.2.2.2.2.2.2.2.2.2.2.2.2.2.2.2.2.2.2.1)
                      have HS23_ := (hb.cell (World.block_lt_of_cell? _ _ (hHeld.2.2.2.2.2.2.2.2.2.2.2.2.2.2.2.2.2.2.2.2.2.2.2.1))).trans (hHeld.2.2.2.2.2.2.2.2.2.2.2.2.2.2.2.2.2.2.2.2.2.2.2.1)
                      have HS24_ := (hb.cell (World.block_lt_of_cell? _ _ (hHeld.2.2.2.2.2.2.2.2.2.2.2.2.2.2.2.2.2.2.2.2.2.2.2.2.1))).trans (hHeld.2.2.2.2.2.2.2.2.2.2.2.2.2.2.2.2.2.2.2.2.2.2.2.2.1)
                      have HS25_ := (hb.cell (World.block_lt_of_cell? _ _ (hHeld.2.2.2.2.2.2.2.2.2.2.2.2.2.2.2.2.2.2.2.2.2.2.2.2.2))).trans (hHeld.2.2.2.2.2.2.2.2.2.2.2.2.2.2.2.2.2.2.2.2.2.2.2.2.2)
                      refine ⟨_, rfl, ?_⟩
                      have n0_ := Aside0.mk (Kd.R_below (by (with_reducible repeat (first | apply Kd.R_alloc | apply Kd.R_drewN | apply Kd.R_drew)); exact HO_3.out) hb); have n1_ := Aside0.mk (Kd.R_below (by (with_reducible repeat (first | apply Kd.R_alloc | apply Kd.R_drewN | apply Kd.R_drew)); exact HO_5.out) hb); have n2_ := Aside0.mk (Kd.R_below (by (with_reducible repeat (first | apply Kd.R_alloc | apply Kd.R_drewN | apply Kd.R_drew)); exact HO_7.out) hb); have n3_ := kb BK191 hb; have n4_ := kb BK213 hb; have n5_ := Aside0.mk (blk_below (g := gs) (o := .cells #[.int .i64 ((rd_T68 ((rd_T58 ((rd_T55 lr xi).f1) xj).f1) xk).f0), .int .i64 ((rd_T68 ((rd_T58 ((rd_T55 lr xi).f1) xj).f1) xk).f1), .int .i64 ((rd_T68 ((rd_T58 ((rd_T55 lr xi).f1) xj).f1) xk).f2)] 68 (0, 0)) (by (with_reducible repeat (first | refine blk_drewN ?_ _ | refine blk_drew ?_ | refine blk_alloc ?_ _)); exact BK215.out) hb); have n6_ := Aside0.mk (blk_below (g := gq) (o := .cells #[.int .u64 ((rd_T66 tf ((rd_T68 ((rd_T58 ((rd_T55 lr xi).f1) xj).f1) xk).f0)).f0.f0), .int .u64 ((rd_T66 tf ((rd_T68 ((rd_T58 ((rd_T55 lr xi).f1) xj).f1) xk).f0)).f0.f1), .int .u64 ((rd_T66 tf ((rd_T68 ((rd_T58 ((rd_T55 lr xi).f1) xj).f1) xk).f0)).f0.f2), .int .u64 ((rd_T66 tf ((rd_T68 ((rd_T58 ((rd_T55 lr xi).f1) xj).f1) xk).f0)).f0.f3), .bool ((rd_T66 tf ((rd_T68 ((rd_T58 ((rd_T55 lr xi).f1) xj).f1) xk).f0)).f1)] 66 (0, 0)) (by (with_reducible repeat (first | refine blk_drewN ?_ _ | refine blk_drew ?_ | refine blk_alloc ?_ _)); exact BK217.out) hb); have n7_ := ks HB hb; clear HO_3; clear HO_5; clear HO_7; clear BK191; clear BK213; clear BK215; clear BK217; clear HB; have HO_3 := n0_; have HO_5 := n1_; have HO_7 := n2_; have BK191 := n3_; have BK213 := n4_; have BK215 := n5_; have BK217 := n6_; have HB := n7_; clear n0_ n1_ n2_ n3_ n4_ n5_ n6_ n7_; (try clear hb)
                      refine hK.out _ _ ⟨(blk_cell BK217.out 0).trans rfl, (blk_cell BK217.out 1).trans rfl, (blk_cell BK217.out 2).trans rfl, (blk_cell BK217.out 3).trans rfl, (blk_cell BK217.out 4).trans rfl, (blk_cell BK213.out 0).trans rfl, (blk_cell BK213.out 1).trans rfl, (blk_cell BK213.out 2).trans rfl, (blk_cell BK213.out 3).trans rfl, (blk_cell BK191.out 0).trans rfl, (blk_cell BK191.out 1).trans rfl, (blk_cell BK191.out 2).trans rfl, ((HB.out.cell (World.block_lt_of_cell? w _ hw222_0)).trans hw222_0), ((HB.out.cell (World.block_lt_of_cell? w _ hw222_1)).trans hw222_1), HS14_, HS15_, HS16_, HS17_, HS18_, ((HB.out.cell (World.block_lt_of_cell? w _ hw228_0)).trans hw228_0), ((HB.out.cell (World.block_lt_of_cell? w _ hw228_1)).trans hw228_1), HS21_, HS22_, HS23_, HS24_, HS25_⟩ (fun hHeld => ?_)
                      clear hK K
                      refine norm_ (a' := ?_) ?_ ?_
                      rotate_left
                      ·show Act.put _ (some 161) _ = _
                       simp only [Act.put, s1, s2, s3, i64_w, i32_w]
                       rfl
                      refine pure_ (i := 25) (N := some 164) (v := ?_) (a' := ?_) (bs 45 67108863) rfl rfl (any_of HT_.out (by decide +kernel)) (fun _ _ _ h => h) (Or.inl ⟨by rfl, ?_⟩) ?_ ?_
                      rotate_left
                      ·intro w'
                       go_simp; with_reducible rfl
                      rotate_left
                      ·simp only [Act.put, s1, s2, s3, i64_w, i32_w]
                       rfl
                      refine pure_ (i := 26) (N := some 165) (v := ?_) (a' := ?_) (bs 45 134217727) rfl rfl (any_of HT_.out (by decide +kernel)) (fun _ _ _ h => h) (Or.inl ⟨by rfl, ?_⟩) ?_ ?_
                      rotate_left
                      ·intro w'
                       go_simp; with_reducible rfl
                      rotate_left
                      ·simp only [Act.put, s1, s2, s3, i64_w, i32_w]
                       rfl
                      refine pure_ (i := 27) (N := some 166) (v := ?_) (a' := ?_) (bs 45 268435455) rfl rfl (any_of HT_.out (by decide +kernel)) (fun _ _ _ h => h) (Or.inl ⟨by rfl, ?_⟩) ?_ ?_
                      rotate_left
                      ·intro w'
                       go_simp; with_reducible rfl
                      rotate_left
                      ·simp only [Act.put, s1, s2, s3, i64_w, i32_w]
                       rfl
                      refine pure_ (i := 28) (N := some 167) (v := ?_) (a' := ?_) (bs 45 536870911) rfl rfl (any_of HT_.out (by decide +kernel)) (fun _ _ _ h => h) (Or.inl ⟨by rfl, ?_⟩) ?_ ?_
                      rotate_left
                      ·intro w'
                       go_simp; with_reducible rfl
                      rotate_left
                      ·simp only [Act.put, s1, s2, s3, i64_w, i32_w]
                       rfl
                      refine pure_ (i := 30) (N := some 169) (v := ?_) (a' := ?_) (bs 45 1610612735) rfl rfl (any_of HT_.out (by decide +kernel)) (fun _ _ _ h => h) (Or.inl ⟨by rfl, ?_⟩) ?_ ?_
                      rotate_left
                      ·intro w'
                       go_simp; with_reducible rfl
                      rotate_left
                      ·simp only [Act.put, s1, s2, s3, i64_w, i32_w]
                       rfl
                      refine take_ (i := 29) (N := some 168) (v := ?_) (a' := ?_) (bs 45 2147483647) rfl rfl (take_ofW HT_.out HW_.out (by decide +kernel)) (fun _ _ _ h => h) (Or.inl ⟨by rfl, ?_⟩) hHeld ?_ ?_
                      rotate_left
                      ·rintro w' ⟨s0, s1, s2, s3, s4, s5, s6, s7, s8, s9, s10, s11, s12, s13, s14, s15, s16, s17, s18, s19, s20, s21, s22, s23, s24, s25⟩; go_simp; with_reducible rfl
                      rotate_left
                      ·simp only [Act.put, s1, s2, s3, i64_w, i32_w]
                       rfl
                      refine pure_ (i := 31) (N := some 170) (v := ?_) (a' := ?_) (bs 45 4294967295) rfl rfl (any_of HT_.out (by decide +kernel)) (fun _ _ _ h => h) (Or.inl ⟨by rfl, ?_⟩) ?_ ?_
                      rotate_left
                      ·intro w'
                       go_simp; with_reducible rfl
                      rotate_left
                      ·simp only [Act.put, s1, s2, s3, i64_w, i32_w]
                       rfl
                      refine pure_ (i := 32) (N := some 171) (v := ?_) (a' := ?_) (bs 45 8589934591) rfl rfl (any_of HT_.out (by decide +kernel)) (fun _ _ _ h => h) (Or.inl ⟨by rfl, ?_⟩) ?_ ?_
                      rotate_left
                      ·intro w'
                       go_simp; with_reducible rfl
                      rotate_left
                      ·simp only [Act.put, s1, s2, s3, i64_w, i32_w]
                       rfl
                      refine take_ (i := 33) (N := some 172) (v := ?_) (a' := ?_) (bs 45 17179869183) rfl rfl (take_ofW HT_.out HW_.out (by decide +kernel)) (fun _ _ _ h => h) (Or.inl ⟨by rfl, ?_⟩) hHeld ?_ ?_
                      rotate_left
                      ·rintro w' ⟨s0, s1, s2, s3, s4, s5, s6, s7, s8, s9, s10, s11, s12, s13, s14, s15, s16, s17, s18, s19, s20, s21, s22, s23, s24, s25⟩; go_simp; with_reducible rfl
                      rotate_left
                      ·simp only [Act.put, s1, s2, s3, i64_w, i32_w]
                       rfl
                      refine pure_ (i := 34) (N := some 173) (v := ?_) (a' := ?_) (bs 45 34359738367) rfl rfl (any_of HT_.out (by decide +kernel)) (fun _ _ _ h => h) (Or.inl ⟨by rfl, ?_⟩) ?_ ?_
                      rotate_left
                      ·intro w'
                       go_simp; with_reducible rfl
                      rotate_left
                      ·simp only [Act.put, s1, s2, s3, i64_w, i32_w]
                       rfl
                      refine pure_ (i := 35) (N := some 174) (v := ?_) (a' := ?_) (bs 45 68719476735) rfl rfl (any_of HT_.out (by decide +kernel)) (fun _ _ _ h => h) (Or.inl ⟨by rfl, ?_⟩) ?_ ?_
                      rotate_left
                      ·intro w'
                       go_simp; with_reducible rfl
                      rotate_left
                      ·simp only [Act.put, s1, s2, s3, i64_w, i32_w]
                       rfl
                      refine take_ (i := 36) (N := some 175) (v := ?_) (a' := ?_) (bs 45 137438953471) rfl rfl (take_ofW HT_.out HW_.out (by decide +kernel)) (fun _ _ _ h => h) (Or.inl ⟨by rfl, ?_⟩) hHeld ?_ ?_
                      rotate_left
                      ·rintro w' ⟨s0, s1, s2, s3, s4, s5, s6, s7, s8, s9, s10, s11, s12, s13, s14, s15, s16, s17, s18, s19, s20, s21, s22, s23, s24, s25⟩; go_simp; with_reducible rfl
                      rotate_left
                      ·simp only [Act.put, s1, s2, s3, i64_w, i32_w]
                       rfl
                      refine pure_ (i := 37) (N := some 176) (v := ?_) (a' := ?_) (bs 45 274877906943) rfl rfl (any_of HT_.out (by decide +kernel)) (fun _ _ _ h => h) (Or.inl ⟨by rfl, ?_⟩) ?_ ?_
                      rotate_left
                      ·intro w'
                       go_simp; with_reducible rfl
                      rotate_left
                      ·simp only [Act.put, s1, s2, s3, i64_w, i32_w]
                       rfl
                      refine pure_ (i := 38) (N := some 177) (v := undef) (a' := ?_) (bs 45 549755813887) rfl rfl (any_of HT_.out (by decide +kernel)) (fun _ _ _ h => h) (Or.inr ⟨by rfl, rfl⟩) ?_ ?_
                      rotate_left
                      ·simp only [Act.put, s1, s2, s3, i64_w, i32_w]
                       rfl
                      refine pure_ (i := 39) (N := some 178) (v := undef) (a' := ?_) (bs 45 1099511627775) rfl rfl (any_of HT_.out (by decide +kernel)) (fun _ _ _ h => h) (Or.inr ⟨by rfl, rfl⟩) ?_ ?_
                      rotate_left
                      ·simp only [Act.put, s1, s2, s3, i64_w, i32_w]
                       rfl
                      refine pure_ (i := 40) (N := some 179) (v := undef) (a' := ?_) (bs 45 2199023255551) rfl rfl (any_of HT_.out (by decide +kernel)) (fun _ _ _ h => h) (Or.inr ⟨by rfl, rfl⟩) ?_ ?_
                      rotate_left
                      ·simp only [Act.put, s1, s2, s3, i64_w, i32_w]
                       rfl
                      refine pure_ (i := 41) (N := some 180) (v := ?_) (a' := ?_) (bs 45 4398046511103) rfl rfl (any_of HT_.out (by decide +kernel)) (fun _ _ _ h => h) (Or.inl ⟨by rfl, ?_⟩) ?_ ?_
                      rotate_left
                      ·intro w'
                       go_simp; with_reducible rfl
                      rotate_left
                      ·simp only [Act.put, s1, s2, s3, i64_w, i32_w]
                       rfl
                      refine pure_ (i := 42) (N := some 181) (v := ?_) (a' := ?_) (bs 45 8796093022207) rfl rfl (any_of HT_.out (by decide +kernel)) (fun _ _ _ h => h) (Or.inl ⟨by rfl, ?_⟩) ?_ ?_
                      rotate_left
                      ·intro w'
                       go_simp; with_reducible rfl
                      rotate_left
                      ·simp only [Act.put, s1, s2, s3, i64_w, i32_w]
                       rfl
                      refine pure_ (i := 43) (N := some 182) (v := ?_) (a' := ?_) (bs 45 17592186044415) rfl rfl (any_of HT_.out (by decide +kernel)) (fun _ _ _ h => h) (Or.inl ⟨by rfl, ?_⟩) ?_ ?_
                      rotate_left
                      ·intro w'
                       go_simp; with_reducible rfl
                      rotate_left
                      ·simp only [Act.put, s1, s2, s3, i64_w, i32_w]
                       rfl
                      refine pure_ (i := 44) (N := some 183) (v := ?_) (a' := ?_) (bs 45 35184372088831) rfl rfl (any_of HT_.out (by decide +kernel)) (fun _ _ _ h => h) (Or.inl ⟨by rfl, ?_⟩) ?_ ?_
                      rotate_left
                      ·intro w'
                       go_simp; with_reducible rfl
                      rotate_left
                      ·simp only [Act.put, s1, s2, s3, i64_w, i32_w]
                       rfl
                      refine done_ (done_of HT_.out (by decide +kernel)) ?_
                      try go_wp2
                      go_meet
                      case rel => exact ⟨_, (false), (by first | rfl | (simp; done) | (simp [i64_w]; done) | (simp [*]; done) | (simp [*, i64_w]; done) | (simp [*]; unfold wrap64; omega)), H', ⟨by have := HJ6.out; have := HK2.out; have := HK3.out; have := HK4.out; first | omega | exact Nat.le_refl _⟩, ⟨by (with_reducible repeat (first | apply Kd.R_alloc | apply Kd.R_drewN | apply Kd.R_drew)); exact HO_3.out⟩, ⟨by (with_reducible repeat (first | apply Kd.R_alloc | apply Kd.R_drewN | apply Kd.R_drew)); exact HO_5.out⟩, ⟨by (with_reducible repeat (first | apply Kd.R_alloc | apply Kd.R_drewN | apply Kd.R_drew)); exact HO_7.out⟩, ⟨by (with_reducible repeat (first | refine blk_drewN ?_ _ | refine blk_drew ?_ | refine blk_alloc ?_ _)); exact BK191.out⟩, ⟨by (with_reducible repeat (first | refine blk_drewN ?_ _ | refine blk_drew ?_ | refine blk_alloc ?_ _)); exact BK213.out⟩, ⟨by (with_reducible repeat (first | refine blk_drewN ?_ _ | refine blk_drew ?_ | refine blk_alloc ?_ _)); exact BK215.out⟩, ⟨by (with_reducible repeat (first | refine blk_drewN ?_ _ | refine blk_drew ?_ | refine blk_alloc ?_ _)); exact BK217.out⟩, ⟨by repeat (first | (with_reducible first | exact HB.out | apply below_alloc | apply pw_below_drewN | apply below_drew1 | refine below_set ?_ GE191.out | refine below_set ?_ GE213.out | refine below_set ?_ GE215.out | refine below_set ?_ GE217.out) | exact HB.out)⟩⟩
                   ·as_aux_lemma =>
                    replace c66 := Bool.eq_false_iff.mpr c66
                    subst c66; have H1 := H
                    rw [if_neg (show ¬ (false = true) by decide)] at H1
                    clear H; have H := H1; clear H1; have H' := Aside0.mk H; clear H
                    try go_wp2
                    obtain ⟨w87, hw_⟩ : ∃ W_, W_ = (((((w59.setCell ⟨gq, 0, none⟩ (.int .u64 ((rd_T66 tf ((rd_T68 ((rd_T58 ((rd_T55 lr xi).f1) xj).f1) xk).f0)).f0.f0))).setCell ⟨gq, 1, none⟩ (.int .u64 ((rd_T66 tf ((rd_T68 ((rd_T58 ((rd_T55 lr xi).f1) xj).f1) xk).f0)).f0.f1))).setCell ⟨gq, 2, none⟩ (.int .u64 ((rd_T66 tf ((rd_T68 ((rd_T58 ((rd_T55 lr xi).f1) xj).f1) xk).f0)).f0.f2))).setCell ⟨gq, 3, none⟩ (.int .u64 ((rd_T66 tf ((rd_T68 ((rd_T58 ((rd_T55 lr xi).f1) xj).f1) xk).f0)).f0.f3))).setCell ⟨gq, 4, none⟩ (.bool ((rd_T66 tf ((rd_T68 ((rd_T58 ((rd_T55 lr xi).f1) xj).f1) xk).f0)).f1))) := ⟨_, rfl⟩
                    have n0_ : Aside0 (Kd.R Kd.bool 4 w87 w.heap.size (fun _ => True) (.slice Ao36 td.length co36) td) := ⟨Kd.R_mono (r5 hw_ (Kd.R_types HO_3.out BK217.out (by decide)) (fun _ hk => hk.2)) (fun _ hk => trivial)⟩
                    have n1_ : Aside0 (Kd.R k63 63 w87 w.heap.size (fun k_ => k_ ≠ gp) (.slice Ao37 te.length co37) te) := ⟨Kd.R_mono (r5 hw_ (Kd.R_types HO_5.out BK217.out (by decide)) (fun _ hk => hk.2)) (fun _ hk => hk.1)⟩
                    have n2_ : Aside0 (Kd.R k66 66 w87 w.heap.size (fun k_ => k_ ≠ gq) (.slice (some ad209) tf.length co38) tf) := ⟨Kd.R_mono (r5 hw_ (Kd.R_mono HO_7.out (fun k_ hk => (⟨hk, hk.2⟩ : _ ∧ k_ ≠ gq))) (fun _ hk => hk.2)) (fun _ hk => hk.1.2)⟩
                    have n3_ : Aside0 (w87.heap[gz]? = some (.cells #[.int .i64 aq, .slice A0_1 lq.length c0_1, .slice (some ad210) lr.length c0_2] 25 (0, 0))) := ⟨b5 hw_ BK191.out NB191_217.out⟩
                    have n4_ : Aside0 (w87.heap[gp]? = some (.cells #[.int .u64 ya, .int .u64 yb, .int .u64 yc, .int .u64 yd] 63 (0, 0))) := ⟨b5 hw_ BK213.out NB213_217.out⟩
                    have n5_ : Aside0 (w87.heap[gs]? = some (.cells #[.int .i64 ((rd_T68 ((rd_T58 ((rd_T55 lr xi).f1) xj).f1) xk).f0), .int .i64 ((rd_T68 ((rd_T58 ((rd_T55 lr xi).f1) xj).f1) xk).f1), .int .i64 ((rd_T68 ((rd_T58 ((rd_T55 lr xi).f1) xj).f1) xk).f2)] 68 (0, 0))) := ⟨b5 hw_ BK215.out NB215_217.out⟩
                    have n6_ : Aside0 (w87.heap[gq]? = some (.cells #[.int .u64 ((rd_T66 tf ((rd_T68 ((rd_T58 ((rd_T55 lr xi).f1) xj).f1) xk).f0)).f0.f0), .int .u64 ((rd_T66 tf ((rd_T68 ((rd_T58 ((rd_T55 lr xi).f1) xj).f1) xk).f0)).f0.f1), .int .u64 ((rd_T66 tf ((rd_T68 ((rd_T58 ((rd_T55 lr xi).f1) xj).f1) xk).f0)).f0.f2), .int .u64 ((rd_T66 tf ((rd_T68 ((rd_T58 ((rd_T55 lr xi).f1) xj).f1) xk).f0)).f0.f3), .bool ((rd_T66 tf ((rd_T68 ((rd_T58 ((rd_T55 lr xi).f1) xj).f1) xk).f0)).f1)] 66 (0, 0))) := ⟨p5 hw_ BK217.out⟩
                    have n7_ : Aside0 (Below w.heap.size w w87) := ⟨l5 hw_ HB.out GE217.out⟩
                    (try clear HO_3); (try clear HO_5); (try clear HO_7); (try clear BK191); (try clear BK213); (try clear BK215); (try clear BK217); (try clear HB)
                    rw [← hw_]; clear hw_
                    have HO_3 := n0_; have HO_5 := n1_; have HO_7 := n2_; have BK191 := n3_; have BK213 := n4_; have BK215 := n5_; have BK217 := n6_; have HB := n7_; clear n0_ n1_ n2_ n3_ n4_ n5_ n6_ n7_; have n0_ := Aside0.mk (Kd.R_drew HO_3.out); have n1_ := Aside0.mk (Kd.R_drew HO_5.out); have n2_ := Aside0.mk (Kd.R_drew HO_7.out); have n3_ := Aside0.mk (blk_drew BK191.out); have n4_ := Aside0.mk (blk_drew BK213.out); have n5_ := Aside0.mk (blk_drew BK215.out); have n6_ := Aside0.mk (blk_drew BK217.out); have n7_ := Aside0.mk (below_drew1 HB.out); clear HO_3; clear HO_5; clear HO_7; clear BK191; clear BK213; clear BK215; clear BK217; clear HB; have HO_3 := n0_; have HO_5 := n1_; have HO_7 := n2_; have BK191 := n3_; have BK213 := n4_; have BK215 := n5_; have BK217 := n6_; have HB := n7_; clear n0_ n1_ n2_ n3_ n4_ n5_ n6_ n7_
                    refine start_ (n := 45) (S := fun w' => w'.cell? ⟨gq, 0, none⟩ = some (.int .u64 ((rd_T66 tf ((rd_T68 ((rd_T58 ((rd_T55 lr xi).f1) xj).f1) xk).f0)).f0.f0)) ∧ w'.cell? ⟨gq, 1, none⟩ = some (.int .u64 ((rd_T66 tf ((rd_T68 ((rd_T58 ((rd_T55 lr xi).f1) xj).f1) xk).f0)).f0.f1)) ∧ w'.cell? ⟨gq, 2, none⟩ = some (.int .u64 ((rd_T66 tf ((rd_T68 ((rd_T58 ((rd_T55 lr xi).f1) xj).f1) xk).f0)).f0.f2)) ∧ w'.cell? ⟨gq, 3, none⟩ = some (.int .u64 ((rd_T66 tf ((rd_T68 ((rd_T58 ((rd_T55 lr xi).f1) xj).f1) xk).f0)).f0.f3)) ∧ w'.cell? ⟨gq, 4, none⟩ = some (.bool ((rd_T66 tf ((rd_T68 ((rd_T58 ((rd_T55 lr xi).f1) xj).f1) xk).f0)).f1)) ∧ w'.cell? ⟨gp, 0, none⟩ = some (.int .u64 ya) ∧ w'.cell? ⟨gp, 1, none⟩ = some (.int .u64 yb) ∧ w'.cell? ⟨gp, 2, none⟩ = some (.int .u64 yc) ∧ w'.cell? ⟨gp, 3, none⟩ = some (.int .u64 yd)) (ds := []) #[false, false, false, false, false, false, false, false, false, false, false, false, false, false, false, false, false, false, false, false, false, false, false, false, false, false, false, false, false, false, false, false, false, false, false, false, false, false, false, false, false, false, false, false, false] (by decide +kernel) rfl rfl ⟨(blk_cell BK217.out 0).trans rfl, (blk_cell BK217.out 1).trans rfl, (blk_cell BK217.out 2).trans rfl, (blk_cell BK217.out 3).trans rfl, (blk_cell BK217.out 4).trans rfl, (blk_cell BK213.out 0).trans rfl, (blk_cell BK213.out 1).trans rfl, (blk_cell BK213.out 2).trans rfl, (blk_cell BK213.out 3).trans rfl⟩ (fun hHeld => ?_); refine with_tabW templelaw12_FollowsHold.tab26 templelaw12_FollowsHold.bits26 (fun HT_ HW_ => ?_)
                    generalize w87.drew = w88 at HO_3 HO_5 HO_7 BK191 BK213 BK215 BK217 HB hHeld ⊢
                    refine pure_ (i := 0) (N := some 139) (v := ?_) (a' := ?_) (bs 45 1) rfl rfl (any_of HT_.out (by decide +kernel)) (fun _ _ _ h => h) (Or.inl ⟨by rfl, ?_⟩) ?_ ?_
                    rotate_left
                    ·intro w'
                     go_simp; with_reducible rfl
                    rotate_left
                    ·simp only [Act.put, s1, s2, s3, i64_w, i32_w]
                     rfl
                    refine pure_ (i := 4) (N := some 143) (v := ?_) (a' := ?_) (bs 45 17) rfl rfl (any_of HT_.out (by decide +kernel)) (fun _ _ _ h => h) (Or.inl ⟨by rfl, ?_⟩) ?_ ?_
                    rotate_left
                    ·intro w'
                     go_simp; with_reducible rfl
                    rotate_left
                    ·simp only [Act.put, s1, s2, s3, i64_w, i32_w]
                     rfl
                    refine take_ (i := 1) (N := some 140) (v := ?_) (a' := ?_) (bs 45 19) rfl rfl (take_ofW HT_.out HW_.out (by decide +kernel)) (fun _ _ _ h => h) (Or.inl ⟨by rfl, ?_⟩) hHeld ?_ ?_
                    rotate_left
                    ·rintro w' ⟨s0, s1, s2, s3, s4, s5, s6, s7, s8⟩; go_simp; with_reducible rfl
                    rotate_left
                    ·simp only [Act.put, s1, s2, s3, i64_w, i32_w]
                     rfl
                    refine take_ (i := 2) (N := some 141) (v := ?_) (a' := ?_) (bs 45 23) rfl rfl (take_ofW HT_.out HW_.out (by decide +kernel)) (fun _ _ _ h => h) (Or.inl ⟨by rfl, ?_⟩) hHeld ?_ ?_
                    rotate_left
                    ·rintro w' ⟨s0, s1, s2, s3, s4, s5, s6, s7, s8⟩; go_simp; with_reducible rfl
                    rotate_left
                    ·simp only [Act.put, s1, s2, s3, i64_w, i32_w]
                     rfl
                    refine take_ (i := 5) (N := some 144) (v := ?_) (a' := ?_) (bs 45 55) rfl rfl (take_ofW HT_.out HW_.out (by decide +kernel)) (fun _ _ _ h => h) (Or.inl ⟨by rfl, ?_⟩) hHeld ?_ ?_
                    rotate_left
                    ·rintro w' ⟨s0, s1, s2, s3, s4, s5, s6, s7, s8⟩; go_simp; with_reducible rfl
                    rotate_left
                    ·simp only [Act.put, s1, s2, s3, i64_w, i32_w]
                     rfl
                    refine one_ (i := 3) (N := some 142) (bs 45 63) rfl rfl (one_of HT_.out (by decide +kernel)) (by decide) (fun K hK => ?_)
                    refine goes_ Try.func26 (by decide +kernel) rfl #[.int .i64 0, .agg #[.int .u64 ((rd_T66 tf ((rd_T68 ((rd_T58 ((rd_T55 lr xi).f1) xj).f1) xk).f0)).f0.f0), .int .u64 ((rd_T66 tf ((rd_T68 ((rd_T58 ((rd_T55 lr xi).f1) xj).f1) xk).f0)).f0.f1), .int .u64 ((rd_T66 tf ((rd_T68 ((rd_T58 ((rd_T55 lr xi).f1) xj).f1) xk).f0)).f0.f2), .int .u64 ((rd_T66 tf ((rd_T68 ((rd_T58 ((rd_T55 lr xi).f1) xj).f1) xk).f0)).f0.f3)], .agg #[.int .u64 ya, .int .u64 yb, .int .u64 yc, .int .u64 yd]] (by rfl) rfl rfl (by (try simp only [List.map_toArray, List.map_cons, List.map_nil]); first | done | rfl | (simp only [List.length_drop, List.length_take]; rfl)) ?_
                    with_reducible refine (templeref1_Mix.calls 0 ((rd_T66 tf ((rd_T68 ((rd_T58 ((rd_T55 lr xi).f1) xj).f1) xk).f0)).f0.f0) ((rd_T66 tf ((rd_T68 ((rd_T58 ((rd_T55 lr xi).f1) xj).f1) xk).f0)).f0.f1) ((rd_T66 tf ((rd_T68 ((rd_T58 ((rd_T55 lr xi).f1) xj).f1) xk).f0)).f0.f2) ((rd_T66 tf ((rd_T68 ((rd_T58 ((rd_T55 lr xi).f1) xj).f1) xk).f0)).f0.f3) ya yb yc yd t218 t219 t220 t221 _ A64.out).mono ?_
                    rintro e w89 ⟨rfl, hb⟩
                    refine ⟨_, rfl, ?_⟩
                    have n0_ := Aside0.mk (Kd.R_below (by (with_reducible repeat (first | apply Kd.R_alloc | apply Kd.R_drewN | apply Kd.R_drew)); exact HO_3.out) hb); have n1_ := Aside0.mk (Kd.R_below (by (with_reducible repeat (first | apply Kd.R_alloc | apply Kd.R_drewN | apply Kd.R_drew)); exact HO_5.out) hb); have n2_ := Aside0.mk (Kd.R_below (by (with_reducible repeat (first | apply Kd.R_alloc | apply Kd.R_drewN | apply Kd.R_drew)); exact HO_7.out) hb); have n3_ := kb BK191 hb; have n4_ := kb BK213 hb; have n5_ := Aside0.mk (blk_below (g := gs) (o := .cells #[.int .i64 ((rd_T68 ((rd_T58 ((rd_T55 lr xi).f1) xj).f1) xk).f0), .int .i64 ((rd_T68 ((rd_T58 ((rd_T55 lr xi).f1) xj).f1) xk).f1), .int .i64 ((rd_T68 ((rd_T58 ((rd_T55 lr xi).f1) xj).f1) xk).f2)] 68 (0, 0)) (by (with_reducible repeat (first | refine blk_drewN ?_ _ | refine blk_drew ?_ | refine blk_alloc ?_ _)); exact BK215.out) hb); have n6_ := Aside0.mk (blk_below (g := gq) (o := .cells #[.int .u64 ((rd_T66 tf ((rd_T68 ((rd_T58 ((rd_T55 lr xi).f1) xj).f1) xk).f0)).f0.f0), .int .u64 ((rd_T66 tf ((rd_T68 ((rd_T58 ((rd_T55 lr xi).f1) xj).f1) xk).f0)).f0.f1), .int .u64 ((rd_T66 tf ((rd_T68 ((rd_T58 ((rd_T55 lr xi).f1) xj).f1) xk).f0)).f0.f2), .int .u64 ((rd_T66 tf ((rd_T68 ((rd_T58 ((rd_T55 lr xi).f1) xj).f1) xk).f0)).f0.f3), .bool ((rd_T66 tf ((rd_T68 ((rd_T58 ((rd_T55 lr xi).f1) xj).f1) xk).f0)).f1)] 66 (0, 0)) (by (with_reducible repeat (first | refine blk_drewN ?_ _ | refine blk_drew ?_ | refine blk_alloc ?_ _)); exact BK217.out) hb); have n7_ := ks HB hb; clear HO_3; clear HO_5; clear HO_7; clear BK191; clear BK213; clear BK215; clear BK217; clear HB; have HO_3 := n0_; have HO_5 := n1_; have HO_7 := n2_; have BK191 := n3_; have BK213 := n4_; have BK215 := n5_; have BK217 := n6_; have HB := n7_; clear n0_ n1_ n2_ n3_ n4_ n5_ n6_ n7_; (try clear hb)
                    refine hK.out _ _ ⟨(blk_cell BK217.out 0).trans rfl, (blk_cell BK217.out 1).trans rfl, (blk_cell BK217.out 2).trans rfl, (blk_cell BK217.out 3).trans rfl, (blk_cell BK217.out 4).trans rfl, (blk_cell BK213.out 0).trans rfl, (blk_cell BK213.out 1).trans rfl, (blk_cell BK213.out 2).trans rfl, (blk_cell BK213.out 3).trans rfl⟩ (fun hHeld => ?_)
                    clear hK K
                    refine norm_ (a' := ?_) ?_ ?_
                    rotate_left
                    ·show Act.put _ (some 142) _ = _
                     simp only [Act.put, s1, s2, s3, i64_w, i32_w]
                     rfl
                    refine pure_ (i := 6) (N := some 145) (v := ?_) (a' := ?_) (bs 45 127) rfl rfl (any_of HT_.out (by decide +kernel)) (fun _ _ _ h => h) (Or.inl ⟨by rfl, ?_⟩) ?_ ?_
                    rotate_left
                    ·intro w'
                     go_simp; with_reducible rfl
                    rotate_left
                    ·simp only [Act.put, s1, s2, s3, i64_w, i32_w]
                     rfl
                    refine pure_ (i := 7) (N := some 146) (v := ?_) (a' := ?_) (bs 45 255) rfl rfl (any_of HT_.out (by decide +kernel)) (fun _ _ _ h => h) (Or.inl ⟨by rfl, ?_⟩) ?_ ?_
                    rotate_left
                    ·intro w'
                     go_simp; with_reducible rfl
                    rotate_left
                    ·simp only [Act.put, s1, s2, s3, i64_w, i32_w]
                     rfl
                    refine pure_ (i := 8) (N := some 147) (v := ?_) (a' := ?_) (bs 45 511) rfl rfl (any_of HT_.out (by decide +kernel)) (fun _ _ _ h => h) (Or.inl ⟨by rfl, ?_⟩) ?_ ?_
                    rotate_left
                    ·intro w'
                     go_simp; with_reducible rfl
                    rotate_left
                    ·simp only [Act.put, s1, s2, s3, i64_w, i32_w]
                     rfl
                    refine pure_ (i := 9) (N := some 148) (v := ?_) (a' := ?_) (bs 45 1023) rfl rfl (any_of HT_.out (by decide +kernel)) (fun _ _ _ h => h) (Or.inl ⟨by rfl, ?_⟩) ?_ ?_
                    rotate_left
                    ·intro w'
                     go_simp; with_reducible rfl
                    rotate_left
                    ·simp only [Act.put, s1, s2, s3, i64_w, i32_w]
                     rfl
                    refine pure_ (i := 10) (N := some 149) (v := undef) (a' := ?_) (bs 45 2047) rfl rfl (any_of HT_.out (by decide +kernel)) (fun _ _ _ h => h) (Or.inr ⟨by rfl, rfl⟩) ?_ ?_
                    rotate_left
                    ·simp only [Act.put, s1, s2, s3, i64_w, i32_w]
                     rfl
                    refine pure_ (i := 11) (N := some 150) (v := undef) (a' := ?_) (bs 45 4095) rfl rfl (any_of HT_.out (by decide +kernel)) (fun _ _ _ h => h) (Or.inr ⟨by rfl, rfl⟩) ?_ ?_
                    rotate_left
                    ·simp only [Act.put, s1, s2, s3, i64_w, i32_w]
                     rfl
                    refine pure_ (i := 12) (N := some 151) (v := undef) (a' := ?_) (bs 45 8191) rfl rfl (any_of HT_.out (by decide +kernel)) (fun _ _ _ h => h) (Or.inr ⟨by rfl, rfl⟩) ?_ ?_
                    rotate_left
                    ·simp only [Act.put, s1, s2, s3, i64_w, i32_w]
                     rfl
                    refine pure_ (i := 13) (N := some 152) (v := undef) (a' := ?_) (bs 45 16383) rfl rfl (any_of HT_.out (by decide +kernel)) (fun _ _ _ h => h) (Or.inr ⟨by rfl, rfl⟩) ?_ ?_
                    rotate_left
                    ·simp only [Act.put, s1, s2, s3, i64_w, i32_w]
                     rfl
                    refine pure_ (i := 14) (N := some 153) (v := undef) (a' := ?_) (bs 45 32767) rfl rfl (any_of HT_.out (by decide +kernel)) (fun _ _ _ h => h) (Or.inr ⟨by rfl, rfl⟩) ?_ ?_
                    rotate_left
                    ·simp only [Act.put, s1, s2, s3, i64_w, i32_w]
                     rfl
                    refine pure_ (i := 15) (N := some 154) (v := undef) (a' := ?_) (bs 45 65535) rfl rfl (any_of HT_.out (by decide +kernel)) (fun _ _ _ h => h) (Or.inr ⟨by rfl, rfl⟩) ?_ ?_
                    rotate_left
                    ·simp only [Act.put, s1, s2, s3, i64_w, i32_w]
                     rfl
                    refine pure_ (i := 16) (N := some 155) (v := undef) (a' := ?_) (bs 45 131071) rfl rfl (any_of HT_.out (by decide +kernel)) (fun _ _ _ h => h) (Or.inr ⟨by rfl, rfl⟩) ?_ ?_
                    rotate_left
                    ·simp only [Act.put, s1, s2, s3, i64_w, i32_w]
                     rfl
                    refine pure_ (i := 17) (N := some 156) (v := undef) (a' := ?_) (bs 45 262143) rfl rfl (any_of HT_.out (by decide +kernel)) (fun _ _ _ h => h) (Or.inr ⟨by rfl, rfl⟩) ?_ ?_
                    rotate_left
                    ·simp only [Act.put, s1, s2, s3, i64_w, i32_w]
                     rfl
                    refine pure_ (i := 18) (N := some 157) (v := undef) (a' := ?_) (bs 45 524287) rfl rfl (any_of HT_.out (by decide +kernel)) (fun _ _ _ h => h) (Or.inr ⟨by rfl, rfl⟩) ?_ ?_
                    rotate_left
                    ·simp only [Act.put, s1, s2, s3, i64_w, i32_w]
                     rfl
                    refine pure_ (i := 19) (N := some 158) (v := undef) (a' := ?_) (bs 45 1048575) rfl rfl (any_of HT_.out (by decide +kernel)) (fun _ _ _ h => h) (Or.inr ⟨by rfl, rfl⟩) ?_ ?_
                    rotate_left
                    ·simp only [Act.put, s1, s2, s3, i64_w, i32_w]
                     rfl
                    refine pure_ (i := 20) (N := some 159) (v := undef) (a' := ?_) (bs 45 2097151) rfl rfl (any_of HT_.out (by decide +kernel)) (fun _ _ _ h => h) (Or.inr ⟨by rfl, rfl⟩) ?_ ?_
                    rotate_left
                    ·simp only [Act.put, s1, s2, s3, i64_w, i32_w]
                     rfl
                    refine pure_ (i := 21) (N := some 160) (v := undef) (a' := ?_) (bs 45 4194303) rfl rfl (any_of HT_.out (by decide +kernel)) (fun _ _ _ h => h) (Or.inr ⟨by rfl, rfl⟩) ?_ ?_
                    rotate_left
                    ·simp only [Act.put, s1, s2, s3, i64_w, i32_w]
                     rfl
                    refine pure_ (i := 22) (N := some 161) (v := undef) (a' := ?_) (bs 45 8388607) rfl rfl (any_of HT_.out (by decide +kernel)) (fun _ _ _ h => h) (Or.inr ⟨by rfl, rfl⟩) ?_ ?_
                    rotate_left
                    ·simp only [Act.put, s1, s2, s3, i64_w, i32_w]
                     rfl
                    refine pure_ (i := 23) (N := some 162) (v := undef) (a' := ?_) (bs 45 16777215) rfl rfl (any_of HT_.out (by decide +kernel)) (fun _ _ _ h => h) (Or.inr ⟨by rfl, rfl⟩) ?_ ?_
                    rotate_left
                    ·simp only [Act.put, s1, s2, s3, i64_w, i32_w]
                     rfl
                    refine pure_ (i := 24) (N := some 163) (v := undef) (a' := ?_) (bs 45 33554431) rfl rfl (any_of HT_.out (by decide +kernel)) (fun _ _ _ h => h) (Or.inr ⟨by rfl, rfl⟩) ?_ ?_
                    rotate_left
                    ·simp only [Act.put, s1, s2, s3, i64_w, i32_w]
                     rfl
                    refine pure_ (i := 25) (N := some 164) (v := undef) (a' := ?_) (bs 45 67108863) rfl rfl (any_of HT_.out (by decide +kernel)) (fun _ _ _ h => h) (Or.inr ⟨by rfl, rfl⟩) ?_ ?_
                    rotate_left
                    ·simp only [Act.put, s1, s2, s3, i64_w, i32_w]
                     rfl
                    refine pure_ (i := 26) (N := some 165) (v := undef) (a' := ?_) (bs 45 134217727) rfl rfl (any_of HT_.out (by decide +kernel)) (fun _ _ _ h => h) (Or.inr ⟨by rfl, rfl⟩) ?_ ?_
                    rotate_left
                    ·simp only [Act.put, s1, s2, s3, i64_w, i32_w]
                     rfl
                    refine pure_ (i := 27) (N := some 166) (v := undef) (a' := ?_) (bs 45 268435455) rfl rfl (any_of HT_.out (by decide +kernel)) (fun _ _ _ h => h) (Or.inr ⟨by rfl, rfl⟩) ?_ ?_
                    rotate_left
                    ·simp only [Act.put, s1, s2, s3, i64_w, i32_w]
                     rfl
                    refine pure_ (i := 28) (N := some 167) (v := undef) (a' := ?_) (bs 45 536870911) rfl rfl (any_of HT_.out (by decide +kernel)) (fun _ _ _ h => h) (Or.inr ⟨by rfl, rfl⟩) ?_ ?_
                    rotate_left
                    ·simp only [Act.put, s1, s2, s3, i64_w, i32_w]
                     rfl
                    refine pure_ (i := 29) (N := some 168) (v := undef) (a' := ?_) (bs 45 1073741823) rfl rfl (any_of HT_.out (by decide +kernel)) (fun _ _ _ h => h) (Or.inr ⟨by rfl, rfl⟩) ?_ ?_
                    rotate_left
                    ·simp only [Act.put, s1, s2, s3, i64_w, i32_w]
                     rfl
                    refine pure_ (i := 30) (N := some 169) (v := undef) (a' := ?_) (bs 45 2147483647) rfl rfl (any_of HT_.out (by decide +kernel)) (fun _ _ _ h => h) (Or.inr ⟨by rfl, rfl⟩) ?_ ?_
                    rotate_left
                    ·simp only [Act.put, s1, s2, s3, i64_w, i32_w]
                     rfl
                    refine pure_ (i := 31) (N := some 170) (v := undef) (a' := ?_) (bs 45 4294967295) rfl rfl (any_of HT_.out (by decide +kernel)) (fun _ _ _ h => h) (Or.inr ⟨by rfl, rfl⟩) ?_ ?_
                    rotate_left
                    ·simp only [Act.put, s1, s2, s3, i64_w, i32_w]
                     rfl
                    refine pure_ (i := 32) (N := some 171) (v := undef) (a' := ?_) (bs 45 8589934591) rfl rfl (any_of HT_.out (by decide +kernel)) (fun _ _ _ h => h) (Or.inr ⟨by rfl, rfl⟩) ?_ ?_
                    rotate_left
                    ·simp only [Act.put, s1, s2, s3, i64_w, i32_w]
                     rfl
                    refine pure_ (i := 33) (N := some 172) (v := undef) (a' := ?_) (bs 45 17179869183) rfl rfl (any_of HT_.out (by decide +kernel)) (fun _ _ _ h => h) (Or.inr ⟨by rfl, rfl⟩) ?_ ?_
                    rotate_left
                    ·simp only [Act.put, s1, s2, s3, i64_w, i32_w]
                     rfl
                    refine pure_ (i := 34) (N := some 173) (v := undef) (a' := ?_) (bs 45 34359738367) rfl rfl (any_of HT_.out (by decide +kernel)) (fun _ _ _ h => h) (Or.inr ⟨by rfl, rfl⟩) ?_ ?_
                    rotate_left
                    ·simp only [Act.put, s1, s2, s3, i64_w, i32_w]
                     rfl
                    refine pure_ (i := 35) (N := some 174) (v := undef) (a' := ?_) (bs 45 68719476735) rfl rfl (any_of HT_.out (by decide +kernel)) (fun _ _ _ h => h) (Or.inr ⟨by rfl, rfl⟩) ?_ ?_
                    rotate_left
                    ·simp only [Act.put, s1, s2, s3, i64_w, i32_w]
                     rfl
                    refine pure_ (i := 36) (N := some 175) (v := undef) (a' := ?_) (bs 45 137438953471) rfl rfl (any_of HT_.out (by decide +kernel)) (fun _ _ _ h => h) (Or.inr ⟨by rfl, rfl⟩) ?_ ?_
                    rotate_left
                    ·simp only [Act.put, s1, s2, s3, i64_w, i32_w]
                     rfl
                    refine pure_ (i := 37) (N := some 176) (v := undef) (a' := ?_) (bs 45 274877906943) rfl rfl (any_of HT_.out (by decide +kernel)) (fun _ _ _ h => h) (Or.inr ⟨by rfl, rfl⟩) ?_ ?_
                    rotate_left
                    ·simp only [Act.put, s1, s2, s3, i64_w, i32_w]
                     rfl
                    refine pure_ (i := 38) (N := some 177) (v := undef) (a' := ?_) (bs 45 549755813887) rfl rfl (any_of HT_.out (by decide +kernel)) (fun _ _ _ h => h) (Or.inr ⟨by rfl, rfl⟩) ?_ ?_
                    rotate_left
                    ·simp only [Act.put, s1, s2, s3, i64_w, i32_w]
                     rfl
                    refine pure_ (i := 39) (N := some 178) (v := undef) (a' := ?_) (bs 45 1099511627775) rfl rfl (any_of HT_.out (by decide +kernel)) (fun _ _ _ h => h) (Or.inr ⟨by rfl, rfl⟩) ?_ ?_
                    rotate_left
                    ·simp only [Act.put, s1, s2, s3, i64_w, i32_w]
                     rfl
                    refine pure_ (i := 40) (N := some 179) (v := undef) (a' := ?_) (bs 45 2199023255551) rfl rfl (any_of HT_.out (by decide +kernel)) (fun _ _ _ h => h) (Or.inr ⟨by rfl, rfl⟩) ?_ ?_
                    rotate_left
                    ·simp only [Act.put, s1, s2, s3, i64_w, i32_w]
                     rfl
                    refine pure_ (i := 41) (N := some 180) (v := undef) (a' := ?_) (bs 45 4398046511103) rfl rfl (any_of HT_.out (by decide +kernel)) (fun _ _ _ h => h) (Or.inr ⟨by rfl, rfl⟩) ?_ ?_
                    rotate_left
                    ·simp only [Act.put, s1, s2, s3, i64_w, i32_w]
                     rfl
                    refine pure_ (i := 42) (N := some 181) (v := undef) (a' := ?_) (bs 45 8796093022207) rfl rfl (any_of HT_.out (by decide +kernel)) (fun _ _ _ h => h) (Or.inr ⟨by rfl, rfl⟩) ?_ ?_
                    rotate_left
                    ·simp only [Act.put, s1, s2, s3, i64_w, i32_w]
                     rfl
                    refine pure_ (i := 43) (N := some 182) (v := ?_) (a' := ?_) (bs 45 17592186044415) rfl rfl (any_of HT_.out (by decide +kernel)) (fun _ _ _ h => h) (Or.inl ⟨by rfl, ?_⟩) ?_ ?_
                    rotate_left
                    ·intro w'
                     go_simp; with_reducible rfl
                    rotate_left
                    ·simp only [Act.put, s1, s2, s3, i64_w, i32_w]
                     rfl
                    refine pure_ (i := 44) (N := some 183) (v := ?_) (a' := ?_) (bs 45 35184372088831) rfl rfl (any_of HT_.out (by decide +kernel)) (fun _ _ _ h => h) (Or.inl ⟨by rfl, ?_⟩) ?_ ?_
                    rotate_left
                    ·intro w'
                     go_simp; with_reducible rfl
                    rotate_left
                    ·simp only [Act.put, s1, s2, s3, i64_w, i32_w]
                     rfl
                    refine done_ (done_of HT_.out (by decide +kernel)) ?_
                    try go_wp2
                    go_meet
                    case rel => exact ⟨_, (false), (by first | rfl | (simp; done) | (simp [i64_w]; done) | (simp [*]; done) | (simp [*, i64_w]; done) | (simp [*]; unfold wrap64; omega)), H', ⟨by have := HJ6.out; have := HK2.out; have := HK3.out; have := HK4.out; first | omega | exact Nat.le_refl _⟩, ⟨by (with_reducible repeat (first | apply Kd.R_alloc | apply Kd.R_drewN | apply Kd.R_drew)); exact HO_3.out⟩, ⟨by (with_reducible repeat (first | apply Kd.R_alloc | apply Kd.R_drewN | apply Kd.R_drew)); exact HO_5.out⟩, ⟨by (with_reducible repeat (first | apply Kd.R_alloc | apply Kd.R_drewN | apply Kd.R_drew)); exact HO_7.out⟩, ⟨by (with_reducible repeat (first | refine blk_drewN ?_ _ | refine blk_drew ?_ | refine blk_alloc ?_ _)); exact BK191.out⟩, ⟨by (with_reducible repeat (first | refine blk_drewN ?_ _ | refine blk_drew ?_ | refine blk_alloc ?_ _)); exact BK213.out⟩, ⟨by (with_reducible repeat (first | refine blk_drewN ?_ _ | refine blk_drew ?_ | refine blk_alloc ?_ _)); exact BK215.out⟩, ⟨by (with_reducible repeat (first | refine blk_drewN ?_ _ | refine blk_drew ?_ | refine blk_alloc ?_ _)); exact BK217.out⟩, ⟨by repeat (first | (with_reducible first | exact HB.out | apply below_alloc | apply pw_below_drewN | apply below_drew1 | refine below_set ?_ GE191.out | refine below_set ?_ GE213.out | refine below_set ?_ GE215.out | refine below_set ?_ GE217.out) | exact HB.out)⟩⟩
                 case rest => as_aux_lemma =>
                  clear HC54; (try clear c2); (try clear p2); (try clear c6); (try clear c7); (try clear c26); (try clear c66); (try clear c67); (try clear c68); (try clear c69); (try clear c70); obtain ⟨kq, x183_53, rfl, HA, HJ53, HO_3, HO_5, HO_7, BK191, BK213, BK215, BK217, HB⟩ := hcut
                  cases kq with
                  | zero => exact absurd HA.out (by simp [templelaw12_FollowsHold.j4])
                  | succ kj53 =>
                   have H := HA.out; clear HA
                   simp only [templelaw12_FollowsHold.j4] at H
                   by_cases c90 : x183_53 = true
                   ·subst c90
                    have H1 : (none) = some r := by rw [if_pos rfl] at H; exact H
                    clear H; have H := H1; clear H1
                    exact absurd H (by simp)
                   ·replace c90 := Bool.eq_false_iff.mpr c90
                    subst c90; have H1 := H
                    rw [if_neg (show ¬ (false = true) by decide)] at H1
                    clear H; have H := H1; clear H1
                    by_cases c91 : 0 ≤ ((rd_T68 ((rd_T58 ((rd_T55 lr xi).f1) xj).f1) xk).f0)
                    rotate_left
                    ·(rw [if_neg c91] at H; exact absurd H (by simp))
                    rw [if_pos c91] at H; have c91b0 : decide (0 ≤ ((rd_T68 ((rd_T58 ((rd_T55 lr xi).f1) xj).f1) xk).f0)) = true := decide_eq_true c91; clear c91
                    by_cases c92 : ((rd_T68 ((rd_T58 ((rd_T55 lr xi).f1) xj).f1) xk).f0) < (td.length : Int)
                    rotate_left
                    ·(rw [if_neg c92] at H; exact absurd H (by simp))
                    rw [if_pos c92] at H; have c92b0 : decide (((rd_T68 ((rd_T58 ((rd_T55 lr xi).f1) xj).f1) xk).f0) < (td.length : Int)) = true := decide_eq_true c92; clear c92; obtain ⟨bq93, hbq93⟩ : ∃ b_ : Bool, b_ = (rdOf false td ((rd_T68 ((rd_T58 ((rd_T55 lr xi).f1) xj).f1) xk).f0)) := ⟨_, rfl⟩
                    replace H : (if bq93 = true then (if ((rd_T68 ((rd_T58 ((rd_T55 lr xi).f1) xj).f1) xk).f0) < (te.length : Int) then ((templeref1_Mix.f 0 ya yb yc yd ((rd_T63 te ((rd_T68 ((rd_T58 ((rd_T55 lr xi).f1) xj).f1) xk).f0)).f0) ((rd_T63 te ((rd_T68 ((rd_T58 ((rd_T55 lr xi).f1) xj).f1) xk).f0)).f1) ((rd_T63 te ((rd_T68 ((rd_T58 ((rd_T55 lr xi).f1) xj).f1) xk).f0)).f2) ((rd_T63 te ((rd_T68 ((rd_T58 ((rd_T55 lr xi).f1) xj).f1) xk).f0)).f3)).bind fun bt232 => (templelaw12_FollowsHold.l2 kj53 td te tf xi xj ((rd_T58 ((rd_T55 lr xi).f1) xj).f1) xm (wrap64 (xk - 1)) aq lq lr bt232.1 bt232.2.1 bt232.2.2.1 bt232.2.2.2)) else (none)) else (if ((rd_T68 ((rd_T58 ((rd_T55 lr xi).f1) xj).f1) xk).f0) < (te.length : Int) then (templelaw12_FollowsHold.l2 kj53 td te tf xi xj ((rd_T58 ((rd_T55 lr xi).f1) xj).f1) false (wrap64 (xk - 1)) aq lq lr ((rd_T63 te ((rd_T68 ((rd_T58 ((rd_T55 lr xi).f1) xj).f1) xk).f0)).f0) ((rd_T63 te ((rd_T68 ((rd_T58 ((rd_T55 lr xi).f1) xj).f1) xk).f0)).f1) ((rd_T63 te ((rd_T68 ((rd_T58 ((rd_T55 lr xi).f1) xj).f1) xk).f0)).f2) ((rd_T63 te ((rd_T68 ((rd_T58 ((rd_T55 lr xi).f1) xj).f1) xk).f0)).f3)) else (none))) = some r := by rw [← hbq93] at H; exact H
                    have Nbq93 := Aside0.mk hbq93; clear hbq93
                    by_cases c94 : bq93 = true
                    ·subst c94; have H1 := H
                     rw [if_pos rfl] at H1
                     clear H; have H := H1; clear H1
                     by_cases c95 : ((rd_T68 ((rd_T58 ((rd_T55 lr xi).f1) xj).f1) xk).f0) < (te.length : Int)
                     rotate_left
                     ·(rw [if_neg c95] at H; exact absurd H (by simp))
                     rw [if_pos c95] at H; have c95b0 : decide (((rd_T68 ((rd_T58 ((rd_T55 lr xi).f1) xj).f1) xk).f0) < (te.length : Int)) = true := decide_eq_true c95; clear c95; replace H := Option.bind_eq_some_iff.mp H; obtain ⟨⟨t232, t233, t234, t235⟩, A960, H⟩ := H
                     replace H : (templelaw12_FollowsHold.l2 kj53 td te tf xi xj ((rd_T58 ((rd_T55 lr xi).f1) xj).f1) xm (wrap64 (xk - 1)) aq lq lr t232 t233 t234 t235) = some r := H
                     have A96 := Aside0.mk A960; clear A960; have H' := Aside0.mk H; clear H; have hnb97 := NB215_191.out; have hnc97 := NB191_215.out; have hnb98 := NB215_213.out; have hnc98 := NB213_215.out; have hnb99 := NB215_217.out; have hnc99 := NB217_215.out
                     have hcz100_0 : wc.cell? ⟨gs, 0, none⟩ = some (.int .i64 ((rd_T68 ((rd_T58 ((rd_T55 lr xi).f1) xj).f1) xk).f0)) := (blk_cell BK215.out 0).trans rfl
                     have hcz100_1 : wc.cell? ⟨gs, 1, none⟩ = some (.int .i64 ((rd_T68 ((rd_T58 ((rd_T55 lr xi).f1) xj).f1) xk).f1)) := (blk_cell BK215.out 1).trans rfl
                     have hcz100_2 : wc.cell? ⟨gs, 2, none⟩ = some (.int .i64 ((rd_T68 ((rd_T58 ((rd_T55 lr xi).f1) xj).f1) xk).f2)) := (blk_cell BK215.out 2).trans rfl
                     have hfz100_0 := blk_frozen BK215.out 0; have hfz100_1 := blk_frozen BK215.out 1; have hfz100_2 := blk_frozen BK215.out 2
                     have p230 : 0 ≤ (((rd_T68 ((rd_T58 ((rd_T55 lr xi).f1) xj).f1) xk).f0) : Int) := of_decide_eq_true (by first | (with_reducible assumption) | assumption)
                     have q230 : ((rd_T68 ((rd_T58 ((rd_T55 lr xi).f1) xj).f1) xk).f0) < (td.length : Int) := of_decide_eq_true (by first | (with_reducible assumption) | assumption)
                     obtain ⟨ad230, e230, hx230_0⟩ := Kd.at_bool (Kd.R_reads' HO_3.out).2.2 ((rd_T68 ((rd_T58 ((rd_T55 lr xi).f1) xj).f1) xk).f0) p230 q230
                     (try rw [← Nbq32.out] at hx230_0)
                     (try rw [← Nbq93.out] at hx230_0)
                     cases e230; replace p230 := eq_true p230; replace q230 := eq_true q230
                     try go_wp2
                     have n0_ := Aside0.mk (Kd.R_drew HO_3.out); have n1_ := Aside0.mk (Kd.R_drew HO_5.out); have n2_ := Aside0.mk (Kd.R_drew HO_7.out); have n3_ := Aside0.mk (blk_drew BK191.out); have n4_ := Aside0.mk (blk_drew BK213.out); have n5_ := Aside0.mk (blk_drew BK215.out); have n6_ := Aside0.mk (blk_drew BK217.out); have n7_ := Aside0.mk (below_drew1 HB.out); clear HO_3; clear HO_5; clear HO_7; clear BK191; clear BK213; clear BK215; clear BK217; clear HB; have HO_3 := n0_; have HO_5 := n1_; have HO_7 := n2_; have BK191 := n3_; have BK213 := n4_; have BK215 := n5_; have BK217 := n6_; have HB := n7_; clear n0_ n1_ n2_ n3_ n4_ n5_ n6_ n7_
                     have p231 : 0 ≤ (((rd_T68 ((rd_T58 ((rd_T55 lr xi).f1) xj).f1) xk).f0) : Int) := of_decide_eq_true (by first | (with_reducible assumption) | assumption)
                     have q231 : ((rd_T68 ((rd_T58 ((rd_T55 lr xi).f1) xj).f1) xk).f0) < (te.length : Int) := of_decide_eq_true (by first | (with_reducible assumption) | assumption)
                     obtain ⟨ad231, e231, hx231_0, hx231_1, hx231_2, hx231_3⟩ := at_T63 (Kd.R_reads' HO_5.out).2.2 ((rd_T68 ((rd_T58 ((rd_T55 lr xi).f1) xj).f1) xk).f0) p231 q231; cases e231; replace p231 := eq_true p231; replace q231 := eq_true q231
                     refine start_ (n := 8) (S := fun w' => w'.cell? ⟨gp, 0, none⟩ = some (.int .u64 ya) ∧ w'.cell? ⟨gp, 1, none⟩ = some (.int .u64 yb) ∧ w'.cell? ⟨gp, 2, none⟩ = some (.int .u64 yc) ∧ w'.cell? ⟨gp, 3, none⟩ = some (.int .u64 yd) ∧ w'.cell? ⟨gs, 0, none⟩ = some (.int .i64 ((rd_T68 ((rd_T58 ((rd_T55 lr xi).f1) xj).f1) xk).f0)) ∧ w'.cell? ⟨gs, 1, none⟩ = some (.int .i64 ((rd_T68 ((rd_T58 ((rd_T55 lr xi).f1) xj).f1) xk).f1)) ∧ w'.cell? ⟨gs, 2, none⟩ = some (.int .i64 ((rd_T68 ((rd_T58 ((rd_T55 lr xi).f1) xj).f1) xk).f2)) ∧ w'.cell? (ad231.add ((((rd_T68 ((rd_T58 ((rd_T55 lr xi).f1) xj).f1) xk).f0)).toNat * 4)) = some (.int .u64 ((rd_T63 te ((rd_T68 ((rd_T58 ((rd_T55 lr xi).f1) xj).f1) xk).f0)).f0)) ∧ w'.cell? ⟨(ad231.add ((((rd_T68 ((rd_T58 ((rd_T55 lr xi).f1) xj).f1) xk).f0)).toNat * 4)).block, (ad231.add ((((rd_T68 ((rd_T58 ((rd_T55 lr xi).f1) xj).f1) xk).f0)).toNat * 4)).off + 1, none⟩ = some (.int .u64 ((rd_T63 te ((rd_T68 ((rd_T58 ((rd_T55 lr xi).f1) xj).f1) xk).f0)).f1)) ∧ w'.cell? ⟨(ad231.add ((((rd_T68 ((rd_T58 ((rd_T55 lr xi).f1) xj).f1) xk).f0)).toNat * 4)).block, (ad231.add ((((rd_T68 ((rd_T58 ((rd_T55 lr xi).f1) xj).f1) xk).f0)).toNat * 4)).off + 2, none⟩ = some (.int .u64 ((rd_T63 te ((rd_T68 ((rd_T58 ((rd_T55 lr xi).f1) xj).f1) xk).f0)).f2)) ∧ w'.cell? ⟨(ad231.add ((((rd_T68 ((rd_T58 ((rd_T55 lr xi).f1) xj).f1) xk).f0)).toNat * 4)).block, (ad231.add ((((rd_T68 ((rd_T58 ((rd_T55 lr xi).f1) xj).f1) xk).f0)).toNat * 4)).off + 3, none⟩ = some (.int .u64 ((rd_T63 te ((rd_T68 ((rd_T58 ((rd_T55 lr xi).f1) xj).f1) xk).f0)).f3))) (ds := [7]) #[false, false, false, false, false, false, false, false] (by decide +kernel) rfl rfl ⟨(blk_cell BK213.out 0).trans rfl, (blk_cell BK213.out 1).trans rfl, (blk_cell BK213.out 2).trans rfl, (blk_cell BK213.out 3).trans rfl, (blk_cell BK215.out 0).trans rfl, (blk_cell BK215.out 1).trans rfl, (blk_cell BK215.out 2).trans rfl, hx231_0, hx231_1, hx231_2, hx231_3⟩ (fun hHeld => ?_); refine with_tabW templelaw12_FollowsHold.tab29 templelaw12_FollowsHold.bits29 (fun HT_ HW_ => ?_)
                     generalize wc.drew = w101 at HO_3 HO_5 HO_7 BK191 BK213 BK215 BK217 HB hx231_0 hx231_1 hx231_2 hx231_3 hHeld ⊢
                     refine pure_ (i := 1) (N := some 190) (v := ?_) (a' := ?_) #[false, true, false, false, false, false, false, false] rfl rfl (any_of HT_.out (by decide +kernel)) (fun _ _ _ h => h) (Or.inl ⟨by rfl, ?_⟩) ?_ ?_
                     rotate_left
                     ·intro w'
                      go_simp; with_reducible rfl
                     rotate_left
                     ·simp only [Act.put, s1, s2, s3, i64_w, i32_w]
                      rfl
                     refine pure_ (i := 2) (N := some 191) (v := ?_) (a' := ?_) #[false, true, true, false, false, false, false, false] rfl rfl (any_of HT_.out (by decide +kernel)) (fun _ _ _ h => h) (Or.inl ⟨by rfl, ?_⟩) ?_ ?_
                     rotate_left
                     ·intro w'
                      go_simp; with_reducible rfl
                     rotate_left
                     ·simp only [Act.put, s1, s2, s3, i64_w, i32_w]
                      rfl
                     refine take_ (i := 0) (N := some 189) (v := ?_) (a' := ?_) #[true, true, true, false, false, false, false, false] rfl rfl (take_ofW HT_.out HW_.out (by decide +kernel)) (fun _ _ _ h => h) (Or.inl ⟨by rfl, ?_⟩) hHeld ?_ ?_
                     rotate_left
                     ·rintro w' ⟨s0, s1, s2, s3, s4, s5, s6, s7, s8, s9, s10⟩; go_simp; with_reducible rfl
                     rotate_left
                     ·simp only [Act.put, s1, s2, s3, i64_w, i32_w]
                      rfl
                     refine take_ (i := 3) (N := some 192) (v := ?_) (a' := ?_) #[true, true, true, true, false, false, false, false] rfl rfl (take_ofW HT_.out HW_.out (by decide +kernel)) (fun _ _ _ h => h) (Or.inl ⟨by rfl, ?_⟩) hHeld ?_ ?_
                     rotate_left
                     ·rintro w' ⟨s0, s1, s2, s3, s4, s5, s6, s7, s8, s9, s10⟩; go_simp; with_reducible rfl
                     rotate_left
                     ·simp only [Act.put, s1, s2, s3, i64_w, i32_w]
                      rfl
                     refine pure_ (i := 4) (N := some 193) (v := ?_) (a' := ?_) #[true, true, true, true, true, false, false, false] rfl rfl (any_of HT_.out (by decide +kernel)) (fun _ _ _ h => h) (Or.inl ⟨by rfl, ?_⟩) ?_ ?_
                     rotate_left
                     ·intro w'
                      go_simp; with_reducible rfl
                     rotate_left
                     ·simp only [Act.put, s1, s2, s3, i64_w, i32_w]
                      rfl
                     refine take_ (i := 5) (N := some 194) (v := ?_) (a' := ?_) #[true, true, true, true, true, true, false, false] rfl rfl (take_ofW HT_.out HW_.out (by decide +kernel)) (fun _ _ _ h => h) (Or.inl ⟨by rfl, ?_⟩) hHeld ?_ ?_
                     rotate_left
                     ·rintro w' ⟨s0, s1, s2, s3, s4, s5, s6, s7, s8, s9, s10⟩; go_simp; with_reducible rfl
                     rotate_left
                     ·simp only [Act.put, s1, s2, s3, i64_w, i32_w]
                      rfl
                     refine one_ (i := 6) (N := some 195) #[true, true, true, true, true, true, true, false] rfl rfl (one_of HT_.out (by decide +kernel)) (by decide) (fun K hK => ?_)
                     refine goes_ Try.func26 (by decide +kernel) rfl #[.int .i64 0, .agg #[.int .u64 ya, .int .u64 yb, .int .u64 yc, .int .u64 yd], .agg #[.int .u64 ((rd_T63 te ((rd_T68 ((rd_T58 ((rd_T55 lr xi).f1) xj).f1) xk).f0)).f0), .int .u64 ((rd_T63 te ((rd_T68 ((rd_T58 ((rd_T55 lr xi).f1) xj).f1) xk).f0)).f1), .int .u64 ((rd_T63 te ((rd_T68 ((rd_T58 ((rd_T55 lr xi).f1) xj).f1) xk).f0)).f2), .int .u64 ((rd_T63 te ((rd_T68 ((rd_T58 ((rd_T55 lr xi).f1) xj).f1) xk).f0)).f3)]] (by rfl) rfl rfl (by (try simp only [List.map_toArray, List.map_cons, List.map_nil]); first | done | rfl | (simp only [List.length_drop, List.length_take]; rfl)) ?_
                     with_reducible refine (templeref1_Mix.calls 0 ya yb yc yd ((rd_T63 te ((rd_T68 ((rd_T58 ((rd_T55 lr xi).f1) xj).f1) xk).f0)).f0) ((rd_T63 te ((rd_T68 ((rd_T58 ((rd_T55 lr xi).f1) xj).f1) xk).f0)).f1) ((rd_T63 te ((rd_T68 ((rd_T58 ((rd_T55 lr xi).f1) xj).f1) xk).f0)).f2) ((rd_T63 te ((rd_T68 ((rd_T58 ((rd_T55 lr xi).f1) xj).f1) xk).f0)).f3) t232 t233 t234 t235 _ A96.out).mono ?_
                     rintro e w102 ⟨rfl, hb⟩
                     have HS7_ := (hb.cell (World.block_lt_of_cell? _ _ (hHeld.2.2.2.2.2.2.2.1))).trans (hHeld.2.2.2.2.2.2.2.1)
                     have HS8_ := (hb.cell (World.block_lt_of_cell? _ _ (hHeld.2.2.2.2.2.2.2.2.1))).trans (hHeld.2.2.2.2.2.2.2.2.1)
                     have HS9_ := (hb.cell (World.block_lt_of_cell? _ _ (hHeld.2.2.2.2.2.2.2.2.2.1))).trans (hHeld.2.2.2.2.2.2.2.2.2.1)
                     have HS10_ := (hb.cell (World.block_lt_of_cell? _ _ (hHeld.2.2.2.2.2.2.2.2.2.2))).trans (hHeld.2.2.2.2.2.2.2.2.2.2)
                     refine ⟨_, rfl, ?_⟩
                     have n0_ := Aside0.mk (Kd.R_below (by (with_reducible repeat (first | apply Kd.R_alloc | apply Kd.R_drewN | apply Kd.R_drew)); exact HO_3.out) hb); have n1_ := Aside0.mk (Kd.R_below (by (with_reducible repeat (first | apply Kd.R_alloc | apply Kd.R_drewN | apply Kd.R_drew)); exact HO_5.out) hb); have n2_ := Aside0.mk (Kd.R_below (by (with_reducible repeat (first | apply Kd.R_alloc | apply Kd.R_drewN | apply Kd.R_drew)); exact HO_7.out) hb); have n3_ := kb BK191 hb; have n4_ := kb BK213 hb; have n5_ := Aside0.mk (blk_below (g := gs) (o := .cells #[.int .i64 ((rd_T68 ((rd_T58 ((rd_T55 lr xi).f1) xj).f1) xk).f0), .int .i64 ((rd_T68 ((rd_T58 ((rd_T55 lr xi).f1) xj).f1) xk).f1), .int .i64 ((rd_T68 ((rd_T58 ((rd_T55 lr xi).f1) xj).f1) xk).f2)] 68 (0, 0)) (by (with_reducible repeat (first | refine blk_drewN ?_ _ | refine blk_drew ?_ | refine blk_alloc ?_ _)); exact BK215.out) hb); have n6_ := Aside0.mk (blk_below (g := gq) (o := .cells #[.int .u64 ((rd_T66 tf ((rd_T68 ((rd_T58 ((rd_T55 lr xi).f1) xj).f1) xk).f0)).f0.f0), .int .u64 ((rd_T66 tf ((rd_T68 ((rd_T58 ((rd_T55 lr xi).f1) xj).f1) xk).f0)).f0.f1), .int .u64 ((rd_T66 tf ((rd_T68 ((rd_T58 ((rd_T55 lr xi).f1) xj).f1) xk).f0)).f0.f2), .int .u64 ((rd_T66 tf ((rd_T68 ((rd_T58 ((rd_T55 lr xi).f1) xj).f1) xk).f0)).f0.f3), .bool ((rd_T66 tf ((rd_T68 ((rd_T58 ((rd_T55 lr xi).f1) xj).f1) xk).f0)).f1)] 66 (0, 0)) (by (with_reducible repeat (first | refine blk_drewN ?_ _ | refine blk_drew ?_ | refine blk_alloc ?_ _)); exact BK217.out) hb); have n7_ := ks HB hb; clear HO_3; clear HO_5; clear HO_7; clear BK191; clear BK213; clear BK215; clear BK217; clear HB; have HO_3 := n0_; have HO_5 := n1_; have HO_7 := n2_; have BK191 := n3_; have BK213 := n4_; have BK215 := n5_; have BK217 := n6_; have HB := n7_; clear n0_ n1_ n2_ n3_ n4_ n5_ n6_ n7_; (try clear hb)
                     refine hK.out _ _ ⟨(blk_cell BK213.out 0).trans rfl, (blk_cell BK213.out 1).trans rfl, (blk_cell BK213.out 2).trans rfl, (blk_cell BK213.out 3).trans rfl, (blk_cell BK215.out 0).trans rfl, (blk_cell BK215.out 1).trans rfl, (blk_cell BK215.out 2).trans rfl, HS7_, HS8_, HS9_, HS10_⟩ (fun hHeld => ?_)
                     clear hK K
                     refine norm_ (a' := ?_) ?_ ?_
                     rotate_left
                     ·show Act.put _ (some 195) _ = _
                      simp only [Act.put, s1, s2, s3, i64_w, i32_w]
                      rfl
                     refine last_ (i := 7) (N := none) #[true, true, true, true, true, true, true, true] rfl rfl (one_of HT_.out (by decide +kernel)) (by decide) (fun K hK => ?_)
                     have hs103 : w102.cell? ⟨gp, 0, none⟩ = some (.int .u64 ya) := (blk_cell BK213.out 0).trans rfl
                     have hfs103 := blk_frozen BK213.out 0
                     have hns103_0 := NB191_213.out; have hns103_2 := NB215_213.out; have hns103_3 := NB217_213.out; have hms103_0 := NB213_191.out; have hms103_2 := NB213_215.out; have hms103_3 := NB213_217.out
                     have hs104 : w102.cell? ⟨gp, 1, none⟩ = some (.int .u64 yb) := (blk_cell BK213.out 1).trans rfl
                     have hfs104 := blk_frozen BK213.out 1
                     have hns104_0 := NB191_213.out; have hns104_2 := NB215_213.out; have hns104_3 := NB217_213.out; have hms104_0 := NB213_191.out; have hms104_2 := NB213_215.out; have hms104_3 := NB213_217.out
                     have hs105 : w102.cell? ⟨gp, 2, none⟩ = some (.int .u64 yc) := (blk_cell BK213.out 2).trans rfl
                     have hfs105 := blk_frozen BK213.out 2
                     have hns105_0 := NB191_213.out; have hns105_2 := NB215_213.out; have hns105_3 := NB217_213.out; have hms105_0 := NB213_191.out; have hms105_2 := NB213_215.out; have hms105_3 := NB213_217.out
                     have hs106 : w102.cell? ⟨gp, 3, none⟩ = some (.int .u64 yd) := (blk_cell BK213.out 3).trans rfl
                     have hfs106 := blk_frozen BK213.out 3
                     have hns106_0 := NB191_213.out; have hns106_2 := NB215_213.out; have hns106_3 := NB217_213.out; have hms106_0 := NB213_191.out; have hms106_2 := NB213_215.out; have hms106_3 := NB213_217.out
                     refine skip_ (w1 := ?_) (by rfl) rfl ?_ ?_
                     rotate_left
                     ·go_simp; rfl
                     refine hK.out _ _ ?_
                     clear hK K
                     refine done_ (done_of HT_.out (by decide +kernel)) ?_
                     try go_wp2
                     go_roundg kj53
                     case measure => have := HJ6.out; have := HK2.out; have := HK3.out; have := HK4.out; have := HJ53.out; omega
                     case rel => exact ⟨(xm), (wrap64 (xk - 1)), (t232), (t233), (t234), (t235), (by first | rfl | (simp; done) | (simp [i64_w]; done) | (simp [*]; done) | (simp [*, i64_w]; done) | (simp [*]; unfold wrap64; omega)), (by first | rfl | (simp; done) | (simp [i64_w]; done) | (simp [*]; done) | (simp [*, i64_w]; done) | (simp [*]; unfold wrap64; omega)), H', ⟨by have := HJ6.out; have := HK2.out; have := HK3.out; have := HK4.out; have := HJ53.out; omega⟩, ⟨by (with_reducible repeat (first | apply Kd.R_alloc | apply Kd.R_drewN | apply Kd.R_drew)); exact Kd.R_mono (Kd.R_far (p := ⟨gp, 3, none⟩) (Kd.R_far (p := ⟨gp, 2, none⟩) (Kd.R_far (p := ⟨gp, 1, none⟩) (Kd.R_far (p := ⟨gp, 0, none⟩) (Kd.R_types HO_3.out BK213.out (by decide)) (fun _ hk => hk.2) (.int .u64 t232)) (fun _ hk => hk.2) (.int .u64 t233)) (fun _ hk => hk.2) (.int .u64 t234)) (fun _ hk => hk.2) (.int .u64 t235)) (fun _ hk => trivial)⟩, ⟨by (with_reducible repeat (first | apply Kd.R_alloc | apply Kd.R_drewN | apply Kd.R_drew)); exact Kd.R_mono (Kd.R_far (p := ⟨gp, 3, none⟩) (Kd.R_far (p := ⟨gp, 2, none⟩) (Kd.R_far (p := ⟨gp, 1, none⟩) (Kd.R_far (p := ⟨gp, 0, none⟩) (Kd.R_mono HO_5.out (fun k_ hk => (⟨hk, hk⟩ : _ ∧ k_ ≠ gp))) (fun _ hk => hk.2) (.int .u64 t232)) (fun _ hk => hk.2) (.int .u64 t233)) (fun _ hk => hk.2) (.int .u64 t234)) (fun _ hk => hk.2) (.int .u64 t235)) (fun _ hk => hk.1)⟩, ⟨by (with_reducible repeat (first | apply Kd.R_alloc | apply Kd.R_drewN | apply Kd.R_drew)); exact Kd.R_mono (Kd.R_far (p := ⟨gp, 3, none⟩) (Kd.R_far (p := ⟨gp, 2, none⟩) (Kd.R_far (p := ⟨gp, 1, none⟩) (Kd.R_far (p := ⟨gp, 0, none⟩) (Kd.R_types HO_7.out BK213.out (by decide)) (fun _ hk => hk.2) (.int .u64 t232)) (fun _ hk => hk.2) (.int .u64 t233)) (fun _ hk => hk.2) (.int .u64 t234)) (fun _ hk => hk.2) (.int .u64 t235)) (fun _ hk => trivial)⟩, ⟨by (with_reducible repeat (first | refine blk_drewN ?_ _ | refine blk_drew ?_ | refine blk_alloc ?_ _)); refine blk_far ?_ NB191_213.out _; (with_reducible repeat (first | refine blk_drewN ?_ _ | refine blk_drew ?_ | refine blk_alloc ?_ _)); refine blk_far ?_ NB191_213.out _; (with_reducible repeat (first | refine blk_drewN ?_ _ | refine blk_drew ?_ | refine blk_alloc ?_ _)); refine blk_far ?_ NB191_213.out _; (with_reducible repeat (first | refine blk_drewN ?_ _ | refine blk_drew ?_ | refine blk_alloc ?_ _)); refine blk_far ?_ NB191_213.out _; (with_reducible repeat (first | refine blk_drewN ?_ _ | refine blk_drew ?_ | refine blk_alloc ?_ _)); exact BK191.out⟩, ⟨by (with_reducible repeat (first | refine blk_drewN ?_ _ | refine blk_drew ?_ | refine blk_alloc ?_ _)); refine blk_put (cs := #[.int .u64 t232, .int .u64 t233, .int .u64 t234, .int .u64 yd]) ?_ 3 _ rfl; (with_reducible repeat (first | refine blk_drewN ?_ _ | refine blk_drew ?_ | refine blk_alloc ?_ _)); refine blk_put (cs := #[.int .u64 t232, .int .u64 t233, .int .u64 yc, .int .u64 yd]) ?_ 2 _ rfl; (with_reducible repeat (first | refine blk_drewN ?_ _ | refine blk_drew ?_ | refine blk_alloc ?_ _)); refine blk_put (cs := #[.int .u64 t232, .int .u64 yb, .int .u64 yc, .int .u64 yd]) ?_ 1 _ rfl; (with_reducible repeat (first | refine blk_drewN ?_ _ | refine blk_drew ?_ | refine blk_alloc ?_ _)); refine blk_put (cs := #[.int .u64 ya, .int .u64 yb, .int .u64 yc, .int .u64 yd]) ?_ 0 _ rfl; (with_reducible repeat (first | refine blk_drewN ?_ _ | refine blk_drew ?_ | refine blk_alloc ?_ _)); exact BK213.out⟩, ⟨by repeat (first | (with_reducible first | exact HB.out | apply below_alloc | apply pw_below_drewN | apply below_drew1 | refine below_set ?_ GE191.out | refine below_set ?_ GE213.out | refine below_set ?_ GE215.out | refine below_set ?_ GE217.out) | exact HB.out)⟩⟩
                    ·replace c94 := Bool.eq_false_iff.mpr c94
                     subst c94; have H1 := H
                     rw [if_neg (show ¬ (false = true) by decide)] at H1
                     clear H; have H := H1; clear H1
                     by_cases c107 : ((rd_T68 ((rd_T58 ((rd_T55 lr xi).f1) xj).f1) xk).f0) < (te.length : Int)
                     rotate_left
                     ·(rw [if_neg c107] at H; exact absurd H (by simp))
                     rw [if_pos c107] at H; have c107b0 : decide (((rd_T68 ((rd_T58 ((rd_T55 lr xi).f1) xj).f1) xk).f0) < (te.length : Int)) = true := decide_eq_true c107; clear c107; have H' := Aside0.mk H; clear H; have hnb108 := NB215_191.out; have hnc108 := NB191_215.out; have hnb109 := NB215_213.out; have hnc109 := NB213_215.out; have hnb110 := NB215_217.out; have hnc110 := NB217_215.out
                     have hcz111_0 : wc.cell? ⟨gs, 0, none⟩ = some (.int .i64 ((rd_T68 ((rd_T58 ((rd_T55 lr xi).f1) xj).f1) xk).f0)) := (blk_cell BK215.out 0).trans rfl
                     have hcz111_1 : wc.cell? ⟨gs, 1, none⟩ = some (.int .i64 ((rd_T68 ((rd_T58 ((rd_T55 lr xi).f1) xj).f1) xk).f1)) := (blk_cell BK215.out 1).trans rfl
                     have hcz111_2 : wc.cell? ⟨gs, 2, none⟩ = some (.int .i64 ((rd_T68 ((rd_T58 ((rd_T55 lr xi).f1) xj).f1) xk).f2)) := (blk_cell BK215.out 2).trans rfl
                     have hfz111_0 := blk_frozen BK215.out 0; have hfz111_1 := blk_frozen BK215.out 1; have hfz111_2 := blk_frozen BK215.out 2
                     have p230 : 0 ≤ (((rd_T68 ((rd_T58 ((rd_T55 lr xi).f1) xj).f1) xk).f0) : Int) := of_decide_eq_true (by first | (with_reducible assumption) | assumption)
                     have q230 : ((rd_T68 ((rd_T58 ((rd_T55 lr xi).f1) xj).f1) xk).f0) < (td.length : Int) := of_decide_eq_true (by first | (with_reducible assumption) | assumption)
                     obtain ⟨ad230, e230, hx230_0⟩ := Kd.at_bool (Kd.R_reads' HO_3.out).2.2 ((rd_T68 ((rd_T58 ((rd_T55 lr xi).f1) xj).f1) xk).f0) p230 q230
                     (try rw [← Nbq32.out] at hx230_0)
                     (try rw [← Nbq93.out] at hx230_0)
                     cases e230; replace p230 := eq_true p230; replace q230 := eq_true q230
                     have p236 : 0 ≤ (((rd_T68 ((rd_T58 ((rd_T55 lr xi).f1) xj).f1) xk).f0) : Int) := of_decide_eq_true (by first | (with_reducible assumption) | assumption)
                     have q236 : ((rd_T68 ((rd_T58 ((rd_T55 lr xi).f1) xj).f1) xk).f0) < (te.length : Int) := of_decide_eq_true (by first | (with_reducible assumption) | assumption)
                     obtain ⟨ad236, e236, hx236_0, hx236_1, hx236_2, hx236_3⟩ := at_T63 (Kd.R_reads' HO_5.out).2.2 ((rd_T68 ((rd_T58 ((rd_T55 lr xi).f1) xj).f1) xk).f0) p236 q236; cases e236; replace p236 := eq_true p236; replace q236 := eq_true q236; have hnb112 := NB213_191.out; have hnc112 := NB191_213.out; have hnb113 := NB213_217.out; have hnc113 := NB217_213.out
                     have hcz114_0 : wc.cell? ⟨gp, 0, none⟩ = some (.int .u64 ya) := (blk_cell BK213.out 0).trans rfl
                     have hcz114_1 : wc.cell? ⟨gp, 1, none⟩ = some (.int .u64 yb) := (blk_cell BK213.out 1).trans rfl
                     have hcz114_2 : wc.cell? ⟨gp, 2, none⟩ = some (.int .u64 yc) := (blk_cell BK213.out 2).trans rfl
                     have hcz114_3 : wc.cell? ⟨gp, 3, none⟩ = some (.int .u64 yd) := (blk_cell BK213.out 3).trans rfl
                     have hfz114_0 := blk_frozen BK213.out 0; have hfz114_1 := blk_frozen BK213.out 1; have hfz114_2 := blk_frozen BK213.out 2; have hfz114_3 := blk_frozen BK213.out 3; go_wp2; go_roundg kj53
                     case measure => have := HJ6.out; have := HK2.out; have := HK3.out; have := HK4.out; have := HJ53.out; omega
                     case rel => exact ⟨(false), (wrap64 (xk - 1)), ((rd_T63 te ((rd_T68 ((rd_T58 ((rd_T55 lr xi).f1) xj).f1) xk).f0)).f0), ((rd_T63 te ((rd_T68 ((rd_T58 ((rd_T55 lr xi).f1) xj).f1) xk).f0)).f1), ((rd_T63 te ((rd_T68 ((rd_T58 ((rd_T55 lr xi).f1) xj).f1) xk).f0)).f2), ((rd_T63 te ((rd_T68 ((rd_T58 ((rd_T55 lr xi).f1) xj).f1) xk).f0)).f3), (by first | rfl | (simp; done) | (simp [i64_w]; done) | (simp [*]; done) | (simp [*, i64_w]; done) | (simp [*]; unfold wrap64; omega)), (by first | rfl | (simp; done) | (simp [i64_w]; done) | (simp [*]; done) | (simp [*, i64_w]; done) | (simp [*]; unfold wrap64; omega)), H', ⟨by have := HJ6.out; have := HK2.out; have := HK3.out; have := HK4.out; have := HJ53.out; omega⟩, ⟨by (with_reducible repeat (first | apply Kd.R_alloc | apply Kd.R_drewN | apply Kd.R_drew)); exact Kd.R_mono (Kd.R_far (p := ⟨gp, 3, none⟩) (Kd.R_far (p := ⟨gp, 2, none⟩) (Kd.R_far (p := ⟨gp, 1, none⟩) (Kd.R_far (p := ⟨gp, 0, none⟩) (Kd.R_types HO_3.out BK213.out (by decide)) (fun _ hk => hk.2) (.int .u64 ((rd_T63 te ((rd_T68 ((rd_T58 ((rd_T55 lr xi).f1) xj).f1) xk).f0)).f0))) (fun _ hk => hk.2) (.int .u64 ((rd_T63 te ((rd_T68 ((rd_T58 ((rd_T55 lr xi).f1) xj).f1) xk).f0)).f1))) (fun _ hk => hk.2) (.int .u64 ((rd_T63 te ((rd_T68 ((rd_T58 ((rd_T55 lr xi).f1) xj).f1) xk).f0)).f2))) (fun _ hk => hk.2) (.int .u64 ((rd_T63 te ((rd_T68 ((rd_T58 ((rd_T55 lr xi).f1) xj).f1) xk).f0)).f3))) (fun _ hk => trivial)⟩, ⟨by (with_reducible repeat (first | apply Kd.R_alloc | apply Kd.R_drewN | apply Kd.R_drew)); exact Kd.R_mono (Kd.R_far (p := ⟨gp, 3, none⟩) (Kd.R_far (p := ⟨gp, 2, none⟩) (Kd.R_far (p := ⟨gp, 1, none⟩) (Kd.R_far (p := ⟨gp, 0, none⟩) (Kd.R_mono HO_5.out (fun k_ hk => (⟨hk, hk⟩ : _ ∧ k_ ≠ gp))) (fun _ hk => hk.2) (.int .u64 ((rd_T63 te ((rd_T68 ((rd_T58 ((rd_T55 lr xi).f1) xj).f1) xk).f0)).f0))) (fun _ hk => hk.2) (.int .u64 ((rd_T63 te ((rd_T68 ((rd_T58 ((rd_T55 lr xi).f1) xj).f1) xk).f0)).f1))) (fun _ hk => hk.2) (.int .u64 ((rd_T63 te ((rd_T68 ((rd_T58 ((rd_T55 lr xi).f1) xj).f1) xk).f0)).f2))) (fun _ hk => hk.2) (.int .u64 ((rd_T63 te ((rd_T68 ((rd_T58 ((rd_T55 lr xi).f1) xj).f1) xk).f0)).f3))) (fun _ hk => hk.1)⟩, ⟨by (with_reducible repeat (first | apply Kd.R_alloc | apply Kd.R_drewN | apply Kd.R_drew)); exact Kd.R_mono (Kd.R_far (p := ⟨gp, 3, none⟩) (Kd.R_far (p := ⟨gp, 2, none⟩) (Kd.R_far (p := ⟨gp, 1, none⟩) (Kd.R_far (p := ⟨gp, 0, none⟩) (Kd.R_types HO_7.out BK213.out (by decide)) (fun _ hk => hk.2) (.int .u64 ((rd_T63 te ((rd_T68 ((rd_T58 ((rd_T55 lr xi).f1) xj).f1) xk).f0)).f0))) (fun _ hk => hk.2) (.int .u64 ((rd_T63 te ((rd_T68 ((rd_T58 ((rd_T55 lr xi).f1) xj).f1) xk).f0)).f1))) (fun _ hk => hk.2) (.int .u64 ((rd_T63 te ((rd_T68 ((rd_T58 ((rd_T55 lr xi).f1) xj).f1) xk).f0)).f2))) (fun _ hk => hk.2) (.int .u64 ((rd_T63 te ((rd_T68 ((rd_T58 ((rd_T55 lr xi).f1) xj).f1) xk).f0)).f3))) (fun _ hk => trivial)⟩, ⟨by (with_reducible repeat (first | refine blk_drewN ?_ _ | refine blk_drew ?_ | refine blk_alloc ?_ _)); refine blk_far ?_ NB191_213.out _; (with_reducible repeat (first | refine blk_drewN ?_ _ | refine blk_drew ?_ | refine blk_alloc ?_ _)); refine blk_far ?_ NB191_213.out _; (with_reducible repeat (first | refine blk_drewN ?_ _ | refine blk_drew ?_ | refine blk_alloc ?_ _)); refine blk_far ?_ NB191_213.out _; (with_reducible repeat (first | refine blk_drewN ?_ _ | refine blk_drew ?_ | refine blk_alloc ?_ _)); refine blk_far ?_ NB191_213.out _; (with_reducible repeat (first | refine blk_drewN ?_ _ | refine blk_drew ?_ | refine blk_alloc ?_ _)); exact BK191.out⟩, ⟨by (with_reducible repeat (first | refine blk_drewN ?_ _ | refine blk_drew ?_ | refine blk_alloc ?_ _)); refine blk_put (cs := #[.int .u64 ((rd_T63 te ((rd_T68 ((rd_T58 ((rd_T55 lr xi).f1) xj).f1) xk).f0)).f0), .int .u64 ((rd_T63 te ((rd_T68 ((rd_T58 ((rd_T55 lr xi).f1) xj).f1) xk).f0)).f1), .int .u64 ((rd_T63 te ((rd_T68 ((rd_T58 ((rd_T55 lr xi).f1) xj).f1) xk).f0)).f2), .int .u64 yd]) ?_ 3 _ rfl; (with_reducible repeat (first | refine blk_drewN ?_ _ | refine blk_drew ?_ | refine blk_alloc ?_ _)); refine blk_put (cs := #[.int .u64 ((rd_T63 te ((rd_T68 ((rd_T58 ((rd_T55 lr xi).f1) xj).f1) xk).f0)).f0), .int .u64 ((rd_T63 te ((rd_T68 ((rd_T58 ((rd_T55 lr xi).f1) xj).f1) xk).f0)).f1), .int .u64 yc, .int .u64 yd]) ?_ 2 _ rfl; (with_reducible repeat (first | refine blk_drewN ?_ _ | refine blk_drew ?_ | refine blk_alloc ?_ _)); refine blk_put (cs := #[.int .u64 ((rd_T63 te ((rd_T68 ((rd_T58 ((rd_T55 lr xi).f1) xj).f1) xk).f0)).f0), .int .u64 yb, .int .u64 yc, .int .u64 yd]) ?_ 1 _ rfl; (with_reducible repeat (first | refine blk_drewN ?_ _ | refine blk_drew ?_ | refine blk_alloc ?_ _)); refine blk_put (cs := #[.int .u64 ya, .int .u64 yb, .int .u64 yc, .int .u64 yd]) ?_ 0 _ rfl; (with_reducible repeat (first | refine blk_drewN ?_ _ | refine blk_drew ?_ | refine blk_alloc ?_ _)); exact BK213.out⟩, ⟨by repeat (first | (with_reducible first | exact HB.out | apply below_alloc | apply pw_below_drewN | apply below_drew1 | refine below_set ?_ GE191.out | refine below_set ?_ GE213.out | refine below_set ?_ GE215.out | refine below_set ?_ GE217.out) | exact HB.out)⟩⟩
                ·as_aux_lemma =>
                 rw [if_neg c51] at H; have c51b0 : decide (0 ≤ ((rd_T68 ((rd_T58 ((rd_T55 lr xi).f1) xj).f1) xk).f0)) = false := decide_eq_false c51; clear c51; replace H := Option.bind_eq_some_iff.mp H; obtain ⟨⟨t237, t238, t239, t240, t241⟩, A1150, H⟩ := H
                 replace H : (templelaw12_FollowsHold.l2 k4 td te tf xi xj ((rd_T58 ((rd_T55 lr xi).f1) xj).f1) false (wrap64 (xk - 1)) aq lq lr t237 t238 t239 t240) = some r := H
                 have A115 := Aside0.mk A1150; clear A1150; have H' := Aside0.mk H; clear H
                 have p214 : 0 ≤ (xk : Int) := of_decide_eq_true (by first | (with_reducible assumption) | assumption)
                 have q214 : xk < (((rd_T58 ((rd_T55 lr xi).f1) xj).f1).length : Int) := of_decide_eq_true (by first | (with_reducible assumption) | assumption)
                 obtain ⟨ad214, e214, hx214_0, hx214_1, hx214_2⟩ := at_T68 HR212_1.out xk p214 q214; cases e214
                 replace hx214_0 := (HB.out.cell (World.block_lt_of_cell? w _ hx214_0)).trans hx214_0
                 replace hx214_1 := (HB.out.cell (World.block_lt_of_cell? w _ hx214_1)).trans hx214_1
                 replace hx214_2 := (HB.out.cell (World.block_lt_of_cell? w _ hx214_2)).trans hx214_2
                 replace p214 := eq_true p214; replace q214 := eq_true q214
                 go_wp2_with (first | ((with_reducible refine gate_dst (N := 16) rfl ?_); (try (refine gate_guard (by rfl) ?_; dsimp only)); refine box_event ?hg (N := 16) ?hd (cs := #[.int .i64 0, .int .i64 0, .int .i64 0]) (t := 68) ?hr ?_; (case hd => rfl); (case hg => rfl); (case hr => first | (go_simp; done) | (go_simp; rfl)); intro gs hg w116 hbox hb; have n0_ := Aside0.mk (Kd.R_below (by (with_reducible repeat (first | apply Kd.R_alloc | apply Kd.R_drewN | apply Kd.R_drew)); exact HO_3.out) hb); have n1_ := Aside0.mk (Kd.R_below (by (with_reducible repeat (first | apply Kd.R_alloc | apply Kd.R_drewN | apply Kd.R_drew)); exact HO_5.out) hb); have n2_ := Aside0.mk (Kd.R_below (by (with_reducible repeat (first | apply Kd.R_alloc | apply Kd.R_drewN | apply Kd.R_drew)); exact HO_7.out) hb); have n3_ := Aside0.mk (blk_below (g := gz) (o := .cells #[.int .i64 aq, .slice A0_1 lq.length c0_1, .slice (some ad210) lr.length c0_2] 25 (0, 0)) (by (with_reducible repeat (first | refine blk_drewN ?_ _ | refine blk_drew ?_ | refine blk_alloc ?_ _)); exact BK191.out) hb); have n4_ := Aside0.mk (blk_below (g := gp) (o := .cells #[.int .u64 ya, .int .u64 yb, .int .u64 yc, .int .u64 yd] 63 (0, 0)) (by (with_reducible repeat (first | refine blk_drewN ?_ _ | refine blk_drew ?_ | refine blk_alloc ?_ _)); exact BK213.out) hb); have n5_ := Aside0.mk (below_step (by repeat (first | (with_reducible first | exact HB.out | apply below_alloc | apply pw_below_drewN | apply below_drew1 | refine below_set ?_ GE191.out | refine below_set ?_ GE213.out) | exact HB.out)) hb); have n6_ := Aside0.mk (hbox); have n7_ := Aside0.mk ((by rw [hg]; exact (below_size (by repeat (first | (with_reducible first | exact HB.out | apply below_alloc | apply pw_below_drewN | apply below_drew1 | refine below_set ?_ GE191.out | refine below_set ?_ GE213.out) | exact HB.out))) : w.heap.size ≤ gs)); have n8_ := Aside0.mk ((by rw [hg]; exact (below_size (by repeat (first | (with_reducible first | exact HB.out | apply below_alloc | apply pw_below_drewN | apply below_drew1 | refine below_set ?_ GE191.out | refine below_set ?_ GE213.out) | exact HB.out))) : w.heap.size ≤ gs)); have n9_ := Aside0.mk ((by rw [hg]; exact Nat.ne_of_lt (blk_lt (g := gz) (o := .cells #[.int .i64 aq, .slice A0_1 lq.length c0_1, .slice (some ad210) lr.length c0_2] 25 (0, 0)) (by (with_reducible repeat (first | refine blk_drewN ?_ _ | refine blk_drew ?_ | refine blk_alloc ?_ _)); exact BK191.out)) : gz ≠ gs)); have n10_ := Aside0.mk ((by rw [hg]; exact Nat.ne_of_gt (blk_lt (g := gz) (o := .cells #[.int .i64 aq, .slice A0_1 lq.length c0_1, .slice (some ad210) lr.length c0_2] 25 (0, 0)) (by (with_reducible repeat (first | refine blk_drewN ?_ _ | refine blk_drew ?_ | refine blk_alloc ?_ _)); exact BK191.out)) : gs ≠ gz)); have n11_ := Aside0.mk ((by rw [hg]; exact Nat.ne_of_lt (blk_lt (g := gp) (o := .cells #[.int .u64 ya, .int .u64 yb, .int .u64 yc, .int .u64 yd] 63 (0, 0)) (by (with_reducible repeat (first | refine blk_drewN ?_ _ | refine blk_drew ?_ | refine blk_alloc ?_ _)); exact BK213.out)) : gp ≠ gs)); have n12_ := Aside0.mk ((by rw [hg]; exact Nat.ne_of_gt (blk_lt (g := gp) (o := .cells #[.int .u64 ya, .int .u64 yb, .int .u64 yc, .int .u64 yd] 63 (0, 0)) (by (with_reducible repeat (first | refine blk_drewN ?_ _ | refine blk_drew ?_ | refine blk_alloc ?_ _)); exact BK213.out)) : gs ≠ gp)); clear HO_3; clear HO_5; clear HO_7; clear BK191; clear BK213; clear HB; have HO_3 := n0_; have HO_5 := n1_; have HO_7 := n2_; have BK191 := n3_; have BK213 := n4_; have HB := n5_; have BK215 := n6_; have GW215 := n7_; have GE215 := n8_; have NB191_215 := n9_; have NB215_191 := n10_; have NB213_215 := n11_; have NB215_213 := n12_; clear n0_ n1_ n2_ n3_ n4_ n5_ n6_ n7_ n8_ n9_ n10_ n11_ n12_; clear hb hbox hg; have hnb117 := NB215_191.out; have hnc117 := NB191_215.out; have hnb118 := NB215_213.out; have hnc118 := NB213_215.out; have hcz119_0 : w116.cell? ⟨gs, 0, none⟩ = some (.int .i64 0) := (blk_cell BK215.out 0).trans rfl; have hcz119_1 : w116.cell? ⟨gs, 1, none⟩ = some (.int .i64 0) := (blk_cell BK215.out 1).trans rfl; have hcz119_2 : w116.cell? ⟨gs, 2, none⟩ = some (.int .i64 0) := (blk_cell BK215.out 2).trans rfl; have hfz119_0 := blk_frozen BK215.out 0; have hfz119_1 := blk_frozen BK215.out 1; have hfz119_2 := blk_frozen BK215.out 2) | ((with_reducible refine gate_callee (f := 27) rfl ?_); refine goesL_ (some 206) rfl rfl Try.func27 (by decide +kernel) rfl #[.int .i64 ((rd_T68 ((rd_T58 ((rd_T55 lr xi).f1) xj).f1) xk).f1), .int .i64 ((rd_T68 ((rd_T58 ((rd_T55 lr xi).f1) xj).f1) xk).f2)] rfl (by (try simp only [List.map_toArray, List.map_cons, List.map_nil]); first | done | rfl | (simp only [List.length_drop, List.length_take]; rfl)) ?_; (with_reducible refine (templeref1_Range.calls ((rd_T68 ((rd_T58 ((rd_T55 lr xi).f1) xj).f1) xk).f1) ((rd_T68 ((rd_T58 ((rd_T55 lr xi).f1) xj).f1) xk).f2) t237 t238 t239 t240 t241 _ A115.out).mono ?_); rintro e w120 ⟨rfl, hb⟩; refine ⟨_, rfl, ?_⟩; have n0_ := Aside0.mk (Kd.R_below (by (with_reducible repeat (first | apply Kd.R_alloc | apply Kd.R_drewN | apply Kd.R_drew)); exact (Kd.R_mono (Kd.R_far (p := ⟨gs, 2, none⟩) (Kd.R_far (p := ⟨gs, 1, none⟩) (Kd.R_far (p := ⟨gs, 0, none⟩) (Kd.R_types HO_3.out BK215.out (by decide)) (fun _ hk => hk.2) (.int .i64 ((rd_T68 ((rd_T58 ((rd_T55 lr xi).f1) xj).f1) xk).f0))) (fun _ hk => hk.2) (.int .i64 ((rd_T68 ((rd_T58 ((rd_T55 lr xi).f1) xj).f1) xk).f1))) (fun _ hk => hk.2) (.int .i64 ((rd_T68 ((rd_T58 ((rd_T55 lr xi).f1) xj).f1) xk).f2))) (fun _ h_ => h_.1))) hb); have n1_ := Aside0.mk (Kd.R_below (by (with_reducible repeat (first | apply Kd.R_alloc | apply Kd.R_drewN | apply Kd.R_drew)); exact (Kd.R_mono (Kd.R_far (p := ⟨gs, 2, none⟩) (Kd.R_far (p := ⟨gs, 1, none⟩) (Kd.R_far (p := ⟨gs, 0, none⟩) (Kd.R_types HO_5.out BK215.out (by decide)) (fun _ hk => hk.2) (.int .i64 ((rd_T68 ((rd_T58 ((rd_T55 lr xi).f1) xj).f1) xk).f0))) (fun _ hk => hk.2) (.int .i64 ((rd_T68 ((rd_T58 ((rd_T55 lr xi).f1) xj).f1) xk).f1))) (fun _ hk => hk.2) (.int .i64 ((rd_T68 ((rd_T58 ((rd_T55 lr xi).f1) xj).f1) xk).f2))) (fun _ h_ => h_.1))) hb); have n2_ := Aside0.mk (Kd.R_below (by (with_reducible repeat (first | apply Kd.R_alloc | apply Kd.R_drewN | apply Kd.R_drew)); exact (Kd.R_mono (Kd.R_far (p := ⟨gs, 2, none⟩) (Kd.R_far (p := ⟨gs, 1, none⟩) (Kd.R_far (p := ⟨gs, 0, none⟩) (Kd.R_types HO_7.out BK215.out (by decide)) (fun _ hk => hk.2) (.int .i64 ((rd_T68 ((rd_T58 ((rd_T55 lr xi).f1) xj).f1) xk).f0))) (fun _ hk => hk.2) (.int .i64 ((rd_T68 ((rd_T58 ((rd_T55 lr xi).f1) xj).f1) xk).f1))) (fun _ hk => hk.2) (.int .i64 ((rd_T68 ((rd_T58 ((rd_T55 lr xi).f1) xj).f1) xk).f2))) (fun _ h_ => h_.1))) hb); have n3_ := Aside0.mk (blk_below (g := gz) (o := .cells #[.int .i64 aq, .slice A0_1 lq.length c0_1, .slice (some ad210) lr.length c0_2] 25 (0, 0)) (by (with_reducible repeat (first | refine blk_drewN ?_ _ | refine blk_drew ?_ | refine blk_alloc ?_ _)); refine blk_far ?_ NB191_215.out _; (with_reducible repeat (first | refine blk_drewN ?_ _ | refine blk_drew ?_ | refine blk_alloc ?_ _)); refine blk_far ?_ NB191_215.out _; (with_reducible repeat (first | refine blk_drewN ?_ _ | refine blk_drew ?_ | refine blk_alloc ?_ _)); refine blk_far ?_ NB191_215.out _; (with_reducible repeat (first | refine blk_drewN ?_ _ | refine blk_drew ?_ | refine blk_alloc ?_ _)); exact BK191.out) hb); have n4_ := Aside0.mk (blk_below (g := gp) (o := .cells #[.int .u64 ya, .int .u64 yb, .int .u64 yc, .int .u64 yd] 63 (0, 0)) (by (with_reducible repeat (first | refine blk_drewN ?_ _ | refine blk_drew ?_ | refine blk_alloc ?_ _)); refine blk_far ?_ NB213_215.out _; (with_reducible repeat (first | refine blk_drewN ?_ _ | refine blk_drew ?_ | refine blk_alloc ?_ _)); refine blk_far ?_ NB213_215.out _; (with_reducible repeat (first | refine blk_drewN ?_ _ | refine blk_drew ?_ | refine blk_alloc ?_ _)); refine blk_far ?_ NB213_215.out _; (with_reducible repeat (first | refine blk_drewN ?_ _ | refine blk_drew ?_ | refine blk_alloc ?_ _)); exact BK213.out) hb); have n5_ := Aside0.mk (blk_below (g := gs) (o := .cells #[.int .i64 ((rd_T68 ((rd_T58 ((rd_T55 lr xi).f1) xj).f1) xk).f0), .int .i64 ((rd_T68 ((rd_T58 ((rd_T55 lr xi).f1) xj).f1) xk).f1), .int .i64 ((rd_T68 ((rd_T58 ((rd_T55 lr xi).f1) xj).f1) xk).f2)] 68 (0, 0)) (by (with_reducible repeat (first | refine blk_drewN ?_ _ | refine blk_drew ?_ | refine blk_alloc ?_ _)); refine blk_put (cs := #[.int .i64 ((rd_T68 ((rd_T58 ((rd_T55 lr xi).f1) xj).f1) xk).f0), .int .i64 ((rd_T68 ((rd_T58 ((rd_T55 lr xi).f1) xj).f1) xk).f1), .int .i64 0]) ?_ 2 _ rfl; (with_reducible repeat (first | refine blk_drewN ?_ _ | refine blk_drew ?_ | refine blk_alloc ?_ _)); refine blk_put (cs := #[.int .i64 ((rd_T68 ((rd_T58 ((rd_T55 lr xi).f1) xj).f1) xk).f0), .int .i64 0, .int .i64 0]) ?_ 1 _ rfl; (with_reducible repeat (first | refine blk_drewN ?_ _ | refine blk_drew ?_ | refine blk_alloc ?_ _)); refine blk_put (cs := #[.int .i64 0, .int .i64 0, .int .i64 0]) ?_ 0 _ rfl; (with_reducible repeat (first | refine blk_drewN ?_ _ | refine blk_drew ?_ | refine blk_alloc ?_ _)); exact BK215.out) hb); have n6_ := Aside0.mk (below_step (by repeat (first | (with_reducible first | exact HB.out | apply below_alloc | apply pw_below_drewN | apply below_drew1 | refine below_set ?_ GE191.out | refine below_set ?_ GE213.out | refine below_set ?_ GE215.out) | exact HB.out)) hb); clear HO_3; clear HO_5; clear HO_7; clear BK191; clear BK213; clear BK215; clear HB; have HO_3 := n0_; have HO_5 := n1_; have HO_7 := n2_; have BK191 := n3_; have BK213 := n4_; have BK215 := n5_; have HB := n6_; clear n0_ n1_ n2_ n3_ n4_ n5_ n6_; (try clear hb)) | ((with_reducible refine gate_dst (N := 18) rfl ?_); (try (refine gate_guard (by rfl) ?_; dsimp only)); refine box_event ?hg (N := 18) ?hd (cs := #[.int .u64 0, .int .u64 0, .int .u64 0, .int .u64 0]) (t := 63) ?hr ?_; (case hd => rfl); (case hg => rfl); (case hr => first | (go_simp; done) | (go_simp; rfl)); intro gb242 hg w121 hbox hb; have n0_ := Aside0.mk (Kd.R_below (by (with_reducible repeat (first | apply Kd.R_alloc | apply Kd.R_drewN | apply Kd.R_drew)); exact HO_3.out) hb); have n1_ := Aside0.mk (Kd.R_below (Kd.R_elderB (by (with_reducible repeat (first | apply Kd.R_alloc | apply Kd.R_drewN | apply Kd.R_drew)); exact HO_5.out) gb242 (Nat.le_of_eq hg.symm)) hb); have n2_ := Aside0.mk (Kd.R_below (by (with_reducible repeat (first | apply Kd.R_alloc | apply Kd.R_drewN | apply Kd.R_drew)); exact HO_7.out) hb); have n3_ := Aside0.mk (blk_below (g := gz) (o := .cells #[.int .i64 aq, .slice A0_1 lq.length c0_1, .slice (some ad210) lr.length c0_2] 25 (0, 0)) (by (with_reducible repeat (first | refine blk_drewN ?_ _ | refine blk_drew ?_ | refine blk_alloc ?_ _)); exact BK191.out) hb); have n4_ := Aside0.mk (blk_below (g := gp) (o := .cells #[.int .u64 ya, .int .u64 yb, .int .u64 yc, .int .u64 yd] 63 (0, 0)) (by (with_reducible repeat (first | refine blk_drewN ?_ _ | refine blk_drew ?_ | refine blk_alloc ?_ _)); exact BK213.out) hb); have n5_ := Aside0.mk (blk_below (g := gs) (o := .cells #[.int .i64 ((rd_T68 ((rd_T58 ((rd_T55 lr xi).f1) xj).f1) xk).f0), .int .i64 ((rd_T68 ((rd_T58 ((rd_T55 lr xi).f1) xj).f1) xk).f1), .int .i64 ((rd_T68 ((rd_T58 ((rd_T55 lr xi).f1) xj).f1) xk).f2)] 68 (0, 0)) (by (with_reducible repeat (first | refine blk_drewN ?_ _ | refine blk_drew ?_ | refine blk_alloc ?_ _)); exact BK215.out) hb); have n6_ := Aside0.mk (below_step (by repeat (first | (with_reducible first | exact HB.out | apply below_alloc | apply pw_below_drewN | apply below_drew1 | refine below_set ?_ GE191.out | refine below_set ?_ GE213.out | refine below_set ?_ GE215.out) | exact HB.out)) hb); have n7_ := Aside0.mk (hbox); have n8_ := Aside0.mk ((by rw [hg]; exact (below_size (by repeat (first | (with_reducible first | exact HB.out | apply below_alloc | apply pw_below_drewN | apply below_drew1 | refine below_set ?_ GE191.out | refine below_set ?_ GE213.out | refine below_set ?_ GE215.out) | exact HB.out))) : w.heap.size ≤ gb242)); have n9_ := Aside0.mk ((by rw [hg]; exact (below_size (by repeat (first | (with_reducible first | exact HB.out | apply below_alloc | apply pw_below_drewN | apply below_drew1 | refine below_set ?_ GE191.out | refine below_set ?_ GE213.out | refine below_set ?_ GE215.out) | exact HB.out))) : w.heap.size ≤ gb242)); have n10_ := Aside0.mk ((by rw [hg]; exact Nat.ne_of_lt (blk_lt (g := gz) (o := .cells #[.int .i64 aq, .slice A0_1 lq.length c0_1, .slice (some ad210) lr.length c0_2] 25 (0, 0)) (by (with_reducible repeat (first | refine blk_drewN ?_ _ | refine blk_drew ?_ | refine blk_alloc ?_ _)); exact BK191.out)) : gz ≠ gb242)); have n11_ := Aside0.mk ((by rw [hg]; exact Nat.ne_of_gt (blk_lt (g := gz) (o := .cells #[.int .i64 aq, .slice A0_1 lq.length c0_1, .slice (some ad210) lr.length c0_2] 25 (0, 0)) (by (with_reducible repeat (first | refine blk_drewN ?_ _ | refine blk_drew ?_ | refine blk_alloc ?_ _)); exact BK191.out)) : gb242 ≠ gz)); have n12_ := Aside0.mk ((by rw [hg]; exact Nat.ne_of_lt (blk_lt (g := gp) (o := .cells #[.int .u64 ya, .int .u64 yb, .int .u64 yc, .int .u64 yd] 63 (0, 0)) (by (with_reducible repeat (first | refine blk_drewN ?_ _ | refine blk_drew ?_ | refine blk_alloc ?_ _)); exact BK213.out)) : gp ≠ gb242)); have n13_ := Aside0.mk ((by rw [hg]; exact Nat.ne_of_gt (blk_lt (g := gp) (o := .cells #[.int .u64 ya, .int .u64 yb, .int .u64 yc, .int .u64 yd] 63 (0, 0)) (by (with_reducible repeat (first | refine blk_drewN ?_ _ | refine blk_drew ?_ | refine blk_alloc ?_ _)); exact BK213.out)) : gb242 ≠ gp)); have n14_ := Aside0.mk ((by rw [hg]; exact Nat.ne_of_lt (blk_lt (g := gs) (o := .cells #[.int .i64 ((rd_T68 ((rd_T58 ((rd_T55 lr xi).f1) xj).f1) xk).f0), .int .i64 ((rd_T68 ((rd_T58 ((rd_T55 lr xi).f1) xj).f1) xk).f1), .int .i64 ((rd_T68 ((rd_T58 ((rd_T55 lr xi).f1) xj).f1) xk).f2)] 68 (0, 0)) (by (with_reducible repeat (first | refine blk_drewN ?_ _ | refine blk_drew ?_ | refine blk_alloc ?_ _)); exact BK215.out)) : gs ≠ gb242)); have n15_ := Aside0.mk ((by rw [hg]; exact Nat.ne_of_gt (blk_lt (g := gs) (o := .cells #[.int .i64 ((rd_T68 ((rd_T58 ((rd_T55 lr xi).f1) xj).f1) xk).f0), .int .i64 ((rd_T68 ((rd_T58 ((rd_T55 lr xi).f1) xj).f1) xk).f1), .int .i64 ((rd_T68 ((rd_T58 ((rd_T55 lr xi).f1) xj).f1) xk).f2)] 68 (0, 0)) (by (with_reducible repeat (first | refine blk_drewN ?_ _ | refine blk_drew ?_ | refine blk_alloc ?_ _)); exact BK215.out)) : gb242 ≠ gs)); clear HO_3; clear HO_5; clear HO_7; clear BK191; clear BK213; clear BK215; clear HB; have HO_3 := n0_; have HO_5 := n1_; have HO_7 := n2_; have BK191 := n3_; have BK213 := n4_; have BK215 := n5_; have HB := n6_; have BK242 := n7_; have GW242 := n8_; have GE242 := n9_; have NB191_242 := n10_; have NB242_191 := n11_; have NB213_242 := n12_; have NB242_213 := n13_; have NB215_242 := n14_; have NB242_215 := n15_; clear n0_ n1_ n2_ n3_ n4_ n5_ n6_ n7_ n8_ n9_ n10_ n11_ n12_ n13_ n14_ n15_; clear hb hbox hg; have hnb122 := NB242_191.out; have hnc122 := NB191_242.out; have hnb123 := NB242_213.out; have hnc123 := NB213_242.out; have hnb124 := NB242_215.out; have hnc124 := NB215_242.out; have hcz125_0 : w121.cell? ⟨gb242, 0, none⟩ = some (.int .u64 0) := (blk_cell BK242.out 0).trans rfl; have hcz125_1 : w121.cell? ⟨gb242, 1, none⟩ = some (.int .u64 0) := (blk_cell BK242.out 1).trans rfl; have hcz125_2 : w121.cell? ⟨gb242, 2, none⟩ = some (.int .u64 0) := (blk_cell BK242.out 2).trans rfl; have hcz125_3 : w121.cell? ⟨gb242, 3, none⟩ = some (.int .u64 0) := (blk_cell BK242.out 3).trans rfl; have hfz125_0 := blk_frozen BK242.out 0; have hfz125_1 := blk_frozen BK242.out 1; have hfz125_2 := blk_frozen BK242.out 2; have hfz125_3 := blk_frozen BK242.out 3; have hnb126 := NB213_191.out; have hnc126 := NB191_213.out; have hcz127_0 : w121.cell? ⟨gp, 0, none⟩ = some (.int .u64 ya) := (blk_cell BK213.out 0).trans rfl; have hcz127_1 : w121.cell? ⟨gp, 1, none⟩ = some (.int .u64 yb) := (blk_cell BK213.out 1).trans rfl; have hcz127_2 : w121.cell? ⟨gp, 2, none⟩ = some (.int .u64 yc) := (blk_cell BK213.out 2).trans rfl; have hcz127_3 : w121.cell? ⟨gp, 3, none⟩ = some (.int .u64 yd) := (blk_cell BK213.out 3).trans rfl; have hfz127_0 := blk_frozen BK213.out 0; have hfz127_1 := blk_frozen BK213.out 1; have hfz127_2 := blk_frozen BK213.out 2; have hfz127_3 := blk_frozen BK213.out 3))
                 go_roundg k4
                 case measure => have := HJ6.out; have := HK2.out; have := HK3.out; have := HK4.out; omega
                 case rel => exact ⟨(false), (wrap64 (xk - 1)), (t237), (t238), (t239), (t240), (by first | rfl | (simp; done) | (simp [i64_w]; done) | (simp [*]; done) | (simp [*, i64_w]; done) | (simp [*]; unfold wrap64; omega)), (by first | rfl | (simp; done) | (simp [i64_w]; done) | (simp [*]; done) | (simp [*, i64_w]; done) | (simp [*]; unfold wrap64; omega)), H', ⟨by have := HJ6.out; have := HK2.out; have := HK3.out; have := HK4.out; omega⟩, ⟨by (with_reducible repeat (first | apply Kd.R_alloc | apply Kd.R_drewN | apply Kd.R_drew)); exact Kd.R_mono (Kd.R_far (p := ⟨gp, 3, none⟩) (Kd.R_far (p := ⟨gp, 2, none⟩) (Kd.R_far (p := ⟨gp, 1, none⟩) (Kd.R_far (p := ⟨gp, 0, none⟩) (Kd.R_far (p := ⟨gb242, 3, none⟩) (Kd.R_far (p := ⟨gb242, 2, none⟩) (Kd.R_far (p := ⟨gb242, 1, none⟩) (Kd.R_far (p := ⟨gb242, 0, none⟩) (Kd.R_types (Kd.R_types HO_3.out BK242.out (by decide)) BK213.out (by decide)) (fun _ hk => hk.1.2) (.int .u64 t237)) (fun _ hk => hk.1.2) (.int .u64 t238)) (fun _ hk => hk.1.2) (.int .u64 t239)) (fun _ hk => hk.1.2) (.int .u64 t240)) (fun _ hk => hk.2) (.int .u64 t237)) (fun _ hk => hk.2) (.int .u64 t238)) (fun _ hk => hk.2) (.int .u64 t239)) (fun _ hk => hk.2) (.int .u64 t240)) (fun _ hk => trivial)⟩, ⟨by (with_reducible repeat (first | apply Kd.R_alloc | apply Kd.R_drewN | apply Kd.R_drew)); exact Kd.R_mono (Kd.R_far (p := ⟨gp, 3, none⟩) (Kd.R_far (p := ⟨gp, 2, none⟩) (Kd.R_far (p := ⟨gp, 1, none⟩) (Kd.R_far (p := ⟨gp, 0, none⟩) (Kd.R_far (p := ⟨gb242, 3, none⟩) (Kd.R_far (p := ⟨gb242, 2, none⟩) (Kd.R_far (p := ⟨gb242, 1, none⟩) (Kd.R_far (p := ⟨gb242, 0, none⟩) (Kd.R_mono (Kd.R_mono HO_5.out (fun k_ hk => (⟨hk, hk.2⟩ : _ ∧ k_ ≠ gb242))) (fun k_ hk => (⟨hk, hk.1.1⟩ : _ ∧ k_ ≠ gp))) (fun _ hk => hk.1.2) (.int .u64 t237)) (fun _ hk => hk.1.2) (.int .u64 t238)) (fun _ hk => hk.1.2) (.int .u64 t239)) (fun _ hk => hk.1.2) (.int .u64 t240)) (fun _ hk => hk.2) (.int .u64 t237)) (fun _ hk => hk.2) (.int .u64 t238)) (fun _ hk => hk.2) (.int .u64 t239)) (fun _ hk => hk.2) (.int .u64 t240)) (fun _ hk => hk.1.1.1)⟩, ⟨by (with_reducible repeat (first | apply Kd.R_alloc | apply Kd.R_drewN | apply Kd.R_drew)); exact Kd.R_mono (Kd.R_far (p := ⟨gp, 3, none⟩) (Kd.R_far (p := ⟨gp, 2, none⟩) (Kd.R_far (p := ⟨gp, 1, none⟩) (Kd.R_far (p := ⟨gp, 0, none⟩) (Kd.R_far (p := ⟨gb242, 3, none⟩) (Kd.R_far (p := ⟨gb242, 2, none⟩) (Kd.R_far (p := ⟨gb242, 1, none⟩) (Kd.R_far (p := ⟨gb242, 0, none⟩) (Kd.R_types (Kd.R_types HO_7.out BK242.out (by decide)) BK213.out (by decide)) (fun _ hk => hk.1.2) (.int .u64 t237)) (fun _ hk => hk.1.2) (.int .u64 t238)) (fun _ hk => hk.1.2) (.int .u64 t239)) (fun _ hk => hk.1.2) (.int .u64 t240)) (fun _ hk => hk.2) (.int .u64 t237)) (fun _ hk => hk.2) (.int .u64 t238)) (fun _ hk => hk.2) (.int .u64 t239)) (fun _ hk => hk.2) (.int .u64 t240)) (fun _ hk => trivial)⟩, ⟨by (with_reducible repeat (first | refine blk_drewN ?_ _ | refine blk_drew ?_ | refine blk_alloc ?_ _)); refine blk_far ?_ NB191_213.out _; (with_reducible repeat (first | refine blk_drewN ?_ _ | refine blk_drew ?_ | refine blk_alloc ?_ _)); refine blk_far ?_ NB191_213.out _; (with_reducible repeat (first | refine blk_drewN ?_ _ | refine blk_drew ?_ | refine blk_alloc ?_ _)); refine blk_far ?_ NB191_213.out _; (with_reducible repeat (first | refine blk_drewN ?_ _ | refine blk_drew ?_ | refine blk_alloc ?_ _)); refine blk_far ?_ NB191_213.out _; (with_reducible repeat (first | refine blk_drewN ?_ _ | refine blk_drew ?_ | refine blk_alloc ?_ _)); refine blk_far ?_ NB191_242.out _; (with_reducible repeat (first | refine blk_drewN ?_ _ | refine blk_drew ?_ | refine blk_alloc ?_ _)); refine blk_far ?_ NB191_242.out _; (with_reducible repeat (first | refine blk_drewN ?_ _ | refine blk_drew ?_ | refine blk_alloc ?_ _)); refine blk_far ?_ NB191_242.out _; (with_reducible repeat (first | refine blk_drewN ?_ _ | refine blk_drew ?_ | refine blk_alloc ?_ _)); refine blk_far ?_ NB191_242.out _; (with_reducible repeat (first | refine blk_drewN ?_ _ | refine blk_drew ?_ | refine blk_alloc ?_ _)); exact BK191.out⟩, ⟨by (with_reducible repeat (first | refine blk_drewN ?_ _ | refine blk_drew ?_ | refine blk_alloc ?_ _)); refine blk_put (cs := #[.int .u64 t237, .int .u64 t238, .int .u64 t239, .int .u64 yd]) ?_ 3 _ rfl; (with_reducible repeat (first | refine blk_drewN ?_ _ | refine blk_drew ?_ | refine blk_alloc ?_ _)); refine blk_put (cs := #[.int .u64 t237, .int .u64 t238, .int .u64 yc, .int .u64 yd]) ?_ 2 _ rfl; (with_reducible repeat (first | refine blk_drewN ?_ _ | refine blk_drew ?_ | refine blk_alloc ?_ _)); refine blk_put (cs := #[.int .u64 t237, .int .u64 yb, .int .u64 yc, .int .u64 yd]) ?_ 1 _ rfl; (with_reducible repeat (first | refine blk_drewN ?_ _ | refine blk_drew ?_ | refine blk_alloc ?_ _)); refine blk_put (cs := #[.int .u64 ya, .int .u64 yb, .int .u64 yc, .int .u64 yd]) ?_ 0 _ rfl; (with_reducible repeat (first | refine blk_drewN ?_ _ | refine blk_drew ?_ | refine blk_alloc ?_ _)); refine blk_far ?_ NB213_242.out _; (with_reducible repeat (first | refine blk_drewN ?_ _ | refine blk_drew ?_ | refine blk_alloc ?_ _)); refine blk_far ?_ NB213_242.out _; (with_reducible repeat (first | refine blk_drewN ?_ _ | refine blk_drew ?_ | refine blk_alloc ?_ _)); refine blk_far ?_ NB213_242.out _; (with_reducible repeat (first | refine blk_drewN ?_ _ | refine blk_drew ?_ | refine blk_alloc ?_ _)); refine blk_far ?_ NB213_242.out _; (with_reducible repeat (first | refine blk_drewN ?_ _ | refine blk_drew ?_ | refine blk_alloc ?_ _)); exact BK213.out⟩, ⟨by repeat (first | (with_reducible first | exact HB.out | apply below_alloc | apply pw_below_drewN | apply below_drew1 | refine below_set ?_ GE191.out | refine below_set ?_ GE213.out | refine below_set ?_ GE215.out | refine below_set ?_ GE242.out) | exact HB.out)⟩⟩
               ·rw [if_neg c48] at H; have c48b0 : decide (0 ≤ xk) = false := decide_eq_false c48; clear c48; have H' := Aside0.mk H; clear H; go_wp2; go_roundg k4
                case measure => have := HJ6.out; have := HK2.out; have := HK3.out; have := HK4.out; omega
                case rel => exact ⟨(wrap64 (xj + 1)), (by first | rfl | (simp; done) | (simp [i64_w]; done) | (simp [*]; done) | (simp [*, i64_w]; done) | (simp [*]; unfold wrap64; omega)), H', ⟨by have := HJ6.out; have := HK2.out; have := HK3.out; have := HK4.out; omega⟩, ⟨by (with_reducible repeat (first | apply Kd.R_alloc | apply Kd.R_drewN | apply Kd.R_drew)); exact HO_3.out⟩, ⟨by (with_reducible repeat (first | apply Kd.R_alloc | apply Kd.R_drewN | apply Kd.R_drew)); exact Kd.R_mono HO_5.out (fun _ hk => trivial)⟩, ⟨by (with_reducible repeat (first | apply Kd.R_alloc | apply Kd.R_drewN | apply Kd.R_drew)); exact HO_7.out⟩, ⟨by (with_reducible repeat (first | refine blk_drewN ?_ _ | refine blk_drew ?_ | refine blk_alloc ?_ _)); exact BK191.out⟩, ⟨by repeat (first | (with_reducible first | exact HB.out | apply below_alloc | apply pw_below_drewN | apply below_drew1 | refine below_set ?_ GE191.out | refine below_set ?_ GE213.out) | exact HB.out)⟩⟩
            ·rw [if_neg c44] at H; have c44b0 : decide (xj < (((rd_T55 lr xi).f1).length : Int)) = false := decide_eq_false c44; clear c44; have H' := Aside0.mk H; clear H
             have hcz128_0 : wr.cell? ⟨gz, 0, none⟩ = some (.int .i64 aq) := (blk_cell BK191.out 0).trans rfl
             have hcz128_1 : wr.cell? ⟨gz, 1, none⟩ = some (.slice A0_1 lq.length c0_1) := (blk_cell BK191.out 1).trans rfl
             have hcz128_2 : wr.cell? ⟨gz, 2, none⟩ = some (.slice A0_2 lr.length c0_2) := (blk_cell BK191.out 2).trans rfl
             have hfz128_0 := blk_frozen BK191.out 0; have hfz128_1 := blk_frozen BK191.out 1; have hfz128_2 := blk_frozen BK191.out 2
             have p210 : 0 ≤ (xi : Int) := of_decide_eq_true (by first | (with_reducible assumption) | assumption)
             have q210 : xi < (lr.length : Int) := of_decide_eq_true (by first | (with_reducible assumption) | assumption)
             obtain ⟨ad210, A210_1, c210_1, e210, hx210_0, hx210_1, hl210_1, hi210_1⟩ := at_T55 HR0_2.out xi p210 q210; cases e210
             replace hx210_0 := (HB.out.cell (World.block_lt_of_cell? w _ hx210_0)).trans hx210_0
             replace hx210_1 := (HB.out.cell (World.block_lt_of_cell? w _ hx210_1)).trans hx210_1
             have HR210_1 := Aside0.mk hi210_1; have HC210_1 := Aside0.mk hl210_1; clear hi210_1 hl210_1; replace p210 := eq_true p210; replace q210 := eq_true q210; go_wp2; go_roundg k3
             case measure => have := HJ6.out; have := HK2.out; have := HK3.out; omega
             case rel => exact ⟨(wrap64 (xi + 1)), (by first | rfl | (simp; done) | (simp [i64_w]; done) | (simp [*]; done) | (simp [*, i64_w]; done) | (simp [*]; unfold wrap64; omega)), H', ⟨by have := HJ6.out; have := HK2.out; have := HK3.out; omega⟩, ⟨by (with_reducible repeat (first | apply Kd.R_alloc | apply Kd.R_drewN | apply Kd.R_drew)); exact HO_3.out⟩, ⟨by (with_reducible repeat (first | apply Kd.R_alloc | apply Kd.R_drewN | apply Kd.R_drew)); exact HO_5.out⟩, ⟨by (with_reducible repeat (first | apply Kd.R_alloc | apply Kd.R_drewN | apply Kd.R_drew)); exact HO_7.out⟩, ⟨by (with_reducible repeat (first | refine blk_drewN ?_ _ | refine blk_drew ?_ | refine blk_alloc ?_ _)); exact BK191.out⟩, ⟨by repeat (first | (with_reducible first | exact HB.out | apply below_alloc | apply pw_below_drewN | apply below_drew1 | refine below_set ?_ GE191.out) | exact HB.out)⟩⟩
         ·rw [if_neg c40] at H; have c40b0 : decide (xi < (lr.length : Int)) = false := decide_eq_false c40; clear c40; obtain rfl := Option.some.inj H
          have hcz129_0 : wr.cell? ⟨gz, 0, none⟩ = some (.int .i64 aq) := (blk_cell BK191.out 0).trans rfl
          have hcz129_1 : wr.cell? ⟨gz, 1, none⟩ = some (.slice A0_1 lq.length c0_1) := (blk_cell BK191.out 1).trans rfl
          have hcz129_2 : wr.cell? ⟨gz, 2, none⟩ = some (.slice A0_2 lr.length c0_2) := (blk_cell BK191.out 2).trans rfl
          have hfz129_0 := blk_frozen BK191.out 0; have hfz129_1 := blk_frozen BK191.out 1; have hfz129_2 := blk_frozen BK191.out 2; go_wp2; go_ret
          exact ⟨by first | rfl | (simp [errW_none, errW_some] <;> rfl) | (simp [*, errW_none, errW_some] <;> rfl), by repeat (first | (with_reducible first | exact HB.out | apply below_alloc | apply pw_below_drewN | apply below_drew1 | refine below_set ?_ GE191.out) | exact HB.out)⟩
      ·replace c33 := Bool.eq_false_iff.mpr c33
       subst c33
       have H1 : (none) = some r := by rw [if_neg (show ¬ (false = true) by decide)] at H; exact H
       clear H; have H := H1; clear H1
       exact absurd H (by simp)
     ·replace c26 := Bool.eq_false_iff.mpr c26
      subst c26
      have H1 : (none) = some r := by rw [if_neg (show ¬ (false = true) by decide)] at H; exact H
      clear H; have H := H1; clear H1
      exact absurd H (by simp)
 ·replace c3 := Bool.eq_false_iff.mpr c3
  subst c3
  have H1 : (none) = some r := by rw [if_neg (show ¬ (false = true) by decide)] at H; exact H
  clear H; have H := H1; clear H1
  exact absurd H (by simp)

end Go.Proofs.Ytpilkfodlhhjpaa.PFW
