-- written by a program of the session's (wip/myprint.py) out of the translation
import Derived.Test.YtdjnpgigdchfkaaPBSx0
namespace Go.Proofs.Ytdjnpgigdchfkaa.PBS
open Go.RowKit Go.Proofs.YtdjnpgigdchfkaaW.PrintWords Go.Proofs.YtdjnpgigdchfkaaW.PrintLast Go.Proofs.YtdjnpgigdchfkaaW.PrintMore
attribute [local go_sem] max2_int min2_int max_two min_two max_three min_three max_four min_four   -- for this text's walks alone
set_option linter.unusedVariables false
set_option linter.unusedSimpArgs false

/-! ### templeref1_symbolMay: function 48 -/
def templeref1_symbolMay.f (a0_0 : Int) (a0_1 : Int) (a0_2 : Int) (a1 : Int) : Option (Bool) := if a0_0 = (-1) then (if a0_1 ≥ 0 then (if a0_1 ≤ a0_2 then (some (decide (a0_2 ≤ 255))) else (some false)) else (some false)) else (if a0_0 ≥ 0 then (if a0_0 < a1 then (if a0_1 = 0 then (some (a0_2 == 0)) else (some false)) else (some false)) else (some false))
set_option maxHeartbeats 8000000 in
set_option maxRecDepth 100000 in
theorem templeref1_symbolMay.calls (a0_0 : Int) (a0_1 : Int) (a0_2 : Int) (a1 : Int) (r : Bool) (w : World) (h : templeref1_symbolMay.f a0_0 a0_1 a0_2 a1 = some r) :
  Calls Try.prog 48 #[.agg #[.int .i64 a0_0, .int .i64 a0_1, .int .i64 a0_2], .int .i64 a1] w fun e w' => e = .returned (.bool r) ∧ Below w.heap.size w w' := by
 have hu56 := Try.underlying56
 have HB := Aside0.mk (Below.refl w.heap.size w)
 have H : (if a0_0 = (-1) then (if a0_1 ≥ 0 then (if a0_1 ≤ a0_2 then (some (decide (a0_2 ≤ 255))) else (some false)) else (some false)) else (if a0_0 ≥ 0 then (if a0_0 < a1 then (if a0_1 = 0 then (some (a0_2 == 0)) else (some false)) else (some false)) else (some false))) = some r := h
 clear h
 by_cases c3 : a0_0 = (-1)
 ·rw [if_pos c3] at H; have c3b0 : (a0_0 == (-1)) = true := beq_iff_eq.mpr c3; have c3b1 : (a0_0 != (-1)) = false := bne_eq_false_iff_eq.mpr c3; clear c3
  by_cases c4 : a0_1 ≥ 0
  ·rw [if_pos c4] at H; have c4b0 : decide (0 ≤ a0_1) = true := decide_eq_true c4; clear c4
   by_cases c5 : a0_1 ≤ a0_2
   ·rw [if_pos c5] at H; have c5b0 : decide (a0_1 ≤ a0_2) = true := decide_eq_true c5; clear c5; obtain rfl := Option.some.inj H
    go_enter Try.func48, Try.ntmps48
    go_wp2_with (first | ((with_reducible refine gate_dst (N := 2) rfl ?_); refine box_event (by rfl) (N := 2) (by rfl) (cs := #[.int .i64 a0_0, .int .i64 a0_1, .int .i64 a0_2]) (t := 56) zzh ?_; intro gb198 hg w6 hbox hb; have n0_ := Aside0.mk (below_step zzq hb); have n1_ := Aside0.mk (hbox); have n2_ := Aside0.mk ((zzg hg zzq)); have n3_ := Aside0.mk ((zzg hg zzq)); clear HB; have HB := n0_; have BK198 := n1_; have GW198 := n2_; have GE198 := n3_; clear n0_ n1_ n2_ n3_; clear hb hbox hg; have hcz7_0 : w6.cell? ⟨gb198, 0, none⟩ = some (.int .i64 a0_0) := (blk_cell BK198.out 0).trans rfl; have hcz7_1 : w6.cell? ⟨gb198, 1, none⟩ = some (.int .i64 a0_1) := (blk_cell BK198.out 1).trans rfl; have hcz7_2 : w6.cell? ⟨gb198, 2, none⟩ = some (.int .i64 a0_2) := (blk_cell BK198.out 2).trans rfl; have hfz7_0 := blk_frozen BK198.out 0; have hfz7_1 := blk_frozen BK198.out 1; have hfz7_2 := blk_frozen BK198.out 2))
    go_ret
    exact ⟨by first | rfl | (simp [errW_none, errW_some] <;> rfl) | (simp [*, errW_none, errW_some] <;> rfl), zzq⟩
   ·rw [if_neg c5] at H; have c5b0 : decide (a0_1 ≤ a0_2) = false := decide_eq_false c5; clear c5; obtain rfl := Option.some.inj H
    go_enter Try.func48, Try.ntmps48
    go_wp2_with (first | ((with_reducible refine gate_dst (N := 2) rfl ?_); refine box_event (by rfl) (N := 2) (by rfl) (cs := #[.int .i64 a0_0, .int .i64 a0_1, .int .i64 a0_2]) (t := 56) zzh ?_; intro gb198 hg w8 hbox hb; have n0_ := Aside0.mk (below_step zzq hb); have n1_ := Aside0.mk (hbox); have n2_ := Aside0.mk ((zzg hg zzq)); have n3_ := Aside0.mk ((zzg hg zzq)); clear HB; have HB := n0_; have BK198 := n1_; have GW198 := n2_; have GE198 := n3_; clear n0_ n1_ n2_ n3_; clear hb hbox hg; have hcz9_0 : w8.cell? ⟨gb198, 0, none⟩ = some (.int .i64 a0_0) := (blk_cell BK198.out 0).trans rfl; have hcz9_1 : w8.cell? ⟨gb198, 1, none⟩ = some (.int .i64 a0_1) := (blk_cell BK198.out 1).trans rfl; have hcz9_2 : w8.cell? ⟨gb198, 2, none⟩ = some (.int .i64 a0_2) := (blk_cell BK198.out 2).trans rfl; have hfz9_0 := blk_frozen BK198.out 0; have hfz9_1 := blk_frozen BK198.out 1; have hfz9_2 := blk_frozen BK198.out 2))
    go_ret
    exact ⟨by first | rfl | (simp [errW_none, errW_some] <;> rfl) | (simp [*, errW_none, errW_some] <;> rfl), zzq⟩
  ·rw [if_neg c4] at H; have c4b0 : decide (0 ≤ a0_1) = false := decide_eq_false c4; clear c4; obtain rfl := Option.some.inj H
   go_enter Try.func48, Try.ntmps48
   go_wp2_with (first | ((with_reducible refine gate_dst (N := 2) rfl ?_); refine box_event (by rfl) (N := 2) (by rfl) (cs := #[.int .i64 a0_0, .int .i64 a0_1, .int .i64 a0_2]) (t := 56) zzh ?_; intro gb198 hg w10 hbox hb; have n0_ := Aside0.mk (below_step zzq hb); have n1_ := Aside0.mk (hbox); have n2_ := Aside0.mk ((zzg hg zzq)); have n3_ := Aside0.mk ((zzg hg zzq)); clear HB; have HB := n0_; have BK198 := n1_; have GW198 := n2_; have GE198 := n3_; clear n0_ n1_ n2_ n3_; clear hb hbox hg; have hcz11_0 : w10.cell? ⟨gb198, 0, none⟩ = some (.int .i64 a0_0) := (blk_cell BK198.out 0).trans rfl; have hcz11_1 : w10.cell? ⟨gb198, 1, none⟩ = some (.int .i64 a0_1) := (blk_cell BK198.out 1).trans rfl; have hcz11_2 : w10.cell? ⟨gb198, 2, none⟩ = some (.int .i64 a0_2) := (blk_cell BK198.out 2).trans rfl; have hfz11_0 := blk_frozen BK198.out 0; have hfz11_1 := blk_frozen BK198.out 1; have hfz11_2 := blk_frozen BK198.out 2))
   go_ret
   exact ⟨by first | rfl | (simp [errW_none, errW_some] <;> rfl) | (simp [*, errW_none, errW_some] <;> rfl), zzq⟩
 ·rw [if_neg c3] at H; have c3b0 : (a0_0 == (-1)) = false := beq_eq_false_iff_ne.mpr c3; have c3b1 : (a0_0 != (-1)) = true := bne_iff_ne.mpr c3
  by_cases c12 : a0_0 ≥ 0
  ·rw [if_pos c12] at H; have c12b0 : decide (0 ≤ a0_0) = true := decide_eq_true c12; clear c12
   by_cases c13 : a0_0 < a1
   ·rw [if_pos c13] at H; have c13b0 : decide (a0_0 < a1) = true := decide_eq_true c13; clear c13
    by_cases c14 : a0_1 = 0
    ·rw [if_pos c14] at H; have c14b0 : (a0_1 == 0) = true := beq_iff_eq.mpr c14; have c14b1 : (a0_1 != 0) = false := bne_eq_false_iff_eq.mpr c14; clear c14; obtain rfl := Option.some.inj H
     go_enter Try.func48, Try.ntmps48
     go_wp2_with (first | ((with_reducible refine gate_dst (N := 2) rfl ?_); refine box_event (by rfl) (N := 2) (by rfl) (cs := #[.int .i64 a0_0, .int .i64 a0_1, .int .i64 a0_2]) (t := 56) zzh ?_; intro gb198 hg w15 hbox hb; have n0_ := Aside0.mk (below_step zzq hb); have n1_ := Aside0.mk (hbox); have n2_ := Aside0.mk ((zzg hg zzq)); have n3_ := Aside0.mk ((zzg hg zzq)); clear HB; have HB := n0_; have BK198 := n1_; have GW198 := n2_; have GE198 := n3_; clear n0_ n1_ n2_ n3_; clear hb hbox hg; have hcz16_0 : w15.cell? ⟨gb198, 0, none⟩ = some (.int .i64 a0_0) := (blk_cell BK198.out 0).trans rfl; have hcz16_1 : w15.cell? ⟨gb198, 1, none⟩ = some (.int .i64 a0_1) := (blk_cell BK198.out 1).trans rfl; have hcz16_2 : w15.cell? ⟨gb198, 2, none⟩ = some (.int .i64 a0_2) := (blk_cell BK198.out 2).trans rfl; have hfz16_0 := blk_frozen BK198.out 0; have hfz16_1 := blk_frozen BK198.out 1; have hfz16_2 := blk_frozen BK198.out 2))
     go_ret
     exact ⟨by first | rfl | (simp [errW_none, errW_some] <;> rfl) | (simp [*, errW_none, errW_some] <;> rfl), zzq⟩
    ·rw [if_neg c14] at H; have c14b0 : (a0_1 == 0) = false := beq_eq_false_iff_ne.mpr c14; have c14b1 : (a0_1 != 0) = true := bne_iff_ne.mpr c14; obtain rfl := Option.some.inj H
     go_enter Try.func48, Try.ntmps48
     go_wp2_with (first | ((with_reducible refine gate_dst (N := 2) rfl ?_); refine box_event (by rfl) (N := 2) (by rfl) (cs := #[.int .i64 a0_0, .int .i64 a0_1, .int .i64 a0_2]) (t := 56) zzh ?_; intro gb198 hg w17 hbox hb; have n0_ := Aside0.mk (below_step zzq hb); have n1_ := Aside0.mk (hbox); have n2_ := Aside0.mk ((zzg hg zzq)); have n3_ := Aside0.mk ((zzg hg zzq)); clear HB; have HB := n0_; have BK198 := n1_; have GW198 := n2_; have GE198 := n3_; clear n0_ n1_ n2_ n3_; clear hb hbox hg; have hcz18_0 : w17.cell? ⟨gb198, 0, none⟩ = some (.int .i64 a0_0) := (blk_cell BK198.out 0).trans rfl; have hcz18_1 : w17.cell? ⟨gb198, 1, none⟩ = some (.int .i64 a0_1) := (blk_cell BK198.out 1).trans rfl; have hcz18_2 : w17.cell? ⟨gb198, 2, none⟩ = some (.int .i64 a0_2) := (blk_cell BK198.out 2).trans rfl; have hfz18_0 := blk_frozen BK198.out 0; have hfz18_1 := blk_frozen BK198.out 1; have hfz18_2 := blk_frozen BK198.out 2))
     go_ret
     exact ⟨by first | rfl | (simp [errW_none, errW_some] <;> rfl) | (simp [*, errW_none, errW_some] <;> rfl), zzq⟩
   ·rw [if_neg c13] at H; have c13b0 : decide (a0_0 < a1) = false := decide_eq_false c13; clear c13; obtain rfl := Option.some.inj H
    go_enter Try.func48, Try.ntmps48
    go_wp2_with (first | ((with_reducible refine gate_dst (N := 2) rfl ?_); refine box_event (by rfl) (N := 2) (by rfl) (cs := #[.int .i64 a0_0, .int .i64 a0_1, .int .i64 a0_2]) (t := 56) zzh ?_; intro gb198 hg w19 hbox hb; have n0_ := Aside0.mk (below_step zzq hb); have n1_ := Aside0.mk (hbox); have n2_ := Aside0.mk ((zzg hg zzq)); have n3_ := Aside0.mk ((zzg hg zzq)); clear HB; have HB := n0_; have BK198 := n1_; have GW198 := n2_; have GE198 := n3_; clear n0_ n1_ n2_ n3_; clear hb hbox hg; have hcz20_0 : w19.cell? ⟨gb198, 0, none⟩ = some (.int .i64 a0_0) := (blk_cell BK198.out 0).trans rfl; have hcz20_1 : w19.cell? ⟨gb198, 1, none⟩ = some (.int .i64 a0_1) := (blk_cell BK198.out 1).trans rfl; have hcz20_2 : w19.cell? ⟨gb198, 2, none⟩ = some (.int .i64 a0_2) := (blk_cell BK198.out 2).trans rfl; have hfz20_0 := blk_frozen BK198.out 0; have hfz20_1 := blk_frozen BK198.out 1; have hfz20_2 := blk_frozen BK198.out 2))
    go_ret
    exact ⟨by first | rfl | (simp [errW_none, errW_some] <;> rfl) | (simp [*, errW_none, errW_some] <;> rfl), zzq⟩
  ·rw [if_neg c12] at H; have c12b0 : decide (0 ≤ a0_0) = false := decide_eq_false c12; clear c12; obtain rfl := Option.some.inj H
   go_enter Try.func48, Try.ntmps48
   go_wp2_with (first | ((with_reducible refine gate_dst (N := 2) rfl ?_); refine box_event (by rfl) (N := 2) (by rfl) (cs := #[.int .i64 a0_0, .int .i64 a0_1, .int .i64 a0_2]) (t := 56) zzh ?_; intro gb198 hg w21 hbox hb; have n0_ := Aside0.mk (below_step zzq hb); have n1_ := Aside0.mk (hbox); have n2_ := Aside0.mk ((zzg hg zzq)); have n3_ := Aside0.mk ((zzg hg zzq)); clear HB; have HB := n0_; have BK198 := n1_; have GW198 := n2_; have GE198 := n3_; clear n0_ n1_ n2_ n3_; clear hb hbox hg; have hcz22_0 : w21.cell? ⟨gb198, 0, none⟩ = some (.int .i64 a0_0) := (blk_cell BK198.out 0).trans rfl; have hcz22_1 : w21.cell? ⟨gb198, 1, none⟩ = some (.int .i64 a0_1) := (blk_cell BK198.out 1).trans rfl; have hcz22_2 : w21.cell? ⟨gb198, 2, none⟩ = some (.int .i64 a0_2) := (blk_cell BK198.out 2).trans rfl; have hfz22_0 := blk_frozen BK198.out 0; have hfz22_1 := blk_frozen BK198.out 1; have hfz22_2 := blk_frozen BK198.out 2))
   go_ret
   exact ⟨by first | rfl | (simp [errW_none, errW_some] <;> rfl) | (simp [*, errW_none, errW_some] <;> rfl), zzq⟩

/-! ### templeref1_ruleMay: function 38 -/
mutual
def templeref1_ruleMay.j0 : Nat → Int → Int → Bool → Int → List (S54) → Option (Int × Bool)
 | 0, _, _, _, _, _ => none
 | k + 1, x1, x6, x19, x200000, x200001 => if x19 = true then (some (0, false)) else (templeref1_ruleMay.l0 k x1 x6 0 x200000 x200001)
def templeref1_ruleMay.l0 : Nat → Int → Int → Int → Int → List (S54) → Option (Int × Bool)
 | 0, _, _, _, _, _ => none
 | k + 1, x1, x6, x7, x200000, x200001 => if x7 < (x200001.length : Int) then (if 0 ≤ x7 then (if (((rd_T54 x200001 x7).f1).length : Int) > 64 then (some (0, false)) else (templeref1_ruleMay.l1 k x1 x6 x7 ((rd_T54 x200001 x7).f1) 0 x200000 x200001)) else (none)) else (some (x6, true))
def templeref1_ruleMay.l1 : Nat → Int → Int → Int → List (S56) → Int → Int → List (S54) → Option (Int × Bool)
 | 0, _, _, _, _, _, _, _ => none
 | k + 1, x1, x6, x7, x8, x9, x200000, x200001 => if x9 < (x8.length : Int) then (if 0 ≤ x9 then ((templeref1_symbolMay.f ((rd_T56 x8 x9).f0) ((rd_T56 x8 x9).f1) ((rd_T56 x8 x9).f2) x1).bind fun t202 => (if t202 = true then (templeref1_ruleMay.l1 k x1 x6 x7 x8 (wrap64 (x9 + 1)) x200000 x200001) else (some (0, false)))) else (none)) else (templeref1_ruleMay.l0 k x1 (wrap64 (x6 + (x8.length : Int))) (wrap64 (x7 + 1)) x200000 x200001)
end
def templeref1_ruleMay.f (k : Nat) (a0_0 : Int) (l0_1 : List (S54)) (a1 : Int) : Option (Int × Bool) := if (l0_1.length : Int) < 1 then (templeref1_ruleMay.j0 k a1 0 true a0_0 l0_1) else (templeref1_ruleMay.j0 k a1 0 (decide ((l0_1.length : Int) > 8)) a0_0 l0_1)
theorem templeref1_ruleMay.mono_l : ∀ k, (∀ y0 y1 y2 y3 y4, LeO (templeref1_ruleMay.j0 k y0 y1 y2 y3 y4) (templeref1_ruleMay.j0 (k + 1) y0 y1 y2 y3 y4)) ∧ (∀ y0 y1 y2 y3 y4, LeO (templeref1_ruleMay.l0 k y0 y1 y2 y3 y4) (templeref1_ruleMay.l0 (k + 1) y0 y1 y2 y3 y4)) ∧ (∀ y0 y1 y2 y3 y4 y5 y6, LeO (templeref1_ruleMay.l1 k y0 y1 y2 y3 y4 y5 y6) (templeref1_ruleMay.l1 (k + 1) y0 y1 y2 y3 y4 y5 y6))
 | 0 => ⟨fun _ _ _ _ _ r h => by simp [templeref1_ruleMay.j0] at h, fun _ _ _ _ _ r h => by simp [templeref1_ruleMay.l0] at h, fun _ _ _ _ _ _ _ r h => by simp [templeref1_ruleMay.l1] at h⟩
 | k + 1 => by
  obtain ⟨ih0, ih1, ih2⟩ := templeref1_ruleMay.mono_l k
  refine ⟨?_, ?_, ?_⟩
  ·intro y0 y1 y2 y3 y4
   unfold templeref1_ruleMay.j0
   repeat' first
   | (with_reducible exact ih0 _ _ _ _ _)
   | (with_reducible exact ih1 _ _ _ _ _)
   | (with_reducible exact ih2 _ _ _ _ _ _ _)
   | (with_reducible exact LeO.refl _)
   | (with_reducible exact LeO.none _)
   | (with_reducible refine LeO.ite ?_ ?_)
   | (with_reducible refine LeO.bind ?_ (fun _ => ?_))
   | exact ih0 _ _ _ _ _
   | exact ih1 _ _ _ _ _
   | exact ih2 _ _ _ _ _ _ _
   | exact LeO.none _
   | refine LeO.ite ?_ ?_
   | refine LeO.bind ?_ (fun _ => ?_)
  ·intro y0 y1 y2 y3 y4
   unfold templeref1_ruleMay.l0
   repeat' first
   | (with_reducible exact ih0 _ _ _ _ _)
   | (with_reducible exact ih1 _ _ _ _ _)
   | (with_reducible exact ih2 _ _ _ _ _ _ _)
   | (with_reducible exact LeO.refl _)
   | (with_reducible exact LeO.none _)
   | (with_reducible refine LeO.ite ?_ ?_)
   | (with_reducible refine LeO.bind ?_ (fun _ => ?_))
   | exact ih0 _ _ _ _ _
   | exact ih1 _ _ _ _ _
   | exact ih2 _ _ _ _ _ _ _
   | exact LeO.none _
   | refine LeO.ite ?_ ?_
   | refine LeO.bind ?_ (fun _ => ?_)
  ·intro y0 y1 y2 y3 y4 y5 y6
   unfold templeref1_ruleMay.l1
   repeat' first
   | (with_reducible exact ih0 _ _ _ _ _)
   | (with_reducible exact ih1 _ _ _ _ _)
   | (with_reducible exact ih2 _ _ _ _ _ _ _)
   | (with_reducible exact LeO.refl _)
   | (with_reducible exact LeO.none _)
   | (with_reducible refine LeO.ite ?_ ?_)
   | (with_reducible refine LeO.bind ?_ (fun _ => ?_))
   | exact ih0 _ _ _ _ _
   | exact ih1 _ _ _ _ _
   | exact ih2 _ _ _ _ _ _ _
   | exact LeO.none _
   | refine LeO.ite ?_ ?_
   | refine LeO.bind ?_ (fun _ => ?_)
theorem templeref1_ruleMay.mono : ∀ a0 a1 a2 k, LeO (templeref1_ruleMay.f k a0 a1 a2) (templeref1_ruleMay.f (k + 1) a0 a1 a2) := by
 intro a0 a1 a2 k
 obtain ⟨ih0, ih1, ih2⟩ := templeref1_ruleMay.mono_l k
 unfold templeref1_ruleMay.f
 repeat' first
   | (with_reducible exact ih0 _ _ _ _ _)
   | (with_reducible exact ih1 _ _ _ _ _)
   | (with_reducible exact ih2 _ _ _ _ _ _ _)
   | (with_reducible exact LeO.refl _)
   | (with_reducible exact LeO.none _)
   | (with_reducible refine LeO.ite ?_ ?_)
   | (with_reducible refine LeO.bind ?_ (fun _ => ?_))
   | exact ih0 _ _ _ _ _
   | exact ih1 _ _ _ _ _
   | exact ih2 _ _ _ _ _ _ _
   | exact LeO.none _
   | refine LeO.ite ?_ ?_
   | refine LeO.bind ?_ (fun _ => ?_)
set_option maxHeartbeats 8000000 in
set_option maxRecDepth 100000 in
theorem templeref1_ruleMay.calls (k : Nat) (a0_0 : Int) (A0_1 : Option Addr) (c0_1 : Nat) (l0_1 : List (S54)) (a1 : Int) (r1 : Int) (r2 : Bool) (w : World) (hr0_1 : Kd.C k54 w A0_1 l0_1.length l0_1) (hc0_1 : l0_1.length ≤ c0_1) (h : templeref1_ruleMay.f k a0_0 l0_1 a1 = some (r1, r2)) :
  Calls Try.prog 38 #[.agg #[.int .i64 a0_0, .slice A0_1 l0_1.length c0_1], .int .i64 a1] w fun e w' => e = .returned (.tuple #[.int .i64 r1, .bool r2]) ∧ Below w.heap.size w w' := by
 have hu51 := Try.underlying51; have hu56 := Try.underlying56; have HR0_1 := Aside0.mk hr0_1; have HC0_1 := Aside0.mk hc0_1; clear hr0_1 hc0_1
 have HB := Aside0.mk (Below.refl w.heap.size w)
 have H : (if (l0_1.length : Int) < 1 then (templeref1_ruleMay.j0 k a1 0 true a0_0 l0_1) else (templeref1_ruleMay.j0 k a1 0 (decide ((l0_1.length : Int) > 8)) a0_0 l0_1)) = some (r1, r2) := h
 clear h; have HC3 := Aside0.mk H; clear H
 go_enter Try.func38, Try.ntmps38
 go_upto_region 2 with (first | ((with_reducible refine gate_dst (N := 2) rfl ?_); (try (refine gate_guard (by rfl) ?_; dsimp only)); refine box_event (by rfl) (N := 2) (by rfl) (cs := #[.int .i64 a0_0, .slice A0_1 l0_1.length c0_1]) (t := 51) zzh ?_; intro gb199 hg w4 hbox hb; have n0_ := Aside0.mk (below_step zzq hb); have n1_ := Aside0.mk (hbox); have n2_ := Aside0.mk ((zzg hg zzq)); have n3_ := Aside0.mk ((zzg hg zzq)); clear HB; have HB := n0_; have BK199 := n1_; have GW199 := n2_; have GE199 := n3_; clear n0_ n1_ n2_ n3_; clear hb hbox hg))
 (try simp only [Act.put, s1, s2, s3])
 go_cut [19] (fun v19 wc => ∃ (kq : Nat) (x19_2 : Bool), v19 = .bool x19_2 ∧ Aside0 (templeref1_ruleMay.j0 kq a1 0 x19_2 a0_0 l0_1 = some (r1, r2)) ∧ Aside0 (kq ≤ k) ∧ Aside0 (wc.heap[gb199]? = some (.cells #[.int .i64 a0_0, (.slice A0_1 l0_1.length c0_1)] 51 (0, 0))) ∧ Aside0 (Below w.heap.size w wc))
 case first =>
  have H := HC3.out; clear HC3
  by_cases c5 : (l0_1.length : Int) < 1
  ·rw [if_pos c5] at H; have c5b0 : decide ((l0_1.length : Int) < 1) = true := decide_eq_true c5
   have c5b1 : decide (l0_1.length < 1) = true := decide_eq_true (by omega)
   clear c5
   (first | rw [c5b0] | (simp only [i64_w, i32_w]; rw [c5b0]) | skip)
   have H' := Aside0.mk H; clear H
   have hcz6_0 : w4.cell? ⟨gb199, 0, none⟩ = some (.int .i64 a0_0) := (blk_cell BK199.out 0).trans rfl
   have hcz6_1 : w4.cell? ⟨gb199, 1, none⟩ = some (.slice A0_1 l0_1.length c0_1) := (blk_cell BK199.out 1).trans rfl
   have hfz6_0 := blk_frozen BK199.out 0; have hfz6_1 := blk_frozen BK199.out 1; go_wp2
   go_meet
   case rel => exact ⟨_, (true), zz0, H', ⟨by first | omega | exact Nat.le_refl _⟩, ⟨zzb BK199⟩, ⟨zzq⟩⟩
  ·rw [if_neg c5] at H; have c5b0 : decide ((l0_1.length : Int) < 1) = false := decide_eq_false c5
   have c5b1 : decide (l0_1.length < 1) = false := decide_eq_false (by omega)
   clear c5
   (first | rw [c5b0] | (simp only [i64_w, i32_w]; rw [c5b0]) | skip)
   have H' := Aside0.mk H; clear H
   have hcz7_0 : w4.cell? ⟨gb199, 0, none⟩ = some (.int .i64 a0_0) := (blk_cell BK199.out 0).trans rfl
   have hcz7_1 : w4.cell? ⟨gb199, 1, none⟩ = some (.slice A0_1 l0_1.length c0_1) := (blk_cell BK199.out 1).trans rfl
   have hfz7_0 := blk_frozen BK199.out 0; have hfz7_1 := blk_frozen BK199.out 1; go_wp2
   go_meet
   case rel => exact ⟨_, (decide ((l0_1.length : Int) > 8)), zz0, H', ⟨by first | omega | exact Nat.le_refl _⟩, ⟨zzb BK199⟩, ⟨zzq⟩⟩
 case rest =>
  clear HC3; (try clear p2); (try clear c3); (try clear c5); (try clear c5b0); (try clear c5b1); (try clear hcz6_0); (try clear hcz6_1); (try clear hcz7_0); (try clear hcz7_1); (try clear hfz6_0); (try clear hfz6_1); (try clear hfz7_0); (try clear hfz7_1); obtain ⟨kq, x19_2, rfl, HA, HJ2, BK199, HB⟩ := hcut
  cases kq with
  | zero => exact absurd HA.out (by simp [templeref1_ruleMay.j0])
  | succ kj2 =>
   have H := HA.out; clear HA
   simp only [templeref1_ruleMay.j0] at H
   by_cases c8 : x19_2 = true
   ·subst c8
    have H1 : (some (0, false)) = some (r1, r2) := by rw [if_pos rfl] at H; exact H
    clear H; have H := H1; clear H1
    simp only [Option.some.injEq, Prod.mk.injEq] at H
    obtain ⟨rfl, rfl⟩ := H; go_wp2; go_ret2
    exact ⟨by first | rfl | (simp [errW_none, errW_some] <;> rfl) | (simp [*, errW_none, errW_some] <;> rfl), zzq⟩
   ·replace c8 := Bool.eq_false_iff.mpr c8
    subst c8
    have H1 : (templeref1_ruleMay.l0 kj2 a1 0 0 a0_0 l0_1) = some (r1, r2) := by rw [if_neg (show ¬ (false = true) by decide)] at H; exact H
    clear H; have H := H1; clear H1; have H' := Aside0.mk H; clear H; go_wp2
    go_loopg [6, 7] kj2 (fun kq v6 v7 w' => ∃ (x6_2 : Int) (x7_2 : Int), v6 = .int .i64 x6_2 ∧ v7 = .int .i64 x7_2 ∧ Aside0 (templeref1_ruleMay.l0 kq a1 x6_2 x7_2 a0_0 l0_1 = some (r1, r2)) ∧ Aside0 (kq ≤ kj2) ∧ Aside0 (w'.heap[gb199]? = some (.cells #[.int .i64 a0_0, (.slice A0_1 l0_1.length c0_1)] 51 (0, 0))) ∧ Aside0 (Below w.heap.size w w'))
    case atStart => exact ⟨(0), (0), zz0, zz0, H', ⟨Nat.le_refl _⟩, ⟨zzb BK199⟩, ⟨zzq⟩⟩
    case round =>
     clear H'; (try clear p2); (try clear c3); (try clear c5); (try clear c5b0); (try clear c5b1); (try clear c8); (try clear hcz6_0); (try clear hcz6_1); (try clear hcz7_0); (try clear hcz7_1); (try clear hfz6_0); (try clear hfz6_1); (try clear hfz7_0); (try clear hfz7_1); (try clear p2); obtain ⟨x6_2, x7_2, rfl, rfl, HA, HK2, BK199, HB⟩ := hrel
     cases gk with
     | zero => exact absurd HA.out (by simp [templeref1_ruleMay.l0])
     | succ k2 =>
      have H := HA.out; clear HA
      simp only [templeref1_ruleMay.l0] at H
      by_cases c9 : x7_2 < (l0_1.length : Int)
      ·rw [if_pos c9] at H; have c9b0 : decide (x7_2 < (l0_1.length : Int)) = true := decide_eq_true c9; clear c9
       by_cases c10 : 0 ≤ x7_2
       ·rw [if_pos c10] at H; have c10b0 : decide (0 ≤ x7_2) = true := decide_eq_true c10; clear c10
        by_cases c11 : (((rd_T54 l0_1 x7_2).f1).length : Int) > 64
        ·rw [if_pos c11] at H; have c11b0 : decide (64 < (((rd_T54 l0_1 x7_2).f1).length : Int)) = true := decide_eq_true c11
         have c11b1 : decide (64 < ((rd_T54 l0_1 x7_2).f1).length) = true := decide_eq_true (by omega)
         clear c11
         simp only [Option.some.injEq, Prod.mk.injEq] at H
         obtain ⟨rfl, rfl⟩ := H
         have hcz12_0 : wr.cell? ⟨gb199, 0, none⟩ = some (.int .i64 a0_0) := (blk_cell BK199.out 0).trans rfl
         have hcz12_1 : wr.cell? ⟨gb199, 1, none⟩ = some (.slice A0_1 l0_1.length c0_1) := (blk_cell BK199.out 1).trans rfl
         have hfz12_0 := blk_frozen BK199.out 0; have hfz12_1 := blk_frozen BK199.out 1
         have p200 : 0 ≤ (x7_2 : Int) := of_decide_eq_true zz1
         have q200 : x7_2 < (l0_1.length : Int) := of_decide_eq_true zz1
         obtain ⟨ad200, A200_1, c200_1, e200, hx200_0, hx200_1, hl200_1, hi200_1⟩ := at_T54 HR0_1.out x7_2 p200 q200; cases e200
         replace hx200_0 := (HB.out.cell (World.block_lt_of_cell? w _ hx200_0)).trans hx200_0
         replace hx200_1 := (HB.out.cell (World.block_lt_of_cell? w _ hx200_1)).trans hx200_1
         have HR200_1 := Aside0.mk hi200_1; have HC200_1 := Aside0.mk hl200_1; clear hi200_1 hl200_1; replace p200 := eq_true p200; replace q200 := eq_true q200; go_wp2; go_ret2
         exact ⟨by first | rfl | (simp [errW_none, errW_some] <;> rfl) | (simp [*, errW_none, errW_some] <;> rfl), zzq⟩
        ·rw [if_neg c11] at H; have c11b0 : decide (64 < (((rd_T54 l0_1 x7_2).f1).length : Int)) = false := decide_eq_false c11
         have c11b1 : decide (64 < ((rd_T54 l0_1 x7_2).f1).length) = false := decide_eq_false (by omega)
         clear c11; have H' := Aside0.mk H; clear H
         have hcz13_0 : wr.cell? ⟨gb199, 0, none⟩ = some (.int .i64 a0_0) := (blk_cell BK199.out 0).trans rfl
         have hcz13_1 : wr.cell? ⟨gb199, 1, none⟩ = some (.slice A0_1 l0_1.length c0_1) := (blk_cell BK199.out 1).trans rfl
         have hfz13_0 := blk_frozen BK199.out 0; have hfz13_1 := blk_frozen BK199.out 1
         have p200 : 0 ≤ (x7_2 : Int) := of_decide_eq_true zz1
         have q200 : x7_2 < (l0_1.length : Int) := of_decide_eq_true zz1
         obtain ⟨ad200, A200_1, c200_1, e200, hx200_0, hx200_1, hl200_1, hi200_1⟩ := at_T54 HR0_1.out x7_2 p200 q200; cases e200
         replace hx200_0 := (HB.out.cell (World.block_lt_of_cell? w _ hx200_0)).trans hx200_0
         replace hx200_1 := (HB.out.cell (World.block_lt_of_cell? w _ hx200_1)).trans hx200_1
         have HR200_1 := Aside0.mk hi200_1; have HC200_1 := Aside0.mk hl200_1; clear hi200_1 hl200_1; replace p200 := eq_true p200; replace q200 := eq_true q200; go_wp2
         go_loopg [9] k2 (fun kq v9 w' => ∃ (x9_3 : Int), v9 = .int .i64 x9_3 ∧ Aside0 (templeref1_ruleMay.l1 kq a1 x6_2 x7_2 ((rd_T54 l0_1 x7_2).f1) x9_3 a0_0 l0_1 = some (r1, r2)) ∧ Aside0 (kq ≤ k2) ∧ Aside0 (w'.heap[gb199]? = some (.cells #[.int .i64 a0_0, (.slice (some ad200) l0_1.length c0_1)] 51 (0, 0))) ∧ Aside0 (Below w.heap.size w w'))
         case atStart => exact ⟨(0), zz0, H', ⟨Nat.le_refl _⟩, ⟨zzb BK199⟩, ⟨zzq⟩⟩
         case round =>
          clear H'; (try clear c1); (try clear c2); (try clear p2); (try clear q2); (try clear hx2); (try clear c3); (try clear c5); (try clear c5b0); (try clear c5b1); (try clear c8); (try clear c9); (try clear c9b0); (try clear c10); (try clear c10b0); (try clear c11); (try clear c11b0); (try clear c11b1); (try clear hcz12_0); (try clear hcz12_1); (try clear hcz13_0); (try clear hcz13_1); (try clear hcz6_0); (try clear hcz6_1); (try clear hcz7_0); (try clear hcz7_1); (try clear hfz12_0); (try clear hfz12_1); (try clear hfz13_0); (try clear hfz13_1); (try clear hfz6_0); (try clear hfz6_1); (try clear hfz7_0); (try clear hfz7_1); (try clear hx200_0); (try clear hx200_1); (try clear p2); (try clear p200); (try clear q200); obtain ⟨x9_3, rfl, HA, HK3, BK199, HB⟩ := hrel
          cases gk with
          | zero => exact absurd HA.out (by simp [templeref1_ruleMay.l1])
          | succ k3 =>
           have H := HA.out; clear HA
           simp only [templeref1_ruleMay.l1] at H
           by_cases c14 : x9_3 < (((rd_T54 l0_1 x7_2).f1).length : Int)
           ·rw [if_pos c14] at H; have c14b0 : decide (x9_3 < (((rd_T54 l0_1 x7_2).f1).length : Int)) = true := decide_eq_true c14; clear c14
            by_cases c15 : 0 ≤ x9_3
            ·rw [if_pos c15] at H; have c15b0 : decide (0 ≤ x9_3) = true := decide_eq_true c15; clear c15; replace H := Option.bind_eq_some_iff.mp H; obtain ⟨t202, A160, H⟩ := H
             replace H : (if t202 = true then (templeref1_ruleMay.l1 k3 a1 x6_2 x7_2 ((rd_T54 l0_1 x7_2).f1) (wrap64 (x9_3 + 1)) a0_0 l0_1) else (some (0, false))) = some (r1, r2) := H
             have A16 := Aside0.mk A160; clear A160
             by_cases c17 : t202 = true
             ·subst c17
              have H1 : (templeref1_ruleMay.l1 k3 a1 x6_2 x7_2 ((rd_T54 l0_1 x7_2).f1) (wrap64 (x9_3 + 1)) a0_0 l0_1) = some (r1, r2) := by rw [if_pos rfl] at H; exact H
              clear H; have H := H1; clear H1; have H' := Aside0.mk H; clear H
              have p201 : 0 ≤ (x9_3 : Int) := of_decide_eq_true zz1
              have q201 : x9_3 < (((rd_T54 l0_1 x7_2).f1).length : Int) := of_decide_eq_true zz1
              obtain ⟨ad201, e201, hx201_0, hx201_1, hx201_2⟩ := at_T56 HR200_1.out x9_3 p201 q201; cases e201
              replace hx201_0 := (HB.out.cell (World.block_lt_of_cell? w _ hx201_0)).trans hx201_0
              replace hx201_1 := (HB.out.cell (World.block_lt_of_cell? w _ hx201_1)).trans hx201_1
              replace hx201_2 := (HB.out.cell (World.block_lt_of_cell? w _ hx201_2)).trans hx201_2
              replace p201 := eq_true p201; replace q201 := eq_true q201
              go_wp2_with (first | ((with_reducible refine gate_callee (f := 48) rfl ?_); refine goesL_ (some 47) rfl rfl Try.func48 (by kernel_rfl) rfl #[.agg #[.int .i64 ((rd_T56 ((rd_T54 l0_1 x7_2).f1) x9_3).f0), .int .i64 ((rd_T56 ((rd_T54 l0_1 x7_2).f1) x9_3).f1), .int .i64 ((rd_T56 ((rd_T54 l0_1 x7_2).f1) x9_3).f2)], .int .i64 a1] rfl zz2 ?_; (with_reducible refine (templeref1_symbolMay.calls ((rd_T56 ((rd_T54 l0_1 x7_2).f1) x9_3).f0) ((rd_T56 ((rd_T54 l0_1 x7_2).f1) x9_3).f1) ((rd_T56 ((rd_T54 l0_1 x7_2).f1) x9_3).f2) a1 true _ A16.out).mono ?_); rintro e w18 ⟨rfl, hb⟩; refine ⟨_, rfl, ?_⟩; have n0_ := Aside0.mk (blk_below (g := gb199) (o := .cells #[.int .i64 a0_0, .slice (some ad200) l0_1.length c0_1] 51 (0, 0)) (zzb BK199) hb); have n1_ := Aside0.mk (below_step zzq hb); clear BK199; clear HB; have BK199 := n0_; have HB := n1_; clear n0_ n1_; (try clear hb)))
              go_roundg k3
              case measure => have := HJ2.out; have := HK2.out; have := HK3.out; omega
              case rel => exact ⟨(wrap64 (x9_3 + 1)), zz0, H', ⟨by have := HJ2.out; have := HK2.out; have := HK3.out; omega⟩, ⟨zzb BK199⟩, ⟨zzq⟩⟩
             ·replace c17 := Bool.eq_false_iff.mpr c17
              subst c17
              have H1 : (some (0, false)) = some (r1, r2) := by rw [if_neg (show ¬ (false = true) by decide)] at H; exact H
              clear H; have H := H1; clear H1
              simp only [Option.some.injEq, Prod.mk.injEq] at H
              obtain ⟨rfl, rfl⟩ := H
              have p201 : 0 ≤ (x9_3 : Int) := of_decide_eq_true zz1
              have q201 : x9_3 < (((rd_T54 l0_1 x7_2).f1).length : Int) := of_decide_eq_true zz1
              obtain ⟨ad201, e201, hx201_0, hx201_1, hx201_2⟩ := at_T56 HR200_1.out x9_3 p201 q201; cases e201
              replace hx201_0 := (HB.out.cell (World.block_lt_of_cell? w _ hx201_0)).trans hx201_0
              replace hx201_1 := (HB.out.cell (World.block_lt_of_cell? w _ hx201_1)).trans hx201_1
              replace hx201_2 := (HB.out.cell (World.block_lt_of_cell? w _ hx201_2)).trans hx201_2
              replace p201 := eq_true p201; replace q201 := eq_true q201
              go_wp2_with (first | ((with_reducible refine gate_callee (f := 48) rfl ?_); refine goesL_ (some 47) rfl rfl Try.func48 (by kernel_rfl) rfl #[.agg #[.int .i64 ((rd_T56 ((rd_T54 l0_1 x7_2).f1) x9_3).f0), .int .i64 ((rd_T56 ((rd_T54 l0_1 x7_2).f1) x9_3).f1), .int .i64 ((rd_T56 ((rd_T54 l0_1 x7_2).f1) x9_3).f2)], .int .i64 a1] rfl zz2 ?_; (with_reducible refine (templeref1_symbolMay.calls ((rd_T56 ((rd_T54 l0_1 x7_2).f1) x9_3).f0) ((rd_T56 ((rd_T54 l0_1 x7_2).f1) x9_3).f1) ((rd_T56 ((rd_T54 l0_1 x7_2).f1) x9_3).f2) a1 false _ A16.out).mono ?_); rintro e w19 ⟨rfl, hb⟩; refine ⟨_, rfl, ?_⟩; have n0_ := Aside0.mk (blk_below (g := gb199) (o := .cells #[.int .i64 a0_0, .slice (some ad200) l0_1.length c0_1] 51 (0, 0)) (zzb BK199) hb); have n1_ := Aside0.mk (below_step zzq hb); clear BK199; clear HB; have BK199 := n0_; have HB := n1_; clear n0_ n1_; (try clear hb)))
              go_ret2
              exact ⟨by first | rfl | (simp [errW_none, errW_some] <;> rfl) | (simp [*, errW_none, errW_some] <;> rfl), zzq⟩
            ·rw [if_neg c15] at H
             exact absurd H (by simp)
           ·rw [if_neg c14] at H; have c14b0 : decide (x9_3 < (((rd_T54 l0_1 x7_2).f1).length : Int)) = false := decide_eq_false c14; clear c14; have H' := Aside0.mk H; clear H; go_wp2; go_roundg k3
            case measure => have := HJ2.out; have := HK2.out; have := HK3.out; omega
            case rel => exact ⟨(wrap64 (x6_2 + (((rd_T54 l0_1 x7_2).f1).length : Int))), (wrap64 (x7_2 + 1)), zz0, zz0, H', ⟨by have := HJ2.out; have := HK2.out; have := HK3.out; omega⟩, ⟨zzb BK199⟩, ⟨zzq⟩⟩
       ·rw [if_neg c10] at H
        exact absurd H (by simp)
      ·rw [if_neg c9] at H; have c9b0 : decide (x7_2 < (l0_1.length : Int)) = false := decide_eq_false c9; clear c9
       simp only [Option.some.injEq, Prod.mk.injEq] at H
       obtain ⟨rfl, rfl⟩ := H
       have hcz20_0 : wr.cell? ⟨gb199, 0, none⟩ = some (.int .i64 a0_0) := (blk_cell BK199.out 0).trans rfl
       have hcz20_1 : wr.cell? ⟨gb199, 1, none⟩ = some (.slice A0_1 l0_1.length c0_1) := (blk_cell BK199.out 1).trans rfl
       have hfz20_0 := blk_frozen BK199.out 0; have hfz20_1 := blk_frozen BK199.out 1; go_wp2; go_ret2
       exact ⟨by first | rfl | (simp [errW_none, errW_some] <;> rfl) | (simp [*, errW_none, errW_some] <;> rfl), zzq⟩

end Go.Proofs.Ytdjnpgigdchfkaa.PBS
