-- written by a program of the session's (wip/myprint.py) out of the translation
import Derived.Test.YtdjnpgigdchfkaaPGLx0
import Derived.Test.YtdjnpgigdchfkaaPGLx2
import Derived.Test.YtdjnpgigdchfkaaPGLx3
import Derived.Test.YtdjnpgigdchfkaaPGLx9
namespace Go.Proofs.Ytdjnpgigdchfkaa.PGL
open Go.RowKit Go.Proofs.YtdjnpgigdchfkaaW.PrintWords Go.Proofs.YtdjnpgigdchfkaaW.PrintLast Go.Proofs.YtdjnpgigdchfkaaW.PrintMore
attribute [local go_sem] max2_int min2_int max_two min_two max_three min_three max_four min_four   -- for this text's walks alone
set_option linter.unusedVariables false
set_option linter.unusedSimpArgs false

/-! ### templelaw4_GramLimits: function 6 -/
mutual
def templelaw4_GramLimits.l0 : Nat → Int → Int → Int → Int → Int → List ByteArray → List (S51) → Option (Bool)
 | 0, _, _, _, _, _, _, _ => none
 | k + 1, x0, x1, x5, x7, x266000, x266001, x266002 => if x7 < x5 then (if x266002.length < 4398046511104 then (templelaw4_GramLimits.l0 k x0 x1 x5 (wrap64 (x7 + 1)) x266000 x266001 (x266002 ++ [(⟨0, (([(⟨false, ([] : List (S56))⟩ : S54)] : List (S54)))⟩ : S51)])) else (none)) else (templelaw4_GramLimits.l1 k x0 x1 x5 (wrap64 (1022 + (Go.bits .and .i64 x1 3))) (wrap64 (1022 + (Go.bits .and .i64 x1 3))) x266000 x266001 x266002 0 (([(⟨#[83]⟩ : ByteArray)] : List ByteArray)) ([] : List (S51)))
def templelaw4_GramLimits.l1 : Nat → Int → Int → Int → Int → Int → Int → List ByteArray → List (S51) → Int → List ByteArray → List (S51) → Option (Bool)
 | 0, _, _, _, _, _, _, _, _, _, _, _ => none
 | k + 1, x0, x1, x5, x9, x10, x266000, x266001, x266002, x276000, x276001, x276002 => if x9 > 0 then (if 0 ≤ (mn x9 64) then (if (mn x9 64 : Int).toNat ≤ 11728124029610 then (if x276002.length < 4398046511104 then (templelaw4_GramLimits.l1 k x0 x1 x5 (wrap64 (x9 - (mn x9 64))) x10 x266000 x266001 x266002 x276000 x276001 (x276002 ++ [(⟨0, (([(⟨false, (List.replicate (mn x9 64 : Int).toNat z56)⟩ : S54)] : List (S54)))⟩ : S51)])) else (none)) else (none)) else (none)) else (templelaw4_GramLimits.l2 k x5 x10 (wrap64 ((wrap64 (63 + (Go.bits .and .i64 x0 1))) + (Go.bits .and .i64 x1 1))) 0 x266000 x266001 x266002 x276000 x276001 x276002 0 ([] : List ByteArray) ([] : List (S51)))
def templelaw4_GramLimits.l2 : Nat → Int → Int → Int → Int → Int → List ByteArray → List (S51) → Int → List ByteArray → List (S51) → Int → List ByteArray → List (S51) → Option (Bool)
 | 0, _, _, _, _, _, _, _, _, _, _, _, _, _ => none
 | k + 1, x5, x10, x13, x14, x266000, x266001, x266002, x276000, x276001, x276002, x286000, x286001, x286002 => if x14 < x13 then ((templeref0_Decimal.f k x14).bind fun t286 => (if 1 + t286.size ≤ 9223372036854775807 then (if x286001.length < 8796093022208 then (if x286002.length < 4398046511104 then (templelaw4_GramLimits.l2 k x5 x10 x13 (wrap64 (x14 + 1)) x266000 x266001 x266002 x276000 x276001 x276002 x286000 (x286001 ++ [(⟨#[110]⟩ : ByteArray) ++ t286]) (x286002 ++ [(⟨x14, (([(⟨false, ([] : List (S56))⟩ : S54)] : List (S54)))⟩ : S51)])) else (none)) else (none)) else (none))) else ((gram_May.f x266000 x266001 x266002).bind fun t296 => (if (t296 == (decide (x5 ≤ 256))) = true then ((gram_May.f x276000 x276001 x276002).bind fun t297 => (if (t297 == (decide (x10 ≤ 1024))) = true then ((gram_May.f x286000 x286001 x286002).bind fun t298 => (if (t298 == (decide (x13 ≤ 64))) = true then ((templelaw0_Num.f 0).bind fun t299 => (some (t299 == 0))) else (none))) else (none))) else (none)))
end
def templelaw4_GramLimits.f (k : Nat) (a0 : Int) (a1 : Int) : Option (Bool) := (templelaw4_awake.f k).bind fun t261 => (if t261 = true then (templelaw4_GramLimits.l0 k a0 a1 (wrap64 (254 + (Go.bits .and .i64 a0 3))) 0 0 (([(⟨#[83]⟩ : ByteArray)] : List ByteArray)) ([] : List (S51))) else (none))
theorem templelaw4_GramLimits.mono_l : ∀ k, (∀ y0 y1 y2 y3 y4 y5 y6, LeO (templelaw4_GramLimits.l0 k y0 y1 y2 y3 y4 y5 y6) (templelaw4_GramLimits.l0 (k + 1) y0 y1 y2 y3 y4 y5 y6)) ∧ (∀ y0 y1 y2 y3 y4 y5 y6 y7 y8 y9 y10, LeO (templelaw4_GramLimits.l1 k y0 y1 y2 y3 y4 y5 y6 y7 y8 y9 y10) (templelaw4_GramLimits.l1 (k + 1) y0 y1 y2 y3 y4 y5 y6 y7 y8 y9 y10)) ∧ (∀ y0 y1 y2 y3 y4 y5 y6 y7 y8 y9 y10 y11 y12, LeO (templelaw4_GramLimits.l2 k y0 y1 y2 y3 y4 y5 y6 y7 y8 y9 y10 y11 y12) (templelaw4_GramLimits.l2 (k + 1) y0 y1 y2 y3 y4 y5 y6 y7 y8 y9 y10 y11 y12))
 | 0 => ⟨fun _ _ _ _ _ _ _ r h => by simp [templelaw4_GramLimits.l0] at h, fun _ _ _ _ _ _ _ _ _ _ _ r h => by simp [templelaw4_GramLimits.l1] at h, fun _ _ _ _ _ _ _ _ _ _ _ _ _ r h => by simp [templelaw4_GramLimits.l2] at h⟩
 | k + 1 => by
  obtain ⟨ih0, ih1, ih2⟩ := templelaw4_GramLimits.mono_l k
  refine ⟨?_, ?_, ?_⟩
  ·intro y0 y1 y2 y3 y4 y5 y6
   unfold templelaw4_GramLimits.l0
   repeat' first
   | (with_reducible exact ih0 _ _ _ _ _ _ _)
   | (with_reducible exact ih1 _ _ _ _ _ _ _ _ _ _ _)
   | (with_reducible exact ih2 _ _ _ _ _ _ _ _ _ _ _ _ _)
   | (with_reducible exact templelaw4_awake.mono _)
   | (with_reducible exact templeref0_Decimal.mono _ _)
   | (with_reducible exact LeO.refl _)
   | (with_reducible exact LeO.none _)
   | (with_reducible refine LeO.ite ?_ ?_)
   | (with_reducible refine LeO.bind ?_ (fun _ => ?_))
   | exact ih0 _ _ _ _ _ _ _
   | exact ih1 _ _ _ _ _ _ _ _ _ _ _
   | exact ih2 _ _ _ _ _ _ _ _ _ _ _ _ _
   | exact templelaw4_awake.mono _
   | exact templeref0_Decimal.mono _ _
   | exact LeO.none _
   | refine LeO.ite ?_ ?_
   | refine LeO.bind ?_ (fun _ => ?_)
  ·intro y0 y1 y2 y3 y4 y5 y6 y7 y8 y9 y10
   unfold templelaw4_GramLimits.l1
   repeat' first
   | (with_reducible exact ih0 _ _ _ _ _ _ _)
   | (with_reducible exact ih1 _ _ _ _ _ _ _ _ _ _ _)
   | (with_reducible exact ih2 _ _ _ _ _ _ _ _ _ _ _ _ _)
   | (with_reducible exact templelaw4_awake.mono _)
   | (with_reducible exact templeref0_Decimal.mono _ _)
   | (with_reducible exact LeO.refl _)
   | (with_reducible exact LeO.none _)
   | (with_reducible refine LeO.ite ?_ ?_)
   | (with_reducible refine LeO.bind ?_ (fun _ => ?_))
   | exact ih0 _ _ _ _ _ _ _
   | exact ih1 _ _ _ _ _ _ _ _ _ _ _
   | exact ih2 _ _ _ _ _ _ _ _ _ _ _ _ _
   | exact templelaw4_awake.mono _
   | exact templeref0_Decimal.mono _ _
   | exact LeO.none _
   | refine LeO.ite ?_ ?_
   | refine LeO.bind ?_ (fun _ => ?_)
  ·intro y0 y1 y2 y3 y4 y5 y6 y7 y8 y9 y10 y11 y12
   unfold templelaw4_GramLimits.l2
   repeat' first
   | (with_reducible exact ih0 _ _ _ _ _ _ _)
   | (with_reducible exact ih1 _ _ _ _ _ _ _ _ _ _ _)
   | (with_reducible exact ih2 _ _ _ _ _ _ _ _ _ _ _ _ _)
   | (with_reducible exact templelaw4_awake.mono _)
   | (with_reducible exact templeref0_Decimal.mono _ _)
   | (with_reducible exact LeO.refl _)
   | (with_reducible exact LeO.none _)
   | (with_reducible refine LeO.ite ?_ ?_)
   | (with_reducible refine LeO.bind ?_ (fun _ => ?_))
   | exact ih0 _ _ _ _ _ _ _
   | exact ih1 _ _ _ _ _ _ _ _ _ _ _
   | exact ih2 _ _ _ _ _ _ _ _ _ _ _ _ _
   | exact templelaw4_awake.mono _
   | exact templeref0_Decimal.mono _ _
   | exact LeO.none _
   | refine LeO.ite ?_ ?_
   | refine LeO.bind ?_ (fun _ => ?_)
theorem templelaw4_GramLimits.mono : ∀ a0 a1 k, LeO (templelaw4_GramLimits.f k a0 a1) (templelaw4_GramLimits.f (k + 1) a0 a1) := by
 intro a0 a1 k
 obtain ⟨ih0, ih1, ih2⟩ := templelaw4_GramLimits.mono_l k
 unfold templelaw4_GramLimits.f
 repeat' first
   | (with_reducible exact ih0 _ _ _ _ _ _ _)
   | (with_reducible exact ih1 _ _ _ _ _ _ _ _ _ _ _)
   | (with_reducible exact ih2 _ _ _ _ _ _ _ _ _ _ _ _ _)
   | (with_reducible exact templelaw4_awake.mono _)
   | (with_reducible exact templeref0_Decimal.mono _ _)
   | (with_reducible exact LeO.refl _)
   | (with_reducible exact LeO.none _)
   | (with_reducible refine LeO.ite ?_ ?_)
   | (with_reducible refine LeO.bind ?_ (fun _ => ?_))
   | exact ih0 _ _ _ _ _ _ _
   | exact ih1 _ _ _ _ _ _ _ _ _ _ _
   | exact ih2 _ _ _ _ _ _ _ _ _ _ _ _ _
   | exact templelaw4_awake.mono _
   | exact templeref0_Decimal.mono _ _
   | exact LeO.none _
   | refine LeO.ite ?_ ?_
   | refine LeO.bind ?_ (fun _ => ?_)
def templelaw4_GramLimits.T14 : Bool × List (List Nat × List Nat) := (true, [([], []), ([0], [0]), ([], []), ([2, 2], [2]), ([3], [3]), ([4], [4]), ([5], [5]), ([6], [6]), ([1, 7], [1, 7]), ([0, 1, 2, 3, 4, 5, 6, 7, 8], []), ([9, 8, 8, 0, 1, 2, 3, 4, 5, 6, 7, 8], [8, 9])])
def templelaw4_GramLimits.B14 : List Nat := [0, 1, 0, 4, 12, 28, 60, 124, 255, 511, 1023]
theorem templelaw4_GramLimits.tab14 : rtab .any (opsOf Try.f6 14) = templelaw4_GramLimits.T14 := by kernel_rfl
theorem templelaw4_GramLimits.bits14 : waitsOk templelaw4_GramLimits.T14.2 templelaw4_GramLimits.B14 = true := by kernel_rfl
def templelaw4_GramLimits.T21 : Bool × List (List Nat × List Nat) := (true, [([], []), ([0], [0]), ([], []), ([2], [2]), ([3], [3]), ([4], [4]), ([1, 5, 3], [1, 5]), ([0, 1, 2, 3, 4, 5, 6], []), ([7, 6, 6, 0, 1, 2, 3, 4, 5, 6], [6, 7])])
def templelaw4_GramLimits.B21 : List Nat := [0, 1, 0, 4, 12, 28, 63, 127, 255]
theorem templelaw4_GramLimits.tab21 : rtab .any (opsOf Try.f6 21) = templelaw4_GramLimits.T21 := by kernel_rfl
theorem templelaw4_GramLimits.bits21 : waitsOk templelaw4_GramLimits.T21.2 templelaw4_GramLimits.B21 = true := by kernel_rfl
set_option maxHeartbeats 8000000 in
set_option maxRecDepth 100000 in
theorem templelaw4_GramLimits.calls (k : Nat) (a0 : Int) (a1 : Int) (r : Bool) (w : World) (h : templelaw4_GramLimits.f k a0 a1 = some r) :
  Calls Try.prog 6 #[.int .i64 a0, .int .i64 a1] w fun e w' => e = .returned (.bool r) ∧ Below w.heap.size w w' := by
 have hu28 := Try.underlying28
 have hu54 := Try.underlying54
 have hu51 := Try.underlying51
 have HB := Aside0.mk (Below.refl w.heap.size w)
 have H : ((templelaw4_awake.f k).bind fun t261 => (if t261 = true then (templelaw4_GramLimits.l0 k a0 a1 (wrap64 (254 + (Go.bits .and .i64 a0 3))) 0 0 (([(⟨#[83]⟩ : ByteArray)] : List ByteArray)) ([] : List (S51))) else (none))) = some r := h
 clear h
 replace H := Option.bind_eq_some_iff.mp H
 obtain ⟨t261, A30, H⟩ := H
 replace H : (if t261 = true then (templelaw4_GramLimits.l0 k a0 a1 (wrap64 (254 + (Go.bits .and .i64 a0 3))) 0 0 (([(⟨#[83]⟩ : ByteArray)] : List ByteArray)) ([] : List (S51))) else (none)) = some r := H
 have A3 := Aside0.mk A30
 clear A30
 by_cases c4 : t261 = true
 ·subst c4
  have H1 : (templelaw4_GramLimits.l0 k a0 a1 (wrap64 (254 + (Go.bits .and .i64 a0 3))) 0 0 (([(⟨#[83]⟩ : ByteArray)] : List ByteArray)) ([] : List (S51))) = some r := by rw [if_pos rfl] at H; exact H
  clear H
  have H := H1
  clear H1
  obtain ⟨y262, hy262⟩ : ∃ y_ : List ByteArray, y_ = (([(⟨#[83]⟩ : ByteArray)] : List ByteArray)) := ⟨_, rfl⟩
  replace H : (templelaw4_GramLimits.l0 k a0 a1 (wrap64 (254 + (Go.bits .and .i64 a0 3))) 0 0 y262 ([] : List (S51))) = some r := by first | (rw [hy262]; with_reducible exact H) | (have H2_ := (Option.bind_some _ _).symm.trans H; rw [hy262]; with_reducible exact H2_) | (have H2_ := (Option.bind_some _ _).symm.trans H; with_reducible exact H2_) | with_reducible exact H | (rw [hy262]; exact H) | exact H
  have Ny262 := Aside0.mk hy262
  clear hy262
  have H' := Aside0.mk H
  clear H
  go_enter Try.func6, Try.ntmps6
  go_wp2_with (first | ((with_reducible refine gate_callee (f := 20) rfl ?_); refine goesL_ (some 15) rfl rfl Try.func20 (by kernel_rfl) rfl #[] rfl (by (try simp only [List.map_toArray, List.map_cons, List.map_nil]); first | done | rfl | (simp only [List.length_drop, List.length_take]; rfl)) ?_; (with_reducible refine (templelaw4_awake.calls k  true _ A3.out).mono ?_); rintro e w5 ⟨rfl, hb⟩; refine ⟨_, rfl, ?_⟩; have n0_ := Aside0.mk (below_step (by repeat (first | (with_reducible first | exact HB.out | apply below_alloc | apply pw_below_drewN | apply below_drew1) | exact HB.out)) hb); clear HB; have HB := n0_; clear n0_; (try clear hb)) | ((with_reducible refine gate_dst (N := 20) rfl ?_); refine Kd.R_lit Kd.string _ 9 ?hg (N := 20) ?hd (xs := ([(⟨#[83]⟩ : ByteArray)] : List ByteArray)) (inner := [.string (⟨#[83]⟩ : ByteArray)]) (ok := fun _ => True) (okp := fun _ => True) ?hr ?hp (fun _ hk => hk) trivial (Below.refl _ _) (Nat.le_refl _) (by simp) ?_; (case hd => rfl); (case hg => rfl); (case hr => first | (go_simp; done) | (go_simp; rfl)); (case hp => exact (Reps.one (show Kd.M Kd.string _ _ _ (⟨#[83]⟩ : ByteArray) [.string (⟨#[83]⟩ : ByteArray)] from rfl) (Reps.none _ _))); intro v263 w6 ho7 hb hg_ hnew_; clear hg_ hnew_; (first | rw [← Ny262.out] at ho7 | (simp only [Int.reduceToNat] at ho7; rw [← Ny262.out] at ho7)); have n0_ := Aside0.mk (Kd.R_lower ho7 (below_size (by repeat (first | (with_reducible first | exact HB.out | apply below_alloc | apply pw_below_drewN | apply below_drew1) | exact HB.out)))); have n1_ := Aside0.mk (below_step (by repeat (first | (with_reducible first | exact HB.out | apply below_alloc | apply pw_below_drewN | apply below_drew1) | exact HB.out)) hb); clear HB; have HO264 := n0_; have HB := n1_; clear n0_ n1_; clear hb ho7; obtain ⟨Ao8, co8, eo8⟩ := Kd.R_slice HO264.out; subst eo8) | ((with_reducible refine gate_dst (N := 6) rfl ?_); refine box_event ?hg (N := 6) ?hd (cs := #[.int .i64 0, .slice none 0 0, .slice none 0 0]) (t := 28) ?hr ?_; (case hd => rfl); (case hg => rfl); (case hr => first | (go_simp; done) | (go_simp; rfl)); intro gb265 hg w9 hbox hb; have n0_ := Aside0.mk (Kd.R_below (by (with_reducible repeat (first | apply Kd.R_alloc | apply Kd.R_drewN | apply Kd.R_drew)); exact HO264.out) hb); have n1_ := Aside0.mk (below_step (by repeat (first | (with_reducible first | exact HB.out | apply below_alloc | apply pw_below_drewN | apply below_drew1) | exact HB.out)) hb); have n2_ := Aside0.mk (hbox); have n3_ := Aside0.mk ((by rw [hg]; exact (below_size (by repeat (first | (with_reducible first | exact HB.out | apply below_alloc | apply pw_below_drewN | apply below_drew1) | exact HB.out))) : w.heap.size ≤ gb265)); have n4_ := Aside0.mk ((by rw [hg]; exact (below_size (by repeat (first | (with_reducible first | exact HB.out | apply below_alloc | apply pw_below_drewN | apply below_drew1) | exact HB.out))) : w.heap.size ≤ gb265)); clear HO264; clear HB; have HO264 := n0_; have HB := n1_; have BK265 := n2_; have GW265 := n3_; have GE265 := n4_; clear n0_ n1_ n2_ n3_ n4_; clear hb hbox hg; have hcz10_0 : w9.cell? ⟨gb265, 0, none⟩ = some (.int .i64 0) := (blk_cell BK265.out 0).trans rfl; have hcz10_1 : w9.cell? ⟨gb265, 1, none⟩ = some (.slice none 0 0) := (blk_cell BK265.out 1).trans rfl; have hcz10_2 : w9.cell? ⟨gb265, 2, none⟩ = some (.slice none 0 0) := (blk_cell BK265.out 2).trans rfl; have hfz10_0 := blk_frozen BK265.out 0; have hfz10_1 := blk_frozen BK265.out 1; have hfz10_2 := blk_frozen BK265.out 2))
  go_loopg [7] k (fun kq v7 w' => ∃ (x7_1 : Int) (x266002_1 : List (S51)) (u266002 : Value), v7 = .int .i64 x7_1 ∧ Aside0 (templelaw4_GramLimits.l0 kq a0 a1 (wrap64 (254 + (Go.bits .and .i64 a0 3))) x7_1 0 y262 x266002_1 = some r) ∧ Aside0 (kq ≤ k) ∧ Aside0 (Kd.R Kd.string 9 w' w.heap.size (fun _ => True) (.slice Ao8 y262.length co8) y262) ∧ Aside0 (Kd.N k51 51 w' w.heap.size (fun k_ => some k_ ≠ ((.slice Ao8 y262.length co8) : Value).ownBlock ∧ k_ ≠ gb265) u266002 x266002_1) ∧ Aside0 (w'.heap[gb265]? = some (.cells #[.int .i64 0, (.slice Ao8 y262.length co8), u266002] 28 (0, 0))) ∧ Aside0 (Below w.heap.size w w'))
  case atStart => exact ⟨(0), (([] : List (S51))), (.slice none 0 0), (by first | rfl | (simp; done) | (simp [i64_w]; done) | (simp [*]; done) | (simp [*, i64_w]; done) | (simp [*]; unfold wrap64; omega)), H', ⟨Nat.le_refl _⟩, ⟨by (with_reducible repeat (first | apply Kd.R_alloc | apply Kd.R_drewN | apply Kd.R_drew)); exact Kd.R_mono (Kd.R_far (p := ⟨gb265, 2, none⟩) (Kd.R_far (p := ⟨gb265, 1, none⟩) (Kd.R_far (p := ⟨gb265, 0, none⟩) (Kd.R_types HO264.out BK265.out (by decide)) (fun _ hk => hk.2) (.int .i64 0)) (fun _ hk => hk.2) (.slice Ao8 y262.length co8)) (fun _ hk => hk.2) (.slice none 0 0)) (fun _ hk => trivial)⟩, ⟨by first | exact Kd.R_nil _ _ _ _ _ | exact Kd.N_nil _ _ _ _ _ | exact Kd.V_nil _ _ _ _ _ | exact Kd.Q_nil _ _ _ _ _ | exact Kd.S_nil _ _ _ _ _⟩, ⟨by (with_reducible repeat (first | refine blk_drewN ?_ _ | refine blk_drew ?_ | refine blk_alloc ?_ _)); refine blk_put (cs := #[.int .i64 0, .slice Ao8 y262.length co8, .slice none 0 0]) ?_ 2 _ rfl; (with_reducible repeat (first | refine blk_drewN ?_ _ | refine blk_drew ?_ | refine blk_alloc ?_ _)); refine blk_put (cs := #[.int .i64 0, .slice none 0 0, .slice none 0 0]) ?_ 1 _ rfl; (with_reducible repeat (first | refine blk_drewN ?_ _ | refine blk_drew ?_ | refine blk_alloc ?_ _)); refine blk_put (cs := #[.int .i64 0, .slice none 0 0, .slice none 0 0]) ?_ 0 _ rfl; (with_reducible repeat (first | refine blk_drewN ?_ _ | refine blk_drew ?_ | refine blk_alloc ?_ _)); exact BK265.out⟩, ⟨by repeat (first | (with_reducible first | exact HB.out | apply below_alloc | apply pw_below_drewN | apply below_drew1 | refine below_set ?_ GE265.out) | exact HB.out)⟩⟩
  case round =>
   clear H'
   try clear c2
   try clear p2
   try clear c4
   try clear c6
   try clear p6
   try clear hcz10_0
   try clear hcz10_1
   try clear hcz10_2
   try clear hfz10_0
   try clear hfz10_1
   try clear hfz10_2
   obtain ⟨x7_1, x266002_1, u266002, rfl, HA, HK1, HO_266001, HO_266002, BK265, HB⟩ := hrel
   cases gk with
   | zero => exact absurd HA.out (by simp [templelaw4_GramLimits.l0])
   | succ k1 =>
    have H := HA.out
    clear HA
    simp only [templelaw4_GramLimits.l0] at H
    by_cases c11 : x7_1 < (wrap64 (254 + (Go.bits .and .i64 a0 3)))
    ·rw [if_pos c11] at H
     have c11b0 : decide (x7_1 < (wrap64 (254 + (Go.bits .and .i64 a0 3)))) = true := decide_eq_true c11
     clear c11
     obtain ⟨y266, hy266⟩ : ∃ y_ : List (S54), y_ = (([(⟨false, ([] : List (S56))⟩ : S54)] : List (S54))) := ⟨_, rfl⟩
     replace H : (if x266002_1.length < 4398046511104 then (templelaw4_GramLimits.l0 k1 a0 a1 (wrap64 (254 + (Go.bits .and .i64 a0 3))) (wrap64 (x7_1 + 1)) 0 y262 (x266002_1 ++ [(⟨0, y266⟩ : S51)])) else (none)) = some r := by first | (rw [hy266]; with_reducible exact H) | (have H2_ := (Option.bind_some _ _).symm.trans H; rw [hy266]; with_reducible exact H2_) | (have H2_ := (Option.bind_some _ _).symm.trans H; with_reducible exact H2_) | with_reducible exact H | (rw [hy266]; exact H) | exact H
     have Ny266 := Aside0.mk hy266
     clear hy266
     by_cases c12 : x266002_1.length < 4398046511104
     ·rw [if_pos c12] at H
      have LMc12 := Aside0.mk c12
      clear c12
      obtain ⟨y269, hy269⟩ : ∃ y_ : List (S51), y_ = (x266002_1 ++ [(⟨0, y266⟩ : S51)]) := ⟨_, rfl⟩
      replace H : (templelaw4_GramLimits.l0 k1 a0 a1 (wrap64 (254 + (Go.bits .and .i64 a0 3))) (wrap64 (x7_1 + 1)) 0 y262 y269) = some r := by first | (rw [hy269]; with_reducible exact H) | (have H2_ := (Option.bind_some _ _).symm.trans H; rw [hy269]; with_reducible exact H2_) | (have H2_ := (Option.bind_some _ _).symm.trans H; with_reducible exact H2_) | with_reducible exact H | (rw [hy269]; exact H) | exact H
      have Ny269 := Aside0.mk hy269
      clear hy269
      have H' := Aside0.mk H
      clear H
      have hcz13_0 : wr.cell? ⟨gb265, 0, none⟩ = some (.int .i64 0) := (blk_cell BK265.out 0).trans rfl
      have hcz13_1 : wr.cell? ⟨gb265, 1, none⟩ = some (.slice Ao8 y262.length co8) := (blk_cell BK265.out 1).trans rfl
      have hcz13_2 : wr.cell? ⟨gb265, 2, none⟩ = some (u266002) := (blk_cell BK265.out 2).trans rfl
      have hfz13_0 := blk_frozen BK265.out 0
      have hfz13_1 := blk_frozen BK265.out 1
      have hfz13_2 := blk_frozen BK265.out 2
      go_wp2_with (first | ((with_reducible refine gate_dst (N := 30) rfl ?_); refine Kd.N_lit k54 _ 54 ?hg (N' := 30) ?hd (xs := ([(⟨false, ([] : List (S56))⟩ : S54)] : List (S54))) (inner := [.bool false, .slice none 0 0]) (ok := (fun k_ => some k_ ≠ (.slice Ao8 y262.length co8 : Value).ownBlock ∧ some k_ ≠ (u266002 : Value).ownBlock ∧ k_ ≠ gb265)) (okp := (fun k_ => some k_ ≠ (.slice Ao8 y262.length co8 : Value).ownBlock ∧ some k_ ≠ (u266002 : Value).ownBlock ∧ k_ ≠ gb265)) ?hr ?hp (fun _ hk => hk) ((show ∀ k_, wr.heap.size ≤ k_ → (fun k_ => some k_ ≠ (.slice Ao8 y262.length co8 : Value).ownBlock ∧ some k_ ≠ (u266002 : Value).ownBlock ∧ k_ ≠ gb265) k_ from fun k_ hk => ⟨Kd.fresh' (Kd.R_lt (by (with_reducible repeat (first | apply Kd.R_alloc | apply Kd.R_drewN | apply Kd.R_drew)); exact HO_266001.out)) k_ hk, Kd.fresh' (Kd.N_lt (by (with_reducible repeat (first | apply Kd.N_alloc | apply Kd.N_drewN | apply Kd.N_drew)); exact HO_266002.out)) k_ hk, Kd.freshB (g := gb265) (o := .cells #[.int .i64 0, .slice Ao8 y262.length co8, u266002] 28 (0, 0)) (by (with_reducible repeat (first | refine blk_drewN ?_ _ | refine blk_drew ?_ | refine blk_alloc ?_ _)); exact BK265.out) k_ hk⟩) _ (Nat.le_refl _)) (Below.refl _ _) (Nat.le_refl _) (by simp) ?_; (case hd => rfl); (case hg => rfl); (case hr => first | (go_simp; done) | (go_simp; rfl)); (case hp => exact (Reps.c2 (show Kd.FK k54 _ _ (⟨false, ([] : List (S56))⟩ : S54) [.bool false, .slice none 0 0] from (k54_mkF _ _ (⟨false, ([] : List (S56))⟩ : S54) (Nat.le_refl _) (Kd.F_nil _ _ _))) (Reps.none _ _))); intro v267 w14 ho15 hb hg_ hnew_; clear hg_ hnew_; (first | rw [← Ny266.out] at ho15 | (simp only [Int.reduceToNat] at ho15; rw [← Ny266.out] at ho15)); have n0_ := Aside0.mk (Kd.R_below (by (with_reducible repeat (first | apply Kd.R_alloc | apply Kd.R_drewN | apply Kd.R_drew)); exact HO_266001.out) hb); have n1_ := Aside0.mk (Kd.N_elder' (by (with_reducible repeat (first | apply Kd.N_alloc | apply Kd.N_drewN | apply Kd.N_drew)); exact HO_266002.out) (Kd.N_base ho15) hb); have n2_ := Aside0.mk (Kd.N_lower ho15 (below_size (by repeat (first | (with_reducible first | exact HB.out | apply below_alloc | apply pw_below_drewN | apply below_drew1 | refine below_set ?_ GE265.out) | exact HB.out)))); have n3_ := Aside0.mk (blk_below (g := gb265) (o := .cells #[.int .i64 0, .slice Ao8 y262.length co8, u266002] 28 (0, 0)) (by (with_reducible repeat (first | refine blk_drewN ?_ _ | refine blk_drew ?_ | refine blk_alloc ?_ _)); exact BK265.out) hb); have n4_ := Aside0.mk (below_step (by repeat (first | (with_reducible first | exact HB.out | apply below_alloc | apply pw_below_drewN | apply below_drew1 | refine below_set ?_ GE265.out) | exact HB.out)) hb); clear HO_266001; clear HO_266002; clear BK265; clear HB; have HO_266001 := n0_; have HO_266002 := n1_; have HO268 := n2_; have BK265 := n3_; have HB := n4_; clear n0_ n1_ n2_ n3_ n4_; clear hb ho15; obtain ⟨Ao16, co16, eo16⟩ := Kd.N_slice HO268.out; subst eo16) | ((with_reducible refine gate_builtin (b := .append) (xs := #[.tmp 28, .tmp 32]) rfl ?_); at_builtin; refine Kd.N_append k51 (w0 := w) w.heap.size rfl (.tmp 28) (.tmp 32) 26 51 (.agg #[(.int .i64 0), (.slice none 0 0)]) 32 rfl Try.underlying26 info51 rfl (by decide) (by omega) u266002 x266002_1 (⟨0, y266⟩ : S51) [.int .i64 0, .slice Ao16 y266.length co16] (fun k_ => some k_ ≠ (.slice Ao8 y262.length co8 : Value).ownBlock ∧ k_ ≠ gb265) (fun k_ => ((fun k_ => some k_ ≠ (.slice Ao8 y262.length co8 : Value).ownBlock ∧ k_ ≠ gb265)) k_ ∧ some k_ ≠ (u266002 : Value).ownBlock) rfl rfl ?aP (fun _ hk => hk) ?aF ?aO ?aB ?aS ?aL ?_; (case aP => exact (k51_mkF _ _ (⟨0, y266⟩ : S51) (Kd.N_reads' (Kd.N_mono (ok' := (fun k_ => ((fun k_ => some k_ ≠ (.slice Ao8 y262.length co8 : Value).ownBlock ∧ k_ ≠ gb265)) k_ ∧ some k_ ≠ (u266002 : Value).ownBlock)) (HO268.out) (fun k_ hk => ⟨⟨hk.1, hk.2.2⟩, hk.2.1⟩))).2.1 (Kd.N_F (Kd.N_mono (ok' := (fun k_ => ((fun k_ => some k_ ≠ (.slice Ao8 y262.length co8 : Value).ownBlock ∧ k_ ≠ gb265)) k_ ∧ some k_ ≠ (u266002 : Value).ownBlock)) (HO268.out) (fun k_ hk => ⟨⟨hk.1, hk.2.2⟩, hk.2.1⟩))))); (case aB => exact (by repeat (first | (with_reducible first | exact HB.out | apply below_alloc | apply pw_below_drewN | apply below_drew1 | refine below_set ?_ GE265.out) | exact HB.out))); (case aF => exact (fun k_ hk => ⟨Kd.fresh' (Kd.R_lt (by (with_reducible repeat (first | apply Kd.R_alloc | apply Kd.R_drewN | apply Kd.R_drew)); exact HO_266001.out)) k_ hk, Kd.freshB (g := gb265) (o := .cells #[.int .i64 0, .slice Ao8 y262.length co8, u266002] 28 (0, 0)) (by (with_reducible repeat (first | refine blk_drewN ?_ _ | refine blk_drew ?_ | refine blk_alloc ?_ _)); exact BK265.out) k_ hk⟩)); (case aO => exact (by (with_reducible repeat (first | apply Kd.N_alloc | apply Kd.N_drewN | apply Kd.N_drew)); exact Kd.N_mono HO_266002.out (fun _ hk => ⟨hk.1.1, hk.1.2⟩))); (case aS => exact (below_size (by repeat (first | (with_reducible first | exact HB.out | apply below_alloc | apply pw_below_drewN | apply below_drew1 | refine below_set ?_ GE265.out) | exact HB.out)))); (case aL => have := LMc12.out; omega); intro v270 w17 ho hb hg hat; rw [← Ny269.out] at ho; have n0_ := Aside0.mk (Kd.R_over' (by (with_reducible repeat (first | apply Kd.R_alloc | apply Kd.R_drewN | apply Kd.R_drew)); exact HO_266001.out) (Kd.N_typed (by (with_reducible repeat (first | apply Kd.N_alloc | apply Kd.N_drewN | apply Kd.N_drew)); exact HO_266002.out)) (by decide) hg); have n1_ := Aside0.mk (blk_grown (g := gb265) (o := .cells #[.int .i64 0, .slice Ao8 y262.length co8, u266002] 28 (0, 0)) (by (with_reducible repeat (first | refine blk_drewN ?_ _ | refine blk_drew ?_ | refine blk_alloc ?_ _)); exact BK265.out) hg (Kd.N_ne HO_266002.out BK265.out (by decide))); have n2_ := Aside0.mk (hb); have n3_ := Aside0.mk (ho); clear HO_266001; clear BK265; clear HB; clear HO_266002; clear HO268; have HO_266001 := n0_; have BK265 := n1_; have HB := n2_; have HO271 := n3_; clear n0_ n1_ n2_ n3_; clear ho hb hg hat; obtain ⟨Ao18, co18, eo18⟩ := Kd.N_slice HO271.out; subst eo18; have hcz19_0 : w17.cell? ⟨gb265, 0, none⟩ = some (.int .i64 0) := (blk_cell BK265.out 0).trans rfl; have hcz19_1 : w17.cell? ⟨gb265, 1, none⟩ = some (.slice Ao8 y262.length co8) := (blk_cell BK265.out 1).trans rfl; have hcz19_2 : w17.cell? ⟨gb265, 2, none⟩ = some (u266002) := (blk_cell BK265.out 2).trans rfl; have hfz19_0 := blk_frozen BK265.out 0; have hfz19_1 := blk_frozen BK265.out 1; have hfz19_2 := blk_frozen BK265.out 2))
      go_roundg k1
      case measure => have := HK1.out; omega
      case rel => exact ⟨(wrap64 (x7_1 + 1)), (y269), (.slice Ao18 y269.length co18), (by first | rfl | (simp; done) | (simp [i64_w]; done) | (simp [*]; done) | (simp [*, i64_w]; done) | (simp [*]; unfold wrap64; omega)), H', ⟨by have := HK1.out; omega⟩, ⟨by (with_reducible repeat (first | apply Kd.R_alloc | apply Kd.R_drewN | apply Kd.R_drew)); exact Kd.R_mono (Kd.R_far (p := ⟨gb265, 2, none⟩) (Kd.R_types HO_266001.out BK265.out (by decide)) (fun _ hk => hk.2) (.slice Ao18 y269.length co18)) (fun _ hk => trivial)⟩, ⟨by (with_reducible repeat (first | apply Kd.N_alloc | apply Kd.N_drewN | apply Kd.N_drew)); exact Kd.N_mono (Kd.N_far (p := ⟨gb265, 2, none⟩) (Kd.N_mono HO271.out (fun k_ hk => (⟨hk, hk.2⟩ : _ ∧ k_ ≠ gb265))) (fun _ hk => hk.2) (.slice Ao18 y269.length co18)) (fun _ hk => ⟨hk.1.1, hk.1.2⟩)⟩, ⟨by (with_reducible repeat (first | refine blk_drewN ?_ _ | refine blk_drew ?_ | refine blk_alloc ?_ _)); refine blk_put (cs := #[.int .i64 0, .slice Ao8 y262.length co8, u266002]) ?_ 2 _ rfl; (with_reducible repeat (first | refine blk_drewN ?_ _ | refine blk_drew ?_ | refine blk_alloc ?_ _)); exact BK265.out⟩, ⟨by repeat (first | (with_reducible first | exact HB.out | apply below_alloc | apply pw_below_drewN | apply below_drew1 | refine below_set ?_ GE265.out) | exact HB.out)⟩⟩
     ·rw [if_neg c12] at H
      exact absurd H (by simp)
    ·rw [if_neg c11] at H
     have c11b0 : decide (x7_1 < (wrap64 (254 + (Go.bits .and .i64 a0 3)))) = false := decide_eq_false c11
     clear c11
     obtain ⟨y272, hy272⟩ : ∃ y_ : List ByteArray, y_ = (([(⟨#[83]⟩ : ByteArray)] : List ByteArray)) := ⟨_, rfl⟩
     replace H : (templelaw4_GramLimits.l1 k1 a0 a1 (wrap64 (254 + (Go.bits .and .i64 a0 3))) (wrap64 (1022 + (Go.bits .and .i64 a1 3))) (wrap64 (1022 + (Go.bits .and .i64 a1 3))) 0 y262 x266002_1 0 y272 ([] : List (S51))) = some r := by first | (rw [hy272]; with_reducible exact H) | (have H2_ := (Option.bind_some _ _).symm.trans H; rw [hy272]; with_reducible exact H2_) | (have H2_ := (Option.bind_some _ _).symm.trans H; with_reducible exact H2_) | with_reducible exact H | (rw [hy272]; exact H) | exact H
     have Ny272 := Aside0.mk hy272
     clear hy272
     have H' := Aside0.mk H
     clear H
     go_wp2_with (first | ((with_reducible refine gate_dst (N := 35) rfl ?_); refine Kd.R_lit Kd.string _ 9 ?hg (N := 35) ?hd (xs := ([(⟨#[83]⟩ : ByteArray)] : List ByteArray)) (inner := [.string (⟨#[83]⟩ : ByteArray)]) (ok := fun _ => True) (okp := fun _ => True) ?hr ?hp (fun _ hk => hk) trivial (Below.refl _ _) (Nat.le_refl _) (by simp) ?_; (case hd => rfl); (case hg => rfl); (case hr => first | (go_simp; done) | (go_simp; rfl)); (case hp => exact (Reps.one (show Kd.M Kd.string _ _ _ (⟨#[83]⟩ : ByteArray) [.string (⟨#[83]⟩ : ByteArray)] from rfl) (Reps.none _ _))); intro v273 w20 ho21 hb hg_ hnew_; clear hg_ hnew_; (first | rw [← Ny272.out] at ho21 | (simp only [Int.reduceToNat] at ho21; rw [← Ny272.out] at ho21)); have n0_ := Aside0.mk (Kd.R_elder' (by (with_reducible repeat (first | apply Kd.R_alloc | apply Kd.R_drewN | apply Kd.R_drew)); exact HO_266001.out) (Kd.R_base ho21) hb); have n1_ := Aside0.mk (Kd.N_elder' (by (with_reducible repeat (first | apply Kd.N_alloc | apply Kd.N_drewN | apply Kd.N_drew)); exact HO_266002.out) (Kd.R_base ho21) hb); have n2_ := Aside0.mk (Kd.R_lower (Kd.R_new' ho21 (Kd.R_lt (by (with_reducible repeat (first | apply Kd.R_alloc | apply Kd.R_drewN | apply Kd.R_drew)); exact HO_266001.out))) (below_size (by repeat (first | (with_reducible first | exact HB.out | apply below_alloc | apply pw_below_drewN | apply below_drew1 | refine below_set ?_ GE265.out) | exact HB.out)))); have n3_ := Aside0.mk (blk_below (g := gb265) (o := .cells #[.int .i64 0, .slice Ao8 y262.length co8, u266002] 28 (0, 0)) (by (with_reducible repeat (first | refine blk_drewN ?_ _ | refine blk_drew ?_ | refine blk_alloc ?_ _)); exact BK265.out) hb); have n4_ := Aside0.mk (below_step (by repeat (first | (with_reducible first | exact HB.out | apply below_alloc | apply pw_below_drewN | apply below_drew1 | refine below_set ?_ GE265.out) | exact HB.out)) hb); clear HO_266001; clear HO_266002; clear BK265; clear HB; have HO_266001 := n0_; have HO_266002 := n1_; have HO274 := n2_; have BK265 := n3_; have HB := n4_; clear n0_ n1_ n2_ n3_ n4_; clear hb ho21; obtain ⟨Ao22, co22, eo22⟩ := Kd.R_slice HO274.out; subst eo22) | ((with_reducible refine gate_dst (N := 8) rfl ?_); refine box_event ?hg (N := 8) ?hd (cs := #[.int .i64 0, .slice none 0 0, .slice none 0 0]) (t := 28) ?hr ?_; (case hd => rfl); (case hg => rfl); (case hr => first | (go_simp; done) | (go_simp; rfl)); intro gb275 hg w23 hbox hb; have n0_ := Aside0.mk (Kd.R_below (by (with_reducible repeat (first | apply Kd.R_alloc | apply Kd.R_drewN | apply Kd.R_drew)); exact HO_266001.out) hb); have n1_ := Aside0.mk (Kd.N_below (Kd.N_elderB (by (with_reducible repeat (first | apply Kd.N_alloc | apply Kd.N_drewN | apply Kd.N_drew)); exact HO_266002.out) gb275 (Nat.le_of_eq hg.symm)) hb); have n2_ := Aside0.mk (Kd.R_below (by (with_reducible repeat (first | apply Kd.R_alloc | apply Kd.R_drewN | apply Kd.R_drew)); exact HO274.out) hb); have n3_ := Aside0.mk (blk_below (g := gb265) (o := .cells #[.int .i64 0, .slice Ao8 y262.length co8, u266002] 28 (0, 0)) (by (with_reducible repeat (first | refine blk_drewN ?_ _ | refine blk_drew ?_ | refine blk_alloc ?_ _)); exact BK265.out) hb); have n4_ := Aside0.mk (below_step (by repeat (first | (with_reducible first | exact HB.out | apply below_alloc | apply pw_below_drewN | apply below_drew1 | refine below_set ?_ GE265.out) | exact HB.out)) hb); have n5_ := Aside0.mk (hbox); have n6_ := Aside0.mk ((by rw [hg]; exact (below_size (by repeat (first | (with_reducible first | exact HB.out | apply below_alloc | apply pw_below_drewN | apply below_drew1 | refine below_set ?_ GE265.out) | exact HB.out))) : w.heap.size ≤ gb275)); have n7_ := Aside0.mk ((by rw [hg]; exact (below_size (by repeat (first | (with_reducible first | exact HB.out | apply below_alloc | apply pw_below_drewN | apply below_drew1 | refine below_set ?_ GE265.out) | exact HB.out))) : w.heap.size ≤ gb275)); have n8_ := Aside0.mk ((by rw [hg]; exact Nat.ne_of_lt (blk_lt (g := gb265) (o := .cells #[.int .i64 0, .slice Ao8 y262.length co8, u266002] 28 (0, 0)) (by (with_reducible repeat (first | refine blk_drewN ?_ _ | refine blk_drew ?_ | refine blk_alloc ?_ _)); exact BK265.out)) : gb265 ≠ gb275)); have n9_ := Aside0.mk ((by rw [hg]; exact Nat.ne_of_gt (blk_lt (g := gb265) (o := .cells #[.int .i64 0, .slice Ao8 y262.length co8, u266002] 28 (0, 0)) (by (with_reducible repeat (first | refine blk_drewN ?_ _ | refine blk_drew ?_ | refine blk_alloc ?_ _)); exact BK265.out)) : gb275 ≠ gb265)); clear HO_266001; clear HO_266002; clear HO274; clear BK265; clear HB; have HO_266001 := n0_; have HO_266002 := n1_; have HO274 := n2_; have BK265 := n3_; have HB := n4_; have BK275 := n5_; have GW275 := n6_; have GE275 := n7_; have NB265_275 := n8_; have NB275_265 := n9_; clear n0_ n1_ n2_ n3_ n4_ n5_ n6_ n7_ n8_ n9_; clear hb hbox hg; have hnb24 := NB275_265.out; have hnc24 := NB265_275.out; have hcz25_0 : w23.cell? ⟨gb275, 0, none⟩ = some (.int .i64 0) := (blk_cell BK275.out 0).trans rfl; have hcz25_1 : w23.cell? ⟨gb275, 1, none⟩ = some (.slice none 0 0) := (blk_cell BK275.out 1).trans rfl; have hcz25_2 : w23.cell? ⟨gb275, 2, none⟩ = some (.slice none 0 0) := (blk_cell BK275.out 2).trans rfl; have hfz25_0 := blk_frozen BK275.out 0; have hfz25_1 := blk_frozen BK275.out 1; have hfz25_2 := blk_frozen BK275.out 2))
     go_loopg [9] k1 (fun kq v9 w' => ∃ (x9_2 : Int) (x276002_2 : List (S51)) (u276002 : Value), v9 = .int .i64 x9_2 ∧ Aside0 (templelaw4_GramLimits.l1 kq a0 a1 (wrap64 (254 + (Go.bits .and .i64 a0 3))) x9_2 (wrap64 (1022 + (Go.bits .and .i64 a1 3))) 0 y262 x266002_1 0 y272 x276002_2 = some r) ∧ Aside0 (kq ≤ k1) ∧ Aside0 (Kd.R Kd.string 9 w' w.heap.size (fun k_ => some k_ ≠ ((.slice Ao22 y272.length co22) : Value).ownBlock) (.slice Ao8 y262.length co8) y262) ∧ Aside0 (Kd.N k51 51 w' w.heap.size (fun k_ => some k_ ≠ ((.slice Ao8 y262.length co8) : Value).ownBlock ∧ some k_ ≠ ((.slice Ao22 y272.length co22) : Value).ownBlock ∧ some k_ ≠ (u276002 : Value).ownBlock ∧ k_ ≠ gb265 ∧ k_ ≠ gb275) u266002 x266002_1) ∧ Aside0 (Kd.R Kd.string 9 w' w.heap.size (fun k_ => some k_ ≠ ((.slice Ao8 y262.length co8) : Value).ownBlock) (.slice Ao22 y272.length co22) y272) ∧ Aside0 (Kd.N k51 51 w' w.heap.size (fun k_ => some k_ ≠ ((.slice Ao8 y262.length co8) : Value).ownBlock ∧ some k_ ≠ (u266002 : Value).ownBlock ∧ some k_ ≠ ((.slice Ao22 y272.length co22) : Value).ownBlock ∧ k_ ≠ gb265 ∧ k_ ≠ gb275) u276002 x276002_2) ∧ Aside0 (w'.heap[gb265]? = some (.cells #[.int .i64 0, (.slice Ao8 y262.length co8), u266002] 28 (0, 0))) ∧ Aside0 (w'.heap[gb275]? = some (.cells #[.int .i64 0, (.slice Ao22 y272.length co22), u276002] 28 (0, 0))) ∧ Aside0 (Below w.heap.size w w'))
     case atStart => exact ⟨(wrap64 (1022 + (Go.bits .and .i64 a1 3))), (([] : List (S51))), (.slice none 0 0), (by first | rfl | (simp; done) | (simp [i64_w]; done) | (simp [*]; done) | (simp [*, i64_w]; done) | (simp [*]; unfold wrap64; omega)), H', ⟨Nat.le_refl _⟩, ⟨by (with_reducible repeat (first | apply Kd.R_alloc | apply Kd.R_drewN | apply Kd.R_drew)); exact Kd.R_mono (Kd.R_far (p := ⟨gb275, 2, none⟩) (Kd.R_far (p := ⟨gb275, 1, none⟩) (Kd.R_far (p := ⟨gb275, 0, none⟩) (Kd.R_types HO_266001.out BK275.out (by decide)) (fun _ hk => hk.2) (.int .i64 0)) (fun _ hk => hk.2) (.slice Ao22 y272.length co22)) (fun _ hk => hk.2) (.slice none 0 0)) (fun _ hk => hk.1.2)⟩, ⟨by (with_reducible repeat (first | apply Kd.N_alloc | apply Kd.N_drewN | apply Kd.N_drew)); exact Kd.N_mono (Kd.N_far (p := ⟨gb275, 2, none⟩) (Kd.N_far (p := ⟨gb275, 1, none⟩) (Kd.N_far (p := ⟨gb275, 0, none⟩) (Kd.N_mono HO_266002.out (fun k_ hk => (⟨hk, hk.2⟩ : _ ∧ k_ ≠ gb275))) (fun _ hk => hk.2) (.int .i64 0)) (fun _ hk => hk.2) (.slice Ao22 y272.length co22)) (fun _ hk => hk.2) (.slice none 0 0)) (fun _ hk => ⟨hk.1.1.1.1, ⟨hk.1.1.2, ⟨(by simp [Value.ownBlock]), ⟨hk.1.1.1.2, hk.1.2⟩⟩⟩⟩)⟩, ⟨by (with_reducible repeat (first | apply Kd.R_alloc | apply Kd.R_drewN | apply Kd.R_drew)); exact Kd.R_mono (Kd.R_far (p := ⟨gb275, 2, none⟩) (Kd.R_far (p := ⟨gb275, 1, none⟩) (Kd.R_far (p := ⟨gb275, 0, none⟩) (Kd.R_types HO274.out BK275.out (by decide)) (fun _ hk => hk.2) (.int .i64 0)) (fun _ hk => hk.2) (.slice Ao22 y272.length co22)) (fun _ hk => hk.2) (.slice none 0 0)) (fun _ hk => hk.1.2)⟩, ⟨by first | exact Kd.R_nil _ _ _ _ _ | exact Kd.N_nil _ _ _ _ _ | exact Kd.V_nil _ _ _ _ _ | exact Kd.Q_nil _ _ _ _ _ | exact Kd.S_nil _ _ _ _ _⟩, ⟨by (with_reducible repeat (first | refine blk_drewN ?_ _ | refine blk_drew ?_ | refine blk_alloc ?_ _)); refine blk_far ?_ NB265_275.out _; (with_reducible repeat (first | refine blk_drewN ?_ _ | refine blk_drew ?_ | refine blk_alloc ?_ _)); refine blk_far ?_ NB265_275.out _; (with_reducible repeat (first | refine blk_drewN ?_ _ | refine blk_drew ?_ | refine blk_alloc ?_ _)); refine blk_far ?_ NB265_275.out _; (with_reducible repeat (first | refine blk_drewN ?_ _ | refine blk_drew ?_ | refine blk_alloc ?_ _)); exact BK265.out⟩, ⟨by (with_reducible repeat (first | refine blk_drewN ?_ _ | refine blk_drew ?_ | refine blk_alloc ?_ _)); refine blk_put (cs := #[.int .i64 0, .slice Ao22 y272.length co22, .slice none 0 0]) ?_ 2 _ rfl; (with_reducible repeat (first | refine blk_drewN ?_ _ | refine blk_drew ?_ | refine blk_alloc ?_ _)); refine blk_put (cs := #[.int .i64 0, .slice none 0 0, .slice none 0 0]) ?_ 1 _ rfl; (with_reducible repeat (first | refine blk_drewN ?_ _ | refine blk_drew ?_ | refine blk_alloc ?_ _)); refine blk_put (cs := #[.int .i64 0, .slice none 0 0, .slice none 0 0]) ?_ 0 _ rfl; (with_reducible repeat (first | refine blk_drewN ?_ _ | refine blk_drew ?_ | refine blk_alloc ?_ _)); exact BK275.out⟩, ⟨by repeat (first | (with_reducible first | exact HB.out | apply below_alloc | apply pw_below_drewN | apply below_drew1 | refine below_set ?_ GE265.out | refine below_set ?_ GE275.out) | exact HB.out)⟩⟩
     case round =>
      clear H'
      try clear c1
      try clear c2
      try clear p2
      try clear c4
      try clear c6
      try clear p6
      try clear c11
      try clear c11b0
      try clear c12
      try clear c20
      try clear c24
      try clear hcz10_0
      try clear hcz10_1
      try clear hcz10_2
      try clear hcz13_0
      try clear hcz13_1
      try clear hcz13_2
      try clear hcz19_0
      try clear hcz19_1
      try clear hcz19_2
      try clear hcz25_0
      try clear hcz25_1
      try clear hcz25_2
      try clear hfz10_0
      try clear hfz10_1
      try clear hfz10_2
      try clear hfz13_0
      try clear hfz13_1
      try clear hfz13_2
      try clear hfz19_0
      try clear hfz19_1
      try clear hfz19_2
      try clear hfz25_0
      try clear hfz25_1
      try clear hfz25_2
      try clear p2
      try clear p6
      obtain ⟨x9_2, x276002_2, u276002, rfl, HA, HK2, HO_266001, HO_266002, HO_276001, HO_276002, BK265, BK275, HB⟩ := hrel
      cases gk with
      | zero => exact absurd HA.out (by simp [templelaw4_GramLimits.l1])
      | succ k2 =>
       have H := HA.out
       clear HA
       simp only [templelaw4_GramLimits.l1] at H
       by_cases c26 : x9_2 > 0
       ·rw [if_pos c26] at H
        have c26b0 : decide (0 < x9_2) = true := decide_eq_true c26
        clear c26
        obtain ⟨ji27, hji27⟩ : ∃ j_ : Int, (mn x9_2 64) = j_ := ⟨_, rfl⟩
        replace H : (if 0 ≤ (ji27) then (if (ji27 : Int).toNat ≤ 11728124029610 then (if x276002_2.length < 4398046511104 then (templelaw4_GramLimits.l1 k2 a0 a1 (wrap64 (254 + (Go.bits .and .i64 a0 3))) (wrap64 (x9_2 - (ji27))) (wrap64 (1022 + (Go.bits .and .i64 a1 3))) 0 y262 x266002_1 0 y272 (x276002_2 ++ [(⟨0, (([(⟨false, (List.replicate (ji27 : Int).toNat z56)⟩ : S54)] : List (S54)))⟩ : S51)])) else (none)) else (none)) else (none)) = some r := by first | (rw [hji27] at H; exact H) | (simp only [hji27] at H ⊢; exact H)
        have hji27_ : (if 64 < x9_2 then 64 else x9_2) = ji27 := hji27
        by_cases c28 : 0 ≤ (ji27)
        ·rw [if_pos c28] at H
         have c28b0 := eq_true c28
         have c28b1 : decide (0 ≤ (ji27)) = true := decide_eq_true c28
         clear c28
         by_cases c29 : (ji27 : Int).toNat ≤ 11728124029610
         ·rw [if_pos c29] at H
          have c29b0 := eq_true c29
          have c29b1 : decide ((ji27 : Int).toNat ≤ 11728124029610) = true := decide_eq_true c29
          clear c29
          obtain ⟨y276, hy276⟩ : ∃ y_ : List (S56), y_ = (List.replicate (ji27 : Int).toNat z56) := ⟨_, rfl⟩
          replace H : (if x276002_2.length < 4398046511104 then (templelaw4_GramLimits.l1 k2 a0 a1 (wrap64 (254 + (Go.bits .and .i64 a0 3))) (wrap64 (x9_2 - (ji27))) (wrap64 (1022 + (Go.bits .and .i64 a1 3))) 0 y262 x266002_1 0 y272 (x276002_2 ++ [(⟨0, (([(⟨false, y276⟩ : S54)] : List (S54)))⟩ : S51)])) else (none)) = some r := by first | (rw [hy276]; with_reducible exact H) | (have H2_ := (Option.bind_some _ _).symm.trans H; rw [hy276]; with_reducible exact H2_) | (have H2_ := (Option.bind_some _ _).symm.trans H; with_reducible exact H2_) | with_reducible exact H | (rw [hy276]; exact H) | exact H
          have Ny276 := Aside0.mk hy276
          clear hy276
          obtain ⟨y279, hy279⟩ : ∃ y_ : List (S54), y_ = (([(⟨false, y276⟩ : S54)] : List (S54))) := ⟨_, rfl⟩
          replace H : (if x276002_2.length < 4398046511104 then (templelaw4_GramLimits.l1 k2 a0 a1 (wrap64 (254 + (Go.bits .and .i64 a0 3))) (wrap64 (x9_2 - (ji27))) (wrap64 (1022 + (Go.bits .and .i64 a1 3))) 0 y262 x266002_1 0 y272 (x276002_2 ++ [(⟨0, y279⟩ : S51)])) else (none)) = some r := by first | (rw [hy279]; with_reducible exact H) | (have H2_ := (Option.bind_some _ _).symm.trans H; rw [hy279]; with_reducible exact H2_) | (have H2_ := (Option.bind_some _ _).symm.trans H; with_reducible exact H2_) | with_reducible exact H | (rw [hy279]; exact H) | exact H
          have Ny279 := Aside0.mk hy279
          clear hy279
          by_cases c30 : x276002_2.length < 4398046511104
          ·rw [if_pos c30] at H
           have LMc30 := Aside0.mk c30
           clear c30
           obtain ⟨y282, hy282⟩ : ∃ y_ : List (S51), y_ = (x276002_2 ++ [(⟨0, y279⟩ : S51)]) := ⟨_, rfl⟩
           replace H : (templelaw4_GramLimits.l1 k2 a0 a1 (wrap64 (254 + (Go.bits .and .i64 a0 3))) (wrap64 (x9_2 - (ji27))) (wrap64 (1022 + (Go.bits .and .i64 a1 3))) 0 y262 x266002_1 0 y272 y282) = some r := by first | (rw [hy282]; with_reducible exact H) | (have H2_ := (Option.bind_some _ _).symm.trans H; rw [hy282]; with_reducible exact H2_) | (have H2_ := (Option.bind_some _ _).symm.trans H; with_reducible exact H2_) | with_reducible exact H | (rw [hy282]; exact H) | exact H
           have Ny282 := Aside0.mk hy282
           clear hy282
           have H' := Aside0.mk H
           clear H
           try go_wp2
           have n0_ := Aside0.mk (Kd.R_drew HO_266001.out)
           have n1_ := Aside0.mk (Kd.N_drew HO_266002.out)
           have n2_ := Aside0.mk (Kd.R_drew HO_276001.out)
           have n3_ := Aside0.mk (Kd.N_drew HO_276002.out)
           have n4_ := Aside0.mk (blk_drew BK265.out)
           have n5_ := Aside0.mk (blk_drew BK275.out)
           have n6_ := Aside0.mk (below_drew1 HB.out)
           clear HO_266001
           clear HO_266002
           clear HO_276001
           clear HO_276002
           clear BK265
           clear BK275
           clear HB
           have HO_266001 := n0_
           have HO_266002 := n1_
           have HO_276001 := n2_
           have HO_276002 := n3_
           have BK265 := n4_
           have BK275 := n5_
           have HB := n6_
           clear n0_ n1_ n2_ n3_ n4_ n5_ n6_
           refine start_ (n := 11) (S := fun w' => w'.cell? ⟨gb275, 0, none⟩ = some (.int .i64 0) ∧ w'.cell? ⟨gb275, 1, none⟩ = some (.slice Ao22 y272.length co22) ∧ w'.cell? ⟨gb275, 2, none⟩ = some (u276002)) (ds := [10]) #[false, false, false, false, false, false, false, false, false, false, false] (by kernel_rfl) rfl rfl ⟨(blk_cell BK275.out 0).trans rfl, (blk_cell BK275.out 1).trans rfl, (blk_cell BK275.out 2).trans rfl⟩ (fun hHeld => ?_); refine with_tabW templelaw4_GramLimits.tab14 templelaw4_GramLimits.bits14 (fun HT_ HW_ => ?_)
           generalize wr.drew = w31 at HO_266001 HO_266002 HO_276001 HO_276002 BK265 BK275 HB hHeld ⊢
           refine pure_ (i := 0) (N := some 45) (v := ?_) (a' := ?_) #[true, false, false, false, false, false, false, false, false, false, false] rfl rfl (any_of HT_.out (by kernel_rfl)) (fun _ _ _ h => h) (Or.inl ⟨by rfl, ?_⟩) ?_ ?_
           rotate_left
           ·intro w'
            go_simp
            with_reducible rfl
           rotate_left
           ·simp only [Act.put, List.setIfInBounds_toArray, List.set_cons_zero, List.set_cons_succ, i64_w, i32_w]
            rfl
           refine pure_ (i := 2) (N := some 47) (v := ?_) (a' := ?_) #[true, false, true, false, false, false, false, false, false, false, false] rfl rfl (any_of HT_.out (by kernel_rfl)) (fun _ _ _ h => h) (Or.inl ⟨by rfl, ?_⟩) ?_ ?_
           rotate_left
           ·intro w'
            go_simp
            with_reducible rfl
           rotate_left
           ·simp only [Act.put, List.setIfInBounds_toArray, List.set_cons_zero, List.set_cons_succ, i64_w, i32_w]
            rfl
           refine take_ (i := 1) (N := some 46) (v := ?_) (a' := ?_) #[true, true, true, false, false, false, false, false, false, false, false] rfl rfl (take_ofW HT_.out HW_.out (by kernel_rfl)) (fun _ _ _ h => h) (Or.inl ⟨by rfl, ?_⟩) hHeld ?_ ?_
           rotate_left
           ·rintro w' ⟨s0, s1, s2⟩
            go_simp
            with_reducible rfl
           rotate_left
           ·simp only [Act.put, List.setIfInBounds_toArray, List.set_cons_zero, List.set_cons_succ, i64_w, i32_w]
            rfl
           refine one_ (i := 3) (N := some 48) #[true, true, true, true, false, false, false, false, false, false, false] rfl rfl (one_of HT_.out (by kernel_rfl)) (by decide) (fun K hK => ?_)
           refine Kd.R_make_step k56 _ 56 (by rfl) (N := 48) rfl 52 _ _ rfl ji27 rfl rfl Try.underlying52 (.agg #[(.int .i64 0), (.int .i64 0), (.int .i64 0)]) 24 info56 rfl (by decide) (by omega) z56 (ok := fun _ => True) (okp := fun _ => True) (k56_mkM _ _ _ z56 ) (fun _ hk => hk) trivial (of_decide_eq_true (by first | (with_reducible assumption) | assumption)) (Nat.le_trans (Nat.mul_le_mul_right _ (of_decide_eq_true (by first | (with_reducible assumption) | assumption) : ji27.toNat ≤ 11728124029610)) (by omega)) (Below.refl _ _) (Nat.le_refl _) ?_
           intro v277 w32 ho33 hb hg_ hnew_
           clear hg_ hnew_
           (first | rw [← Ny276.out] at ho33 | (simp only [Int.reduceToNat] at ho33; rw [← Ny276.out] at ho33))
           have n0_ := Aside0.mk (Kd.R_below (by (with_reducible repeat (first | apply Kd.R_alloc | apply Kd.R_drewN | apply Kd.R_drew)); exact HO_266001.out) hb)
           have n1_ := Aside0.mk (Kd.N_elder' (by (with_reducible repeat (first | apply Kd.N_alloc | apply Kd.N_drewN | apply Kd.N_drew)); exact HO_266002.out) (Kd.R_base ho33) hb)
           have n2_ := Aside0.mk (Kd.R_below (by (with_reducible repeat (first | apply Kd.R_alloc | apply Kd.R_drewN | apply Kd.R_drew)); exact HO_276001.out) hb)
           have n3_ := Aside0.mk (Kd.N_elder' (by (with_reducible repeat (first | apply Kd.N_alloc | apply Kd.N_drewN | apply Kd.N_drew)); exact HO_276002.out) (Kd.R_base ho33) hb)
           have n4_ := Aside0.mk (Kd.R_lower ho33 (below_size (by repeat (first | (with_reducible first | exact HB.out | apply below_alloc | apply pw_below_drewN | apply below_drew1 | refine below_set ?_ GE265.out | refine below_set ?_ GE275.out) | exact HB.out))))
           have n5_ := Aside0.mk (blk_below (g := gb265) (o := .cells #[.int .i64 0, .slice Ao8 y262.length co8, u266002] 28 (0, 0)) (by (with_reducible repeat (first | refine blk_drewN ?_ _ | refine blk_drew ?_ | refine blk_alloc ?_ _)); exact BK265.out) hb)
           have n6_ := Aside0.mk (blk_below (g := gb275) (o := .cells #[.int .i64 0, .slice Ao22 y272.length co22, u276002] 28 (0, 0)) (by (with_reducible repeat (first | refine blk_drewN ?_ _ | refine blk_drew ?_ | refine blk_alloc ?_ _)); exact BK275.out) hb)
           have n7_ := Aside0.mk (below_step (by repeat (first | (with_reducible first | exact HB.out | apply below_alloc | apply pw_below_drewN | apply below_drew1 | refine below_set ?_ GE265.out | refine below_set ?_ GE275.out) | exact HB.out)) hb)
           clear HO_266001
           clear HO_266002
           clear HO_276001
           clear HO_276002
           clear BK265
           clear BK275
           clear HB
           have HO_266001 := n0_
           have HO_266002 := n1_
           have HO_276001 := n2_
           have HO_276002 := n3_
           have HO278 := n4_
           have BK265 := n5_
           have BK275 := n6_
           have HB := n7_
           clear n0_ n1_ n2_ n3_ n4_ n5_ n6_ n7_
           clear hb ho33
           obtain ⟨Ao34, co34, eo34⟩ := Kd.R_slice HO278.out
           (first | subst eo34 | (injection eo34 with f1_ f2_ f3_; have f4_ := f1_.symm; have f5_ := f3_.symm; clear f1_ f2_ f3_; subst f4_; subst f5_))
           refine hK.out _ _ ⟨(blk_cell BK275.out 0).trans rfl, (blk_cell BK275.out 1).trans rfl, (blk_cell BK275.out 2).trans rfl⟩ (fun hHeld => ?_)
           clear hK K
           refine norm_ (a' := ?_) ?_ ?_
           rotate_left
           ·show Act.put _ (some 48) _ = _
            simp only [Act.put, List.setIfInBounds_toArray, List.set_cons_zero, List.set_cons_succ, i64_w, i32_w]
            rfl
           refine pure_ (i := 4) (N := some 49) (v := ?_) (a' := ?_) #[true, true, true, true, true, false, false, false, false, false, false] rfl rfl (any_of HT_.out (by kernel_rfl)) (fun _ _ _ h => h) (Or.inl ⟨by rfl, ?_⟩) ?_ ?_
           rotate_left
           ·intro w'
            go_simp
            with_reducible rfl
           rotate_left
           ·simp only [Act.put, List.setIfInBounds_toArray, List.set_cons_zero, List.set_cons_succ, i64_w, i32_w]
            rfl
           refine one_ (i := 5) (N := some 50) #[true, true, true, true, true, true, false, false, false, false, false] rfl rfl (one_of HT_.out (by kernel_rfl)) (by decide) (fun K hK => ?_)
           refine Kd.N_lit_step k54 _ 54 ?hg (N' := 50) ?hd (xs := ([(⟨false, y276⟩ : S54)] : List (S54))) (inner := [.bool false, .slice Ao34 y276.length co34]) (ok := (fun k_ => some k_ ≠ (.slice Ao8 y262.length co8 : Value).ownBlock ∧ some k_ ≠ (u266002 : Value).ownBlock ∧ some k_ ≠ (.slice Ao22 y272.length co22 : Value).ownBlock ∧ some k_ ≠ (u276002 : Value).ownBlock ∧ k_ ≠ gb265 ∧ k_ ≠ gb275)) (okp := (fun k_ => some k_ ≠ (.slice Ao8 y262.length co8 : Value).ownBlock ∧ some k_ ≠ (u266002 : Value).ownBlock ∧ some k_ ≠ (.slice Ao22 y272.length co22 : Value).ownBlock ∧ some k_ ≠ (u276002 : Value).ownBlock ∧ k_ ≠ gb265 ∧ k_ ≠ gb275)) ?hr ?hp (fun _ hk => hk) ((show ∀ k_, w32.heap.size ≤ k_ → (fun k_ => some k_ ≠ (.slice Ao8 y262.length co8 : Value).ownBlock ∧ some k_ ≠ (u266002 : Value).ownBlock ∧ some k_ ≠ (.slice Ao22 y272.length co22 : Value).ownBlock ∧ some k_ ≠ (u276002 : Value).ownBlock ∧ k_ ≠ gb265 ∧ k_ ≠ gb275) k_ from fun k_ hk => ⟨Kd.fresh' (Kd.R_lt (by (with_reducible repeat (first | apply Kd.R_alloc | apply Kd.R_drewN | apply Kd.R_drew)); exact HO_266001.out)) k_ hk, Kd.fresh' (Kd.N_lt (by (with_reducible repeat (first | apply Kd.N_alloc | apply Kd.N_drewN | apply Kd.N_drew)); exact HO_266002.out)) k_ hk, Kd.fresh' (Kd.R_lt (by (with_reducible repeat (first | apply Kd.R_alloc | apply Kd.R_drewN | apply Kd.R_drew)); exact HO_276001.out)) k_ hk, Kd.fresh' (Kd.N_lt (by (with_reducible repeat (first | apply Kd.N_alloc | apply Kd.N_drewN | apply Kd.N_drew)); exact HO_276002.out)) k_ hk, Kd.freshB (g := gb265) (o := .cells #[.int .i64 0, .slice Ao8 y262.length co8, u266002] 28 (0, 0)) (by (with_reducible repeat (first | refine blk_drewN ?_ _ | refine blk_drew ?_ | refine blk_alloc ?_ _)); exact BK265.out) k_ hk, Kd.freshB (g := gb275) (o := .cells #[.int .i64 0, .slice Ao22 y272.length co22, u276002] 28 (0, 0)) (by (with_reducible repeat (first | refine blk_drewN ?_ _ | refine blk_drew ?_ | refine blk_alloc ?_ _)); exact BK275.out) k_ hk⟩) _ (Nat.le_refl _)) (Below.refl _ _) (Nat.le_refl _) (by simp) ?_; (case hd => rfl); (case hg => rfl); (case hr => first | (go_simp; done) | (go_simp; rfl)); (case hp => exact (Reps.c2 (show Kd.FK k54 _ _ (⟨false, y276⟩ : S54) [.bool false, .slice Ao34 y276.length co34] from (k54_mkF _ _ (⟨false, y276⟩ : S54) (Kd.R_reads' (Kd.R_mono (ok' := (fun k_ => some k_ ≠ (.slice Ao8 y262.length co8 : Value).ownBlock ∧ some k_ ≠ (u266002 : Value).ownBlock ∧ some k_ ≠ (.slice Ao22 y272.length co22 : Value).ownBlock ∧ some k_ ≠ (u276002 : Value).ownBlock ∧ k_ ≠ gb265 ∧ k_ ≠ gb275)) (Kd.R_types (Kd.R_types (Kd.R_apart' (Kd.R_apart' (Kd.R_apart' (Kd.R_apart' (HO278.out) (Kd.R_typed HO_266001.out) (by decide)) (Kd.N_typed HO_266002.out) (by decide)) (Kd.R_typed HO_276001.out) (by decide)) (Kd.N_typed HO_276002.out) (by decide)) BK265.out (by decide)) BK275.out (by decide)) (fun k_ hk => ⟨hk.1.1.1.1.1.2, ⟨hk.1.1.1.1.2, ⟨hk.1.1.1.2, ⟨hk.1.1.2, ⟨hk.1.2, hk.2⟩⟩⟩⟩⟩))).2.1 (Kd.R_F (Kd.R_mono (ok' := (fun k_ => some k_ ≠ (.slice Ao8 y262.length co8 : Value).ownBlock ∧ some k_ ≠ (u266002 : Value).ownBlock ∧ some k_ ≠ (.slice Ao22 y272.length co22 : Value).ownBlock ∧ some k_ ≠ (u276002 : Value).ownBlock ∧ k_ ≠ gb265 ∧ k_ ≠ gb275)) (Kd.R_types (Kd.R_types (Kd.R_apart' (Kd.R_apart' (Kd.R_apart' (Kd.R_apart' (HO278.out) (Kd.R_typed HO_266001.out) (by decide)) (Kd.N_typed HO_266002.out) (by decide)) (Kd.R_typed HO_276001.out) (by decide)) (Kd.N_typed HO_276002.out) (by decide)) BK265.out (by decide)) BK275.out (by decide)) (fun k_ hk => ⟨hk.1.1.1.1.1.2, ⟨hk.1.1.1.1.2, ⟨hk.1.1.1.2, ⟨hk.1.1.2, ⟨hk.1.2, hk.2⟩⟩⟩⟩⟩))))) (Reps.none _ _)))
           intro v280 w35 ho36 hb hg_ hnew_
           clear hg_ hnew_
           (first | rw [← Ny279.out] at ho36 | (simp only [Int.reduceToNat] at ho36; rw [← Ny279.out] at ho36))
           have n0_ := Aside0.mk (Kd.R_below (by (with_reducible repeat (first | apply Kd.R_alloc | apply Kd.R_drewN | apply Kd.R_drew)); exact HO_266001.out) hb)
           have n1_ := Aside0.mk (Kd.N_elder' (by (with_reducible repeat (first | apply Kd.N_alloc | apply Kd.N_drewN | apply Kd.N_drew)); exact HO_266002.out) (Kd.N_base ho36) hb)
           have n2_ := Aside0.mk (Kd.R_below (by (with_reducible repeat (first | apply Kd.R_alloc | apply Kd.R_drewN | apply Kd.R_drew)); exact HO_276001.out) hb)
           have n3_ := Aside0.mk (Kd.N_elder' (by (with_reducible repeat (first | apply Kd.N_alloc | apply Kd.N_drewN | apply Kd.N_drew)); exact HO_276002.out) (Kd.N_base ho36) hb)
           have n4_ := Aside0.mk (Kd.N_lower ho36 (below_size (by repeat (first | (with_reducible first | exact HB.out | apply below_alloc | apply pw_below_drewN | apply below_drew1 | refine below_set ?_ GE265.out | refine below_set ?_ GE275.out) | exact HB.out))))
           have n5_ := Aside0.mk (blk_below (g := gb265) (o := .cells #[.int .i64 0, .slice Ao8 y262.length co8, u266002] 28 (0, 0)) (by (with_reducible repeat (first | refine blk_drewN ?_ _ | refine blk_drew ?_ | refine blk_alloc ?_ _)); exact BK265.out) hb)
           have n6_ := Aside0.mk (blk_below (g := gb275) (o := .cells #[.int .i64 0, .slice Ao22 y272.length co22, u276002] 28 (0, 0)) (by (with_reducible repeat (first | refine blk_drewN ?_ _ | refine blk_drew ?_ | refine blk_alloc ?_ _)); exact BK275.out) hb)
           have n7_ := Aside0.mk (below_step (by repeat (first | (with_reducible first | exact HB.out | apply below_alloc | apply pw_below_drewN | apply below_drew1 | refine below_set ?_ GE265.out | refine below_set ?_ GE275.out) | exact HB.out)) hb)
           clear HO_266001
           clear HO_266002
           clear HO_276001
           clear HO_276002
           clear BK265
           clear BK275
           clear HB
           clear HO278
           have HO_266001 := n0_
           have HO_266002 := n1_
           have HO_276001 := n2_
           have HO_276002 := n3_
           have HO281 := n4_
           have BK265 := n5_
           have BK275 := n6_
           have HB := n7_
           clear n0_ n1_ n2_ n3_ n4_ n5_ n6_ n7_
           clear hb ho36
           obtain ⟨Ao37, co37, eo37⟩ := Kd.N_slice HO281.out
           (first | subst eo37 | (injection eo37 with f1_ f2_ f3_; have f4_ := f1_.symm; have f5_ := f3_.symm; clear f1_ f2_ f3_; subst f4_; subst f5_))
           refine hK.out _ _ ⟨(blk_cell BK275.out 0).trans rfl, (blk_cell BK275.out 1).trans rfl, (blk_cell BK275.out 2).trans rfl⟩ (fun hHeld => ?_)
           clear hK K
           refine norm_ (a' := ?_) ?_ ?_
           rotate_left
           ·show Act.put _ (some 50) _ = _
            simp only [Act.put, List.setIfInBounds_toArray, List.set_cons_zero, List.set_cons_succ, i64_w, i32_w]
            rfl
           refine pure_ (i := 6) (N := some 51) (v := ?_) (a' := ?_) #[true, true, true, true, true, true, true, false, false, false, false] rfl rfl (any_of HT_.out (by kernel_rfl)) (fun _ _ _ h => h) (Or.inl ⟨by rfl, ?_⟩) ?_ ?_
           rotate_left
           ·intro w'
            go_simp
            with_reducible rfl
           rotate_left
           ·simp only [Act.put, List.setIfInBounds_toArray, List.set_cons_zero, List.set_cons_succ, i64_w, i32_w]
            rfl
           refine one_ (i := 7) (N := some 52) #[true, true, true, true, true, true, true, true, false, false, false] rfl rfl (one_of HT_.out (by kernel_rfl)) (by decide) (fun K hK => ?_)
           refine value_ (w1 := ?_) (v := ?_) (by rfl) rfl ?_ ?_
           rotate_left 2
           ·go_simp
            constructor
            ·rfl
            ·rfl
           refine hK.out _ _ ⟨(blk_cell (blk_alloc BK275.out _) 0).trans rfl, (blk_cell (blk_alloc BK275.out _) 1).trans rfl, (blk_cell (blk_alloc BK275.out _) 2).trans rfl⟩ (fun hHeld => ?_)
           clear hK K
           refine norm_ (a' := ?_) ?_ ?_
           rotate_left
           ·show Act.put _ (some 52) _ = _
            simp only [Act.put, List.setIfInBounds_toArray, List.set_cons_zero, List.set_cons_succ, i64_w, i32_w]
            rfl
           refine one_ (i := 8) (N := some 53) #[true, true, true, true, true, true, true, true, true, false, false] rfl rfl (one_of HT_.out (by kernel_rfl)) (by decide) (fun K hK => ?_)
           refine Kd.N_append_step k51 (w0 := w) w.heap.size (by rfl) (.tmp 46) (.tmp 52) 26 51 (.agg #[(.int .i64 0), (.slice none 0 0)]) 32 rfl Try.underlying26 info51 rfl (by decide) (by omega) u276002 x276002_2 (⟨0, y279⟩ : S51) [.int .i64 0, .slice Ao37 y279.length co37] (fun k_ => some k_ ≠ (.slice Ao8 y262.length co8 : Value).ownBlock ∧ some k_ ≠ (u266002 : Value).ownBlock ∧ some k_ ≠ (.slice Ao22 y272.length co22 : Value).ownBlock ∧ k_ ≠ gb265 ∧ k_ ≠ gb275) (fun k_ => ((fun k_ => some k_ ≠ (.slice Ao8 y262.length co8 : Value).ownBlock ∧ some k_ ≠ (u266002 : Value).ownBlock ∧ some k_ ≠ (.slice Ao22 y272.length co22 : Value).ownBlock ∧ k_ ≠ gb265 ∧ k_ ≠ gb275)) k_ ∧ some k_ ≠ (u276002 : Value).ownBlock) rfl rfl ?aP (fun _ hk => hk) ?aF ?aO ?aB ?aS ?aL ?_
           (case aP => exact (k51_mkF _ _ (⟨0, y279⟩ : S51) (Kd.N_reads' (Kd.N_mono (ok' := (fun k_ => ((fun k_ => some k_ ≠ (.slice Ao8 y262.length co8 : Value).ownBlock ∧ some k_ ≠ (u266002 : Value).ownBlock ∧ some k_ ≠ (.slice Ao22 y272.length co22 : Value).ownBlock ∧ k_ ≠ gb265 ∧ k_ ≠ gb275)) k_ ∧ some k_ ≠ (u276002 : Value).ownBlock)) (HO281.out) (fun k_ hk => ⟨⟨hk.1, ⟨hk.2.1, ⟨hk.2.2.1, ⟨hk.2.2.2.2.1, hk.2.2.2.2.2⟩⟩⟩⟩, hk.2.2.2.1⟩))).2.1 (Kd.N_F (Kd.N_mono (ok' := (fun k_ => ((fun k_ => some k_ ≠ (.slice Ao8 y262.length co8 : Value).ownBlock ∧ some k_ ≠ (u266002 : Value).ownBlock ∧ some k_ ≠ (.slice Ao22 y272.length co22 : Value).ownBlock ∧ k_ ≠ gb265 ∧ k_ ≠ gb275)) k_ ∧ some k_ ≠ (u276002 : Value).ownBlock)) (HO281.out) (fun k_ hk => ⟨⟨hk.1, ⟨hk.2.1, ⟨hk.2.2.1, ⟨hk.2.2.2.2.1, hk.2.2.2.2.2⟩⟩⟩⟩, hk.2.2.2.1⟩)))))
           (case aB => exact (by repeat (first | (with_reducible first | exact HB.out | apply below_alloc | apply pw_below_drewN | apply below_drew1 | refine below_set ?_ GE265.out | refine below_set ?_ GE275.out) | exact HB.out)))
           (case aF => exact (fun k_ hk => ⟨Kd.fresh' (Kd.R_lt (by (with_reducible repeat (first | apply Kd.R_alloc | apply Kd.R_drewN | apply Kd.R_drew)); exact HO_266001.out)) k_ hk, Kd.fresh' (Kd.N_lt (by (with_reducible repeat (first | apply Kd.N_alloc | apply Kd.N_drewN | apply Kd.N_drew)); exact HO_266002.out)) k_ hk, Kd.fresh' (Kd.R_lt (by (with_reducible repeat (first | apply Kd.R_alloc | apply Kd.R_drewN | apply Kd.R_drew)); exact HO_276001.out)) k_ hk, Kd.freshB (g := gb265) (o := .cells #[.int .i64 0, .slice Ao8 y262.length co8, u266002] 28 (0, 0)) (by (with_reducible repeat (first | refine blk_drewN ?_ _ | refine blk_drew ?_ | refine blk_alloc ?_ _)); exact BK265.out) k_ hk, Kd.freshB (g := gb275) (o := .cells #[.int .i64 0, .slice Ao22 y272.length co22, u276002] 28 (0, 0)) (by (with_reducible repeat (first | refine blk_drewN ?_ _ | refine blk_drew ?_ | refine blk_alloc ?_ _)); exact BK275.out) k_ hk⟩))
           (case aO => exact (by (with_reducible repeat (first | apply Kd.N_alloc | apply Kd.N_drewN | apply Kd.N_drew)); exact Kd.N_mono HO_276002.out (fun _ hk => ⟨hk.1.1.1, ⟨hk.1.1.2.1, ⟨hk.1.1.2.2.1, ⟨hk.1.1.2.2.2.1, hk.1.1.2.2.2.2⟩⟩⟩⟩)))
           (case aS => exact (below_size (by repeat (first | (with_reducible first | exact HB.out | apply below_alloc | apply pw_below_drewN | apply below_drew1 | refine below_set ?_ GE265.out | refine below_set ?_ GE275.out) | exact HB.out))))
           (case aL => have := LMc30.out; omega)
           intro v283 w38 ho hb hg hat
           rw [← Ny282.out] at ho
           have n0_ := Aside0.mk (Kd.R_over' (by (with_reducible repeat (first | apply Kd.R_alloc | apply Kd.R_drewN | apply Kd.R_drew)); exact HO_266001.out) (Kd.N_typed (by (with_reducible repeat (first | apply Kd.N_alloc | apply Kd.N_drewN | apply Kd.N_drew)); exact HO_276002.out)) (by decide) hg)
           have n1_ := Aside0.mk (Kd.N_afterv (ok := (fun k_ => some k_ ≠ (.slice Ao8 y262.length co8 : Value).ownBlock ∧ some k_ ≠ (.slice Ao22 y272.length co22 : Value).ownBlock ∧ some k_ ≠ (.slice Ao37 y279.length co37 : Value).ownBlock ∧ k_ ≠ gb265 ∧ k_ ≠ gb275)) (by (with_reducible repeat (first | apply Kd.N_alloc | apply Kd.N_drewN | apply Kd.N_drew)); exact Kd.N_mono HO_266002.out (fun _ hk => ⟨⟨hk.1.1.1, ⟨hk.1.1.2.1, ⟨hk.2, ⟨hk.1.1.2.2.2.1, hk.1.1.2.2.2.2⟩⟩⟩⟩, hk.1.1.2.2.1⟩)) hg hat)
           have n2_ := Aside0.mk (Kd.R_over' (by (with_reducible repeat (first | apply Kd.R_alloc | apply Kd.R_drewN | apply Kd.R_drew)); exact HO_276001.out) (Kd.N_typed (by (with_reducible repeat (first | apply Kd.N_alloc | apply Kd.N_drewN | apply Kd.N_drew)); exact HO_276002.out)) (by decide) hg)
           have n3_ := Aside0.mk (blk_grown (g := gb265) (o := .cells #[.int .i64 0, .slice Ao8 y262.length co8, u266002] 28 (0, 0)) (by (with_reducible repeat (first | refine blk_drewN ?_ _ | refine blk_drew ?_ | refine blk_alloc ?_ _)); exact BK265.out) hg (Kd.N_ne HO_276002.out BK265.out (by decide)))
           have n4_ := Aside0.mk (blk_grown (g := gb275) (o := .cells #[.int .i64 0, .slice Ao22 y272.length co22, u276002] 28 (0, 0)) (by (with_reducible repeat (first | refine blk_drewN ?_ _ | refine blk_drew ?_ | refine blk_alloc ?_ _)); exact BK275.out) hg (Kd.N_ne HO_276002.out BK275.out (by decide)))
           have n5_ := Aside0.mk (hb)
           have n6_ := Aside0.mk (ho)
           clear HO_266001
           clear HO_266002
           clear HO_276001
           clear BK265
           clear BK275
           clear HB
           clear HO_276002
           clear HO281
           have HO_266001 := n0_
           have HO_266002 := n1_
           have HO_276001 := n2_
           have BK265 := n3_
           have BK275 := n4_
           have HB := n5_
           have HO284 := n6_
           clear n0_ n1_ n2_ n3_ n4_ n5_ n6_
           clear ho hb hg hat
           obtain ⟨Ao39, co39, eo39⟩ := Kd.N_slice HO284.out
           (first | subst eo39 | (injection eo39 with f1_ f2_ f3_; have f4_ := f1_.symm; have f5_ := f3_.symm; clear f1_ f2_ f3_; subst f4_; subst f5_))
           refine hK.out _ _ ⟨(blk_cell BK275.out 0).trans rfl, (blk_cell BK275.out 1).trans rfl, (blk_cell BK275.out 2).trans rfl⟩ (fun hHeld => ?_)
           clear hK K
           refine norm_ (a' := ?_) ?_ ?_
           rotate_left
           ·show Act.put _ (some 53) _ = _
            simp only [Act.put, List.setIfInBounds_toArray, List.set_cons_zero, List.set_cons_succ, i64_w, i32_w]
            rfl
           refine pure_ (i := 9) (N := some 54) (v := ?_) (a' := ?_) #[true, true, true, true, true, true, true, true, true, true, false] rfl rfl (any_of HT_.out (by kernel_rfl)) (fun _ _ _ h => h) (Or.inl ⟨by rfl, ?_⟩) ?_ ?_
           rotate_left
           ·intro w'
            go_simp
            with_reducible rfl
           rotate_left
           ·simp only [Act.put, List.setIfInBounds_toArray, List.set_cons_zero, List.set_cons_succ, i64_w, i32_w]
            rfl
           refine last_ (i := 10) (N := none) #[true, true, true, true, true, true, true, true, true, true, true] rfl rfl (one_of HT_.out (by kernel_rfl)) (by decide) (fun K hK => ?_)
           have hs40 : w38.cell? ⟨gb275, 2, none⟩ = some (u276002) := (blk_cell BK275.out 2).trans rfl
           have hfs40 := blk_frozen BK275.out 2
           have hns40_0 := NB265_275.out
           have hms40_0 := NB275_265.out
           refine skip_ (w1 := ?_) (by rfl) rfl ?_ ?_
           rotate_left
           ·go_simp
            rfl
           refine hK.out _ _ ?_
           clear hK K
           refine done_ (done_of HT_.out (by kernel_rfl)) ?_
           try go_wp2
           go_roundg k2
           case measure => have := HK1.out; have := HK2.out; omega
           case rel => exact ⟨(wrap64 (x9_2 - (ji27))), (y282), (.slice Ao39 y282.length co39), (by first | rfl | (simp; done) | (simp only [← hji27] <;> (first | rfl | (simp; done) | (simp [i64_w]; done))) | (simp [*]; done)), H', ⟨by have := HK1.out; have := HK2.out; omega⟩, ⟨by (with_reducible repeat (first | apply Kd.R_alloc | apply Kd.R_drewN | apply Kd.R_drew)); exact Kd.R_mono (Kd.R_far (p := ⟨gb275, 2, none⟩) (Kd.R_types HO_266001.out BK275.out (by decide)) (fun _ hk => hk.2) (.slice Ao39 y282.length co39)) (fun _ hk => hk.1)⟩, ⟨by (with_reducible repeat (first | apply Kd.N_alloc | apply Kd.N_drewN | apply Kd.N_drew)); exact Kd.N_mono (Kd.N_far (p := ⟨gb275, 2, none⟩) (Kd.N_mono HO_266002.out (fun k_ hk => (⟨hk, hk.1.2.2.2.2⟩ : _ ∧ k_ ≠ gb275))) (fun _ hk => hk.2) (.slice Ao39 y282.length co39)) (fun _ hk => ⟨hk.1.1.1, ⟨hk.1.1.2.1, ⟨hk.1.2, ⟨hk.1.1.2.2.2.1, hk.1.1.2.2.2.2⟩⟩⟩⟩)⟩, ⟨by (with_reducible repeat (first | apply Kd.R_alloc | apply Kd.R_drewN | apply Kd.R_drew)); exact Kd.R_mono (Kd.R_far (p := ⟨gb275, 2, none⟩) (Kd.R_types HO_276001.out BK275.out (by decide)) (fun _ hk => hk.2) (.slice Ao39 y282.length co39)) (fun _ hk => hk.1)⟩, ⟨by (with_reducible repeat (first | apply Kd.N_alloc | apply Kd.N_drewN | apply Kd.N_drew)); exact Kd.N_mono (Kd.N_far (p := ⟨gb275, 2, none⟩) (Kd.N_mono HO284.out (fun k_ hk => (⟨hk, hk.2.2.2.2⟩ : _ ∧ k_ ≠ gb275))) (fun _ hk => hk.2) (.slice Ao39 y282.length co39)) (fun _ hk => ⟨hk.1.1, ⟨hk.1.2.1, ⟨hk.1.2.2.1, ⟨hk.1.2.2.2.1, hk.1.2.2.2.2⟩⟩⟩⟩)⟩, ⟨by (with_reducible repeat (first | refine blk_drewN ?_ _ | refine blk_drew ?_ | refine blk_alloc ?_ _)); refine blk_far ?_ NB265_275.out _; (with_reducible repeat (first | refine blk_drewN ?_ _ | refine blk_drew ?_ | refine blk_alloc ?_ _)); exact BK265.out⟩, ⟨by (with_reducible repeat (first | refine blk_drewN ?_ _ | refine blk_drew ?_ | refine blk_alloc ?_ _)); refine blk_put (cs := #[.int .i64 0, .slice Ao22 y272.length co22, u276002]) ?_ 2 _ rfl; (with_reducible repeat (first | refine blk_drewN ?_ _ | refine blk_drew ?_ | refine blk_alloc ?_ _)); exact BK275.out⟩, ⟨by repeat (first | (with_reducible first | exact HB.out | apply below_alloc | apply pw_below_drewN | apply below_drew1 | refine below_set ?_ GE265.out | refine below_set ?_ GE275.out) | exact HB.out)⟩⟩
          ·rw [if_neg c30] at H
           exact absurd H (by simp)
         ·rw [if_neg c29] at H
          exact absurd H (by simp)
        ·rw [if_neg c28] at H
         exact absurd H (by simp)
       ·rw [if_neg c26] at H
        have c26b0 : decide (0 < x9_2) = false := decide_eq_false c26
        clear c26
        have H' := Aside0.mk H
        clear H
        go_wp2_with (first | ((with_reducible refine gate_dst (N := 12) rfl ?_); refine box_event ?hg (N := 12) ?hd (cs := #[.int .i64 0, .slice none 0 0, .slice none 0 0]) (t := 28) ?hr ?_; (case hd => rfl); (case hg => rfl); (case hr => first | (go_simp; done) | (go_simp; rfl)); intro gb285 hg w41 hbox hb; have n0_ := Aside0.mk (Kd.R_below (by (with_reducible repeat (first | apply Kd.R_alloc | apply Kd.R_drewN | apply Kd.R_drew)); exact HO_266001.out) hb); have n1_ := Aside0.mk (Kd.N_below (Kd.N_elderB (by (with_reducible repeat (first | apply Kd.N_alloc | apply Kd.N_drewN | apply Kd.N_drew)); exact HO_266002.out) gb285 (Nat.le_of_eq hg.symm)) hb); have n2_ := Aside0.mk (Kd.R_below (by (with_reducible repeat (first | apply Kd.R_alloc | apply Kd.R_drewN | apply Kd.R_drew)); exact HO_276001.out) hb); have n3_ := Aside0.mk (Kd.N_below (Kd.N_elderB (by (with_reducible repeat (first | apply Kd.N_alloc | apply Kd.N_drewN | apply Kd.N_drew)); exact HO_276002.out) gb285 (Nat.le_of_eq hg.symm)) hb); have n4_ := Aside0.mk (blk_below (g := gb265) (o := .cells #[.int .i64 0, .slice Ao8 y262.length co8, u266002] 28 (0, 0)) (by (with_reducible repeat (first | refine blk_drewN ?_ _ | refine blk_drew ?_ | refine blk_alloc ?_ _)); exact BK265.out) hb); have n5_ := Aside0.mk (blk_below (g := gb275) (o := .cells #[.int .i64 0, .slice Ao22 y272.length co22, u276002] 28 (0, 0)) (by (with_reducible repeat (first | refine blk_drewN ?_ _ | refine blk_drew ?_ | refine blk_alloc ?_ _)); exact BK275.out) hb); have n6_ := Aside0.mk (below_step (by repeat (first | (with_reducible first | exact HB.out | apply below_alloc | apply pw_below_drewN | apply below_drew1 | refine below_set ?_ GE265.out | refine below_set ?_ GE275.out) | exact HB.out)) hb); have n7_ := Aside0.mk (hbox); have n8_ := Aside0.mk ((by rw [hg]; exact (below_size (by repeat (first | (with_reducible first | exact HB.out | apply below_alloc | apply pw_below_drewN | apply below_drew1 | refine below_set ?_ GE265.out | refine below_set ?_ GE275.out) | exact HB.out))) : w.heap.size ≤ gb285)); have n9_ := Aside0.mk ((by rw [hg]; exact (below_size (by repeat (first | (with_reducible first | exact HB.out | apply below_alloc | apply pw_below_drewN | apply below_drew1 | refine below_set ?_ GE265.out | refine below_set ?_ GE275.out) | exact HB.out))) : w.heap.size ≤ gb285)); have n10_ := Aside0.mk ((by rw [hg]; exact Nat.ne_of_lt (blk_lt (g := gb265) (o := .cells #[.int .i64 0, .slice Ao8 y262.length co8, u266002] 28 (0, 0)) (by (with_reducible repeat (first | refine blk_drewN ?_ _ | refine blk_drew ?_ | refine blk_alloc ?_ _)); exact BK265.out)) : gb265 ≠ gb285)); have n11_ := Aside0.mk ((by rw [hg]; exact Nat.ne_of_gt (blk_lt (g := gb265) (o := .cells #[.int .i64 0, .slice Ao8 y262.length co8, u266002] 28 (0, 0)) (by (with_reducible repeat (first | refine blk_drewN ?_ _ | refine blk_drew ?_ | refine blk_alloc ?_ _)); exact BK265.out)) : gb285 ≠ gb265)); have n12_ := Aside0.mk ((by rw [hg]; exact Nat.ne_of_lt (blk_lt (g := gb275) (o := .cells #[.int .i64 0, .slice Ao22 y272.length co22, u276002] 28 (0, 0)) (by (with_reducible repeat (first | refine blk_drewN ?_ _ | refine blk_drew ?_ | refine blk_alloc ?_ _)); exact BK275.out)) : gb275 ≠ gb285)); have n13_ := Aside0.mk ((by rw [hg]; exact Nat.ne_of_gt (blk_lt (g := gb275) (o := .cells #[.int .i64 0, .slice Ao22 y272.length co22, u276002] 28 (0, 0)) (by (with_reducible repeat (first | refine blk_drewN ?_ _ | refine blk_drew ?_ | refine blk_alloc ?_ _)); exact BK275.out)) : gb285 ≠ gb275)); clear HO_266001; clear HO_266002; clear HO_276001; clear HO_276002; clear BK265; clear BK275; clear HB; have HO_266001 := n0_; have HO_266002 := n1_; have HO_276001 := n2_; have HO_276002 := n3_; have BK265 := n4_; have BK275 := n5_; have HB := n6_; have BK285 := n7_; have GW285 := n8_; have GE285 := n9_; have NB265_285 := n10_; have NB285_265 := n11_; have NB275_285 := n12_; have NB285_275 := n13_; clear n0_ n1_ n2_ n3_ n4_ n5_ n6_ n7_ n8_ n9_ n10_ n11_ n12_ n13_; clear hb hbox hg; have hnb42 := NB285_265.out; have hnc42 := NB265_285.out; have hnb43 := NB285_275.out; have hnc43 := NB275_285.out; have hcz44_0 : w41.cell? ⟨gb285, 0, none⟩ = some (.int .i64 0) := (blk_cell BK285.out 0).trans rfl; have hcz44_1 : w41.cell? ⟨gb285, 1, none⟩ = some (.slice none 0 0) := (blk_cell BK285.out 1).trans rfl; have hcz44_2 : w41.cell? ⟨gb285, 2, none⟩ = some (.slice none 0 0) := (blk_cell BK285.out 2).trans rfl; have hfz44_0 := blk_frozen BK285.out 0; have hfz44_1 := blk_frozen BK285.out 1; have hfz44_2 := blk_frozen BK285.out 2))
        go_loopg [14] k2 (fun kq v14 w' => ∃ (x14_3 : Int) (x286001_3 : List ByteArray) (x286002_3 : List (S51)) (u286001 : Value) (u286002 : Value), v14 = .int .i64 x14_3 ∧ Aside0 (templelaw4_GramLimits.l2 kq (wrap64 (254 + (Go.bits .and .i64 a0 3))) (wrap64 (1022 + (Go.bits .and .i64 a1 3))) (wrap64 ((wrap64 (63 + (Go.bits .and .i64 a0 1))) + (Go.bits .and .i64 a1 1))) x14_3 0 y262 x266002_1 0 y272 x276002_2 0 x286001_3 x286002_3 = some r) ∧ Aside0 (kq ≤ k2) ∧ Aside0 (Kd.R Kd.string 9 w' w.heap.size (fun k_ => some k_ ≠ ((.slice Ao22 y272.length co22) : Value).ownBlock ∧ some k_ ≠ (u286001 : Value).ownBlock) (.slice Ao8 y262.length co8) y262) ∧ Aside0 (Kd.N k51 51 w' w.heap.size (fun k_ => some k_ ≠ ((.slice Ao8 y262.length co8) : Value).ownBlock ∧ some k_ ≠ ((.slice Ao22 y272.length co22) : Value).ownBlock ∧ some k_ ≠ (u276002 : Value).ownBlock ∧ some k_ ≠ (u286001 : Value).ownBlock ∧ some k_ ≠ (u286002 : Value).ownBlock ∧ k_ ≠ gb265 ∧ k_ ≠ gb275 ∧ k_ ≠ gb285) u266002 x266002_1) ∧ Aside0 (Kd.R Kd.string 9 w' w.heap.size (fun k_ => some k_ ≠ ((.slice Ao8 y262.length co8) : Value).ownBlock ∧ some k_ ≠ (u286001 : Value).ownBlock) (.slice Ao22 y272.length co22) y272) ∧ Aside0 (Kd.N k51 51 w' w.heap.size (fun k_ => some k_ ≠ ((.slice Ao8 y262.length co8) : Value).ownBlock ∧ some k_ ≠ (u266002 : Value).ownBlock ∧ some k_ ≠ ((.slice Ao22 y272.length co22) : Value).ownBlock ∧ some k_ ≠ (u286001 : Value).ownBlock ∧ some k_ ≠ (u286002 : Value).ownBlock ∧ k_ ≠ gb265 ∧ k_ ≠ gb275 ∧ k_ ≠ gb285) u276002 x276002_2) ∧ Aside0 (Kd.R Kd.string 9 w' w.heap.size (fun k_ => some k_ ≠ ((.slice Ao8 y262.length co8) : Value).ownBlock ∧ some k_ ≠ ((.slice Ao22 y272.length co22) : Value).ownBlock) u286001 x286001_3) ∧ Aside0 (Kd.N k51 51 w' w.heap.size (fun k_ => some k_ ≠ ((.slice Ao8 y262.length co8) : Value).ownBlock ∧ some k_ ≠ (u266002 : Value).ownBlock ∧ some k_ ≠ ((.slice Ao22 y272.length co22) : Value).ownBlock ∧ some k_ ≠ (u276002 : Value).ownBlock ∧ some k_ ≠ (u286001 : Value).ownBlock ∧ k_ ≠ gb265 ∧ k_ ≠ gb275 ∧ k_ ≠ gb285) u286002 x286002_3) ∧ Aside0 (w'.heap[gb265]? = some (.cells #[.int .i64 0, (.slice Ao8 y262.length co8), u266002] 28 (0, 0))) ∧ Aside0 (w'.heap[gb275]? = some (.cells #[.int .i64 0, (.slice Ao22 y272.length co22), u276002] 28 (0, 0))) ∧ Aside0 (w'.heap[gb285]? = some (.cells #[.int .i64 0, u286001, u286002] 28 (0, 0))) ∧ Aside0 (Below w.heap.size w w'))
        case atStart => exact ⟨(0), (([] : List ByteArray)), (([] : List (S51))), (.slice none 0 0), (.slice none 0 0), (by first | rfl | (simp; done) | (simp [i64_w]; done) | (simp [*]; done) | (simp [*, i64_w]; done) | (simp [*]; unfold wrap64; omega)), H', ⟨Nat.le_refl _⟩, ⟨by (with_reducible repeat (first | apply Kd.R_alloc | apply Kd.R_drewN | apply Kd.R_drew)); exact Kd.R_mono (Kd.R_far (p := ⟨gb285, 2, none⟩) (Kd.R_far (p := ⟨gb285, 1, none⟩) (Kd.R_far (p := ⟨gb285, 0, none⟩) (Kd.R_types HO_266001.out BK285.out (by decide)) (fun _ hk => hk.2) (.int .i64 0)) (fun _ hk => hk.2) (.slice none 0 0)) (fun _ hk => hk.2) (.slice none 0 0)) (fun _ hk => ⟨hk.1, (by simp [Value.ownBlock])⟩)⟩, ⟨by (with_reducible repeat (first | apply Kd.N_alloc | apply Kd.N_drewN | apply Kd.N_drew)); exact Kd.N_mono (Kd.N_far (p := ⟨gb285, 2, none⟩) (Kd.N_far (p := ⟨gb285, 1, none⟩) (Kd.N_far (p := ⟨gb285, 0, none⟩) (Kd.N_mono HO_266002.out (fun k_ hk => (⟨hk, hk.2⟩ : _ ∧ k_ ≠ gb285))) (fun _ hk => hk.2) (.int .i64 0)) (fun _ hk => hk.2) (.slice none 0 0)) (fun _ hk => hk.2) (.slice none 0 0)) (fun _ hk => ⟨hk.1.1.1, ⟨hk.1.1.2.1, ⟨hk.1.1.2.2.1, ⟨(by simp [Value.ownBlock]), ⟨(by simp [Value.ownBlock]), ⟨hk.1.1.2.2.2.1, ⟨hk.1.1.2.2.2.2, hk.1.2⟩⟩⟩⟩⟩⟩⟩)⟩, ⟨by (with_reducible repeat (first | apply Kd.R_alloc | apply Kd.R_drewN | apply Kd.R_drew)); exact Kd.R_mono (Kd.R_far (p := ⟨gb285, 2, none⟩) (Kd.R_far (p := ⟨gb285, 1, none⟩) (Kd.R_far (p := ⟨gb285, 0, none⟩) (Kd.R_types HO_276001.out BK285.out (by decide)) (fun _ hk => hk.2) (.int .i64 0)) (fun _ hk => hk.2) (.slice none 0 0)) (fun _ hk => hk.2) (.slice none 0 0)) (fun _ hk => ⟨hk.1, (by simp [Value.ownBlock])⟩)⟩, ⟨by (with_reducible repeat (first | apply Kd.N_alloc | apply Kd.N_drewN | apply Kd.N_drew)); exact Kd.N_mono (Kd.N_far (p := ⟨gb285, 2, none⟩) (Kd.N_far (p := ⟨gb285, 1, none⟩) (Kd.N_far (p := ⟨gb285, 0, none⟩) (Kd.N_mono HO_276002.out (fun k_ hk => (⟨hk, hk.2⟩ : _ ∧ k_ ≠ gb285))) (fun _ hk => hk.2) (.int .i64 0)) (fun _ hk => hk.2) (.slice none 0 0)) (fun _ hk => hk.2) (.slice none 0 0)) (fun _ hk => ⟨hk.1.1.1, ⟨hk.1.1.2.1, ⟨hk.1.1.2.2.1, ⟨(by simp [Value.ownBlock]), ⟨(by simp [Value.ownBlock]), ⟨hk.1.1.2.2.2.1, ⟨hk.1.1.2.2.2.2, hk.1.2⟩⟩⟩⟩⟩⟩⟩)⟩, ⟨by first | exact Kd.R_nil _ _ _ _ _ | exact Kd.N_nil _ _ _ _ _ | exact Kd.V_nil _ _ _ _ _ | exact Kd.Q_nil _ _ _ _ _ | exact Kd.S_nil _ _ _ _ _⟩, ⟨by first | exact Kd.R_nil _ _ _ _ _ | exact Kd.N_nil _ _ _ _ _ | exact Kd.V_nil _ _ _ _ _ | exact Kd.Q_nil _ _ _ _ _ | exact Kd.S_nil _ _ _ _ _⟩, ⟨by (with_reducible repeat (first | refine blk_drewN ?_ _ | refine blk_drew ?_ | refine blk_alloc ?_ _)); refine blk_far ?_ NB265_285.out _; (with_reducible repeat (first | refine blk_drewN ?_ _ | refine blk_drew ?_ | refine blk_alloc ?_ _)); refine blk_far ?_ NB265_285.out _; (with_reducible repeat (first | refine blk_drewN ?_ _ | refine blk_drew ?_ | refine blk_alloc ?_ _)); refine blk_far ?_ NB265_285.out _; (with_reducible repeat (first | refine blk_drewN ?_ _ | refine blk_drew ?_ | refine blk_alloc ?_ _)); exact BK265.out⟩, ⟨by (with_reducible repeat (first | refine blk_drewN ?_ _ | refine blk_drew ?_ | refine blk_alloc ?_ _)); refine blk_far ?_ NB275_285.out _; (with_reducible repeat (first | refine blk_drewN ?_ _ | refine blk_drew ?_ | refine blk_alloc ?_ _)); refine blk_far ?_ NB275_285.out _; (with_reducible repeat (first | refine blk_drewN ?_ _ | refine blk_drew ?_ | refine blk_alloc ?_ _)); refine blk_far ?_ NB275_285.out _; (with_reducible repeat (first | refine blk_drewN ?_ _ | refine blk_drew ?_ | refine blk_alloc ?_ _)); exact BK275.out⟩, ⟨by (with_reducible repeat (first | refine blk_drewN ?_ _ | refine blk_drew ?_ | refine blk_alloc ?_ _)); refine blk_put (cs := #[.int .i64 0, .slice none 0 0, .slice none 0 0]) ?_ 2 _ rfl; (with_reducible repeat (first | refine blk_drewN ?_ _ | refine blk_drew ?_ | refine blk_alloc ?_ _)); refine blk_put (cs := #[.int .i64 0, .slice none 0 0, .slice none 0 0]) ?_ 1 _ rfl; (with_reducible repeat (first | refine blk_drewN ?_ _ | refine blk_drew ?_ | refine blk_alloc ?_ _)); refine blk_put (cs := #[.int .i64 0, .slice none 0 0, .slice none 0 0]) ?_ 0 _ rfl; (with_reducible repeat (first | refine blk_drewN ?_ _ | refine blk_drew ?_ | refine blk_alloc ?_ _)); exact BK285.out⟩, ⟨by repeat (first | (with_reducible first | exact HB.out | apply below_alloc | apply pw_below_drewN | apply below_drew1 | refine below_set ?_ GE265.out | refine below_set ?_ GE275.out | refine below_set ?_ GE285.out) | exact HB.out)⟩⟩
        case round =>
         clear H'
         try clear c1
         try clear c2
         try clear p2
         try clear c3
         try clear c4
         try clear c6
         try clear p6
         try clear c11
         try clear c11b0
         try clear c12
         try clear c20
         try clear c24
         try clear c26
         try clear c26b0
         try clear c28
         try clear c28b0
         try clear c28b1
         try clear c29
         try clear c29b0
         try clear c29b1
         try clear c30
         try clear c42
         try clear c43
         try clear hcz10_0
         try clear hcz10_1
         try clear hcz10_2
         try clear hcz13_0
         try clear hcz13_1
         try clear hcz13_2
         try clear hcz19_0
         try clear hcz19_1
         try clear hcz19_2
         try clear hcz25_0
         try clear hcz25_1
         try clear hcz25_2
         try clear hcz44_0
         try clear hcz44_1
         try clear hcz44_2
         try clear hfz10_0
         try clear hfz10_1
         try clear hfz10_2
         try clear hfz13_0
         try clear hfz13_1
         try clear hfz13_2
         try clear hfz19_0
         try clear hfz19_1
         try clear hfz19_2
         try clear hfz25_0
         try clear hfz25_1
         try clear hfz25_2
         try clear hfz44_0
         try clear hfz44_1
         try clear hfz44_2
         try clear p2
         try clear p6
         obtain ⟨x14_3, x286001_3, x286002_3, u286001, u286002, rfl, HA, HK3, HO_266001, HO_266002, HO_276001, HO_276002, HO_286001, HO_286002, BK265, BK275, BK285, HB⟩ := hrel
         cases gk with
         | zero => exact absurd HA.out (by simp [templelaw4_GramLimits.l2])
         | succ k3 =>
          have H := HA.out
          clear HA
          simp only [templelaw4_GramLimits.l2] at H
          by_cases c45 : x14_3 < (wrap64 ((wrap64 (63 + (Go.bits .and .i64 a0 1))) + (Go.bits .and .i64 a1 1)))
          ·rw [if_pos c45] at H
           have c45b0 : decide (x14_3 < (wrap64 ((wrap64 (63 + (Go.bits .and .i64 a0 1))) + (Go.bits .and .i64 a1 1)))) = true := decide_eq_true c45
           clear c45
           replace H := Option.bind_eq_some_iff.mp H
           obtain ⟨t286, A460, H⟩ := H
           try dsimp only at H
           have A46 := Aside0.mk A460
           clear A460
           by_cases c47 : 1 + t286.size ≤ 9223372036854775807
           ·rw [if_pos c47] at H
            have c47b0 := eq_true c47
            have c47b1 : decide (1 + t286.size ≤ 9223372036854775807) = true := decide_eq_true c47
            try have c47b2 : (9223372036854775807 < 1 + t286.size) = False := eq_false (Nat.not_lt.2 c47)
            by_cases c48 : x286001_3.length < 8796093022208
            ·rw [if_pos c48] at H
             have LMc48 := Aside0.mk c48
             clear c48
             obtain ⟨y287, hy287⟩ : ∃ y_ : List ByteArray, y_ = (x286001_3 ++ [(⟨#[110]⟩ : ByteArray) ++ t286]) := ⟨_, rfl⟩
             replace H : (if x286002_3.length < 4398046511104 then (templelaw4_GramLimits.l2 k3 (wrap64 (254 + (Go.bits .and .i64 a0 3))) (wrap64 (1022 + (Go.bits .and .i64 a1 3))) (wrap64 ((wrap64 (63 + (Go.bits .and .i64 a0 1))) + (Go.bits .and .i64 a1 1))) (wrap64 (x14_3 + 1)) 0 y262 x266002_1 0 y272 x276002_2 0 y287 (x286002_3 ++ [(⟨x14_3, (([(⟨false, ([] : List (S56))⟩ : S54)] : List (S54)))⟩ : S51)])) else (none)) = some r := by first | (rw [hy287]; with_reducible exact H) | (have H2_ := (Option.bind_some _ _).symm.trans H; rw [hy287]; with_reducible exact H2_) | (have H2_ := (Option.bind_some _ _).symm.trans H; with_reducible exact H2_) | with_reducible exact H | (rw [hy287]; exact H) | exact H
             have Ny287 := Aside0.mk hy287
             clear hy287
             obtain ⟨y290, hy290⟩ : ∃ y_ : List (S54), y_ = (([(⟨false, ([] : List (S56))⟩ : S54)] : List (S54))) := ⟨_, rfl⟩
             replace H : (if x286002_3.length < 4398046511104 then (templelaw4_GramLimits.l2 k3 (wrap64 (254 + (Go.bits .and .i64 a0 3))) (wrap64 (1022 + (Go.bits .and .i64 a1 3))) (wrap64 ((wrap64 (63 + (Go.bits .and .i64 a0 1))) + (Go.bits .and .i64 a1 1))) (wrap64 (x14_3 + 1)) 0 y262 x266002_1 0 y272 x276002_2 0 y287 (x286002_3 ++ [(⟨x14_3, y290⟩ : S51)])) else (none)) = some r := by first | (rw [hy290]; with_reducible exact H) | (have H2_ := (Option.bind_some _ _).symm.trans H; rw [hy290]; with_reducible exact H2_) | (have H2_ := (Option.bind_some _ _).symm.trans H; with_reducible exact H2_) | with_reducible exact H | (rw [hy290]; exact H) | exact H
             have Ny290 := Aside0.mk hy290
             clear hy290
             by_cases c49 : x286002_3.length < 4398046511104
             ·rw [if_pos c49] at H
              have LMc49 := Aside0.mk c49
              clear c49
              obtain ⟨y293, hy293⟩ : ∃ y_ : List (S51), y_ = (x286002_3 ++ [(⟨x14_3, y290⟩ : S51)]) := ⟨_, rfl⟩
              replace H : (templelaw4_GramLimits.l2 k3 (wrap64 (254 + (Go.bits .and .i64 a0 3))) (wrap64 (1022 + (Go.bits .and .i64 a1 3))) (wrap64 ((wrap64 (63 + (Go.bits .and .i64 a0 1))) + (Go.bits .and .i64 a1 1))) (wrap64 (x14_3 + 1)) 0 y262 x266002_1 0 y272 x276002_2 0 y287 y293) = some r := by first | (rw [hy293]; with_reducible exact H) | (have H2_ := (Option.bind_some _ _).symm.trans H; rw [hy293]; with_reducible exact H2_) | (have H2_ := (Option.bind_some _ _).symm.trans H; with_reducible exact H2_) | with_reducible exact H | (rw [hy293]; exact H) | exact H
              have Ny293 := Aside0.mk hy293
              clear hy293
              have H' := Aside0.mk H
              clear H
              try go_wp2
              have n0_ := Aside0.mk (Kd.R_drew HO_266001.out)
              have n1_ := Aside0.mk (Kd.N_drew HO_266002.out)
              have n2_ := Aside0.mk (Kd.R_drew HO_276001.out)
              have n3_ := Aside0.mk (Kd.N_drew HO_276002.out)
              have n4_ := Aside0.mk (Kd.R_drew HO_286001.out)
              have n5_ := Aside0.mk (Kd.N_drew HO_286002.out)
              have n6_ := Aside0.mk (blk_drew BK265.out)
              have n7_ := Aside0.mk (blk_drew BK275.out)
              have n8_ := Aside0.mk (blk_drew BK285.out)
              have n9_ := Aside0.mk (below_drew1 HB.out)
              clear HO_266001
              clear HO_266002
              clear HO_276001
              clear HO_276002
              clear HO_286001
              clear HO_286002
              clear BK265
              clear BK275
              clear BK285
              clear HB
              have HO_266001 := n0_
              have HO_266002 := n1_
              have HO_276001 := n2_
              have HO_276002 := n3_
              have HO_286001 := n4_
              have HO_286002 := n5_
              have BK265 := n6_
              have BK275 := n7_
              have BK285 := n8_
              have HB := n9_
              clear n0_ n1_ n2_ n3_ n4_ n5_ n6_ n7_ n8_ n9_
              refine start_ (n := 9) (S := fun w' => w'.cell? ⟨gb285, 0, none⟩ = some (.int .i64 0) ∧ w'.cell? ⟨gb285, 1, none⟩ = some (u286001) ∧ w'.cell? ⟨gb285, 2, none⟩ = some (u286002)) (ds := [8]) #[false, false, false, false, false, false, false, false, false] (by kernel_rfl) rfl rfl ⟨(blk_cell BK285.out 0).trans rfl, (blk_cell BK285.out 1).trans rfl, (blk_cell BK285.out 2).trans rfl⟩ (fun hHeld => ?_); refine with_tabW templelaw4_GramLimits.tab21 templelaw4_GramLimits.bits21 (fun HT_ HW_ => ?_)
              generalize wr.drew = w50 at HO_266001 HO_266002 HO_276001 HO_276002 HO_286001 HO_286002 BK265 BK275 BK285 HB hHeld ⊢
              refine pure_ (i := 0) (N := some 70) (v := ?_) (a' := ?_) #[true, false, false, false, false, false, false, false, false] rfl rfl (any_of HT_.out (by kernel_rfl)) (fun _ _ _ h => h) (Or.inl ⟨by rfl, ?_⟩) ?_ ?_
              rotate_left
              ·intro w'
               go_simp
               with_reducible rfl
              rotate_left
              ·simp only [Act.put, List.setIfInBounds_toArray, List.set_cons_zero, List.set_cons_succ, i64_w, i32_w]
               rfl
              refine pure_ (i := 2) (N := some 72) (v := ?_) (a' := ?_) #[true, false, true, false, false, false, false, false, false] rfl rfl (any_of HT_.out (by kernel_rfl)) (fun _ _ _ h => h) (Or.inl ⟨by rfl, ?_⟩) ?_ ?_
              rotate_left
              ·intro w'
               go_simp
               with_reducible rfl
              rotate_left
              ·simp only [Act.put, List.setIfInBounds_toArray, List.set_cons_zero, List.set_cons_succ, i64_w, i32_w]
               rfl
              refine take_ (i := 1) (N := some 71) (v := ?_) (a' := ?_) #[true, true, true, false, false, false, false, false, false] rfl rfl (take_ofW HT_.out HW_.out (by kernel_rfl)) (fun _ _ _ h => h) (Or.inl ⟨by rfl, ?_⟩) hHeld ?_ ?_
              rotate_left
              ·rintro w' ⟨s0, s1, s2⟩
               go_simp
               with_reducible rfl
              rotate_left
              ·simp only [Act.put, List.setIfInBounds_toArray, List.set_cons_zero, List.set_cons_succ, i64_w, i32_w]
               rfl
              refine one_ (i := 3) (N := some 73) #[true, true, true, true, false, false, false, false, false] rfl rfl (one_of HT_.out (by kernel_rfl)) (by decide) (fun K hK => ?_)
              refine goes_ Try.func22 (by kernel_rfl) rfl #[.int .i64 x14_3] (by rfl) rfl rfl (by (try simp only [List.map_toArray, List.map_cons, List.map_nil]); first | done | rfl | (simp only [List.length_drop, List.length_take]; rfl)) ?_
              with_reducible refine (templeref0_Decimal.calls k3 x14_3 t286 _ A46.out).mono ?_
              rintro e w51 ⟨rfl, hb⟩
              refine ⟨_, rfl, ?_⟩
              have n0_ := Aside0.mk (Kd.R_below (by (with_reducible repeat (first | apply Kd.R_alloc | apply Kd.R_drewN | apply Kd.R_drew)); exact HO_266001.out) hb)
              have n1_ := Aside0.mk (Kd.N_below (by (with_reducible repeat (first | apply Kd.N_alloc | apply Kd.N_drewN | apply Kd.N_drew)); exact HO_266002.out) hb)
              have n2_ := Aside0.mk (Kd.R_below (by (with_reducible repeat (first | apply Kd.R_alloc | apply Kd.R_drewN | apply Kd.R_drew)); exact HO_276001.out) hb)
              have n3_ := Aside0.mk (Kd.N_below (by (with_reducible repeat (first | apply Kd.N_alloc | apply Kd.N_drewN | apply Kd.N_drew)); exact HO_276002.out) hb)
              have n4_ := Aside0.mk (Kd.R_below (by (with_reducible repeat (first | apply Kd.R_alloc | apply Kd.R_drewN | apply Kd.R_drew)); exact HO_286001.out) hb)
              have n5_ := Aside0.mk (Kd.N_below (by (with_reducible repeat (first | apply Kd.N_alloc | apply Kd.N_drewN | apply Kd.N_drew)); exact HO_286002.out) hb)
              have n6_ := Aside0.mk (blk_below (g := gb265) (o := .cells #[.int .i64 0, .slice Ao8 y262.length co8, u266002] 28 (0, 0)) (by (with_reducible repeat (first | refine blk_drewN ?_ _ | refine blk_drew ?_ | refine blk_alloc ?_ _)); exact BK265.out) hb)
              have n7_ := Aside0.mk (blk_below (g := gb275) (o := .cells #[.int .i64 0, .slice Ao22 y272.length co22, u276002] 28 (0, 0)) (by (with_reducible repeat (first | refine blk_drewN ?_ _ | refine blk_drew ?_ | refine blk_alloc ?_ _)); exact BK275.out) hb)
              have n8_ := Aside0.mk (blk_below (g := gb285) (o := .cells #[.int .i64 0, u286001, u286002] 28 (0, 0)) (by (with_reducible repeat (first | refine blk_drewN ?_ _ | refine blk_drew ?_ | refine blk_alloc ?_ _)); exact BK285.out) hb)
              have n9_ := Aside0.mk (below_step (by repeat (first | (with_reducible first | exact HB.out | apply below_alloc | apply pw_below_drewN | apply below_drew1 | refine below_set ?_ GE265.out | refine below_set ?_ GE275.out | refine below_set ?_ GE285.out) | exact HB.out)) hb)
              clear HO_266001
              clear HO_266002
              clear HO_276001
              clear HO_276002
              clear HO_286001
              clear HO_286002
              clear BK265
              clear BK275
              clear BK285
              clear HB
              have HO_266001 := n0_
              have HO_266002 := n1_
              have HO_276001 := n2_
              have HO_276002 := n3_
              have HO_286001 := n4_
              have HO_286002 := n5_
              have BK265 := n6_
              have BK275 := n7_
              have BK285 := n8_
              have HB := n9_
              clear n0_ n1_ n2_ n3_ n4_ n5_ n6_ n7_ n8_ n9_
              (try clear hb)
              (try clear hb2)
              (try clear hk)
              (try clear hi)
              refine hK.out _ _ ⟨(blk_cell BK285.out 0).trans rfl, (blk_cell BK285.out 1).trans rfl, (blk_cell BK285.out 2).trans rfl⟩ (fun hHeld => ?_)
              clear hK K
              refine norm_ (a' := ?_) ?_ ?_
              rotate_left
              ·show Act.put _ (some 73) _ = _
               simp only [Act.put, List.setIfInBounds_toArray, List.set_cons_zero, List.set_cons_succ, i64_w, i32_w]
               rfl
              refine pure_ (i := 4) (N := some 74) (v := ?_) (a' := ?_) #[true, true, true, true, true, false, false, false, false] rfl rfl (any_of HT_.out (by kernel_rfl)) (fun _ _ _ h => h) (Or.inl ⟨by rfl, ?_⟩) ?_ ?_
              rotate_left
              ·intro w'
               go_simp
               with_reducible rfl
              rotate_left
              ·simp only [Act.put, List.setIfInBounds_toArray, List.set_cons_zero, List.set_cons_succ, i64_w, i32_w]
               rfl
              refine one_ (i := 5) (N := some 75) #[true, true, true, true, true, true, false, false, false] rfl rfl (one_of HT_.out (by kernel_rfl)) (by decide) (fun K hK => ?_)
              refine value_ (w1 := ?_) (v := ?_) (by rfl) rfl ?_ ?_
              rotate_left 2
              ·go_simp
               constructor
               ·rfl
               ·rfl
              refine hK.out _ _ ⟨(blk_cell (blk_alloc BK285.out _) 0).trans rfl, (blk_cell (blk_alloc BK285.out _) 1).trans rfl, (blk_cell (blk_alloc BK285.out _) 2).trans rfl⟩ (fun hHeld => ?_)
              clear hK K
              refine norm_ (a' := ?_) ?_ ?_
              rotate_left
              ·show Act.put _ (some 75) _ = _
               simp only [Act.put, List.setIfInBounds_toArray, List.set_cons_zero, List.set_cons_succ, i64_w, i32_w]
               rfl
              refine one_ (i := 6) (N := some 76) #[true, true, true, true, true, true, true, false, false] rfl rfl (one_of HT_.out (by kernel_rfl)) (by decide) (fun K hK => ?_)
              refine Kd.R_append_step Kd.string (w0 := w) w.heap.size (by rfl) (.tmp 71) (.tmp 75) 22 9 (.string ⟨#[]⟩) 16 rfl Try.underlying22 info9 rfl (by decide) (by omega) u286001 x286001_3 ((⟨#[110]⟩ : ByteArray) ++ t286) [.string ((⟨#[110]⟩ : ByteArray) ++ t286)] (fun k_ => some k_ ≠ (.slice Ao8 y262.length co8 : Value).ownBlock ∧ some k_ ≠ (.slice Ao22 y272.length co22 : Value).ownBlock) (fun _ => False) rfl rfl ?aP (fun _ hk => hk.elim) ?aF ?aO ?aB ?aS ?aL ?_
              (case aP => exact rfl)
              (case aB => exact (by repeat (first | (with_reducible first | exact HB.out | apply below_alloc | apply pw_below_drewN | apply below_drew1 | refine below_set ?_ GE265.out | refine below_set ?_ GE275.out | refine below_set ?_ GE285.out) | exact HB.out)))
              (case aF => exact (fun k_ hk => ⟨Kd.fresh' (Kd.R_lt (by (with_reducible repeat (first | apply Kd.R_alloc | apply Kd.R_drewN | apply Kd.R_drew)); exact HO_266001.out)) k_ hk, Kd.fresh' (Kd.R_lt (by (with_reducible repeat (first | apply Kd.R_alloc | apply Kd.R_drewN | apply Kd.R_drew)); exact HO_276001.out)) k_ hk⟩))
              (case aO => exact (by (with_reducible repeat (first | apply Kd.R_alloc | apply Kd.R_drewN | apply Kd.R_drew)); exact HO_286001.out))
              (case aS => exact (below_size (by repeat (first | (with_reducible first | exact HB.out | apply below_alloc | apply pw_below_drewN | apply below_drew1 | refine below_set ?_ GE265.out | refine below_set ?_ GE275.out | refine below_set ?_ GE285.out) | exact HB.out))))
              (case aL => have := LMc48.out; omega)
              intro v288 w52 ho hb hg hat
              rw [← Ny287.out] at ho
              have n0_ := Aside0.mk (Kd.R_after (ok := (fun k_ => some k_ ≠ (.slice Ao22 y272.length co22 : Value).ownBlock)) (by (with_reducible repeat (first | apply Kd.R_alloc | apply Kd.R_drewN | apply Kd.R_drew)); exact HO_266001.out) hg hat)
              have n1_ := Aside0.mk (Kd.N_afterv (ok := (fun k_ => some k_ ≠ (.slice Ao8 y262.length co8 : Value).ownBlock ∧ some k_ ≠ (.slice Ao22 y272.length co22 : Value).ownBlock ∧ some k_ ≠ (u276002 : Value).ownBlock ∧ some k_ ≠ (u286002 : Value).ownBlock ∧ k_ ≠ gb265 ∧ k_ ≠ gb275 ∧ k_ ≠ gb285)) (by (with_reducible repeat (first | apply Kd.N_alloc | apply Kd.N_drewN | apply Kd.N_drew)); exact Kd.N_mono HO_266002.out (fun _ hk => ⟨⟨hk.1, ⟨hk.2.1, ⟨hk.2.2.1, ⟨hk.2.2.2.2.1, ⟨hk.2.2.2.2.2.1, ⟨hk.2.2.2.2.2.2.1, hk.2.2.2.2.2.2.2⟩⟩⟩⟩⟩⟩, hk.2.2.2.1⟩)) hg hat)
              have n2_ := Aside0.mk (Kd.R_after (ok := (fun k_ => some k_ ≠ (.slice Ao8 y262.length co8 : Value).ownBlock)) (by (with_reducible repeat (first | apply Kd.R_alloc | apply Kd.R_drewN | apply Kd.R_drew)); exact HO_276001.out) hg hat)
              have n3_ := Aside0.mk (Kd.N_afterv (ok := (fun k_ => some k_ ≠ (.slice Ao8 y262.length co8 : Value).ownBlock ∧ some k_ ≠ (u266002 : Value).ownBlock ∧ some k_ ≠ (.slice Ao22 y272.length co22 : Value).ownBlock ∧ some k_ ≠ (u286002 : Value).ownBlock ∧ k_ ≠ gb265 ∧ k_ ≠ gb275 ∧ k_ ≠ gb285)) (by (with_reducible repeat (first | apply Kd.N_alloc | apply Kd.N_drewN | apply Kd.N_drew)); exact Kd.N_mono HO_276002.out (fun _ hk => ⟨⟨hk.1, ⟨hk.2.1, ⟨hk.2.2.1, ⟨hk.2.2.2.2.1, ⟨hk.2.2.2.2.2.1, ⟨hk.2.2.2.2.2.2.1, hk.2.2.2.2.2.2.2⟩⟩⟩⟩⟩⟩, hk.2.2.2.1⟩)) hg hat)
              have n4_ := Aside0.mk (Kd.N_afterv (ok := (fun k_ => some k_ ≠ (.slice Ao8 y262.length co8 : Value).ownBlock ∧ some k_ ≠ (u266002 : Value).ownBlock ∧ some k_ ≠ (.slice Ao22 y272.length co22 : Value).ownBlock ∧ some k_ ≠ (u276002 : Value).ownBlock ∧ k_ ≠ gb265 ∧ k_ ≠ gb275 ∧ k_ ≠ gb285)) (by (with_reducible repeat (first | apply Kd.N_alloc | apply Kd.N_drewN | apply Kd.N_drew)); exact Kd.N_mono HO_286002.out (fun _ hk => ⟨⟨hk.1, ⟨hk.2.1, ⟨hk.2.2.1, ⟨hk.2.2.2.1, ⟨hk.2.2.2.2.2.1, ⟨hk.2.2.2.2.2.2.1, hk.2.2.2.2.2.2.2⟩⟩⟩⟩⟩⟩, hk.2.2.2.2.1⟩)) hg hat)
              have n5_ := Aside0.mk (blk_grown (g := gb265) (o := .cells #[.int .i64 0, .slice Ao8 y262.length co8, u266002] 28 (0, 0)) (by (with_reducible repeat (first | refine blk_drewN ?_ _ | refine blk_drew ?_ | refine blk_alloc ?_ _)); exact BK265.out) hg (Kd.R_ne HO_286001.out BK265.out (by decide)))
              have n6_ := Aside0.mk (blk_grown (g := gb275) (o := .cells #[.int .i64 0, .slice Ao22 y272.length co22, u276002] 28 (0, 0)) (by (with_reducible repeat (first | refine blk_drewN ?_ _ | refine blk_drew ?_ | refine blk_alloc ?_ _)); exact BK275.out) hg (Kd.R_ne HO_286001.out BK275.out (by decide)))
              have n7_ := Aside0.mk (blk_grown (g := gb285) (o := .cells #[.int .i64 0, u286001, u286002] 28 (0, 0)) (by (with_reducible repeat (first | refine blk_drewN ?_ _ | refine blk_drew ?_ | refine blk_alloc ?_ _)); exact BK285.out) hg (Kd.R_ne HO_286001.out BK285.out (by decide)))
              have n8_ := Aside0.mk (hb)
              have n9_ := Aside0.mk (ho)
              clear HO_266001
              clear HO_266002
              clear HO_276001
              clear HO_276002
              clear HO_286002
              clear BK265
              clear BK275
              clear BK285
              clear HB
              clear HO_286001
              have HO_266001 := n0_
              have HO_266002 := n1_
              have HO_276001 := n2_
              have HO_276002 := n3_
              have HO_286002 := n4_
              have BK265 := n5_
              have BK275 := n6_
              have BK285 := n7_
              have HB := n8_
              have HO289 := n9_
              clear n0_ n1_ n2_ n3_ n4_ n5_ n6_ n7_ n8_ n9_
              clear ho hb hg hat
              obtain ⟨Ao53, co53, eo53⟩ := Kd.R_slice HO289.out
              (first | subst eo53 | (injection eo53 with f1_ f2_ f3_; have f4_ := f1_.symm; have f5_ := f3_.symm; clear f1_ f2_ f3_; subst f4_; subst f5_))
              refine hK.out _ _ ⟨(blk_cell BK285.out 0).trans rfl, (blk_cell BK285.out 1).trans rfl, (blk_cell BK285.out 2).trans rfl⟩ (fun hHeld => ?_)
              clear hK K
              refine norm_ (a' := ?_) ?_ ?_
              rotate_left
              ·show Act.put _ (some 76) _ = _
               simp only [Act.put, List.setIfInBounds_toArray, List.set_cons_zero, List.set_cons_succ, i64_w, i32_w]
               rfl
              refine pure_ (i := 7) (N := some 77) (v := ?_) (a' := ?_) #[true, true, true, true, true, true, true, true, false] rfl rfl (any_of HT_.out (by kernel_rfl)) (fun _ _ _ h => h) (Or.inl ⟨by rfl, ?_⟩) ?_ ?_
              rotate_left
              ·intro w'
               go_simp
               with_reducible rfl
              rotate_left
              ·simp only [Act.put, List.setIfInBounds_toArray, List.set_cons_zero, List.set_cons_succ, i64_w, i32_w]
               rfl
              refine last_ (i := 8) (N := none) #[true, true, true, true, true, true, true, true, true] rfl rfl (one_of HT_.out (by kernel_rfl)) (by decide) (fun K hK => ?_)
              have hs54 : w52.cell? ⟨gb285, 1, none⟩ = some (u286001) := (blk_cell BK285.out 1).trans rfl
              have hfs54 := blk_frozen BK285.out 1
              have hns54_0 := NB265_285.out
              have hns54_1 := NB275_285.out
              have hms54_0 := NB285_265.out
              have hms54_1 := NB285_275.out
              refine skip_ (w1 := ?_) (by rfl) rfl ?_ ?_
              rotate_left
              ·go_simp
               rfl
              refine hK.out _ _ ?_
              clear hK K
              refine done_ (done_of HT_.out (by kernel_rfl)) ?_
              have hnb55 := NB285_265.out
              have hnc55 := NB265_285.out
              have hnb56 := NB285_275.out
              have hnc56 := NB275_285.out
              have hcz57_0 : w52.cell? ⟨gb285, 0, none⟩ = some (.int .i64 0) := (blk_cell BK285.out 0).trans rfl
              have hcz57_1 : w52.cell? ⟨gb285, 1, none⟩ = some (u286001) := (blk_cell BK285.out 1).trans rfl
              have hcz57_2 : w52.cell? ⟨gb285, 2, none⟩ = some (u286002) := (blk_cell BK285.out 2).trans rfl
              have hfz57_0 := blk_frozen BK285.out 0
              have hfz57_1 := blk_frozen BK285.out 1
              have hfz57_2 := blk_frozen BK285.out 2
              try go_wp2_with (first | ((with_reducible refine gate_dst (N := 82) rfl ?_); refine Kd.N_lit k54 _ 54 ?hg (N' := 82) ?hd (xs := ([(⟨false, ([] : List (S56))⟩ : S54)] : List (S54))) (inner := [.bool false, .slice none 0 0]) (ok := (fun k_ => some k_ ≠ (.slice Ao8 y262.length co8 : Value).ownBlock ∧ some k_ ≠ (u266002 : Value).ownBlock ∧ some k_ ≠ (.slice Ao22 y272.length co22 : Value).ownBlock ∧ some k_ ≠ (u276002 : Value).ownBlock ∧ some k_ ≠ (u286002 : Value).ownBlock ∧ some k_ ≠ (.slice Ao53 y287.length co53 : Value).ownBlock ∧ k_ ≠ gb265 ∧ k_ ≠ gb275 ∧ k_ ≠ gb285)) (okp := (fun k_ => some k_ ≠ (.slice Ao8 y262.length co8 : Value).ownBlock ∧ some k_ ≠ (u266002 : Value).ownBlock ∧ some k_ ≠ (.slice Ao22 y272.length co22 : Value).ownBlock ∧ some k_ ≠ (u276002 : Value).ownBlock ∧ some k_ ≠ (u286002 : Value).ownBlock ∧ some k_ ≠ (.slice Ao53 y287.length co53 : Value).ownBlock ∧ k_ ≠ gb265 ∧ k_ ≠ gb275 ∧ k_ ≠ gb285)) ?hr ?hp (fun _ hk => hk) ((show ∀ k_, (w52.setCell ⟨gb285, 1, none⟩ (.slice Ao53 y287.length co53)).heap.size ≤ k_ → (fun k_ => some k_ ≠ (.slice Ao8 y262.length co8 : Value).ownBlock ∧ some k_ ≠ (u266002 : Value).ownBlock ∧ some k_ ≠ (.slice Ao22 y272.length co22 : Value).ownBlock ∧ some k_ ≠ (u276002 : Value).ownBlock ∧ some k_ ≠ (u286002 : Value).ownBlock ∧ some k_ ≠ (.slice Ao53 y287.length co53 : Value).ownBlock ∧ k_ ≠ gb265 ∧ k_ ≠ gb275 ∧ k_ ≠ gb285) k_ from fun k_ hk => ⟨Kd.fresh' (Kd.R_lt (by (with_reducible repeat (first | apply Kd.R_alloc | apply Kd.R_drewN | apply Kd.R_drew)); exact (Kd.R_mono (Kd.R_far (p := ⟨gb285, 1, none⟩) (Kd.R_types HO_266001.out BK285.out (by decide)) (fun _ hk => hk.2) (.slice Ao53 y287.length co53)) (fun _ h_ => h_.1)))) k_ hk, Kd.fresh' (Kd.N_lt (by (with_reducible repeat (first | apply Kd.N_alloc | apply Kd.N_drewN | apply Kd.N_drew)); exact (Kd.N_mono (Kd.N_far (p := ⟨gb285, 1, none⟩) (Kd.N_mono HO_266002.out (fun k_ hk => (⟨hk, hk.1.2.2.2.2.2.2⟩ : _ ∧ k_ ≠ gb285))) (fun _ hk => hk.2) (.slice Ao53 y287.length co53)) (fun _ h_ => h_.1)))) k_ hk, Kd.fresh' (Kd.R_lt (by (with_reducible repeat (first | apply Kd.R_alloc | apply Kd.R_drewN | apply Kd.R_drew)); exact (Kd.R_mono (Kd.R_far (p := ⟨gb285, 1, none⟩) (Kd.R_types HO_276001.out BK285.out (by decide)) (fun _ hk => hk.2) (.slice Ao53 y287.length co53)) (fun _ h_ => h_.1)))) k_ hk, Kd.fresh' (Kd.N_lt (by (with_reducible repeat (first | apply Kd.N_alloc | apply Kd.N_drewN | apply Kd.N_drew)); exact (Kd.N_mono (Kd.N_far (p := ⟨gb285, 1, none⟩) (Kd.N_mono HO_276002.out (fun k_ hk => (⟨hk, hk.1.2.2.2.2.2.2⟩ : _ ∧ k_ ≠ gb285))) (fun _ hk => hk.2) (.slice Ao53 y287.length co53)) (fun _ h_ => h_.1)))) k_ hk, Kd.fresh' (Kd.N_lt (by (with_reducible repeat (first | apply Kd.N_alloc | apply Kd.N_drewN | apply Kd.N_drew)); exact (Kd.N_mono (Kd.N_far (p := ⟨gb285, 1, none⟩) (Kd.N_mono HO_286002.out (fun k_ hk => (⟨hk, hk.1.2.2.2.2.2.2⟩ : _ ∧ k_ ≠ gb285))) (fun _ hk => hk.2) (.slice Ao53 y287.length co53)) (fun _ h_ => h_.1)))) k_ hk, Kd.fresh' (Kd.R_lt (by (with_reducible repeat (first | apply Kd.R_alloc | apply Kd.R_drewN | apply Kd.R_drew)); exact (Kd.R_mono (Kd.R_far (p := ⟨gb285, 1, none⟩) (Kd.R_types HO289.out BK285.out (by decide)) (fun _ hk => hk.2) (.slice Ao53 y287.length co53)) (fun _ h_ => h_.1)))) k_ hk, Kd.freshB (g := gb265) (o := .cells #[.int .i64 0, .slice Ao8 y262.length co8, u266002] 28 (0, 0)) (by (with_reducible repeat (first | refine blk_drewN ?_ _ | refine blk_drew ?_ | refine blk_alloc ?_ _)); refine blk_far ?_ NB265_285.out _; (with_reducible repeat (first | refine blk_drewN ?_ _ | refine blk_drew ?_ | refine blk_alloc ?_ _)); exact BK265.out) k_ hk, Kd.freshB (g := gb275) (o := .cells #[.int .i64 0, .slice Ao22 y272.length co22, u276002] 28 (0, 0)) (by (with_reducible repeat (first | refine blk_drewN ?_ _ | refine blk_drew ?_ | refine blk_alloc ?_ _)); refine blk_far ?_ NB275_285.out _; (with_reducible repeat (first | refine blk_drewN ?_ _ | refine blk_drew ?_ | refine blk_alloc ?_ _)); exact BK275.out) k_ hk, Kd.freshB (g := gb285) (o := .cells #[.int .i64 0, .slice Ao53 y287.length co53, u286002] 28 (0, 0)) (by (with_reducible repeat (first | refine blk_drewN ?_ _ | refine blk_drew ?_ | refine blk_alloc ?_ _)); refine blk_put (cs := #[.int .i64 0, u286001, u286002]) ?_ 1 _ rfl; (with_reducible repeat (first | refine blk_drewN ?_ _ | refine blk_drew ?_ | refine blk_alloc ?_ _)); exact BK285.out) k_ hk⟩) _ (Nat.le_refl _)) (Below.refl _ _) (Nat.le_refl _) (by simp) ?_; (case hd => rfl); (case hg => rfl); (case hr => first | (go_simp; done) | (go_simp; rfl)); (case hp => exact (Reps.c2 (show Kd.FK k54 _ _ (⟨false, ([] : List (S56))⟩ : S54) [.bool false, .slice none 0 0] from (k54_mkF _ _ (⟨false, ([] : List (S56))⟩ : S54) (Nat.le_refl _) (Kd.F_nil _ _ _))) (Reps.none _ _))); intro v291 w58 ho59 hb hg_ hnew_; clear hg_ hnew_; (first | rw [← Ny290.out] at ho59 | (simp only [Int.reduceToNat] at ho59; rw [← Ny290.out] at ho59)); have n0_ := Aside0.mk (Kd.R_below (by (with_reducible repeat (first | apply Kd.R_alloc | apply Kd.R_drewN | apply Kd.R_drew)); exact (Kd.R_mono (Kd.R_far (p := ⟨gb285, 1, none⟩) (Kd.R_types HO_266001.out BK285.out (by decide)) (fun _ hk => hk.2) (.slice Ao53 y287.length co53)) (fun _ h_ => h_.1))) hb); have n1_ := Aside0.mk (Kd.N_elder' (by (with_reducible repeat (first | apply Kd.N_alloc | apply Kd.N_drewN | apply Kd.N_drew)); exact (Kd.N_mono (Kd.N_far (p := ⟨gb285, 1, none⟩) (Kd.N_mono HO_266002.out (fun k_ hk => (⟨hk, hk.1.2.2.2.2.2.2⟩ : _ ∧ k_ ≠ gb285))) (fun _ hk => hk.2) (.slice Ao53 y287.length co53)) (fun _ h_ => h_.1))) (Kd.N_base ho59) hb); have n2_ := Aside0.mk (Kd.R_below (by (with_reducible repeat (first | apply Kd.R_alloc | apply Kd.R_drewN | apply Kd.R_drew)); exact (Kd.R_mono (Kd.R_far (p := ⟨gb285, 1, none⟩) (Kd.R_types HO_276001.out BK285.out (by decide)) (fun _ hk => hk.2) (.slice Ao53 y287.length co53)) (fun _ h_ => h_.1))) hb); have n3_ := Aside0.mk (Kd.N_elder' (by (with_reducible repeat (first | apply Kd.N_alloc | apply Kd.N_drewN | apply Kd.N_drew)); exact (Kd.N_mono (Kd.N_far (p := ⟨gb285, 1, none⟩) (Kd.N_mono HO_276002.out (fun k_ hk => (⟨hk, hk.1.2.2.2.2.2.2⟩ : _ ∧ k_ ≠ gb285))) (fun _ hk => hk.2) (.slice Ao53 y287.length co53)) (fun _ h_ => h_.1))) (Kd.N_base ho59) hb); have n4_ := Aside0.mk (Kd.N_elder' (by (with_reducible repeat (first | apply Kd.N_alloc | apply Kd.N_drewN | apply Kd.N_drew)); exact (Kd.N_mono (Kd.N_far (p := ⟨gb285, 1, none⟩) (Kd.N_mono HO_286002.out (fun k_ hk => (⟨hk, hk.1.2.2.2.2.2.2⟩ : _ ∧ k_ ≠ gb285))) (fun _ hk => hk.2) (.slice Ao53 y287.length co53)) (fun _ h_ => h_.1))) (Kd.N_base ho59) hb); have n5_ := Aside0.mk (Kd.R_below (by (with_reducible repeat (first | apply Kd.R_alloc | apply Kd.R_drewN | apply Kd.R_drew)); exact (Kd.R_mono (Kd.R_far (p := ⟨gb285, 1, none⟩) (Kd.R_types HO289.out BK285.out (by decide)) (fun _ hk => hk.2) (.slice Ao53 y287.length co53)) (fun _ h_ => h_.1))) hb); have n6_ := Aside0.mk (Kd.N_lower ho59 (below_size (by repeat (first | (with_reducible first | exact HB.out | apply below_alloc | apply pw_below_drewN | apply below_drew1 | refine below_set ?_ GE265.out | refine below_set ?_ GE275.out | refine below_set ?_ GE285.out) | exact HB.out)))); have n7_ := Aside0.mk (blk_below (g := gb265) (o := .cells #[.int .i64 0, .slice Ao8 y262.length co8, u266002] 28 (0, 0)) (by (with_reducible repeat (first | refine blk_drewN ?_ _ | refine blk_drew ?_ | refine blk_alloc ?_ _)); refine blk_far ?_ NB265_285.out _; (with_reducible repeat (first | refine blk_drewN ?_ _ | refine blk_drew ?_ | refine blk_alloc ?_ _)); exact BK265.out) hb); have n8_ := Aside0.mk (blk_below (g := gb275) (o := .cells #[.int .i64 0, .slice Ao22 y272.length co22, u276002] 28 (0, 0)) (by (with_reducible repeat (first | refine blk_drewN ?_ _ | refine blk_drew ?_ | refine blk_alloc ?_ _)); refine blk_far ?_ NB275_285.out _; (with_reducible repeat (first | refine blk_drewN ?_ _ | refine blk_drew ?_ | refine blk_alloc ?_ _)); exact BK275.out) hb); have n9_ := Aside0.mk (blk_below (g := gb285) (o := .cells #[.int .i64 0, .slice Ao53 y287.length co53, u286002] 28 (0, 0)) (by (with_reducible repeat (first | refine blk_drewN ?_ _ | refine blk_drew ?_ | refine blk_alloc ?_ _)); refine blk_put (cs := #[.int .i64 0, u286001, u286002]) ?_ 1 _ rfl; (with_reducible repeat (first | refine blk_drewN ?_ _ | refine blk_drew ?_ | refine blk_alloc ?_ _)); exact BK285.out) hb); have n10_ := Aside0.mk (below_step (by repeat (first | (with_reducible first | exact HB.out | apply below_alloc | apply pw_below_drewN | apply below_drew1 | refine below_set ?_ GE265.out | refine below_set ?_ GE275.out | refine below_set ?_ GE285.out) | exact HB.out)) hb); clear HO_266001; clear HO_266002; clear HO_276001; clear HO_276002; clear HO_286002; clear HO289; clear BK265; clear BK275; clear BK285; clear HB; have HO_266001 := n0_; have HO_266002 := n1_; have HO_276001 := n2_; have HO_276002 := n3_; have HO_286002 := n4_; have HO289 := n5_; have HO292 := n6_; have BK265 := n7_; have BK275 := n8_; have BK285 := n9_; have HB := n10_; clear n0_ n1_ n2_ n3_ n4_ n5_ n6_ n7_ n8_ n9_ n10_; clear hb ho59; obtain ⟨Ao60, co60, eo60⟩ := Kd.N_slice HO292.out; subst eo60) | ((with_reducible refine gate_builtin (b := .append) (xs := #[.tmp 79, .tmp 84]) rfl ?_); at_builtin; refine Kd.N_append k51 (w0 := w) w.heap.size rfl (.tmp 79) (.tmp 84) 26 51 (.agg #[(.int .i64 0), (.slice none 0 0)]) 32 rfl Try.underlying26 info51 rfl (by decide) (by omega) u286002 x286002_3 (⟨x14_3, y290⟩ : S51) [.int .i64 x14_3, .slice Ao60 y290.length co60] (fun k_ => some k_ ≠ (.slice Ao8 y262.length co8 : Value).ownBlock ∧ some k_ ≠ (u266002 : Value).ownBlock ∧ some k_ ≠ (.slice Ao22 y272.length co22 : Value).ownBlock ∧ some k_ ≠ (u276002 : Value).ownBlock ∧ some k_ ≠ (.slice Ao53 y287.length co53 : Value).ownBlock ∧ k_ ≠ gb265 ∧ k_ ≠ gb275 ∧ k_ ≠ gb285) (fun k_ => ((fun k_ => some k_ ≠ (.slice Ao8 y262.length co8 : Value).ownBlock ∧ some k_ ≠ (u266002 : Value).ownBlock ∧ some k_ ≠ (.slice Ao22 y272.length co22 : Value).ownBlock ∧ some k_ ≠ (u276002 : Value).ownBlock ∧ some k_ ≠ (.slice Ao53 y287.length co53 : Value).ownBlock ∧ k_ ≠ gb265 ∧ k_ ≠ gb275 ∧ k_ ≠ gb285)) k_ ∧ some k_ ≠ (u286002 : Value).ownBlock) rfl rfl ?aP (fun _ hk => hk) ?aF ?aO ?aB ?aS ?aL ?_; (case aP => exact (k51_mkF _ _ (⟨x14_3, y290⟩ : S51) (Kd.N_reads' (Kd.N_mono (ok' := (fun k_ => ((fun k_ => some k_ ≠ (.slice Ao8 y262.length co8 : Value).ownBlock ∧ some k_ ≠ (u266002 : Value).ownBlock ∧ some k_ ≠ (.slice Ao22 y272.length co22 : Value).ownBlock ∧ some k_ ≠ (u276002 : Value).ownBlock ∧ some k_ ≠ (.slice Ao53 y287.length co53 : Value).ownBlock ∧ k_ ≠ gb265 ∧ k_ ≠ gb275 ∧ k_ ≠ gb285)) k_ ∧ some k_ ≠ (u286002 : Value).ownBlock)) (HO292.out) (fun k_ hk => ⟨⟨hk.1, ⟨hk.2.1, ⟨hk.2.2.1, ⟨hk.2.2.2.1, ⟨hk.2.2.2.2.2.1, ⟨hk.2.2.2.2.2.2.1, ⟨hk.2.2.2.2.2.2.2.1, hk.2.2.2.2.2.2.2.2⟩⟩⟩⟩⟩⟩⟩, hk.2.2.2.2.1⟩))).2.1 (Kd.N_F (Kd.N_mono (ok' := (fun k_ => ((fun k_ => some k_ ≠ (.slice Ao8 y262.length co8 : Value).ownBlock ∧ some k_ ≠ (u266002 : Value).ownBlock ∧ some k_ ≠ (.slice Ao22 y272.length co22 : Value).ownBlock ∧ some k_ ≠ (u276002 : Value).ownBlock ∧ some k_ ≠ (.slice Ao53 y287.length co53 : Value).ownBlock ∧ k_ ≠ gb265 ∧ k_ ≠ gb275 ∧ k_ ≠ gb285)) k_ ∧ some k_ ≠ (u286002 : Value).ownBlock)) (HO292.out) (fun k_ hk => ⟨⟨hk.1, ⟨hk.2.1, ⟨hk.2.2.1, ⟨hk.2.2.2.1, ⟨hk.2.2.2.2.2.1, ⟨hk.2.2.2.2.2.2.1, ⟨hk.2.2.2.2.2.2.2.1, hk.2.2.2.2.2.2.2.2⟩⟩⟩⟩⟩⟩⟩, hk.2.2.2.2.1⟩))))); (case aB => exact (by repeat (first | (with_reducible first | exact HB.out | apply below_alloc | apply pw_below_drewN | apply below_drew1 | refine below_set ?_ GE265.out | refine below_set ?_ GE275.out | refine below_set ?_ GE285.out) | exact HB.out))); (case aF => exact (fun k_ hk => ⟨Kd.fresh' (Kd.R_lt (by (with_reducible repeat (first | apply Kd.R_alloc | apply Kd.R_drewN | apply Kd.R_drew)); exact HO_266001.out)) k_ hk, Kd.fresh' (Kd.N_lt (by (with_reducible repeat (first | apply Kd.N_alloc | apply Kd.N_drewN | apply Kd.N_drew)); exact HO_266002.out)) k_ hk, Kd.fresh' (Kd.R_lt (by (with_reducible repeat (first | apply Kd.R_alloc | apply Kd.R_drewN | apply Kd.R_drew)); exact HO_276001.out)) k_ hk, Kd.fresh' (Kd.N_lt (by (with_reducible repeat (first | apply Kd.N_alloc | apply Kd.N_drewN | apply Kd.N_drew)); exact HO_276002.out)) k_ hk, Kd.fresh' (Kd.R_lt (by (with_reducible repeat (first | apply Kd.R_alloc | apply Kd.R_drewN | apply Kd.R_drew)); exact HO289.out)) k_ hk, Kd.freshB (g := gb265) (o := .cells #[.int .i64 0, .slice Ao8 y262.length co8, u266002] 28 (0, 0)) (by (with_reducible repeat (first | refine blk_drewN ?_ _ | refine blk_drew ?_ | refine blk_alloc ?_ _)); exact BK265.out) k_ hk, Kd.freshB (g := gb275) (o := .cells #[.int .i64 0, .slice Ao22 y272.length co22, u276002] 28 (0, 0)) (by (with_reducible repeat (first | refine blk_drewN ?_ _ | refine blk_drew ?_ | refine blk_alloc ?_ _)); exact BK275.out) k_ hk, Kd.freshB (g := gb285) (o := .cells #[.int .i64 0, .slice Ao53 y287.length co53, u286002] 28 (0, 0)) (by (with_reducible repeat (first | refine blk_drewN ?_ _ | refine blk_drew ?_ | refine blk_alloc ?_ _)); exact BK285.out) k_ hk⟩)); (case aO => exact (by (with_reducible repeat (first | apply Kd.N_alloc | apply Kd.N_drewN | apply Kd.N_drew)); exact Kd.N_mono HO_286002.out (fun _ hk => ⟨hk.1.1.1, ⟨hk.1.1.2.1, ⟨hk.1.1.2.2.1, ⟨hk.1.1.2.2.2.1, ⟨hk.1.2, ⟨hk.1.1.2.2.2.2.1, ⟨hk.1.1.2.2.2.2.2.1, hk.1.1.2.2.2.2.2.2⟩⟩⟩⟩⟩⟩⟩))); (case aS => exact (below_size (by repeat (first | (with_reducible first | exact HB.out | apply below_alloc | apply pw_below_drewN | apply below_drew1 | refine below_set ?_ GE265.out | refine below_set ?_ GE275.out | refine below_set ?_ GE285.out) | exact HB.out)))); (case aL => have := LMc49.out; omega); intro v294 w61 ho hb hg hat; rw [← Ny293.out] at ho; have n0_ := Aside0.mk (Kd.R_over' (by (with_reducible repeat (first | apply Kd.R_alloc | apply Kd.R_drewN | apply Kd.R_drew)); exact HO_266001.out) (Kd.N_typed (by (with_reducible repeat (first | apply Kd.N_alloc | apply Kd.N_drewN | apply Kd.N_drew)); exact HO_286002.out)) (by decide) hg); have n1_ := Aside0.mk (Kd.N_afterv (ok := (fun k_ => some k_ ≠ (.slice Ao8 y262.length co8 : Value).ownBlock ∧ some k_ ≠ (.slice Ao22 y272.length co22 : Value).ownBlock ∧ some k_ ≠ (u276002 : Value).ownBlock ∧ some k_ ≠ (.slice Ao53 y287.length co53 : Value).ownBlock ∧ some k_ ≠ (.slice Ao60 y290.length co60 : Value).ownBlock ∧ k_ ≠ gb265 ∧ k_ ≠ gb275 ∧ k_ ≠ gb285)) (by (with_reducible repeat (first | apply Kd.N_alloc | apply Kd.N_drewN | apply Kd.N_drew)); exact Kd.N_mono HO_266002.out (fun _ hk => ⟨⟨hk.1.1.1, ⟨hk.1.1.2.1, ⟨hk.1.1.2.2.1, ⟨hk.1.2, ⟨hk.2, ⟨hk.1.1.2.2.2.2.1, ⟨hk.1.1.2.2.2.2.2.1, hk.1.1.2.2.2.2.2.2⟩⟩⟩⟩⟩⟩⟩, hk.1.1.2.2.2.1⟩)) hg hat); have n2_ := Aside0.mk (Kd.R_over' (by (with_reducible repeat (first | apply Kd.R_alloc | apply Kd.R_drewN | apply Kd.R_drew)); exact HO_276001.out) (Kd.N_typed (by (with_reducible repeat (first | apply Kd.N_alloc | apply Kd.N_drewN | apply Kd.N_drew)); exact HO_286002.out)) (by decide) hg); have n3_ := Aside0.mk (Kd.N_afterv (ok := (fun k_ => some k_ ≠ (.slice Ao8 y262.length co8 : Value).ownBlock ∧ some k_ ≠ (u266002 : Value).ownBlock ∧ some k_ ≠ (.slice Ao22 y272.length co22 : Value).ownBlock ∧ some k_ ≠ (.slice Ao53 y287.length co53 : Value).ownBlock ∧ some k_ ≠ (.slice Ao60 y290.length co60 : Value).ownBlock ∧ k_ ≠ gb265 ∧ k_ ≠ gb275 ∧ k_ ≠ gb285)) (by (with_reducible repeat (first | apply Kd.N_alloc | apply Kd.N_drewN | apply Kd.N_drew)); exact Kd.N_mono HO_276002.out (fun _ hk => ⟨⟨hk.1.1.1, ⟨hk.1.1.2.1, ⟨hk.1.1.2.2.1, ⟨hk.1.2, ⟨hk.2, ⟨hk.1.1.2.2.2.2.1, ⟨hk.1.1.2.2.2.2.2.1, hk.1.1.2.2.2.2.2.2⟩⟩⟩⟩⟩⟩⟩, hk.1.1.2.2.2.1⟩)) hg hat); have n4_ := Aside0.mk (blk_grown (g := gb265) (o := .cells #[.int .i64 0, .slice Ao8 y262.length co8, u266002] 28 (0, 0)) (by (with_reducible repeat (first | refine blk_drewN ?_ _ | refine blk_drew ?_ | refine blk_alloc ?_ _)); exact BK265.out) hg (Kd.N_ne HO_286002.out BK265.out (by decide))); have n5_ := Aside0.mk (blk_grown (g := gb275) (o := .cells #[.int .i64 0, .slice Ao22 y272.length co22, u276002] 28 (0, 0)) (by (with_reducible repeat (first | refine blk_drewN ?_ _ | refine blk_drew ?_ | refine blk_alloc ?_ _)); exact BK275.out) hg (Kd.N_ne HO_286002.out BK275.out (by decide))); have n6_ := Aside0.mk (blk_grown (g := gb285) (o := .cells #[.int .i64 0, .slice Ao53 y287.length co53, u286002] 28 (0, 0)) (by (with_reducible repeat (first | refine blk_drewN ?_ _ | refine blk_drew ?_ | refine blk_alloc ?_ _)); exact BK285.out) hg (Kd.N_ne HO_286002.out BK285.out (by decide))); have n7_ := Aside0.mk (Kd.R_over' (by (with_reducible repeat (first | apply Kd.R_alloc | apply Kd.R_drewN | apply Kd.R_drew)); exact HO289.out) (Kd.N_typed (by (with_reducible repeat (first | apply Kd.N_alloc | apply Kd.N_drewN | apply Kd.N_drew)); exact HO_286002.out)) (by decide) hg); have n8_ := Aside0.mk (hb); have n9_ := Aside0.mk (ho); clear HO_266001; clear HO_266002; clear HO_276001; clear HO_276002; clear BK265; clear BK275; clear BK285; clear HO289; clear HB; clear HO_286002; clear HO292; have HO_266001 := n0_; have HO_266002 := n1_; have HO_276001 := n2_; have HO_276002 := n3_; have BK265 := n4_; have BK275 := n5_; have BK285 := n6_; have HO289 := n7_; have HB := n8_; have HO295 := n9_; clear n0_ n1_ n2_ n3_ n4_ n5_ n6_ n7_ n8_ n9_; clear ho hb hg hat; obtain ⟨Ao62, co62, eo62⟩ := Kd.N_slice HO295.out; subst eo62; have hcz63_0 : w61.cell? ⟨gb285, 0, none⟩ = some (.int .i64 0) := (blk_cell BK285.out 0).trans rfl; have hcz63_1 : w61.cell? ⟨gb285, 1, none⟩ = some (.slice Ao53 y287.length co53) := (blk_cell BK285.out 1).trans rfl; have hcz63_2 : w61.cell? ⟨gb285, 2, none⟩ = some (u286002) := (blk_cell BK285.out 2).trans rfl; have hfz63_0 := blk_frozen BK285.out 0; have hfz63_1 := blk_frozen BK285.out 1; have hfz63_2 := blk_frozen BK285.out 2))
              go_roundg k3
              case measure => have := HK1.out; have := HK2.out; have := HK3.out; omega
              case rel => exact ⟨(wrap64 (x14_3 + 1)), (y287), (y293), (.slice Ao53 y287.length co53), (.slice Ao62 y293.length co62), (by first | rfl | (simp; done) | (simp [i64_w]; done) | (simp [*]; done) | (simp [*, i64_w]; done) | (simp [*]; unfold wrap64; omega)), H', ⟨by have := HK1.out; have := HK2.out; have := HK3.out; omega⟩, ⟨by (with_reducible repeat (first | apply Kd.R_alloc | apply Kd.R_drewN | apply Kd.R_drew)); exact Kd.R_mono (Kd.R_far (p := ⟨gb285, 2, none⟩) (Kd.R_types HO_266001.out BK285.out (by decide)) (fun _ hk => hk.2) (.slice Ao62 y293.length co62)) (fun _ hk => ⟨hk.1.1, hk.1.2⟩)⟩, ⟨by (with_reducible repeat (first | apply Kd.N_alloc | apply Kd.N_drewN | apply Kd.N_drew)); exact Kd.N_mono (Kd.N_far (p := ⟨gb285, 2, none⟩) (Kd.N_mono HO_266002.out (fun k_ hk => (⟨hk, hk.1.2.2.2.2.2.2.2⟩ : _ ∧ k_ ≠ gb285))) (fun _ hk => hk.2) (.slice Ao62 y293.length co62)) (fun _ hk => ⟨hk.1.1.1, ⟨hk.1.1.2.1, ⟨hk.1.1.2.2.1, ⟨hk.1.1.2.2.2.1, ⟨hk.1.2, ⟨hk.1.1.2.2.2.2.2.1, ⟨hk.1.1.2.2.2.2.2.2.1, hk.1.1.2.2.2.2.2.2.2⟩⟩⟩⟩⟩⟩⟩)⟩, ⟨by (with_reducible repeat (first | apply Kd.R_alloc | apply Kd.R_drewN | apply Kd.R_drew)); exact Kd.R_mono (Kd.R_far (p := ⟨gb285, 2, none⟩) (Kd.R_types HO_276001.out BK285.out (by decide)) (fun _ hk => hk.2) (.slice Ao62 y293.length co62)) (fun _ hk => ⟨hk.1.1, hk.1.2⟩)⟩, ⟨by (with_reducible repeat (first | apply Kd.N_alloc | apply Kd.N_drewN | apply Kd.N_drew)); exact Kd.N_mono (Kd.N_far (p := ⟨gb285, 2, none⟩) (Kd.N_mono HO_276002.out (fun k_ hk => (⟨hk, hk.1.2.2.2.2.2.2.2⟩ : _ ∧ k_ ≠ gb285))) (fun _ hk => hk.2) (.slice Ao62 y293.length co62)) (fun _ hk => ⟨hk.1.1.1, ⟨hk.1.1.2.1, ⟨hk.1.1.2.2.1, ⟨hk.1.1.2.2.2.1, ⟨hk.1.2, ⟨hk.1.1.2.2.2.2.2.1, ⟨hk.1.1.2.2.2.2.2.2.1, hk.1.1.2.2.2.2.2.2.2⟩⟩⟩⟩⟩⟩⟩)⟩, ⟨by (with_reducible repeat (first | apply Kd.R_alloc | apply Kd.R_drewN | apply Kd.R_drew)); exact Kd.R_mono (Kd.R_far (p := ⟨gb285, 2, none⟩) (Kd.R_types HO289.out BK285.out (by decide)) (fun _ hk => hk.2) (.slice Ao62 y293.length co62)) (fun _ hk => ⟨hk.1.1, hk.1.2⟩)⟩, ⟨by (with_reducible repeat (first | apply Kd.N_alloc | apply Kd.N_drewN | apply Kd.N_drew)); exact Kd.N_mono (Kd.N_far (p := ⟨gb285, 2, none⟩) (Kd.N_mono HO295.out (fun k_ hk => (⟨hk, hk.2.2.2.2.2.2.2⟩ : _ ∧ k_ ≠ gb285))) (fun _ hk => hk.2) (.slice Ao62 y293.length co62)) (fun _ hk => ⟨hk.1.1, ⟨hk.1.2.1, ⟨hk.1.2.2.1, ⟨hk.1.2.2.2.1, ⟨hk.1.2.2.2.2.1, ⟨hk.1.2.2.2.2.2.1, ⟨hk.1.2.2.2.2.2.2.1, hk.1.2.2.2.2.2.2.2⟩⟩⟩⟩⟩⟩⟩)⟩, ⟨by (with_reducible repeat (first | refine blk_drewN ?_ _ | refine blk_drew ?_ | refine blk_alloc ?_ _)); refine blk_far ?_ NB265_285.out _; (with_reducible repeat (first | refine blk_drewN ?_ _ | refine blk_drew ?_ | refine blk_alloc ?_ _)); exact BK265.out⟩, ⟨by (with_reducible repeat (first | refine blk_drewN ?_ _ | refine blk_drew ?_ | refine blk_alloc ?_ _)); refine blk_far ?_ NB275_285.out _; (with_reducible repeat (first | refine blk_drewN ?_ _ | refine blk_drew ?_ | refine blk_alloc ?_ _)); exact BK275.out⟩, ⟨by (with_reducible repeat (first | refine blk_drewN ?_ _ | refine blk_drew ?_ | refine blk_alloc ?_ _)); refine blk_put (cs := #[.int .i64 0, .slice Ao53 y287.length co53, u286002]) ?_ 2 _ rfl; (with_reducible repeat (first | refine blk_drewN ?_ _ | refine blk_drew ?_ | refine blk_alloc ?_ _)); exact BK285.out⟩, ⟨by repeat (first | (with_reducible first | exact HB.out | apply below_alloc | apply pw_below_drewN | apply below_drew1 | refine below_set ?_ GE265.out | refine below_set ?_ GE275.out | refine below_set ?_ GE285.out) | exact HB.out)⟩⟩
             ·rw [if_neg c49] at H
              exact absurd H (by simp)
            ·rw [if_neg c48] at H
             exact absurd H (by simp)
           ·rw [if_neg c47] at H
            exact absurd H (by simp)
          ·rw [if_neg c45] at H
           have c45b0 : decide (x14_3 < (wrap64 ((wrap64 (63 + (Go.bits .and .i64 a0 1))) + (Go.bits .and .i64 a1 1)))) = false := decide_eq_false c45
           clear c45
           replace H := Option.bind_eq_some_iff.mp H
           obtain ⟨t296, A640, H⟩ := H
           try dsimp only at H
           have A64 := Aside0.mk A640
           clear A640
           by_cases c65 : (t296 == (decide ((wrap64 (254 + (Go.bits .and .i64 a0 3))) ≤ 256))) = true
           ·rw [if_pos c65] at H
            have c65b0 : (t296 == (decide ((wrap64 (254 + (Go.bits .and .i64 a0 3))) ≤ 256))) = true := c65
            (try (have c65b1 : decide (t296 = (decide ((wrap64 (254 + (Go.bits .and .i64 a0 3))) ≤ 256))) = true := by simpa using c65))
            (try (have c65b2 : (t296 == (decide ((wrap64 (254 + (Go.bits .and .i64 a0 3))) ≤ 256))) = true := by simpa using c65))
            clear c65
            replace H := Option.bind_eq_some_iff.mp H
            obtain ⟨t297, A660, H⟩ := H
            try dsimp only at H
            have A66 := Aside0.mk A660
            clear A660
            by_cases c67 : (t297 == (decide ((wrap64 (1022 + (Go.bits .and .i64 a1 3))) ≤ 1024))) = true
            ·rw [if_pos c67] at H
             have c67b0 : (t297 == (decide ((wrap64 (1022 + (Go.bits .and .i64 a1 3))) ≤ 1024))) = true := c67
             (try (have c67b1 : decide (t297 = (decide ((wrap64 (1022 + (Go.bits .and .i64 a1 3))) ≤ 1024))) = true := by simpa using c67))
             (try (have c67b2 : (t297 == (decide ((wrap64 (1022 + (Go.bits .and .i64 a1 3))) ≤ 1024))) = true := by simpa using c67))
             clear c67
             replace H := Option.bind_eq_some_iff.mp H
             obtain ⟨t298, A680, H⟩ := H
             replace H : (if (t298 == (decide ((wrap64 ((wrap64 (63 + (Go.bits .and .i64 a0 1))) + (Go.bits .and .i64 a1 1))) ≤ 64))) = true then ((templelaw0_Num.f 0).bind fun t299 => (some (t299 == 0))) else (none)) = some r := H
             have A68 := Aside0.mk A680
             clear A680
             by_cases c69 : (t298 == (decide ((wrap64 ((wrap64 (63 + (Go.bits .and .i64 a0 1))) + (Go.bits .and .i64 a1 1))) ≤ 64))) = true
             ·rw [if_pos c69] at H
              have c69b0 : (t298 == (decide ((wrap64 ((wrap64 (63 + (Go.bits .and .i64 a0 1))) + (Go.bits .and .i64 a1 1))) ≤ 64))) = true := c69
              (try (have c69b1 : decide (t298 = (decide ((wrap64 ((wrap64 (63 + (Go.bits .and .i64 a0 1))) + (Go.bits .and .i64 a1 1))) ≤ 64))) = true := by simpa using c69))
              (try (have c69b2 : (t298 == (decide ((wrap64 ((wrap64 (63 + (Go.bits .and .i64 a0 1))) + (Go.bits .and .i64 a1 1))) ≤ 64))) = true := by simpa using c69))
              clear c69
              replace H := Option.bind_eq_some_iff.mp H
              obtain ⟨t299, A700, H⟩ := H
              replace H : (some (t299 == 0)) = some r := H
              have A70 := Aside0.mk A700
              clear A700
              obtain rfl := Option.some.inj H
              have hnb71 := NB265_275.out
              have hnc71 := NB275_265.out
              have hnb72 := NB265_285.out
              have hnc72 := NB285_265.out
              have hcz73_0 : wr.cell? ⟨gb265, 0, none⟩ = some (.int .i64 0) := (blk_cell BK265.out 0).trans rfl
              have hcz73_1 : wr.cell? ⟨gb265, 1, none⟩ = some (.slice Ao8 y262.length co8) := (blk_cell BK265.out 1).trans rfl
              have hcz73_2 : wr.cell? ⟨gb265, 2, none⟩ = some (u266002) := (blk_cell BK265.out 2).trans rfl
              have hfz73_0 := blk_frozen BK265.out 0
              have hfz73_1 := blk_frozen BK265.out 1
              have hfz73_2 := blk_frozen BK265.out 2
              obtain ⟨Ao74, co74, eo74⟩ := Kd.N_slice HO_266002.out
              subst eo74
              go_wp2_with (first | ((with_reducible refine gate_callee (f := 17) rfl ?_); refine goesL_ (some 88) rfl rfl Try.func17 (by kernel_rfl) rfl #[.agg #[.int .i64 0, .slice Ao8 y262.length co8, .slice Ao74 x266002_1.length co74]] rfl (by (try simp only [List.map_toArray, List.map_cons, List.map_nil]); first | done | rfl | (simp only [List.length_drop, List.length_take]; rfl)) ?_; (with_reducible refine (gram_May.calls 0 _ _ y262 _ _ x266002_1 t296 _ ?side1 ?side2 ?side3 ?side4 A64.out).mono ?_); (case side1 => repeat (first | exact (Kd.R_reads' HO_266001.out).2.2 | (with_reducible refine Kd.C_alloc ?_ _) | (with_reducible refine Kd.C_drewN ?_ _) | (with_reducible refine Kd.C_drew ?_))); (case side2 => exact (Kd.R_reads' HO_266001.out).2.1); (case side3 => repeat (first | exact (Kd.N_reads' HO_266002.out).2.2 | (with_reducible refine Kd.C_alloc ?_ _) | (with_reducible refine Kd.C_drewN ?_ _) | (with_reducible refine Kd.C_drew ?_))); (case side4 => exact (Kd.N_reads' HO_266002.out).2.1); rintro e w75 ⟨rfl, hb⟩; refine ⟨_, rfl, ?_⟩; have n0_ := Aside0.mk (Kd.R_below (by (with_reducible repeat (first | apply Kd.R_alloc | apply Kd.R_drewN | apply Kd.R_drew)); exact HO_266001.out) hb); have n1_ := Aside0.mk (Kd.N_below (by (with_reducible repeat (first | apply Kd.N_alloc | apply Kd.N_drewN | apply Kd.N_drew)); exact HO_266002.out) hb); have n2_ := Aside0.mk (Kd.R_below (by (with_reducible repeat (first | apply Kd.R_alloc | apply Kd.R_drewN | apply Kd.R_drew)); exact HO_276001.out) hb); have n3_ := Aside0.mk (Kd.N_below (by (with_reducible repeat (first | apply Kd.N_alloc | apply Kd.N_drewN | apply Kd.N_drew)); exact HO_276002.out) hb); have n4_ := Aside0.mk (Kd.R_below (by (with_reducible repeat (first | apply Kd.R_alloc | apply Kd.R_drewN | apply Kd.R_drew)); exact HO_286001.out) hb); have n5_ := Aside0.mk (Kd.N_below (by (with_reducible repeat (first | apply Kd.N_alloc | apply Kd.N_drewN | apply Kd.N_drew)); exact HO_286002.out) hb); have n6_ := Aside0.mk (blk_below (g := gb265) (o := .cells #[.int .i64 0, .slice Ao8 y262.length co8, .slice Ao74 x266002_1.length co74] 28 (0, 0)) (by (with_reducible repeat (first | refine blk_drewN ?_ _ | refine blk_drew ?_ | refine blk_alloc ?_ _)); exact BK265.out) hb); have n7_ := Aside0.mk (blk_below (g := gb275) (o := .cells #[.int .i64 0, .slice Ao22 y272.length co22, u276002] 28 (0, 0)) (by (with_reducible repeat (first | refine blk_drewN ?_ _ | refine blk_drew ?_ | refine blk_alloc ?_ _)); exact BK275.out) hb); have n8_ := Aside0.mk (blk_below (g := gb285) (o := .cells #[.int .i64 0, u286001, u286002] 28 (0, 0)) (by (with_reducible repeat (first | refine blk_drewN ?_ _ | refine blk_drew ?_ | refine blk_alloc ?_ _)); exact BK285.out) hb); have n9_ := Aside0.mk (below_step (by repeat (first | (with_reducible first | exact HB.out | apply below_alloc | apply pw_below_drewN | apply below_drew1 | refine below_set ?_ GE265.out | refine below_set ?_ GE275.out | refine below_set ?_ GE285.out) | exact HB.out)) hb); clear HO_266001; clear HO_266002; clear HO_276001; clear HO_276002; clear HO_286001; clear HO_286002; clear BK265; clear BK275; clear BK285; clear HB; have HO_266001 := n0_; have HO_266002 := n1_; have HO_276001 := n2_; have HO_276002 := n3_; have HO_286001 := n4_; have HO_286002 := n5_; have BK265 := n6_; have BK275 := n7_; have BK285 := n8_; have HB := n9_; clear n0_ n1_ n2_ n3_ n4_ n5_ n6_ n7_ n8_ n9_; (try clear hb); have hnb76 := NB275_285.out; have hnc76 := NB285_275.out; have hcz77_0 : w75.cell? ⟨gb275, 0, none⟩ = some (.int .i64 0) := (blk_cell BK275.out 0).trans rfl; have hcz77_1 : w75.cell? ⟨gb275, 1, none⟩ = some (.slice Ao22 y272.length co22) := (blk_cell BK275.out 1).trans rfl; have hcz77_2 : w75.cell? ⟨gb275, 2, none⟩ = some (u276002) := (blk_cell BK275.out 2).trans rfl; have hfz77_0 := blk_frozen BK275.out 0; have hfz77_1 := blk_frozen BK275.out 1; have hfz77_2 := blk_frozen BK275.out 2; obtain ⟨Ao78, co78, eo78⟩ := Kd.N_slice HO_276002.out; subst eo78) | (go_at_call 17; (with_reducible refine (gram_May.calls 0 _ _ y272 _ _ x276002_2 t297 _ ?side1 ?side2 ?side3 ?side4 A66.out).mono ?_); (case side1 => repeat (first | exact (Kd.R_reads' HO_276001.out).2.2 | (with_reducible refine Kd.C_alloc ?_ _) | (with_reducible refine Kd.C_drewN ?_ _) | (with_reducible refine Kd.C_drew ?_))); (case side2 => exact (Kd.R_reads' HO_276001.out).2.1); (case side3 => repeat (first | exact (Kd.N_reads' HO_276002.out).2.2 | (with_reducible refine Kd.C_alloc ?_ _) | (with_reducible refine Kd.C_drewN ?_ _) | (with_reducible refine Kd.C_drew ?_))); (case side4 => exact (Kd.N_reads' HO_276002.out).2.1); rintro e w79 ⟨rfl, hb⟩; have n0_ := Aside0.mk (Kd.R_below (by (with_reducible repeat (first | apply Kd.R_alloc | apply Kd.R_drewN | apply Kd.R_drew)); exact HO_266001.out) hb); have n1_ := Aside0.mk (Kd.N_below (by (with_reducible repeat (first | apply Kd.N_alloc | apply Kd.N_drewN | apply Kd.N_drew)); exact HO_266002.out) hb); have n2_ := Aside0.mk (Kd.R_below (by (with_reducible repeat (first | apply Kd.R_alloc | apply Kd.R_drewN | apply Kd.R_drew)); exact HO_276001.out) hb); have n3_ := Aside0.mk (Kd.N_below (by (with_reducible repeat (first | apply Kd.N_alloc | apply Kd.N_drewN | apply Kd.N_drew)); exact HO_276002.out) hb); have n4_ := Aside0.mk (Kd.R_below (by (with_reducible repeat (first | apply Kd.R_alloc | apply Kd.R_drewN | apply Kd.R_drew)); exact HO_286001.out) hb); have n5_ := Aside0.mk (Kd.N_below (by (with_reducible repeat (first | apply Kd.N_alloc | apply Kd.N_drewN | apply Kd.N_drew)); exact HO_286002.out) hb); have n6_ := Aside0.mk (blk_below (g := gb265) (o := .cells #[.int .i64 0, .slice Ao8 y262.length co8, .slice Ao74 x266002_1.length co74] 28 (0, 0)) (by (with_reducible repeat (first | refine blk_drewN ?_ _ | refine blk_drew ?_ | refine blk_alloc ?_ _)); exact BK265.out) hb); have n7_ := Aside0.mk (blk_below (g := gb275) (o := .cells #[.int .i64 0, .slice Ao22 y272.length co22, .slice Ao78 x276002_2.length co78] 28 (0, 0)) (by (with_reducible repeat (first | refine blk_drewN ?_ _ | refine blk_drew ?_ | refine blk_alloc ?_ _)); exact BK275.out) hb); have n8_ := Aside0.mk (blk_below (g := gb285) (o := .cells #[.int .i64 0, u286001, u286002] 28 (0, 0)) (by (with_reducible repeat (first | refine blk_drewN ?_ _ | refine blk_drew ?_ | refine blk_alloc ?_ _)); exact BK285.out) hb); have n9_ := Aside0.mk (below_step (by repeat (first | (with_reducible first | exact HB.out | apply below_alloc | apply pw_below_drewN | apply below_drew1 | refine below_set ?_ GE265.out | refine below_set ?_ GE275.out | refine below_set ?_ GE285.out) | exact HB.out)) hb); clear HO_266001; clear HO_266002; clear HO_276001; clear HO_276002; clear HO_286001; clear HO_286002; clear BK265; clear BK275; clear BK285; clear HB; have HO_266001 := n0_; have HO_266002 := n1_; have HO_276001 := n2_; have HO_276002 := n3_; have HO_286001 := n4_; have HO_286002 := n5_; have BK265 := n6_; have BK275 := n7_; have BK285 := n8_; have HB := n9_; clear n0_ n1_ n2_ n3_ n4_ n5_ n6_ n7_ n8_ n9_; (try clear hb); have hcz80_0 : w79.cell? ⟨gb285, 0, none⟩ = some (.int .i64 0) := (blk_cell BK285.out 0).trans rfl; have hcz80_1 : w79.cell? ⟨gb285, 1, none⟩ = some (u286001) := (blk_cell BK285.out 1).trans rfl; have hcz80_2 : w79.cell? ⟨gb285, 2, none⟩ = some (u286002) := (blk_cell BK285.out 2).trans rfl; have hfz80_0 := blk_frozen BK285.out 0; have hfz80_1 := blk_frozen BK285.out 1; have hfz80_2 := blk_frozen BK285.out 2; obtain ⟨Ao81, co81, eo81⟩ := Kd.R_slice HO_286001.out; subst eo81; obtain ⟨Ao82, co82, eo82⟩ := Kd.N_slice HO_286002.out; subst eo82) | (go_at_call 17; (with_reducible refine (gram_May.calls 0 _ _ x286001_3 _ _ x286002_3 t298 _ ?side1 ?side2 ?side3 ?side4 A68.out).mono ?_); (case side1 => repeat (first | exact (Kd.R_reads' HO_286001.out).2.2 | (with_reducible refine Kd.C_alloc ?_ _) | (with_reducible refine Kd.C_drewN ?_ _) | (with_reducible refine Kd.C_drew ?_))); (case side2 => exact (Kd.R_reads' HO_286001.out).2.1); (case side3 => repeat (first | exact (Kd.N_reads' HO_286002.out).2.2 | (with_reducible refine Kd.C_alloc ?_ _) | (with_reducible refine Kd.C_drewN ?_ _) | (with_reducible refine Kd.C_drew ?_))); (case side4 => exact (Kd.N_reads' HO_286002.out).2.1); rintro e w83 ⟨rfl, hb⟩; have n0_ := Aside0.mk (Kd.R_below (by (with_reducible repeat (first | apply Kd.R_alloc | apply Kd.R_drewN | apply Kd.R_drew)); exact HO_266001.out) hb); have n1_ := Aside0.mk (Kd.N_below (by (with_reducible repeat (first | apply Kd.N_alloc | apply Kd.N_drewN | apply Kd.N_drew)); exact HO_266002.out) hb); have n2_ := Aside0.mk (Kd.R_below (by (with_reducible repeat (first | apply Kd.R_alloc | apply Kd.R_drewN | apply Kd.R_drew)); exact HO_276001.out) hb); have n3_ := Aside0.mk (Kd.N_below (by (with_reducible repeat (first | apply Kd.N_alloc | apply Kd.N_drewN | apply Kd.N_drew)); exact HO_276002.out) hb); have n4_ := Aside0.mk (Kd.R_below (by (with_reducible repeat (first | apply Kd.R_alloc | apply Kd.R_drewN | apply Kd.R_drew)); exact HO_286001.out) hb); have n5_ := Aside0.mk (Kd.N_below (by (with_reducible repeat (first | apply Kd.N_alloc | apply Kd.N_drewN | apply Kd.N_drew)); exact HO_286002.out) hb); have n6_ := Aside0.mk (blk_below (g := gb265) (o := .cells #[.int .i64 0, .slice Ao8 y262.length co8, .slice Ao74 x266002_1.length co74] 28 (0, 0)) (by (with_reducible repeat (first | refine blk_drewN ?_ _ | refine blk_drew ?_ | refine blk_alloc ?_ _)); exact BK265.out) hb); have n7_ := Aside0.mk (blk_below (g := gb275) (o := .cells #[.int .i64 0, .slice Ao22 y272.length co22, .slice Ao78 x276002_2.length co78] 28 (0, 0)) (by (with_reducible repeat (first | refine blk_drewN ?_ _ | refine blk_drew ?_ | refine blk_alloc ?_ _)); exact BK275.out) hb); have n8_ := Aside0.mk (blk_below (g := gb285) (o := .cells #[.int .i64 0, .slice Ao81 x286001_3.length co81, .slice Ao82 x286002_3.length co82] 28 (0, 0)) (by (with_reducible repeat (first | refine blk_drewN ?_ _ | refine blk_drew ?_ | refine blk_alloc ?_ _)); exact BK285.out) hb); have n9_ := Aside0.mk (below_step (by repeat (first | (with_reducible first | exact HB.out | apply below_alloc | apply pw_below_drewN | apply below_drew1 | refine below_set ?_ GE265.out | refine below_set ?_ GE275.out | refine below_set ?_ GE285.out) | exact HB.out)) hb); clear HO_266001; clear HO_266002; clear HO_276001; clear HO_276002; clear HO_286001; clear HO_286002; clear BK265; clear BK275; clear BK285; clear HB; have HO_266001 := n0_; have HO_266002 := n1_; have HO_276001 := n2_; have HO_276002 := n3_; have HO_286001 := n4_; have HO_286002 := n5_; have BK265 := n6_; have BK275 := n7_; have BK285 := n8_; have HB := n9_; clear n0_ n1_ n2_ n3_ n4_ n5_ n6_ n7_ n8_ n9_; (try clear hb)) | (go_at_call 14; (with_reducible refine (templelaw0_Num.calls 0 t299 _ A70.out).mono ?_); rintro e w' ⟨rfl, ⟨nd, rfl⟩⟩))
              go_ret
              exact ⟨by first | rfl | (simp [errW_none, errW_some] <;> rfl) | (simp [*, errW_none, errW_some] <;> rfl), by repeat (first | (with_reducible first | exact HB.out | apply below_alloc | apply pw_below_drewN | apply below_drew1 | refine below_set ?_ GE265.out | refine below_set ?_ GE275.out | refine below_set ?_ GE285.out) | exact HB.out)⟩
             ·rw [if_neg c69] at H
              exact absurd H (by simp)
            ·rw [if_neg c67] at H
             exact absurd H (by simp)
           ·rw [if_neg c65] at H
            exact absurd H (by simp)
 ·replace c4 := Bool.eq_false_iff.mpr c4
  subst c4
  have H1 : (none) = some r := by rw [if_neg (show ¬ (false = true) by decide)] at H; exact H
  clear H
  have H := H1
  clear H1
  exact absurd H (by simp)

/-- THE ONE PURE STATEMENT of templelaw4_GramLimits: yours. -/
def templelaw4_GramLimits.Pure : Prop := ∀ (a0 : Int) (a1 : Int), (Lit.int .i64 a0).wf = true → (Lit.int .i64 a1).wf = true → ∃ k, templelaw4_GramLimits.f k a0 a1 = some true
theorem templelaw4_GramLimits.walk (P : templelaw4_GramLimits.Pure) (a0 : Int) (a1 : Int) (w : World) (w0 : (Lit.int .i64 a0).wf = true) (w1 : (Lit.int .i64 a1).wf = true) :
  Calls Try.prog 6 #[.int .i64 a0, .int .i64 a1] w fun e w' => e = .returned (.bool true) ∧ Below w.heap.size w w' := by
 obtain ⟨k, h⟩ := P a0 a1 w0 w1
 refine (templelaw4_GramLimits.calls k a0 a1 true w h).mono ?_
 rintro e w' ⟨rfl, hd⟩
 exact ⟨rfl, hd⟩

end Go.Proofs.Ytdjnpgigdchfkaa.PGL
