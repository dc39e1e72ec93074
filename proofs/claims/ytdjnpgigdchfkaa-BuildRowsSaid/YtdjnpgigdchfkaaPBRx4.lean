-- written by a program of the session's (wip/myprint.py) out of the translation
import Derived.Test.YtdjnpgigdchfkaaPBRx0
import Derived.Test.YtdjnpgigdchfkaaPBRx3
namespace Go.Proofs.Ytdjnpgigdchfkaa.PBR
open Go.RowKit Go.Proofs.YtdjnpgigdchfkaaW.PrintWords Go.Proofs.YtdjnpgigdchfkaaW.PrintLast Go.Proofs.YtdjnpgigdchfkaaW.PrintMore
attribute [local go_sem] max2_int min2_int max_two min_two max_three min_three max_four min_four   -- for this text's walks alone
set_option linter.unusedVariables false
set_option linter.unusedSimpArgs false

/-! ### gram_made: function 27 -/
mutual
def gram_made.l0 : Nat → MapP → List (S45) → Int → Int → Int → List ByteArray → List (S51) → Option (Int × List ByteArray × (List (S51)))
 | 0, _, _, _, _, _, _, _ => none
 | k + 1, x2, x27, x28, x29, x138000, x138001, x138002 => if x29 < x28 then (if 0 ≤ x29 then (if x29 < (x27.length : Int) then (if x138001.length < 8796093022208 then (gram_made.l1 k x2 x29 x27 x28 x29 ((rd_T45 x27 x29).f1) (((rd_T45 x27 x29).f1).length : Int) 0 x138000 (x138001 ++ [(rd_T45 x27 x29).f0]) x138002) else (none)) else (none)) else (none)) else (some (x138000, x138001, x138002))
def gram_made.l1 : Nat → MapP → Int → List (S45) → Int → Int → List (List (S64)) → Int → Int → Int → List ByteArray → List (S51) → Option (Int × List ByteArray × (List (S51)))
 | 0, _, _, _, _, _, _, _, _, _, _, _ => none
 | k + 1, x2, x6, x27, x28, x29, x42, x43, x44, x138000, x138001, x138002 => if x44 < x43 then (if 0 ≤ x44 then (if x44 < (x42.length : Int) then (gram_made.l2 k x2 x6 x27 x28 x29 x42 x43 x44 (rd_L11 x42 x44) ((rd_L11 x42 x44).length : Int) 0 x138000 x138001 x138002 x6 ([] : List (S54))) else (none)) else (none)) else (gram_made.l0 k x2 x27 x28 (wrap64 (x29 + 1)) x138000 x138001 x138002)
def gram_made.l2 : Nat → MapP → Int → List (S45) → Int → Int → List (List (S64)) → Int → Int → List (S64) → Int → Int → Int → List ByteArray → List (S51) → Int → List (S54) → Option (Int × List ByteArray × (List (S51)))
 | 0, _, _, _, _, _, _, _, _, _, _, _, _, _, _, _, _ => none
 | k + 1, x2, x6, x27, x28, x29, x42, x43, x44, x50, x51, x52, x138000, x138001, x138002, x145000, x145001 => if x52 < x51 then (if 0 ≤ x52 then (if x52 < (x50.length : Int) then (gram_made.l3 k x2 x6 x27 x28 x29 x42 x43 x44 x50 x51 x52 (((rd_T64 x50 x52).f1).length : Int) 0 x138000 x138001 x138002 x145000 x145001 ((rd_T64 x50 x52).f0) ((rd_T64 x50 x52).f1) ((rd_T64 x50 x52).f0) ([] : List (S56))) else (none)) else (none)) else (if x138002.length < 4398046511104 then (gram_made.l1 k x2 x6 x27 x28 x29 x42 x43 (wrap64 (x44 + 1)) x138000 x138001 (x138002 ++ [(⟨x145000, x145001⟩ : S51)])) else (none))
def gram_made.l3 : Nat → MapP → Int → List (S45) → Int → Int → List (List (S64)) → Int → Int → List (S64) → Int → Int → Int → Int → Int → List ByteArray → List (S51) → Int → List (S54) → Bool → List (S61) → Bool → List (S56) → Option (Int × List ByteArray × (List (S51)))
 | 0, _, _, _, _, _, _, _, _, _, _, _, _, _, _, _, _, _, _, _, _, _, _ => none
 | k + 1, x2, x6, x27, x28, x29, x42, x43, x44, x50, x51, x52, x61, x62, x138000, x138001, x138002, x145000, x145001, x150000, x150001, x151000, x151001 => if x62 < x61 then (if 0 ≤ x62 then (if x62 < (x150001.length : Int) then ((gram_symbols.f k x150001 x62 x2).bind fun t152 => (if x151001.length + t152.length < 5864062014805 then (gram_made.l3 k x2 x6 x27 x28 x29 x42 x43 x44 x50 x51 x52 x61 (wrap64 (x62 + 1)) x138000 x138001 x138002 x145000 x145001 x150000 x150001 x151000 (x151001 ++ t152)) else (none))) else (none)) else (none)) else (if x145001.length < 4398046511104 then (gram_made.l2 k x2 x6 x27 x28 x29 x42 x43 x44 x50 x51 (wrap64 (x52 + 1)) x138000 x138001 x138002 x145000 (x145001 ++ [(⟨x151000, x151001⟩ : S54)])) else (none))
end
def gram_made.f (k : Nat) (l0 : List ByteArray) (l1 : List (S45)) (a2 : MapP) : Option (Int × List ByteArray × (List (S51))) := if 0 < (l0.length : Int) then (gram_made.l0 k a2 l1 (l1.length : Int) 0 (mget a2 (rdOf ByteArray.empty l0 0)) ([] : List ByteArray) ([] : List (S51))) else (none)
theorem gram_made.mono_l : ∀ k, (∀ y0 y1 y2 y3 y4 y5 y6, LeO (gram_made.l0 k y0 y1 y2 y3 y4 y5 y6) (gram_made.l0 (k + 1) y0 y1 y2 y3 y4 y5 y6)) ∧ (∀ y0 y1 y2 y3 y4 y5 y6 y7 y8 y9 y10, LeO (gram_made.l1 k y0 y1 y2 y3 y4 y5 y6 y7 y8 y9 y10) (gram_made.l1 (k + 1) y0 y1 y2 y3 y4 y5 y6 y7 y8 y9 y10)) ∧ (∀ y0 y1 y2 y3 y4 y5 y6 y7 y8 y9 y10 y11 y12 y13 y14 y15, LeO (gram_made.l2 k y0 y1 y2 y3 y4 y5 y6 y7 y8 y9 y10 y11 y12 y13 y14 y15) (gram_made.l2 (k + 1) y0 y1 y2 y3 y4 y5 y6 y7 y8 y9 y10 y11 y12 y13 y14 y15)) ∧ (∀ y0 y1 y2 y3 y4 y5 y6 y7 y8 y9 y10 y11 y12 y13 y14 y15 y16 y17 y18 y19 y20 y21, LeO (gram_made.l3 k y0 y1 y2 y3 y4 y5 y6 y7 y8 y9 y10 y11 y12 y13 y14 y15 y16 y17 y18 y19 y20 y21) (gram_made.l3 (k + 1) y0 y1 y2 y3 y4 y5 y6 y7 y8 y9 y10 y11 y12 y13 y14 y15 y16 y17 y18 y19 y20 y21))
 | 0 => ⟨fun _ _ _ _ _ _ _ r h => by simp [gram_made.l0] at h, fun _ _ _ _ _ _ _ _ _ _ _ r h => by simp [gram_made.l1] at h, fun _ _ _ _ _ _ _ _ _ _ _ _ _ _ _ _ r h => by simp [gram_made.l2] at h, fun _ _ _ _ _ _ _ _ _ _ _ _ _ _ _ _ _ _ _ _ _ _ r h => by simp [gram_made.l3] at h⟩
 | k + 1 => by
  obtain ⟨ih0, ih1, ih2, ih3⟩ := gram_made.mono_l k
  refine ⟨?_, ?_, ?_, ?_⟩
  ·intro y0 y1 y2 y3 y4 y5 y6
   unfold gram_made.l0
   repeat' first
   | (with_reducible exact ih0 _ _ _ _ _ _ _)
   | (with_reducible exact ih1 _ _ _ _ _ _ _ _ _ _ _)
   | (with_reducible exact ih2 _ _ _ _ _ _ _ _ _ _ _ _ _ _ _ _)
   | (with_reducible exact ih3 _ _ _ _ _ _ _ _ _ _ _ _ _ _ _ _ _ _ _ _ _ _)
   | (with_reducible exact gram_symbols.mono _ _ _ _)
   | (with_reducible exact LeO.refl _)
   | (with_reducible exact LeO.none _)
   | (with_reducible refine LeO.ite ?_ ?_)
   | (with_reducible refine LeO.bind ?_ (fun _ => ?_))
   | exact ih0 _ _ _ _ _ _ _
   | exact ih1 _ _ _ _ _ _ _ _ _ _ _
   | exact ih2 _ _ _ _ _ _ _ _ _ _ _ _ _ _ _ _
   | exact ih3 _ _ _ _ _ _ _ _ _ _ _ _ _ _ _ _ _ _ _ _ _ _
   | exact gram_symbols.mono _ _ _ _
   | exact LeO.none _
   | refine LeO.ite ?_ ?_
   | refine LeO.bind ?_ (fun _ => ?_)
  ·intro y0 y1 y2 y3 y4 y5 y6 y7 y8 y9 y10
   unfold gram_made.l1
   repeat' first
   | (with_reducible exact ih0 _ _ _ _ _ _ _)
   | (with_reducible exact ih1 _ _ _ _ _ _ _ _ _ _ _)
   | (with_reducible exact ih2 _ _ _ _ _ _ _ _ _ _ _ _ _ _ _ _)
   | (with_reducible exact ih3 _ _ _ _ _ _ _ _ _ _ _ _ _ _ _ _ _ _ _ _ _ _)
   | (with_reducible exact gram_symbols.mono _ _ _ _)
   | (with_reducible exact LeO.refl _)
   | (with_reducible exact LeO.none _)
   | (with_reducible refine LeO.ite ?_ ?_)
   | (with_reducible refine LeO.bind ?_ (fun _ => ?_))
   | exact ih0 _ _ _ _ _ _ _
   | exact ih1 _ _ _ _ _ _ _ _ _ _ _
   | exact ih2 _ _ _ _ _ _ _ _ _ _ _ _ _ _ _ _
   | exact ih3 _ _ _ _ _ _ _ _ _ _ _ _ _ _ _ _ _ _ _ _ _ _
   | exact gram_symbols.mono _ _ _ _
   | exact LeO.none _
   | refine LeO.ite ?_ ?_
   | refine LeO.bind ?_ (fun _ => ?_)
  ·intro y0 y1 y2 y3 y4 y5 y6 y7 y8 y9 y10 y11 y12 y13 y14 y15
   unfold gram_made.l2
   repeat' first
   | (with_reducible exact ih0 _ _ _ _ _ _ _)
   | (with_reducible exact ih1 _ _ _ _ _ _ _ _ _ _ _)
   | (with_reducible exact ih2 _ _ _ _ _ _ _ _ _ _ _ _ _ _ _ _)
   | (with_reducible exact ih3 _ _ _ _ _ _ _ _ _ _ _ _ _ _ _ _ _ _ _ _ _ _)
   | (with_reducible exact gram_symbols.mono _ _ _ _)
   | (with_reducible exact LeO.refl _)
   | (with_reducible exact LeO.none _)
   | (with_reducible refine LeO.ite ?_ ?_)
   | (with_reducible refine LeO.bind ?_ (fun _ => ?_))
   | exact ih0 _ _ _ _ _ _ _
   | exact ih1 _ _ _ _ _ _ _ _ _ _ _
   | exact ih2 _ _ _ _ _ _ _ _ _ _ _ _ _ _ _ _
   | exact ih3 _ _ _ _ _ _ _ _ _ _ _ _ _ _ _ _ _ _ _ _ _ _
   | exact gram_symbols.mono _ _ _ _
   | exact LeO.none _
   | refine LeO.ite ?_ ?_
   | refine LeO.bind ?_ (fun _ => ?_)
  ·intro y0 y1 y2 y3 y4 y5 y6 y7 y8 y9 y10 y11 y12 y13 y14 y15 y16 y17 y18 y19 y20 y21
   unfold gram_made.l3
   repeat' first
   | (with_reducible exact ih0 _ _ _ _ _ _ _)
   | (with_reducible exact ih1 _ _ _ _ _ _ _ _ _ _ _)
   | (with_reducible exact ih2 _ _ _ _ _ _ _ _ _ _ _ _ _ _ _ _)
   | (with_reducible exact ih3 _ _ _ _ _ _ _ _ _ _ _ _ _ _ _ _ _ _ _ _ _ _)
   | (with_reducible exact gram_symbols.mono _ _ _ _)
   | (with_reducible exact LeO.refl _)
   | (with_reducible exact LeO.none _)
   | (with_reducible refine LeO.ite ?_ ?_)
   | (with_reducible refine LeO.bind ?_ (fun _ => ?_))
   | exact ih0 _ _ _ _ _ _ _
   | exact ih1 _ _ _ _ _ _ _ _ _ _ _
   | exact ih2 _ _ _ _ _ _ _ _ _ _ _ _ _ _ _ _
   | exact ih3 _ _ _ _ _ _ _ _ _ _ _ _ _ _ _ _ _ _ _ _ _ _
   | exact gram_symbols.mono _ _ _ _
   | exact LeO.none _
   | refine LeO.ite ?_ ?_
   | refine LeO.bind ?_ (fun _ => ?_)
theorem gram_made.mono : ∀ a0 a1 a2 k, LeO (gram_made.f k a0 a1 a2) (gram_made.f (k + 1) a0 a1 a2) := by
 intro a0 a1 a2 k
 obtain ⟨ih0, ih1, ih2, ih3⟩ := gram_made.mono_l k
 unfold gram_made.f
 repeat' first
   | (with_reducible exact ih0 _ _ _ _ _ _ _)
   | (with_reducible exact ih1 _ _ _ _ _ _ _ _ _ _ _)
   | (with_reducible exact ih2 _ _ _ _ _ _ _ _ _ _ _ _ _ _ _ _)
   | (with_reducible exact ih3 _ _ _ _ _ _ _ _ _ _ _ _ _ _ _ _ _ _ _ _ _ _)
   | (with_reducible exact gram_symbols.mono _ _ _ _)
   | (with_reducible exact LeO.refl _)
   | (with_reducible exact LeO.none _)
   | (with_reducible refine LeO.ite ?_ ?_)
   | (with_reducible refine LeO.bind ?_ (fun _ => ?_))
   | exact ih0 _ _ _ _ _ _ _
   | exact ih1 _ _ _ _ _ _ _ _ _ _ _
   | exact ih2 _ _ _ _ _ _ _ _ _ _ _ _ _ _ _ _
   | exact ih3 _ _ _ _ _ _ _ _ _ _ _ _ _ _ _ _ _ _ _ _ _ _
   | exact gram_symbols.mono _ _ _ _
   | exact LeO.none _
   | refine LeO.ite ?_ ?_
   | refine LeO.bind ?_ (fun _ => ?_)
def gram_made.T17 : Bool × List (List Nat × List Nat) := (true, [([], []), ([0], [0]), ([], []), ([2], [2]), ([], []), ([3, 4], [3, 4]), ([], []), ([5, 6], [5, 6]), ([1, 7, 7], [1, 7]), ([0, 1, 2, 3, 4, 5, 6, 7, 8], []), ([9, 8, 8, 0, 1, 2, 3, 4, 5, 6, 7, 8], [8, 9])])
def gram_made.B17 : List Nat := [0, 1, 0, 4, 0, 28, 0, 124, 255, 511, 1023]
theorem gram_made.tab17 : rtab .any (opsOf Try.f27 17) = gram_made.T17 := by kernel_rfl
theorem gram_made.bits17 : waitsOk gram_made.T17.2 gram_made.B17 = true := by kernel_rfl
set_option maxHeartbeats 8000000 in
set_option maxRecDepth 100000 in
theorem gram_made.calls (k : Nat) (gm gr : Nat) (A0 : Option Addr) (c0 : Nat) (l0 : List ByteArray) (A1 : Option Addr) (c1 : Nat) (l1 : List (S45)) (a2 : MapP) (r1 : Int) (r2 : List ByteArray) (r3 : List (S51)) (w : World) (hr0 : Kd.C Kd.string w A0 l0.length l0) (hc0 : l0.length ≤ c0) (hr1 : Kd.C k45 w A1 l1.length l1) (hc1 : l1.length ≤ c1) (hM : MapIs w gm (mapVals a2)) (hG0 : w.cell? ⟨gr, 0, none⟩ = some (.slice A0 l0.length c0)) (hG1 : w.cell? ⟨gr, 1, none⟩ = some (.slice A1 l1.length c1)) (h : gram_made.f k l0 l1 a2 = some (r1, r2, r3)) :
  Calls Try.prog 27 #[.pointer (some ⟨gr, 0, none⟩), .map (some gm)] w fun e w' => ∃ v1_ v2_ : Value, e = .returned (.agg #[.int .i64 r1, v1_, v2_]) ∧ Kd.R Kd.string 9 w' w.heap.size (fun _ => True) v1_ r2 ∧ Kd.R k51 51 w' w.heap.size (fun _ => True) v2_ r3 ∧ Below w.heap.size w w' := by
 have hu28 := Try.underlying28
 have hu45 := Try.underlying45
 have hu51 := Try.underlying51
 have hu64 := Try.underlying64
 have hu54 := Try.underlying54
 obtain ⟨i0_, hi0_, hz0_, hz1_, hz2_⟩ := info_parts (show (Try.prog.info? 3).map (fun i => (i.zero, i.size, i.bytes)) = some (some (.int .i64 0), 1, 8) from by kernel_rfl)
 have HM := Aside0.mk hM
 have HG0 := Aside0.mk hG0
 have HG1 := Aside0.mk hG1
 have hgl := Aside0.mk (World.block_lt_of_cell? w _ hG0)
 clear hM hG0 hG1
 have HR0 := Aside0.mk hr0
 have HC0 := Aside0.mk hc0
 clear hr0 hc0
 have HR1 := Aside0.mk hr1
 have HC1 := Aside0.mk hc1
 clear hr1 hc1
 have HB := Aside0.mk (Below.refl w.heap.size w)
 have H : (if 0 < (l0.length : Int) then (gram_made.l0 k a2 l1 (l1.length : Int) 0 (mget a2 (rdOf ByteArray.empty l0 0)) ([] : List ByteArray) ([] : List (S51))) else (none)) = some (r1, r2, r3) := h
 clear h
 by_cases c4 : 0 < (l0.length : Int)
 ·rw [if_pos c4] at H
  have c4b0 : decide (0 < (l0.length : Int)) = true := decide_eq_true c4
  have c4b1 : decide (0 < l0.length) = true := decide_eq_true (by omega)
  clear c4
  have H' := Aside0.mk H
  clear H
  go_enter Try.func27, Try.ntmps27
  go_wp2_with (first | ((with_reducible refine gate_dst (N := 4) rfl ?_); refine box_event ?hg (N := 4) ?hd (cs := #[.int .i64 0, .slice none 0 0, .slice none 0 0]) (t := 28) ?hr ?_; (case hd => rfl); (case hg => rfl); (case hr => first | (go_simp; done) | (go_simp; rfl)); intro gb135 hg w5 hbox hb; have n0_ := Aside0.mk (below_step (by repeat (first | (with_reducible first | exact HB.out | apply below_alloc | apply pw_below_drewN | apply below_drew1) | exact HB.out)) hb); have n1_ := Aside0.mk (hbox); have n2_ := Aside0.mk ((by rw [hg]; exact (below_size (by repeat (first | (with_reducible first | exact HB.out | apply below_alloc | apply pw_below_drewN | apply below_drew1) | exact HB.out))) : w.heap.size ≤ gb135)); have n3_ := Aside0.mk ((by rw [hg]; exact (below_size (by repeat (first | (with_reducible first | exact HB.out | apply below_alloc | apply pw_below_drewN | apply below_drew1) | exact HB.out))) : w.heap.size ≤ gb135)); clear HB; have HB := n0_; have BK135 := n1_; have GW135 := n2_; have GE135 := n3_; clear n0_ n1_ n2_ n3_; clear hb hbox hg; have hlk := look_int (P := Try.prog) Try.underlying69 Try.underlying9 hi0_ hz0_ (mapIs_step HM.out HB.out) (rdOf ByteArray.empty l0 0); have hgr0 := pw_cell_below HB.out HG0.out; have p136 : 0 ≤ (0 : Int) := (by omega); have q136 : 0 < (l0.length : Int) := of_decide_eq_true (by first | (with_reducible assumption) | assumption); obtain ⟨ad136, e136, hx136_0⟩ := Kd.at_string HR0.out 0 p136 q136; cases e136; have qi136 : (0 < l0.length) = True := eq_true (by omega); (try rw [show ((0 : Int)).toNat = 0 from rfl] at hx136_0); (try rw [Addr.add_zero'] at hx136_0); replace hx136_0 := (HB.out.cell (World.block_lt_of_cell? w _ hx136_0)).trans hx136_0; replace p136 := eq_true p136; replace q136 := eq_true q136) | ((with_reducible refine gate_dst (N := 5) rfl ?_); refine box_event ?hg (N := 5) ?hd (cs := #[.int .i64 0, .slice none 0 0, .slice none 0 0]) (t := 28) ?hr ?_; (case hd => rfl); (case hg => rfl); (case hr => first | (go_simp; done) | (go_simp; rfl)); intro gb137 hg w6 hbox hb; have n0_ := Aside0.mk (blk_below (g := gb135) (o := .cells #[.int .i64 0, .slice none 0 0, .slice none 0 0] 28 (0, 0)) (by (with_reducible repeat (first | refine blk_drewN ?_ _ | refine blk_drew ?_ | refine blk_alloc ?_ _)); exact BK135.out) hb); have n1_ := Aside0.mk (below_step (by repeat (first | (with_reducible first | exact HB.out | apply below_alloc | apply pw_below_drewN | apply below_drew1 | refine below_set ?_ GE135.out) | exact HB.out)) hb); have n2_ := Aside0.mk (hbox); have n3_ := Aside0.mk ((by rw [hg]; exact (below_size (by repeat (first | (with_reducible first | exact HB.out | apply below_alloc | apply pw_below_drewN | apply below_drew1 | refine below_set ?_ GE135.out) | exact HB.out))) : w.heap.size ≤ gb137)); have n4_ := Aside0.mk ((by rw [hg]; exact (below_size (by repeat (first | (with_reducible first | exact HB.out | apply below_alloc | apply pw_below_drewN | apply below_drew1 | refine below_set ?_ GE135.out) | exact HB.out))) : w.heap.size ≤ gb137)); have n5_ := Aside0.mk ((by rw [hg]; exact Nat.ne_of_lt (blk_lt (g := gb135) (o := .cells #[.int .i64 0, .slice none 0 0, .slice none 0 0] 28 (0, 0)) (by (with_reducible repeat (first | refine blk_drewN ?_ _ | refine blk_drew ?_ | refine blk_alloc ?_ _)); exact BK135.out)) : gb135 ≠ gb137)); have n6_ := Aside0.mk ((by rw [hg]; exact Nat.ne_of_gt (blk_lt (g := gb135) (o := .cells #[.int .i64 0, .slice none 0 0, .slice none 0 0] 28 (0, 0)) (by (with_reducible repeat (first | refine blk_drewN ?_ _ | refine blk_drew ?_ | refine blk_alloc ?_ _)); exact BK135.out)) : gb137 ≠ gb135)); clear BK135; clear HB; have BK135 := n0_; have HB := n1_; have BK137 := n2_; have GW137 := n3_; have GE137 := n4_; have NB135_137 := n5_; have NB137_135 := n6_; clear n0_ n1_ n2_ n3_ n4_ n5_ n6_; clear hb hbox hg; have hgr1 := pw_cell_below HB.out HG1.out; have hgn : gr ≠ gb137 := (fun e_ => Nat.lt_irrefl _ (Nat.lt_of_lt_of_le (e_ ▸ hgl.out) GE137.out)); have hgn2 : gb137 ≠ gr := (fun e_ => hgn e_.symm); have hnb7 := NB137_135.out; have hnc7 := NB135_137.out; have hcz8_0 : w6.cell? ⟨gb137, 0, none⟩ = some (.int .i64 0) := (blk_cell BK137.out 0).trans rfl; have hcz8_1 : w6.cell? ⟨gb137, 1, none⟩ = some (.slice none 0 0) := (blk_cell BK137.out 1).trans rfl; have hcz8_2 : w6.cell? ⟨gb137, 2, none⟩ = some (.slice none 0 0) := (blk_cell BK137.out 2).trans rfl; have hfz8_0 := blk_frozen BK137.out 0; have hfz8_1 := blk_frozen BK137.out 1; have hfz8_2 := blk_frozen BK137.out 2))
  go_loopg [29] k (fun kq v29 w' => ∃ (x29_1 : Int) (x138001_1 : List ByteArray) (x138002_1 : List (S51)) (u138001 : Value) (u138002 : Value), v29 = .int .i64 x29_1 ∧ Aside0 (gram_made.l0 kq a2 l1 (l1.length : Int) x29_1 (mget a2 (rdOf ByteArray.empty l0 0)) x138001_1 x138002_1 = some (r1, r2, r3)) ∧ Aside0 (kq ≤ k) ∧ Aside0 (Kd.R Kd.string 9 w' w.heap.size (fun _ => True) u138001 x138001_1) ∧ Aside0 (Kd.R k51 51 w' w.heap.size (fun _ => True) u138002 x138002_1) ∧ Aside0 (w'.heap[gb135]? = some (.cells #[.int .i64 0, (.slice none 0 0), (.slice none 0 0)] 28 (0, 0))) ∧ Aside0 (w'.heap[gb137]? = some (.cells #[.int .i64 (mget a2 (rdOf ByteArray.empty l0 0)), u138001, u138002] 28 (0, 0))) ∧ Aside0 (Below w.heap.size w w'))
  case atStart => exact ⟨(0), (([] : List ByteArray)), (([] : List (S51))), (.slice none 0 0), (.slice none 0 0), (by first | rfl | (simp; done) | (simp [i64_w]; done) | (simp [*]; done) | (simp [*, i64_w]; done) | (simp [*]; unfold wrap64; omega)), H', ⟨Nat.le_refl _⟩, ⟨by first | exact Kd.R_nil _ _ _ _ _ | exact Kd.N_nil _ _ _ _ _ | exact Kd.V_nil _ _ _ _ _ | exact Kd.Q_nil _ _ _ _ _ | exact Kd.S_nil _ _ _ _ _⟩, ⟨by first | exact Kd.R_nil _ _ _ _ _ | exact Kd.N_nil _ _ _ _ _ | exact Kd.V_nil _ _ _ _ _ | exact Kd.Q_nil _ _ _ _ _ | exact Kd.S_nil _ _ _ _ _⟩, ⟨by (with_reducible repeat (first | refine blk_drewN ?_ _ | refine blk_drew ?_ | refine blk_alloc ?_ _)); refine blk_far ?_ NB135_137.out _; (with_reducible repeat (first | refine blk_drewN ?_ _ | refine blk_drew ?_ | refine blk_alloc ?_ _)); refine blk_far ?_ NB135_137.out _; (with_reducible repeat (first | refine blk_drewN ?_ _ | refine blk_drew ?_ | refine blk_alloc ?_ _)); refine blk_far ?_ NB135_137.out _; (with_reducible repeat (first | refine blk_drewN ?_ _ | refine blk_drew ?_ | refine blk_alloc ?_ _)); exact BK135.out⟩, ⟨by (with_reducible repeat (first | refine blk_drewN ?_ _ | refine blk_drew ?_ | refine blk_alloc ?_ _)); refine blk_put (cs := #[.int .i64 (mget a2 (rdOf ByteArray.empty l0 0)), .slice none 0 0, .slice none 0 0]) ?_ 2 _ rfl; (with_reducible repeat (first | refine blk_drewN ?_ _ | refine blk_drew ?_ | refine blk_alloc ?_ _)); refine blk_put (cs := #[.int .i64 (mget a2 (rdOf ByteArray.empty l0 0)), .slice none 0 0, .slice none 0 0]) ?_ 1 _ rfl; (with_reducible repeat (first | refine blk_drewN ?_ _ | refine blk_drew ?_ | refine blk_alloc ?_ _)); refine blk_put (cs := #[.int .i64 0, .slice none 0 0, .slice none 0 0]) ?_ 0 _ rfl; (with_reducible repeat (first | refine blk_drewN ?_ _ | refine blk_drew ?_ | refine blk_alloc ?_ _)); exact BK137.out⟩, ⟨by repeat (first | (with_reducible first | exact HB.out | apply below_alloc | apply pw_below_drewN | apply below_drew1 | refine below_set ?_ GE135.out | refine below_set ?_ GE137.out) | exact HB.out)⟩⟩
  case round =>
   clear H'
   try clear c1
   try clear p1
   try clear q1
   try clear hx1
   try clear qi1
   try clear c2
   try clear p2
   try clear c4
   try clear c4b0
   try clear c4b1
   try clear c7
   try clear hcz8_0
   try clear hcz8_1
   try clear hcz8_2
   try clear hfz8_0
   try clear hfz8_1
   try clear hfz8_2
   try clear hx136_0
   try clear p136
   try clear q136
   obtain ⟨x29_1, x138001_1, x138002_1, u138001, u138002, rfl, HA, HK1, HO_138001, HO_138002, BK135, BK137, HB⟩ := hrel
   cases gk with
   | zero => exact absurd HA.out (by simp [gram_made.l0])
   | succ k1 =>
    have H := HA.out
    clear HA
    simp only [gram_made.l0] at H
    by_cases c9 : x29_1 < (l1.length : Int)
    ·rw [if_pos c9] at H
     have c9b0 : decide (x29_1 < (l1.length : Int)) = true := decide_eq_true c9
     clear c9
     by_cases c10 : 0 ≤ x29_1
     ·rw [if_pos c10] at H
      have c10b0 : decide (0 ≤ x29_1) = true := decide_eq_true c10
      clear c10
      by_cases c11 : x29_1 < (l1.length : Int)
      ·rw [if_pos c11] at H
       have c11b0 : decide (x29_1 < (l1.length : Int)) = true := decide_eq_true c11
       clear c11
       by_cases c12 : x138001_1.length < 8796093022208
       ·rw [if_pos c12] at H
        have LMc12 := Aside0.mk c12
        clear c12
        obtain ⟨y140, hy140⟩ : ∃ y_ : List ByteArray, y_ = (x138001_1 ++ [(rd_T45 l1 x29_1).f0]) := ⟨_, rfl⟩
        replace H : (gram_made.l1 k1 a2 x29_1 l1 (l1.length : Int) x29_1 ((rd_T45 l1 x29_1).f1) (((rd_T45 l1 x29_1).f1).length : Int) 0 (mget a2 (rdOf ByteArray.empty l0 0)) y140 x138002_1) = some (r1, r2, r3) := by first | (rw [hy140]; with_reducible exact H) | (have H2_ := (Option.bind_some _ _).symm.trans H; rw [hy140]; with_reducible exact H2_) | (have H2_ := (Option.bind_some _ _).symm.trans H; with_reducible exact H2_) | with_reducible exact H | (rw [hy140]; exact H) | exact H
        have Ny140 := Aside0.mk hy140
        clear hy140
        have H' := Aside0.mk H
        clear H
        have p138 : 0 ≤ (x29_1 : Int) := of_decide_eq_true (by first | (with_reducible assumption) | assumption)
        have q138 : x29_1 < (l1.length : Int) := of_decide_eq_true (by first | (with_reducible assumption) | assumption)
        obtain ⟨ad138, A138_1, c138_1, e138, hx138_0, hx138_1, hl138_1, hi138_1⟩ := at_T45 HR1.out x29_1 p138 q138
        cases e138
        replace hx138_0 := (HB.out.cell (World.block_lt_of_cell? w _ hx138_0)).trans hx138_0
        replace hx138_1 := (HB.out.cell (World.block_lt_of_cell? w _ hx138_1)).trans hx138_1
        have HR138_1 := Aside0.mk hi138_1
        have HC138_1 := Aside0.mk hl138_1
        clear hi138_1 hl138_1
        replace p138 := eq_true p138
        replace q138 := eq_true q138
        go_wp2_with (first | ((with_reducible refine gate_dst (N := 7) rfl ?_); refine box_event ?hg (N := 7) ?hd (cs := #[.string (⟨#[]⟩ : ByteArray), .slice none 0 0]) (t := 45) ?hr ?_; (case hd => rfl); (case hg => rfl); (case hr => first | (go_simp; done) | (go_simp; rfl)); intro gb139 hg w13 hbox hb; have n0_ := Aside0.mk (Kd.R_below (by (with_reducible repeat (first | apply Kd.R_alloc | apply Kd.R_drewN | apply Kd.R_drew)); exact HO_138001.out) hb); have n1_ := Aside0.mk (Kd.R_below (by (with_reducible repeat (first | apply Kd.R_alloc | apply Kd.R_drewN | apply Kd.R_drew)); exact HO_138002.out) hb); have n2_ := Aside0.mk (blk_below (g := gb135) (o := .cells #[.int .i64 0, .slice none 0 0, .slice none 0 0] 28 (0, 0)) (by (with_reducible repeat (first | refine blk_drewN ?_ _ | refine blk_drew ?_ | refine blk_alloc ?_ _)); exact BK135.out) hb); have n3_ := Aside0.mk (blk_below (g := gb137) (o := .cells #[.int .i64 (mget a2 (rdOf ByteArray.empty l0 0)), u138001, u138002] 28 (0, 0)) (by (with_reducible repeat (first | refine blk_drewN ?_ _ | refine blk_drew ?_ | refine blk_alloc ?_ _)); exact BK137.out) hb); have n4_ := Aside0.mk (below_step (by repeat (first | (with_reducible first | exact HB.out | apply below_alloc | apply pw_below_drewN | apply below_drew1 | refine below_set ?_ GE135.out | refine below_set ?_ GE137.out) | exact HB.out)) hb); have n5_ := Aside0.mk (hbox); have n6_ := Aside0.mk ((by rw [hg]; exact (below_size (by repeat (first | (with_reducible first | exact HB.out | apply below_alloc | apply pw_below_drewN | apply below_drew1 | refine below_set ?_ GE135.out | refine below_set ?_ GE137.out) | exact HB.out))) : w.heap.size ≤ gb139)); have n7_ := Aside0.mk ((by rw [hg]; exact (below_size (by repeat (first | (with_reducible first | exact HB.out | apply below_alloc | apply pw_below_drewN | apply below_drew1 | refine below_set ?_ GE135.out | refine below_set ?_ GE137.out) | exact HB.out))) : w.heap.size ≤ gb139)); have n8_ := Aside0.mk ((by rw [hg]; exact Nat.ne_of_lt (blk_lt (g := gb135) (o := .cells #[.int .i64 0, .slice none 0 0, .slice none 0 0] 28 (0, 0)) (by (with_reducible repeat (first | refine blk_drewN ?_ _ | refine blk_drew ?_ | refine blk_alloc ?_ _)); exact BK135.out)) : gb135 ≠ gb139)); have n9_ := Aside0.mk ((by rw [hg]; exact Nat.ne_of_gt (blk_lt (g := gb135) (o := .cells #[.int .i64 0, .slice none 0 0, .slice none 0 0] 28 (0, 0)) (by (with_reducible repeat (first | refine blk_drewN ?_ _ | refine blk_drew ?_ | refine blk_alloc ?_ _)); exact BK135.out)) : gb139 ≠ gb135)); have n10_ := Aside0.mk ((by rw [hg]; exact Nat.ne_of_lt (blk_lt (g := gb137) (o := .cells #[.int .i64 (mget a2 (rdOf ByteArray.empty l0 0)), u138001, u138002] 28 (0, 0)) (by (with_reducible repeat (first | refine blk_drewN ?_ _ | refine blk_drew ?_ | refine blk_alloc ?_ _)); exact BK137.out)) : gb137 ≠ gb139)); have n11_ := Aside0.mk ((by rw [hg]; exact Nat.ne_of_gt (blk_lt (g := gb137) (o := .cells #[.int .i64 (mget a2 (rdOf ByteArray.empty l0 0)), u138001, u138002] 28 (0, 0)) (by (with_reducible repeat (first | refine blk_drewN ?_ _ | refine blk_drew ?_ | refine blk_alloc ?_ _)); exact BK137.out)) : gb139 ≠ gb137)); clear HO_138001; clear HO_138002; clear BK135; clear BK137; clear HB; have HO_138001 := n0_; have HO_138002 := n1_; have BK135 := n2_; have BK137 := n3_; have HB := n4_; have BK139 := n5_; have GW139 := n6_; have GE139 := n7_; have NB135_139 := n8_; have NB139_135 := n9_; have NB137_139 := n10_; have NB139_137 := n11_; clear n0_ n1_ n2_ n3_ n4_ n5_ n6_ n7_ n8_ n9_ n10_ n11_; clear hb hbox hg; have hnb14 := NB139_135.out; have hnc14 := NB135_139.out; have hnb15 := NB139_137.out; have hnc15 := NB137_139.out; have hcz16_0 : w13.cell? ⟨gb139, 0, none⟩ = some (.string (⟨#[]⟩ : ByteArray)) := (blk_cell BK139.out 0).trans rfl; have hcz16_1 : w13.cell? ⟨gb139, 1, none⟩ = some (.slice none 0 0) := (blk_cell BK139.out 1).trans rfl; have hfz16_0 := blk_frozen BK139.out 0; have hfz16_1 := blk_frozen BK139.out 1; have hnb17 := NB137_135.out; have hnc17 := NB135_137.out; have hcz18_0 : w13.cell? ⟨gb137, 0, none⟩ = some (.int .i64 (mget a2 (rdOf ByteArray.empty l0 0))) := (blk_cell BK137.out 0).trans rfl; have hcz18_1 : w13.cell? ⟨gb137, 1, none⟩ = some (u138001) := (blk_cell BK137.out 1).trans rfl; have hcz18_2 : w13.cell? ⟨gb137, 2, none⟩ = some (u138002) := (blk_cell BK137.out 2).trans rfl; have hfz18_0 := blk_frozen BK137.out 0; have hfz18_1 := blk_frozen BK137.out 1; have hfz18_2 := blk_frozen BK137.out 2) | ((with_reducible refine gate_builtin (b := .append) (xs := #[.tmp 35, .tmp 38]) rfl ?_); at_builtin; refine Kd.R_append Kd.string (w0 := w) w.heap.size rfl (.tmp 35) (.tmp 38) 22 9 (.string ⟨#[]⟩) 16 rfl Try.underlying22 info9 rfl (by decide) (by omega) u138001 x138001_1 ((rd_T45 l1 x29_1).f0) [.string ((rd_T45 l1 x29_1).f0)] (fun _ => True) (fun _ => False) rfl (by first | (go_simp; done) | (go_simp; rfl)) ?aP (fun _ hk => hk.elim) ?aF ?aO ?aB ?aS ?aL ?_; (case aP => exact rfl); (case aB => exact (by repeat (first | (with_reducible first | exact HB.out | apply below_alloc | apply pw_below_drewN | apply below_drew1 | refine below_set ?_ GE135.out | refine below_set ?_ GE137.out | refine below_set ?_ GE139.out) | exact HB.out))); (case aF => exact (fun _ _ => trivial)); (case aO => exact (by (with_reducible repeat (first | apply Kd.R_alloc | apply Kd.R_drewN | apply Kd.R_drew)); exact Kd.R_mono (Kd.R_far (p := ⟨gb139, 1, none⟩) (Kd.R_far (p := ⟨gb139, 0, none⟩) (Kd.R_types HO_138001.out BK139.out (by decide)) (fun _ hk => hk.2) (.string ((rd_T45 l1 x29_1).f0))) (fun _ hk => hk.2) (.slice A138_1 ((rd_T45 l1 x29_1).f1).length c138_1)) (fun _ hk => trivial))); (case aS => exact (below_size (by repeat (first | (with_reducible first | exact HB.out | apply below_alloc | apply pw_below_drewN | apply below_drew1 | refine below_set ?_ GE135.out | refine below_set ?_ GE137.out | refine below_set ?_ GE139.out) | exact HB.out)))); (case aL => have := LMc12.out; omega); intro v141 w19 ho hb hg hat; rw [← Ny140.out] at ho; have n0_ := Aside0.mk (Kd.R_over' (by (with_reducible repeat (first | apply Kd.R_alloc | apply Kd.R_drewN | apply Kd.R_drew)); exact (Kd.R_mono (Kd.R_far (p := ⟨gb139, 1, none⟩) (Kd.R_far (p := ⟨gb139, 0, none⟩) (Kd.R_types HO_138002.out BK139.out (by decide)) (fun _ hk => hk.2) (.string ((rd_T45 l1 x29_1).f0))) (fun _ hk => hk.2) (.slice A138_1 ((rd_T45 l1 x29_1).f1).length c138_1)) (fun _ h_ => h_.1))) (Kd.R_typed (by (with_reducible repeat (first | apply Kd.R_alloc | apply Kd.R_drewN | apply Kd.R_drew)); exact (Kd.R_mono (Kd.R_far (p := ⟨gb139, 1, none⟩) (Kd.R_far (p := ⟨gb139, 0, none⟩) (Kd.R_types HO_138001.out BK139.out (by decide)) (fun _ hk => hk.2) (.string ((rd_T45 l1 x29_1).f0))) (fun _ hk => hk.2) (.slice A138_1 ((rd_T45 l1 x29_1).f1).length c138_1)) (fun _ h_ => h_.1)))) (by decide) hg); have n1_ := Aside0.mk (blk_grown (g := gb135) (o := .cells #[.int .i64 0, .slice none 0 0, .slice none 0 0] 28 (0, 0)) (by (with_reducible repeat (first | refine blk_drewN ?_ _ | refine blk_drew ?_ | refine blk_alloc ?_ _)); refine blk_far ?_ NB135_139.out _; (with_reducible repeat (first | refine blk_drewN ?_ _ | refine blk_drew ?_ | refine blk_alloc ?_ _)); refine blk_far ?_ NB135_139.out _; (with_reducible repeat (first | refine blk_drewN ?_ _ | refine blk_drew ?_ | refine blk_alloc ?_ _)); exact BK135.out) hg (Kd.R_ne HO_138001.out BK135.out (by decide))); have n2_ := Aside0.mk (blk_grown (g := gb137) (o := .cells #[.int .i64 (mget a2 (rdOf ByteArray.empty l0 0)), u138001, u138002] 28 (0, 0)) (by (with_reducible repeat (first | refine blk_drewN ?_ _ | refine blk_drew ?_ | refine blk_alloc ?_ _)); refine blk_far ?_ NB137_139.out _; (with_reducible repeat (first | refine blk_drewN ?_ _ | refine blk_drew ?_ | refine blk_alloc ?_ _)); refine blk_far ?_ NB137_139.out _; (with_reducible repeat (first | refine blk_drewN ?_ _ | refine blk_drew ?_ | refine blk_alloc ?_ _)); exact BK137.out) hg (Kd.R_ne HO_138001.out BK137.out (by decide))); have n3_ := Aside0.mk (blk_grown (g := gb139) (o := .cells #[.string ((rd_T45 l1 x29_1).f0), .slice A138_1 ((rd_T45 l1 x29_1).f1).length c138_1] 45 (0, 0)) (by (with_reducible repeat (first | refine blk_drewN ?_ _ | refine blk_drew ?_ | refine blk_alloc ?_ _)); refine blk_put (cs := #[.string ((rd_T45 l1 x29_1).f0), .slice none 0 0]) ?_ 1 _ rfl; (with_reducible repeat (first | refine blk_drewN ?_ _ | refine blk_drew ?_ | refine blk_alloc ?_ _)); refine blk_put (cs := #[.string (⟨#[]⟩ : ByteArray), .slice none 0 0]) ?_ 0 _ rfl; (with_reducible repeat (first | refine blk_drewN ?_ _ | refine blk_drew ?_ | refine blk_alloc ?_ _)); exact BK139.out) hg (Kd.R_ne HO_138001.out BK139.out (by decide))); have n4_ := Aside0.mk (hb); have n5_ := Aside0.mk (ho); clear HO_138002; clear BK135; clear BK137; clear BK139; clear HB; clear HO_138001; have HO_138002 := n0_; have BK135 := n1_; have BK137 := n2_; have BK139 := n3_; have HB := n4_; have HO142 := n5_; clear n0_ n1_ n2_ n3_ n4_ n5_; clear ho hb hg hat; obtain ⟨Ao20, co20, eo20⟩ := Kd.R_slice HO142.out; subst eo20; have hcz21_0 : w19.cell? ⟨gb137, 0, none⟩ = some (.int .i64 (mget a2 (rdOf ByteArray.empty l0 0))) := (blk_cell BK137.out 0).trans rfl; have hcz21_1 : w19.cell? ⟨gb137, 1, none⟩ = some (u138001) := (blk_cell BK137.out 1).trans rfl; have hcz21_2 : w19.cell? ⟨gb137, 2, none⟩ = some (u138002) := (blk_cell BK137.out 2).trans rfl; have hfz21_0 := blk_frozen BK137.out 0; have hfz21_1 := blk_frozen BK137.out 1; have hfz21_2 := blk_frozen BK137.out 2; have hcz22_0 : w19.cell? ⟨gb139, 0, none⟩ = some (.string ((rd_T45 l1 x29_1).f0)) := (blk_cell BK139.out 0).trans rfl; have hcz22_1 : w19.cell? ⟨gb139, 1, none⟩ = some (.slice A138_1 ((rd_T45 l1 x29_1).f1).length c138_1) := (blk_cell BK139.out 1).trans rfl; have hfz22_0 := blk_frozen BK139.out 0; have hfz22_1 := blk_frozen BK139.out 1))
        go_loopg [44] k1 (fun kq v44 w' => ∃ (x44_2 : Int) (x138002_2 : List (S51)) (u138002 : Value), v44 = .int .i64 x44_2 ∧ Aside0 (gram_made.l1 kq a2 x29_1 l1 (l1.length : Int) x29_1 ((rd_T45 l1 x29_1).f1) (((rd_T45 l1 x29_1).f1).length : Int) x44_2 (mget a2 (rdOf ByteArray.empty l0 0)) y140 x138002_2 = some (r1, r2, r3)) ∧ Aside0 (kq ≤ k1) ∧ Aside0 (Kd.R Kd.string 9 w' w.heap.size (fun _ => True) (.slice Ao20 y140.length co20) y140) ∧ Aside0 (Kd.R k51 51 w' w.heap.size (fun _ => True) u138002 x138002_2) ∧ Aside0 (w'.heap[gb135]? = some (.cells #[.int .i64 0, (.slice none 0 0), (.slice none 0 0)] 28 (0, 0))) ∧ Aside0 (w'.heap[gb137]? = some (.cells #[.int .i64 (mget a2 (rdOf ByteArray.empty l0 0)), (.slice Ao20 y140.length co20), u138002] 28 (0, 0))) ∧ Aside0 (w'.heap[gb139]? = some (.cells #[.string ((rd_T45 l1 x29_1).f0), (.slice A138_1 ((rd_T45 l1 x29_1).f1).length c138_1)] 45 (0, 0))) ∧ Aside0 (Below w.heap.size w w'))
        case atStart => exact ⟨(0), (x138002_1), (u138002), (by first | rfl | (simp; done) | (simp [i64_w]; done) | (simp [*]; done) | (simp [*, i64_w]; done) | (simp [*]; unfold wrap64; omega)), H', ⟨Nat.le_refl _⟩, ⟨by (with_reducible repeat (first | apply Kd.R_alloc | apply Kd.R_drewN | apply Kd.R_drew)); exact Kd.R_mono (Kd.R_far (p := ⟨gb137, 1, none⟩) (Kd.R_types HO142.out BK137.out (by decide)) (fun _ hk => hk.2) (.slice Ao20 y140.length co20)) (fun _ hk => trivial)⟩, ⟨by (with_reducible repeat (first | apply Kd.R_alloc | apply Kd.R_drewN | apply Kd.R_drew)); exact Kd.R_mono (Kd.R_far (p := ⟨gb137, 1, none⟩) (Kd.R_types HO_138002.out BK137.out (by decide)) (fun _ hk => hk.2) (.slice Ao20 y140.length co20)) (fun _ hk => trivial)⟩, ⟨by (with_reducible repeat (first | refine blk_drewN ?_ _ | refine blk_drew ?_ | refine blk_alloc ?_ _)); refine blk_far ?_ NB135_137.out _; (with_reducible repeat (first | refine blk_drewN ?_ _ | refine blk_drew ?_ | refine blk_alloc ?_ _)); exact BK135.out⟩, ⟨by (with_reducible repeat (first | refine blk_drewN ?_ _ | refine blk_drew ?_ | refine blk_alloc ?_ _)); refine blk_put (cs := #[.int .i64 (mget a2 (rdOf ByteArray.empty l0 0)), u138001, u138002]) ?_ 1 _ rfl; (with_reducible repeat (first | refine blk_drewN ?_ _ | refine blk_drew ?_ | refine blk_alloc ?_ _)); exact BK137.out⟩, ⟨by (with_reducible repeat (first | refine blk_drewN ?_ _ | refine blk_drew ?_ | refine blk_alloc ?_ _)); refine blk_far ?_ NB139_137.out _; (with_reducible repeat (first | refine blk_drewN ?_ _ | refine blk_drew ?_ | refine blk_alloc ?_ _)); exact BK139.out⟩, ⟨by repeat (first | (with_reducible first | exact HB.out | apply below_alloc | apply pw_below_drewN | apply below_drew1 | refine below_set ?_ GE135.out | refine below_set ?_ GE137.out | refine below_set ?_ GE139.out) | exact HB.out)⟩⟩
        case round =>
         clear H'
         try clear c1
         try clear p1
         try clear q1
         try clear hx1
         try clear qi1
         try clear c2
         try clear p2
         try clear c4
         try clear c4b0
         try clear c4b1
         try clear c7
         try clear c9
         try clear c9b0
         try clear c10
         try clear c10b0
         try clear c11
         try clear c11b0
         try clear c12
         try clear c13
         try clear p13
         try clear q13
         try clear hx13
         try clear qi13
         try clear c14
         try clear c15
         try clear c17
         try clear hcz16_0
         try clear hcz16_1
         try clear hcz18_0
         try clear hcz18_1
         try clear hcz18_2
         try clear hcz21_0
         try clear hcz21_1
         try clear hcz21_2
         try clear hcz22_0
         try clear hcz22_1
         try clear hcz8_0
         try clear hcz8_1
         try clear hcz8_2
         try clear hfz16_0
         try clear hfz16_1
         try clear hfz18_0
         try clear hfz18_1
         try clear hfz18_2
         try clear hfz21_0
         try clear hfz21_1
         try clear hfz21_2
         try clear hfz22_0
         try clear hfz22_1
         try clear hfz8_0
         try clear hfz8_1
         try clear hfz8_2
         try clear hx136_0
         try clear hx138_0
         try clear hx138_1
         try clear p1
         try clear p136
         try clear p138
         try clear p2
         try clear q1
         try clear q136
         try clear q138
         obtain ⟨x44_2, x138002_2, u138002, rfl, HA, HK2, HO_138001, HO_138002, BK135, BK137, BK139, HB⟩ := hrel
         cases gk with
         | zero => exact absurd HA.out (by simp [gram_made.l1])
         | succ k2 =>
          have H := HA.out
          clear HA
          simp only [gram_made.l1] at H
          by_cases c23 : x44_2 < (((rd_T45 l1 x29_1).f1).length : Int)
          ·rw [if_pos c23] at H
           have c23b0 : decide (x44_2 < (((rd_T45 l1 x29_1).f1).length : Int)) = true := decide_eq_true c23
           clear c23
           by_cases c24 : 0 ≤ x44_2
           ·rw [if_pos c24] at H
            have c24b0 : decide (0 ≤ x44_2) = true := decide_eq_true c24
            clear c24
            by_cases c25 : x44_2 < (((rd_T45 l1 x29_1).f1).length : Int)
            ·rw [if_pos c25] at H
             have c25b0 : decide (x44_2 < (((rd_T45 l1 x29_1).f1).length : Int)) = true := decide_eq_true c25
             clear c25
             have H' := Aside0.mk H
             clear H
             have p143 : 0 ≤ (x44_2 : Int) := of_decide_eq_true (by first | (with_reducible assumption) | assumption)
             have q143 : x44_2 < (((rd_T45 l1 x29_1).f1).length : Int) := of_decide_eq_true (by first | (with_reducible assumption) | assumption)
             obtain ⟨ad143, A143_0, c143_0, e143, hx143_0, hl143_0, hi143_0⟩ := at_L11 HR138_1.out x44_2 p143 q143
             cases e143
             replace hx143_0 := (HB.out.cell (World.block_lt_of_cell? w _ hx143_0)).trans hx143_0
             have HR143_0 := Aside0.mk hi143_0
             have HC143_0 := Aside0.mk hl143_0
             clear hi143_0 hl143_0
             replace p143 := eq_true p143
             replace q143 := eq_true q143
             go_wp2_with (first | ((with_reducible refine gate_dst (N := 10) rfl ?_); refine box_event ?hg (N := 10) ?hd (cs := #[.int .i64 0, .slice none 0 0]) (t := 51) ?hr ?_; (case hd => rfl); (case hg => rfl); (case hr => first | (go_simp; done) | (go_simp; rfl)); intro gb144 hg w26 hbox hb; have n0_ := Aside0.mk (Kd.R_below (by (with_reducible repeat (first | apply Kd.R_alloc | apply Kd.R_drewN | apply Kd.R_drew)); exact HO_138001.out) hb); have n1_ := Aside0.mk (Kd.R_below (Kd.R_elderB (by (with_reducible repeat (first | apply Kd.R_alloc | apply Kd.R_drewN | apply Kd.R_drew)); exact HO_138002.out) gb144 (Nat.le_of_eq hg.symm)) hb); have n2_ := Aside0.mk (blk_below (g := gb135) (o := .cells #[.int .i64 0, .slice none 0 0, .slice none 0 0] 28 (0, 0)) (by (with_reducible repeat (first | refine blk_drewN ?_ _ | refine blk_drew ?_ | refine blk_alloc ?_ _)); exact BK135.out) hb); have n3_ := Aside0.mk (blk_below (g := gb137) (o := .cells #[.int .i64 (mget a2 (rdOf ByteArray.empty l0 0)), .slice Ao20 y140.length co20, u138002] 28 (0, 0)) (by (with_reducible repeat (first | refine blk_drewN ?_ _ | refine blk_drew ?_ | refine blk_alloc ?_ _)); exact BK137.out) hb); have n4_ := Aside0.mk (blk_below (g := gb139) (o := .cells #[.string ((rd_T45 l1 x29_1).f0), .slice (some ad143) ((rd_T45 l1 x29_1).f1).length c138_1] 45 (0, 0)) (by (with_reducible repeat (first | refine blk_drewN ?_ _ | refine blk_drew ?_ | refine blk_alloc ?_ _)); exact BK139.out) hb); have n5_ := Aside0.mk (below_step (by repeat (first | (with_reducible first | exact HB.out | apply below_alloc | apply pw_below_drewN | apply below_drew1 | refine below_set ?_ GE135.out | refine below_set ?_ GE137.out | refine below_set ?_ GE139.out) | exact HB.out)) hb); have n6_ := Aside0.mk (hbox); have n7_ := Aside0.mk ((by rw [hg]; exact (below_size (by repeat (first | (with_reducible first | exact HB.out | apply below_alloc | apply pw_below_drewN | apply below_drew1 | refine below_set ?_ GE135.out | refine below_set ?_ GE137.out | refine below_set ?_ GE139.out) | exact HB.out))) : w.heap.size ≤ gb144)); have n8_ := Aside0.mk ((by rw [hg]; exact (below_size (by repeat (first | (with_reducible first | exact HB.out | apply below_alloc | apply pw_below_drewN | apply below_drew1 | refine below_set ?_ GE135.out | refine below_set ?_ GE137.out | refine below_set ?_ GE139.out) | exact HB.out))) : w.heap.size ≤ gb144)); have n9_ := Aside0.mk ((by rw [hg]; exact Nat.ne_of_lt (blk_lt (g := gb135) (o := .cells #[.int .i64 0, .slice none 0 0, .slice none 0 0] 28 (0, 0)) (by (with_reducible repeat (first | refine blk_drewN ?_ _ | refine blk_drew ?_ | refine blk_alloc ?_ _)); exact BK135.out)) : gb135 ≠ gb144)); have n10_ := Aside0.mk ((by rw [hg]; exact Nat.ne_of_gt (blk_lt (g := gb135) (o := .cells #[.int .i64 0, .slice none 0 0, .slice none 0 0] 28 (0, 0)) (by (with_reducible repeat (first | refine blk_drewN ?_ _ | refine blk_drew ?_ | refine blk_alloc ?_ _)); exact BK135.out)) : gb144 ≠ gb135)); have n11_ := Aside0.mk ((by rw [hg]; exact Nat.ne_of_lt (blk_lt (g := gb137) (o := .cells #[.int .i64 (mget a2 (rdOf ByteArray.empty l0 0)), .slice Ao20 y140.length co20, u138002] 28 (0, 0)) (by (with_reducible repeat (first | refine blk_drewN ?_ _ | refine blk_drew ?_ | refine blk_alloc ?_ _)); exact BK137.out)) : gb137 ≠ gb144)); have n12_ := Aside0.mk ((by rw [hg]; exact Nat.ne_of_gt (blk_lt (g := gb137) (o := .cells #[.int .i64 (mget a2 (rdOf ByteArray.empty l0 0)), .slice Ao20 y140.length co20, u138002] 28 (0, 0)) (by (with_reducible repeat (first | refine blk_drewN ?_ _ | refine blk_drew ?_ | refine blk_alloc ?_ _)); exact BK137.out)) : gb144 ≠ gb137)); have n13_ := Aside0.mk ((by rw [hg]; exact Nat.ne_of_lt (blk_lt (g := gb139) (o := .cells #[.string ((rd_T45 l1 x29_1).f0), .slice (some ad143) ((rd_T45 l1 x29_1).f1).length c138_1] 45 (0, 0)) (by (with_reducible repeat (first | refine blk_drewN ?_ _ | refine blk_drew ?_ | refine blk_alloc ?_ _)); exact BK139.out)) : gb139 ≠ gb144)); have n14_ := Aside0.mk ((by rw [hg]; exact Nat.ne_of_gt (blk_lt (g := gb139) (o := .cells #[.string ((rd_T45 l1 x29_1).f0), .slice (some ad143) ((rd_T45 l1 x29_1).f1).length c138_1] 45 (0, 0)) (by (with_reducible repeat (first | refine blk_drewN ?_ _ | refine blk_drew ?_ | refine blk_alloc ?_ _)); exact BK139.out)) : gb144 ≠ gb139)); clear HO_138001; clear HO_138002; clear BK135; clear BK137; clear BK139; clear HB; have HO_138001 := n0_; have HO_138002 := n1_; have BK135 := n2_; have BK137 := n3_; have BK139 := n4_; have HB := n5_; have BK144 := n6_; have GW144 := n7_; have GE144 := n8_; have NB135_144 := n9_; have NB144_135 := n10_; have NB137_144 := n11_; have NB144_137 := n12_; have NB139_144 := n13_; have NB144_139 := n14_; clear n0_ n1_ n2_ n3_ n4_ n5_ n6_ n7_ n8_ n9_ n10_ n11_ n12_ n13_ n14_; clear hb hbox hg; have hnb27 := NB144_135.out; have hnc27 := NB135_144.out; have hnb28 := NB144_137.out; have hnc28 := NB137_144.out; have hnb29 := NB144_139.out; have hnc29 := NB139_144.out; have hcz30_0 : w26.cell? ⟨gb144, 0, none⟩ = some (.int .i64 0) := (blk_cell BK144.out 0).trans rfl; have hcz30_1 : w26.cell? ⟨gb144, 1, none⟩ = some (.slice none 0 0) := (blk_cell BK144.out 1).trans rfl; have hfz30_0 := blk_frozen BK144.out 0; have hfz30_1 := blk_frozen BK144.out 1))
             go_loopg [52] k2 (fun kq v52 w' => ∃ (x52_3 : Int) (x145001_3 : List (S54)) (u145001 : Value), v52 = .int .i64 x52_3 ∧ Aside0 (gram_made.l2 kq a2 x29_1 l1 (l1.length : Int) x29_1 ((rd_T45 l1 x29_1).f1) (((rd_T45 l1 x29_1).f1).length : Int) x44_2 (rd_L11 ((rd_T45 l1 x29_1).f1) x44_2) ((rd_L11 ((rd_T45 l1 x29_1).f1) x44_2).length : Int) x52_3 (mget a2 (rdOf ByteArray.empty l0 0)) y140 x138002_2 x29_1 x145001_3 = some (r1, r2, r3)) ∧ Aside0 (kq ≤ k2) ∧ Aside0 (Kd.R Kd.string 9 w' w.heap.size (fun _ => True) (.slice Ao20 y140.length co20) y140) ∧ Aside0 (Kd.R k51 51 w' w.heap.size (fun k_ => some k_ ≠ (u145001 : Value).ownBlock ∧ k_ ≠ gb144) u138002 x138002_2) ∧ Aside0 (Kd.S k54 54 w' w.heap.size (fun _ => True) u145001 x145001_3) ∧ Aside0 (w'.heap[gb135]? = some (.cells #[.int .i64 0, (.slice none 0 0), (.slice none 0 0)] 28 (0, 0))) ∧ Aside0 (w'.heap[gb137]? = some (.cells #[.int .i64 (mget a2 (rdOf ByteArray.empty l0 0)), (.slice Ao20 y140.length co20), u138002] 28 (0, 0))) ∧ Aside0 (w'.heap[gb139]? = some (.cells #[.string ((rd_T45 l1 x29_1).f0), (.slice (some ad143) ((rd_T45 l1 x29_1).f1).length c138_1)] 45 (0, 0))) ∧ Aside0 (w'.heap[gb144]? = some (.cells #[.int .i64 x29_1, u145001] 51 (0, 0))) ∧ Aside0 (Below w.heap.size w w'))
             case atStart => exact ⟨(0), (([] : List (S54))), (.slice none 0 0), (by first | rfl | (simp; done) | (simp [i64_w]; done) | (simp [*]; done) | (simp [*, i64_w]; done) | (simp [*]; unfold wrap64; omega)), H', ⟨Nat.le_refl _⟩, ⟨by (with_reducible repeat (first | apply Kd.R_alloc | apply Kd.R_drewN | apply Kd.R_drew)); exact Kd.R_mono (Kd.R_far (p := ⟨gb144, 1, none⟩) (Kd.R_far (p := ⟨gb144, 0, none⟩) (Kd.R_types HO_138001.out BK144.out (by decide)) (fun _ hk => hk.2) (.int .i64 x29_1)) (fun _ hk => hk.2) (.slice none 0 0)) (fun _ hk => trivial)⟩, ⟨by (with_reducible repeat (first | apply Kd.R_alloc | apply Kd.R_drewN | apply Kd.R_drew)); exact Kd.R_mono (Kd.R_far (p := ⟨gb144, 1, none⟩) (Kd.R_far (p := ⟨gb144, 0, none⟩) (Kd.R_mono HO_138002.out (fun k_ hk => (⟨hk, hk.2⟩ : _ ∧ k_ ≠ gb144))) (fun _ hk => hk.2) (.int .i64 x29_1)) (fun _ hk => hk.2) (.slice none 0 0)) (fun _ hk => ⟨(by simp [Value.ownBlock]), hk.1.2⟩)⟩, ⟨by first | exact Kd.S_nil _ _ _ _ _ | exact Kd.N_nil _ _ _ _ _ | exact Kd.V_nil _ _ _ _ _ | exact Kd.Q_nil _ _ _ _ _ | exact Kd.R_nil _ _ _ _ _⟩, ⟨by (with_reducible repeat (first | refine blk_drewN ?_ _ | refine blk_drew ?_ | refine blk_alloc ?_ _)); refine blk_far ?_ NB135_144.out _; (with_reducible repeat (first | refine blk_drewN ?_ _ | refine blk_drew ?_ | refine blk_alloc ?_ _)); refine blk_far ?_ NB135_144.out _; (with_reducible repeat (first | refine blk_drewN ?_ _ | refine blk_drew ?_ | refine blk_alloc ?_ _)); exact BK135.out⟩, ⟨by (with_reducible repeat (first | refine blk_drewN ?_ _ | refine blk_drew ?_ | refine blk_alloc ?_ _)); refine blk_far ?_ NB137_144.out _; (with_reducible repeat (first | refine blk_drewN ?_ _ | refine blk_drew ?_ | refine blk_alloc ?_ _)); refine blk_far ?_ NB137_144.out _; (with_reducible repeat (first | refine blk_drewN ?_ _ | refine blk_drew ?_ | refine blk_alloc ?_ _)); exact BK137.out⟩, ⟨by (with_reducible repeat (first | refine blk_drewN ?_ _ | refine blk_drew ?_ | refine blk_alloc ?_ _)); refine blk_far ?_ NB139_144.out _; (with_reducible repeat (first | refine blk_drewN ?_ _ | refine blk_drew ?_ | refine blk_alloc ?_ _)); refine blk_far ?_ NB139_144.out _; (with_reducible repeat (first | refine blk_drewN ?_ _ | refine blk_drew ?_ | refine blk_alloc ?_ _)); exact BK139.out⟩, ⟨by (with_reducible repeat (first | refine blk_drewN ?_ _ | refine blk_drew ?_ | refine blk_alloc ?_ _)); refine blk_put (cs := #[.int .i64 x29_1, .slice none 0 0]) ?_ 1 _ rfl; (with_reducible repeat (first | refine blk_drewN ?_ _ | refine blk_drew ?_ | refine blk_alloc ?_ _)); refine blk_put (cs := #[.int .i64 0, .slice none 0 0]) ?_ 0 _ rfl; (with_reducible repeat (first | refine blk_drewN ?_ _ | refine blk_drew ?_ | refine blk_alloc ?_ _)); exact BK144.out⟩, ⟨by repeat (first | (with_reducible first | exact HB.out | apply below_alloc | apply pw_below_drewN | apply below_drew1 | refine below_set ?_ GE135.out | refine below_set ?_ GE137.out | refine below_set ?_ GE139.out | refine below_set ?_ GE144.out) | exact HB.out)⟩⟩
             case round =>
              clear H'
              try clear c1
              try clear p1
              try clear q1
              try clear hx1
              try clear qi1
              try clear c2
              try clear p2
              try clear c4
              try clear c4b0
              try clear c4b1
              try clear c7
              try clear c9
              try clear c9b0
              try clear c10
              try clear c10b0
              try clear c11
              try clear c11b0
              try clear c12
              try clear c13
              try clear p13
              try clear q13
              try clear hx13
              try clear qi13
              try clear c14
              try clear p14
              try clear q14
              try clear hx14
              try clear c15
              try clear c17
              try clear c23
              try clear c23b0
              try clear c24
              try clear c24b0
              try clear c25
              try clear c25b0
              try clear c27
              try clear c28
              try clear c29
              try clear hcz16_0
              try clear hcz16_1
              try clear hcz18_0
              try clear hcz18_1
              try clear hcz18_2
              try clear hcz21_0
              try clear hcz21_1
              try clear hcz21_2
              try clear hcz22_0
              try clear hcz22_1
              try clear hcz30_0
              try clear hcz30_1
              try clear hcz8_0
              try clear hcz8_1
              try clear hcz8_2
              try clear hfz16_0
              try clear hfz16_1
              try clear hfz18_0
              try clear hfz18_1
              try clear hfz18_2
              try clear hfz21_0
              try clear hfz21_1
              try clear hfz21_2
              try clear hfz22_0
              try clear hfz22_1
              try clear hfz30_0
              try clear hfz30_1
              try clear hfz8_0
              try clear hfz8_1
              try clear hfz8_2
              try clear hx136_0
              try clear hx138_0
              try clear hx138_1
              try clear hx143_0
              try clear p1
              try clear p13
              try clear p136
              try clear p138
              try clear p143
              try clear p2
              try clear q1
              try clear q13
              try clear q136
              try clear q138
              try clear q143
              obtain ⟨x52_3, x145001_3, u145001, rfl, HA, HK3, HO_138001, HO_138002, HO_145001, BK135, BK137, BK139, BK144, HB⟩ := hrel
              cases gk with
              | zero => exact absurd HA.out (by simp [gram_made.l2])
              | succ k3 =>
               have H := HA.out
               clear HA
               simp only [gram_made.l2] at H
               by_cases c31 : x52_3 < ((rd_L11 ((rd_T45 l1 x29_1).f1) x44_2).length : Int)
               ·rw [if_pos c31] at H
                have c31b0 : decide (x52_3 < ((rd_L11 ((rd_T45 l1 x29_1).f1) x44_2).length : Int)) = true := decide_eq_true c31
                clear c31
                by_cases c32 : 0 ≤ x52_3
                ·rw [if_pos c32] at H
                 have c32b0 : decide (0 ≤ x52_3) = true := decide_eq_true c32
                 clear c32
                 by_cases c33 : x52_3 < ((rd_L11 ((rd_T45 l1 x29_1).f1) x44_2).length : Int)
                 ·rw [if_pos c33] at H
                  have c33b0 : decide (x52_3 < ((rd_L11 ((rd_T45 l1 x29_1).f1) x44_2).length : Int)) = true := decide_eq_true c33
                  clear c33
                  have H' := Aside0.mk H
                  clear H
                  have p148 : 0 ≤ (x52_3 : Int) := of_decide_eq_true (by first | (with_reducible assumption) | assumption)
                  have q148 : x52_3 < ((rd_L11 ((rd_T45 l1 x29_1).f1) x44_2).length : Int) := of_decide_eq_true (by first | (with_reducible assumption) | assumption)
                  obtain ⟨ad148, A148_1, c148_1, e148, hx148_0, hx148_1, hl148_1, hi148_1⟩ := at_T64 HR143_0.out x52_3 p148 q148
                  cases e148
                  replace hx148_0 := (HB.out.cell (World.block_lt_of_cell? w _ hx148_0)).trans hx148_0
                  replace hx148_1 := (HB.out.cell (World.block_lt_of_cell? w _ hx148_1)).trans hx148_1
                  have HR148_1 := Aside0.mk hi148_1
                  have HC148_1 := Aside0.mk hl148_1
                  clear hi148_1 hl148_1
                  replace p148 := eq_true p148
                  replace q148 := eq_true q148
                  go_wp2_with (first | ((with_reducible refine gate_dst (N := 12) rfl ?_); refine box_event ?hg (N := 12) ?hd (cs := #[.bool false, .slice none 0 0]) (t := 64) ?hr ?_; (case hd => rfl); (case hg => rfl); (case hr => first | (go_simp; done) | (go_simp; rfl)); intro gb149 hg w34 hbox hb; have n0_ := Aside0.mk (Kd.R_below (by (with_reducible repeat (first | apply Kd.R_alloc | apply Kd.R_drewN | apply Kd.R_drew)); exact HO_138001.out) hb); have n1_ := Aside0.mk (Kd.R_below (by (with_reducible repeat (first | apply Kd.R_alloc | apply Kd.R_drewN | apply Kd.R_drew)); exact HO_138002.out) hb); have n2_ := Aside0.mk (Kd.S_below (by (with_reducible repeat (first | apply Kd.S_alloc | apply Kd.S_drewN | apply Kd.S_drew)); exact HO_145001.out) hb); have n3_ := Aside0.mk (blk_below (g := gb135) (o := .cells #[.int .i64 0, .slice none 0 0, .slice none 0 0] 28 (0, 0)) (by (with_reducible repeat (first | refine blk_drewN ?_ _ | refine blk_drew ?_ | refine blk_alloc ?_ _)); exact BK135.out) hb); have n4_ := Aside0.mk (blk_below (g := gb137) (o := .cells #[.int .i64 (mget a2 (rdOf ByteArray.empty l0 0)), .slice Ao20 y140.length co20, u138002] 28 (0, 0)) (by (with_reducible repeat (first | refine blk_drewN ?_ _ | refine blk_drew ?_ | refine blk_alloc ?_ _)); exact BK137.out) hb); have n5_ := Aside0.mk (blk_below (g := gb139) (o := .cells #[.string ((rd_T45 l1 x29_1).f0), .slice (some ad143) ((rd_T45 l1 x29_1).f1).length c138_1] 45 (0, 0)) (by (with_reducible repeat (first | refine blk_drewN ?_ _ | refine blk_drew ?_ | refine blk_alloc ?_ _)); exact BK139.out) hb); have n6_ := Aside0.mk (blk_below (g := gb144) (o := .cells #[.int .i64 x29_1, u145001] 51 (0, 0)) (by (with_reducible repeat (first | refine blk_drewN ?_ _ | refine blk_drew ?_ | refine blk_alloc ?_ _)); exact BK144.out) hb); have n7_ := Aside0.mk (below_step (by repeat (first | (with_reducible first | exact HB.out | apply below_alloc | apply pw_below_drewN | apply below_drew1 | refine below_set ?_ GE135.out | refine below_set ?_ GE137.out | refine below_set ?_ GE139.out | refine below_set ?_ GE144.out) | exact HB.out)) hb); have n8_ := Aside0.mk (hbox); have n9_ := Aside0.mk ((by rw [hg]; exact (below_size (by repeat (first | (with_reducible first | exact HB.out | apply below_alloc | apply pw_below_drewN | apply below_drew1 | refine below_set ?_ GE135.out | refine below_set ?_ GE137.out | refine below_set ?_ GE139.out | refine below_set ?_ GE144.out) | exact HB.out))) : w.heap.size ≤ gb149)); have n10_ := Aside0.mk ((by rw [hg]; exact (below_size (by repeat (first | (with_reducible first | exact HB.out | apply below_alloc | apply pw_below_drewN | apply below_drew1 | refine below_set ?_ GE135.out | refine below_set ?_ GE137.out | refine below_set ?_ GE139.out | refine below_set ?_ GE144.out) | exact HB.out))) : w.heap.size ≤ gb149)); have n11_ := Aside0.mk ((by rw [hg]; exact Nat.ne_of_lt (blk_lt (g := gb135) (o := .cells #[.int .i64 0, .slice none 0 0, .slice none 0 0] 28 (0, 0)) (by (with_reducible repeat (first | refine blk_drewN ?_ _ | refine blk_drew ?_ | refine blk_alloc ?_ _)); exact BK135.out)) : gb135 ≠ gb149)); have n12_ := Aside0.mk ((by rw [hg]; exact Nat.ne_of_gt (blk_lt (g := gb135) (o := .cells #[.int .i64 0, .slice none 0 0, .slice none 0 0] 28 (0, 0)) (by (with_reducible repeat (first | refine blk_drewN ?_ _ | refine blk_drew ?_ | refine blk_alloc ?_ _)); exact BK135.out)) : gb149 ≠ gb135)); have n13_ := Aside0.mk ((by rw [hg]; exact Nat.ne_of_lt (blk_lt (g := gb137) (o := .cells #[.int .i64 (mget a2 (rdOf ByteArray.empty l0 0)), .slice Ao20 y140.length co20, u138002] 28 (0, 0)) (by (with_reducible repeat (first | refine blk_drewN ?_ _ | refine blk_drew ?_ | refine blk_alloc ?_ _)); exact BK137.out)) : gb137 ≠ gb149)); have n14_ := Aside0.mk ((by rw [hg]; exact Nat.ne_of_gt (blk_lt (g := gb137) (o := .cells #[.int .i64 (mget a2 (rdOf ByteArray.empty l0 0)), .slice Ao20 y140.length co20, u138002] 28 (0, 0)) (by (with_reducible repeat (first | refine blk_drewN ?_ _ | refine blk_drew ?_ | refine blk_alloc ?_ _)); exact BK137.out)) : gb149 ≠ gb137)); have n15_ := Aside0.mk ((by rw [hg]; exact Nat.ne_of_lt (blk_lt (g := gb139) (o := .cells #[.string ((rd_T45 l1 x29_1).f0), .slice (some ad143) ((rd_T45 l1 x29_1).f1).length c138_1] 45 (0, 0)) (by (with_reducible repeat (first | refine blk_drewN ?_ _ | refine blk_drew ?_ | refine blk_alloc ?_ _)); exact BK139.out)) : gb139 ≠ gb149)); have n16_ := Aside0.mk ((by rw [hg]; exact Nat.ne_of_gt (blk_lt (g := gb139) (o := .cells #[.string ((rd_T45 l1 x29_1).f0), .slice (some ad143) ((rd_T45 l1 x29_1).f1).length c138_1] 45 (0, 0)) (by (with_reducible repeat (first | refine blk_drewN ?_ _ | refine blk_drew ?_ | refine blk_alloc ?_ _)); exact BK139.out)) : gb149 ≠ gb139)); have n17_ := Aside0.mk ((by rw [hg]; exact Nat.ne_of_lt (blk_lt (g := gb144) (o := .cells #[.int .i64 x29_1, u145001] 51 (0, 0)) (by (with_reducible repeat (first | refine blk_drewN ?_ _ | refine blk_drew ?_ | refine blk_alloc ?_ _)); exact BK144.out)) : gb144 ≠ gb149)); have n18_ := Aside0.mk ((by rw [hg]; exact Nat.ne_of_gt (blk_lt (g := gb144) (o := .cells #[.int .i64 x29_1, u145001] 51 (0, 0)) (by (with_reducible repeat (first | refine blk_drewN ?_ _ | refine blk_drew ?_ | refine blk_alloc ?_ _)); exact BK144.out)) : gb149 ≠ gb144)); clear HO_138001; clear HO_138002; clear HO_145001; clear BK135; clear BK137; clear BK139; clear BK144; clear HB; have HO_138001 := n0_; have HO_138002 := n1_; have HO_145001 := n2_; have BK135 := n3_; have BK137 := n4_; have BK139 := n5_; have BK144 := n6_; have HB := n7_; have BK149 := n8_; have GW149 := n9_; have GE149 := n10_; have NB135_149 := n11_; have NB149_135 := n12_; have NB137_149 := n13_; have NB149_137 := n14_; have NB139_149 := n15_; have NB149_139 := n16_; have NB144_149 := n17_; have NB149_144 := n18_; clear n0_ n1_ n2_ n3_ n4_ n5_ n6_ n7_ n8_ n9_ n10_ n11_ n12_ n13_ n14_ n15_ n16_ n17_ n18_; clear hb hbox hg; have hnb35 := NB149_135.out; have hnc35 := NB135_149.out; have hnb36 := NB149_137.out; have hnc36 := NB137_149.out; have hnb37 := NB149_139.out; have hnc37 := NB139_149.out; have hnb38 := NB149_144.out; have hnc38 := NB144_149.out; have hcz39_0 : w34.cell? ⟨gb149, 0, none⟩ = some (.bool false) := (blk_cell BK149.out 0).trans rfl; have hcz39_1 : w34.cell? ⟨gb149, 1, none⟩ = some (.slice none 0 0) := (blk_cell BK149.out 1).trans rfl; have hfz39_0 := blk_frozen BK149.out 0; have hfz39_1 := blk_frozen BK149.out 1) | ((with_reducible refine gate_dst (N := 13) rfl ?_); refine box_event ?hg (N := 13) ?hd (cs := #[.bool false, .slice none 0 0]) (t := 54) ?hr ?_; (case hd => rfl); (case hg => rfl); (case hr => first | (go_simp; done) | (go_simp; rfl)); intro gb150 hg w40 hbox hb; have n0_ := Aside0.mk (Kd.R_below (by (with_reducible repeat (first | apply Kd.R_alloc | apply Kd.R_drewN | apply Kd.R_drew)); exact (Kd.R_mono (Kd.R_far (p := ⟨gb149, 1, none⟩) (Kd.R_far (p := ⟨gb149, 0, none⟩) (Kd.R_types HO_138001.out BK149.out (by decide)) (fun _ hk => hk.2) (.bool ((rd_T64 (rd_L11 ((rd_T45 l1 x29_1).f1) x44_2) x52_3).f0))) (fun _ hk => hk.2) (.slice A148_1 ((rd_T64 (rd_L11 ((rd_T45 l1 x29_1).f1) x44_2) x52_3).f1).length c148_1)) (fun _ h_ => h_.1))) hb); have n1_ := Aside0.mk (Kd.R_below (Kd.R_elderB (by (with_reducible repeat (first | apply Kd.R_alloc | apply Kd.R_drewN | apply Kd.R_drew)); exact (Kd.R_mono (Kd.R_far (p := ⟨gb149, 1, none⟩) (Kd.R_far (p := ⟨gb149, 0, none⟩) (Kd.R_types HO_138002.out BK149.out (by decide)) (fun _ hk => hk.2) (.bool ((rd_T64 (rd_L11 ((rd_T45 l1 x29_1).f1) x44_2) x52_3).f0))) (fun _ hk => hk.2) (.slice A148_1 ((rd_T64 (rd_L11 ((rd_T45 l1 x29_1).f1) x44_2) x52_3).f1).length c148_1)) (fun _ h_ => h_.1))) gb150 (Nat.le_of_eq hg.symm)) hb); have n2_ := Aside0.mk (Kd.S_below (Kd.S_elderB (by (with_reducible repeat (first | apply Kd.S_alloc | apply Kd.S_drewN | apply Kd.S_drew)); exact (Kd.S_mono (Kd.S_far (p := ⟨gb149, 1, none⟩) (Kd.S_far (p := ⟨gb149, 0, none⟩) (Kd.S_types HO_145001.out BK149.out (by decide)) (fun _ hk => hk.2) (.bool ((rd_T64 (rd_L11 ((rd_T45 l1 x29_1).f1) x44_2) x52_3).f0))) (fun _ hk => hk.2) (.slice A148_1 ((rd_T64 (rd_L11 ((rd_T45 l1 x29_1).f1) x44_2) x52_3).f1).length c148_1)) (fun _ h_ => h_.1))) gb150 (Nat.le_of_eq hg.symm)) hb); have n3_ := Aside0.mk (blk_below (g := gb135) (o := .cells #[.int .i64 0, .slice none 0 0, .slice none 0 0] 28 (0, 0)) (by (with_reducible repeat (first | refine blk_drewN ?_ _ | refine blk_drew ?_ | refine blk_alloc ?_ _)); refine blk_far ?_ NB135_149.out _; (with_reducible repeat (first | refine blk_drewN ?_ _ | refine blk_drew ?_ | refine blk_alloc ?_ _)); refine blk_far ?_ NB135_149.out _; (with_reducible repeat (first | refine blk_drewN ?_ _ | refine blk_drew ?_ | refine blk_alloc ?_ _)); exact BK135.out) hb); have n4_ := Aside0.mk (blk_below (g := gb137) (o := .cells #[.int .i64 (mget a2 (rdOf ByteArray.empty l0 0)), .slice Ao20 y140.length co20, u138002] 28 (0, 0)) (by (with_reducible repeat (first | refine blk_drewN ?_ _ | refine blk_drew ?_ | refine blk_alloc ?_ _)); refine blk_far ?_ NB137_149.out _; (with_reducible repeat (first | refine blk_drewN ?_ _ | refine blk_drew ?_ | refine blk_alloc ?_ _)); refine blk_far ?_ NB137_149.out _; (with_reducible repeat (first | refine blk_drewN ?_ _ | refine blk_drew ?_ | refine blk_alloc ?_ _)); exact BK137.out) hb); have n5_ := Aside0.mk (blk_below (g := gb139) (o := .cells #[.string ((rd_T45 l1 x29_1).f0), .slice (some ad143) ((rd_T45 l1 x29_1).f1).length c138_1] 45 (0, 0)) (by (with_reducible repeat (first | refine blk_drewN ?_ _ | refine blk_drew ?_ | refine blk_alloc ?_ _)); refine blk_far ?_ NB139_149.out _; (with_reducible repeat (first | refine blk_drewN ?_ _ | refine blk_drew ?_ | refine blk_alloc ?_ _)); refine blk_far ?_ NB139_149.out _; (with_reducible repeat (first | refine blk_drewN ?_ _ | refine blk_drew ?_ | refine blk_alloc ?_ _)); exact BK139.out) hb); have n6_ := Aside0.mk (blk_below (g := gb144) (o := .cells #[.int .i64 x29_1, u145001] 51 (0, 0)) (by (with_reducible repeat (first | refine blk_drewN ?_ _ | refine blk_drew ?_ | refine blk_alloc ?_ _)); refine blk_far ?_ NB144_149.out _; (with_reducible repeat (first | refine blk_drewN ?_ _ | refine blk_drew ?_ | refine blk_alloc ?_ _)); refine blk_far ?_ NB144_149.out _; (with_reducible repeat (first | refine blk_drewN ?_ _ | refine blk_drew ?_ | refine blk_alloc ?_ _)); exact BK144.out) hb); have n7_ := Aside0.mk (blk_below (g := gb149) (o := .cells #[.bool ((rd_T64 (rd_L11 ((rd_T45 l1 x29_1).f1) x44_2) x52_3).f0), .slice A148_1 ((rd_T64 (rd_L11 ((rd_T45 l1 x29_1).f1) x44_2) x52_3).f1).length c148_1] 64 (0, 0)) (by (with_reducible repeat (first | refine blk_drewN ?_ _ | refine blk_drew ?_ | refine blk_alloc ?_ _)); refine blk_put (cs := #[.bool ((rd_T64 (rd_L11 ((rd_T45 l1 x29_1).f1) x44_2) x52_3).f0), .slice none 0 0]) ?_ 1 _ rfl; (with_reducible repeat (first | refine blk_drewN ?_ _ | refine blk_drew ?_ | refine blk_alloc ?_ _)); refine blk_put (cs := #[.bool false, .slice none 0 0]) ?_ 0 _ rfl; (with_reducible repeat (first | refine blk_drewN ?_ _ | refine blk_drew ?_ | refine blk_alloc ?_ _)); exact BK149.out) hb); have n8_ := Aside0.mk (below_step (by repeat (first | (with_reducible first | exact HB.out | apply below_alloc | apply pw_below_drewN | apply below_drew1 | refine below_set ?_ GE135.out | refine below_set ?_ GE137.out | refine below_set ?_ GE139.out | refine below_set ?_ GE144.out | refine below_set ?_ GE149.out) | exact HB.out)) hb); have n9_ := Aside0.mk (hbox); have n10_ := Aside0.mk ((by rw [hg]; exact (below_size (by repeat (first | (with_reducible first | exact HB.out | apply below_alloc | apply pw_below_drewN | apply below_drew1 | refine below_set ?_ GE135.out | refine below_set ?_ GE137.out | refine below_set ?_ GE139.out | refine below_set ?_ GE144.out | refine below_set ?_ GE149.out) | exact HB.out))) : w.heap.size ≤ gb150)); have n11_ := Aside0.mk ((by rw [hg]; exact (below_size (by repeat (first | (with_reducible first | exact HB.out | apply below_alloc | apply pw_below_drewN | apply below_drew1 | refine below_set ?_ GE135.out | refine below_set ?_ GE137.out | refine below_set ?_ GE139.out | refine below_set ?_ GE144.out | refine below_set ?_ GE149.out) | exact HB.out))) : w.heap.size ≤ gb150)); have n12_ := Aside0.mk ((by rw [hg]; exact Nat.ne_of_lt (blk_lt (g := gb135) (o := .cells #[.int .i64 0, .slice none 0 0, .slice none 0 0] 28 (0, 0)) (by (with_reducible repeat (first | refine blk_drewN ?_ _ | refine blk_drew ?_ | refine blk_alloc ?_ _)); refine blk_far ?_ NB135_149.out _; (with_reducible repeat (first | refine blk_drewN ?_ _ | refine blk_drew ?_ | refine blk_alloc ?_ _)); refine blk_far ?_ NB135_149.out _; (with_reducible repeat (first | refine blk_drewN ?_ _ | refine blk_drew ?_ | refine blk_alloc ?_ _)); exact BK135.out)) : gb135 ≠ gb150)); have n13_ := Aside0.mk ((by rw [hg]; exact Nat.ne_of_gt (blk_lt (g := gb135) (o := .cells #[.int .i64 0, .slice none 0 0, .slice none 0 0] 28 (0, 0)) (by (with_reducible repeat (first | refine blk_drewN ?_ _ | refine blk_drew ?_ | refine blk_alloc ?_ _)); refine blk_far ?_ NB135_149.out _; (with_reducible repeat (first | refine blk_drewN ?_ _ | refine blk_drew ?_ | refine blk_alloc ?_ _)); refine blk_far ?_ NB135_149.out _; (with_reducible repeat (first | refine blk_drewN ?_ _ | refine blk_drew ?_ | refine blk_alloc ?_ _)); exact BK135.out)) : gb150 ≠ gb135)); have n14_ := Aside0.mk ((by rw [hg]; exact Nat.ne_of_lt (blk_lt (g := gb137) (o := .cells #[.int .i64 (mget a2 (rdOf ByteArray.empty l0 0)), .slice Ao20 y140.length co20, u138002] 28 (0, 0)) (by (with_reducible repeat (first | refine blk_drewN ?_ _ | refine blk_drew ?_ | refine blk_alloc ?_ _)); refine blk_far ?_ NB137_149.out _; (with_reducible repeat (first | refine blk_drewN ?_ _ | refine blk_drew ?_ | refine blk_alloc ?_ _)); refine blk_far ?_ NB137_149.out _; (with_reducible repeat (first | refine blk_drewN ?_ _ | refine blk_drew ?_ | refine blk_alloc ?_ _)); exact BK137.out)) : gb137 ≠ gb150)); have n15_ := Aside0.mk ((by rw [hg]; exact Nat.ne_of_gt (blk_lt (g := gb137) (o := .cells #[.int .i64 (mget a2 (rdOf ByteArray.empty l0 0)), .slice Ao20 y140.length co20, u138002] 28 (0, 0)) (by (with_reducible repeat (first | refine blk_drewN ?_ _ | refine blk_drew ?_ | refine blk_alloc ?_ _)); refine blk_far ?_ NB137_149.out _; (with_reducible repeat (first | refine blk_drewN ?_ _ | refine blk_drew ?_ | refine blk_alloc ?_ _)); refine blk_far ?_ NB137_149.out _; (with_reducible repeat (first | refine blk_drewN ?_ _ | refine blk_drew ?_ | refine blk_alloc ?_ _)); exact BK137.out)) : gb150 ≠ gb137)); have n16_ := Aside0.mk ((by rw [hg]; exact Nat.ne_of_lt (blk_lt (g := gb139) (o := .cells #[.string ((rd_T45 l1 x29_1).f0), .slice (some ad143) ((rd_T45 l1 x29_1).f1).length c138_1] 45 (0, 0)) (by (with_reducible repeat (first | refine blk_drewN ?_ _ | refine blk_drew ?_ | refine blk_alloc ?_ _)); refine blk_far ?_ NB139_149.out _; (with_reducible repeat (first | refine blk_drewN ?_ _ | refine blk_drew ?_ | refine blk_alloc ?_ _)); refine blk_far ?_ NB139_149.out _; (with_reducible repeat (first | refine blk_drewN ?_ _ | refine blk_drew ?_ | refine blk_alloc ?_ _)); exact BK139.out)) : gb139 ≠ gb150)); have n17_ := Aside0.mk ((by rw [hg]; exact Nat.ne_of_gt (blk_lt (g := gb139) (o := .cells #[.string ((rd_T45 l1 x29_1).f0), .slice (some ad143) ((rd_T45 l1 x29_1).f1).length c138_1] 45 (0, 0)) (by (with_reducible repeat (first | refine blk_drewN ?_ _ | refine blk_drew ?_ | refine blk_alloc ?_ _)); refine blk_far ?_ NB139_149.out _; (with_reducible repeat (first | refine blk_drewN ?_ _ | refine blk_drew ?_ | refine blk_alloc ?_ _)); refine blk_far ?_ NB139_149.out _; (with_reducible repeat (first | refine blk_drewN ?_ _ | refine blk_drew ?_ | refine blk_alloc ?_ _)); exact BK139.out)) : gb150 ≠ gb139)); have n18_ := Aside0.mk ((by rw [hg]; exact Nat.ne_of_lt (blk_lt (g := gb144) (o := .cells #[.int .i64 x29_1, u145001] 51 (0, 0)) (by (with_reducible repeat (first | refine blk_drewN ?_ _ | refine blk_drew ?_ | refine blk_alloc ?_ _)); refine blk_far ?_ NB144_149.out _; (with_reducible repeat (first | refine blk_drewN ?_ _ | refine blk_drew ?_ | refine blk_alloc ?_ _)); refine blk_far ?_ NB144_149.out _; (with_reducible repeat (first | refine blk_drewN ?_ _ | refine blk_drew ?_ | refine blk_alloc ?_ _)); exact BK144.out)) : gb144 ≠ gb150)); have n19_ := Aside0.mk ((by rw [hg]; exact Nat.ne_of_gt (blk_lt (g := gb144) (o := .cells #[.int .i64 x29_1, u145001] 51 (0, 0)) (by (with_reducible repeat (first | refine blk_drewN ?_ _ | refine blk_drew ?_ | refine blk_alloc ?_ _)); refine blk_far ?_ NB144_149.out _; (with_reducible repeat (first | refine blk_drewN ?_ _ | refine blk_drew ?_ | refine blk_alloc ?_ _)); refine blk_far ?_ NB144_149.out _; (with_reducible repeat (first | refine blk_drewN ?_ _ | refine blk_drew ?_ | refine blk_alloc ?_ _)); exact BK144.out)) : gb150 ≠ gb144)); have n20_ := Aside0.mk ((by rw [hg]; exact Nat.ne_of_lt (blk_lt (g := gb149) (o := .cells #[.bool ((rd_T64 (rd_L11 ((rd_T45 l1 x29_1).f1) x44_2) x52_3).f0), .slice A148_1 ((rd_T64 (rd_L11 ((rd_T45 l1 x29_1).f1) x44_2) x52_3).f1).length c148_1] 64 (0, 0)) (by (with_reducible repeat (first | refine blk_drewN ?_ _ | refine blk_drew ?_ | refine blk_alloc ?_ _)); refine blk_put (cs := #[.bool ((rd_T64 (rd_L11 ((rd_T45 l1 x29_1).f1) x44_2) x52_3).f0), .slice none 0 0]) ?_ 1 _ rfl; (with_reducible repeat (first | refine blk_drewN ?_ _ | refine blk_drew ?_ | refine blk_alloc ?_ _)); refine blk_put (cs := #[.bool false, .slice none 0 0]) ?_ 0 _ rfl; (with_reducible repeat (first | refine blk_drewN ?_ _ | refine blk_drew ?_ | refine blk_alloc ?_ _)); exact BK149.out)) : gb149 ≠ gb150)); have n21_ := Aside0.mk ((by rw [hg]; exact Nat.ne_of_gt (blk_lt (g := gb149) (o := .cells #[.bool ((rd_T64 (rd_L11 ((rd_T45 l1 x29_1).f1) x44_2) x52_3).f0), .slice A148_1 ((rd_T64 (rd_L11 ((rd_T45 l1 x29_1).f1) x44_2) x52_3).f1).length c148_1] 64 (0, 0)) (by (with_reducible repeat (first | refine blk_drewN ?_ _ | refine blk_drew ?_ | refine blk_alloc ?_ _)); refine blk_put (cs := #[.bool ((rd_T64 (rd_L11 ((rd_T45 l1 x29_1).f1) x44_2) x52_3).f0), .slice none 0 0]) ?_ 1 _ rfl; (with_reducible repeat (first | refine blk_drewN ?_ _ | refine blk_drew ?_ | refine blk_alloc ?_ _)); refine blk_put (cs := #[.bool false, .slice none 0 0]) ?_ 0 _ rfl; (with_reducible repeat (first | refine blk_drewN ?_ _ | refine blk_drew ?_ | refine blk_alloc ?_ _)); exact BK149.out)) : gb150 ≠ gb149)); clear HO_138001; clear HO_138002; clear HO_145001; clear BK135; clear BK137; clear BK139; clear BK144; clear BK149; clear HB; have HO_138001 := n0_; have HO_138002 := n1_; have HO_145001 := n2_; have BK135 := n3_; have BK137 := n4_; have BK139 := n5_; have BK144 := n6_; have BK149 := n7_; have HB := n8_; have BK150 := n9_; have GW150 := n10_; have GE150 := n11_; have NB135_150 := n12_; have NB150_135 := n13_; have NB137_150 := n14_; have NB150_137 := n15_; have NB139_150 := n16_; have NB150_139 := n17_; have NB144_150 := n18_; have NB150_144 := n19_; have NB149_150 := n20_; have NB150_149 := n21_; clear n0_ n1_ n2_ n3_ n4_ n5_ n6_ n7_ n8_ n9_ n10_ n11_ n12_ n13_ n14_ n15_ n16_ n17_ n18_ n19_ n20_ n21_; clear hb hbox hg; have hnb41 := NB150_135.out; have hnc41 := NB135_150.out; have hnb42 := NB150_137.out; have hnc42 := NB137_150.out; have hnb43 := NB150_139.out; have hnc43 := NB139_150.out; have hnb44 := NB150_144.out; have hnc44 := NB144_150.out; have hnb45 := NB150_149.out; have hnc45 := NB149_150.out; have hcz46_0 : w40.cell? ⟨gb150, 0, none⟩ = some (.bool false) := (blk_cell BK150.out 0).trans rfl; have hcz46_1 : w40.cell? ⟨gb150, 1, none⟩ = some (.slice none 0 0) := (blk_cell BK150.out 1).trans rfl; have hfz46_0 := blk_frozen BK150.out 0; have hfz46_1 := blk_frozen BK150.out 1; have hcz47_0 : w40.cell? ⟨gb149, 0, none⟩ = some (.bool ((rd_T64 (rd_L11 ((rd_T45 l1 x29_1).f1) x44_2) x52_3).f0)) := (blk_cell BK149.out 0).trans rfl; have hcz47_1 : w40.cell? ⟨gb149, 1, none⟩ = some (.slice A148_1 ((rd_T64 (rd_L11 ((rd_T45 l1 x29_1).f1) x44_2) x52_3).f1).length c148_1) := (blk_cell BK149.out 1).trans rfl; have hfz47_0 := blk_frozen BK149.out 0; have hfz47_1 := blk_frozen BK149.out 1))
                  go_loopg [62] k3 (fun kq v62 w' => ∃ (x62_4 : Int) (x151001_4 : List (S56)) (u151001 : Value), v62 = .int .i64 x62_4 ∧ Aside0 (gram_made.l3 kq a2 x29_1 l1 (l1.length : Int) x29_1 ((rd_T45 l1 x29_1).f1) (((rd_T45 l1 x29_1).f1).length : Int) x44_2 (rd_L11 ((rd_T45 l1 x29_1).f1) x44_2) ((rd_L11 ((rd_T45 l1 x29_1).f1) x44_2).length : Int) x52_3 (((rd_T64 (rd_L11 ((rd_T45 l1 x29_1).f1) x44_2) x52_3).f1).length : Int) x62_4 (mget a2 (rdOf ByteArray.empty l0 0)) y140 x138002_2 x29_1 x145001_3 ((rd_T64 (rd_L11 ((rd_T45 l1 x29_1).f1) x44_2) x52_3).f0) ((rd_T64 (rd_L11 ((rd_T45 l1 x29_1).f1) x44_2) x52_3).f1) ((rd_T64 (rd_L11 ((rd_T45 l1 x29_1).f1) x44_2) x52_3).f0) x151001_4 = some (r1, r2, r3)) ∧ Aside0 (kq ≤ k3) ∧ Aside0 (Kd.R Kd.string 9 w' w.heap.size (fun _ => True) (.slice Ao20 y140.length co20) y140) ∧ Aside0 (Kd.R k51 51 w' w.heap.size (fun k_ => some k_ ≠ (u145001 : Value).ownBlock ∧ some k_ ≠ (u151001 : Value).ownBlock ∧ k_ ≠ gb144 ∧ k_ ≠ gb150) u138002 x138002_2) ∧ Aside0 (Kd.S k54 54 w' w.heap.size (fun k_ => some k_ ≠ (u151001 : Value).ownBlock ∧ k_ ≠ gb150) u145001 x145001_3) ∧ Aside0 (Kd.R k56 56 w' w.heap.size (fun _ => True) u151001 x151001_4) ∧ Aside0 (w'.heap[gb135]? = some (.cells #[.int .i64 0, (.slice none 0 0), (.slice none 0 0)] 28 (0, 0))) ∧ Aside0 (w'.heap[gb137]? = some (.cells #[.int .i64 (mget a2 (rdOf ByteArray.empty l0 0)), (.slice Ao20 y140.length co20), u138002] 28 (0, 0))) ∧ Aside0 (w'.heap[gb139]? = some (.cells #[.string ((rd_T45 l1 x29_1).f0), (.slice (some ad143) ((rd_T45 l1 x29_1).f1).length c138_1)] 45 (0, 0))) ∧ Aside0 (w'.heap[gb144]? = some (.cells #[.int .i64 x29_1, u145001] 51 (0, 0))) ∧ Aside0 (w'.heap[gb149]? = some (.cells #[.bool ((rd_T64 (rd_L11 ((rd_T45 l1 x29_1).f1) x44_2) x52_3).f0), (.slice A148_1 ((rd_T64 (rd_L11 ((rd_T45 l1 x29_1).f1) x44_2) x52_3).f1).length c148_1)] 64 (0, 0))) ∧ Aside0 (w'.heap[gb150]? = some (.cells #[.bool ((rd_T64 (rd_L11 ((rd_T45 l1 x29_1).f1) x44_2) x52_3).f0), u151001] 54 (0, 0))) ∧ Aside0 (Below w.heap.size w w'))
                  case atStart => exact ⟨(0), (([] : List (S56))), (.slice none 0 0), (by first | rfl | (simp; done) | (simp [i64_w]; done) | (simp [*]; done) | (simp [*, i64_w]; done) | (simp [*]; unfold wrap64; omega)), H', ⟨Nat.le_refl _⟩, ⟨by (with_reducible repeat (first | apply Kd.R_alloc | apply Kd.R_drewN | apply Kd.R_drew)); exact Kd.R_mono (Kd.R_far (p := ⟨gb150, 1, none⟩) (Kd.R_far (p := ⟨gb150, 0, none⟩) (Kd.R_types HO_138001.out BK150.out (by decide)) (fun _ hk => hk.2) (.bool ((rd_T64 (rd_L11 ((rd_T45 l1 x29_1).f1) x44_2) x52_3).f0))) (fun _ hk => hk.2) (.slice none 0 0)) (fun _ hk => trivial)⟩, ⟨by (with_reducible repeat (first | apply Kd.R_alloc | apply Kd.R_drewN | apply Kd.R_drew)); exact Kd.R_mono (Kd.R_far (p := ⟨gb150, 1, none⟩) (Kd.R_far (p := ⟨gb150, 0, none⟩) (Kd.R_mono HO_138002.out (fun k_ hk => (⟨hk, hk.2⟩ : _ ∧ k_ ≠ gb150))) (fun _ hk => hk.2) (.bool ((rd_T64 (rd_L11 ((rd_T45 l1 x29_1).f1) x44_2) x52_3).f0))) (fun _ hk => hk.2) (.slice none 0 0)) (fun _ hk => ⟨hk.1.1.1, ⟨(by simp [Value.ownBlock]), ⟨hk.1.1.2, hk.1.2⟩⟩⟩)⟩, ⟨by (with_reducible repeat (first | apply Kd.S_alloc | apply Kd.S_drewN | apply Kd.S_drew)); exact Kd.S_mono (Kd.S_far (p := ⟨gb150, 1, none⟩) (Kd.S_far (p := ⟨gb150, 0, none⟩) (Kd.S_mono HO_145001.out (fun k_ hk => (⟨hk, hk.2⟩ : _ ∧ k_ ≠ gb150))) (fun _ hk => hk.2) (.bool ((rd_T64 (rd_L11 ((rd_T45 l1 x29_1).f1) x44_2) x52_3).f0))) (fun _ hk => hk.2) (.slice none 0 0)) (fun _ hk => ⟨(by simp [Value.ownBlock]), hk.1.2⟩)⟩, ⟨by first | exact Kd.R_nil _ _ _ _ _ | exact Kd.N_nil _ _ _ _ _ | exact Kd.V_nil _ _ _ _ _ | exact Kd.Q_nil _ _ _ _ _ | exact Kd.S_nil _ _ _ _ _⟩, ⟨by (with_reducible repeat (first | refine blk_drewN ?_ _ | refine blk_drew ?_ | refine blk_alloc ?_ _)); refine blk_far ?_ NB135_150.out _; (with_reducible repeat (first | refine blk_drewN ?_ _ | refine blk_drew ?_ | refine blk_alloc ?_ _)); refine blk_far ?_ NB135_150.out _; (with_reducible repeat (first | refine blk_drewN ?_ _ | refine blk_drew ?_ | refine blk_alloc ?_ _)); exact BK135.out⟩, ⟨by (with_reducible repeat (first | refine blk_drewN ?_ _ | refine blk_drew ?_ | refine blk_alloc ?_ _)); refine blk_far ?_ NB137_150.out _; (with_reducible repeat (first | refine blk_drewN ?_ _ | refine blk_drew ?_ | refine blk_alloc ?_ _)); refine blk_far ?_ NB137_150.out _; (with_reducible repeat (first | refine blk_drewN ?_ _ | refine blk_drew ?_ | refine blk_alloc ?_ _)); exact BK137.out⟩, ⟨by (with_reducible repeat (first | refine blk_drewN ?_ _ | refine blk_drew ?_ | refine blk_alloc ?_ _)); refine blk_far ?_ NB139_150.out _; (with_reducible repeat (first | refine blk_drewN ?_ _ | refine blk_drew ?_ | refine blk_alloc ?_ _)); refine blk_far ?_ NB139_150.out _; (with_reducible repeat (first | refine blk_drewN ?_ _ | refine blk_drew ?_ | refine blk_alloc ?_ _)); exact BK139.out⟩, ⟨by (with_reducible repeat (first | refine blk_drewN ?_ _ | refine blk_drew ?_ | refine blk_alloc ?_ _)); refine blk_far ?_ NB144_150.out _; (with_reducible repeat (first | refine blk_drewN ?_ _ | refine blk_drew ?_ | refine blk_alloc ?_ _)); refine blk_far ?_ NB144_150.out _; (with_reducible repeat (first | refine blk_drewN ?_ _ | refine blk_drew ?_ | refine blk_alloc ?_ _)); exact BK144.out⟩, ⟨by (with_reducible repeat (first | refine blk_drewN ?_ _ | refine blk_drew ?_ | refine blk_alloc ?_ _)); refine blk_far ?_ NB149_150.out _; (with_reducible repeat (first | refine blk_drewN ?_ _ | refine blk_drew ?_ | refine blk_alloc ?_ _)); refine blk_far ?_ NB149_150.out _; (with_reducible repeat (first | refine blk_drewN ?_ _ | refine blk_drew ?_ | refine blk_alloc ?_ _)); exact BK149.out⟩, ⟨by (with_reducible repeat (first | refine blk_drewN ?_ _ | refine blk_drew ?_ | refine blk_alloc ?_ _)); refine blk_put (cs := #[.bool ((rd_T64 (rd_L11 ((rd_T45 l1 x29_1).f1) x44_2) x52_3).f0), .slice none 0 0]) ?_ 1 _ rfl; (with_reducible repeat (first | refine blk_drewN ?_ _ | refine blk_drew ?_ | refine blk_alloc ?_ _)); refine blk_put (cs := #[.bool false, .slice none 0 0]) ?_ 0 _ rfl; (with_reducible repeat (first | refine blk_drewN ?_ _ | refine blk_drew ?_ | refine blk_alloc ?_ _)); exact BK150.out⟩, ⟨by repeat (first | (with_reducible first | exact HB.out | apply below_alloc | apply pw_below_drewN | apply below_drew1 | refine below_set ?_ GE135.out | refine below_set ?_ GE137.out | refine below_set ?_ GE139.out | refine below_set ?_ GE144.out | refine below_set ?_ GE149.out | refine below_set ?_ GE150.out) | exact HB.out)⟩⟩
                  case round =>
                   clear H'
                   try clear c1
                   try clear p1
                   try clear q1
                   try clear hx1
                   try clear qi1
                   try clear c2
                   try clear p2
                   try clear c3
                   try clear c4
                   try clear c4b0
                   try clear c4b1
                   try clear c7
                   try clear c9
                   try clear c9b0
                   try clear c10
                   try clear c10b0
                   try clear c11
                   try clear c11b0
                   try clear c12
                   try clear c13
                   try clear p13
                   try clear q13
                   try clear hx13
                   try clear qi13
                   try clear c14
                   try clear p14
                   try clear q14
                   try clear hx14
                   try clear c15
                   try clear c17
                   try clear c23
                   try clear c23b0
                   try clear c24
                   try clear c24b0
                   try clear c25
                   try clear c25b0
                   try clear c27
                   try clear c28
                   try clear c29
                   try clear c31
                   try clear c31b0
                   try clear c32
                   try clear c32b0
                   try clear c33
                   try clear c33b0
                   try clear c35
                   try clear c36
                   try clear c37
                   try clear c38
                   try clear c41
                   try clear c42
                   try clear c43
                   try clear c44
                   try clear c45
                   try clear hcz16_0
                   try clear hcz16_1
                   try clear hcz18_0
                   try clear hcz18_1
                   try clear hcz18_2
                   try clear hcz21_0
                   try clear hcz21_1
                   try clear hcz21_2
                   try clear hcz22_0
                   try clear hcz22_1
                   try clear hcz30_0
                   try clear hcz30_1
                   try clear hcz39_0
                   try clear hcz39_1
                   try clear hcz46_0
                   try clear hcz46_1
                   try clear hcz47_0
                   try clear hcz47_1
                   try clear hcz8_0
                   try clear hcz8_1
                   try clear hcz8_2
                   try clear hfz16_0
                   try clear hfz16_1
                   try clear hfz18_0
                   try clear hfz18_1
                   try clear hfz18_2
                   try clear hfz21_0
                   try clear hfz21_1
                   try clear hfz21_2
                   try clear hfz22_0
                   try clear hfz22_1
                   try clear hfz30_0
                   try clear hfz30_1
                   try clear hfz39_0
                   try clear hfz39_1
                   try clear hfz46_0
                   try clear hfz46_1
                   try clear hfz47_0
                   try clear hfz47_1
                   try clear hfz8_0
                   try clear hfz8_1
                   try clear hfz8_2
                   try clear hx136_0
                   try clear hx138_0
                   try clear hx138_1
                   try clear hx143_0
                   try clear hx148_0
                   try clear hx148_1
                   try clear p1
                   try clear p13
                   try clear p136
                   try clear p138
                   try clear p14
                   try clear p143
                   try clear p148
                   try clear p2
                   try clear q1
                   try clear q13
                   try clear q136
                   try clear q138
                   try clear q14
                   try clear q143
                   try clear q148
                   obtain ⟨x62_4, x151001_4, u151001, rfl, HA, HK4, HO_138001, HO_138002, HO_145001, HO_151001, BK135, BK137, BK139, BK144, BK149, BK150, HB⟩ := hrel
                   cases gk with
                   | zero => exact absurd HA.out (by simp [gram_made.l3])
                   | succ k4 =>
                    have H := HA.out
                    clear HA
                    simp only [gram_made.l3] at H
                    by_cases c48 : x62_4 < (((rd_T64 (rd_L11 ((rd_T45 l1 x29_1).f1) x44_2) x52_3).f1).length : Int)
                    ·rw [if_pos c48] at H
                     have c48b0 : decide (x62_4 < (((rd_T64 (rd_L11 ((rd_T45 l1 x29_1).f1) x44_2) x52_3).f1).length : Int)) = true := decide_eq_true c48
                     clear c48
                     by_cases c49 : 0 ≤ x62_4
                     ·rw [if_pos c49] at H
                      have c49b0 : decide (0 ≤ x62_4) = true := decide_eq_true c49
                      clear c49
                      by_cases c50 : x62_4 < (((rd_T64 (rd_L11 ((rd_T45 l1 x29_1).f1) x44_2) x52_3).f1).length : Int)
                      ·rw [if_pos c50] at H
                       have c50b0 : decide (x62_4 < (((rd_T64 (rd_L11 ((rd_T45 l1 x29_1).f1) x44_2) x52_3).f1).length : Int)) = true := decide_eq_true c50
                       clear c50
                       replace H := Option.bind_eq_some_iff.mp H
                       obtain ⟨t152, A510, H⟩ := H
                       try dsimp only at H
                       have A51 := Aside0.mk A510
                       clear A510
                       by_cases c52 : x151001_4.length + t152.length < 5864062014805
                       ·rw [if_pos c52] at H
                        have LMc52 := Aside0.mk c52
                        clear c52
                        obtain ⟨y155, hy155⟩ : ∃ y_ : List (S56), y_ = (x151001_4 ++ t152) := ⟨_, rfl⟩
                        replace H : (gram_made.l3 k4 a2 x29_1 l1 (l1.length : Int) x29_1 ((rd_T45 l1 x29_1).f1) (((rd_T45 l1 x29_1).f1).length : Int) x44_2 (rd_L11 ((rd_T45 l1 x29_1).f1) x44_2) ((rd_L11 ((rd_T45 l1 x29_1).f1) x44_2).length : Int) x52_3 (((rd_T64 (rd_L11 ((rd_T45 l1 x29_1).f1) x44_2) x52_3).f1).length : Int) (wrap64 (x62_4 + 1)) (mget a2 (rdOf ByteArray.empty l0 0)) y140 x138002_2 x29_1 x145001_3 ((rd_T64 (rd_L11 ((rd_T45 l1 x29_1).f1) x44_2) x52_3).f0) ((rd_T64 (rd_L11 ((rd_T45 l1 x29_1).f1) x44_2) x52_3).f1) ((rd_T64 (rd_L11 ((rd_T45 l1 x29_1).f1) x44_2) x52_3).f0) y155) = some (r1, r2, r3) := by first | (rw [hy155]; with_reducible exact H) | (have H2_ := (Option.bind_some _ _).symm.trans H; rw [hy155]; with_reducible exact H2_) | (have H2_ := (Option.bind_some _ _).symm.trans H; with_reducible exact H2_) | with_reducible exact H | (rw [hy155]; exact H) | exact H
                        have Ny155 := Aside0.mk hy155
                        clear hy155
                        have H' := Aside0.mk H
                        clear H
                        try go_wp2
                        have n0_ := Aside0.mk (Kd.R_drew HO_138001.out)
                        have n1_ := Aside0.mk (Kd.R_drew HO_138002.out)
                        have n2_ := Aside0.mk (Kd.S_drew HO_145001.out)
                        have n3_ := Aside0.mk (Kd.R_drew HO_151001.out)
                        have n4_ := Aside0.mk (blk_drew BK135.out)
                        have n5_ := Aside0.mk (blk_drew BK137.out)
                        have n6_ := Aside0.mk (blk_drew BK139.out)
                        have n7_ := Aside0.mk (blk_drew BK144.out)
                        have n8_ := Aside0.mk (blk_drew BK149.out)
                        have n9_ := Aside0.mk (blk_drew BK150.out)
                        have n10_ := Aside0.mk (below_drew1 HB.out)
                        clear HO_138001
                        clear HO_138002
                        clear HO_145001
                        clear HO_151001
                        clear BK135
                        clear BK137
                        clear BK139
                        clear BK144
                        clear BK149
                        clear BK150
                        clear HB
                        have HO_138001 := n0_
                        have HO_138002 := n1_
                        have HO_145001 := n2_
                        have HO_151001 := n3_
                        have BK135 := n4_
                        have BK137 := n5_
                        have BK139 := n6_
                        have BK144 := n7_
                        have BK149 := n8_
                        have BK150 := n9_
                        have HB := n10_
                        clear n0_ n1_ n2_ n3_ n4_ n5_ n6_ n7_ n8_ n9_ n10_
                        have p151 : 0 ≤ (x62_4 : Int) := of_decide_eq_true (by first | (with_reducible assumption) | assumption)
                        have q151 : x62_4 < (((rd_T64 (rd_L11 ((rd_T45 l1 x29_1).f1) x44_2) x52_3).f1).length : Int) := of_decide_eq_true (by first | (with_reducible assumption) | assumption)
                        obtain ⟨ad151, e151, hx151_0, hx151_1, hx151_2, hx151_3⟩ := at_T61 HR148_1.out x62_4 p151 q151
                        have hw151_3 := hx151_3
                        have hw151_2 := hx151_2
                        have hw151_1 := hx151_1
                        have hw151_0 := hx151_0
                        cases e151
                        replace hx151_0 := (HB.out.cell (World.block_lt_of_cell? w _ hx151_0)).trans hx151_0
                        replace hx151_1 := (HB.out.cell (World.block_lt_of_cell? w _ hx151_1)).trans hx151_1
                        replace hx151_2 := (HB.out.cell (World.block_lt_of_cell? w _ hx151_2)).trans hx151_2
                        replace hx151_3 := (HB.out.cell (World.block_lt_of_cell? w _ hx151_3)).trans hx151_3
                        replace p151 := eq_true p151
                        replace q151 := eq_true q151
                        refine start_ (n := 11) (S := fun w' => w'.cell? ⟨gb150, 0, none⟩ = some (.bool ((rd_T64 (rd_L11 ((rd_T45 l1 x29_1).f1) x44_2) x52_3).f0)) ∧ w'.cell? ⟨gb150, 1, none⟩ = some (u151001) ∧ w'.cell? ⟨gb149, 0, none⟩ = some (.bool ((rd_T64 (rd_L11 ((rd_T45 l1 x29_1).f1) x44_2) x52_3).f0)) ∧ w'.cell? ⟨gb149, 1, none⟩ = some (.slice (some ad151) ((rd_T64 (rd_L11 ((rd_T45 l1 x29_1).f1) x44_2) x52_3).f1).length c148_1) ∧ w'.cell? (ad151.add ((x62_4).toNat * 4)) = some (.int .i64 ((rd_T61 ((rd_T64 (rd_L11 ((rd_T45 l1 x29_1).f1) x44_2) x52_3).f1) x62_4).f0)) ∧ w'.cell? ⟨(ad151.add ((x62_4).toNat * 4)).block, (ad151.add ((x62_4).toNat * 4)).off + 1, none⟩ = some (.string ((rd_T61 ((rd_T64 (rd_L11 ((rd_T45 l1 x29_1).f1) x44_2) x52_3).f1) x62_4).f1)) ∧ w'.cell? ⟨(ad151.add ((x62_4).toNat * 4)).block, (ad151.add ((x62_4).toNat * 4)).off + 2, none⟩ = some (.int .i64 ((rd_T61 ((rd_T64 (rd_L11 ((rd_T45 l1 x29_1).f1) x44_2) x52_3).f1) x62_4).f2)) ∧ w'.cell? ⟨(ad151.add ((x62_4).toNat * 4)).block, (ad151.add ((x62_4).toNat * 4)).off + 3, none⟩ = some (.int .i64 ((rd_T61 ((rd_T64 (rd_L11 ((rd_T45 l1 x29_1).f1) x44_2) x52_3).f1) x62_4).f3))) (ds := [10]) #[false, false, false, false, false, false, false, false, false, false, false] (by kernel_rfl) rfl rfl ⟨(blk_cell BK150.out 0).trans rfl, (blk_cell BK150.out 1).trans rfl, (blk_cell BK149.out 0).trans rfl, (blk_cell BK149.out 1).trans rfl, ((HB.out.cell (World.block_lt_of_cell? w _ hw151_0)).trans hw151_0), ((HB.out.cell (World.block_lt_of_cell? w _ hw151_1)).trans hw151_1), ((HB.out.cell (World.block_lt_of_cell? w _ hw151_2)).trans hw151_2), ((HB.out.cell (World.block_lt_of_cell? w _ hw151_3)).trans hw151_3)⟩ (fun hHeld => ?_); refine with_tabW gram_made.tab17 gram_made.bits17 (fun HT_ HW_ => ?_)
                        generalize wr.drew = w53 at HO_138001 HO_138002 HO_145001 HO_151001 BK135 BK137 BK139 BK144 BK149 BK150 HB hx151_0 hx151_1 hx151_2 hx151_3 hHeld ⊢
                        refine pure_ (i := 0) (N := some 65) (v := ?_) (a' := ?_) #[true, false, false, false, false, false, false, false, false, false, false] rfl rfl (any_of HT_.out (by kernel_rfl)) (fun _ _ _ h => h) (Or.inl ⟨by rfl, ?_⟩) ?_ ?_
                        rotate_left
                        ·intro w'
                         go_simp
                         with_reducible rfl
                        rotate_left
                        ·simp only [Act.put, List.setIfInBounds_toArray, List.set_cons_zero, List.set_cons_succ, i64_w, i32_w]
                         rfl
                        refine pure_ (i := 2) (N := some 67) (v := ?_) (a' := ?_) #[true, false, true, false, false, false, false, false, false, false, false] rfl rfl (any_of HT_.out (by kernel_rfl)) (fun _ _ _ h => h) (Or.inl ⟨by rfl, ?_⟩) ?_ ?_
                        rotate_left
                        ·intro w'
                         go_simp
                         with_reducible rfl
                        rotate_left
                        ·simp only [Act.put, List.setIfInBounds_toArray, List.set_cons_zero, List.set_cons_succ, i64_w, i32_w]
                         rfl
                        refine pure_ (i := 4) (N := some 69) (v := ?_) (a' := ?_) #[true, false, true, false, true, false, false, false, false, false, false] rfl rfl (any_of HT_.out (by kernel_rfl)) (fun _ _ _ h => h) (Or.inl ⟨by rfl, ?_⟩) ?_ ?_
                        rotate_left
                        ·intro w'
                         go_simp
                         with_reducible rfl
                        rotate_left
                        ·simp only [Act.put, List.setIfInBounds_toArray, List.set_cons_zero, List.set_cons_succ, i64_w, i32_w]
                         rfl
                        refine pure_ (i := 6) (N := some 71) (v := ?_) (a' := ?_) #[true, false, true, false, true, false, true, false, false, false, false] rfl rfl (any_of HT_.out (by kernel_rfl)) (fun _ _ _ h => h) (Or.inl ⟨by rfl, ?_⟩) ?_ ?_
                        rotate_left
                        ·intro w'
                         go_simp
                         with_reducible rfl
                        rotate_left
                        ·simp only [Act.put, List.setIfInBounds_toArray, List.set_cons_zero, List.set_cons_succ, i64_w, i32_w]
                         rfl
                        refine take_ (i := 1) (N := some 66) (v := ?_) (a' := ?_) #[true, true, true, false, true, false, true, false, false, false, false] rfl rfl (take_ofW HT_.out HW_.out (by kernel_rfl)) (fun _ _ _ h => h) (Or.inl ⟨by rfl, ?_⟩) hHeld ?_ ?_
                        rotate_left
                        ·rintro w' ⟨s0, s1, s2, s3, s4, s5, s6, s7⟩
                         go_simp
                         with_reducible rfl
                        rotate_left
                        ·simp only [Act.put, List.setIfInBounds_toArray, List.set_cons_zero, List.set_cons_succ, i64_w, i32_w]
                         rfl
                        refine take_ (i := 3) (N := some 68) (v := ?_) (a' := ?_) #[true, true, true, true, true, false, true, false, false, false, false] rfl rfl (take_ofW HT_.out HW_.out (by kernel_rfl)) (fun _ _ _ h => h) (Or.inl ⟨by rfl, ?_⟩) hHeld ?_ ?_
                        rotate_left
                        ·rintro w' ⟨s0, s1, s2, s3, s4, s5, s6, s7⟩
                         go_simp
                         with_reducible rfl
                        rotate_left
                        ·simp only [Act.put, List.setIfInBounds_toArray, List.set_cons_zero, List.set_cons_succ, i64_w, i32_w]
                         rfl
                        refine pure_ (i := 5) (N := some 70) (v := ?_) (a' := ?_) #[true, true, true, true, true, true, true, false, false, false, false] rfl rfl (any_of HT_.out (by kernel_rfl)) (fun _ _ _ h => h) (Or.inl ⟨by rfl, ?_⟩) ?_ ?_
                        rotate_left
                        ·intro w'
                         go_simp
                         with_reducible rfl
                        rotate_left
                        ·simp only [Act.put, List.setIfInBounds_toArray, List.set_cons_zero, List.set_cons_succ, i64_w, i32_w]
                         rfl
                        refine one_ (i := 7) (N := some 72) #[true, true, true, true, true, true, true, true, false, false, false] rfl rfl (one_of HT_.out (by kernel_rfl)) (by decide) (fun K hK => ?_)
                        refine goes_ Try.func41 (by kernel_rfl) rfl #[.pointer ((some ad151 : Option Addr).map (fun a_ => a_.add (x62_4.toNat * 4))), .map (some gm)] (by rfl) rfl rfl (by (try simp only [List.map_toArray, List.map_cons, List.map_nil]); first | done | rfl | (simp only [List.length_drop, List.length_take]; rfl)) ?_
                        with_reducible refine (gram_symbols.calls k4 gm _ c148_1 ((rd_T64 (rd_L11 ((rd_T45 l1 x29_1).f1) x44_2) x52_3).f1) x62_4 a2 t152 _ ?side1 ?side2 (mapIs_step HM.out HB.out) A51.out).mono ?_
                        (case side1 => repeat (first | exact (Kd.C_below HR148_1.out HB.out) | (with_reducible refine Kd.C_alloc ?_ _) | (with_reducible refine Kd.C_drewN ?_ _) | (with_reducible refine Kd.C_drew ?_)))
                        (case side2 => exact HC148_1.out)
                        rintro e w54 ⟨v153, rfl, ho0, hb⟩
                        refine ⟨_, rfl, ?_⟩
                        have n0_ := Aside0.mk (Kd.R_below (by (with_reducible repeat (first | apply Kd.R_alloc | apply Kd.R_drewN | apply Kd.R_drew)); exact HO_138001.out) hb)
                        have n1_ := Aside0.mk (Kd.R_elder' (by (with_reducible repeat (first | apply Kd.R_alloc | apply Kd.R_drewN | apply Kd.R_drew)); exact HO_138002.out) (Kd.R_base ho0) hb)
                        have n2_ := Aside0.mk (Kd.S_elder' (by (with_reducible repeat (first | apply Kd.S_alloc | apply Kd.S_drewN | apply Kd.S_drew)); exact HO_145001.out) (Kd.R_base ho0) hb)
                        have n3_ := Aside0.mk (Kd.R_elder' (by (with_reducible repeat (first | apply Kd.R_alloc | apply Kd.R_drewN | apply Kd.R_drew)); exact HO_151001.out) (Kd.R_base ho0) hb)
                        have n4_ := Aside0.mk (Kd.R_lower (Kd.R_new' ho0 (Kd.R_lt (by (with_reducible repeat (first | apply Kd.R_alloc | apply Kd.R_drewN | apply Kd.R_drew)); exact HO_151001.out))) (below_size (by repeat (first | (with_reducible first | exact HB.out | apply below_alloc | apply pw_below_drewN | apply below_drew1 | refine below_set ?_ GE135.out | refine below_set ?_ GE137.out | refine below_set ?_ GE139.out | refine below_set ?_ GE144.out | refine below_set ?_ GE149.out | refine below_set ?_ GE150.out) | exact HB.out))))
                        have n5_ := Aside0.mk (blk_below (g := gb135) (o := .cells #[.int .i64 0, .slice none 0 0, .slice none 0 0] 28 (0, 0)) (by (with_reducible repeat (first | refine blk_drewN ?_ _ | refine blk_drew ?_ | refine blk_alloc ?_ _)); exact BK135.out) hb)
                        have n6_ := Aside0.mk (blk_below (g := gb137) (o := .cells #[.int .i64 (mget a2 (rdOf ByteArray.empty l0 0)), .slice Ao20 y140.length co20, u138002] 28 (0, 0)) (by (with_reducible repeat (first | refine blk_drewN ?_ _ | refine blk_drew ?_ | refine blk_alloc ?_ _)); exact BK137.out) hb)
                        have n7_ := Aside0.mk (blk_below (g := gb139) (o := .cells #[.string ((rd_T45 l1 x29_1).f0), .slice (some ad143) ((rd_T45 l1 x29_1).f1).length c138_1] 45 (0, 0)) (by (with_reducible repeat (first | refine blk_drewN ?_ _ | refine blk_drew ?_ | refine blk_alloc ?_ _)); exact BK139.out) hb)
                        have n8_ := Aside0.mk (blk_below (g := gb144) (o := .cells #[.int .i64 x29_1, u145001] 51 (0, 0)) (by (with_reducible repeat (first | refine blk_drewN ?_ _ | refine blk_drew ?_ | refine blk_alloc ?_ _)); exact BK144.out) hb)
                        have n9_ := Aside0.mk (blk_below (g := gb149) (o := .cells #[.bool ((rd_T64 (rd_L11 ((rd_T45 l1 x29_1).f1) x44_2) x52_3).f0), .slice (some ad151) ((rd_T64 (rd_L11 ((rd_T45 l1 x29_1).f1) x44_2) x52_3).f1).length c148_1] 64 (0, 0)) (by (with_reducible repeat (first | refine blk_drewN ?_ _ | refine blk_drew ?_ | refine blk_alloc ?_ _)); exact BK149.out) hb)
                        have n10_ := Aside0.mk (blk_below (g := gb150) (o := .cells #[.bool ((rd_T64 (rd_L11 ((rd_T45 l1 x29_1).f1) x44_2) x52_3).f0), u151001] 54 (0, 0)) (by (with_reducible repeat (first | refine blk_drewN ?_ _ | refine blk_drew ?_ | refine blk_alloc ?_ _)); exact BK150.out) hb)
                        have n11_ := Aside0.mk (below_step (by repeat (first | (with_reducible first | exact HB.out | apply below_alloc | apply pw_below_drewN | apply below_drew1 | refine below_set ?_ GE135.out | refine below_set ?_ GE137.out | refine below_set ?_ GE139.out | refine below_set ?_ GE144.out | refine below_set ?_ GE149.out | refine below_set ?_ GE150.out) | exact HB.out)) hb)
                        clear HO_138001
                        clear HO_138002
                        clear HO_145001
                        clear HO_151001
                        clear BK135
                        clear BK137
                        clear BK139
                        clear BK144
                        clear BK149
                        clear BK150
                        clear HB
                        have HO_138001 := n0_
                        have HO_138002 := n1_
                        have HO_145001 := n2_
                        have HO_151001 := n3_
                        have HO154 := n4_
                        have BK135 := n5_
                        have BK137 := n6_
                        have BK139 := n7_
                        have BK144 := n8_
                        have BK149 := n9_
                        have BK150 := n10_
                        have HB := n11_
                        clear n0_ n1_ n2_ n3_ n4_ n5_ n6_ n7_ n8_ n9_ n10_ n11_
                        (try clear hb)
                        (try clear hb2)
                        (try clear hk)
                        (try clear hi)
                        (try clear ho0)
                        obtain ⟨Ao56, co56, eo56⟩ := Kd.R_slice HO154.out
                        (first | subst eo56 | (injection eo56 with f1_ f2_ f3_; have f4_ := f1_.symm; have f5_ := f3_.symm; clear f1_ f2_ f3_; subst f4_; subst f5_))
                        refine hK.out _ _ ⟨(blk_cell BK150.out 0).trans rfl, (blk_cell BK150.out 1).trans rfl, (blk_cell BK149.out 0).trans rfl, (blk_cell BK149.out 1).trans rfl, ((HB.out.cell (World.block_lt_of_cell? w _ hw151_0)).trans hw151_0), ((HB.out.cell (World.block_lt_of_cell? w _ hw151_1)).trans hw151_1), ((HB.out.cell (World.block_lt_of_cell? w _ hw151_2)).trans hw151_2), ((HB.out.cell (World.block_lt_of_cell? w _ hw151_3)).trans hw151_3)⟩ (fun hHeld => ?_)
                        clear hK K
                        refine norm_ (a' := ?_) ?_ ?_
                        rotate_left
                        ·show Act.put _ (some 72) _ = _
                         simp only [Act.put, List.setIfInBounds_toArray, List.set_cons_zero, List.set_cons_succ, i64_w, i32_w]
                         rfl
                        refine one_ (i := 8) (N := some 73) #[true, true, true, true, true, true, true, true, true, false, false] rfl rfl (one_of HT_.out (by kernel_rfl)) (by decide) (fun K hK => ?_)
                        refine Kd.R_append_rows_step k56 (w0 := w) w.heap.size (by rfl) (.tmp 66) (.tmp 72) 52 56 (.agg #[(.int .i64 0), (.int .i64 0), (.int .i64 0)]) 24 rfl Try.underlying52 info56 rfl (by decide) (by omega) u151001 x151001_4 t152 _ _ _ (fun k_ => some k_ ≠ (.slice Ao56 t152.length co56 : Value).ownBlock) (fun _ => False) rfl rfl ?aO ?aR (fun _ _ h => h) (fun _ h => h.elim) ?aF ?aB ?aS ?aL ?_
                        (case aR => repeat (first | exact (Kd.R_reads' HO154.out).2.2 | (with_reducible refine Kd.C_alloc ?_ _) | (with_reducible refine Kd.C_drewN ?_ _) | (with_reducible refine Kd.C_drew ?_)))
                        (case aB => exact (by repeat (first | (with_reducible first | exact HB.out | apply below_alloc | apply pw_below_drewN | apply below_drew1 | refine below_set ?_ GE135.out | refine below_set ?_ GE137.out | refine below_set ?_ GE139.out | refine below_set ?_ GE144.out | refine below_set ?_ GE149.out | refine below_set ?_ GE150.out) | exact HB.out)))
                        (case aF => exact (fun k_ hk => Kd.fresh' (Kd.R_lt (by (with_reducible repeat (first | apply Kd.R_alloc | apply Kd.R_drewN | apply Kd.R_drew)); exact HO154.out)) k_ hk))
                        (case aO => exact (by (with_reducible repeat (first | apply Kd.R_alloc | apply Kd.R_drewN | apply Kd.R_drew)); exact Kd.R_mono HO_151001.out (fun _ hk => hk.2)))
                        (case aS => exact (below_size (by repeat (first | (with_reducible first | exact HB.out | apply below_alloc | apply pw_below_drewN | apply below_drew1 | refine below_set ?_ GE135.out | refine below_set ?_ GE137.out | refine below_set ?_ GE139.out | refine below_set ?_ GE144.out | refine below_set ?_ GE149.out | refine below_set ?_ GE150.out) | exact HB.out))))
                        (case aL => have := LMc52.out; omega)
                        intro v156 w55 ho hb hg hat
                        rw [← Ny155.out] at ho
                        have n0_ := Aside0.mk (Kd.R_over' (by (with_reducible repeat (first | apply Kd.R_alloc | apply Kd.R_drewN | apply Kd.R_drew)); exact HO_138001.out) (Kd.R_typed (by (with_reducible repeat (first | apply Kd.R_alloc | apply Kd.R_drewN | apply Kd.R_drew)); exact HO_151001.out)) (by decide) hg)
                        have n1_ := Aside0.mk (Kd.R_after (ok := (fun k_ => some k_ ≠ (u145001 : Value).ownBlock ∧ some k_ ≠ (.slice Ao56 t152.length co56 : Value).ownBlock ∧ k_ ≠ gb144 ∧ k_ ≠ gb150)) (by (with_reducible repeat (first | apply Kd.R_alloc | apply Kd.R_drewN | apply Kd.R_drew)); exact Kd.R_mono HO_138002.out (fun _ hk => ⟨⟨hk.1.1, ⟨hk.2, ⟨hk.1.2.2.1, hk.1.2.2.2⟩⟩⟩, hk.1.2.1⟩)) hg hat)
                        have n2_ := Aside0.mk (Kd.S_after (ok := (fun k_ => some k_ ≠ (.slice Ao56 t152.length co56 : Value).ownBlock ∧ k_ ≠ gb150)) (by (with_reducible repeat (first | apply Kd.S_alloc | apply Kd.S_drewN | apply Kd.S_drew)); exact Kd.S_mono HO_145001.out (fun _ hk => ⟨⟨hk.2, hk.1.2⟩, hk.1.1⟩)) hg hat)
                        have n3_ := Aside0.mk (blk_grown (g := gb135) (o := .cells #[.int .i64 0, .slice none 0 0, .slice none 0 0] 28 (0, 0)) (by (with_reducible repeat (first | refine blk_drewN ?_ _ | refine blk_drew ?_ | refine blk_alloc ?_ _)); exact BK135.out) hg (Kd.R_ne HO_151001.out BK135.out (by decide)))
                        have n4_ := Aside0.mk (blk_grown (g := gb137) (o := .cells #[.int .i64 (mget a2 (rdOf ByteArray.empty l0 0)), .slice Ao20 y140.length co20, u138002] 28 (0, 0)) (by (with_reducible repeat (first | refine blk_drewN ?_ _ | refine blk_drew ?_ | refine blk_alloc ?_ _)); exact BK137.out) hg (Kd.R_ne HO_151001.out BK137.out (by decide)))
                        have n5_ := Aside0.mk (blk_grown (g := gb139) (o := .cells #[.string ((rd_T45 l1 x29_1).f0), .slice (some ad143) ((rd_T45 l1 x29_1).f1).length c138_1] 45 (0, 0)) (by (with_reducible repeat (first | refine blk_drewN ?_ _ | refine blk_drew ?_ | refine blk_alloc ?_ _)); exact BK139.out) hg (Kd.R_ne HO_151001.out BK139.out (by decide)))
                        have n6_ := Aside0.mk (blk_grown (g := gb144) (o := .cells #[.int .i64 x29_1, u145001] 51 (0, 0)) (by (with_reducible repeat (first | refine blk_drewN ?_ _ | refine blk_drew ?_ | refine blk_alloc ?_ _)); exact BK144.out) hg (Kd.R_ne HO_151001.out BK144.out (by decide)))
                        have n7_ := Aside0.mk (blk_grown (g := gb149) (o := .cells #[.bool ((rd_T64 (rd_L11 ((rd_T45 l1 x29_1).f1) x44_2) x52_3).f0), .slice (some ad151) ((rd_T64 (rd_L11 ((rd_T45 l1 x29_1).f1) x44_2) x52_3).f1).length c148_1] 64 (0, 0)) (by (with_reducible repeat (first | refine blk_drewN ?_ _ | refine blk_drew ?_ | refine blk_alloc ?_ _)); exact BK149.out) hg (Kd.R_ne HO_151001.out BK149.out (by decide)))
                        have n8_ := Aside0.mk (blk_grown (g := gb150) (o := .cells #[.bool ((rd_T64 (rd_L11 ((rd_T45 l1 x29_1).f1) x44_2) x52_3).f0), u151001] 54 (0, 0)) (by (with_reducible repeat (first | refine blk_drewN ?_ _ | refine blk_drew ?_ | refine blk_alloc ?_ _)); exact BK150.out) hg (Kd.R_ne HO_151001.out BK150.out (by decide)))
                        have n9_ := Aside0.mk (Kd.R_after (ok := (fun _ => True)) (by (with_reducible repeat (first | apply Kd.R_alloc | apply Kd.R_drewN | apply Kd.R_drew)); exact HO154.out) hg hat)
                        have n10_ := Aside0.mk (hb)
                        have n11_ := Aside0.mk (ho)
                        clear HO_138001
                        clear HO_138002
                        clear HO_145001
                        clear BK135
                        clear BK137
                        clear BK139
                        clear BK144
                        clear BK149
                        clear BK150
                        clear HO154
                        clear HB
                        clear HO_151001
                        have HO_138001 := n0_
                        have HO_138002 := n1_
                        have HO_145001 := n2_
                        have BK135 := n3_
                        have BK137 := n4_
                        have BK139 := n5_
                        have BK144 := n6_
                        have BK149 := n7_
                        have BK150 := n8_
                        have HO154 := n9_
                        have HB := n10_
                        have HO157 := n11_
                        clear n0_ n1_ n2_ n3_ n4_ n5_ n6_ n7_ n8_ n9_ n10_ n11_
                        clear ho hb hg hat
                        obtain ⟨Ao57, co57, eo57⟩ := Kd.R_slice HO157.out
                        (first | subst eo57 | (injection eo57 with f1_ f2_ f3_; have f4_ := f1_.symm; have f5_ := f3_.symm; clear f1_ f2_ f3_; subst f4_; subst f5_))
                        refine hK.out _ _ ⟨(blk_cell BK150.out 0).trans rfl, (blk_cell BK150.out 1).trans rfl, (blk_cell BK149.out 0).trans rfl, (blk_cell BK149.out 1).trans rfl, ((HB.out.cell (World.block_lt_of_cell? w _ hw151_0)).trans hw151_0), ((HB.out.cell (World.block_lt_of_cell? w _ hw151_1)).trans hw151_1), ((HB.out.cell (World.block_lt_of_cell? w _ hw151_2)).trans hw151_2), ((HB.out.cell (World.block_lt_of_cell? w _ hw151_3)).trans hw151_3)⟩ (fun hHeld => ?_)
                        clear hK K
                        refine norm_ (a' := ?_) ?_ ?_
                        rotate_left
                        ·show Act.put _ (some 73) _ = _
                         simp only [Act.put, List.setIfInBounds_toArray, List.set_cons_zero, List.set_cons_succ, i64_w, i32_w]
                         rfl
                        refine pure_ (i := 9) (N := some 74) (v := ?_) (a' := ?_) #[true, true, true, true, true, true, true, true, true, true, false] rfl rfl (any_of HT_.out (by kernel_rfl)) (fun _ _ _ h => h) (Or.inl ⟨by rfl, ?_⟩) ?_ ?_
                        rotate_left
                        ·intro w'
                         go_simp
                         with_reducible rfl
                        rotate_left
                        ·simp only [Act.put, List.setIfInBounds_toArray, List.set_cons_zero, List.set_cons_succ, i64_w, i32_w]
                         rfl
                        refine last_ (i := 10) (N := none) #[true, true, true, true, true, true, true, true, true, true, true] rfl rfl (one_of HT_.out (by kernel_rfl)) (by decide) (fun K hK => ?_)
                        have hs58 : w55.cell? ⟨gb150, 1, none⟩ = some (u151001) := (blk_cell BK150.out 1).trans rfl
                        have hfs58 := blk_frozen BK150.out 1
                        have hns58_0 := NB135_150.out
                        have hns58_1 := NB137_150.out
                        have hns58_2 := NB139_150.out
                        have hns58_3 := NB144_150.out
                        have hns58_4 := NB149_150.out
                        have hms58_0 := NB150_135.out
                        have hms58_1 := NB150_137.out
                        have hms58_2 := NB150_139.out
                        have hms58_3 := NB150_144.out
                        have hms58_4 := NB150_149.out
                        refine skip_ (w1 := ?_) (by rfl) rfl ?_ ?_
                        rotate_left
                        ·go_simp
                         rfl
                        refine hK.out _ _ ?_
                        clear hK K
                        refine done_ (done_of HT_.out (by kernel_rfl)) ?_
                        try go_wp2
                        go_roundg k4
                        case measure => have := HK1.out; have := HK2.out; have := HK3.out; have := HK4.out; omega
                        case rel => exact ⟨(wrap64 (x62_4 + 1)), (y155), (.slice Ao57 y155.length co57), (by first | rfl | (simp; done) | (simp [i64_w]; done) | (simp [*]; done) | (simp [*, i64_w]; done) | (simp [*]; unfold wrap64; omega)), H', ⟨by have := HK1.out; have := HK2.out; have := HK3.out; have := HK4.out; omega⟩, ⟨by (with_reducible repeat (first | apply Kd.R_alloc | apply Kd.R_drewN | apply Kd.R_drew)); exact Kd.R_mono (Kd.R_far (p := ⟨gb150, 1, none⟩) (Kd.R_types HO_138001.out BK150.out (by decide)) (fun _ hk => hk.2) (.slice Ao57 y155.length co57)) (fun _ hk => trivial)⟩, ⟨by (with_reducible repeat (first | apply Kd.R_alloc | apply Kd.R_drewN | apply Kd.R_drew)); exact Kd.R_mono (Kd.R_far (p := ⟨gb150, 1, none⟩) (Kd.R_mono HO_138002.out (fun k_ hk => (⟨hk, hk.1.2.2.2⟩ : _ ∧ k_ ≠ gb150))) (fun _ hk => hk.2) (.slice Ao57 y155.length co57)) (fun _ hk => ⟨hk.1.1.1, ⟨hk.1.2, ⟨hk.1.1.2.2.1, hk.1.1.2.2.2⟩⟩⟩)⟩, ⟨by (with_reducible repeat (first | apply Kd.S_alloc | apply Kd.S_drewN | apply Kd.S_drew)); exact Kd.S_mono (Kd.S_far (p := ⟨gb150, 1, none⟩) (Kd.S_mono HO_145001.out (fun k_ hk => (⟨hk, hk.1.2⟩ : _ ∧ k_ ≠ gb150))) (fun _ hk => hk.2) (.slice Ao57 y155.length co57)) (fun _ hk => ⟨hk.1.2, hk.1.1.2⟩)⟩, ⟨by (with_reducible repeat (first | apply Kd.R_alloc | apply Kd.R_drewN | apply Kd.R_drew)); exact Kd.R_mono (Kd.R_far (p := ⟨gb150, 1, none⟩) (Kd.R_types HO157.out BK150.out (by decide)) (fun _ hk => hk.2) (.slice Ao57 y155.length co57)) (fun _ hk => trivial)⟩, ⟨by (with_reducible repeat (first | refine blk_drewN ?_ _ | refine blk_drew ?_ | refine blk_alloc ?_ _)); refine blk_far ?_ NB135_150.out _; (with_reducible repeat (first | refine blk_drewN ?_ _ | refine blk_drew ?_ | refine blk_alloc ?_ _)); exact BK135.out⟩, ⟨by (with_reducible repeat (first | refine blk_drewN ?_ _ | refine blk_drew ?_ | refine blk_alloc ?_ _)); refine blk_far ?_ NB137_150.out _; (with_reducible repeat (first | refine blk_drewN ?_ _ | refine blk_drew ?_ | refine blk_alloc ?_ _)); exact BK137.out⟩, ⟨by (with_reducible repeat (first | refine blk_drewN ?_ _ | refine blk_drew ?_ | refine blk_alloc ?_ _)); refine blk_far ?_ NB139_150.out _; (with_reducible repeat (first | refine blk_drewN ?_ _ | refine blk_drew ?_ | refine blk_alloc ?_ _)); exact BK139.out⟩, ⟨by (with_reducible repeat (first | refine blk_drewN ?_ _ | refine blk_drew ?_ | refine blk_alloc ?_ _)); refine blk_far ?_ NB144_150.out _; (with_reducible repeat (first | refine blk_drewN ?_ _ | refine blk_drew ?_ | refine blk_alloc ?_ _)); exact BK144.out⟩, ⟨by (with_reducible repeat (first | refine blk_drewN ?_ _ | refine blk_drew ?_ | refine blk_alloc ?_ _)); refine blk_far ?_ NB149_150.out _; (with_reducible repeat (first | refine blk_drewN ?_ _ | refine blk_drew ?_ | refine blk_alloc ?_ _)); exact BK149.out⟩, ⟨by (with_reducible repeat (first | refine blk_drewN ?_ _ | refine blk_drew ?_ | refine blk_alloc ?_ _)); refine blk_put (cs := #[.bool ((rd_T64 (rd_L11 ((rd_T45 l1 x29_1).f1) x44_2) x52_3).f0), u151001]) ?_ 1 _ rfl; (with_reducible repeat (first | refine blk_drewN ?_ _ | refine blk_drew ?_ | refine blk_alloc ?_ _)); exact BK150.out⟩, ⟨by repeat (first | (with_reducible first | exact HB.out | apply below_alloc | apply pw_below_drewN | apply below_drew1 | refine below_set ?_ GE135.out | refine below_set ?_ GE137.out | refine below_set ?_ GE139.out | refine below_set ?_ GE144.out | refine below_set ?_ GE149.out | refine below_set ?_ GE150.out) | exact HB.out)⟩⟩
                       ·rw [if_neg c52] at H
                        exact absurd H (by simp)
                      ·rw [if_neg c50] at H
                       exact absurd H (by simp)
                     ·rw [if_neg c49] at H
                      exact absurd H (by simp)
                    ·rw [if_neg c48] at H
                     have c48b0 : decide (x62_4 < (((rd_T64 (rd_L11 ((rd_T45 l1 x29_1).f1) x44_2) x52_3).f1).length : Int)) = false := decide_eq_false c48
                     clear c48
                     by_cases c59 : x145001_3.length < 4398046511104
                     ·rw [if_pos c59] at H
                      have LMc59 := Aside0.mk c59
                      clear c59
                      obtain ⟨y158, hy158⟩ : ∃ y_ : List (S54), y_ = (x145001_3 ++ [(⟨((rd_T64 (rd_L11 ((rd_T45 l1 x29_1).f1) x44_2) x52_3).f0), x151001_4⟩ : S54)]) := ⟨_, rfl⟩
                      replace H : (gram_made.l2 k4 a2 x29_1 l1 (l1.length : Int) x29_1 ((rd_T45 l1 x29_1).f1) (((rd_T45 l1 x29_1).f1).length : Int) x44_2 (rd_L11 ((rd_T45 l1 x29_1).f1) x44_2) ((rd_L11 ((rd_T45 l1 x29_1).f1) x44_2).length : Int) (wrap64 (x52_3 + 1)) (mget a2 (rdOf ByteArray.empty l0 0)) y140 x138002_2 x29_1 y158) = some (r1, r2, r3) := by first | (rw [hy158]; with_reducible exact H) | (have H2_ := (Option.bind_some _ _).symm.trans H; rw [hy158]; with_reducible exact H2_) | (have H2_ := (Option.bind_some _ _).symm.trans H; with_reducible exact H2_) | with_reducible exact H | (rw [hy158]; exact H) | exact H
                      have Ny158 := Aside0.mk hy158
                      clear hy158
                      have H' := Aside0.mk H
                      clear H
                      have hnb60 := NB144_135.out
                      have hnc60 := NB135_144.out
                      have hnb61 := NB144_137.out
                      have hnc61 := NB137_144.out
                      have hnb62 := NB144_139.out
                      have hnc62 := NB139_144.out
                      have hnb63 := NB144_149.out
                      have hnc63 := NB149_144.out
                      have hnb64 := NB144_150.out
                      have hnc64 := NB150_144.out
                      have hcz65_0 : wr.cell? ⟨gb144, 0, none⟩ = some (.int .i64 x29_1) := (blk_cell BK144.out 0).trans rfl
                      have hcz65_1 : wr.cell? ⟨gb144, 1, none⟩ = some (u145001) := (blk_cell BK144.out 1).trans rfl
                      have hfz65_0 := blk_frozen BK144.out 0
                      have hfz65_1 := blk_frozen BK144.out 1
                      have hnb66 := NB150_135.out
                      have hnc66 := NB135_150.out
                      have hnb67 := NB150_137.out
                      have hnc67 := NB137_150.out
                      have hnb68 := NB150_139.out
                      have hnc68 := NB139_150.out
                      have hnb69 := NB150_149.out
                      have hnc69 := NB149_150.out
                      have hcz70_0 : wr.cell? ⟨gb150, 0, none⟩ = some (.bool ((rd_T64 (rd_L11 ((rd_T45 l1 x29_1).f1) x44_2) x52_3).f0)) := (blk_cell BK150.out 0).trans rfl
                      have hcz70_1 : wr.cell? ⟨gb150, 1, none⟩ = some (u151001) := (blk_cell BK150.out 1).trans rfl
                      have hfz70_0 := blk_frozen BK150.out 0
                      have hfz70_1 := blk_frozen BK150.out 1
                      obtain ⟨Ao72, co72, eo72⟩ := Kd.R_slice HO_151001.out
                      subst eo72
                      go_wp2_with (first | ((with_reducible refine gate_builtin (b := .append) (xs := #[.tmp 77, .tmp 79]) rfl ?_); at_builtin; refine Kd.S_append k54 (w0 := w) w.heap.size rfl (.tmp 77) (.tmp 79) 49 54 (.agg #[(.bool false), (.slice none 0 0)]) 32 rfl Try.underlying49 info54 rfl (by decide) (by omega) u145001 x145001_3 (⟨((rd_T64 (rd_L11 ((rd_T45 l1 x29_1).f1) x44_2) x52_3).f0), x151001_4⟩ : S54) [.bool ((rd_T64 (rd_L11 ((rd_T45 l1 x29_1).f1) x44_2) x52_3).f0), .slice Ao72 x151001_4.length co72] (fun k_ => k_ ≠ gb150) (fun k_ => some k_ = (.slice Ao72 x151001_4.length co72 : Value).ownBlock) rfl rfl ?aP (fun k_ hk_ => ((Kd.R_mono (ok' := fun k_ => ((fun k_ => k_ ≠ gb150)) k_ ∧ some k_ ≠ (u145001 : Value).ownBlock) (Kd.R_types (Kd.R_apart' (HO_151001.out) (Kd.S_typed HO_145001.out) (by decide)) BK150.out (by decide)) (fun k_ hk => ⟨hk.2, hk.1.2⟩))).1 k_ hk_.symm) ?aF ?aO ?aB ?aS ?aL ?_; (case aP => exact k54_mkM _ _ _ (⟨((rd_T64 (rd_L11 ((rd_T45 l1 x29_1).f1) x44_2) x52_3).f0), x151001_4⟩ : S54) (Kd.R_mono (Kd.R_tight rfl (Kd.R_mono (ok' := fun k_ => ((fun k_ => k_ ≠ gb150)) k_ ∧ some k_ ≠ (u145001 : Value).ownBlock) (Kd.R_types (Kd.R_apart' (HO_151001.out) (Kd.S_typed HO_145001.out) (by decide)) BK150.out (by decide)) (fun k_ hk => ⟨hk.2, hk.1.2⟩))) (fun _ h_ => h_))); (case aB => exact (by repeat (first | (with_reducible first | exact HB.out | apply below_alloc | apply pw_below_drewN | apply below_drew1 | refine below_set ?_ GE135.out | refine below_set ?_ GE137.out | refine below_set ?_ GE139.out | refine below_set ?_ GE144.out | refine below_set ?_ GE149.out | refine below_set ?_ GE150.out) | exact HB.out))); (case aF => exact (fun k_ hk => Kd.freshB (g := gb150) (o := .cells #[.bool ((rd_T64 (rd_L11 ((rd_T45 l1 x29_1).f1) x44_2) x52_3).f0), .slice Ao72 x151001_4.length co72] 54 (0, 0)) (by (with_reducible repeat (first | refine blk_drewN ?_ _ | refine blk_drew ?_ | refine blk_alloc ?_ _)); exact BK150.out) k_ hk)); (case aO => exact (by (with_reducible repeat (first | apply Kd.S_alloc | apply Kd.S_drewN | apply Kd.S_drew)); exact Kd.S_mono HO_145001.out (fun k_ hk => ⟨hk.2, fun e_ => hk.1 e_⟩))); (case aS => exact (below_size (by repeat (first | (with_reducible first | exact HB.out | apply below_alloc | apply pw_below_drewN | apply below_drew1 | refine below_set ?_ GE135.out | refine below_set ?_ GE137.out | refine below_set ?_ GE139.out | refine below_set ?_ GE144.out | refine below_set ?_ GE149.out | refine below_set ?_ GE150.out) | exact HB.out)))); (case aL => have := LMc59.out; omega); intro v159 w71 ho hb hg hat; rw [← Ny158.out] at ho; have n0_ := Aside0.mk (Kd.R_over' (by (with_reducible repeat (first | apply Kd.R_alloc | apply Kd.R_drewN | apply Kd.R_drew)); exact HO_138001.out) (Kd.S_typed (by (with_reducible repeat (first | apply Kd.S_alloc | apply Kd.S_drewN | apply Kd.S_drew)); exact HO_145001.out)) (by decide) hg); have n1_ := Aside0.mk (Kd.R_after (ok := (fun k_ => some k_ ≠ (.slice Ao72 x151001_4.length co72 : Value).ownBlock ∧ k_ ≠ gb144 ∧ k_ ≠ gb150)) (by (with_reducible repeat (first | apply Kd.R_alloc | apply Kd.R_drewN | apply Kd.R_drew)); exact Kd.R_mono HO_138002.out (fun _ hk => ⟨⟨hk.2.1, ⟨hk.2.2.1, hk.2.2.2⟩⟩, hk.1⟩)) hg hat); have n2_ := Aside0.mk (blk_grown (g := gb135) (o := .cells #[.int .i64 0, .slice none 0 0, .slice none 0 0] 28 (0, 0)) (by (with_reducible repeat (first | refine blk_drewN ?_ _ | refine blk_drew ?_ | refine blk_alloc ?_ _)); exact BK135.out) hg (Kd.S_ne HO_145001.out BK135.out (by decide))); have n3_ := Aside0.mk (blk_grown (g := gb137) (o := .cells #[.int .i64 (mget a2 (rdOf ByteArray.empty l0 0)), .slice Ao20 y140.length co20, u138002] 28 (0, 0)) (by (with_reducible repeat (first | refine blk_drewN ?_ _ | refine blk_drew ?_ | refine blk_alloc ?_ _)); exact BK137.out) hg (Kd.S_ne HO_145001.out BK137.out (by decide))); have n4_ := Aside0.mk (blk_grown (g := gb139) (o := .cells #[.string ((rd_T45 l1 x29_1).f0), .slice (some ad143) ((rd_T45 l1 x29_1).f1).length c138_1] 45 (0, 0)) (by (with_reducible repeat (first | refine blk_drewN ?_ _ | refine blk_drew ?_ | refine blk_alloc ?_ _)); exact BK139.out) hg (Kd.S_ne HO_145001.out BK139.out (by decide))); have n5_ := Aside0.mk (blk_grown (g := gb144) (o := .cells #[.int .i64 x29_1, u145001] 51 (0, 0)) (by (with_reducible repeat (first | refine blk_drewN ?_ _ | refine blk_drew ?_ | refine blk_alloc ?_ _)); exact BK144.out) hg (Kd.S_ne HO_145001.out BK144.out (by decide))); have n6_ := Aside0.mk (blk_grown (g := gb149) (o := .cells #[.bool ((rd_T64 (rd_L11 ((rd_T45 l1 x29_1).f1) x44_2) x52_3).f0), .slice A148_1 ((rd_T64 (rd_L11 ((rd_T45 l1 x29_1).f1) x44_2) x52_3).f1).length c148_1] 64 (0, 0)) (by (with_reducible repeat (first | refine blk_drewN ?_ _ | refine blk_drew ?_ | refine blk_alloc ?_ _)); exact BK149.out) hg (Kd.S_ne HO_145001.out BK149.out (by decide))); have n7_ := Aside0.mk (blk_grown (g := gb150) (o := .cells #[.bool ((rd_T64 (rd_L11 ((rd_T45 l1 x29_1).f1) x44_2) x52_3).f0), .slice Ao72 x151001_4.length co72] 54 (0, 0)) (by (with_reducible repeat (first | refine blk_drewN ?_ _ | refine blk_drew ?_ | refine blk_alloc ?_ _)); exact BK150.out) hg (Kd.S_away HO_145001.out (fun _ hk => hk.2))); have n8_ := Aside0.mk (hb); have n9_ := Aside0.mk (ho); clear HO_138001; clear HO_138002; clear BK135; clear BK137; clear BK139; clear BK144; clear BK149; clear BK150; clear HB; clear HO_145001; clear HO_151001; have HO_138001 := n0_; have HO_138002 := n1_; have BK135 := n2_; have BK137 := n3_; have BK139 := n4_; have BK144 := n5_; have BK149 := n6_; have BK150 := n7_; have HB := n8_; have HO160 := n9_; clear n0_ n1_ n2_ n3_ n4_ n5_ n6_ n7_ n8_ n9_; clear ho hb hg hat; obtain ⟨Ao73, co73, eo73⟩ := Kd.S_slice HO160.out; subst eo73; have hcz74_0 : w71.cell? ⟨gb144, 0, none⟩ = some (.int .i64 x29_1) := (blk_cell BK144.out 0).trans rfl; have hcz74_1 : w71.cell? ⟨gb144, 1, none⟩ = some (u145001) := (blk_cell BK144.out 1).trans rfl; have hfz74_0 := blk_frozen BK144.out 0; have hfz74_1 := blk_frozen BK144.out 1))
                      go_roundg k4
                      case measure => have := HK1.out; have := HK2.out; have := HK3.out; have := HK4.out; omega
                      case rel => exact ⟨(wrap64 (x52_3 + 1)), (y158), (.slice Ao73 y158.length co73), (by first | rfl | (simp; done) | (simp [i64_w]; done) | (simp [*]; done) | (simp [*, i64_w]; done) | (simp [*]; unfold wrap64; omega)), H', ⟨by have := HK1.out; have := HK2.out; have := HK3.out; have := HK4.out; omega⟩, ⟨by (with_reducible repeat (first | apply Kd.R_alloc | apply Kd.R_drewN | apply Kd.R_drew)); exact Kd.R_mono (Kd.R_far (p := ⟨gb144, 1, none⟩) (Kd.R_types HO_138001.out BK144.out (by decide)) (fun _ hk => hk.2) (.slice Ao73 y158.length co73)) (fun _ hk => trivial)⟩, ⟨by (with_reducible repeat (first | apply Kd.R_alloc | apply Kd.R_drewN | apply Kd.R_drew)); exact Kd.R_mono (Kd.R_far (p := ⟨gb144, 1, none⟩) (Kd.R_mono HO_138002.out (fun k_ hk => (⟨hk, hk.1.2.1⟩ : _ ∧ k_ ≠ gb144))) (fun _ hk => hk.2) (.slice Ao73 y158.length co73)) (fun _ hk => ⟨hk.1.2, hk.1.1.2.1⟩)⟩, ⟨by (with_reducible repeat (first | apply Kd.S_alloc | apply Kd.S_drewN | apply Kd.S_drew)); exact Kd.S_mono (Kd.S_far (p := ⟨gb144, 1, none⟩) (Kd.S_types HO160.out BK144.out (by decide)) (fun _ hk => hk.2) (.slice Ao73 y158.length co73)) (fun _ hk => trivial)⟩, ⟨by (with_reducible repeat (first | refine blk_drewN ?_ _ | refine blk_drew ?_ | refine blk_alloc ?_ _)); refine blk_far ?_ NB135_144.out _; (with_reducible repeat (first | refine blk_drewN ?_ _ | refine blk_drew ?_ | refine blk_alloc ?_ _)); exact BK135.out⟩, ⟨by (with_reducible repeat (first | refine blk_drewN ?_ _ | refine blk_drew ?_ | refine blk_alloc ?_ _)); refine blk_far ?_ NB137_144.out _; (with_reducible repeat (first | refine blk_drewN ?_ _ | refine blk_drew ?_ | refine blk_alloc ?_ _)); exact BK137.out⟩, ⟨by (with_reducible repeat (first | refine blk_drewN ?_ _ | refine blk_drew ?_ | refine blk_alloc ?_ _)); refine blk_far ?_ NB139_144.out _; (with_reducible repeat (first | refine blk_drewN ?_ _ | refine blk_drew ?_ | refine blk_alloc ?_ _)); exact BK139.out⟩, ⟨by (with_reducible repeat (first | refine blk_drewN ?_ _ | refine blk_drew ?_ | refine blk_alloc ?_ _)); refine blk_put (cs := #[.int .i64 x29_1, u145001]) ?_ 1 _ rfl; (with_reducible repeat (first | refine blk_drewN ?_ _ | refine blk_drew ?_ | refine blk_alloc ?_ _)); exact BK144.out⟩, ⟨by repeat (first | (with_reducible first | exact HB.out | apply below_alloc | apply pw_below_drewN | apply below_drew1 | refine below_set ?_ GE135.out | refine below_set ?_ GE137.out | refine below_set ?_ GE139.out | refine below_set ?_ GE144.out | refine below_set ?_ GE149.out | refine below_set ?_ GE150.out) | exact HB.out)⟩⟩
                     ·rw [if_neg c59] at H
                      exact absurd H (by simp)
                 ·rw [if_neg c33] at H
                  exact absurd H (by simp)
                ·rw [if_neg c32] at H
                 exact absurd H (by simp)
               ·rw [if_neg c31] at H
                have c31b0 : decide (x52_3 < ((rd_L11 ((rd_T45 l1 x29_1).f1) x44_2).length : Int)) = false := decide_eq_false c31
                clear c31
                by_cases c75 : x138002_2.length < 4398046511104
                ·rw [if_pos c75] at H
                 have LMc75 := Aside0.mk c75
                 clear c75
                 obtain ⟨y145, hy145⟩ : ∃ y_ : List (S51), y_ = (x138002_2 ++ [(⟨x29_1, x145001_3⟩ : S51)]) := ⟨_, rfl⟩
                 replace H : (gram_made.l1 k3 a2 x29_1 l1 (l1.length : Int) x29_1 ((rd_T45 l1 x29_1).f1) (((rd_T45 l1 x29_1).f1).length : Int) (wrap64 (x44_2 + 1)) (mget a2 (rdOf ByteArray.empty l0 0)) y140 y145) = some (r1, r2, r3) := by first | (rw [hy145]; with_reducible exact H) | (have H2_ := (Option.bind_some _ _).symm.trans H; rw [hy145]; with_reducible exact H2_) | (have H2_ := (Option.bind_some _ _).symm.trans H; with_reducible exact H2_) | with_reducible exact H | (rw [hy145]; exact H) | exact H
                 have Ny145 := Aside0.mk hy145
                 clear hy145
                 have H' := Aside0.mk H
                 clear H
                 have hnb76 := NB137_135.out
                 have hnc76 := NB135_137.out
                 have hnb77 := NB137_139.out
                 have hnc77 := NB139_137.out
                 have hnb78 := NB137_144.out
                 have hnc78 := NB144_137.out
                 have hcz79_0 : wr.cell? ⟨gb137, 0, none⟩ = some (.int .i64 (mget a2 (rdOf ByteArray.empty l0 0))) := (blk_cell BK137.out 0).trans rfl
                 have hcz79_1 : wr.cell? ⟨gb137, 1, none⟩ = some (.slice Ao20 y140.length co20) := (blk_cell BK137.out 1).trans rfl
                 have hcz79_2 : wr.cell? ⟨gb137, 2, none⟩ = some (u138002) := (blk_cell BK137.out 2).trans rfl
                 have hfz79_0 := blk_frozen BK137.out 0
                 have hfz79_1 := blk_frozen BK137.out 1
                 have hfz79_2 := blk_frozen BK137.out 2
                 have hnb80 := NB144_135.out
                 have hnc80 := NB135_144.out
                 have hnb81 := NB144_139.out
                 have hnc81 := NB139_144.out
                 have hcz82_0 : wr.cell? ⟨gb144, 0, none⟩ = some (.int .i64 x29_1) := (blk_cell BK144.out 0).trans rfl
                 have hcz82_1 : wr.cell? ⟨gb144, 1, none⟩ = some (u145001) := (blk_cell BK144.out 1).trans rfl
                 have hfz82_0 := blk_frozen BK144.out 0
                 have hfz82_1 := blk_frozen BK144.out 1
                 obtain ⟨Ao84, co84, eo84⟩ := Kd.S_slice HO_145001.out
                 subst eo84
                 go_wp2_with (first | ((with_reducible refine gate_builtin (b := .append) (xs := #[.tmp 84, .tmp 86]) rfl ?_); at_builtin; refine Kd.R_append k51 (w0 := w) w.heap.size rfl (.tmp 84) (.tmp 86) 26 51 (.agg #[(.int .i64 0), (.slice none 0 0)]) 32 rfl Try.underlying26 info51 rfl (by decide) (by omega) u138002 x138002_2 (⟨x29_1, x145001_3⟩ : S51) [.int .i64 x29_1, .slice Ao84 x145001_3.length co84] (fun k_ => k_ ≠ gb144) (fun k_ => ((fun k_ => k_ ≠ gb144)) k_ ∧ some k_ ≠ (u138002 : Value).ownBlock) rfl rfl ?aP (fun _ hk => hk) ?aF ?aO ?aB ?aS ?aL ?_; (case aP => exact k51_mkM _ _ _ (⟨x29_1, x145001_3⟩ : S51) (Kd.R_mono (Kd.R_types (Kd.R_apart' ((Kd.S_R HO_145001.out)) (Kd.R_typed HO_138002.out) (by decide)) BK144.out (by decide)) (fun k_ hk => ⟨hk.2, hk.1.2⟩))); (case aB => exact (by repeat (first | (with_reducible first | exact HB.out | apply below_alloc | apply pw_below_drewN | apply below_drew1 | refine below_set ?_ GE135.out | refine below_set ?_ GE137.out | refine below_set ?_ GE139.out | refine below_set ?_ GE144.out) | exact HB.out))); (case aF => exact (fun k_ hk => Kd.freshB (g := gb144) (o := .cells #[.int .i64 x29_1, .slice Ao84 x145001_3.length co84] 51 (0, 0)) (by (with_reducible repeat (first | refine blk_drewN ?_ _ | refine blk_drew ?_ | refine blk_alloc ?_ _)); exact BK144.out) k_ hk)); (case aO => exact (by (with_reducible repeat (first | apply Kd.R_alloc | apply Kd.R_drewN | apply Kd.R_drew)); exact Kd.R_mono HO_138002.out (fun _ hk => hk.2))); (case aS => exact (below_size (by repeat (first | (with_reducible first | exact HB.out | apply below_alloc | apply pw_below_drewN | apply below_drew1 | refine below_set ?_ GE135.out | refine below_set ?_ GE137.out | refine below_set ?_ GE139.out | refine below_set ?_ GE144.out) | exact HB.out)))); (case aL => have := LMc75.out; omega); intro v146 w83 ho hb hg hat; rw [← Ny145.out] at ho; have n0_ := Aside0.mk (Kd.R_over' (by (with_reducible repeat (first | apply Kd.R_alloc | apply Kd.R_drewN | apply Kd.R_drew)); exact HO_138001.out) (Kd.R_typed (by (with_reducible repeat (first | apply Kd.R_alloc | apply Kd.R_drewN | apply Kd.R_drew)); exact HO_138002.out)) (by decide) hg); have n1_ := Aside0.mk (blk_grown (g := gb135) (o := .cells #[.int .i64 0, .slice none 0 0, .slice none 0 0] 28 (0, 0)) (by (with_reducible repeat (first | refine blk_drewN ?_ _ | refine blk_drew ?_ | refine blk_alloc ?_ _)); exact BK135.out) hg (Kd.R_ne HO_138002.out BK135.out (by decide))); have n2_ := Aside0.mk (blk_grown (g := gb137) (o := .cells #[.int .i64 (mget a2 (rdOf ByteArray.empty l0 0)), .slice Ao20 y140.length co20, u138002] 28 (0, 0)) (by (with_reducible repeat (first | refine blk_drewN ?_ _ | refine blk_drew ?_ | refine blk_alloc ?_ _)); exact BK137.out) hg (Kd.R_ne HO_138002.out BK137.out (by decide))); have n3_ := Aside0.mk (blk_grown (g := gb139) (o := .cells #[.string ((rd_T45 l1 x29_1).f0), .slice (some ad143) ((rd_T45 l1 x29_1).f1).length c138_1] 45 (0, 0)) (by (with_reducible repeat (first | refine blk_drewN ?_ _ | refine blk_drew ?_ | refine blk_alloc ?_ _)); exact BK139.out) hg (Kd.R_ne HO_138002.out BK139.out (by decide))); have n4_ := Aside0.mk (blk_grown (g := gb144) (o := .cells #[.int .i64 x29_1, .slice Ao84 x145001_3.length co84] 51 (0, 0)) (by (with_reducible repeat (first | refine blk_drewN ?_ _ | refine blk_drew ?_ | refine blk_alloc ?_ _)); exact BK144.out) hg (Kd.R_away HO_138002.out (fun _ hk => hk.2))); have n5_ := Aside0.mk (hb); have n6_ := Aside0.mk (ho); clear HO_138001; clear BK135; clear BK137; clear BK139; clear BK144; clear HB; clear HO_138002; clear HO_145001; have HO_138001 := n0_; have BK135 := n1_; have BK137 := n2_; have BK139 := n3_; have BK144 := n4_; have HB := n5_; have HO147 := n6_; clear n0_ n1_ n2_ n3_ n4_ n5_ n6_; clear ho hb hg hat; obtain ⟨Ao85, co85, eo85⟩ := Kd.R_slice HO147.out; subst eo85; have hcz86_0 : w83.cell? ⟨gb137, 0, none⟩ = some (.int .i64 (mget a2 (rdOf ByteArray.empty l0 0))) := (blk_cell BK137.out 0).trans rfl; have hcz86_1 : w83.cell? ⟨gb137, 1, none⟩ = some (.slice Ao20 y140.length co20) := (blk_cell BK137.out 1).trans rfl; have hcz86_2 : w83.cell? ⟨gb137, 2, none⟩ = some (u138002) := (blk_cell BK137.out 2).trans rfl; have hfz86_0 := blk_frozen BK137.out 0; have hfz86_1 := blk_frozen BK137.out 1; have hfz86_2 := blk_frozen BK137.out 2))
                 go_roundg k3
                 case measure => have := HK1.out; have := HK2.out; have := HK3.out; omega
                 case rel => exact ⟨(wrap64 (x44_2 + 1)), (y145), (.slice Ao85 y145.length co85), (by first | rfl | (simp; done) | (simp [i64_w]; done) | (simp [*]; done) | (simp [*, i64_w]; done) | (simp [*]; unfold wrap64; omega)), H', ⟨by have := HK1.out; have := HK2.out; have := HK3.out; omega⟩, ⟨by (with_reducible repeat (first | apply Kd.R_alloc | apply Kd.R_drewN | apply Kd.R_drew)); exact Kd.R_mono (Kd.R_far (p := ⟨gb137, 2, none⟩) (Kd.R_types HO_138001.out BK137.out (by decide)) (fun _ hk => hk.2) (.slice Ao85 y145.length co85)) (fun _ hk => trivial)⟩, ⟨by (with_reducible repeat (first | apply Kd.R_alloc | apply Kd.R_drewN | apply Kd.R_drew)); exact Kd.R_mono (Kd.R_far (p := ⟨gb137, 2, none⟩) (Kd.R_types HO147.out BK137.out (by decide)) (fun _ hk => hk.2) (.slice Ao85 y145.length co85)) (fun _ hk => trivial)⟩, ⟨by (with_reducible repeat (first | refine blk_drewN ?_ _ | refine blk_drew ?_ | refine blk_alloc ?_ _)); refine blk_far ?_ NB135_137.out _; (with_reducible repeat (first | refine blk_drewN ?_ _ | refine blk_drew ?_ | refine blk_alloc ?_ _)); exact BK135.out⟩, ⟨by (with_reducible repeat (first | refine blk_drewN ?_ _ | refine blk_drew ?_ | refine blk_alloc ?_ _)); refine blk_put (cs := #[.int .i64 (mget a2 (rdOf ByteArray.empty l0 0)), .slice Ao20 y140.length co20, u138002]) ?_ 2 _ rfl; (with_reducible repeat (first | refine blk_drewN ?_ _ | refine blk_drew ?_ | refine blk_alloc ?_ _)); exact BK137.out⟩, ⟨by (with_reducible repeat (first | refine blk_drewN ?_ _ | refine blk_drew ?_ | refine blk_alloc ?_ _)); refine blk_far ?_ NB139_137.out _; (with_reducible repeat (first | refine blk_drewN ?_ _ | refine blk_drew ?_ | refine blk_alloc ?_ _)); exact BK139.out⟩, ⟨by repeat (first | (with_reducible first | exact HB.out | apply below_alloc | apply pw_below_drewN | apply below_drew1 | refine below_set ?_ GE135.out | refine below_set ?_ GE137.out | refine below_set ?_ GE139.out | refine below_set ?_ GE144.out) | exact HB.out)⟩⟩
                ·rw [if_neg c75] at H
                 exact absurd H (by simp)
            ·rw [if_neg c25] at H
             exact absurd H (by simp)
           ·rw [if_neg c24] at H
            exact absurd H (by simp)
          ·rw [if_neg c23] at H
           have c23b0 : decide (x44_2 < (((rd_T45 l1 x29_1).f1).length : Int)) = false := decide_eq_false c23
           clear c23
           have H' := Aside0.mk H
           clear H
           go_wp2
           go_roundg k2
           case measure => have := HK1.out; have := HK2.out; omega
           case rel => exact ⟨(wrap64 (x29_1 + 1)), (y140), (x138002_2), (.slice Ao20 y140.length co20), (u138002), (by first | rfl | (simp; done) | (simp [i64_w]; done) | (simp [*]; done) | (simp [*, i64_w]; done) | (simp [*]; unfold wrap64; omega)), H', ⟨by have := HK1.out; have := HK2.out; omega⟩, ⟨by (with_reducible repeat (first | apply Kd.R_alloc | apply Kd.R_drewN | apply Kd.R_drew)); exact HO_138001.out⟩, ⟨by (with_reducible repeat (first | apply Kd.R_alloc | apply Kd.R_drewN | apply Kd.R_drew)); exact HO_138002.out⟩, ⟨by (with_reducible repeat (first | refine blk_drewN ?_ _ | refine blk_drew ?_ | refine blk_alloc ?_ _)); exact BK135.out⟩, ⟨by (with_reducible repeat (first | refine blk_drewN ?_ _ | refine blk_drew ?_ | refine blk_alloc ?_ _)); exact BK137.out⟩, ⟨by repeat (first | (with_reducible first | exact HB.out | apply below_alloc | apply pw_below_drewN | apply below_drew1 | refine below_set ?_ GE135.out | refine below_set ?_ GE137.out | refine below_set ?_ GE139.out) | exact HB.out)⟩⟩
       ·rw [if_neg c12] at H
        exact absurd H (by simp)
      ·rw [if_neg c11] at H
       exact absurd H (by simp)
     ·rw [if_neg c10] at H
      exact absurd H (by simp)
    ·rw [if_neg c9] at H
     have c9b0 : decide (x29_1 < (l1.length : Int)) = false := decide_eq_false c9
     clear c9
     simp only [Option.some.injEq, Prod.mk.injEq] at H
     obtain ⟨rfl, rfl, rfl⟩ := H
     have hnb87 := NB137_135.out
     have hnc87 := NB135_137.out
     have hcz88_0 : wr.cell? ⟨gb137, 0, none⟩ = some (.int .i64 (mget a2 (rdOf ByteArray.empty l0 0))) := (blk_cell BK137.out 0).trans rfl
     have hcz88_1 : wr.cell? ⟨gb137, 1, none⟩ = some (u138001) := (blk_cell BK137.out 1).trans rfl
     have hcz88_2 : wr.cell? ⟨gb137, 2, none⟩ = some (u138002) := (blk_cell BK137.out 2).trans rfl
     have hfz88_0 := blk_frozen BK137.out 0
     have hfz88_1 := blk_frozen BK137.out 1
     have hfz88_2 := blk_frozen BK137.out 2
     have hcz89_0 : wr.cell? ⟨gb135, 0, none⟩ = some (.int .i64 0) := (blk_cell BK135.out 0).trans rfl
     have hcz89_1 : wr.cell? ⟨gb135, 1, none⟩ = some (.slice none 0 0) := (blk_cell BK135.out 1).trans rfl
     have hcz89_2 : wr.cell? ⟨gb135, 2, none⟩ = some (.slice none 0 0) := (blk_cell BK135.out 2).trans rfl
     have hfz89_0 := blk_frozen BK135.out 0
     have hfz89_1 := blk_frozen BK135.out 1
     have hfz89_2 := blk_frozen BK135.out 2
     obtain ⟨Ao90, co90, eo90⟩ := Kd.R_slice HO_138001.out
     subst eo90
     obtain ⟨Ao91, co91, eo91⟩ := Kd.R_slice HO_138002.out
     subst eo91
     go_wp2
     refine bodyPost_ret (results_cell_row rfl _ _ gb135 28 #[.int .i64 (mget a2 (rdOf ByteArray.empty l0 0)), .slice Ao90 x138001_1.length co90, .slice Ao91 x138002_1.length co91] (0, 0) _ rfl (by (with_reducible repeat (first | refine blk_drewN ?_ _ | refine blk_drew ?_ | refine blk_alloc ?_ _)); refine blk_put (cs := #[.int .i64 (mget a2 (rdOf ByteArray.empty l0 0)), .slice Ao90 x138001_1.length co90, .slice none 0 0]) ?_ 2 _ rfl; (with_reducible repeat (first | refine blk_drewN ?_ _ | refine blk_drew ?_ | refine blk_alloc ?_ _)); refine blk_put (cs := #[.int .i64 (mget a2 (rdOf ByteArray.empty l0 0)), .slice none 0 0, .slice none 0 0]) ?_ 1 _ rfl; (with_reducible repeat (first | refine blk_drewN ?_ _ | refine blk_drew ?_ | refine blk_alloc ?_ _)); refine blk_put (cs := #[.int .i64 0, .slice none 0 0, .slice none 0 0]) ?_ 0 _ rfl; (with_reducible repeat (first | refine blk_drewN ?_ _ | refine blk_drew ?_ | refine blk_alloc ?_ _)); exact BK135.out) Try.underlying28 rfl (by kernel_rfl)) rfl ?_
     exact ⟨_, _, by first | rfl | (simp [errW_none, errW_some] <;> rfl) | (simp [*, errW_none, errW_some] <;> rfl), by (with_reducible repeat (first | apply Kd.R_alloc | apply Kd.R_drewN | apply Kd.R_drew)); exact Kd.R_mono (Kd.R_far (p := ⟨gb135, 2, none⟩) (Kd.R_far (p := ⟨gb135, 1, none⟩) (Kd.R_far (p := ⟨gb135, 0, none⟩) (Kd.R_types HO_138001.out BK135.out (by decide)) (fun _ hk => hk.2) (.int .i64 (mget a2 (rdOf ByteArray.empty l0 0)))) (fun _ hk => hk.2) (.slice Ao90 x138001_1.length co90)) (fun _ hk => hk.2) (.slice Ao91 x138002_1.length co91)) (fun _ hk => trivial), by (with_reducible repeat (first | apply Kd.R_alloc | apply Kd.R_drewN | apply Kd.R_drew)); exact Kd.R_mono (Kd.R_far (p := ⟨gb135, 2, none⟩) (Kd.R_far (p := ⟨gb135, 1, none⟩) (Kd.R_far (p := ⟨gb135, 0, none⟩) (Kd.R_types HO_138002.out BK135.out (by decide)) (fun _ hk => hk.2) (.int .i64 (mget a2 (rdOf ByteArray.empty l0 0)))) (fun _ hk => hk.2) (.slice Ao90 x138001_1.length co90)) (fun _ hk => hk.2) (.slice Ao91 x138002_1.length co91)) (fun _ hk => trivial), by repeat (first | (with_reducible first | exact HB.out | apply below_alloc | apply pw_below_drewN | apply below_drew1 | refine below_set ?_ GE135.out | refine below_set ?_ GE137.out) | exact HB.out)⟩
 ·rw [if_neg c4] at H
  exact absurd H (by simp)

end Go.Proofs.Ytdjnpgigdchfkaa.PBR
