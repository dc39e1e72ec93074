-- written by a program of the session's (wip/myprint.py) out of the translation
import Derived.Test.YtdjnpgigdchfkaaPBSx0
namespace Go.Proofs.Ytdjnpgigdchfkaa.PBS
open Go.RowKit Go.Proofs.YtdjnpgigdchfkaaW.PrintWords Go.Proofs.YtdjnpgigdchfkaaW.PrintLast Go.Proofs.YtdjnpgigdchfkaaW.PrintMore
attribute [local go_sem] max2_int min2_int max_two min_two max_three min_three max_four min_four   -- for this text's walks alone
set_option linter.unusedVariables false
set_option linter.unusedSimpArgs false

/-! ### templelaw0_CopyRaw: function 10 -/
mutual
def templelaw0_CopyRaw.l0 : Nat → Int → List ByteArray → List (S45) → List ByteArray → List (S45) → Option (List ByteArray × (List (S45)))
 | 0, _, _, _, _, _ => none
 | k + 1, x4, x102000, x102001, x110000, x110001 => if x4 < (x102001.length : Int) then (if 0 ≤ x4 then (templelaw0_CopyRaw.l1 k x4 0 x102000 x102001 x110000 x110001 ((rd_T45 x102001 x4).f0) ([] : List (List (S64)))) else (none)) else (some (x110000, x110001))
def templelaw0_CopyRaw.l1 : Nat → Int → Int → List ByteArray → List (S45) → List ByteArray → List (S45) → ByteArray → List (List (S64)) → Option (List ByteArray × (List (S45)))
 | 0, _, _, _, _, _, _, _, _ => none
 | k + 1, x4, x6, x102000, x102001, x110000, x110001, x112000, x112001 => if 0 ≤ x4 then (if x4 < (x102001.length : Int) then (if x6 < (((rd_T45 x102001 x4).f1).length : Int) then (templelaw0_CopyRaw.l2 k x4 x6 ([] : List (S64)) 0 x102000 x102001 x110000 x110001 x112000 x112001) else (if x110001.length < 3518437208883 then (templelaw0_CopyRaw.l0 k (wrap64 (x4 + 1)) x102000 x102001 x110000 (x110001 ++ [(⟨x112000, x112001⟩ : S45)])) else (none))) else (none)) else (none)
def templelaw0_CopyRaw.l2 : Nat → Int → Int → List (S64) → Int → List ByteArray → List (S45) → List ByteArray → List (S45) → ByteArray → List (List (S64)) → Option (List ByteArray × (List (S45)))
 | 0, _, _, _, _, _, _, _, _, _, _ => none
 | k + 1, x4, x6, x7, x8, x102000, x102001, x110000, x110001, x112000, x112001 => if 0 ≤ x4 then (if x4 < (x102001.length : Int) then (if 0 ≤ x6 then (if x6 < (((rd_T45 x102001 x4).f1).length : Int) then (if x8 < ((rd_L6 ((rd_T45 x102001 x4).f1) x6).length : Int) then (if 0 ≤ x8 then ((some (([] : List (S61)) : List (S61))).bind fun y122 => (if y122.length + ((rd_T64 (rd_L6 ((rd_T45 x102001 x4).f1) x6) x8).f1).length < 3518437208883 then (if x7.length < 4398046511104 then (templelaw0_CopyRaw.l2 k x4 x6 (x7 ++ [(⟨(rd_T64 (rd_L6 ((rd_T45 x102001 x4).f1) x6) x8).f0, (y122 ++ ((rd_T64 (rd_L6 ((rd_T45 x102001 x4).f1) x6) x8).f1))⟩ : S64)]) (wrap64 (x8 + 1)) x102000 x102001 x110000 x110001 x112000 x112001) else (none)) else (none))) else (none)) else (if x112001.length < 5864062014805 then (templelaw0_CopyRaw.l1 k x4 (wrap64 (x6 + 1)) x102000 x102001 x110000 x110001 x112000 (x112001 ++ [x7])) else (none))) else (none)) else (none)) else (none)) else (none)
end
def templelaw0_CopyRaw.f (k : Nat) (l0_0 : List ByteArray) (l0_1 : List (S45)) : Option (List ByteArray × (List (S45))) := (some (([] : List ByteArray) : List ByteArray)).bind fun y103 => (if y103.length + l0_0.length < 8796093022208 then (templelaw0_CopyRaw.l0 k 0 l0_0 l0_1 (y103 ++ l0_0) ([] : List (S45))) else (none))
theorem templelaw0_CopyRaw.mono_l : ∀ k, (∀ y0 y1 y2 y3 y4, LeO (templelaw0_CopyRaw.l0 k y0 y1 y2 y3 y4) (templelaw0_CopyRaw.l0 (k + 1) y0 y1 y2 y3 y4)) ∧ (∀ y0 y1 y2 y3 y4 y5 y6 y7, LeO (templelaw0_CopyRaw.l1 k y0 y1 y2 y3 y4 y5 y6 y7) (templelaw0_CopyRaw.l1 (k + 1) y0 y1 y2 y3 y4 y5 y6 y7)) ∧ (∀ y0 y1 y2 y3 y4 y5 y6 y7 y8 y9, LeO (templelaw0_CopyRaw.l2 k y0 y1 y2 y3 y4 y5 y6 y7 y8 y9) (templelaw0_CopyRaw.l2 (k + 1) y0 y1 y2 y3 y4 y5 y6 y7 y8 y9))
 | 0 => ⟨fun _ _ _ _ _ r h => by simp [templelaw0_CopyRaw.l0] at h, fun _ _ _ _ _ _ _ _ r h => by simp [templelaw0_CopyRaw.l1] at h, fun _ _ _ _ _ _ _ _ _ _ r h => by simp [templelaw0_CopyRaw.l2] at h⟩
 | k + 1 => by
  obtain ⟨ih0, ih1, ih2⟩ := templelaw0_CopyRaw.mono_l k
  refine ⟨?_, ?_, ?_⟩
  ·intro y0 y1 y2 y3 y4
   unfold templelaw0_CopyRaw.l0
   repeat' first
   | (with_reducible exact ih0 _ _ _ _ _)
   | (with_reducible exact ih1 _ _ _ _ _ _ _ _)
   | (with_reducible exact ih2 _ _ _ _ _ _ _ _ _ _)
   | (with_reducible exact LeO.refl _)
   | (with_reducible exact LeO.none _)
   | (with_reducible refine LeO.ite ?_ ?_)
   | (with_reducible refine LeO.bind ?_ (fun _ => ?_))
   | exact ih0 _ _ _ _ _
   | exact ih1 _ _ _ _ _ _ _ _
   | exact ih2 _ _ _ _ _ _ _ _ _ _
   | exact LeO.none _
   | refine LeO.ite ?_ ?_
   | refine LeO.bind ?_ (fun _ => ?_)
  ·intro y0 y1 y2 y3 y4 y5 y6 y7
   unfold templelaw0_CopyRaw.l1
   repeat' first
   | (with_reducible exact ih0 _ _ _ _ _)
   | (with_reducible exact ih1 _ _ _ _ _ _ _ _)
   | (with_reducible exact ih2 _ _ _ _ _ _ _ _ _ _)
   | (with_reducible exact LeO.refl _)
   | (with_reducible exact LeO.none _)
   | (with_reducible refine LeO.ite ?_ ?_)
   | (with_reducible refine LeO.bind ?_ (fun _ => ?_))
   | exact ih0 _ _ _ _ _
   | exact ih1 _ _ _ _ _ _ _ _
   | exact ih2 _ _ _ _ _ _ _ _ _ _
   | exact LeO.none _
   | refine LeO.ite ?_ ?_
   | refine LeO.bind ?_ (fun _ => ?_)
  ·intro y0 y1 y2 y3 y4 y5 y6 y7 y8 y9
   unfold templelaw0_CopyRaw.l2
   repeat' first
   | (with_reducible exact ih0 _ _ _ _ _)
   | (with_reducible exact ih1 _ _ _ _ _ _ _ _)
   | (with_reducible exact ih2 _ _ _ _ _ _ _ _ _ _)
   | (with_reducible exact LeO.refl _)
   | (with_reducible exact LeO.none _)
   | (with_reducible refine LeO.ite ?_ ?_)
   | (with_reducible refine LeO.bind ?_ (fun _ => ?_))
   | exact ih0 _ _ _ _ _
   | exact ih1 _ _ _ _ _ _ _ _
   | exact ih2 _ _ _ _ _ _ _ _ _ _
   | exact LeO.none _
   | refine LeO.ite ?_ ?_
   | refine LeO.bind ?_ (fun _ => ?_)
theorem templelaw0_CopyRaw.mono : ∀ a0 a1 k, LeO (templelaw0_CopyRaw.f k a0 a1) (templelaw0_CopyRaw.f (k + 1) a0 a1) := by
 intro a0 a1 k
 obtain ⟨ih0, ih1, ih2⟩ := templelaw0_CopyRaw.mono_l k
 unfold templelaw0_CopyRaw.f
 repeat' first
   | (with_reducible exact ih0 _ _ _ _ _)
   | (with_reducible exact ih1 _ _ _ _ _ _ _ _)
   | (with_reducible exact ih2 _ _ _ _ _ _ _ _ _ _)
   | (with_reducible exact LeO.refl _)
   | (with_reducible exact LeO.none _)
   | (with_reducible refine LeO.ite ?_ ?_)
   | (with_reducible refine LeO.bind ?_ (fun _ => ?_))
   | exact ih0 _ _ _ _ _
   | exact ih1 _ _ _ _ _ _ _ _
   | exact ih2 _ _ _ _ _ _ _ _ _ _
   | exact LeO.none _
   | refine LeO.ite ?_ ?_
   | refine LeO.bind ?_ (fun _ => ?_)
def templelaw0_CopyRaw.T14 : Bool × List (List Nat × List Nat) := (true, [([], []), ([], []), ([1], [1]), ([], []), ([], []), ([4], [4]), ([3, 5], [3, 5]), ([2, 6], [2, 6]), ([7], [7]), ([0, 8, 6], [0, 8]), ([9, 9, 0, 1, 2, 3, 4, 5, 6, 7, 8, 9], [0, 9])])
def templelaw0_CopyRaw.B14 : List Nat := [0, 0, 2, 0, 0, 16, 56, 126, 254, 511, 1023]
theorem templelaw0_CopyRaw.tab14 : rtab .any (opsOf Try.f10 14) = templelaw0_CopyRaw.T14 := by kernel_rfl
theorem templelaw0_CopyRaw.bits14 : waitsOk templelaw0_CopyRaw.T14.2 templelaw0_CopyRaw.B14 = true := by kernel_rfl
set_option maxHeartbeats 8000000 in
set_option maxRecDepth 100000 in
theorem templelaw0_CopyRaw.calls (k : Nat) (A0_0 : Option Addr) (c0_0 : Nat) (l0_0 : List ByteArray) (A0_1 : Option Addr) (c0_1 : Nat) (l0_1 : List (S45)) (r1 : List ByteArray) (r2 : List (S45)) (w : World) (hr0_0 : Kd.C Kd.string w A0_0 l0_0.length l0_0) (hc0_0 : l0_0.length ≤ c0_0) (hr0_1 : Kd.C k45 w A0_1 l0_1.length l0_1) (hc0_1 : l0_1.length ≤ c0_1) (h : templelaw0_CopyRaw.f k l0_0 l0_1 = some (r1, r2)) :
  Calls Try.prog 10 #[.agg #[.slice A0_0 l0_0.length c0_0, .slice A0_1 l0_1.length c0_1]] w fun e w' => ∃ v0_ v1_ : Value, e = .returned (.agg #[v0_, v1_]) ∧ Kd.R Kd.string 9 w' w.heap.size (fun _ => True) v0_ r1 ∧ Kd.R k45 45 w' w.heap.size (fun _ => True) v1_ r2 ∧ Below w.heap.size w w' := by
 have hu25 := Try.underlying25; have hu45 := Try.underlying45; have hu64 := Try.underlying64; have HR0_0 := Aside0.mk hr0_0; have HC0_0 := Aside0.mk hc0_0; clear hr0_0 hc0_0; have HR0_1 := Aside0.mk hr0_1; have HC0_1 := Aside0.mk hc0_1; clear hr0_1 hc0_1
 have HB := Aside0.mk (Below.refl w.heap.size w)
 have H : ((some (([] : List ByteArray) : List ByteArray)).bind fun y103 => (if y103.length + l0_0.length < 8796093022208 then (templelaw0_CopyRaw.l0 k 0 l0_0 l0_1 (y103 ++ l0_0) ([] : List (S45))) else (none))) = some (r1, r2) := h
 clear h; obtain ⟨y103, hy103⟩ : ∃ y_ : List ByteArray, y_ = (([] : List ByteArray)) := ⟨_, rfl⟩
 replace H : (if y103.length + l0_0.length < 8796093022208 then (templelaw0_CopyRaw.l0 k 0 l0_0 l0_1 (y103 ++ l0_0) ([] : List (S45))) else (none)) = some (r1, r2) := by first | (rw [hy103]; with_reducible exact H) | (have H2_ := (Option.bind_some _ _).symm.trans H; rw [hy103]; with_reducible exact H2_) | (have H2_ := (Option.bind_some _ _).symm.trans H; with_reducible exact H2_) | with_reducible exact H | (rw [hy103]; exact H) | exact H
 have Ny103 := Aside0.mk hy103; clear hy103
 by_cases c2 : y103.length + l0_0.length < 8796093022208
 ·rw [if_pos c2] at H; have LMc2 := Aside0.mk c2; clear c2; obtain ⟨y106, hy106⟩ : ∃ y_ : List ByteArray, y_ = (y103 ++ l0_0) := ⟨_, rfl⟩
  replace H : (templelaw0_CopyRaw.l0 k 0 l0_0 l0_1 y106 ([] : List (S45))) = some (r1, r2) := by first | (rw [hy106]; with_reducible exact H) | (have H2_ := (Option.bind_some _ _).symm.trans H; rw [hy106]; with_reducible exact H2_) | (have H2_ := (Option.bind_some _ _).symm.trans H; with_reducible exact H2_) | with_reducible exact H | (rw [hy106]; exact H) | exact H
  have Ny106 := Aside0.mk hy106; clear hy106; have H' := Aside0.mk H; clear H
  go_enter Try.func10, Try.ntmps10
  go_wp2_with (first | ((with_reducible refine gate_dst (N := 1) rfl ?_); refine box_event (by rfl) (N := 1) (by rfl) (cs := #[.slice A0_0 l0_0.length c0_0, .slice A0_1 l0_1.length c0_1]) (t := 25) zzh ?_; intro gb101 hg w3 hbox hb; have n0_ := Aside0.mk (below_step zzq hb); have n1_ := Aside0.mk (hbox); have n2_ := Aside0.mk ((zzg hg zzq)); have n3_ := Aside0.mk ((zzg hg zzq)); clear HB; have HB := n0_; have BK101 := n1_; have GW101 := n2_; have GE101 := n3_; clear n0_ n1_ n2_ n3_; clear hb hbox hg) | ((with_reducible refine gate_dst (N := 2) rfl ?_); refine box_event (by rfl) (N := 2) (by rfl) (cs := #[.slice none 0 0, .slice none 0 0]) (t := 25) zzh ?_; intro gb102 hg w4 hbox hb; have n0_ := Aside0.mk (blk_below (g := gb101) (o := .cells #[.slice A0_0 l0_0.length c0_0, .slice A0_1 l0_1.length c0_1] 25 (0, 0)) (zzb BK101) hb); have n1_ := Aside0.mk (below_step zzq hb); have n2_ := Aside0.mk (hbox); have n3_ := Aside0.mk ((zzg hg zzq)); have n4_ := Aside0.mk ((zzg hg zzq)); have n5_ := Aside0.mk ((by rw [hg]; exact Nat.ne_of_lt (blk_lt (g := gb101) (o := .cells #[.slice A0_0 l0_0.length c0_0, .slice A0_1 l0_1.length c0_1] 25 (0, 0)) (zzb BK101)) : gb101 ≠ gb102)); have n6_ := Aside0.mk ((by rw [hg]; exact Nat.ne_of_gt (blk_lt (g := gb101) (o := .cells #[.slice A0_0 l0_0.length c0_0, .slice A0_1 l0_1.length c0_1] 25 (0, 0)) (zzb BK101)) : gb102 ≠ gb101)); clear BK101; clear HB; have BK101 := n0_; have HB := n1_; have BK102 := n2_; have GW102 := n3_; have GE102 := n4_; have NB101_102 := n5_; have NB102_101 := n6_; clear n0_ n1_ n2_ n3_ n4_ n5_ n6_; clear hb hbox hg) | ((with_reducible refine gate_dst (N := 10) rfl ?_); refine Kd.R_lit Kd.string _ 9 ?hg (N := 10) ?hd (xs := ([] : List ByteArray)) (inner := []) (ok := fun _ => True) (okp := fun _ => True) ?hr ?hp (fun _ hk => hk) trivial (Below.refl _ _) (Nat.le_refl _) (by simp) ?_; (case hd => rfl); (case hg => rfl); (case hr => first | (go_simp; done) | (go_simp; rfl)); (case hp => exact (Reps.none _ _)); intro v104 w5 ho6 hb hg_ hnew_; clear hg_ hnew_; (first | rw [← Ny103.out] at ho6 | (simp only [Int.reduceToNat] at ho6; rw [← Ny103.out] at ho6)); have n0_ := Aside0.mk (Kd.R_lower ho6 (below_size zzq)); have n1_ := Aside0.mk (blk_below (g := gb101) (o := .cells #[.slice A0_0 l0_0.length c0_0, .slice A0_1 l0_1.length c0_1] 25 (0, 0)) (zzb BK101) hb); have n2_ := Aside0.mk (blk_below (g := gb102) (o := .cells #[.slice none 0 0, .slice none 0 0] 25 (0, 0)) (zzb BK102) hb); have n3_ := Aside0.mk (below_step zzq hb); clear BK101; clear BK102; clear HB; have HO105 := n0_; have BK101 := n1_; have BK102 := n2_; have HB := n3_; clear n0_ n1_ n2_ n3_; clear hb ho6; have hnb7 := NB101_102.out; have hnc7 := NB102_101.out; have hcz8_0 : w5.cell? ⟨gb101, 0, none⟩ = some (.slice A0_0 l0_0.length c0_0) := (blk_cell BK101.out 0).trans rfl; have hcz8_1 : w5.cell? ⟨gb101, 1, none⟩ = some (.slice A0_1 l0_1.length c0_1) := (blk_cell BK101.out 1).trans rfl; have hfz8_0 := blk_frozen BK101.out 0; have hfz8_1 := blk_frozen BK101.out 1) | ((with_reducible refine gate_builtin (b := .append) (xs := #[.tmp 10, .tmp 12]) rfl ?_); at_builtin; refine Kd.R_append_rows Kd.string (w0 := w) w.heap.size rfl (.tmp 10) (.tmp 12) 22 9 (.string ⟨#[]⟩) 16 rfl Try.underlying22 info9 rfl (by decide) (by omega) v104 y103 l0_0 _ _ _ (fun _ => True) (fun _ => False) rfl rfl ?aO ?aR (fun _ _ h => h) (fun _ h => h.elim) ?aF ?aB ?aS ?aL ?_; (case aR => exact zzc (Kd.C_below HR0_0.out HB.out)); (case aB => exact zzq); (case aF => exact (fun _ _ => trivial)); (case aO => exact (zzr HO105.out)); (case aS => exact (below_size zzq)); (case aL => have := LMc2.out; omega); intro v107 w9 ho hb hg hat; rw [← Ny106.out] at ho; have n0_ := Aside0.mk (blk_grown (g := gb101) (o := .cells #[.slice A0_0 l0_0.length c0_0, .slice A0_1 l0_1.length c0_1] 25 (0, 0)) (zzb BK101) hg (Kd.R_ne HO105.out BK101.out (by decide))); have n1_ := Aside0.mk (blk_grown (g := gb102) (o := .cells #[.slice none 0 0, .slice none 0 0] 25 (0, 0)) (zzb BK102) hg (Kd.R_ne HO105.out BK102.out (by decide))); have n2_ := Aside0.mk (hb); have n3_ := Aside0.mk (ho); clear BK101; clear BK102; clear HB; clear HO105; have BK101 := n0_; have BK102 := n1_; have HB := n2_; have HO108 := n3_; clear n0_ n1_ n2_ n3_; clear ho hb hg hat; obtain ⟨Ao10, co10, eo10⟩ := Kd.R_slice HO108.out; subst eo10) | ((with_reducible refine gate_dst (N := 3) rfl ?_); refine box_event (by rfl) (N := 3) (by rfl) (cs := #[.slice none 0 0, .slice none 0 0]) (t := 25) zzh ?_; intro gb109 hg w11 hbox hb; have n0_ := Aside0.mk (Kd.R_below (zzr HO108.out) hb); have n1_ := Aside0.mk (blk_below (g := gb101) (o := .cells #[.slice A0_0 l0_0.length c0_0, .slice A0_1 l0_1.length c0_1] 25 (0, 0)) (zzb BK101) hb); have n2_ := Aside0.mk (blk_below (g := gb102) (o := .cells #[.slice none 0 0, .slice none 0 0] 25 (0, 0)) (zzb BK102) hb); have n3_ := Aside0.mk (below_step zzq hb); have n4_ := Aside0.mk (hbox); have n5_ := Aside0.mk ((zzg hg zzq)); have n6_ := Aside0.mk ((zzg hg zzq)); have n7_ := Aside0.mk ((by rw [hg]; exact Nat.ne_of_lt (blk_lt (g := gb101) (o := .cells #[.slice A0_0 l0_0.length c0_0, .slice A0_1 l0_1.length c0_1] 25 (0, 0)) (zzb BK101)) : gb101 ≠ gb109)); have n8_ := Aside0.mk ((by rw [hg]; exact Nat.ne_of_gt (blk_lt (g := gb101) (o := .cells #[.slice A0_0 l0_0.length c0_0, .slice A0_1 l0_1.length c0_1] 25 (0, 0)) (zzb BK101)) : gb109 ≠ gb101)); have n9_ := Aside0.mk ((by rw [hg]; exact Nat.ne_of_lt (blk_lt (g := gb102) (o := .cells #[.slice none 0 0, .slice none 0 0] 25 (0, 0)) (zzb BK102)) : gb102 ≠ gb109)); have n10_ := Aside0.mk ((by rw [hg]; exact Nat.ne_of_gt (blk_lt (g := gb102) (o := .cells #[.slice none 0 0, .slice none 0 0] 25 (0, 0)) (zzb BK102)) : gb109 ≠ gb102)); clear HO108; clear BK101; clear BK102; clear HB; have HO108 := n0_; have BK101 := n1_; have BK102 := n2_; have HB := n3_; have BK109 := n4_; have GW109 := n5_; have GE109 := n6_; have NB101_109 := n7_; have NB109_101 := n8_; have NB102_109 := n9_; have NB109_102 := n10_; clear n0_ n1_ n2_ n3_ n4_ n5_ n6_ n7_ n8_ n9_ n10_; clear hb hbox hg; have hnb12 := NB109_101.out; have hnc12 := NB101_109.out; have hnb13 := NB109_102.out; have hnc13 := NB102_109.out; have hcz14_0 : w11.cell? ⟨gb109, 0, none⟩ = some (.slice none 0 0) := (blk_cell BK109.out 0).trans rfl; have hcz14_1 : w11.cell? ⟨gb109, 1, none⟩ = some (.slice none 0 0) := (blk_cell BK109.out 1).trans rfl; have hfz14_0 := blk_frozen BK109.out 0; have hfz14_1 := blk_frozen BK109.out 1))
  go_loopg [4] k (fun kq v4 w' => ∃ (x4_1 : Int) (x110001_1 : List (S45)) (u110001 : Value), v4 = .int .i64 x4_1 ∧ Aside0 (templelaw0_CopyRaw.l0 kq x4_1 l0_0 l0_1 y106 x110001_1 = some (r1, r2)) ∧ Aside0 (kq ≤ k) ∧ Aside0 (Kd.R Kd.string 9 w' w.heap.size (fun _ => True) (.slice Ao10 y106.length co10) y106) ∧ Aside0 (Kd.R k45 45 w' w.heap.size (fun _ => True) u110001 x110001_1) ∧ Aside0 (w'.heap[gb101]? = some (.cells #[(.slice A0_0 l0_0.length c0_0), (.slice A0_1 l0_1.length c0_1)] 25 (0, 0))) ∧ Aside0 (w'.heap[gb102]? = some (.cells #[(.slice none 0 0), (.slice none 0 0)] 25 (0, 0))) ∧ Aside0 (w'.heap[gb109]? = some (.cells #[(.slice Ao10 y106.length co10), u110001] 25 (0, 0))) ∧ Aside0 (Below w.heap.size w w'))
  case atStart => exact ⟨(0), (([] : List (S45))), (.slice none 0 0), zz0, H', ⟨Nat.le_refl _⟩, ⟨zzr (Kd.R_mono (Kd.R_far (p := ⟨gb109, 1, none⟩) (Kd.R_far (p := ⟨gb109, 0, none⟩) (Kd.R_types HO108.out BK109.out (by decide)) (fun _ hk => hk.2) (.slice Ao10 y106.length co10)) (fun _ hk => hk.2) (.slice none 0 0)) (fun _ hk => trivial))⟩, ⟨by first | exact Kd.R_nil _ _ _ _ _ | exact Kd.N_nil _ _ _ _ _ | exact Kd.V_nil _ _ _ _ _ | exact Kd.Q_nil _ _ _ _ _ | exact Kd.S_nil _ _ _ _ _⟩, ⟨by (with_reducible repeat (first | refine blk_drewN ?_ _ | refine blk_drew ?_ | refine blk_alloc ?_ _)); refine blk_far ?_ NB101_109.out _; (with_reducible repeat (first | refine blk_drewN ?_ _ | refine blk_drew ?_ | refine blk_alloc ?_ _)); refine blk_far ?_ NB101_109.out _; exact zzb BK101⟩, ⟨by (with_reducible repeat (first | refine blk_drewN ?_ _ | refine blk_drew ?_ | refine blk_alloc ?_ _)); refine blk_far ?_ NB102_109.out _; (with_reducible repeat (first | refine blk_drewN ?_ _ | refine blk_drew ?_ | refine blk_alloc ?_ _)); refine blk_far ?_ NB102_109.out _; exact zzb BK102⟩, ⟨by (with_reducible repeat (first | refine blk_drewN ?_ _ | refine blk_drew ?_ | refine blk_alloc ?_ _)); refine blk_put (cs := #[.slice Ao10 y106.length co10, .slice none 0 0]) ?_ 1 _ rfl; (with_reducible repeat (first | refine blk_drewN ?_ _ | refine blk_drew ?_ | refine blk_alloc ?_ _)); refine blk_put (cs := #[.slice none 0 0, .slice none 0 0]) ?_ 0 _ rfl; exact zzb BK109⟩, ⟨zzq⟩⟩
  case round =>
   clear H'; (try clear c1); (try clear c2); (try clear p2); (try clear c7); (try clear c10); (try clear c12); (try clear c13); (try clear hcz14_0); (try clear hcz14_1); (try clear hcz8_0); (try clear hcz8_1); (try clear hfz14_0); (try clear hfz14_1); (try clear hfz8_0); (try clear hfz8_1); obtain ⟨x4_1, x110001_1, u110001, rfl, HA, HK1, HO_110000, HO_110001, BK101, BK102, BK109, HB⟩ := hrel
   cases gk with
   | zero => exact absurd HA.out (by simp [templelaw0_CopyRaw.l0])
   | succ k1 =>
    have H := HA.out; clear HA
    simp only [templelaw0_CopyRaw.l0] at H
    by_cases c15 : x4_1 < (l0_1.length : Int)
    ·rw [if_pos c15] at H; have c15b0 : decide (x4_1 < (l0_1.length : Int)) = true := decide_eq_true c15; clear c15
     by_cases c16 : 0 ≤ x4_1
     ·rw [if_pos c16] at H; have c16b0 : decide (0 ≤ x4_1) = true := decide_eq_true c16; clear c16; have H' := Aside0.mk H; clear H; have hnb17 := NB101_102.out; have hnc17 := NB102_101.out; have hnb18 := NB101_109.out; have hnc18 := NB109_101.out
      have hcz19_0 : wr.cell? ⟨gb101, 0, none⟩ = some (.slice A0_0 l0_0.length c0_0) := (blk_cell BK101.out 0).trans rfl
      have hcz19_1 : wr.cell? ⟨gb101, 1, none⟩ = some (.slice A0_1 l0_1.length c0_1) := (blk_cell BK101.out 1).trans rfl
      have hfz19_0 := blk_frozen BK101.out 0; have hfz19_1 := blk_frozen BK101.out 1
      have p110 : 0 ≤ (x4_1 : Int) := of_decide_eq_true zz1
      have q110 : x4_1 < (l0_1.length : Int) := of_decide_eq_true zz1
      obtain ⟨ad110, A110_1, c110_1, e110, hx110_0, hx110_1, hl110_1, hi110_1⟩ := at_T45 HR0_1.out x4_1 p110 q110; cases e110
      replace hx110_0 := (HB.out.cell (World.block_lt_of_cell? w _ hx110_0)).trans hx110_0
      replace hx110_1 := (HB.out.cell (World.block_lt_of_cell? w _ hx110_1)).trans hx110_1
      have HR110_1 := Aside0.mk hi110_1; have HC110_1 := Aside0.mk hl110_1; clear hi110_1 hl110_1; replace p110 := eq_true p110; replace q110 := eq_true q110
      go_wp2_with (first | ((with_reducible refine gate_dst (N := 5) rfl ?_); refine box_event (by rfl) (N := 5) (by rfl) (cs := #[.string (⟨#[]⟩ : ByteArray), .slice none 0 0]) (t := 45) zzh ?_; intro gb111 hg w20 hbox hb; have n0_ := Aside0.mk (Kd.R_below (zzr HO_110000.out) hb); have n1_ := Aside0.mk (Kd.R_below (Kd.R_elderB (zzr HO_110001.out) gb111 (Nat.le_of_eq hg.symm)) hb); have n2_ := Aside0.mk (blk_below (g := gb101) (o := .cells #[.slice A0_0 l0_0.length c0_0, .slice (some ad110) l0_1.length c0_1] 25 (0, 0)) (zzb BK101) hb); have n3_ := Aside0.mk (blk_below (g := gb102) (o := .cells #[.slice none 0 0, .slice none 0 0] 25 (0, 0)) (zzb BK102) hb); have n4_ := Aside0.mk (blk_below (g := gb109) (o := .cells #[.slice Ao10 y106.length co10, u110001] 25 (0, 0)) (zzb BK109) hb); have n5_ := Aside0.mk (below_step zzq hb); have n6_ := Aside0.mk (hbox); have n7_ := Aside0.mk ((zzg hg zzq)); have n8_ := Aside0.mk ((zzg hg zzq)); have n9_ := Aside0.mk ((by rw [hg]; exact Nat.ne_of_lt (blk_lt (g := gb101) (o := .cells #[.slice A0_0 l0_0.length c0_0, .slice (some ad110) l0_1.length c0_1] 25 (0, 0)) (zzb BK101)) : gb101 ≠ gb111)); have n10_ := Aside0.mk ((by rw [hg]; exact Nat.ne_of_gt (blk_lt (g := gb101) (o := .cells #[.slice A0_0 l0_0.length c0_0, .slice (some ad110) l0_1.length c0_1] 25 (0, 0)) (zzb BK101)) : gb111 ≠ gb101)); have n11_ := Aside0.mk ((by rw [hg]; exact Nat.ne_of_lt (blk_lt (g := gb102) (o := .cells #[.slice none 0 0, .slice none 0 0] 25 (0, 0)) (zzb BK102)) : gb102 ≠ gb111)); have n12_ := Aside0.mk ((by rw [hg]; exact Nat.ne_of_gt (blk_lt (g := gb102) (o := .cells #[.slice none 0 0, .slice none 0 0] 25 (0, 0)) (zzb BK102)) : gb111 ≠ gb102)); have n13_ := Aside0.mk ((by rw [hg]; exact Nat.ne_of_lt (blk_lt (g := gb109) (o := .cells #[.slice Ao10 y106.length co10, u110001] 25 (0, 0)) (zzb BK109)) : gb109 ≠ gb111)); have n14_ := Aside0.mk ((by rw [hg]; exact Nat.ne_of_gt (blk_lt (g := gb109) (o := .cells #[.slice Ao10 y106.length co10, u110001] 25 (0, 0)) (zzb BK109)) : gb111 ≠ gb109)); clear HO_110000; clear HO_110001; clear BK101; clear BK102; clear BK109; clear HB; have HO_110000 := n0_; have HO_110001 := n1_; have BK101 := n2_; have BK102 := n3_; have BK109 := n4_; have HB := n5_; have BK111 := n6_; have GW111 := n7_; have GE111 := n8_; have NB101_111 := n9_; have NB111_101 := n10_; have NB102_111 := n11_; have NB111_102 := n12_; have NB109_111 := n13_; have NB111_109 := n14_; clear n0_ n1_ n2_ n3_ n4_ n5_ n6_ n7_ n8_ n9_ n10_ n11_ n12_ n13_ n14_; clear hb hbox hg; have hnb21 := NB111_101.out; have hnc21 := NB101_111.out; have hnb22 := NB111_102.out; have hnc22 := NB102_111.out; have hnb23 := NB111_109.out; have hnc23 := NB109_111.out; have hcz24_0 : w20.cell? ⟨gb111, 0, none⟩ = some (.string (⟨#[]⟩ : ByteArray)) := (blk_cell BK111.out 0).trans rfl; have hcz24_1 : w20.cell? ⟨gb111, 1, none⟩ = some (.slice none 0 0) := (blk_cell BK111.out 1).trans rfl; have hfz24_0 := blk_frozen BK111.out 0; have hfz24_1 := blk_frozen BK111.out 1))
      go_loopg [6] k1 (fun kq v6 w' => ∃ (x6_2 : Int) (x112001_2 : List (List (S64))) (u112001 : Value), v6 = .int .i64 x6_2 ∧ Aside0 (templelaw0_CopyRaw.l1 kq x4_1 x6_2 l0_0 l0_1 y106 x110001_1 ((rd_T45 l0_1 x4_1).f0) x112001_2 = some (r1, r2)) ∧ Aside0 (kq ≤ k1) ∧ Aside0 (Kd.R Kd.string 9 w' w.heap.size (fun _ => True) (.slice Ao10 y106.length co10) y106) ∧ Aside0 (Kd.R k45 45 w' w.heap.size (fun k_ => some k_ ≠ (u112001 : Value).ownBlock ∧ k_ ≠ gb111) u110001 x110001_1) ∧ Aside0 (Kd.R (Kd.slice 64 k64) 65 w' w.heap.size (fun _ => True) u112001 x112001_2) ∧ Aside0 (w'.heap[gb101]? = some (.cells #[(.slice A0_0 l0_0.length c0_0), (.slice (some ad110) l0_1.length c0_1)] 25 (0, 0))) ∧ Aside0 (w'.heap[gb102]? = some (.cells #[(.slice none 0 0), (.slice none 0 0)] 25 (0, 0))) ∧ Aside0 (w'.heap[gb109]? = some (.cells #[(.slice Ao10 y106.length co10), u110001] 25 (0, 0))) ∧ Aside0 (w'.heap[gb111]? = some (.cells #[.string ((rd_T45 l0_1 x4_1).f0), u112001] 45 (0, 0))) ∧ Aside0 (Below w.heap.size w w'))
      case atStart => exact ⟨(0), (([] : List (List (S64)))), (.slice none 0 0), zz0, H', ⟨Nat.le_refl _⟩, ⟨zzr (Kd.R_mono (Kd.R_far (p := ⟨gb111, 1, none⟩) (Kd.R_far (p := ⟨gb111, 0, none⟩) (Kd.R_types HO_110000.out BK111.out (by decide)) (fun _ hk => hk.2) (.string ((rd_T45 l0_1 x4_1).f0))) (fun _ hk => hk.2) (.slice none 0 0)) (fun _ hk => trivial))⟩, ⟨zzr (Kd.R_mono (Kd.R_far (p := ⟨gb111, 1, none⟩) (Kd.R_far (p := ⟨gb111, 0, none⟩) (Kd.R_mono HO_110001.out (fun k_ hk => (⟨hk, hk.2⟩ : _ ∧ k_ ≠ gb111))) (fun _ hk => hk.2) (.string ((rd_T45 l0_1 x4_1).f0))) (fun _ hk => hk.2) (.slice none 0 0)) (fun _ hk => ⟨(by simp [Value.ownBlock]), hk.1.2⟩))⟩, ⟨by first | exact Kd.R_nil _ _ _ _ _ | exact Kd.N_nil _ _ _ _ _ | exact Kd.V_nil _ _ _ _ _ | exact Kd.Q_nil _ _ _ _ _ | exact Kd.S_nil _ _ _ _ _⟩, ⟨by (with_reducible repeat (first | refine blk_drewN ?_ _ | refine blk_drew ?_ | refine blk_alloc ?_ _)); refine blk_far ?_ NB101_111.out _; (with_reducible repeat (first | refine blk_drewN ?_ _ | refine blk_drew ?_ | refine blk_alloc ?_ _)); refine blk_far ?_ NB101_111.out _; exact zzb BK101⟩, ⟨by (with_reducible repeat (first | refine blk_drewN ?_ _ | refine blk_drew ?_ | refine blk_alloc ?_ _)); refine blk_far ?_ NB102_111.out _; (with_reducible repeat (first | refine blk_drewN ?_ _ | refine blk_drew ?_ | refine blk_alloc ?_ _)); refine blk_far ?_ NB102_111.out _; exact zzb BK102⟩, ⟨by (with_reducible repeat (first | refine blk_drewN ?_ _ | refine blk_drew ?_ | refine blk_alloc ?_ _)); refine blk_far ?_ NB109_111.out _; (with_reducible repeat (first | refine blk_drewN ?_ _ | refine blk_drew ?_ | refine blk_alloc ?_ _)); refine blk_far ?_ NB109_111.out _; exact zzb BK109⟩, ⟨by (with_reducible repeat (first | refine blk_drewN ?_ _ | refine blk_drew ?_ | refine blk_alloc ?_ _)); refine blk_put (cs := #[.string ((rd_T45 l0_1 x4_1).f0), .slice none 0 0]) ?_ 1 _ rfl; (with_reducible repeat (first | refine blk_drewN ?_ _ | refine blk_drew ?_ | refine blk_alloc ?_ _)); refine blk_put (cs := #[.string (⟨#[]⟩ : ByteArray), .slice none 0 0]) ?_ 0 _ rfl; exact zzb BK111⟩, ⟨zzq⟩⟩
      case round =>
       clear H'; (try clear c1); (try clear p1); (try clear q1); (try clear hx1); (try clear c2); (try clear p2); (try clear c7); (try clear c10); (try clear c11); (try clear p11); (try clear q11); (try clear hx11); (try clear c12); (try clear c13); (try clear c15); (try clear c15b0); (try clear c16); (try clear c16b0); (try clear c17); (try clear c18); (try clear c21); (try clear c22); (try clear c23); (try clear hcz14_0); (try clear hcz14_1); (try clear hcz19_0); (try clear hcz19_1); (try clear hcz24_0); (try clear hcz24_1); (try clear hcz8_0); (try clear hcz8_1); (try clear hfz14_0); (try clear hfz14_1); (try clear hfz19_0); (try clear hfz19_1); (try clear hfz24_0); (try clear hfz24_1); (try clear hfz8_0); (try clear hfz8_1); (try clear hx110_0); (try clear hx110_1); (try clear p110); (try clear p2); (try clear q110); obtain ⟨x6_2, x112001_2, u112001, rfl, HA, HK2, HO_110000, HO_110001, HO_112001, BK101, BK102, BK109, BK111, HB⟩ := hrel
       cases gk with
       | zero => exact absurd HA.out (by simp [templelaw0_CopyRaw.l1])
       | succ k2 =>
        have H := HA.out; clear HA
        simp only [templelaw0_CopyRaw.l1] at H
        by_cases c25 : 0 ≤ x4_1
        ·rw [if_pos c25] at H; have c25b0 : decide (0 ≤ x4_1) = true := decide_eq_true c25; clear c25
         by_cases c26 : x4_1 < (l0_1.length : Int)
         ·rw [if_pos c26] at H; have c26b0 : decide (x4_1 < (l0_1.length : Int)) = true := decide_eq_true c26; clear c26
          by_cases c27 : x6_2 < (((rd_T45 l0_1 x4_1).f1).length : Int)
          ·rw [if_pos c27] at H; have c27b0 : decide (x6_2 < (((rd_T45 l0_1 x4_1).f1).length : Int)) = true := decide_eq_true c27; clear c27; have H' := Aside0.mk H; clear H; have hnb28 := NB101_102.out; have hnc28 := NB102_101.out; have hnb29 := NB101_109.out; have hnc29 := NB109_101.out; have hnb30 := NB101_111.out; have hnc30 := NB111_101.out
           have hcz31_0 : wr.cell? ⟨gb101, 0, none⟩ = some (.slice A0_0 l0_0.length c0_0) := (blk_cell BK101.out 0).trans rfl
           have hcz31_1 : wr.cell? ⟨gb101, 1, none⟩ = some (.slice (some ad110) l0_1.length c0_1) := (blk_cell BK101.out 1).trans rfl
           have hfz31_0 := blk_frozen BK101.out 0; have hfz31_1 := blk_frozen BK101.out 1
           have p112 : 0 ≤ (x4_1 : Int) := of_decide_eq_true zz1
           have q112 : x4_1 < (l0_1.length : Int) := of_decide_eq_true zz1
           obtain ⟨ad112, A112_1, c112_1, e112, hx112_0, hx112_1, hl112_1, hi112_1⟩ := at_T45 HR0_1.out x4_1 p112 q112; obtain rfl : ad110 = ad112 := (by injection e112)
           replace hx112_0 := (HB.out.cell (World.block_lt_of_cell? w _ hx112_0)).trans hx112_0
           replace hx112_1 := (HB.out.cell (World.block_lt_of_cell? w _ hx112_1)).trans hx112_1
           have HR112_1 := Aside0.mk hi112_1; have HC112_1 := Aside0.mk hl112_1; clear hi112_1 hl112_1; replace p112 := eq_true p112; replace q112 := eq_true q112; go_wp2
           go_loopg [7, 8] k2 (fun kq v7 v8 w' => ∃ (x7_3 : List (S64)) (x8_3 : Int), v8 = .int .i64 x8_3 ∧ Aside0 (templelaw0_CopyRaw.l2 kq x4_1 x6_2 x7_3 x8_3 l0_0 l0_1 y106 x110001_1 ((rd_T45 l0_1 x4_1).f0) x112001_2 = some (r1, r2)) ∧ Aside0 (kq ≤ k2) ∧ Aside0 (Kd.S k64 64 w' w.heap.size (fun _ => True) v7 x7_3) ∧ Aside0 (Kd.R Kd.string 9 w' w.heap.size (fun _ => True) (.slice Ao10 y106.length co10) y106) ∧ Aside0 (Kd.R k45 45 w' w.heap.size (fun k_ => some k_ ≠ (v7 : Value).ownBlock ∧ some k_ ≠ (u112001 : Value).ownBlock ∧ k_ ≠ gb111) u110001 x110001_1) ∧ Aside0 (Kd.R (Kd.slice 64 k64) 65 w' w.heap.size (fun k_ => some k_ ≠ (v7 : Value).ownBlock) u112001 x112001_2) ∧ Aside0 (w'.heap[gb101]? = some (.cells #[(.slice A0_0 l0_0.length c0_0), (.slice (some ad110) l0_1.length c0_1)] 25 (0, 0))) ∧ Aside0 (w'.heap[gb102]? = some (.cells #[(.slice none 0 0), (.slice none 0 0)] 25 (0, 0))) ∧ Aside0 (w'.heap[gb109]? = some (.cells #[(.slice Ao10 y106.length co10), u110001] 25 (0, 0))) ∧ Aside0 (w'.heap[gb111]? = some (.cells #[.string ((rd_T45 l0_1 x4_1).f0), u112001] 45 (0, 0))) ∧ Aside0 (Below w.heap.size w w'))
           case atStart => exact ⟨(([] : List (S64))), (0), zz0, H', ⟨Nat.le_refl _⟩, ⟨by first | exact Kd.S_nil _ _ _ _ _ | exact Kd.N_nil _ _ _ _ _ | exact Kd.V_nil _ _ _ _ _ | exact Kd.Q_nil _ _ _ _ _ | exact Kd.R_nil _ _ _ _ _⟩, ⟨zzr HO_110000.out⟩, ⟨zzr (Kd.R_mono HO_110001.out (fun _ hk => ⟨(by simp [Value.ownBlock]), ⟨hk.1, hk.2⟩⟩))⟩, ⟨zzr (Kd.R_mono HO_112001.out (fun _ hk => (by simp [Value.ownBlock])))⟩, ⟨zzb BK101⟩, ⟨zzb BK102⟩, ⟨zzb BK109⟩, ⟨zzb BK111⟩, ⟨zzq⟩⟩
           case round =>
            clear H'; (try clear c1); (try clear p1); (try clear q1); (try clear hx1); (try clear c2); (try clear p2); (try clear c3); (try clear c7); (try clear c10); (try clear c11); (try clear p11); (try clear q11); (try clear hx11); (try clear c12); (try clear c13); (try clear c15); (try clear c15b0); (try clear c16); (try clear c16b0); (try clear c17); (try clear c18); (try clear c21); (try clear c22); (try clear c23); (try clear c25); (try clear c25b0); (try clear c26); (try clear c26b0); (try clear c27); (try clear c27b0); (try clear c28); (try clear c29); (try clear c30); (try clear hcz14_0); (try clear hcz14_1); (try clear hcz19_0); (try clear hcz19_1); (try clear hcz24_0); (try clear hcz24_1); (try clear hcz31_0); (try clear hcz31_1); (try clear hcz8_0); (try clear hcz8_1); (try clear hfz14_0); (try clear hfz14_1); (try clear hfz19_0); (try clear hfz19_1); (try clear hfz24_0); (try clear hfz24_1); (try clear hfz31_0); (try clear hfz31_1); (try clear hfz8_0); (try clear hfz8_1); (try clear hx110_0); (try clear hx110_1); (try clear hx112_0); (try clear hx112_1); (try clear p1); (try clear p11); (try clear p110); (try clear p112); (try clear p2); (try clear q1); (try clear q11); (try clear q110); (try clear q112); obtain ⟨x7_3, x8_3, rfl, HA, HK3, HO_7, HO_110000, HO_110001, HO_112001, BK101, BK102, BK109, BK111, HB⟩ := hrel
            cases gk with
            | zero => exact absurd HA.out (by simp [templelaw0_CopyRaw.l2])
            | succ k3 =>
             have H := HA.out; clear HA
             simp only [templelaw0_CopyRaw.l2] at H
             by_cases c32 : 0 ≤ x4_1
             ·rw [if_pos c32] at H; have c32b0 : decide (0 ≤ x4_1) = true := decide_eq_true c32; clear c32
              by_cases c33 : x4_1 < (l0_1.length : Int)
              ·rw [if_pos c33] at H; have c33b0 : decide (x4_1 < (l0_1.length : Int)) = true := decide_eq_true c33; clear c33
               by_cases c34 : 0 ≤ x6_2
               ·rw [if_pos c34] at H; have c34b0 : decide (0 ≤ x6_2) = true := decide_eq_true c34; clear c34
                by_cases c35 : x6_2 < (((rd_T45 l0_1 x4_1).f1).length : Int)
                ·rw [if_pos c35] at H; have c35b0 : decide (x6_2 < (((rd_T45 l0_1 x4_1).f1).length : Int)) = true := decide_eq_true c35; clear c35
                 by_cases c36 : x8_3 < ((rd_L6 ((rd_T45 l0_1 x4_1).f1) x6_2).length : Int)
                 ·rw [if_pos c36] at H; have c36b0 : decide (x8_3 < ((rd_L6 ((rd_T45 l0_1 x4_1).f1) x6_2).length : Int)) = true := decide_eq_true c36; clear c36
                  by_cases c37 : 0 ≤ x8_3
                  ·rw [if_pos c37] at H; have c37b0 : decide (0 ≤ x8_3) = true := decide_eq_true c37; clear c37; obtain ⟨y122, hy122⟩ : ∃ y_ : List (S61), y_ = (([] : List (S61))) := ⟨_, rfl⟩
                   replace H : (if y122.length + ((rd_T64 (rd_L6 ((rd_T45 l0_1 x4_1).f1) x6_2) x8_3).f1).length < 3518437208883 then (if x7_3.length < 4398046511104 then (templelaw0_CopyRaw.l2 k3 x4_1 x6_2 (x7_3 ++ [(⟨(rd_T64 (rd_L6 ((rd_T45 l0_1 x4_1).f1) x6_2) x8_3).f0, (y122 ++ ((rd_T64 (rd_L6 ((rd_T45 l0_1 x4_1).f1) x6_2) x8_3).f1))⟩ : S64)]) (wrap64 (x8_3 + 1)) l0_0 l0_1 y106 x110001_1 ((rd_T45 l0_1 x4_1).f0) x112001_2) else (none)) else (none)) = some (r1, r2) := by first | (rw [hy122]; with_reducible exact H) | (have H2_ := (Option.bind_some _ _).symm.trans H; rw [hy122]; with_reducible exact H2_) | (have H2_ := (Option.bind_some _ _).symm.trans H; with_reducible exact H2_) | with_reducible exact H | (rw [hy122]; exact H) | exact H
                   have Ny122 := Aside0.mk hy122; clear hy122
                   by_cases c38 : y122.length + ((rd_T64 (rd_L6 ((rd_T45 l0_1 x4_1).f1) x6_2) x8_3).f1).length < 3518437208883
                   ·rw [if_pos c38] at H; have LMc38 := Aside0.mk c38; clear c38; obtain ⟨y125, hy125⟩ : ∃ y_ : List (S61), y_ = (y122 ++ ((rd_T64 (rd_L6 ((rd_T45 l0_1 x4_1).f1) x6_2) x8_3).f1)) := ⟨_, rfl⟩
                    replace H : (if x7_3.length < 4398046511104 then (templelaw0_CopyRaw.l2 k3 x4_1 x6_2 (x7_3 ++ [(⟨(rd_T64 (rd_L6 ((rd_T45 l0_1 x4_1).f1) x6_2) x8_3).f0, y125⟩ : S64)]) (wrap64 (x8_3 + 1)) l0_0 l0_1 y106 x110001_1 ((rd_T45 l0_1 x4_1).f0) x112001_2) else (none)) = some (r1, r2) := by first | (rw [hy125]; with_reducible exact H) | (have H2_ := (Option.bind_some _ _).symm.trans H; rw [hy125]; with_reducible exact H2_) | (have H2_ := (Option.bind_some _ _).symm.trans H; with_reducible exact H2_) | with_reducible exact H | (rw [hy125]; exact H) | exact H
                    have Ny125 := Aside0.mk hy125; clear hy125
                    by_cases c39 : x7_3.length < 4398046511104
                    ·rw [if_pos c39] at H; have LMc39 := Aside0.mk c39; clear c39; obtain ⟨y128, hy128⟩ : ∃ y_ : List (S64), y_ = (x7_3 ++ [(⟨(rd_T64 (rd_L6 ((rd_T45 l0_1 x4_1).f1) x6_2) x8_3).f0, y125⟩ : S64)]) := ⟨_, rfl⟩
                     replace H : (templelaw0_CopyRaw.l2 k3 x4_1 x6_2 y128 (wrap64 (x8_3 + 1)) l0_0 l0_1 y106 x110001_1 ((rd_T45 l0_1 x4_1).f0) x112001_2) = some (r1, r2) := by first | (rw [hy128]; with_reducible exact H) | (have H2_ := (Option.bind_some _ _).symm.trans H; rw [hy128]; with_reducible exact H2_) | (have H2_ := (Option.bind_some _ _).symm.trans H; with_reducible exact H2_) | with_reducible exact H | (rw [hy128]; exact H) | exact H
                     have Ny128 := Aside0.mk hy128; clear hy128; have H' := Aside0.mk H; clear H; have hnb40 := NB101_102.out; have hnc40 := NB102_101.out; have hnb41 := NB101_109.out; have hnc41 := NB109_101.out; have hnb42 := NB101_111.out; have hnc42 := NB111_101.out
                     have hcz43_0 : wr.cell? ⟨gb101, 0, none⟩ = some (.slice A0_0 l0_0.length c0_0) := (blk_cell BK101.out 0).trans rfl
                     have hcz43_1 : wr.cell? ⟨gb101, 1, none⟩ = some (.slice (some ad110) l0_1.length c0_1) := (blk_cell BK101.out 1).trans rfl
                     have hfz43_0 := blk_frozen BK101.out 0; have hfz43_1 := blk_frozen BK101.out 1
                     have p116 : 0 ≤ (x4_1 : Int) := of_decide_eq_true zz1
                     have q116 : x4_1 < (l0_1.length : Int) := of_decide_eq_true zz1
                     obtain ⟨ad116, A116_1, c116_1, e116, hx116_0, hx116_1, hl116_1, hi116_1⟩ := at_T45 HR0_1.out x4_1 p116 q116; obtain rfl : ad110 = ad116 := (by injection e116)
                     replace hx116_0 := (HB.out.cell (World.block_lt_of_cell? w _ hx116_0)).trans hx116_0
                     replace hx116_1 := (HB.out.cell (World.block_lt_of_cell? w _ hx116_1)).trans hx116_1
                     have HR116_1 := Aside0.mk hi116_1; have HC116_1 := Aside0.mk hl116_1; clear hi116_1 hl116_1; replace p116 := eq_true p116; replace q116 := eq_true q116
                     have p117 : 0 ≤ (x6_2 : Int) := of_decide_eq_true zz1
                     have q117 : x6_2 < (((rd_T45 l0_1 x4_1).f1).length : Int) := of_decide_eq_true zz1
                     obtain ⟨ad117, A117_0, c117_0, e117, hx117_0, hl117_0, hi117_0⟩ := at_L6 HR116_1.out x6_2 p117 q117; cases e117
                     replace hx117_0 := (HB.out.cell (World.block_lt_of_cell? w _ hx117_0)).trans hx117_0
                     have HR117_0 := Aside0.mk hi117_0; have HC117_0 := Aside0.mk hl117_0; clear hi117_0 hl117_0; replace p117 := eq_true p117; replace q117 := eq_true q117
                     have p118 : 0 ≤ (x4_1 : Int) := of_decide_eq_true zz1
                     have q118 : x4_1 < (l0_1.length : Int) := of_decide_eq_true zz1
                     obtain ⟨ad118, A118_1, c118_1, e118, hx118_0, hx118_1, hl118_1, hi118_1⟩ := at_T45 HR0_1.out x4_1 p118 q118; obtain rfl : ad110 = ad118 := (by injection e118)
                     replace hx118_0 := (HB.out.cell (World.block_lt_of_cell? w _ hx118_0)).trans hx118_0
                     replace hx118_1 := (HB.out.cell (World.block_lt_of_cell? w _ hx118_1)).trans hx118_1
                     have HR118_1 := Aside0.mk hi118_1; have HC118_1 := Aside0.mk hl118_1; clear hi118_1 hl118_1; replace p118 := eq_true p118; replace q118 := eq_true q118
                     have ea_ := Option.some.inj (hx116_1.symm.trans hx118_1)
                     injection ea_ with ea_ en_ ec_
                     subst ea_; subst ec_; clear en_
                     have p119 : 0 ≤ (x6_2 : Int) := of_decide_eq_true zz1
                     have q119 : x6_2 < (((rd_T45 l0_1 x4_1).f1).length : Int) := of_decide_eq_true zz1
                     obtain ⟨ad119, A119_0, c119_0, e119, hx119_0, hl119_0, hi119_0⟩ := at_L6 HR118_1.out x6_2 p119 q119; cases e119
                     replace hx119_0 := (HB.out.cell (World.block_lt_of_cell? w _ hx119_0)).trans hx119_0
                     have ea_ := Option.some.inj (hx117_0.symm.trans hx119_0)
                     injection ea_ with ea_ en_ ec_
                     subst ea_; subst ec_; clear en_; have HR119_0 := Aside0.mk hi119_0; have HC119_0 := Aside0.mk hl119_0; clear hi119_0 hl119_0; replace p119 := eq_true p119; replace q119 := eq_true q119
                     have p120 : 0 ≤ (x8_3 : Int) := of_decide_eq_true zz1
                     have q120 : x8_3 < ((rd_L6 ((rd_T45 l0_1 x4_1).f1) x6_2).length : Int) := of_decide_eq_true zz1
                     obtain ⟨ad120, A120_1, c120_1, e120, hx120_0, hx120_1, hl120_1, hi120_1⟩ := at_T64 HR119_0.out x8_3 p120 q120; cases e120
                     replace hx120_0 := (HB.out.cell (World.block_lt_of_cell? w _ hx120_0)).trans hx120_0
                     replace hx120_1 := (HB.out.cell (World.block_lt_of_cell? w _ hx120_1)).trans hx120_1
                     have HR120_1 := Aside0.mk hi120_1; have HC120_1 := Aside0.mk hl120_1; clear hi120_1 hl120_1; replace p120 := eq_true p120; replace q120 := eq_true q120
                     try go_wp2_with (first | ((with_reducible refine gate_dst (N := 9) rfl ?_); refine box_event (by rfl) (N := 9) (by rfl) (cs := #[.bool false, .slice none 0 0]) (t := 64) zzh ?_; intro gb121 hg w44 hbox hb; have n0_ := Aside0.mk (Kd.S_below (Kd.S_elderB (zzs HO_7.out) gb121 (Nat.le_of_eq hg.symm)) hb); have n1_ := Aside0.mk (Kd.R_below (zzr HO_110000.out) hb); have n2_ := Aside0.mk (Kd.R_below (Kd.R_elderB (zzr HO_110001.out) gb121 (Nat.le_of_eq hg.symm)) hb); have n3_ := Aside0.mk (Kd.R_below (Kd.R_elderB (zzr HO_112001.out) gb121 (Nat.le_of_eq hg.symm)) hb); have n4_ := Aside0.mk (blk_below (g := gb101) (o := .cells #[.slice A0_0 l0_0.length c0_0, .slice (some ad110) l0_1.length c0_1] 25 (0, 0)) (zzb BK101) hb); have n5_ := Aside0.mk (blk_below (g := gb102) (o := .cells #[.slice none 0 0, .slice none 0 0] 25 (0, 0)) (zzb BK102) hb); have n6_ := Aside0.mk (blk_below (g := gb109) (o := .cells #[.slice Ao10 y106.length co10, u110001] 25 (0, 0)) (zzb BK109) hb); have n7_ := Aside0.mk (blk_below (g := gb111) (o := .cells #[.string ((rd_T45 l0_1 x4_1).f0), u112001] 45 (0, 0)) (zzb BK111) hb); have n8_ := Aside0.mk (below_step zzq hb); have n9_ := Aside0.mk (hbox); have n10_ := Aside0.mk ((zzg hg zzq)); have n11_ := Aside0.mk ((zzg hg zzq)); have n12_ := Aside0.mk ((by rw [hg]; exact Nat.ne_of_lt (blk_lt (g := gb101) (o := .cells #[.slice A0_0 l0_0.length c0_0, .slice (some ad110) l0_1.length c0_1] 25 (0, 0)) (zzb BK101)) : gb101 ≠ gb121)); have n13_ := Aside0.mk ((by rw [hg]; exact Nat.ne_of_gt (blk_lt (g := gb101) (o := .cells #[.slice A0_0 l0_0.length c0_0, .slice (some ad110) l0_1.length c0_1] 25 (0, 0)) (zzb BK101)) : gb121 ≠ gb101)); have n14_ := Aside0.mk ((by rw [hg]; exact Nat.ne_of_lt (blk_lt (g := gb102) (o := .cells #[.slice none 0 0, .slice none 0 0] 25 (0, 0)) (zzb BK102)) : gb102 ≠ gb121)); have n15_ := Aside0.mk ((by rw [hg]; exact Nat.ne_of_gt (blk_lt (g := gb102) (o := .cells #[.slice none 0 0, .slice none 0 0] 25 (0, 0)) (zzb BK102)) : gb121 ≠ gb102)); have n16_ := Aside0.mk ((by rw [hg]; exact Nat.ne_of_lt (blk_lt (g := gb109) (o := .cells #[.slice Ao10 y106.length co10, u110001] 25 (0, 0)) (zzb BK109)) : gb109 ≠ gb121)); have n17_ := Aside0.mk ((by rw [hg]; exact Nat.ne_of_gt (blk_lt (g := gb109) (o := .cells #[.slice Ao10 y106.length co10, u110001] 25 (0, 0)) (zzb BK109)) : gb121 ≠ gb109)); have n18_ := Aside0.mk ((by rw [hg]; exact Nat.ne_of_lt (blk_lt (g := gb111) (o := .cells #[.string ((rd_T45 l0_1 x4_1).f0), u112001] 45 (0, 0)) (zzb BK111)) : gb111 ≠ gb121)); have n19_ := Aside0.mk ((by rw [hg]; exact Nat.ne_of_gt (blk_lt (g := gb111) (o := .cells #[.string ((rd_T45 l0_1 x4_1).f0), u112001] 45 (0, 0)) (zzb BK111)) : gb121 ≠ gb111)); clear HO_7; clear HO_110000; clear HO_110001; clear HO_112001; clear BK101; clear BK102; clear BK109; clear BK111; clear HB; have HO_7 := n0_; have HO_110000 := n1_; have HO_110001 := n2_; have HO_112001 := n3_; have BK101 := n4_; have BK102 := n5_; have BK109 := n6_; have BK111 := n7_; have HB := n8_; have BK121 := n9_; have GW121 := n10_; have GE121 := n11_; have NB101_121 := n12_; have NB121_101 := n13_; have NB102_121 := n14_; have NB121_102 := n15_; have NB109_121 := n16_; have NB121_109 := n17_; have NB111_121 := n18_; have NB121_111 := n19_; clear n0_ n1_ n2_ n3_ n4_ n5_ n6_ n7_ n8_ n9_ n10_ n11_ n12_ n13_ n14_ n15_ n16_ n17_ n18_ n19_; clear hb hbox hg; have hnb45 := NB121_101.out; have hnc45 := NB101_121.out; have hnb46 := NB121_102.out; have hnc46 := NB102_121.out; have hnb47 := NB121_109.out; have hnc47 := NB109_121.out; have hnb48 := NB121_111.out; have hnc48 := NB111_121.out; have hcz49_0 : w44.cell? ⟨gb121, 0, none⟩ = some (.bool false) := (blk_cell BK121.out 0).trans rfl; have hcz49_1 : w44.cell? ⟨gb121, 1, none⟩ = some (.slice none 0 0) := (blk_cell BK121.out 1).trans rfl; have hfz49_0 := blk_frozen BK121.out 0; have hfz49_1 := blk_frozen BK121.out 1))
                     have n0_ : Aside0 (Kd.S k64 64 ((w44.setCell ⟨gb121, 0, none⟩ (.bool ((rd_T64 (rd_L6 ((rd_T45 l0_1 x4_1).f1) x6_2) x8_3).f0))).setCell ⟨gb121, 1, none⟩ (.slice A120_1 ((rd_T64 (rd_L6 ((rd_T45 l0_1 x4_1).f1) x6_2) x8_3).f1).length c120_1)) w.heap.size (fun k_ => k_ ≠ gb121) u7 x7_3) := ⟨zzs (Kd.S_mono (Kd.S_far (p := ⟨gb121, 1, none⟩) (Kd.S_far (p := ⟨gb121, 0, none⟩) (Kd.S_mono HO_7.out (fun k_ hk => (⟨hk, hk.2⟩ : _ ∧ k_ ≠ gb121))) (fun _ hk => hk.2) (.bool ((rd_T64 (rd_L6 ((rd_T45 l0_1 x4_1).f1) x6_2) x8_3).f0))) (fun _ hk => hk.2) (.slice A120_1 ((rd_T64 (rd_L6 ((rd_T45 l0_1 x4_1).f1) x6_2) x8_3).f1).length c120_1)) (fun _ hk => hk.1.2))⟩
                     have n1_ : Aside0 (Kd.R Kd.string 9 ((w44.setCell ⟨gb121, 0, none⟩ (.bool ((rd_T64 (rd_L6 ((rd_T45 l0_1 x4_1).f1) x6_2) x8_3).f0))).setCell ⟨gb121, 1, none⟩ (.slice A120_1 ((rd_T64 (rd_L6 ((rd_T45 l0_1 x4_1).f1) x6_2) x8_3).f1).length c120_1)) w.heap.size (fun _ => True) (.slice Ao10 y106.length co10) y106) := ⟨zzr (Kd.R_mono (Kd.R_far (p := ⟨gb121, 1, none⟩) (Kd.R_far (p := ⟨gb121, 0, none⟩) (Kd.R_types HO_110000.out BK121.out (by decide)) (fun _ hk => hk.2) (.bool ((rd_T64 (rd_L6 ((rd_T45 l0_1 x4_1).f1) x6_2) x8_3).f0))) (fun _ hk => hk.2) (.slice A120_1 ((rd_T64 (rd_L6 ((rd_T45 l0_1 x4_1).f1) x6_2) x8_3).f1).length c120_1)) (fun _ hk => trivial))⟩
                     have n2_ : Aside0 (Kd.R k45 45 ((w44.setCell ⟨gb121, 0, none⟩ (.bool ((rd_T64 (rd_L6 ((rd_T45 l0_1 x4_1).f1) x6_2) x8_3).f0))).setCell ⟨gb121, 1, none⟩ (.slice A120_1 ((rd_T64 (rd_L6 ((rd_T45 l0_1 x4_1).f1) x6_2) x8_3).f1).length c120_1)) w.heap.size (fun k_ => some k_ ≠ (u7 : Value).ownBlock ∧ some k_ ≠ (u112001 : Value).ownBlock ∧ k_ ≠ gb111 ∧ k_ ≠ gb121) u110001 x110001_1) := ⟨zzr (Kd.R_mono (Kd.R_far (p := ⟨gb121, 1, none⟩) (Kd.R_far (p := ⟨gb121, 0, none⟩) (Kd.R_mono HO_110001.out (fun k_ hk => (⟨hk, hk.2⟩ : _ ∧ k_ ≠ gb121))) (fun _ hk => hk.2) (.bool ((rd_T64 (rd_L6 ((rd_T45 l0_1 x4_1).f1) x6_2) x8_3).f0))) (fun _ hk => hk.2) (.slice A120_1 ((rd_T64 (rd_L6 ((rd_T45 l0_1 x4_1).f1) x6_2) x8_3).f1).length c120_1)) (fun _ hk => ⟨hk.1.1.1, ⟨hk.1.1.2.1, ⟨hk.1.1.2.2, hk.1.2⟩⟩⟩))⟩
                     have n3_ : Aside0 (Kd.R (Kd.slice 64 k64) 65 ((w44.setCell ⟨gb121, 0, none⟩ (.bool ((rd_T64 (rd_L6 ((rd_T45 l0_1 x4_1).f1) x6_2) x8_3).f0))).setCell ⟨gb121, 1, none⟩ (.slice A120_1 ((rd_T64 (rd_L6 ((rd_T45 l0_1 x4_1).f1) x6_2) x8_3).f1).length c120_1)) w.heap.size (fun k_ => some k_ ≠ (u7 : Value).ownBlock ∧ k_ ≠ gb121) u112001 x112001_2) := ⟨zzr (Kd.R_mono (Kd.R_far (p := ⟨gb121, 1, none⟩) (Kd.R_far (p := ⟨gb121, 0, none⟩) (Kd.R_mono HO_112001.out (fun k_ hk => (⟨hk, hk.2⟩ : _ ∧ k_ ≠ gb121))) (fun _ hk => hk.2) (.bool ((rd_T64 (rd_L6 ((rd_T45 l0_1 x4_1).f1) x6_2) x8_3).f0))) (fun _ hk => hk.2) (.slice A120_1 ((rd_T64 (rd_L6 ((rd_T45 l0_1 x4_1).f1) x6_2) x8_3).f1).length c120_1)) (fun _ hk => ⟨hk.1.1, hk.1.2⟩))⟩
                     have n4_ : Aside0 (((w44.setCell ⟨gb121, 0, none⟩ (.bool ((rd_T64 (rd_L6 ((rd_T45 l0_1 x4_1).f1) x6_2) x8_3).f0))).setCell ⟨gb121, 1, none⟩ (.slice A120_1 ((rd_T64 (rd_L6 ((rd_T45 l0_1 x4_1).f1) x6_2) x8_3).f1).length c120_1)).heap[gb101]? = some (.cells #[.slice A0_0 l0_0.length c0_0, .slice (some ad110) l0_1.length c0_1] 25 (0, 0))) := ⟨by (with_reducible repeat (first | refine blk_drewN ?_ _ | refine blk_drew ?_ | refine blk_alloc ?_ _)); refine blk_far ?_ NB101_121.out _; (with_reducible repeat (first | refine blk_drewN ?_ _ | refine blk_drew ?_ | refine blk_alloc ?_ _)); refine blk_far ?_ NB101_121.out _; exact zzb BK101⟩
                     have n5_ : Aside0 (((w44.setCell ⟨gb121, 0, none⟩ (.bool ((rd_T64 (rd_L6 ((rd_T45 l0_1 x4_1).f1) x6_2) x8_3).f0))).setCell ⟨gb121, 1, none⟩ (.slice A120_1 ((rd_T64 (rd_L6 ((rd_T45 l0_1 x4_1).f1) x6_2) x8_3).f1).length c120_1)).heap[gb102]? = some (.cells #[.slice none 0 0, .slice none 0 0] 25 (0, 0))) := ⟨by (with_reducible repeat (first | refine blk_drewN ?_ _ | refine blk_drew ?_ | refine blk_alloc ?_ _)); refine blk_far ?_ NB102_121.out _; (with_reducible repeat (first | refine blk_drewN ?_ _ | refine blk_drew ?_ | refine blk_alloc ?_ _)); refine blk_far ?_ NB102_121.out _; exact zzb BK102⟩
                     have n6_ : Aside0 (((w44.setCell ⟨gb121, 0, none⟩ (.bool ((rd_T64 (rd_L6 ((rd_T45 l0_1 x4_1).f1) x6_2) x8_3).f0))).setCell ⟨gb121, 1, none⟩ (.slice A120_1 ((rd_T64 (rd_L6 ((rd_T45 l0_1 x4_1).f1) x6_2) x8_3).f1).length c120_1)).heap[gb109]? = some (.cells #[.slice Ao10 y106.length co10, u110001] 25 (0, 0))) := ⟨by (with_reducible repeat (first | refine blk_drewN ?_ _ | refine blk_drew ?_ | refine blk_alloc ?_ _)); refine blk_far ?_ NB109_121.out _; (with_reducible repeat (first | refine blk_drewN ?_ _ | refine blk_drew ?_ | refine blk_alloc ?_ _)); refine blk_far ?_ NB109_121.out _; exact zzb BK109⟩
                     have n7_ : Aside0 (((w44.setCell ⟨gb121, 0, none⟩ (.bool ((rd_T64 (rd_L6 ((rd_T45 l0_1 x4_1).f1) x6_2) x8_3).f0))).setCell ⟨gb121, 1, none⟩ (.slice A120_1 ((rd_T64 (rd_L6 ((rd_T45 l0_1 x4_1).f1) x6_2) x8_3).f1).length c120_1)).heap[gb111]? = some (.cells #[.string ((rd_T45 l0_1 x4_1).f0), u112001] 45 (0, 0))) := ⟨by (with_reducible repeat (first | refine blk_drewN ?_ _ | refine blk_drew ?_ | refine blk_alloc ?_ _)); refine blk_far ?_ NB111_121.out _; (with_reducible repeat (first | refine blk_drewN ?_ _ | refine blk_drew ?_ | refine blk_alloc ?_ _)); refine blk_far ?_ NB111_121.out _; exact zzb BK111⟩
                     have n8_ : Aside0 (((w44.setCell ⟨gb121, 0, none⟩ (.bool ((rd_T64 (rd_L6 ((rd_T45 l0_1 x4_1).f1) x6_2) x8_3).f0))).setCell ⟨gb121, 1, none⟩ (.slice A120_1 ((rd_T64 (rd_L6 ((rd_T45 l0_1 x4_1).f1) x6_2) x8_3).f1).length c120_1)).heap[gb121]? = some (.cells #[.bool ((rd_T64 (rd_L6 ((rd_T45 l0_1 x4_1).f1) x6_2) x8_3).f0), .slice A120_1 ((rd_T64 (rd_L6 ((rd_T45 l0_1 x4_1).f1) x6_2) x8_3).f1).length c120_1] 64 (0, 0))) := ⟨by (with_reducible repeat (first | refine blk_drewN ?_ _ | refine blk_drew ?_ | refine blk_alloc ?_ _)); refine blk_put (cs := #[.bool ((rd_T64 (rd_L6 ((rd_T45 l0_1 x4_1).f1) x6_2) x8_3).f0), .slice none 0 0]) ?_ 1 _ rfl; (with_reducible repeat (first | refine blk_drewN ?_ _ | refine blk_drew ?_ | refine blk_alloc ?_ _)); refine blk_put (cs := #[.bool false, .slice none 0 0]) ?_ 0 _ rfl; exact zzb BK121⟩
                     have n9_ : Aside0 (Below w.heap.size w ((w44.setCell ⟨gb121, 0, none⟩ (.bool ((rd_T64 (rd_L6 ((rd_T45 l0_1 x4_1).f1) x6_2) x8_3).f0))).setCell ⟨gb121, 1, none⟩ (.slice A120_1 ((rd_T64 (rd_L6 ((rd_T45 l0_1 x4_1).f1) x6_2) x8_3).f1).length c120_1))) := ⟨zzq⟩
                     (try clear HO_7); (try clear HO_110000); (try clear HO_110001); (try clear HO_112001); (try clear BK101); (try clear BK102); (try clear BK109); (try clear BK111); (try clear BK121); (try clear HB)
                     generalize ((w44.setCell ⟨gb121, 0, none⟩ (.bool ((rd_T64 (rd_L6 ((rd_T45 l0_1 x4_1).f1) x6_2) x8_3).f0))).setCell ⟨gb121, 1, none⟩ (.slice A120_1 ((rd_T64 (rd_L6 ((rd_T45 l0_1 x4_1).f1) x6_2) x8_3).f1).length c120_1)) = w50 at n0_ n1_ n2_ n3_ n4_ n5_ n6_ n7_ n8_ n9_ ⊢
                     have HO_7 := n0_; have HO_110000 := n1_; have HO_110001 := n2_; have HO_112001 := n3_; have BK101 := n4_; have BK102 := n5_; have BK109 := n6_; have BK111 := n7_; have BK121 := n8_; have HB := n9_; clear n0_ n1_ n2_ n3_ n4_ n5_ n6_ n7_ n8_ n9_; have n0_ := Aside0.mk (Kd.S_drew HO_7.out); have n1_ := Aside0.mk (Kd.R_drew HO_110000.out); have n2_ := Aside0.mk (Kd.R_drew HO_110001.out); have n3_ := Aside0.mk (Kd.R_drew HO_112001.out); have n4_ := Aside0.mk (blk_drew BK101.out); have n5_ := Aside0.mk (blk_drew BK102.out); have n6_ := Aside0.mk (blk_drew BK109.out); have n7_ := Aside0.mk (blk_drew BK111.out); have n8_ := Aside0.mk (blk_drew BK121.out); have n9_ := Aside0.mk (below_drew1 HB.out); clear HO_7; clear HO_110000; clear HO_110001; clear HO_112001; clear BK101; clear BK102; clear BK109; clear BK111; clear BK121; clear HB; have HO_7 := n0_; have HO_110000 := n1_; have HO_110001 := n2_; have HO_112001 := n3_; have BK101 := n4_; have BK102 := n5_; have BK109 := n6_; have BK111 := n7_; have BK121 := n8_; have HB := n9_; clear n0_ n1_ n2_ n3_ n4_ n5_ n6_ n7_ n8_ n9_
                     refine start_ (n := 11) (S := fun w' => w'.cell? ⟨gb121, 0, none⟩ = some (.bool ((rd_T64 (rd_L6 ((rd_T45 l0_1 x4_1).f1) x6_2) x8_3).f0)) ∧ w'.cell? ⟨gb121, 1, none⟩ = some (.slice A120_1 ((rd_T64 (rd_L6 ((rd_T45 l0_1 x4_1).f1) x6_2) x8_3).f1).length c120_1)) (ds := []) #[false, false, false, false, false, false, false, false, false, false, false] (by kernel_rfl) rfl rfl ⟨(blk_cell BK121.out 0).trans rfl, (blk_cell BK121.out 1).trans rfl⟩ (fun hHeld => ?_); refine with_tabW templelaw0_CopyRaw.tab14 templelaw0_CopyRaw.bits14 (fun HT_ HW_ => ?_)
                     generalize w50.drew = w51 at HO_7 HO_110000 HO_110001 HO_112001 BK101 BK102 BK109 BK111 BK121 HB hHeld ⊢
                     refine pure_ (i := 0) (N := some 66) (v := ?_) (a' := ?_) #[true, false, false, false, false, false, false, false, false, false, false] rfl rfl (any_of HT_.out (by kernel_rfl)) (fun _ _ _ h => h) (Or.inl ⟨by rfl, ?_⟩) ?_ ?_
                     rotate_left
                     ·intro w'
                      go_simp; with_reducible rfl
                     rotate_left
                     ·simp only [Act.put, s1, s2, s3, i64_w, i32_w]
                      rfl
                     refine pure_ (i := 1) (N := some 67) (v := ?_) (a' := ?_) #[true, true, false, false, false, false, false, false, false, false, false] rfl rfl (any_of HT_.out (by kernel_rfl)) (fun _ _ _ h => h) (Or.inl ⟨by rfl, ?_⟩) ?_ ?_
                     rotate_left
                     ·intro w'
                      go_simp; with_reducible rfl
                     rotate_left
                     ·simp only [Act.put, s1, s2, s3, i64_w, i32_w]
                      rfl
                     refine pure_ (i := 4) (N := some 70) (v := ?_) (a' := ?_) #[true, true, false, false, true, false, false, false, false, false, false] rfl rfl (any_of HT_.out (by kernel_rfl)) (fun _ _ _ h => h) (Or.inl ⟨by rfl, ?_⟩) ?_ ?_
                     rotate_left
                     ·intro w'
                      go_simp; with_reducible rfl
                     rotate_left
                     ·simp only [Act.put, s1, s2, s3, i64_w, i32_w]
                      rfl
                     refine take_ (i := 2) (N := some 68) (v := ?_) (a' := ?_) #[true, true, true, false, true, false, false, false, false, false, false] rfl rfl (take_ofW HT_.out HW_.out (by kernel_rfl)) (fun _ _ _ h => h) (Or.inl ⟨by rfl, ?_⟩) hHeld ?_ ?_
                     rotate_left
                     ·rintro w' ⟨s0, s1⟩; go_simp; with_reducible rfl
                     rotate_left
                     ·simp only [Act.put, s1, s2, s3, i64_w, i32_w]
                      rfl
                     refine take_ (i := 5) (N := some 71) (v := ?_) (a' := ?_) #[true, true, true, false, true, true, false, false, false, false, false] rfl rfl (take_ofW HT_.out HW_.out (by kernel_rfl)) (fun _ _ _ h => h) (Or.inl ⟨by rfl, ?_⟩) hHeld ?_ ?_
                     rotate_left
                     ·rintro w' ⟨s0, s1⟩; go_simp; with_reducible rfl
                     rotate_left
                     ·simp only [Act.put, s1, s2, s3, i64_w, i32_w]
                      rfl
                     refine one_ (i := 3) (N := some 69) #[true, true, true, true, true, true, false, false, false, false, false] rfl rfl (one_of HT_.out (by kernel_rfl)) (by decide) (fun K hK => ?_)
                     refine Kd.R_lit_step k61 _ 61 ?hg (N := 69) ?hd (xs := ([] : List (S61))) (inner := []) (ok := fun _ => True) (okp := fun _ => True) ?hr ?hp (fun _ hk => hk) trivial (Below.refl _ _) (Nat.le_refl _) (by simp) ?_; (case hd => rfl); (case hg => rfl); (case hr => first | (go_simp; done) | (go_simp; rfl)); (case hp => exact (Reps.none _ _))
                     intro v123 w52 ho53 hb hg_ hnew_; clear hg_ hnew_
                     (first | rw [← Ny122.out] at ho53 | (simp only [Int.reduceToNat] at ho53; rw [← Ny122.out] at ho53))
                     have n0_ := Aside0.mk (Kd.S_elder' (zzs HO_7.out) (Kd.R_base ho53) hb); have n1_ := Aside0.mk (Kd.R_below (zzr HO_110000.out) hb); have n2_ := Aside0.mk (Kd.R_elder' (zzr HO_110001.out) (Kd.R_base ho53) hb); have n3_ := Aside0.mk (Kd.R_elder' (zzr HO_112001.out) (Kd.R_base ho53) hb); have n4_ := Aside0.mk (Kd.R_lower ho53 (below_size zzq)); have n5_ := kb BK101 hb; have n6_ := kb BK102 hb; have n7_ := kb BK109 hb; have n8_ := Aside0.mk (blk_below (g := gb111) (o := .cells #[.string ((rd_T45 l0_1 x4_1).f0), u112001] 45 (0, 0)) (zzb BK111) hb); have n9_ := Aside0.mk (blk_below (g := gb121) (o := .cells #[.bool ((rd_T64 (rd_L6 ((rd_T45 l0_1 x4_1).f1) x6_2) x8_3).f0), .slice A120_1 ((rd_T64 (rd_L6 ((rd_T45 l0_1 x4_1).f1) x6_2) x8_3).f1).length c120_1] 64 (0, 0)) (zzb BK121) hb); have n10_ := ks HB hb; clear HO_7; clear HO_110000; clear HO_110001; clear HO_112001; clear BK101; clear BK102; clear BK109; clear BK111; clear BK121; clear HB; have HO_7 := n0_; have HO_110000 := n1_; have HO_110001 := n2_; have HO_112001 := n3_; have HO124 := n4_; have BK101 := n5_; have BK102 := n6_; have BK109 := n7_; have BK111 := n8_; have BK121 := n9_; have HB := n10_; clear n0_ n1_ n2_ n3_ n4_ n5_ n6_ n7_ n8_ n9_ n10_; clear hb ho53
                     refine hK.out _ _ ⟨(blk_cell BK121.out 0).trans rfl, (blk_cell BK121.out 1).trans rfl⟩ (fun hHeld => ?_)
                     clear hK K
                     refine norm_ (a' := ?_) ?_ ?_
                     rotate_left
                     ·show Act.put _ (some 69) _ = _
                      simp only [Act.put, s1, s2, s3, i64_w, i32_w]
                      rfl
                     refine one_ (i := 6) (N := some 72) #[true, true, true, true, true, true, true, false, false, false, false] rfl rfl (one_of HT_.out (by kernel_rfl)) (by decide) (fun K hK => ?_)
                     refine Kd.R_append_rows_step k61 (w0 := w) w.heap.size (by rfl) (.tmp 69) (.tmp 71) 62 61 (.agg #[(.int .i64 0), (.string ⟨#[]⟩), (.int .i64 0), (.int .i64 0)]) 40 rfl Try.underlying62 info61 rfl (by decide) (by omega) v123 y122 ((rd_T64 (rd_L6 ((rd_T45 l0_1 x4_1).f1) x6_2) x8_3).f1) _ _ _ (fun _ => True) (fun _ => False) rfl rfl ?aO ?aR (fun _ _ h => h) (fun _ h => h.elim) ?aF ?aB ?aS ?aL ?_
                     (case aR => exact zzc (Kd.C_below HR120_1.out HB.out))
                     (case aB => exact zzq)
                     (case aF => exact (fun _ _ => trivial))
                     (case aO => exact (zzr HO124.out))
                     (case aS => exact (below_size zzq))
                     (case aL => have := LMc38.out; omega)
                     intro v126 w54 ho hb hg hat
                     rw [← Ny125.out] at ho
                     have n0_ := Aside0.mk (Kd.S_after (ok := (fun k_ => k_ ≠ gb121)) (zzs HO_7.out) hg hat); have n1_ := Aside0.mk (Kd.R_over' (zzr HO_110000.out) (Kd.R_typed (zzr HO124.out)) (by decide) hg); have n2_ := Aside0.mk (Kd.R_after (ok := (fun k_ => some k_ ≠ (u7 : Value).ownBlock ∧ some k_ ≠ (u112001 : Value).ownBlock ∧ k_ ≠ gb111 ∧ k_ ≠ gb121)) (zzr HO_110001.out) hg hat); have n3_ := Aside0.mk (Kd.R_after (ok := (fun k_ => some k_ ≠ (u7 : Value).ownBlock ∧ k_ ≠ gb121)) (zzr HO_112001.out) hg hat); have n4_ := Aside0.mk (blk_grown (g := gb101) (o := .cells #[.slice A0_0 l0_0.length c0_0, .slice (some ad110) l0_1.length c0_1] 25 (0, 0)) (zzb BK101) hg (Kd.R_ne HO124.out BK101.out (by decide))); have n5_ := Aside0.mk (blk_grown (g := gb102) (o := .cells #[.slice none 0 0, .slice none 0 0] 25 (0, 0)) (zzb BK102) hg (Kd.R_ne HO124.out BK102.out (by decide))); have n6_ := Aside0.mk (blk_grown (g := gb109) (o := .cells #[.slice Ao10 y106.length co10, u110001] 25 (0, 0)) (zzb BK109) hg (Kd.R_ne HO124.out BK109.out (by decide))); have n7_ := Aside0.mk (blk_grown (g := gb111) (o := .cells #[.string ((rd_T45 l0_1 x4_1).f0), u112001] 45 (0, 0)) (zzb BK111) hg (Kd.R_ne HO124.out BK111.out (by decide))); have n8_ := Aside0.mk (blk_grown (g := gb121) (o := .cells #[.bool ((rd_T64 (rd_L6 ((rd_T45 l0_1 x4_1).f1) x6_2) x8_3).f0), .slice A120_1 ((rd_T64 (rd_L6 ((rd_T45 l0_1 x4_1).f1) x6_2) x8_3).f1).length c120_1] 64 (0, 0)) (zzb BK121) hg (Kd.R_ne HO124.out BK121.out (by decide))); have n9_ := Aside0.mk (hb); have n10_ := Aside0.mk (ho); clear HO_7; clear HO_110000; clear HO_110001; clear HO_112001; clear BK101; clear BK102; clear BK109; clear BK111; clear BK121; clear HB; clear HO124; have HO_7 := n0_; have HO_110000 := n1_; have HO_110001 := n2_; have HO_112001 := n3_; have BK101 := n4_; have BK102 := n5_; have BK109 := n6_; have BK111 := n7_; have BK121 := n8_; have HB := n9_; have HO127 := n10_; clear n0_ n1_ n2_ n3_ n4_ n5_ n6_ n7_ n8_ n9_ n10_; clear ho hb hg hat; obtain ⟨Ao55, co55, eo55⟩ := Kd.R_slice HO127.out
                     (first | subst eo55 | (injection eo55 with f1_ f2_ f3_; have f4_ := f1_.symm; have f5_ := f3_.symm; clear f1_ f2_ f3_; subst f4_; subst f5_))
                     refine hK.out _ _ ⟨(blk_cell BK121.out 0).trans rfl, (blk_cell BK121.out 1).trans rfl⟩ (fun hHeld => ?_)
                     clear hK K
                     refine norm_ (a' := ?_) ?_ ?_
                     rotate_left
                     ·show Act.put _ (some 72) _ = _
                      simp only [Act.put, s1, s2, s3, i64_w, i32_w]
                      rfl
                     refine pure_ (i := 7) (N := some 73) (v := ?_) (a' := ?_) #[true, true, true, true, true, true, true, true, false, false, false] rfl rfl (any_of HT_.out (by kernel_rfl)) (fun _ _ _ h => h) (Or.inl ⟨by rfl, ?_⟩) ?_ ?_
                     rotate_left
                     ·intro w'
                      go_simp; with_reducible rfl
                     rotate_left
                     ·simp only [Act.put, s1, s2, s3, i64_w, i32_w]
                      rfl
                     refine one_ (i := 8) (N := some 74) #[true, true, true, true, true, true, true, true, true, false, false] rfl rfl (one_of HT_.out (by kernel_rfl)) (by decide) (fun K hK => ?_)
                     refine value_ (w1 := ?_) (v := ?_) (by rfl) rfl ?_ ?_
                     rotate_left 2
                     ·go_simp
                      constructor
                      ·rfl
                      ·rfl
                     refine hK.out _ _ ⟨(blk_cell (blk_alloc BK121.out _) 0).trans rfl, (blk_cell (blk_alloc BK121.out _) 1).trans rfl⟩ (fun hHeld => ?_)
                     clear hK K
                     refine norm_ (a' := ?_) ?_ ?_
                     rotate_left
                     ·show Act.put _ (some 74) _ = _
                      simp only [Act.put, s1, s2, s3, i64_w, i32_w]
                      rfl
                     refine one_ (i := 9) (N := some 75) #[true, true, true, true, true, true, true, true, true, true, false] rfl rfl (one_of HT_.out (by kernel_rfl)) (by decide) (fun K hK => ?_)
                     refine Kd.S_append_step k64 (w0 := w) w.heap.size (by rfl) (.tmp 66) (.tmp 74) 65 64 (.agg #[(.bool false), (.slice none 0 0)]) 32 rfl Try.underlying65 info64 rfl (by decide) (by omega) u7 x7_3 (⟨(rd_T64 (rd_L6 ((rd_T45 l0_1 x4_1).f1) x6_2) x8_3).f0, y125⟩ : S64) [.bool ((rd_T64 (rd_L6 ((rd_T45 l0_1 x4_1).f1) x6_2) x8_3).f0), .slice Ao55 y125.length co55] (fun k_ => k_ ≠ gb121) (fun k_ => some k_ = (.slice Ao55 y125.length co55 : Value).ownBlock) rfl rfl ?aP (fun k_ hk_ => ((Kd.R_mono (ok' := fun k_ => ((fun k_ => k_ ≠ gb121)) k_ ∧ some k_ ≠ (u7 : Value).ownBlock) (Kd.R_types (Kd.R_apart' (HO127.out) (Kd.S_typed HO_7.out) (by decide)) BK121.out (by decide)) (fun k_ hk => ⟨hk.2, hk.1.2⟩))).1 k_ hk_.symm) ?aF ?aO ?aB ?aS ?aL ?_
                     (case aP => exact k64_mkM _ _ _ (⟨(rd_T64 (rd_L6 ((rd_T45 l0_1 x4_1).f1) x6_2) x8_3).f0, y125⟩ : S64) (Kd.R_mono (Kd.R_tight rfl (Kd.R_mono (ok' := fun k_ => ((fun k_ => k_ ≠ gb121)) k_ ∧ some k_ ≠ (u7 : Value).ownBlock) (Kd.R_types (Kd.R_apart' (HO127.out) (Kd.S_typed HO_7.out) (by decide)) BK121.out (by decide)) (fun k_ hk => ⟨hk.2, hk.1.2⟩))) (fun _ h_ => h_)))
                     (case aB => exact zzq)
                     (case aF => exact (fun k_ hk => Kd.freshB (g := gb121) (o := .cells #[.bool ((rd_T64 (rd_L6 ((rd_T45 l0_1 x4_1).f1) x6_2) x8_3).f0), .slice A120_1 ((rd_T64 (rd_L6 ((rd_T45 l0_1 x4_1).f1) x6_2) x8_3).f1).length c120_1] 64 (0, 0)) (zzb BK121) k_ hk))
                     (case aO => exact (zzs (Kd.S_mono HO_7.out (fun k_ hk => ⟨hk.1, fun e_ => hk.2 e_⟩))))
                     (case aS => exact (below_size zzq))
                     (case aL => have := LMc39.out; omega)
                     intro v129 w56 ho hb hg hat
                     rw [← Ny128.out] at ho
                     have n0_ := Aside0.mk (Kd.R_over' (zzr HO_110000.out) (Kd.S_typed (zzs HO_7.out)) (by decide) hg); have n1_ := Aside0.mk (Kd.R_after (ok := (fun k_ => some k_ ≠ (u112001 : Value).ownBlock ∧ some k_ ≠ (.slice Ao55 y125.length co55 : Value).ownBlock ∧ k_ ≠ gb111 ∧ k_ ≠ gb121)) (zzr (Kd.R_mono HO_110001.out (fun _ hk => ⟨⟨hk.1.2.1, ⟨hk.2, ⟨hk.1.2.2.1, hk.1.2.2.2⟩⟩⟩, hk.1.1⟩))) hg hat); have n2_ := Aside0.mk (Kd.R_after (ok := (fun k_ => some k_ ≠ (.slice Ao55 y125.length co55 : Value).ownBlock ∧ k_ ≠ gb121)) (zzr (Kd.R_mono HO_112001.out (fun _ hk => ⟨⟨hk.2, hk.1.2⟩, hk.1.1⟩))) hg hat); have n3_ := Aside0.mk (blk_grown (g := gb101) (o := .cells #[.slice A0_0 l0_0.length c0_0, .slice (some ad110) l0_1.length c0_1] 25 (0, 0)) (zzb BK101) hg (Kd.S_ne HO_7.out BK101.out (by decide))); have n4_ := Aside0.mk (blk_grown (g := gb102) (o := .cells #[.slice none 0 0, .slice none 0 0] 25 (0, 0)) (zzb BK102) hg (Kd.S_ne HO_7.out BK102.out (by decide))); have n5_ := Aside0.mk (blk_grown (g := gb109) (o := .cells #[.slice Ao10 y106.length co10, u110001] 25 (0, 0)) (zzb BK109) hg (Kd.S_ne HO_7.out BK109.out (by decide))); have n6_ := Aside0.mk (blk_grown (g := gb111) (o := .cells #[.string ((rd_T45 l0_1 x4_1).f0), u112001] 45 (0, 0)) (zzb BK111) hg (Kd.S_ne HO_7.out BK111.out (by decide))); have n7_ := Aside0.mk (blk_grown (g := gb121) (o := .cells #[.bool ((rd_T64 (rd_L6 ((rd_T45 l0_1 x4_1).f1) x6_2) x8_3).f0), .slice A120_1 ((rd_T64 (rd_L6 ((rd_T45 l0_1 x4_1).f1) x6_2) x8_3).f1).length c120_1] 64 (0, 0)) (zzb BK121) hg (Kd.S_away HO_7.out (fun _ hk => hk.1))); have n8_ := Aside0.mk (hb); have n9_ := Aside0.mk (ho); clear HO_110000; clear HO_110001; clear HO_112001; clear BK101; clear BK102; clear BK109; clear BK111; clear BK121; clear HB; clear HO_7; clear HO127; have HO_110000 := n0_; have HO_110001 := n1_; have HO_112001 := n2_; have BK101 := n3_; have BK102 := n4_; have BK109 := n5_; have BK111 := n6_; have BK121 := n7_; have HB := n8_; have HO130 := n9_; clear n0_ n1_ n2_ n3_ n4_ n5_ n6_ n7_ n8_ n9_; clear ho hb hg hat
                     refine hK.out _ _ ⟨(blk_cell BK121.out 0).trans rfl, (blk_cell BK121.out 1).trans rfl⟩ (fun hHeld => ?_)
                     clear hK K
                     refine norm_ (a' := ?_) ?_ ?_
                     rotate_left
                     ·show Act.put _ (some 75) _ = _
                      simp only [Act.put, s1, s2, s3, i64_w, i32_w]
                      rfl
                     refine pure_ (i := 10) (N := some 7) (v := ?_) (a' := ?_) #[true, true, true, true, true, true, true, true, true, true, true] rfl rfl (any_of HT_.out (by kernel_rfl)) (fun _ _ _ h => h) (Or.inl ⟨by rfl, ?_⟩) ?_ ?_
                     rotate_left
                     ·intro w'
                      go_simp; with_reducible rfl
                     rotate_left
                     ·simp only [Act.put, s1, s2, s3, i64_w, i32_w]
                      rfl
                     refine done_ (done_of HT_.out (by kernel_rfl)) ?_
                     try go_wp2
                     go_roundg k3
                     case measure => have := HK1.out; have := HK2.out; have := HK3.out; omega
                     case rel => exact ⟨(y128), (wrap64 (x8_3 + 1)), zz0, H', ⟨by have := HK1.out; have := HK2.out; have := HK3.out; omega⟩, ⟨zzs (Kd.S_mono HO130.out (fun _ hk => trivial))⟩, ⟨zzr HO_110000.out⟩, ⟨zzr (Kd.R_mono HO_110001.out (fun _ hk => ⟨hk.2, ⟨hk.1.1, hk.1.2.2.1⟩⟩))⟩, ⟨zzr (Kd.R_mono HO_112001.out (fun _ hk => hk.2))⟩, ⟨zzb BK101⟩, ⟨zzb BK102⟩, ⟨zzb BK109⟩, ⟨zzb BK111⟩, ⟨zzq⟩⟩
                    ·rw [if_neg c39] at H
                     exact absurd H (by simp)
                   ·rw [if_neg c38] at H
                    exact absurd H (by simp)
                  ·rw [if_neg c37] at H
                   exact absurd H (by simp)
                 ·rw [if_neg c36] at H; have c36b0 : decide (x8_3 < ((rd_L6 ((rd_T45 l0_1 x4_1).f1) x6_2).length : Int)) = false := decide_eq_false c36; clear c36
                  by_cases c57 : x112001_2.length < 5864062014805
                  ·rw [if_pos c57] at H; have LMc57 := Aside0.mk c57; clear c57; obtain ⟨y131, hy131⟩ : ∃ y_ : List (List (S64)), y_ = (x112001_2 ++ [x7_3]) := ⟨_, rfl⟩
                   replace H : (templelaw0_CopyRaw.l1 k3 x4_1 (wrap64 (x6_2 + 1)) l0_0 l0_1 y106 x110001_1 ((rd_T45 l0_1 x4_1).f0) y131) = some (r1, r2) := by first | (rw [hy131]; with_reducible exact H) | (have H2_ := (Option.bind_some _ _).symm.trans H; rw [hy131]; with_reducible exact H2_) | (have H2_ := (Option.bind_some _ _).symm.trans H; with_reducible exact H2_) | with_reducible exact H | (rw [hy131]; exact H) | exact H
                   have Ny131 := Aside0.mk hy131; clear hy131; have H' := Aside0.mk H; clear H; have hnb58 := NB101_102.out; have hnc58 := NB102_101.out; have hnb59 := NB101_109.out; have hnc59 := NB109_101.out; have hnb60 := NB101_111.out; have hnc60 := NB111_101.out
                   have hcz61_0 : wr.cell? ⟨gb101, 0, none⟩ = some (.slice A0_0 l0_0.length c0_0) := (blk_cell BK101.out 0).trans rfl
                   have hcz61_1 : wr.cell? ⟨gb101, 1, none⟩ = some (.slice (some ad110) l0_1.length c0_1) := (blk_cell BK101.out 1).trans rfl
                   have hfz61_0 := blk_frozen BK101.out 0; have hfz61_1 := blk_frozen BK101.out 1
                   have p116 : 0 ≤ (x4_1 : Int) := of_decide_eq_true zz1
                   have q116 : x4_1 < (l0_1.length : Int) := of_decide_eq_true zz1
                   obtain ⟨ad116, A116_1, c116_1, e116, hx116_0, hx116_1, hl116_1, hi116_1⟩ := at_T45 HR0_1.out x4_1 p116 q116; obtain rfl : ad110 = ad116 := (by injection e116)
                   replace hx116_0 := (HB.out.cell (World.block_lt_of_cell? w _ hx116_0)).trans hx116_0
                   replace hx116_1 := (HB.out.cell (World.block_lt_of_cell? w _ hx116_1)).trans hx116_1
                   have HR116_1 := Aside0.mk hi116_1; have HC116_1 := Aside0.mk hl116_1; clear hi116_1 hl116_1; replace p116 := eq_true p116; replace q116 := eq_true q116
                   have p117 : 0 ≤ (x6_2 : Int) := of_decide_eq_true zz1
                   have q117 : x6_2 < (((rd_T45 l0_1 x4_1).f1).length : Int) := of_decide_eq_true zz1
                   obtain ⟨ad117, A117_0, c117_0, e117, hx117_0, hl117_0, hi117_0⟩ := at_L6 HR116_1.out x6_2 p117 q117; cases e117
                   replace hx117_0 := (HB.out.cell (World.block_lt_of_cell? w _ hx117_0)).trans hx117_0
                   have HR117_0 := Aside0.mk hi117_0; have HC117_0 := Aside0.mk hl117_0; clear hi117_0 hl117_0; replace p117 := eq_true p117; replace q117 := eq_true q117; have hnb62 := NB111_102.out; have hnc62 := NB102_111.out; have hnb63 := NB111_109.out; have hnc63 := NB109_111.out
                   have hcz64_0 : wr.cell? ⟨gb111, 0, none⟩ = some (.string ((rd_T45 l0_1 x4_1).f0)) := (blk_cell BK111.out 0).trans rfl
                   have hcz64_1 : wr.cell? ⟨gb111, 1, none⟩ = some (u112001) := (blk_cell BK111.out 1).trans rfl
                   have hfz64_0 := blk_frozen BK111.out 0; have hfz64_1 := blk_frozen BK111.out 1; obtain ⟨Ao66, co66, eo66⟩ := Kd.S_slice HO_7.out; subst eo66
                   go_wp2_with (first | ((with_reducible refine gate_builtin (b := .append) (xs := #[.tmp 77, .tmp 79]) rfl ?_); at_builtin; refine Kd.R_append (Kd.slice 64 k64) (w0 := w) w.heap.size rfl (.tmp 77) (.tmp 79) 43 65 (.slice none 0 0) 24 rfl Try.underlying43 info65 rfl (by decide) (by omega) u112001 x112001_2 x7_3 [.slice Ao66 x7_3.length co66] (fun _ => True) (fun k_ => ((fun _ => True)) k_ ∧ some k_ ≠ (u112001 : Value).ownBlock) rfl rfl ?aP (fun _ hk => hk) ?aF ?aO ?aB ?aS ?aL ?_; (case aP => exact Kd.M_row (Kd.R_mono (Kd.R_apart' ((Kd.S_R HO_7.out)) (Kd.R_typed HO_112001.out) (by decide)) (fun k_ hk => ⟨trivial, hk.2⟩))); (case aB => exact zzq); (case aF => exact (fun _ _ => trivial)); (case aO => exact (zzr (Kd.R_mono HO_112001.out (fun _ hk => trivial)))); (case aS => exact (below_size zzq)); (case aL => have := LMc57.out; omega); intro v132 w65 ho hb hg hat; rw [← Ny131.out] at ho; have n0_ := Aside0.mk (Kd.R_over' (zzr HO_110000.out) (Kd.R_typed (zzr HO_112001.out)) (by decide) hg); have n1_ := Aside0.mk (Kd.R_after (ok := (fun k_ => some k_ ≠ (.slice Ao66 x7_3.length co66 : Value).ownBlock ∧ k_ ≠ gb111)) (zzr (Kd.R_mono HO_110001.out (fun _ hk => ⟨⟨hk.1, hk.2.2⟩, hk.2.1⟩))) hg hat); have n2_ := Aside0.mk (blk_grown (g := gb101) (o := .cells #[.slice A0_0 l0_0.length c0_0, .slice (some ad110) l0_1.length c0_1] 25 (0, 0)) (zzb BK101) hg (Kd.R_ne HO_112001.out BK101.out (by decide))); have n3_ := Aside0.mk (blk_grown (g := gb102) (o := .cells #[.slice none 0 0, .slice none 0 0] 25 (0, 0)) (zzb BK102) hg (Kd.R_ne HO_112001.out BK102.out (by decide))); have n4_ := Aside0.mk (blk_grown (g := gb109) (o := .cells #[.slice Ao10 y106.length co10, u110001] 25 (0, 0)) (zzb BK109) hg (Kd.R_ne HO_112001.out BK109.out (by decide))); have n5_ := Aside0.mk (blk_grown (g := gb111) (o := .cells #[.string ((rd_T45 l0_1 x4_1).f0), u112001] 45 (0, 0)) (zzb BK111) hg (Kd.R_ne HO_112001.out BK111.out (by decide))); have n6_ := Aside0.mk (hb); have n7_ := Aside0.mk (ho); clear HO_110000; clear HO_110001; clear BK101; clear BK102; clear BK109; clear BK111; clear HB; clear HO_112001; clear HO_7; have HO_110000 := n0_; have HO_110001 := n1_; have BK101 := n2_; have BK102 := n3_; have BK109 := n4_; have BK111 := n5_; have HB := n6_; have HO133 := n7_; clear n0_ n1_ n2_ n3_ n4_ n5_ n6_ n7_; clear ho hb hg hat; obtain ⟨Ao67, co67, eo67⟩ := Kd.R_slice HO133.out; subst eo67; have hcz68_0 : w65.cell? ⟨gb111, 0, none⟩ = some (.string ((rd_T45 l0_1 x4_1).f0)) := (blk_cell BK111.out 0).trans rfl; have hcz68_1 : w65.cell? ⟨gb111, 1, none⟩ = some (u112001) := (blk_cell BK111.out 1).trans rfl; have hfz68_0 := blk_frozen BK111.out 0; have hfz68_1 := blk_frozen BK111.out 1))
                   go_roundg k3
                   case measure => have := HK1.out; have := HK2.out; have := HK3.out; omega
                   case rel => exact ⟨(wrap64 (x6_2 + 1)), (y131), (.slice Ao67 y131.length co67), zz0, H', ⟨by have := HK1.out; have := HK2.out; have := HK3.out; omega⟩, ⟨zzr (Kd.R_mono (Kd.R_far (p := ⟨gb111, 1, none⟩) (Kd.R_types HO_110000.out BK111.out (by decide)) (fun _ hk => hk.2) (.slice Ao67 y131.length co67)) (fun _ hk => trivial))⟩, ⟨zzr (Kd.R_mono (Kd.R_far (p := ⟨gb111, 1, none⟩) (Kd.R_mono HO_110001.out (fun k_ hk => (⟨hk, hk.1.2⟩ : _ ∧ k_ ≠ gb111))) (fun _ hk => hk.2) (.slice Ao67 y131.length co67)) (fun _ hk => ⟨hk.1.2, hk.1.1.2⟩))⟩, ⟨zzr (Kd.R_mono (Kd.R_far (p := ⟨gb111, 1, none⟩) (Kd.R_types HO133.out BK111.out (by decide)) (fun _ hk => hk.2) (.slice Ao67 y131.length co67)) (fun _ hk => trivial))⟩, ⟨by (with_reducible repeat (first | refine blk_drewN ?_ _ | refine blk_drew ?_ | refine blk_alloc ?_ _)); refine blk_far ?_ NB101_111.out _; exact zzb BK101⟩, ⟨by (with_reducible repeat (first | refine blk_drewN ?_ _ | refine blk_drew ?_ | refine blk_alloc ?_ _)); refine blk_far ?_ NB102_111.out _; exact zzb BK102⟩, ⟨by (with_reducible repeat (first | refine blk_drewN ?_ _ | refine blk_drew ?_ | refine blk_alloc ?_ _)); refine blk_far ?_ NB109_111.out _; exact zzb BK109⟩, ⟨by (with_reducible repeat (first | refine blk_drewN ?_ _ | refine blk_drew ?_ | refine blk_alloc ?_ _)); refine blk_put (cs := #[.string ((rd_T45 l0_1 x4_1).f0), u112001]) ?_ 1 _ rfl; exact zzb BK111⟩, ⟨zzq⟩⟩
                  ·rw [if_neg c57] at H
                   exact absurd H (by simp)
                ·rw [if_neg c35] at H
                 exact absurd H (by simp)
               ·rw [if_neg c34] at H
                exact absurd H (by simp)
              ·rw [if_neg c33] at H
               exact absurd H (by simp)
             ·rw [if_neg c32] at H
              exact absurd H (by simp)
          ·rw [if_neg c27] at H; have c27b0 : decide (x6_2 < (((rd_T45 l0_1 x4_1).f1).length : Int)) = false := decide_eq_false c27; clear c27
           by_cases c69 : x110001_1.length < 3518437208883
           ·rw [if_pos c69] at H; have LMc69 := Aside0.mk c69; clear c69; obtain ⟨y113, hy113⟩ : ∃ y_ : List (S45), y_ = (x110001_1 ++ [(⟨((rd_T45 l0_1 x4_1).f0), x112001_2⟩ : S45)]) := ⟨_, rfl⟩
            replace H : (templelaw0_CopyRaw.l0 k2 (wrap64 (x4_1 + 1)) l0_0 l0_1 y106 y113) = some (r1, r2) := by first | (rw [hy113]; with_reducible exact H) | (have H2_ := (Option.bind_some _ _).symm.trans H; rw [hy113]; with_reducible exact H2_) | (have H2_ := (Option.bind_some _ _).symm.trans H; with_reducible exact H2_) | with_reducible exact H | (rw [hy113]; exact H) | exact H
            have Ny113 := Aside0.mk hy113; clear hy113; have H' := Aside0.mk H; clear H; have hnb70 := NB101_102.out; have hnc70 := NB102_101.out; have hnb71 := NB101_109.out; have hnc71 := NB109_101.out; have hnb72 := NB101_111.out; have hnc72 := NB111_101.out
            have hcz73_0 : wr.cell? ⟨gb101, 0, none⟩ = some (.slice A0_0 l0_0.length c0_0) := (blk_cell BK101.out 0).trans rfl
            have hcz73_1 : wr.cell? ⟨gb101, 1, none⟩ = some (.slice (some ad110) l0_1.length c0_1) := (blk_cell BK101.out 1).trans rfl
            have hfz73_0 := blk_frozen BK101.out 0; have hfz73_1 := blk_frozen BK101.out 1
            have p112 : 0 ≤ (x4_1 : Int) := of_decide_eq_true zz1
            have q112 : x4_1 < (l0_1.length : Int) := of_decide_eq_true zz1
            obtain ⟨ad112, A112_1, c112_1, e112, hx112_0, hx112_1, hl112_1, hi112_1⟩ := at_T45 HR0_1.out x4_1 p112 q112; obtain rfl : ad110 = ad112 := (by injection e112)
            replace hx112_0 := (HB.out.cell (World.block_lt_of_cell? w _ hx112_0)).trans hx112_0
            replace hx112_1 := (HB.out.cell (World.block_lt_of_cell? w _ hx112_1)).trans hx112_1
            have HR112_1 := Aside0.mk hi112_1; have HC112_1 := Aside0.mk hl112_1; clear hi112_1 hl112_1; replace p112 := eq_true p112; replace q112 := eq_true q112; have hnb74 := NB109_102.out; have hnc74 := NB102_109.out; have hnb75 := NB109_111.out; have hnc75 := NB111_109.out
            have hcz76_0 : wr.cell? ⟨gb109, 0, none⟩ = some (.slice Ao10 y106.length co10) := (blk_cell BK109.out 0).trans rfl
            have hcz76_1 : wr.cell? ⟨gb109, 1, none⟩ = some (u110001) := (blk_cell BK109.out 1).trans rfl
            have hfz76_0 := blk_frozen BK109.out 0; have hfz76_1 := blk_frozen BK109.out 1; have hnb77 := NB111_102.out; have hnc77 := NB102_111.out
            have hcz78_0 : wr.cell? ⟨gb111, 0, none⟩ = some (.string ((rd_T45 l0_1 x4_1).f0)) := (blk_cell BK111.out 0).trans rfl
            have hcz78_1 : wr.cell? ⟨gb111, 1, none⟩ = some (u112001) := (blk_cell BK111.out 1).trans rfl
            have hfz78_0 := blk_frozen BK111.out 0; have hfz78_1 := blk_frozen BK111.out 1; obtain ⟨Ao80, co80, eo80⟩ := Kd.R_slice HO_112001.out; subst eo80
            go_wp2_with (first | ((with_reducible refine gate_builtin (b := .append) (xs := #[.tmp 83, .tmp 85]) rfl ?_); at_builtin; refine Kd.R_append k45 (w0 := w) w.heap.size rfl (.tmp 83) (.tmp 85) 23 45 (.agg #[(.string ⟨#[]⟩), (.slice none 0 0)]) 40 rfl Try.underlying23 info45 rfl (by decide) (by omega) u110001 x110001_1 (⟨((rd_T45 l0_1 x4_1).f0), x112001_2⟩ : S45) [.string ((rd_T45 l0_1 x4_1).f0), .slice Ao80 x112001_2.length co80] (fun k_ => k_ ≠ gb111) (fun k_ => ((fun k_ => k_ ≠ gb111)) k_ ∧ some k_ ≠ (u110001 : Value).ownBlock) rfl rfl ?aP (fun _ hk => hk) ?aF ?aO ?aB ?aS ?aL ?_; (case aP => exact k45_mkM _ _ _ (⟨((rd_T45 l0_1 x4_1).f0), x112001_2⟩ : S45) (Kd.R_mono (Kd.R_types (Kd.R_apart' (HO_112001.out) (Kd.R_typed HO_110001.out) (by decide)) BK111.out (by decide)) (fun k_ hk => ⟨hk.2, hk.1.2⟩))); (case aB => exact zzq); (case aF => exact (fun k_ hk => Kd.freshB (g := gb111) (o := .cells #[.string ((rd_T45 l0_1 x4_1).f0), .slice Ao80 x112001_2.length co80] 45 (0, 0)) (zzb BK111) k_ hk)); (case aO => exact (zzr (Kd.R_mono HO_110001.out (fun _ hk => hk.2)))); (case aS => exact (below_size zzq)); (case aL => have := LMc69.out; omega); intro v114 w79 ho hb hg hat; rw [← Ny113.out] at ho; have n0_ := Aside0.mk (Kd.R_over' (zzr HO_110000.out) (Kd.R_typed (zzr HO_110001.out)) (by decide) hg); have n1_ := Aside0.mk (blk_grown (g := gb101) (o := .cells #[.slice A0_0 l0_0.length c0_0, .slice (some ad110) l0_1.length c0_1] 25 (0, 0)) (zzb BK101) hg (Kd.R_ne HO_110001.out BK101.out (by decide))); have n2_ := Aside0.mk (blk_grown (g := gb102) (o := .cells #[.slice none 0 0, .slice none 0 0] 25 (0, 0)) (zzb BK102) hg (Kd.R_ne HO_110001.out BK102.out (by decide))); have n3_ := Aside0.mk (blk_grown (g := gb109) (o := .cells #[.slice Ao10 y106.length co10, u110001] 25 (0, 0)) (zzb BK109) hg (Kd.R_ne HO_110001.out BK109.out (by decide))); have n4_ := Aside0.mk (blk_grown (g := gb111) (o := .cells #[.string ((rd_T45 l0_1 x4_1).f0), .slice Ao80 x112001_2.length co80] 45 (0, 0)) (zzb BK111) hg (Kd.R_away HO_110001.out (fun _ hk => hk.2))); have n5_ := Aside0.mk (hb); have n6_ := Aside0.mk (ho); clear HO_110000; clear BK101; clear BK102; clear BK109; clear BK111; clear HB; clear HO_110001; clear HO_112001; have HO_110000 := n0_; have BK101 := n1_; have BK102 := n2_; have BK109 := n3_; have BK111 := n4_; have HB := n5_; have HO115 := n6_; clear n0_ n1_ n2_ n3_ n4_ n5_ n6_; clear ho hb hg hat; obtain ⟨Ao81, co81, eo81⟩ := Kd.R_slice HO115.out; subst eo81; have hcz82_0 : w79.cell? ⟨gb109, 0, none⟩ = some (.slice Ao10 y106.length co10) := (blk_cell BK109.out 0).trans rfl; have hcz82_1 : w79.cell? ⟨gb109, 1, none⟩ = some (u110001) := (blk_cell BK109.out 1).trans rfl; have hfz82_0 := blk_frozen BK109.out 0; have hfz82_1 := blk_frozen BK109.out 1))
            go_roundg k2
            case measure => have := HK1.out; have := HK2.out; omega
            case rel => exact ⟨(wrap64 (x4_1 + 1)), (y113), (.slice Ao81 y113.length co81), zz0, H', ⟨by have := HK1.out; have := HK2.out; omega⟩, ⟨zzr (Kd.R_mono (Kd.R_far (p := ⟨gb109, 1, none⟩) (Kd.R_types HO_110000.out BK109.out (by decide)) (fun _ hk => hk.2) (.slice Ao81 y113.length co81)) (fun _ hk => trivial))⟩, ⟨zzr (Kd.R_mono (Kd.R_far (p := ⟨gb109, 1, none⟩) (Kd.R_types HO115.out BK109.out (by decide)) (fun _ hk => hk.2) (.slice Ao81 y113.length co81)) (fun _ hk => trivial))⟩, ⟨by (with_reducible repeat (first | refine blk_drewN ?_ _ | refine blk_drew ?_ | refine blk_alloc ?_ _)); refine blk_far ?_ NB101_109.out _; exact zzb BK101⟩, ⟨by (with_reducible repeat (first | refine blk_drewN ?_ _ | refine blk_drew ?_ | refine blk_alloc ?_ _)); refine blk_far ?_ NB102_109.out _; exact zzb BK102⟩, ⟨by (with_reducible repeat (first | refine blk_drewN ?_ _ | refine blk_drew ?_ | refine blk_alloc ?_ _)); refine blk_put (cs := #[.slice Ao10 y106.length co10, u110001]) ?_ 1 _ rfl; exact zzb BK109⟩, ⟨zzq⟩⟩
           ·rw [if_neg c69] at H
            exact absurd H (by simp)
         ·rw [if_neg c26] at H
          exact absurd H (by simp)
        ·rw [if_neg c25] at H
         exact absurd H (by simp)
     ·rw [if_neg c16] at H
      exact absurd H (by simp)
    ·rw [if_neg c15] at H; have c15b0 : decide (x4_1 < (l0_1.length : Int)) = false := decide_eq_false c15; clear c15
     simp only [Option.some.injEq, Prod.mk.injEq] at H
     obtain ⟨rfl, rfl⟩ := H; have hnb83 := NB101_102.out; have hnc83 := NB102_101.out; have hnb84 := NB101_109.out; have hnc84 := NB109_101.out
     have hcz85_0 : wr.cell? ⟨gb101, 0, none⟩ = some (.slice A0_0 l0_0.length c0_0) := (blk_cell BK101.out 0).trans rfl
     have hcz85_1 : wr.cell? ⟨gb101, 1, none⟩ = some (.slice A0_1 l0_1.length c0_1) := (blk_cell BK101.out 1).trans rfl
     have hfz85_0 := blk_frozen BK101.out 0; have hfz85_1 := blk_frozen BK101.out 1; have hnb86 := NB109_102.out; have hnc86 := NB102_109.out
     have hcz87_0 : wr.cell? ⟨gb109, 0, none⟩ = some (.slice Ao10 y106.length co10) := (blk_cell BK109.out 0).trans rfl
     have hcz87_1 : wr.cell? ⟨gb109, 1, none⟩ = some (u110001) := (blk_cell BK109.out 1).trans rfl
     have hfz87_0 := blk_frozen BK109.out 0; have hfz87_1 := blk_frozen BK109.out 1
     have hcz88_0 : wr.cell? ⟨gb102, 0, none⟩ = some (.slice none 0 0) := (blk_cell BK102.out 0).trans rfl
     have hcz88_1 : wr.cell? ⟨gb102, 1, none⟩ = some (.slice none 0 0) := (blk_cell BK102.out 1).trans rfl
     have hfz88_0 := blk_frozen BK102.out 0; have hfz88_1 := blk_frozen BK102.out 1; obtain ⟨Ao89, co89, eo89⟩ := Kd.R_slice HO_110001.out; subst eo89; go_wp2
     refine bodyPost_ret (results_cell_row rfl _ _ gb102 25 #[.slice Ao10 y106.length co10, .slice Ao89 x110001_1.length co89] (0, 0) _ rfl (by (with_reducible repeat (first | refine blk_drewN ?_ _ | refine blk_drew ?_ | refine blk_alloc ?_ _)); refine blk_put (cs := #[.slice Ao10 y106.length co10, .slice none 0 0]) ?_ 1 _ rfl; (with_reducible repeat (first | refine blk_drewN ?_ _ | refine blk_drew ?_ | refine blk_alloc ?_ _)); refine blk_put (cs := #[.slice none 0 0, .slice none 0 0]) ?_ 0 _ rfl; exact zzb BK102) Try.underlying25 rfl (by kernel_rfl)) rfl ?_
     exact ⟨_, _, by first | rfl | (simp [errW_none, errW_some] <;> rfl) | (simp [*, errW_none, errW_some] <;> rfl), zzr (Kd.R_mono (Kd.R_far (p := ⟨gb102, 1, none⟩) (Kd.R_far (p := ⟨gb102, 0, none⟩) (Kd.R_types HO_110000.out BK102.out (by decide)) (fun _ hk => hk.2) (.slice Ao10 y106.length co10)) (fun _ hk => hk.2) (.slice Ao89 x110001_1.length co89)) (fun _ hk => trivial)), zzr (Kd.R_mono (Kd.R_far (p := ⟨gb102, 1, none⟩) (Kd.R_far (p := ⟨gb102, 0, none⟩) (Kd.R_types HO_110001.out BK102.out (by decide)) (fun _ hk => hk.2) (.slice Ao10 y106.length co10)) (fun _ hk => hk.2) (.slice Ao89 x110001_1.length co89)) (fun _ hk => trivial)), zzq⟩
 ·rw [if_neg c2] at H
  exact absurd H (by simp)

end Go.Proofs.Ytdjnpgigdchfkaa.PBS
