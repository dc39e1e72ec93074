-- written by a program of the session's (wip/myprint.py) out of the translation
import Derived.Test.YtdjnpgigdchfkaaPBSx0
namespace Go.Proofs.Ytdjnpgigdchfkaa.PBS
open Go.RowKit Go.Proofs.YtdjnpgigdchfkaaW.PrintWords Go.Proofs.YtdjnpgigdchfkaaW.PrintLast Go.Proofs.YtdjnpgigdchfkaaW.PrintMore
attribute [local go_sem] max2_int min2_int max_two min_two max_three min_three max_four min_four   -- for this text's walks alone
set_option linter.unusedVariables false
set_option linter.unusedSimpArgs false

/-! ### templelaw0_CopyGrammar: function 16 -/
mutual
def templelaw0_CopyGrammar.l0 : Nat → Int → Int → List ByteArray → List (S51) → Int → List ByteArray → List (S51) → Option (Int × List ByteArray × (List (S51)))
 | 0, _, _, _, _, _, _, _ => none
 | k + 1, x4, x287000, x287001, x287002, x295000, x295001, x295002 => if x4 < (x287002.length : Int) then (if 0 ≤ x4 then (templelaw0_CopyGrammar.l1 k x4 0 x287000 x287001 x287002 x295000 x295001 x295002 ((rd_T51 x287002 x4).f0) ([] : List (S54))) else (none)) else (some (x295000, x295001, x295002))
def templelaw0_CopyGrammar.l1 : Nat → Int → Int → Int → List ByteArray → List (S51) → Int → List ByteArray → List (S51) → Int → List (S54) → Option (Int × List ByteArray × (List (S51)))
 | 0, _, _, _, _, _, _, _, _, _, _ => none
 | k + 1, x4, x6, x287000, x287001, x287002, x295000, x295001, x295002, x297000, x297001 => if 0 ≤ x4 then (if x4 < (x287002.length : Int) then (if x6 < (((rd_T51 x287002 x4).f1).length : Int) then (if 0 ≤ x6 then ((some (([] : List (S56)) : List (S56))).bind fun y301 => (if y301.length + ((rd_T54 ((rd_T51 x287002 x4).f1) x6).f1).length < 5864062014805 then (if x297001.length < 4398046511104 then (templelaw0_CopyGrammar.l1 k x4 (wrap64 (x6 + 1)) x287000 x287001 x287002 x295000 x295001 x295002 x297000 (x297001 ++ [(⟨(rd_T54 ((rd_T51 x287002 x4).f1) x6).f0, (y301 ++ ((rd_T54 ((rd_T51 x287002 x4).f1) x6).f1))⟩ : S54)])) else (none)) else (none))) else (none)) else (if x295002.length < 4398046511104 then (templelaw0_CopyGrammar.l0 k (wrap64 (x4 + 1)) x287000 x287001 x287002 x295000 x295001 (x295002 ++ [(⟨x297000, x297001⟩ : S51)])) else (none))) else (none)) else (none)
end
def templelaw0_CopyGrammar.f (k : Nat) (a0_0 : Int) (l0_1 : List ByteArray) (l0_2 : List (S51)) : Option (Int × List ByteArray × (List (S51))) := (some (([] : List ByteArray) : List ByteArray)).bind fun y288 => (if y288.length + l0_1.length < 8796093022208 then (templelaw0_CopyGrammar.l0 k 0 a0_0 l0_1 l0_2 a0_0 (y288 ++ l0_1) ([] : List (S51))) else (none))
theorem templelaw0_CopyGrammar.mono_l : ∀ k, (∀ y0 y1 y2 y3 y4 y5 y6, LeO (templelaw0_CopyGrammar.l0 k y0 y1 y2 y3 y4 y5 y6) (templelaw0_CopyGrammar.l0 (k + 1) y0 y1 y2 y3 y4 y5 y6)) ∧ (∀ y0 y1 y2 y3 y4 y5 y6 y7 y8 y9, LeO (templelaw0_CopyGrammar.l1 k y0 y1 y2 y3 y4 y5 y6 y7 y8 y9) (templelaw0_CopyGrammar.l1 (k + 1) y0 y1 y2 y3 y4 y5 y6 y7 y8 y9))
 | 0 => ⟨fun _ _ _ _ _ _ _ r h => by simp [templelaw0_CopyGrammar.l0] at h, fun _ _ _ _ _ _ _ _ _ _ r h => by simp [templelaw0_CopyGrammar.l1] at h⟩
 | k + 1 => by
  obtain ⟨ih0, ih1⟩ := templelaw0_CopyGrammar.mono_l k
  refine ⟨?_, ?_⟩
  ·intro y0 y1 y2 y3 y4 y5 y6
   unfold templelaw0_CopyGrammar.l0
   repeat' first
   | (with_reducible exact ih0 _ _ _ _ _ _ _)
   | (with_reducible exact ih1 _ _ _ _ _ _ _ _ _ _)
   | (with_reducible exact LeO.refl _)
   | (with_reducible exact LeO.none _)
   | (with_reducible refine LeO.ite ?_ ?_)
   | (with_reducible refine LeO.bind ?_ (fun _ => ?_))
   | exact ih0 _ _ _ _ _ _ _
   | exact ih1 _ _ _ _ _ _ _ _ _ _
   | exact LeO.none _
   | refine LeO.ite ?_ ?_
   | refine LeO.bind ?_ (fun _ => ?_)
  ·intro y0 y1 y2 y3 y4 y5 y6 y7 y8 y9
   unfold templelaw0_CopyGrammar.l1
   repeat' first
   | (with_reducible exact ih0 _ _ _ _ _ _ _)
   | (with_reducible exact ih1 _ _ _ _ _ _ _ _ _ _)
   | (with_reducible exact LeO.refl _)
   | (with_reducible exact LeO.none _)
   | (with_reducible refine LeO.ite ?_ ?_)
   | (with_reducible refine LeO.bind ?_ (fun _ => ?_))
   | exact ih0 _ _ _ _ _ _ _
   | exact ih1 _ _ _ _ _ _ _ _ _ _
   | exact LeO.none _
   | refine LeO.ite ?_ ?_
   | refine LeO.bind ?_ (fun _ => ?_)
theorem templelaw0_CopyGrammar.mono : ∀ a0 a1 a2 k, LeO (templelaw0_CopyGrammar.f k a0 a1 a2) (templelaw0_CopyGrammar.f (k + 1) a0 a1 a2) := by
 intro a0 a1 a2 k
 obtain ⟨ih0, ih1⟩ := templelaw0_CopyGrammar.mono_l k
 unfold templelaw0_CopyGrammar.f
 repeat' first
   | (with_reducible exact ih0 _ _ _ _ _ _ _)
   | (with_reducible exact ih1 _ _ _ _ _ _ _ _ _ _)
   | (with_reducible exact LeO.refl _)
   | (with_reducible exact LeO.none _)
   | (with_reducible refine LeO.ite ?_ ?_)
   | (with_reducible refine LeO.bind ?_ (fun _ => ?_))
   | exact ih0 _ _ _ _ _ _ _
   | exact ih1 _ _ _ _ _ _ _ _ _ _
   | exact LeO.none _
   | refine LeO.ite ?_ ?_
   | refine LeO.bind ?_ (fun _ => ?_)
def templelaw0_CopyGrammar.T1 : Bool × List (List Nat × List Nat) := (true, [([], []), ([0], [0]), ([], []), ([], []), ([3], [3]), ([2, 4], [2, 4]), ([1, 5], [1, 5]), ([], []), ([7, 6, 5, 0, 1, 2, 3, 4, 5, 6, 7], [6, 7])])
def templelaw0_CopyGrammar.B1 : List Nat := [0, 1, 0, 0, 8, 28, 63, 0, 255]
theorem templelaw0_CopyGrammar.tab1 : rtab .any (opsOf Try.f16 1) = templelaw0_CopyGrammar.T1 := by kernel_rfl
theorem templelaw0_CopyGrammar.bits1 : waitsOk templelaw0_CopyGrammar.T1.2 templelaw0_CopyGrammar.B1 = true := by kernel_rfl
def templelaw0_CopyGrammar.T10 : Bool × List (List Nat × List Nat) := (true, [([], []), ([0], [0]), ([], []), ([2], [2]), ([], []), ([], []), ([5], [5]), ([4, 6], [4, 6]), ([3, 7], [3, 7]), ([8], [8]), ([1, 9, 7], [1, 9]), ([0, 1, 2, 3, 4, 5, 6, 7, 8, 9, 10], []), ([11, 10, 10, 0, 1, 2, 3, 4, 5, 6, 7, 8, 9, 10], [10, 11])])
def templelaw0_CopyGrammar.B10 : List Nat := [0, 1, 0, 4, 0, 0, 32, 112, 252, 508, 1023, 2047, 4095]
theorem templelaw0_CopyGrammar.tab10 : rtab .any (opsOf Try.f16 10) = templelaw0_CopyGrammar.T10 := by kernel_rfl
theorem templelaw0_CopyGrammar.bits10 : waitsOk templelaw0_CopyGrammar.T10.2 templelaw0_CopyGrammar.B10 = true := by kernel_rfl
set_option maxHeartbeats 8000000 in
set_option maxRecDepth 100000 in
theorem templelaw0_CopyGrammar.calls (k : Nat) (a0_0 : Int) (A0_1 : Option Addr) (c0_1 : Nat) (l0_1 : List ByteArray) (A0_2 : Option Addr) (c0_2 : Nat) (l0_2 : List (S51)) (r1 : Int) (r2 : List ByteArray) (r3 : List (S51)) (w : World) (hr0_1 : Kd.C Kd.string w A0_1 l0_1.length l0_1) (hc0_1 : l0_1.length ≤ c0_1) (hr0_2 : Kd.C k51 w A0_2 l0_2.length l0_2) (hc0_2 : l0_2.length ≤ c0_2) (h : templelaw0_CopyGrammar.f k a0_0 l0_1 l0_2 = some (r1, r2, r3)) :
  Calls Try.prog 16 #[.agg #[.int .i64 a0_0, .slice A0_1 l0_1.length c0_1, .slice A0_2 l0_2.length c0_2]] w fun e w' => ∃ v1_ v2_ : Value, e = .returned (.agg #[.int .i64 r1, v1_, v2_]) ∧ Kd.R Kd.string 9 w' w.heap.size (fun _ => True) v1_ r2 ∧ Kd.R k51 51 w' w.heap.size (fun _ => True) v2_ r3 ∧ Below w.heap.size w w' := by
 have hu28 := Try.underlying28; have hu51 := Try.underlying51; have hu54 := Try.underlying54; have HR0_1 := Aside0.mk hr0_1; have HC0_1 := Aside0.mk hc0_1; clear hr0_1 hc0_1; have HR0_2 := Aside0.mk hr0_2; have HC0_2 := Aside0.mk hc0_2; clear hr0_2 hc0_2
 have HB := Aside0.mk (Below.refl w.heap.size w)
 have H : ((some (([] : List ByteArray) : List ByteArray)).bind fun y288 => (if y288.length + l0_1.length < 8796093022208 then (templelaw0_CopyGrammar.l0 k 0 a0_0 l0_1 l0_2 a0_0 (y288 ++ l0_1) ([] : List (S51))) else (none))) = some (r1, r2, r3) := h
 clear h; obtain ⟨y288, hy288⟩ : ∃ y_ : List ByteArray, y_ = (([] : List ByteArray)) := ⟨_, rfl⟩
 replace H : (if y288.length + l0_1.length < 8796093022208 then (templelaw0_CopyGrammar.l0 k 0 a0_0 l0_1 l0_2 a0_0 (y288 ++ l0_1) ([] : List (S51))) else (none)) = some (r1, r2, r3) := by first | (rw [hy288]; with_reducible exact H) | (have H2_ := (Option.bind_some _ _).symm.trans H; rw [hy288]; with_reducible exact H2_) | (have H2_ := (Option.bind_some _ _).symm.trans H; with_reducible exact H2_) | with_reducible exact H | (rw [hy288]; exact H) | exact H
 have Ny288 := Aside0.mk hy288; clear hy288
 by_cases c2 : y288.length + l0_1.length < 8796093022208
 ·rw [if_pos c2] at H; have LMc2 := Aside0.mk c2; clear c2; obtain ⟨y291, hy291⟩ : ∃ y_ : List ByteArray, y_ = (y288 ++ l0_1) := ⟨_, rfl⟩
  replace H : (templelaw0_CopyGrammar.l0 k 0 a0_0 l0_1 l0_2 a0_0 y291 ([] : List (S51))) = some (r1, r2, r3) := by first | (rw [hy291]; with_reducible exact H) | (have H2_ := (Option.bind_some _ _).symm.trans H; rw [hy291]; with_reducible exact H2_) | (have H2_ := (Option.bind_some _ _).symm.trans H; with_reducible exact H2_) | with_reducible exact H | (rw [hy291]; exact H) | exact H
  have Ny291 := Aside0.mk hy291; clear hy291; have H' := Aside0.mk H; clear H
  go_enter Try.func16, Try.ntmps16
  try go_wp2_with (first | ((with_reducible refine gate_dst (N := 1) rfl ?_); refine box_event (by rfl) (N := 1) (by rfl) (cs := #[.int .i64 a0_0, .slice A0_1 l0_1.length c0_1, .slice A0_2 l0_2.length c0_2]) (t := 28) zzh ?_; intro gb286 hg w3 hbox hb; have n0_ := Aside0.mk (below_step zzq hb); have n1_ := Aside0.mk (hbox); have n2_ := Aside0.mk ((zzg hg zzq)); have n3_ := Aside0.mk ((zzg hg zzq)); clear HB; have HB := n0_; have BK286 := n1_; have GW286 := n2_; have GE286 := n3_; clear n0_ n1_ n2_ n3_; clear hb hbox hg) | ((with_reducible refine gate_dst (N := 2) rfl ?_); refine box_event (by rfl) (N := 2) (by rfl) (cs := #[.int .i64 0, .slice none 0 0, .slice none 0 0]) (t := 28) zzh ?_; intro gb287 hg w4 hbox hb; have n0_ := Aside0.mk (blk_below (g := gb286) (o := .cells #[.int .i64 a0_0, .slice A0_1 l0_1.length c0_1, .slice A0_2 l0_2.length c0_2] 28 (0, 0)) (zzb BK286) hb); have n1_ := Aside0.mk (below_step zzq hb); have n2_ := Aside0.mk (hbox); have n3_ := Aside0.mk ((zzg hg zzq)); have n4_ := Aside0.mk ((zzg hg zzq)); have n5_ := Aside0.mk ((by rw [hg]; exact Nat.ne_of_lt (blk_lt (g := gb286) (o := .cells #[.int .i64 a0_0, .slice A0_1 l0_1.length c0_1, .slice A0_2 l0_2.length c0_2] 28 (0, 0)) (zzb BK286)) : gb286 ≠ gb287)); have n6_ := Aside0.mk ((by rw [hg]; exact Nat.ne_of_gt (blk_lt (g := gb286) (o := .cells #[.int .i64 a0_0, .slice A0_1 l0_1.length c0_1, .slice A0_2 l0_2.length c0_2] 28 (0, 0)) (zzb BK286)) : gb287 ≠ gb286)); clear BK286; clear HB; have BK286 := n0_; have HB := n1_; have BK287 := n2_; have GW287 := n3_; have GE287 := n4_; have NB286_287 := n5_; have NB287_286 := n6_; clear n0_ n1_ n2_ n3_ n4_ n5_ n6_; clear hb hbox hg))
  have n0_ := Aside0.mk (blk_drew BK286.out); have n1_ := Aside0.mk (blk_drew BK287.out); have n2_ := Aside0.mk (below_drew1 HB.out); clear BK286; clear BK287; clear HB; have BK286 := n0_; have BK287 := n1_; have HB := n2_; clear n0_ n1_ n2_
  refine start_ (n := 9) (S := fun w' => w'.cell? ⟨gb286, 0, none⟩ = some (.int .i64 a0_0) ∧ w'.cell? ⟨gb286, 1, none⟩ = some (.slice A0_1 l0_1.length c0_1) ∧ w'.cell? ⟨gb286, 2, none⟩ = some (.slice A0_2 l0_2.length c0_2)) (ds := []) #[false, false, false, false, false, false, false, false, false] (by kernel_rfl) rfl rfl ⟨(blk_cell BK286.out 0).trans rfl, (blk_cell BK286.out 1).trans rfl, (blk_cell BK286.out 2).trans rfl⟩ (fun hHeld => ?_); refine with_tabW templelaw0_CopyGrammar.tab1 templelaw0_CopyGrammar.bits1 (fun HT_ HW_ => ?_)
  generalize w4.drew = w5 at BK286 BK287 HB hHeld ⊢
  refine pure_ (i := 0) (N := some 8) (v := ?_) (a' := ?_) #[true, false, false, false, false, false, false, false, false] rfl rfl (any_of HT_.out (by kernel_rfl)) (fun _ _ _ h => h) (Or.inl ⟨by rfl, ?_⟩) ?_ ?_
  rotate_left
  ·intro w'
   go_simp; with_reducible rfl
  rotate_left
  ·simp only [Act.put, s1, s2, s3, i64_w, i32_w]
   rfl
  refine pure_ (i := 3) (N := some 11) (v := ?_) (a' := ?_) #[true, false, false, true, false, false, false, false, false] rfl rfl (any_of HT_.out (by kernel_rfl)) (fun _ _ _ h => h) (Or.inl ⟨by rfl, ?_⟩) ?_ ?_
  rotate_left
  ·intro w'
   go_simp; with_reducible rfl
  rotate_left
  ·simp only [Act.put, s1, s2, s3, i64_w, i32_w]
   rfl
  refine take_ (i := 1) (N := some 9) (v := ?_) (a' := ?_) #[true, true, false, true, false, false, false, false, false] rfl rfl (take_ofW HT_.out HW_.out (by kernel_rfl)) (fun _ _ _ h => h) (Or.inl ⟨by rfl, ?_⟩) hHeld ?_ ?_
  rotate_left
  ·rintro w' ⟨s0, s1, s2⟩; go_simp; with_reducible rfl
  rotate_left
  ·simp only [Act.put, s1, s2, s3, i64_w, i32_w]
   rfl
  refine take_ (i := 4) (N := some 12) (v := ?_) (a' := ?_) #[true, true, false, true, true, false, false, false, false] rfl rfl (take_ofW HT_.out HW_.out (by kernel_rfl)) (fun _ _ _ h => h) (Or.inl ⟨by rfl, ?_⟩) hHeld ?_ ?_
  rotate_left
  ·rintro w' ⟨s0, s1, s2⟩; go_simp; with_reducible rfl
  rotate_left
  ·simp only [Act.put, s1, s2, s3, i64_w, i32_w]
   rfl
  refine join_ (σ := Value × Value × Nat) 1 #[true, true, true, true, true, true, true, true, false] (fun s_ => [(10, s_.1), (13, s_.2.1), (3, .pointer (some ⟨s_.2.2, 0, none⟩)), (14, .agg #[.int .i64 a0_0, s_.2.1, .slice none 0 0])]) (fun s_ w' => (w'.cell? ⟨gb286, 0, none⟩ = some (.int .i64 a0_0) ∧ w'.cell? ⟨gb286, 1, none⟩ = some (.slice A0_1 l0_1.length c0_1) ∧ w'.cell? ⟨gb286, 2, none⟩ = some (.slice A0_2 l0_2.length c0_2)) ∧ (Kd.R Kd.string 9 w' w.heap.size (fun _ => True) s_.2.1 y291) ∧ (w'.heap[gb286]? = some (.cells #[.int .i64 a0_0, .slice A0_1 l0_1.length c0_1, .slice A0_2 l0_2.length c0_2] 28 (0, 0))) ∧ (w'.heap[gb287]? = some (.cells #[.int .i64 0, .slice none 0 0, .slice none 0 0] 28 (0, 0))) ∧ (w'.heap[s_.2.2]? = some (.cells #[.int .i64 0, .slice none 0 0, .slice none 0 0] 28 (0, 0))) ∧ (w.heap.size ≤ s_.2.2) ∧ (w.heap.size ≤ s_.2.2) ∧ (gb286 ≠ s_.2.2) ∧ (s_.2.2 ≠ gb286) ∧ (gb287 ≠ s_.2.2) ∧ (s_.2.2 ≠ gb287) ∧ (Below w.heap.size w w')) ?_ ?_
  rotate_left
  ·intro hCont
   refine two_ (i := 2) (j := 7) (Ni := some 10) (Nj := some 3) #[true, true, true, true, true, false, false, false, false] #[true, true, false, true, true, false, false, true, false] rfl rfl rfl rfl (two_of HT_.out (by kernel_rfl)) (by decide) (by decide) (fun K hK => ?_) (fun K hK => ?_)
   ·skip
    refine Kd.R_lit_step Kd.string _ 9 ?hg (N := 10) ?hd (xs := ([] : List ByteArray)) (inner := []) (ok := fun _ => True) (okp := fun _ => True) ?hr ?hp (fun _ hk => hk) trivial (Below.refl _ _) (Nat.le_refl _) (by simp) ?_; (case hd => rfl); (case hg => rfl); (case hr => first | (go_simp; done) | (go_simp; rfl)); (case hp => exact (Reps.none _ _))
    intro v289 w6 ho7 hb hg_ hnew_; clear hg_ hnew_
    (first | rw [← Ny288.out] at ho7 | (simp only [Int.reduceToNat] at ho7; rw [← Ny288.out] at ho7))
    have n0_ := Aside0.mk (Kd.R_lower ho7 (below_size zzq)); have n1_ := kb BK286 hb; have n2_ := kb BK287 hb; have n3_ := ks HB hb; clear BK286; clear BK287; clear HB; have HO290 := n0_; have BK286 := n1_; have BK287 := n2_; have HB := n3_; clear n0_ n1_ n2_ n3_; clear hb ho7
    refine hK.out _ _ ⟨(blk_cell BK286.out 0).trans rfl, (blk_cell BK286.out 1).trans rfl, (blk_cell BK286.out 2).trans rfl⟩ (fun hHeld => ?_)
    clear hK K
    refine norm_ (a' := ?_) ?_ ?_
    rotate_left
    ·show Act.put _ (some 10) _ = _
     simp only [Act.put, s1, s2, s3, i64_w, i32_w]
     rfl
    refine two_ (i := 5) (j := 7) (Ni := some 13) (Nj := some 3) #[true, true, true, true, true, true, false, false, false] #[true, true, true, true, true, false, false, true, false] rfl rfl rfl rfl (two_of HT_.out (by kernel_rfl)) (by decide) (by decide) (fun K hK => ?_) (fun K hK => ?_)
    ·skip
     refine Kd.R_append_rows_step Kd.string (w0 := w) w.heap.size (by rfl) (.tmp 10) (.tmp 12) 22 9 (.string ⟨#[]⟩) 16 rfl Try.underlying22 info9 rfl (by decide) (by omega) v289 y288 l0_1 _ _ _ (fun _ => True) (fun _ => False) rfl rfl ?aO ?aR (fun _ _ h => h) (fun _ h => h.elim) ?aF ?aB ?aS ?aL ?_
     (case aR => exact zzc (Kd.C_below HR0_1.out HB.out))
     (case aB => exact zzq)
     (case aF => exact (fun _ _ => trivial))
     (case aO => exact (zzr HO290.out))
     (case aS => exact (below_size zzq))
     (case aL => have := LMc2.out; omega)
     intro v292 w8 ho hb hg hat
     rw [← Ny291.out] at ho
     have n0_ := Aside0.mk (blk_grown (g := gb286) (o := .cells #[.int .i64 a0_0, .slice A0_1 l0_1.length c0_1, .slice A0_2 l0_2.length c0_2] 28 (0, 0)) (zzb BK286) hg (Kd.R_ne HO290.out BK286.out (by decide))); have n1_ := Aside0.mk (blk_grown (g := gb287) (o := .cells #[.int .i64 0, .slice none 0 0, .slice none 0 0] 28 (0, 0)) (zzb BK287) hg (Kd.R_ne HO290.out BK287.out (by decide))); have n2_ := Aside0.mk (hb); have n3_ := Aside0.mk (ho); clear BK286; clear BK287; clear HB; clear HO290; have BK286 := n0_; have BK287 := n1_; have HB := n2_; have HO293 := n3_; clear n0_ n1_ n2_ n3_; clear ho hb hg hat; obtain ⟨Ao9, co9, eo9⟩ := Kd.R_slice HO293.out
     (first | subst eo9 | (injection eo9 with f1_ f2_ f3_; have f4_ := f1_.symm; have f5_ := f3_.symm; clear f1_ f2_ f3_; subst f4_; subst f5_))
     refine hK.out _ _ ⟨(blk_cell BK286.out 0).trans rfl, (blk_cell BK286.out 1).trans rfl, (blk_cell BK286.out 2).trans rfl⟩ (fun hHeld => ?_)
     clear hK K
     refine norm_ (a' := ?_) ?_ ?_
     rotate_left
     ·show Act.put _ (some 13) _ = _
      simp only [Act.put, s1, s2, s3, i64_w, i32_w]
      rfl
     refine pure_ (i := 6) (N := some 14) (v := ?_) (a' := ?_) #[true, true, true, true, true, true, true, false, false] rfl rfl (any_of HT_.out (by kernel_rfl)) (fun _ _ _ h => h) (Or.inl ⟨by rfl, ?_⟩) ?_ ?_
     rotate_left
     ·intro w'
      go_simp; with_reducible rfl
     rotate_left
     ·simp only [Act.put, s1, s2, s3, i64_w, i32_w]
      rfl
     refine one_ (i := 7) (N := some 3) #[true, true, true, true, true, true, true, true, false] rfl rfl (one_of HT_.out (by kernel_rfl)) (by decide) (fun K hK => ?_)
     refine box_step (by rfl) (N := 3) (by rfl) (cs := #[.int .i64 0, .slice none 0 0, .slice none 0 0]) (t := 28) zzh ?_
     intro gb294 hg w10 hbox hb; have n0_ := Aside0.mk (Kd.R_below (zzr HO293.out) hb); have n1_ := kb BK286 hb; have n2_ := kb BK287 hb; have n3_ := ks HB hb; have n4_ := Aside0.mk (hbox); have n5_ := kl hg HB; have n6_ := kl hg HB; have n7_ := kn hg BK286; have n8_ := km hg BK286; have n9_ := kn hg BK287; have n10_ := km hg BK287; clear HO293; clear BK286; clear BK287; clear HB; have HO293 := n0_; have BK286 := n1_; have BK287 := n2_; have HB := n3_; have BK294 := n4_; have GW294 := n5_; have GE294 := n6_; have NB286_294 := n7_; have NB294_286 := n8_; have NB287_294 := n9_; have NB294_287 := n10_; clear n0_ n1_ n2_ n3_ n4_ n5_ n6_ n7_ n8_ n9_ n10_; clear hb hbox hg
     refine hK.out _ _ ⟨(blk_cell BK286.out 0).trans rfl, (blk_cell BK286.out 1).trans rfl, (blk_cell BK286.out 2).trans rfl⟩ (fun hHeld => ?_)
     clear hK K
     refine norm_ (a' := ?_) ?_ ?_
     rotate_left
     ·show Act.put _ (some 3) _ = _
      simp only [Act.put, s1, s2, s3, i64_w, i32_w]
      rfl
     exact norm_ (by simp only [putAll, Act.put, s1, s2, s3]) (hCont (v289, .slice Ao9 y291.length co9, gb294) _ ⟨hHeld, (zzr HO293.out), BK286.out, BK287.out, BK294.out, GW294.out, GE294.out, NB286_294.out, NB294_286.out, NB287_294.out, NB294_287.out, HB.out⟩)
    ·skip
     refine box_step (by rfl) (N := 3) (by rfl) (cs := #[.int .i64 0, .slice none 0 0, .slice none 0 0]) (t := 28) zzh ?_
     intro gb294 hg w8 hbox hb; have n0_ := Aside0.mk (Kd.R_below (zzr HO290.out) hb); have n1_ := kb BK286 hb; have n2_ := kb BK287 hb; have n3_ := ks HB hb; have n4_ := Aside0.mk (hbox); have n5_ := kl hg HB; have n6_ := kl hg HB; have n7_ := kn hg BK286; have n8_ := km hg BK286; have n9_ := kn hg BK287; have n10_ := km hg BK287; clear HO290; clear BK286; clear BK287; clear HB; have HO290 := n0_; have BK286 := n1_; have BK287 := n2_; have HB := n3_; have BK294 := n4_; have GW294 := n5_; have GE294 := n6_; have NB286_294 := n7_; have NB294_286 := n8_; have NB287_294 := n9_; have NB294_287 := n10_; clear n0_ n1_ n2_ n3_ n4_ n5_ n6_ n7_ n8_ n9_ n10_; clear hb hbox hg
     refine hK.out _ _ ⟨(blk_cell BK286.out 0).trans rfl, (blk_cell BK286.out 1).trans rfl, (blk_cell BK286.out 2).trans rfl⟩ (fun hHeld => ?_)
     clear hK K
     refine norm_ (a' := ?_) ?_ ?_
     rotate_left
     ·show Act.put _ (some 3) _ = _
      simp only [Act.put, s1, s2, s3, i64_w, i32_w]
      rfl
     refine one_ (i := 5) (N := some 13) #[true, true, true, true, true, true, false, true, false] rfl rfl (one_of HT_.out (by kernel_rfl)) (by decide) (fun K hK => ?_)
     refine Kd.R_append_rows_step Kd.string (w0 := w) w.heap.size (by rfl) (.tmp 10) (.tmp 12) 22 9 (.string ⟨#[]⟩) 16 rfl Try.underlying22 info9 rfl (by decide) (by omega) v289 y288 l0_1 _ _ _ (fun _ => True) (fun _ => False) rfl rfl ?aO ?aR (fun _ _ h => h) (fun _ h => h.elim) ?aF ?aB ?aS ?aL ?_
     (case aR => exact zzc (Kd.C_below HR0_1.out HB.out))
     (case aB => exact zzq)
     (case aF => exact (fun _ _ => trivial))
     (case aO => exact (zzr HO290.out))
     (case aS => exact (below_size zzq))
     (case aL => have := LMc2.out; omega)
     intro v292 w9 ho hb hg hat
     rw [← Ny291.out] at ho
     have n0_ := Aside0.mk (blk_grown (g := gb286) (o := .cells #[.int .i64 a0_0, .slice A0_1 l0_1.length c0_1, .slice A0_2 l0_2.length c0_2] 28 (0, 0)) (zzb BK286) hg (Kd.R_ne HO290.out BK286.out (by decide))); have n1_ := Aside0.mk (blk_grown (g := gb287) (o := .cells #[.int .i64 0, .slice none 0 0, .slice none 0 0] 28 (0, 0)) (zzb BK287) hg (Kd.R_ne HO290.out BK287.out (by decide))); have n2_ := Aside0.mk (blk_grown (g := gb294) (o := .cells #[.int .i64 0, .slice none 0 0, .slice none 0 0] 28 (0, 0)) (zzb BK294) hg (Kd.R_ne HO290.out BK294.out (by decide))); have n3_ := Aside0.mk (hb); have n4_ := Aside0.mk (ho); clear BK286; clear BK287; clear BK294; clear HB; clear HO290; have BK286 := n0_; have BK287 := n1_; have BK294 := n2_; have HB := n3_; have HO293 := n4_; clear n0_ n1_ n2_ n3_ n4_; clear ho hb hg hat; obtain ⟨Ao10, co10, eo10⟩ := Kd.R_slice HO293.out
     (first | subst eo10 | (injection eo10 with f1_ f2_ f3_; have f4_ := f1_.symm; have f5_ := f3_.symm; clear f1_ f2_ f3_; subst f4_; subst f5_))
     refine hK.out _ _ ⟨(blk_cell BK286.out 0).trans rfl, (blk_cell BK286.out 1).trans rfl, (blk_cell BK286.out 2).trans rfl⟩ (fun hHeld => ?_)
     clear hK K
     refine norm_ (a' := ?_) ?_ ?_
     rotate_left
     ·show Act.put _ (some 13) _ = _
      simp only [Act.put, s1, s2, s3, i64_w, i32_w]
      rfl
     refine pure_ (i := 6) (N := some 14) (v := ?_) (a' := ?_) #[true, true, true, true, true, true, true, true, false] rfl rfl (any_of HT_.out (by kernel_rfl)) (fun _ _ _ h => h) (Or.inl ⟨by rfl, ?_⟩) ?_ ?_
     rotate_left
     ·intro w'
      go_simp; with_reducible rfl
     rotate_left
     ·simp only [Act.put, s1, s2, s3, i64_w, i32_w]
      rfl
     exact norm_ (by simp only [putAll, Act.put, s1, s2, s3]) (hCont (v289, .slice Ao10 y291.length co10, gb294) _ ⟨hHeld, (zzr HO293.out), BK286.out, BK287.out, BK294.out, GW294.out, GE294.out, NB286_294.out, NB294_286.out, NB287_294.out, NB294_287.out, HB.out⟩)
   ·skip
    refine box_step (by rfl) (N := 3) (by rfl) (cs := #[.int .i64 0, .slice none 0 0, .slice none 0 0]) (t := 28) zzh ?_
    intro gb294 hg w6 hbox hb; have n0_ := kb BK286 hb; have n1_ := kb BK287 hb; have n2_ := ks HB hb; have n3_ := Aside0.mk (hbox); have n4_ := kl hg HB; have n5_ := kl hg HB; have n6_ := kn hg BK286; have n7_ := km hg BK286; have n8_ := kn hg BK287; have n9_ := km hg BK287; clear BK286; clear BK287; clear HB; have BK286 := n0_; have BK287 := n1_; have HB := n2_; have BK294 := n3_; have GW294 := n4_; have GE294 := n5_; have NB286_294 := n6_; have NB294_286 := n7_; have NB287_294 := n8_; have NB294_287 := n9_; clear n0_ n1_ n2_ n3_ n4_ n5_ n6_ n7_ n8_ n9_; clear hb hbox hg
    refine hK.out _ _ ⟨(blk_cell BK286.out 0).trans rfl, (blk_cell BK286.out 1).trans rfl, (blk_cell BK286.out 2).trans rfl⟩ (fun hHeld => ?_)
    clear hK K
    refine norm_ (a' := ?_) ?_ ?_
    rotate_left
    ·show Act.put _ (some 3) _ = _
     simp only [Act.put, s1, s2, s3, i64_w, i32_w]
     rfl
    refine one_ (i := 2) (N := some 10) #[true, true, true, true, true, false, false, true, false] rfl rfl (one_of HT_.out (by kernel_rfl)) (by decide) (fun K hK => ?_)
    refine Kd.R_lit_step Kd.string _ 9 ?hg (N := 10) ?hd (xs := ([] : List ByteArray)) (inner := []) (ok := fun _ => True) (okp := fun _ => True) ?hr ?hp (fun _ hk => hk) trivial (Below.refl _ _) (Nat.le_refl _) (by simp) ?_; (case hd => rfl); (case hg => rfl); (case hr => first | (go_simp; done) | (go_simp; rfl)); (case hp => exact (Reps.none _ _))
    intro v289 w7 ho8 hb hg_ hnew_; clear hg_ hnew_
    (first | rw [← Ny288.out] at ho8 | (simp only [Int.reduceToNat] at ho8; rw [← Ny288.out] at ho8))
    have n0_ := Aside0.mk (Kd.R_lower ho8 (below_size zzq)); have n1_ := kb BK286 hb; have n2_ := kb BK287 hb; have n3_ := kb BK294 hb; have n4_ := ks HB hb; clear BK286; clear BK287; clear BK294; clear HB; have HO290 := n0_; have BK286 := n1_; have BK287 := n2_; have BK294 := n3_; have HB := n4_; clear n0_ n1_ n2_ n3_ n4_; clear hb ho8
    refine hK.out _ _ ⟨(blk_cell BK286.out 0).trans rfl, (blk_cell BK286.out 1).trans rfl, (blk_cell BK286.out 2).trans rfl⟩ (fun hHeld => ?_)
    clear hK K
    refine norm_ (a' := ?_) ?_ ?_
    rotate_left
    ·show Act.put _ (some 10) _ = _
     simp only [Act.put, s1, s2, s3, i64_w, i32_w]
     rfl
    refine one_ (i := 5) (N := some 13) #[true, true, true, true, true, true, false, true, false] rfl rfl (one_of HT_.out (by kernel_rfl)) (by decide) (fun K hK => ?_)
    refine Kd.R_append_rows_step Kd.string (w0 := w) w.heap.size (by rfl) (.tmp 10) (.tmp 12) 22 9 (.string ⟨#[]⟩) 16 rfl Try.underlying22 info9 rfl (by decide) (by omega) v289 y288 l0_1 _ _ _ (fun _ => True) (fun _ => False) rfl rfl ?aO ?aR (fun _ _ h => h) (fun _ h => h.elim) ?aF ?aB ?aS ?aL ?_
    (case aR => exact zzc (Kd.C_below HR0_1.out HB.out))
    (case aB => exact zzq)
    (case aF => exact (fun _ _ => trivial))
    (case aO => exact (zzr HO290.out))
    (case aS => exact (below_size zzq))
    (case aL => have := LMc2.out; omega)
    intro v292 w9 ho hb hg hat
    rw [← Ny291.out] at ho
    have n0_ := Aside0.mk (blk_grown (g := gb286) (o := .cells #[.int .i64 a0_0, .slice A0_1 l0_1.length c0_1, .slice A0_2 l0_2.length c0_2] 28 (0, 0)) (zzb BK286) hg (Kd.R_ne HO290.out BK286.out (by decide))); have n1_ := Aside0.mk (blk_grown (g := gb287) (o := .cells #[.int .i64 0, .slice none 0 0, .slice none 0 0] 28 (0, 0)) (zzb BK287) hg (Kd.R_ne HO290.out BK287.out (by decide))); have n2_ := Aside0.mk (blk_grown (g := gb294) (o := .cells #[.int .i64 0, .slice none 0 0, .slice none 0 0] 28 (0, 0)) (zzb BK294) hg (Kd.R_ne HO290.out BK294.out (by decide))); have n3_ := Aside0.mk (hb); have n4_ := Aside0.mk (ho); clear BK286; clear BK287; clear BK294; clear HB; clear HO290; have BK286 := n0_; have BK287 := n1_; have BK294 := n2_; have HB := n3_; have HO293 := n4_; clear n0_ n1_ n2_ n3_ n4_; clear ho hb hg hat; obtain ⟨Ao10, co10, eo10⟩ := Kd.R_slice HO293.out
    (first | subst eo10 | (injection eo10 with f1_ f2_ f3_; have f4_ := f1_.symm; have f5_ := f3_.symm; clear f1_ f2_ f3_; subst f4_; subst f5_))
    refine hK.out _ _ ⟨(blk_cell BK286.out 0).trans rfl, (blk_cell BK286.out 1).trans rfl, (blk_cell BK286.out 2).trans rfl⟩ (fun hHeld => ?_)
    clear hK K
    refine norm_ (a' := ?_) ?_ ?_
    rotate_left
    ·show Act.put _ (some 13) _ = _
     simp only [Act.put, s1, s2, s3, i64_w, i32_w]
     rfl
    refine pure_ (i := 6) (N := some 14) (v := ?_) (a' := ?_) #[true, true, true, true, true, true, true, true, false] rfl rfl (any_of HT_.out (by kernel_rfl)) (fun _ _ _ h => h) (Or.inl ⟨by rfl, ?_⟩) ?_ ?_
    rotate_left
    ·intro w'
     go_simp; with_reducible rfl
    rotate_left
    ·simp only [Act.put, s1, s2, s3, i64_w, i32_w]
     rfl
    exact norm_ (by simp only [putAll, Act.put, s1, s2, s3]) (hCont (v289, .slice Ao10 y291.length co10, gb294) _ ⟨hHeld, (zzr HO293.out), BK286.out, BK287.out, BK294.out, GW294.out, GE294.out, NB286_294.out, NB294_286.out, NB287_294.out, NB294_287.out, HB.out⟩)
  rintro ⟨v289, v292, gb294⟩ w11 ⟨hS_, h0_, h1_, h2_, h3_, h4_, h5_, h6_, h7_, h8_, h9_, h10_⟩
  have n0_ : Aside0 (Kd.R Kd.string 9 w11 w.heap.size (fun _ => True) v292 y291) := ⟨h0_⟩
  have n1_ : Aside0 (w11.heap[gb286]? = some (.cells #[.int .i64 a0_0, .slice A0_1 l0_1.length c0_1, .slice A0_2 l0_2.length c0_2] 28 (0, 0))) := ⟨h1_⟩
  have n2_ : Aside0 (w11.heap[gb287]? = some (.cells #[.int .i64 0, .slice none 0 0, .slice none 0 0] 28 (0, 0))) := ⟨h2_⟩
  have n3_ : Aside0 (w11.heap[gb294]? = some (.cells #[.int .i64 0, .slice none 0 0, .slice none 0 0] 28 (0, 0))) := ⟨h3_⟩
  have n4_ : Aside0 (w.heap.size ≤ gb294) := ⟨h4_⟩
  have n5_ : Aside0 (w.heap.size ≤ gb294) := ⟨h5_⟩
  have n6_ : Aside0 (gb286 ≠ gb294) := ⟨h6_⟩
  have n7_ : Aside0 (gb294 ≠ gb286) := ⟨h7_⟩
  have n8_ : Aside0 (gb287 ≠ gb294) := ⟨h8_⟩
  have n9_ : Aside0 (gb294 ≠ gb287) := ⟨h9_⟩
  have n10_ : Aside0 (Below w.heap.size w w11) := ⟨h10_⟩
  clear BK286; clear BK287; clear HB; clear h0_ h1_ h2_ h3_ h4_ h5_ h6_ h7_ h8_ h9_ h10_; have HO293 := n0_; have BK286 := n1_; have BK287 := n2_; have BK294 := n3_; have GW294 := n4_; have GE294 := n5_; have NB286_294 := n6_; have NB294_286 := n7_; have NB287_294 := n8_; have NB294_287 := n9_; have HB := n10_; clear n0_ n1_ n2_ n3_ n4_ n5_ n6_ n7_ n8_ n9_ n10_
  have hHeld : w11.cell? ⟨gb286, 0, none⟩ = some (.int .i64 a0_0) ∧ w11.cell? ⟨gb286, 1, none⟩ = some (.slice A0_1 l0_1.length c0_1) ∧ w11.cell? ⟨gb286, 2, none⟩ = some (.slice A0_2 l0_2.length c0_2) := hS_
  obtain ⟨Ao12, co12, eo12⟩ := Kd.R_slice HO293.out
  (first | subst eo12 | (injection eo12 with f1_ f2_ f3_; have f4_ := f1_.symm; have f5_ := f3_.symm; clear f1_ f2_ f3_; subst f4_; subst f5_))
  refine norm_ (a' := ?_) ?_ ?_
  rotate_left
  ·simp only [putAll, Act.put, s1, s2, s3]
   rfl
  refine one_ (i := 8) (N := none) #[true, true, true, true, true, true, true, true, true] rfl rfl (one_of HT_.out (by kernel_rfl)) (by decide) (fun K hK => ?_)
  have hs13 : w11.cell? ⟨gb294, 0, none⟩ = some (.int .i64 0) := (blk_cell BK294.out 0).trans rfl
  have hfs13 := blk_frozen BK294.out 0
  have hns13_0 := NB286_294.out; have hns13_1 := NB287_294.out; have hms13_0 := NB294_286.out; have hms13_1 := NB294_287.out
  have hs14 : w11.cell? ⟨gb294, 1, none⟩ = some (.slice none 0 0) := (blk_cell BK294.out 1).trans rfl
  have hfs14 := blk_frozen BK294.out 1
  have hns14_0 := NB286_294.out; have hns14_1 := NB287_294.out; have hms14_0 := NB294_286.out; have hms14_1 := NB294_287.out
  have hs15 : w11.cell? ⟨gb294, 2, none⟩ = some (.slice none 0 0) := (blk_cell BK294.out 2).trans rfl
  have hfs15 := blk_frozen BK294.out 2
  have hns15_0 := NB286_294.out; have hns15_1 := NB287_294.out; have hms15_0 := NB294_286.out; have hms15_1 := NB294_287.out
  refine skip_ (w1 := ?_) (by rfl) rfl ?_ ?_
  rotate_left
  ·go_simp; rfl
  refine hK.out _ _ ⟨((cell_far (p := ⟨gb294, _, none⟩) NB286_294.out _).trans (((cell_far (p := ⟨gb294, _, none⟩) NB286_294.out _).trans (((cell_far (p := ⟨gb294, _, none⟩) NB286_294.out _).trans (hHeld.1)))))), ((cell_far (p := ⟨gb294, _, none⟩) NB286_294.out _).trans (((cell_far (p := ⟨gb294, _, none⟩) NB286_294.out _).trans (((cell_far (p := ⟨gb294, _, none⟩) NB286_294.out _).trans (hHeld.2.1)))))), ((cell_far (p := ⟨gb294, _, none⟩) NB286_294.out _).trans (((cell_far (p := ⟨gb294, _, none⟩) NB286_294.out _).trans (((cell_far (p := ⟨gb294, _, none⟩) NB286_294.out _).trans (hHeld.2.2))))))⟩ (fun hHeld => ?_)
  clear hK K
  refine done_ (done_of HT_.out (by kernel_rfl)) ?_
  try go_wp2
  go_loopg [4] k (fun kq v4 w' => ∃ (x4_1 : Int) (x295002_1 : List (S51)) (u295002 : Value), v4 = .int .i64 x4_1 ∧ Aside0 (templelaw0_CopyGrammar.l0 kq x4_1 a0_0 l0_1 l0_2 a0_0 y291 x295002_1 = some (r1, r2, r3)) ∧ Aside0 (kq ≤ k) ∧ Aside0 (Kd.R Kd.string 9 w' w.heap.size (fun _ => True) (.slice Ao12 y291.length co12) y291) ∧ Aside0 (Kd.R k51 51 w' w.heap.size (fun _ => True) u295002 x295002_1) ∧ Aside0 (w'.heap[gb286]? = some (.cells #[.int .i64 a0_0, (.slice A0_1 l0_1.length c0_1), (.slice A0_2 l0_2.length c0_2)] 28 (0, 0))) ∧ Aside0 (w'.heap[gb287]? = some (.cells #[.int .i64 0, (.slice none 0 0), (.slice none 0 0)] 28 (0, 0))) ∧ Aside0 (w'.heap[gb294]? = some (.cells #[.int .i64 a0_0, (.slice Ao12 y291.length co12), u295002] 28 (0, 0))) ∧ Aside0 (Below w.heap.size w w'))
  case atStart => exact ⟨(0), (([] : List (S51))), (.slice none 0 0), zz0, H', ⟨Nat.le_refl _⟩, ⟨zzr (Kd.R_mono (Kd.R_far (p := ⟨gb294, 2, none⟩) (Kd.R_far (p := ⟨gb294, 1, none⟩) (Kd.R_far (p := ⟨gb294, 0, none⟩) (Kd.R_types HO293.out BK294.out (by decide)) (fun _ hk => hk.2) (.int .i64 a0_0)) (fun _ hk => hk.2) (.slice Ao12 y291.length co12)) (fun _ hk => hk.2) (.slice none 0 0)) (fun _ hk => trivial))⟩, ⟨by first | exact Kd.R_nil _ _ _ _ _ | exact Kd.N_nil _ _ _ _ _ | exact Kd.V_nil _ _ _ _ _ | exact Kd.Q_nil _ _ _ _ _ | exact Kd.S_nil _ _ _ _ _⟩, ⟨by (with_reducible repeat (first | refine blk_drewN ?_ _ | refine blk_drew ?_ | refine blk_alloc ?_ _)); refine blk_far ?_ NB286_294.out _; (with_reducible repeat (first | refine blk_drewN ?_ _ | refine blk_drew ?_ | refine blk_alloc ?_ _)); refine blk_far ?_ NB286_294.out _; (with_reducible repeat (first | refine blk_drewN ?_ _ | refine blk_drew ?_ | refine blk_alloc ?_ _)); refine blk_far ?_ NB286_294.out _; exact zzb BK286⟩, ⟨by (with_reducible repeat (first | refine blk_drewN ?_ _ | refine blk_drew ?_ | refine blk_alloc ?_ _)); refine blk_far ?_ NB287_294.out _; (with_reducible repeat (first | refine blk_drewN ?_ _ | refine blk_drew ?_ | refine blk_alloc ?_ _)); refine blk_far ?_ NB287_294.out _; (with_reducible repeat (first | refine blk_drewN ?_ _ | refine blk_drew ?_ | refine blk_alloc ?_ _)); refine blk_far ?_ NB287_294.out _; exact zzb BK287⟩, ⟨by (with_reducible repeat (first | refine blk_drewN ?_ _ | refine blk_drew ?_ | refine blk_alloc ?_ _)); refine blk_put (cs := #[.int .i64 a0_0, .slice Ao12 y291.length co12, .slice none 0 0]) ?_ 2 _ rfl; (with_reducible repeat (first | refine blk_drewN ?_ _ | refine blk_drew ?_ | refine blk_alloc ?_ _)); refine blk_put (cs := #[.int .i64 a0_0, .slice none 0 0, .slice none 0 0]) ?_ 1 _ rfl; (with_reducible repeat (first | refine blk_drewN ?_ _ | refine blk_drew ?_ | refine blk_alloc ?_ _)); refine blk_put (cs := #[.int .i64 0, .slice none 0 0, .slice none 0 0]) ?_ 0 _ rfl; exact zzb BK294⟩, ⟨zzq⟩⟩
  case round =>
   clear H'; (try clear c1); (try clear c2); (try clear p2); obtain ⟨x4_1, x295002_1, u295002, rfl, HA, HK1, HO_295001, HO_295002, BK286, BK287, BK294, HB⟩ := hrel
   cases gk with
   | zero => exact absurd HA.out (by simp [templelaw0_CopyGrammar.l0])
   | succ k1 =>
    have H := HA.out; clear HA
    simp only [templelaw0_CopyGrammar.l0] at H
    by_cases c16 : x4_1 < (l0_2.length : Int)
    ·rw [if_pos c16] at H; have c16b0 : decide (x4_1 < (l0_2.length : Int)) = true := decide_eq_true c16; clear c16
     by_cases c17 : 0 ≤ x4_1
     ·rw [if_pos c17] at H; have c17b0 : decide (0 ≤ x4_1) = true := decide_eq_true c17; clear c17; have H' := Aside0.mk H; clear H; have hnb18 := NB286_287.out; have hnc18 := NB287_286.out; have hnb19 := NB286_294.out; have hnc19 := NB294_286.out
      have hcz20_0 : wr.cell? ⟨gb286, 0, none⟩ = some (.int .i64 a0_0) := (blk_cell BK286.out 0).trans rfl
      have hcz20_1 : wr.cell? ⟨gb286, 1, none⟩ = some (.slice A0_1 l0_1.length c0_1) := (blk_cell BK286.out 1).trans rfl
      have hcz20_2 : wr.cell? ⟨gb286, 2, none⟩ = some (.slice A0_2 l0_2.length c0_2) := (blk_cell BK286.out 2).trans rfl
      have hfz20_0 := blk_frozen BK286.out 0; have hfz20_1 := blk_frozen BK286.out 1; have hfz20_2 := blk_frozen BK286.out 2
      have p295 : 0 ≤ (x4_1 : Int) := of_decide_eq_true zz1
      have q295 : x4_1 < (l0_2.length : Int) := of_decide_eq_true zz1
      obtain ⟨ad295, A295_1, c295_1, e295, hx295_0, hx295_1, hl295_1, hi295_1⟩ := at_T51 HR0_2.out x4_1 p295 q295; cases e295
      replace hx295_0 := (HB.out.cell (World.block_lt_of_cell? w _ hx295_0)).trans hx295_0
      replace hx295_1 := (HB.out.cell (World.block_lt_of_cell? w _ hx295_1)).trans hx295_1
      have HR295_1 := Aside0.mk hi295_1; have HC295_1 := Aside0.mk hl295_1; clear hi295_1 hl295_1; replace p295 := eq_true p295; replace q295 := eq_true q295
      go_wp2_with (first | ((with_reducible refine gate_dst (N := 5) rfl ?_); refine box_event (by rfl) (N := 5) (by rfl) (cs := #[.int .i64 0, .slice none 0 0]) (t := 51) zzh ?_; intro gb296 hg w21 hbox hb; have n0_ := Aside0.mk (Kd.R_below (zzr HO_295001.out) hb); have n1_ := Aside0.mk (Kd.R_below (Kd.R_elderB (zzr HO_295002.out) gb296 (Nat.le_of_eq hg.symm)) hb); have n2_ := Aside0.mk (blk_below (g := gb286) (o := .cells #[.int .i64 a0_0, .slice A0_1 l0_1.length c0_1, .slice (some ad295) l0_2.length c0_2] 28 (0, 0)) (zzb BK286) hb); have n3_ := Aside0.mk (blk_below (g := gb287) (o := .cells #[.int .i64 0, .slice none 0 0, .slice none 0 0] 28 (0, 0)) (zzb BK287) hb); have n4_ := Aside0.mk (blk_below (g := gb294) (o := .cells #[.int .i64 a0_0, .slice Ao12 y291.length co12, u295002] 28 (0, 0)) (zzb BK294) hb); have n5_ := Aside0.mk (below_step zzq hb); have n6_ := Aside0.mk (hbox); have n7_ := Aside0.mk ((zzg hg zzq)); have n8_ := Aside0.mk ((zzg hg zzq)); have n9_ := Aside0.mk ((by rw [hg]; exact Nat.ne_of_lt (blk_lt (g := gb286) (o := .cells #[.int .i64 a0_0, .slice A0_1 l0_1.length c0_1, .slice (some ad295) l0_2.length c0_2] 28 (0, 0)) (zzb BK286)) : gb286 ≠ gb296)); have n10_ := Aside0.mk ((by rw [hg]; exact Nat.ne_of_gt (blk_lt (g := gb286) (o := .cells #[.int .i64 a0_0, .slice A0_1 l0_1.length c0_1, .slice (some ad295) l0_2.length c0_2] 28 (0, 0)) (zzb BK286)) : gb296 ≠ gb286)); have n11_ := Aside0.mk ((by rw [hg]; exact Nat.ne_of_lt (blk_lt (g := gb287) (o := .cells #[.int .i64 0, .slice none 0 0, .slice none 0 0] 28 (0, 0)) (zzb BK287)) : gb287 ≠ gb296)); have n12_ := Aside0.mk ((by rw [hg]; exact Nat.ne_of_gt (blk_lt (g := gb287) (o := .cells #[.int .i64 0, .slice none 0 0, .slice none 0 0] 28 (0, 0)) (zzb BK287)) : gb296 ≠ gb287)); have n13_ := Aside0.mk ((by rw [hg]; exact Nat.ne_of_lt (blk_lt (g := gb294) (o := .cells #[.int .i64 a0_0, .slice Ao12 y291.length co12, u295002] 28 (0, 0)) (zzb BK294)) : gb294 ≠ gb296)); have n14_ := Aside0.mk ((by rw [hg]; exact Nat.ne_of_gt (blk_lt (g := gb294) (o := .cells #[.int .i64 a0_0, .slice Ao12 y291.length co12, u295002] 28 (0, 0)) (zzb BK294)) : gb296 ≠ gb294)); clear HO_295001; clear HO_295002; clear BK286; clear BK287; clear BK294; clear HB; have HO_295001 := n0_; have HO_295002 := n1_; have BK286 := n2_; have BK287 := n3_; have BK294 := n4_; have HB := n5_; have BK296 := n6_; have GW296 := n7_; have GE296 := n8_; have NB286_296 := n9_; have NB296_286 := n10_; have NB287_296 := n11_; have NB296_287 := n12_; have NB294_296 := n13_; have NB296_294 := n14_; clear n0_ n1_ n2_ n3_ n4_ n5_ n6_ n7_ n8_ n9_ n10_ n11_ n12_ n13_ n14_; clear hb hbox hg; have hnb22 := NB296_286.out; have hnc22 := NB286_296.out; have hnb23 := NB296_287.out; have hnc23 := NB287_296.out; have hnb24 := NB296_294.out; have hnc24 := NB294_296.out; have hcz25_0 : w21.cell? ⟨gb296, 0, none⟩ = some (.int .i64 0) := (blk_cell BK296.out 0).trans rfl; have hcz25_1 : w21.cell? ⟨gb296, 1, none⟩ = some (.slice none 0 0) := (blk_cell BK296.out 1).trans rfl; have hfz25_0 := blk_frozen BK296.out 0; have hfz25_1 := blk_frozen BK296.out 1))
      go_loopg [6] k1 (fun kq v6 w' => ∃ (x6_2 : Int) (x297001_2 : List (S54)) (u297001 : Value), v6 = .int .i64 x6_2 ∧ Aside0 (templelaw0_CopyGrammar.l1 kq x4_1 x6_2 a0_0 l0_1 l0_2 a0_0 y291 x295002_1 ((rd_T51 l0_2 x4_1).f0) x297001_2 = some (r1, r2, r3)) ∧ Aside0 (kq ≤ k1) ∧ Aside0 (Kd.R Kd.string 9 w' w.heap.size (fun _ => True) (.slice Ao12 y291.length co12) y291) ∧ Aside0 (Kd.R k51 51 w' w.heap.size (fun k_ => some k_ ≠ (u297001 : Value).ownBlock ∧ k_ ≠ gb296) u295002 x295002_1) ∧ Aside0 (Kd.S k54 54 w' w.heap.size (fun _ => True) u297001 x297001_2) ∧ Aside0 (w'.heap[gb286]? = some (.cells #[.int .i64 a0_0, (.slice A0_1 l0_1.length c0_1), (.slice (some ad295) l0_2.length c0_2)] 28 (0, 0))) ∧ Aside0 (w'.heap[gb287]? = some (.cells #[.int .i64 0, (.slice none 0 0), (.slice none 0 0)] 28 (0, 0))) ∧ Aside0 (w'.heap[gb294]? = some (.cells #[.int .i64 a0_0, (.slice Ao12 y291.length co12), u295002] 28 (0, 0))) ∧ Aside0 (w'.heap[gb296]? = some (.cells #[.int .i64 ((rd_T51 l0_2 x4_1).f0), u297001] 51 (0, 0))) ∧ Aside0 (Below w.heap.size w w'))
      case atStart => exact ⟨(0), (([] : List (S54))), (.slice none 0 0), zz0, H', ⟨Nat.le_refl _⟩, ⟨zzr (Kd.R_mono (Kd.R_far (p := ⟨gb296, 1, none⟩) (Kd.R_far (p := ⟨gb296, 0, none⟩) (Kd.R_types HO_295001.out BK296.out (by decide)) (fun _ hk => hk.2) (.int .i64 ((rd_T51 l0_2 x4_1).f0))) (fun _ hk => hk.2) (.slice none 0 0)) (fun _ hk => trivial))⟩, ⟨zzr (Kd.R_mono (Kd.R_far (p := ⟨gb296, 1, none⟩) (Kd.R_far (p := ⟨gb296, 0, none⟩) (Kd.R_mono HO_295002.out (fun k_ hk => (⟨hk, hk.2⟩ : _ ∧ k_ ≠ gb296))) (fun _ hk => hk.2) (.int .i64 ((rd_T51 l0_2 x4_1).f0))) (fun _ hk => hk.2) (.slice none 0 0)) (fun _ hk => ⟨(by simp [Value.ownBlock]), hk.1.2⟩))⟩, ⟨by first | exact Kd.S_nil _ _ _ _ _ | exact Kd.N_nil _ _ _ _ _ | exact Kd.V_nil _ _ _ _ _ | exact Kd.Q_nil _ _ _ _ _ | exact Kd.R_nil _ _ _ _ _⟩, ⟨by (with_reducible repeat (first | refine blk_drewN ?_ _ | refine blk_drew ?_ | refine blk_alloc ?_ _)); refine blk_far ?_ NB286_296.out _; (with_reducible repeat (first | refine blk_drewN ?_ _ | refine blk_drew ?_ | refine blk_alloc ?_ _)); refine blk_far ?_ NB286_296.out _; exact zzb BK286⟩, ⟨by (with_reducible repeat (first | refine blk_drewN ?_ _ | refine blk_drew ?_ | refine blk_alloc ?_ _)); refine blk_far ?_ NB287_296.out _; (with_reducible repeat (first | refine blk_drewN ?_ _ | refine blk_drew ?_ | refine blk_alloc ?_ _)); refine blk_far ?_ NB287_296.out _; exact zzb BK287⟩, ⟨by (with_reducible repeat (first | refine blk_drewN ?_ _ | refine blk_drew ?_ | refine blk_alloc ?_ _)); refine blk_far ?_ NB294_296.out _; (with_reducible repeat (first | refine blk_drewN ?_ _ | refine blk_drew ?_ | refine blk_alloc ?_ _)); refine blk_far ?_ NB294_296.out _; exact zzb BK294⟩, ⟨by (with_reducible repeat (first | refine blk_drewN ?_ _ | refine blk_drew ?_ | refine blk_alloc ?_ _)); refine blk_put (cs := #[.int .i64 ((rd_T51 l0_2 x4_1).f0), .slice none 0 0]) ?_ 1 _ rfl; (with_reducible repeat (first | refine blk_drewN ?_ _ | refine blk_drew ?_ | refine blk_alloc ?_ _)); refine blk_put (cs := #[.int .i64 0, .slice none 0 0]) ?_ 0 _ rfl; exact zzb BK296⟩, ⟨zzq⟩⟩
      case round =>
       clear H'; (try clear c1); (try clear c2); (try clear p2); (try clear q2); (try clear hx2); (try clear c16); (try clear c16b0); (try clear c17); (try clear c17b0); (try clear c18); (try clear c19); (try clear c22); (try clear c23); (try clear c24); (try clear hcz20_0); (try clear hcz20_1); (try clear hcz20_2); (try clear hcz25_0); (try clear hcz25_1); (try clear hfz20_0); (try clear hfz20_1); (try clear hfz20_2); (try clear hfz25_0); (try clear hfz25_1); (try clear hx295_0); (try clear hx295_1); (try clear p2); (try clear p295); (try clear q295); obtain ⟨x6_2, x297001_2, u297001, rfl, HA, HK2, HO_295001, HO_295002, HO_297001, BK286, BK287, BK294, BK296, HB⟩ := hrel
       cases gk with
       | zero => exact absurd HA.out (by simp [templelaw0_CopyGrammar.l1])
       | succ k2 =>
        have H := HA.out; clear HA
        simp only [templelaw0_CopyGrammar.l1] at H
        by_cases c26 : 0 ≤ x4_1
        ·rw [if_pos c26] at H; have c26b0 : decide (0 ≤ x4_1) = true := decide_eq_true c26; clear c26
         by_cases c27 : x4_1 < (l0_2.length : Int)
         ·rw [if_pos c27] at H; have c27b0 : decide (x4_1 < (l0_2.length : Int)) = true := decide_eq_true c27; clear c27
          by_cases c28 : x6_2 < (((rd_T51 l0_2 x4_1).f1).length : Int)
          ·rw [if_pos c28] at H; have c28b0 : decide (x6_2 < (((rd_T51 l0_2 x4_1).f1).length : Int)) = true := decide_eq_true c28; clear c28
           by_cases c29 : 0 ≤ x6_2
           ·rw [if_pos c29] at H; have c29b0 : decide (0 ≤ x6_2) = true := decide_eq_true c29; clear c29; obtain ⟨y301, hy301⟩ : ∃ y_ : List (S56), y_ = (([] : List (S56))) := ⟨_, rfl⟩
            replace H : (if y301.length + ((rd_T54 ((rd_T51 l0_2 x4_1).f1) x6_2).f1).length < 5864062014805 then (if x297001_2.length < 4398046511104 then (templelaw0_CopyGrammar.l1 k2 x4_1 (wrap64 (x6_2 + 1)) a0_0 l0_1 l0_2 a0_0 y291 x295002_1 ((rd_T51 l0_2 x4_1).f0) (x297001_2 ++ [(⟨(rd_T54 ((rd_T51 l0_2 x4_1).f1) x6_2).f0, (y301 ++ ((rd_T54 ((rd_T51 l0_2 x4_1).f1) x6_2).f1))⟩ : S54)])) else (none)) else (none)) = some (r1, r2, r3) := by first | (rw [hy301]; with_reducible exact H) | (have H2_ := (Option.bind_some _ _).symm.trans H; rw [hy301]; with_reducible exact H2_) | (have H2_ := (Option.bind_some _ _).symm.trans H; with_reducible exact H2_) | with_reducible exact H | (rw [hy301]; exact H) | exact H
            have Ny301 := Aside0.mk hy301; clear hy301
            by_cases c30 : y301.length + ((rd_T54 ((rd_T51 l0_2 x4_1).f1) x6_2).f1).length < 5864062014805
            ·rw [if_pos c30] at H; have LMc30 := Aside0.mk c30; clear c30; obtain ⟨y304, hy304⟩ : ∃ y_ : List (S56), y_ = (y301 ++ ((rd_T54 ((rd_T51 l0_2 x4_1).f1) x6_2).f1)) := ⟨_, rfl⟩
             replace H : (if x297001_2.length < 4398046511104 then (templelaw0_CopyGrammar.l1 k2 x4_1 (wrap64 (x6_2 + 1)) a0_0 l0_1 l0_2 a0_0 y291 x295002_1 ((rd_T51 l0_2 x4_1).f0) (x297001_2 ++ [(⟨(rd_T54 ((rd_T51 l0_2 x4_1).f1) x6_2).f0, y304⟩ : S54)])) else (none)) = some (r1, r2, r3) := by first | (rw [hy304]; with_reducible exact H) | (have H2_ := (Option.bind_some _ _).symm.trans H; rw [hy304]; with_reducible exact H2_) | (have H2_ := (Option.bind_some _ _).symm.trans H; with_reducible exact H2_) | with_reducible exact H | (rw [hy304]; exact H) | exact H
             have Ny304 := Aside0.mk hy304; clear hy304
             by_cases c31 : x297001_2.length < 4398046511104
             ·rw [if_pos c31] at H; have LMc31 := Aside0.mk c31; clear c31; obtain ⟨y307, hy307⟩ : ∃ y_ : List (S54), y_ = (x297001_2 ++ [(⟨(rd_T54 ((rd_T51 l0_2 x4_1).f1) x6_2).f0, y304⟩ : S54)]) := ⟨_, rfl⟩
              replace H : (templelaw0_CopyGrammar.l1 k2 x4_1 (wrap64 (x6_2 + 1)) a0_0 l0_1 l0_2 a0_0 y291 x295002_1 ((rd_T51 l0_2 x4_1).f0) y307) = some (r1, r2, r3) := by first | (rw [hy307]; with_reducible exact H) | (have H2_ := (Option.bind_some _ _).symm.trans H; rw [hy307]; with_reducible exact H2_) | (have H2_ := (Option.bind_some _ _).symm.trans H; with_reducible exact H2_) | with_reducible exact H | (rw [hy307]; exact H) | exact H
              have Ny307 := Aside0.mk hy307; clear hy307; have H' := Aside0.mk H; clear H; have hnb32 := NB286_287.out; have hnc32 := NB287_286.out; have hnb33 := NB286_294.out; have hnc33 := NB294_286.out; have hnb34 := NB286_296.out; have hnc34 := NB296_286.out
              have hcz35_0 : wr.cell? ⟨gb286, 0, none⟩ = some (.int .i64 a0_0) := (blk_cell BK286.out 0).trans rfl
              have hcz35_1 : wr.cell? ⟨gb286, 1, none⟩ = some (.slice A0_1 l0_1.length c0_1) := (blk_cell BK286.out 1).trans rfl
              have hcz35_2 : wr.cell? ⟨gb286, 2, none⟩ = some (.slice (some ad295) l0_2.length c0_2) := (blk_cell BK286.out 2).trans rfl
              have hfz35_0 := blk_frozen BK286.out 0; have hfz35_1 := blk_frozen BK286.out 1; have hfz35_2 := blk_frozen BK286.out 2
              have p297 : 0 ≤ (x4_1 : Int) := of_decide_eq_true zz1
              have q297 : x4_1 < (l0_2.length : Int) := of_decide_eq_true zz1
              obtain ⟨ad297, A297_1, c297_1, e297, hx297_0, hx297_1, hl297_1, hi297_1⟩ := at_T51 HR0_2.out x4_1 p297 q297; obtain rfl : ad295 = ad297 := (by injection e297)
              replace hx297_0 := (HB.out.cell (World.block_lt_of_cell? w _ hx297_0)).trans hx297_0
              replace hx297_1 := (HB.out.cell (World.block_lt_of_cell? w _ hx297_1)).trans hx297_1
              have HR297_1 := Aside0.mk hi297_1; have HC297_1 := Aside0.mk hl297_1; clear hi297_1 hl297_1; replace p297 := eq_true p297; replace q297 := eq_true q297
              have p298 : 0 ≤ (x4_1 : Int) := of_decide_eq_true zz1
              have q298 : x4_1 < (l0_2.length : Int) := of_decide_eq_true zz1
              obtain ⟨ad298, A298_1, c298_1, e298, hx298_0, hx298_1, hl298_1, hi298_1⟩ := at_T51 HR0_2.out x4_1 p298 q298; obtain rfl : ad295 = ad298 := (by injection e298)
              replace hx298_0 := (HB.out.cell (World.block_lt_of_cell? w _ hx298_0)).trans hx298_0
              replace hx298_1 := (HB.out.cell (World.block_lt_of_cell? w _ hx298_1)).trans hx298_1
              have HR298_1 := Aside0.mk hi298_1; have HC298_1 := Aside0.mk hl298_1; clear hi298_1 hl298_1; replace p298 := eq_true p298; replace q298 := eq_true q298
              have ea_ := Option.some.inj (hx297_1.symm.trans hx298_1)
              injection ea_ with ea_ en_ ec_
              subst ea_; subst ec_; clear en_
              have p299 : 0 ≤ (x6_2 : Int) := of_decide_eq_true zz1
              have q299 : x6_2 < (((rd_T51 l0_2 x4_1).f1).length : Int) := of_decide_eq_true zz1
              obtain ⟨ad299, A299_1, c299_1, e299, hx299_0, hx299_1, hl299_1, hi299_1⟩ := at_T54 HR298_1.out x6_2 p299 q299; cases e299
              replace hx299_0 := (HB.out.cell (World.block_lt_of_cell? w _ hx299_0)).trans hx299_0
              replace hx299_1 := (HB.out.cell (World.block_lt_of_cell? w _ hx299_1)).trans hx299_1
              have HR299_1 := Aside0.mk hi299_1; have HC299_1 := Aside0.mk hl299_1; clear hi299_1 hl299_1; replace p299 := eq_true p299; replace q299 := eq_true q299
              try go_wp2_with (first | ((with_reducible refine gate_dst (N := 7) rfl ?_); refine box_event (by rfl) (N := 7) (by rfl) (cs := #[.bool false, .slice none 0 0]) (t := 54) zzh ?_; intro gb300 hg w36 hbox hb; have n0_ := Aside0.mk (Kd.R_below (zzr HO_295001.out) hb); have n1_ := Aside0.mk (Kd.R_below (Kd.R_elderB (zzr HO_295002.out) gb300 (Nat.le_of_eq hg.symm)) hb); have n2_ := Aside0.mk (Kd.S_below (Kd.S_elderB (zzs HO_297001.out) gb300 (Nat.le_of_eq hg.symm)) hb); have n3_ := Aside0.mk (blk_below (g := gb286) (o := .cells #[.int .i64 a0_0, .slice A0_1 l0_1.length c0_1, .slice (some ad295) l0_2.length c0_2] 28 (0, 0)) (zzb BK286) hb); have n4_ := Aside0.mk (blk_below (g := gb287) (o := .cells #[.int .i64 0, .slice none 0 0, .slice none 0 0] 28 (0, 0)) (zzb BK287) hb); have n5_ := Aside0.mk (blk_below (g := gb294) (o := .cells #[.int .i64 a0_0, .slice Ao12 y291.length co12, u295002] 28 (0, 0)) (zzb BK294) hb); have n6_ := Aside0.mk (blk_below (g := gb296) (o := .cells #[.int .i64 ((rd_T51 l0_2 x4_1).f0), u297001] 51 (0, 0)) (zzb BK296) hb); have n7_ := Aside0.mk (below_step zzq hb); have n8_ := Aside0.mk (hbox); have n9_ := Aside0.mk ((zzg hg zzq)); have n10_ := Aside0.mk ((zzg hg zzq)); have n11_ := Aside0.mk ((by rw [hg]; exact Nat.ne_of_lt (blk_lt (g := gb286) (o := .cells #[.int .i64 a0_0, .slice A0_1 l0_1.length c0_1, .slice (some ad295) l0_2.length c0_2] 28 (0, 0)) (zzb BK286)) : gb286 ≠ gb300)); have n12_ := Aside0.mk ((by rw [hg]; exact Nat.ne_of_gt (blk_lt (g := gb286) (o := .cells #[.int .i64 a0_0, .slice A0_1 l0_1.length c0_1, .slice (some ad295) l0_2.length c0_2] 28 (0, 0)) (zzb BK286)) : gb300 ≠ gb286)); have n13_ := Aside0.mk ((by rw [hg]; exact Nat.ne_of_lt (blk_lt (g := gb287) (o := .cells #[.int .i64 0, .slice none 0 0, .slice none 0 0] 28 (0, 0)) (zzb BK287)) : gb287 ≠ gb300)); have n14_ := Aside0.mk ((by rw [hg]; exact Nat.ne_of_gt (blk_lt (g := gb287) (o := .cells #[.int .i64 0, .slice none 0 0, .slice none 0 0] 28 (0, 0)) (zzb BK287)) : gb300 ≠ gb287)); have n15_ := Aside0.mk ((by rw [hg]; exact Nat.ne_of_lt (blk_lt (g := gb294) (o := .cells #[.int .i64 a0_0, .slice Ao12 y291.length co12, u295002] 28 (0, 0)) (zzb BK294)) : gb294 ≠ gb300)); have n16_ := Aside0.mk ((by rw [hg]; exact Nat.ne_of_gt (blk_lt (g := gb294) (o := .cells #[.int .i64 a0_0, .slice Ao12 y291.length co12, u295002] 28 (0, 0)) (zzb BK294)) : gb300 ≠ gb294)); have n17_ := Aside0.mk ((by rw [hg]; exact Nat.ne_of_lt (blk_lt (g := gb296) (o := .cells #[.int .i64 ((rd_T51 l0_2 x4_1).f0), u297001] 51 (0, 0)) (zzb BK296)) : gb296 ≠ gb300)); have n18_ := Aside0.mk ((by rw [hg]; exact Nat.ne_of_gt (blk_lt (g := gb296) (o := .cells #[.int .i64 ((rd_T51 l0_2 x4_1).f0), u297001] 51 (0, 0)) (zzb BK296)) : gb300 ≠ gb296)); clear HO_295001; clear HO_295002; clear HO_297001; clear BK286; clear BK287; clear BK294; clear BK296; clear HB; have HO_295001 := n0_; have HO_295002 := n1_; have HO_297001 := n2_; have BK286 := n3_; have BK287 := n4_; have BK294 := n5_; have BK296 := n6_; have HB := n7_; have BK300 := n8_; have GW300 := n9_; have GE300 := n10_; have NB286_300 := n11_; have NB300_286 := n12_; have NB287_300 := n13_; have NB300_287 := n14_; have NB294_300 := n15_; have NB300_294 := n16_; have NB296_300 := n17_; have NB300_296 := n18_; clear n0_ n1_ n2_ n3_ n4_ n5_ n6_ n7_ n8_ n9_ n10_ n11_ n12_ n13_ n14_ n15_ n16_ n17_ n18_; clear hb hbox hg; have hnb37 := NB300_286.out; have hnc37 := NB286_300.out; have hnb38 := NB300_287.out; have hnc38 := NB287_300.out; have hnb39 := NB300_294.out; have hnc39 := NB294_300.out; have hnb40 := NB300_296.out; have hnc40 := NB296_300.out; have hcz41_0 : w36.cell? ⟨gb300, 0, none⟩ = some (.bool false) := (blk_cell BK300.out 0).trans rfl; have hcz41_1 : w36.cell? ⟨gb300, 1, none⟩ = some (.slice none 0 0) := (blk_cell BK300.out 1).trans rfl; have hfz41_0 := blk_frozen BK300.out 0; have hfz41_1 := blk_frozen BK300.out 1))
              have n0_ : Aside0 (Kd.R Kd.string 9 ((w36.setCell ⟨gb300, 0, none⟩ (.bool ((rd_T54 ((rd_T51 l0_2 x4_1).f1) x6_2).f0))).setCell ⟨gb300, 1, none⟩ (.slice A299_1 ((rd_T54 ((rd_T51 l0_2 x4_1).f1) x6_2).f1).length c299_1)) w.heap.size (fun _ => True) (.slice Ao12 y291.length co12) y291) := ⟨zzr (Kd.R_mono (Kd.R_far (p := ⟨gb300, 1, none⟩) (Kd.R_far (p := ⟨gb300, 0, none⟩) (Kd.R_types HO_295001.out BK300.out (by decide)) (fun _ hk => hk.2) (.bool ((rd_T54 ((rd_T51 l0_2 x4_1).f1) x6_2).f0))) (fun _ hk => hk.2) (.slice A299_1 ((rd_T54 ((rd_T51 l0_2 x4_1).f1) x6_2).f1).length c299_1)) (fun _ hk => trivial))⟩
              have n1_ : Aside0 (Kd.R k51 51 ((w36.setCell ⟨gb300, 0, none⟩ (.bool ((rd_T54 ((rd_T51 l0_2 x4_1).f1) x6_2).f0))).setCell ⟨gb300, 1, none⟩ (.slice A299_1 ((rd_T54 ((rd_T51 l0_2 x4_1).f1) x6_2).f1).length c299_1)) w.heap.size (fun k_ => some k_ ≠ (u297001 : Value).ownBlock ∧ k_ ≠ gb296 ∧ k_ ≠ gb300) u295002 x295002_1) := ⟨zzr (Kd.R_mono (Kd.R_far (p := ⟨gb300, 1, none⟩) (Kd.R_far (p := ⟨gb300, 0, none⟩) (Kd.R_mono HO_295002.out (fun k_ hk => (⟨hk, hk.2⟩ : _ ∧ k_ ≠ gb300))) (fun _ hk => hk.2) (.bool ((rd_T54 ((rd_T51 l0_2 x4_1).f1) x6_2).f0))) (fun _ hk => hk.2) (.slice A299_1 ((rd_T54 ((rd_T51 l0_2 x4_1).f1) x6_2).f1).length c299_1)) (fun _ hk => ⟨hk.1.1.1, ⟨hk.1.1.2, hk.1.2⟩⟩))⟩
              have n2_ : Aside0 (Kd.S k54 54 ((w36.setCell ⟨gb300, 0, none⟩ (.bool ((rd_T54 ((rd_T51 l0_2 x4_1).f1) x6_2).f0))).setCell ⟨gb300, 1, none⟩ (.slice A299_1 ((rd_T54 ((rd_T51 l0_2 x4_1).f1) x6_2).f1).length c299_1)) w.heap.size (fun k_ => k_ ≠ gb300) u297001 x297001_2) := ⟨zzs (Kd.S_mono (Kd.S_far (p := ⟨gb300, 1, none⟩) (Kd.S_far (p := ⟨gb300, 0, none⟩) (Kd.S_mono HO_297001.out (fun k_ hk => (⟨hk, hk.2⟩ : _ ∧ k_ ≠ gb300))) (fun _ hk => hk.2) (.bool ((rd_T54 ((rd_T51 l0_2 x4_1).f1) x6_2).f0))) (fun _ hk => hk.2) (.slice A299_1 ((rd_T54 ((rd_T51 l0_2 x4_1).f1) x6_2).f1).length c299_1)) (fun _ hk => hk.1.2))⟩
              have n3_ : Aside0 (((w36.setCell ⟨gb300, 0, none⟩ (.bool ((rd_T54 ((rd_T51 l0_2 x4_1).f1) x6_2).f0))).setCell ⟨gb300, 1, none⟩ (.slice A299_1 ((rd_T54 ((rd_T51 l0_2 x4_1).f1) x6_2).f1).length c299_1)).heap[gb286]? = some (.cells #[.int .i64 a0_0, .slice A0_1 l0_1.length c0_1, .slice (some ad295) l0_2.length c0_2] 28 (0, 0))) := ⟨by (with_reducible repeat (first | refine blk_drewN ?_ _ | refine blk_drew ?_ | refine blk_alloc ?_ _)); refine blk_far ?_ NB286_300.out _; (with_reducible repeat (first | refine blk_drewN ?_ _ | refine blk_drew ?_ | refine blk_alloc ?_ _)); refine blk_far ?_ NB286_300.out _; exact zzb BK286⟩
              have n4_ : Aside0 (((w36.setCell ⟨gb300, 0, none⟩ (.bool ((rd_T54 ((rd_T51 l0_2 x4_1).f1) x6_2).f0))).setCell ⟨gb300, 1, none⟩ (.slice A299_1 ((rd_T54 ((rd_T51 l0_2 x4_1).f1) x6_2).f1).length c299_1)).heap[gb287]? = some (.cells #[.int .i64 0, .slice none 0 0, .slice none 0 0] 28 (0, 0))) := ⟨by (with_reducible repeat (first | refine blk_drewN ?_ _ | refine blk_drew ?_ | refine blk_alloc ?_ _)); refine blk_far ?_ NB287_300.out _; (with_reducible repeat (first | refine blk_drewN ?_ _ | refine blk_drew ?_ | refine blk_alloc ?_ _)); refine blk_far ?_ NB287_300.out _; exact zzb BK287⟩
              have n5_ : Aside0 (((w36.setCell ⟨gb300, 0, none⟩ (.bool ((rd_T54 ((rd_T51 l0_2 x4_1).f1) x6_2).f0))).setCell ⟨gb300, 1, none⟩ (.slice A299_1 ((rd_T54 ((rd_T51 l0_2 x4_1).f1) x6_2).f1).length c299_1)).heap[gb294]? = some (.cells #[.int .i64 a0_0, .slice Ao12 y291.length co12, u295002] 28 (0, 0))) := ⟨by (with_reducible repeat (first | refine blk_drewN ?_ _ | refine blk_drew ?_ | refine blk_alloc ?_ _)); refine blk_far ?_ NB294_300.out _; (with_reducible repeat (first | refine blk_drewN ?_ _ | refine blk_drew ?_ | refine blk_alloc ?_ _)); refine blk_far ?_ NB294_300.out _; exact zzb BK294⟩
              have n6_ : Aside0 (((w36.setCell ⟨gb300, 0, none⟩ (.bool ((rd_T54 ((rd_T51 l0_2 x4_1).f1) x6_2).f0))).setCell ⟨gb300, 1, none⟩ (.slice A299_1 ((rd_T54 ((rd_T51 l0_2 x4_1).f1) x6_2).f1).length c299_1)).heap[gb296]? = some (.cells #[.int .i64 ((rd_T51 l0_2 x4_1).f0), u297001] 51 (0, 0))) := ⟨by (with_reducible repeat (first | refine blk_drewN ?_ _ | refine blk_drew ?_ | refine blk_alloc ?_ _)); refine blk_far ?_ NB296_300.out _; (with_reducible repeat (first | refine blk_drewN ?_ _ | refine blk_drew ?_ | refine blk_alloc ?_ _)); refine blk_far ?_ NB296_300.out _; exact zzb BK296⟩
              have n7_ : Aside0 (((w36.setCell ⟨gb300, 0, none⟩ (.bool ((rd_T54 ((rd_T51 l0_2 x4_1).f1) x6_2).f0))).setCell ⟨gb300, 1, none⟩ (.slice A299_1 ((rd_T54 ((rd_T51 l0_2 x4_1).f1) x6_2).f1).length c299_1)).heap[gb300]? = some (.cells #[.bool ((rd_T54 ((rd_T51 l0_2 x4_1).f1) x6_2).f0), .slice A299_1 ((rd_T54 ((rd_T51 l0_2 x4_1).f1) x6_2).f1).length c299_1] 54 (0, 0))) := ⟨by (with_reducible repeat (first | refine blk_drewN ?_ _ | refine blk_drew ?_ | refine blk_alloc ?_ _)); refine blk_put (cs := #[.bool ((rd_T54 ((rd_T51 l0_2 x4_1).f1) x6_2).f0), .slice none 0 0]) ?_ 1 _ rfl; (with_reducible repeat (first | refine blk_drewN ?_ _ | refine blk_drew ?_ | refine blk_alloc ?_ _)); refine blk_put (cs := #[.bool false, .slice none 0 0]) ?_ 0 _ rfl; exact zzb BK300⟩
              have n8_ : Aside0 (Below w.heap.size w ((w36.setCell ⟨gb300, 0, none⟩ (.bool ((rd_T54 ((rd_T51 l0_2 x4_1).f1) x6_2).f0))).setCell ⟨gb300, 1, none⟩ (.slice A299_1 ((rd_T54 ((rd_T51 l0_2 x4_1).f1) x6_2).f1).length c299_1))) := ⟨zzq⟩
              (try clear HO_295001); (try clear HO_295002); (try clear HO_297001); (try clear BK286); (try clear BK287); (try clear BK294); (try clear BK296); (try clear BK300); (try clear HB)
              generalize ((w36.setCell ⟨gb300, 0, none⟩ (.bool ((rd_T54 ((rd_T51 l0_2 x4_1).f1) x6_2).f0))).setCell ⟨gb300, 1, none⟩ (.slice A299_1 ((rd_T54 ((rd_T51 l0_2 x4_1).f1) x6_2).f1).length c299_1)) = w42 at n0_ n1_ n2_ n3_ n4_ n5_ n6_ n7_ n8_ ⊢
              have HO_295001 := n0_; have HO_295002 := n1_; have HO_297001 := n2_; have BK286 := n3_; have BK287 := n4_; have BK294 := n5_; have BK296 := n6_; have BK300 := n7_; have HB := n8_; clear n0_ n1_ n2_ n3_ n4_ n5_ n6_ n7_ n8_; have n0_ := Aside0.mk (Kd.R_drew HO_295001.out); have n1_ := Aside0.mk (Kd.R_drew HO_295002.out); have n2_ := Aside0.mk (Kd.S_drew HO_297001.out); have n3_ := Aside0.mk (blk_drew BK286.out); have n4_ := Aside0.mk (blk_drew BK287.out); have n5_ := Aside0.mk (blk_drew BK294.out); have n6_ := Aside0.mk (blk_drew BK296.out); have n7_ := Aside0.mk (blk_drew BK300.out); have n8_ := Aside0.mk (below_drew1 HB.out); clear HO_295001; clear HO_295002; clear HO_297001; clear BK286; clear BK287; clear BK294; clear BK296; clear BK300; clear HB; have HO_295001 := n0_; have HO_295002 := n1_; have HO_297001 := n2_; have BK286 := n3_; have BK287 := n4_; have BK294 := n5_; have BK296 := n6_; have BK300 := n7_; have HB := n8_; clear n0_ n1_ n2_ n3_ n4_ n5_ n6_ n7_ n8_
              refine start_ (n := 13) (S := fun w' => w'.cell? ⟨gb296, 0, none⟩ = some (.int .i64 ((rd_T51 l0_2 x4_1).f0)) ∧ w'.cell? ⟨gb296, 1, none⟩ = some (u297001) ∧ w'.cell? ⟨gb300, 0, none⟩ = some (.bool ((rd_T54 ((rd_T51 l0_2 x4_1).f1) x6_2).f0)) ∧ w'.cell? ⟨gb300, 1, none⟩ = some (.slice A299_1 ((rd_T54 ((rd_T51 l0_2 x4_1).f1) x6_2).f1).length c299_1)) (ds := [12]) #[false, false, false, false, false, false, false, false, false, false, false, false, false] (by kernel_rfl) rfl rfl ⟨(blk_cell BK296.out 0).trans rfl, (blk_cell BK296.out 1).trans rfl, (blk_cell BK300.out 0).trans rfl, (blk_cell BK300.out 1).trans rfl⟩ (fun hHeld => ?_); refine with_tabW templelaw0_CopyGrammar.tab10 templelaw0_CopyGrammar.bits10 (fun HT_ HW_ => ?_)
              generalize w42.drew = w43 at HO_295001 HO_295002 HO_297001 BK286 BK287 BK294 BK296 BK300 HB hHeld ⊢
              refine pure_ (i := 0) (N := some 49) (v := ?_) (a' := ?_) (bs 13 1) rfl rfl (any_of HT_.out (by kernel_rfl)) (fun _ _ _ h => h) (Or.inl ⟨by rfl, ?_⟩) ?_ ?_
              rotate_left
              ·intro w'
               go_simp; with_reducible rfl
              rotate_left
              ·simp only [Act.put, s1, s2, s3, i64_w, i32_w]
               rfl
              refine pure_ (i := 2) (N := some 51) (v := ?_) (a' := ?_) (bs 13 5) rfl rfl (any_of HT_.out (by kernel_rfl)) (fun _ _ _ h => h) (Or.inl ⟨by rfl, ?_⟩) ?_ ?_
              rotate_left
              ·intro w'
               go_simp; with_reducible rfl
              rotate_left
              ·simp only [Act.put, s1, s2, s3, i64_w, i32_w]
               rfl
              refine pure_ (i := 5) (N := some 54) (v := ?_) (a' := ?_) (bs 13 37) rfl rfl (any_of HT_.out (by kernel_rfl)) (fun _ _ _ h => h) (Or.inl ⟨by rfl, ?_⟩) ?_ ?_
              rotate_left
              ·intro w'
               go_simp; with_reducible rfl
              rotate_left
              ·simp only [Act.put, s1, s2, s3, i64_w, i32_w]
               rfl
              refine take_ (i := 1) (N := some 50) (v := ?_) (a' := ?_) (bs 13 39) rfl rfl (take_ofW HT_.out HW_.out (by kernel_rfl)) (fun _ _ _ h => h) (Or.inl ⟨by rfl, ?_⟩) hHeld ?_ ?_
              rotate_left
              ·rintro w' ⟨s0, s1, s2, s3⟩; go_simp; with_reducible rfl
              rotate_left
              ·simp only [Act.put, s1, s2, s3, i64_w, i32_w]
               rfl
              refine take_ (i := 3) (N := some 52) (v := ?_) (a' := ?_) (bs 13 47) rfl rfl (take_ofW HT_.out HW_.out (by kernel_rfl)) (fun _ _ _ h => h) (Or.inl ⟨by rfl, ?_⟩) hHeld ?_ ?_
              rotate_left
              ·rintro w' ⟨s0, s1, s2, s3⟩; go_simp; with_reducible rfl
              rotate_left
              ·simp only [Act.put, s1, s2, s3, i64_w, i32_w]
               rfl
              refine take_ (i := 6) (N := some 55) (v := ?_) (a' := ?_) (bs 13 111) rfl rfl (take_ofW HT_.out HW_.out (by kernel_rfl)) (fun _ _ _ h => h) (Or.inl ⟨by rfl, ?_⟩) hHeld ?_ ?_
              rotate_left
              ·rintro w' ⟨s0, s1, s2, s3⟩; go_simp; with_reducible rfl
              rotate_left
              ·simp only [Act.put, s1, s2, s3, i64_w, i32_w]
               rfl
              refine one_ (i := 4) (N := some 53) (bs 13 127) rfl rfl (one_of HT_.out (by kernel_rfl)) (by decide) (fun K hK => ?_)
              refine Kd.R_lit_step k56 _ 56 ?hg (N := 53) ?hd (xs := ([] : List (S56))) (inner := []) (ok := fun _ => True) (okp := fun _ => True) ?hr ?hp (fun _ hk => hk) trivial (Below.refl _ _) (Nat.le_refl _) (by simp) ?_; (case hd => rfl); (case hg => rfl); (case hr => first | (go_simp; done) | (go_simp; rfl)); (case hp => exact (Reps.none _ _))
              intro v302 w44 ho45 hb hg_ hnew_; clear hg_ hnew_
              (first | rw [← Ny301.out] at ho45 | (simp only [Int.reduceToNat] at ho45; rw [← Ny301.out] at ho45))
              have n0_ := Aside0.mk (Kd.R_below (zzr HO_295001.out) hb); have n1_ := Aside0.mk (Kd.R_elder' (zzr HO_295002.out) (Kd.R_base ho45) hb); have n2_ := Aside0.mk (Kd.S_elder' (zzs HO_297001.out) (Kd.R_base ho45) hb); have n3_ := Aside0.mk (Kd.R_lower ho45 (below_size zzq)); have n4_ := kb BK286 hb; have n5_ := kb BK287 hb; have n6_ := kb BK294 hb; have n7_ := Aside0.mk (blk_below (g := gb296) (o := .cells #[.int .i64 ((rd_T51 l0_2 x4_1).f0), u297001] 51 (0, 0)) (zzb BK296) hb); have n8_ := Aside0.mk (blk_below (g := gb300) (o := .cells #[.bool ((rd_T54 ((rd_T51 l0_2 x4_1).f1) x6_2).f0), .slice A299_1 ((rd_T54 ((rd_T51 l0_2 x4_1).f1) x6_2).f1).length c299_1] 54 (0, 0)) (zzb BK300) hb); have n9_ := ks HB hb; clear HO_295001; clear HO_295002; clear HO_297001; clear BK286; clear BK287; clear BK294; clear BK296; clear BK300; clear HB; have HO_295001 := n0_; have HO_295002 := n1_; have HO_297001 := n2_; have HO303 := n3_; have BK286 := n4_; have BK287 := n5_; have BK294 := n6_; have BK296 := n7_; have BK300 := n8_; have HB := n9_; clear n0_ n1_ n2_ n3_ n4_ n5_ n6_ n7_ n8_ n9_; clear hb ho45
              refine hK.out _ _ ⟨(blk_cell BK296.out 0).trans rfl, (blk_cell BK296.out 1).trans rfl, (blk_cell BK300.out 0).trans rfl, (blk_cell BK300.out 1).trans rfl⟩ (fun hHeld => ?_)
              clear hK K
              refine norm_ (a' := ?_) ?_ ?_
              rotate_left
              ·show Act.put _ (some 53) _ = _
               simp only [Act.put, s1, s2, s3, i64_w, i32_w]
               rfl
              refine one_ (i := 7) (N := some 56) (bs 13 255) rfl rfl (one_of HT_.out (by kernel_rfl)) (by decide) (fun K hK => ?_)
              refine Kd.R_append_rows_step k56 (w0 := w) w.heap.size (by rfl) (.tmp 53) (.tmp 55) 52 56 (.agg #[(.int .i64 0), (.int .i64 0), (.int .i64 0)]) 24 rfl Try.underlying52 info56 rfl (by decide) (by omega) v302 y301 ((rd_T54 ((rd_T51 l0_2 x4_1).f1) x6_2).f1) _ _ _ (fun _ => True) (fun _ => False) rfl rfl ?aO ?aR (fun _ _ h => h) (fun _ h => h.elim) ?aF ?aB ?aS ?aL ?_
              (case aR => exact zzc (Kd.C_below HR299_1.out HB.out))
              (case aB => exact zzq)
              (case aF => exact (fun _ _ => trivial))
              (case aO => exact (zzr HO303.out))
              (case aS => exact (below_size zzq))
              (case aL => have := LMc30.out; omega)
              intro v305 w46 ho hb hg hat
              rw [← Ny304.out] at ho
              have n0_ := Aside0.mk (Kd.R_over' (zzr HO_295001.out) (Kd.R_typed (zzr HO303.out)) (by decide) hg); have n1_ := Aside0.mk (Kd.R_after (ok := (fun k_ => some k_ ≠ (u297001 : Value).ownBlock ∧ k_ ≠ gb296 ∧ k_ ≠ gb300)) (zzr HO_295002.out) hg hat); have n2_ := Aside0.mk (Kd.S_after (ok := (fun k_ => k_ ≠ gb300)) (zzs HO_297001.out) hg hat); have n3_ := Aside0.mk (blk_grown (g := gb286) (o := .cells #[.int .i64 a0_0, .slice A0_1 l0_1.length c0_1, .slice (some ad295) l0_2.length c0_2] 28 (0, 0)) (zzb BK286) hg (Kd.R_ne HO303.out BK286.out (by decide))); have n4_ := Aside0.mk (blk_grown (g := gb287) (o := .cells #[.int .i64 0, .slice none 0 0, .slice none 0 0] 28 (0, 0)) (zzb BK287) hg (Kd.R_ne HO303.out BK287.out (by decide))); have n5_ := Aside0.mk (blk_grown (g := gb294) (o := .cells #[.int .i64 a0_0, .slice Ao12 y291.length co12, u295002] 28 (0, 0)) (zzb BK294) hg (Kd.R_ne HO303.out BK294.out (by decide))); have n6_ := Aside0.mk (blk_grown (g := gb296) (o := .cells #[.int .i64 ((rd_T51 l0_2 x4_1).f0), u297001] 51 (0, 0)) (zzb BK296) hg (Kd.R_ne HO303.out BK296.out (by decide))); have n7_ := Aside0.mk (blk_grown (g := gb300) (o := .cells #[.bool ((rd_T54 ((rd_T51 l0_2 x4_1).f1) x6_2).f0), .slice A299_1 ((rd_T54 ((rd_T51 l0_2 x4_1).f1) x6_2).f1).length c299_1] 54 (0, 0)) (zzb BK300) hg (Kd.R_ne HO303.out BK300.out (by decide))); have n8_ := Aside0.mk (hb); have n9_ := Aside0.mk (ho); clear HO_295001; clear HO_295002; clear HO_297001; clear BK286; clear BK287; clear BK294; clear BK296; clear BK300; clear HB; clear HO303; have HO_295001 := n0_; have HO_295002 := n1_; have HO_297001 := n2_; have BK286 := n3_; have BK287 := n4_; have BK294 := n5_; have BK296 := n6_; have BK300 := n7_; have HB := n8_; have HO306 := n9_; clear n0_ n1_ n2_ n3_ n4_ n5_ n6_ n7_ n8_ n9_; clear ho hb hg hat; obtain ⟨Ao47, co47, eo47⟩ := Kd.R_slice HO306.out
              (first | subst eo47 | (injection eo47 with f1_ f2_ f3_; have f4_ := f1_.symm; have f5_ := f3_.symm; clear f1_ f2_ f3_; subst f4_; subst f5_))
              refine hK.out _ _ ⟨(blk_cell BK296.out 0).trans rfl, (blk_cell BK296.out 1).trans rfl, (blk_cell BK300.out 0).trans rfl, (blk_cell BK300.out 1).trans rfl⟩ (fun hHeld => ?_)
              clear hK K
              refine norm_ (a' := ?_) ?_ ?_
              rotate_left
              ·show Act.put _ (some 56) _ = _
               simp only [Act.put, s1, s2, s3, i64_w, i32_w]
               rfl
              refine pure_ (i := 8) (N := some 57) (v := ?_) (a' := ?_) (bs 13 511) rfl rfl (any_of HT_.out (by kernel_rfl)) (fun _ _ _ h => h) (Or.inl ⟨by rfl, ?_⟩) ?_ ?_
              rotate_left
              ·intro w'
               go_simp; with_reducible rfl
              rotate_left
              ·simp only [Act.put, s1, s2, s3, i64_w, i32_w]
               rfl
              refine one_ (i := 9) (N := some 58) (bs 13 1023) rfl rfl (one_of HT_.out (by kernel_rfl)) (by decide) (fun K hK => ?_)
              refine value_ (w1 := ?_) (v := ?_) (by rfl) rfl ?_ ?_
              rotate_left 2
              ·go_simp
               constructor
               ·rfl
               ·rfl
              refine hK.out _ _ ⟨(blk_cell (blk_alloc BK296.out _) 0).trans rfl, (blk_cell (blk_alloc BK296.out _) 1).trans rfl, (blk_cell (blk_alloc BK300.out _) 0).trans rfl, (blk_cell (blk_alloc BK300.out _) 1).trans rfl⟩ (fun hHeld => ?_)
              clear hK K
              refine norm_ (a' := ?_) ?_ ?_
              rotate_left
              ·show Act.put _ (some 58) _ = _
               simp only [Act.put, s1, s2, s3, i64_w, i32_w]
               rfl
              refine one_ (i := 10) (N := some 59) (bs 13 2047) rfl rfl (one_of HT_.out (by kernel_rfl)) (by decide) (fun K hK => ?_)
              refine Kd.S_append_step k54 (w0 := w) w.heap.size (by rfl) (.tmp 50) (.tmp 58) 49 54 (.agg #[(.bool false), (.slice none 0 0)]) 32 rfl Try.underlying49 info54 rfl (by decide) (by omega) u297001 x297001_2 (⟨(rd_T54 ((rd_T51 l0_2 x4_1).f1) x6_2).f0, y304⟩ : S54) [.bool ((rd_T54 ((rd_T51 l0_2 x4_1).f1) x6_2).f0), .slice Ao47 y304.length co47] (fun k_ => k_ ≠ gb300) (fun k_ => some k_ = (.slice Ao47 y304.length co47 : Value).ownBlock) rfl rfl ?aP (fun k_ hk_ => ((Kd.R_mono (ok' := fun k_ => ((fun k_ => k_ ≠ gb300)) k_ ∧ some k_ ≠ (u297001 : Value).ownBlock) (Kd.R_types (Kd.R_apart' (HO306.out) (Kd.S_typed HO_297001.out) (by decide)) BK300.out (by decide)) (fun k_ hk => ⟨hk.2, hk.1.2⟩))).1 k_ hk_.symm) ?aF ?aO ?aB ?aS ?aL ?_
              (case aP => exact k54_mkM _ _ _ (⟨(rd_T54 ((rd_T51 l0_2 x4_1).f1) x6_2).f0, y304⟩ : S54) (Kd.R_mono (Kd.R_tight rfl (Kd.R_mono (ok' := fun k_ => ((fun k_ => k_ ≠ gb300)) k_ ∧ some k_ ≠ (u297001 : Value).ownBlock) (Kd.R_types (Kd.R_apart' (HO306.out) (Kd.S_typed HO_297001.out) (by decide)) BK300.out (by decide)) (fun k_ hk => ⟨hk.2, hk.1.2⟩))) (fun _ h_ => h_)))
              (case aB => exact zzq)
              (case aF => exact (fun k_ hk => Kd.freshB (g := gb300) (o := .cells #[.bool ((rd_T54 ((rd_T51 l0_2 x4_1).f1) x6_2).f0), .slice A299_1 ((rd_T54 ((rd_T51 l0_2 x4_1).f1) x6_2).f1).length c299_1] 54 (0, 0)) (zzb BK300) k_ hk))
              (case aO => exact (zzs (Kd.S_mono HO_297001.out (fun k_ hk => ⟨hk.1, fun e_ => hk.2 e_⟩))))
              (case aS => exact (below_size zzq))
              (case aL => have := LMc31.out; omega)
              intro v308 w48 ho hb hg hat
              rw [← Ny307.out] at ho
              have n0_ := Aside0.mk (Kd.R_over' (zzr HO_295001.out) (Kd.S_typed (zzs HO_297001.out)) (by decide) hg); have n1_ := Aside0.mk (Kd.R_after (ok := (fun k_ => some k_ ≠ (.slice Ao47 y304.length co47 : Value).ownBlock ∧ k_ ≠ gb296 ∧ k_ ≠ gb300)) (zzr (Kd.R_mono HO_295002.out (fun _ hk => ⟨⟨hk.2, ⟨hk.1.2.1, hk.1.2.2⟩⟩, hk.1.1⟩))) hg hat); have n2_ := Aside0.mk (blk_grown (g := gb286) (o := .cells #[.int .i64 a0_0, .slice A0_1 l0_1.length c0_1, .slice (some ad295) l0_2.length c0_2] 28 (0, 0)) (zzb BK286) hg (Kd.S_ne HO_297001.out BK286.out (by decide))); have n3_ := Aside0.mk (blk_grown (g := gb287) (o := .cells #[.int .i64 0, .slice none 0 0, .slice none 0 0] 28 (0, 0)) (zzb BK287) hg (Kd.S_ne HO_297001.out BK287.out (by decide))); have n4_ := Aside0.mk (blk_grown (g := gb294) (o := .cells #[.int .i64 a0_0, .slice Ao12 y291.length co12, u295002] 28 (0, 0)) (zzb BK294) hg (Kd.S_ne HO_297001.out BK294.out (by decide))); have n5_ := Aside0.mk (blk_grown (g := gb296) (o := .cells #[.int .i64 ((rd_T51 l0_2 x4_1).f0), u297001] 51 (0, 0)) (zzb BK296) hg (Kd.S_ne HO_297001.out BK296.out (by decide))); have n6_ := Aside0.mk (blk_grown (g := gb300) (o := .cells #[.bool ((rd_T54 ((rd_T51 l0_2 x4_1).f1) x6_2).f0), .slice A299_1 ((rd_T54 ((rd_T51 l0_2 x4_1).f1) x6_2).f1).length c299_1] 54 (0, 0)) (zzb BK300) hg (Kd.S_away HO_297001.out (fun _ hk => hk.1))); have n7_ := Aside0.mk (hb); have n8_ := Aside0.mk (ho); clear HO_295001; clear HO_295002; clear BK286; clear BK287; clear BK294; clear BK296; clear BK300; clear HB; clear HO_297001; clear HO306; have HO_295001 := n0_; have HO_295002 := n1_; have BK286 := n2_; have BK287 := n3_; have BK294 := n4_; have BK296 := n5_; have BK300 := n6_; have HB := n7_; have HO309 := n8_; clear n0_ n1_ n2_ n3_ n4_ n5_ n6_ n7_ n8_; clear ho hb hg hat; obtain ⟨Ao49, co49, eo49⟩ := Kd.S_slice HO309.out
              (first | subst eo49 | (injection eo49 with f1_ f2_ f3_; have f4_ := f1_.symm; have f5_ := f3_.symm; clear f1_ f2_ f3_; subst f4_; subst f5_))
              refine hK.out _ _ ⟨(blk_cell BK296.out 0).trans rfl, (blk_cell BK296.out 1).trans rfl, (blk_cell BK300.out 0).trans rfl, (blk_cell BK300.out 1).trans rfl⟩ (fun hHeld => ?_)
              clear hK K
              refine norm_ (a' := ?_) ?_ ?_
              rotate_left
              ·show Act.put _ (some 59) _ = _
               simp only [Act.put, s1, s2, s3, i64_w, i32_w]
               rfl
              refine pure_ (i := 11) (N := some 60) (v := ?_) (a' := ?_) (bs 13 4095) rfl rfl (any_of HT_.out (by kernel_rfl)) (fun _ _ _ h => h) (Or.inl ⟨by rfl, ?_⟩) ?_ ?_
              rotate_left
              ·intro w'
               go_simp; with_reducible rfl
              rotate_left
              ·simp only [Act.put, s1, s2, s3, i64_w, i32_w]
               rfl
              refine last_ (i := 12) (N := none) (bs 13 8191) rfl rfl (one_of HT_.out (by kernel_rfl)) (by decide) (fun K hK => ?_)
              have hs50 : w48.cell? ⟨gb296, 1, none⟩ = some (u297001) := (blk_cell BK296.out 1).trans rfl
              have hfs50 := blk_frozen BK296.out 1
              have hns50_0 := NB286_296.out; have hns50_1 := NB287_296.out; have hns50_2 := NB294_296.out; have hns50_4 := NB300_296.out; have hms50_0 := NB296_286.out; have hms50_1 := NB296_287.out; have hms50_2 := NB296_294.out; have hms50_4 := NB296_300.out
              refine skip_ (w1 := ?_) (by rfl) rfl ?_ ?_
              rotate_left
              ·go_simp; rfl
              refine hK.out _ _ ?_
              clear hK K
              refine done_ (done_of HT_.out (by kernel_rfl)) ?_
              try go_wp2
              go_roundg k2
              case measure => have := HK1.out; have := HK2.out; omega
              case rel => exact ⟨(wrap64 (x6_2 + 1)), (y307), (.slice Ao49 y307.length co49), zz0, H', ⟨by have := HK1.out; have := HK2.out; omega⟩, ⟨zzr (Kd.R_mono (Kd.R_far (p := ⟨gb296, 1, none⟩) (Kd.R_types HO_295001.out BK296.out (by decide)) (fun _ hk => hk.2) (.slice Ao49 y307.length co49)) (fun _ hk => trivial))⟩, ⟨zzr (Kd.R_mono (Kd.R_far (p := ⟨gb296, 1, none⟩) (Kd.R_mono HO_295002.out (fun k_ hk => (⟨hk, hk.1.2.1⟩ : _ ∧ k_ ≠ gb296))) (fun _ hk => hk.2) (.slice Ao49 y307.length co49)) (fun _ hk => ⟨hk.1.2, hk.1.1.2.1⟩))⟩, ⟨zzs (Kd.S_mono (Kd.S_far (p := ⟨gb296, 1, none⟩) (Kd.S_types HO309.out BK296.out (by decide)) (fun _ hk => hk.2) (.slice Ao49 y307.length co49)) (fun _ hk => trivial))⟩, ⟨by (with_reducible repeat (first | refine blk_drewN ?_ _ | refine blk_drew ?_ | refine blk_alloc ?_ _)); refine blk_far ?_ NB286_296.out _; exact zzb BK286⟩, ⟨by (with_reducible repeat (first | refine blk_drewN ?_ _ | refine blk_drew ?_ | refine blk_alloc ?_ _)); refine blk_far ?_ NB287_296.out _; exact zzb BK287⟩, ⟨by (with_reducible repeat (first | refine blk_drewN ?_ _ | refine blk_drew ?_ | refine blk_alloc ?_ _)); refine blk_far ?_ NB294_296.out _; exact zzb BK294⟩, ⟨by (with_reducible repeat (first | refine blk_drewN ?_ _ | refine blk_drew ?_ | refine blk_alloc ?_ _)); refine blk_put (cs := #[.int .i64 ((rd_T51 l0_2 x4_1).f0), u297001]) ?_ 1 _ rfl; exact zzb BK296⟩, ⟨zzq⟩⟩
             ·rw [if_neg c31] at H
              exact absurd H (by simp)
            ·rw [if_neg c30] at H
             exact absurd H (by simp)
           ·rw [if_neg c29] at H
            exact absurd H (by simp)
          ·rw [if_neg c28] at H; have c28b0 : decide (x6_2 < (((rd_T51 l0_2 x4_1).f1).length : Int)) = false := decide_eq_false c28; clear c28
           by_cases c51 : x295002_1.length < 4398046511104
           ·rw [if_pos c51] at H; have LMc51 := Aside0.mk c51; clear c51; obtain ⟨y310, hy310⟩ : ∃ y_ : List (S51), y_ = (x295002_1 ++ [(⟨((rd_T51 l0_2 x4_1).f0), x297001_2⟩ : S51)]) := ⟨_, rfl⟩
            replace H : (templelaw0_CopyGrammar.l0 k2 (wrap64 (x4_1 + 1)) a0_0 l0_1 l0_2 a0_0 y291 y310) = some (r1, r2, r3) := by first | (rw [hy310]; with_reducible exact H) | (have H2_ := (Option.bind_some _ _).symm.trans H; rw [hy310]; with_reducible exact H2_) | (have H2_ := (Option.bind_some _ _).symm.trans H; with_reducible exact H2_) | with_reducible exact H | (rw [hy310]; exact H) | exact H
            have Ny310 := Aside0.mk hy310; clear hy310; have H' := Aside0.mk H; clear H; have hnb52 := NB286_287.out; have hnc52 := NB287_286.out; have hnb53 := NB286_294.out; have hnc53 := NB294_286.out; have hnb54 := NB286_296.out; have hnc54 := NB296_286.out
            have hcz55_0 : wr.cell? ⟨gb286, 0, none⟩ = some (.int .i64 a0_0) := (blk_cell BK286.out 0).trans rfl
            have hcz55_1 : wr.cell? ⟨gb286, 1, none⟩ = some (.slice A0_1 l0_1.length c0_1) := (blk_cell BK286.out 1).trans rfl
            have hcz55_2 : wr.cell? ⟨gb286, 2, none⟩ = some (.slice (some ad295) l0_2.length c0_2) := (blk_cell BK286.out 2).trans rfl
            have hfz55_0 := blk_frozen BK286.out 0; have hfz55_1 := blk_frozen BK286.out 1; have hfz55_2 := blk_frozen BK286.out 2
            have p297 : 0 ≤ (x4_1 : Int) := of_decide_eq_true zz1
            have q297 : x4_1 < (l0_2.length : Int) := of_decide_eq_true zz1
            obtain ⟨ad297, A297_1, c297_1, e297, hx297_0, hx297_1, hl297_1, hi297_1⟩ := at_T51 HR0_2.out x4_1 p297 q297; obtain rfl : ad295 = ad297 := (by injection e297)
            replace hx297_0 := (HB.out.cell (World.block_lt_of_cell? w _ hx297_0)).trans hx297_0
            replace hx297_1 := (HB.out.cell (World.block_lt_of_cell? w _ hx297_1)).trans hx297_1
            have HR297_1 := Aside0.mk hi297_1; have HC297_1 := Aside0.mk hl297_1; clear hi297_1 hl297_1; replace p297 := eq_true p297; replace q297 := eq_true q297; have hnb56 := NB294_287.out; have hnc56 := NB287_294.out; have hnb57 := NB294_296.out; have hnc57 := NB296_294.out
            have hcz58_0 : wr.cell? ⟨gb294, 0, none⟩ = some (.int .i64 a0_0) := (blk_cell BK294.out 0).trans rfl
            have hcz58_1 : wr.cell? ⟨gb294, 1, none⟩ = some (.slice Ao12 y291.length co12) := (blk_cell BK294.out 1).trans rfl
            have hcz58_2 : wr.cell? ⟨gb294, 2, none⟩ = some (u295002) := (blk_cell BK294.out 2).trans rfl
            have hfz58_0 := blk_frozen BK294.out 0; have hfz58_1 := blk_frozen BK294.out 1; have hfz58_2 := blk_frozen BK294.out 2; have hnb59 := NB296_287.out; have hnc59 := NB287_296.out
            have hcz60_0 : wr.cell? ⟨gb296, 0, none⟩ = some (.int .i64 ((rd_T51 l0_2 x4_1).f0)) := (blk_cell BK296.out 0).trans rfl
            have hcz60_1 : wr.cell? ⟨gb296, 1, none⟩ = some (u297001) := (blk_cell BK296.out 1).trans rfl
            have hfz60_0 := blk_frozen BK296.out 0; have hfz60_1 := blk_frozen BK296.out 1; obtain ⟨Ao62, co62, eo62⟩ := Kd.S_slice HO_297001.out; subst eo62
            go_wp2_with (first | ((with_reducible refine gate_builtin (b := .append) (xs := #[.tmp 62, .tmp 64]) rfl ?_); at_builtin; refine Kd.R_append k51 (w0 := w) w.heap.size rfl (.tmp 62) (.tmp 64) 26 51 (.agg #[(.int .i64 0), (.slice none 0 0)]) 32 rfl Try.underlying26 info51 rfl (by decide) (by omega) u295002 x295002_1 (⟨((rd_T51 l0_2 x4_1).f0), x297001_2⟩ : S51) [.int .i64 ((rd_T51 l0_2 x4_1).f0), .slice Ao62 x297001_2.length co62] (fun k_ => k_ ≠ gb296) (fun k_ => ((fun k_ => k_ ≠ gb296)) k_ ∧ some k_ ≠ (u295002 : Value).ownBlock) rfl rfl ?aP (fun _ hk => hk) ?aF ?aO ?aB ?aS ?aL ?_; (case aP => exact k51_mkM _ _ _ (⟨((rd_T51 l0_2 x4_1).f0), x297001_2⟩ : S51) (Kd.R_mono (Kd.R_types (Kd.R_apart' ((Kd.S_R HO_297001.out)) (Kd.R_typed HO_295002.out) (by decide)) BK296.out (by decide)) (fun k_ hk => ⟨hk.2, hk.1.2⟩))); (case aB => exact zzq); (case aF => exact (fun k_ hk => Kd.freshB (g := gb296) (o := .cells #[.int .i64 ((rd_T51 l0_2 x4_1).f0), .slice Ao62 x297001_2.length co62] 51 (0, 0)) (zzb BK296) k_ hk)); (case aO => exact (zzr (Kd.R_mono HO_295002.out (fun _ hk => hk.2)))); (case aS => exact (below_size zzq)); (case aL => have := LMc51.out; omega); intro v311 w61 ho hb hg hat; rw [← Ny310.out] at ho; have n0_ := Aside0.mk (Kd.R_over' (zzr HO_295001.out) (Kd.R_typed (zzr HO_295002.out)) (by decide) hg); have n1_ := Aside0.mk (blk_grown (g := gb286) (o := .cells #[.int .i64 a0_0, .slice A0_1 l0_1.length c0_1, .slice (some ad295) l0_2.length c0_2] 28 (0, 0)) (zzb BK286) hg (Kd.R_ne HO_295002.out BK286.out (by decide))); have n2_ := Aside0.mk (blk_grown (g := gb287) (o := .cells #[.int .i64 0, .slice none 0 0, .slice none 0 0] 28 (0, 0)) (zzb BK287) hg (Kd.R_ne HO_295002.out BK287.out (by decide))); have n3_ := Aside0.mk (blk_grown (g := gb294) (o := .cells #[.int .i64 a0_0, .slice Ao12 y291.length co12, u295002] 28 (0, 0)) (zzb BK294) hg (Kd.R_ne HO_295002.out BK294.out (by decide))); have n4_ := Aside0.mk (blk_grown (g := gb296) (o := .cells #[.int .i64 ((rd_T51 l0_2 x4_1).f0), .slice Ao62 x297001_2.length co62] 51 (0, 0)) (zzb BK296) hg (Kd.R_away HO_295002.out (fun _ hk => hk.2))); have n5_ := Aside0.mk (hb); have n6_ := Aside0.mk (ho); clear HO_295001; clear BK286; clear BK287; clear BK294; clear BK296; clear HB; clear HO_295002; clear HO_297001; have HO_295001 := n0_; have BK286 := n1_; have BK287 := n2_; have BK294 := n3_; have BK296 := n4_; have HB := n5_; have HO312 := n6_; clear n0_ n1_ n2_ n3_ n4_ n5_ n6_; clear ho hb hg hat; obtain ⟨Ao63, co63, eo63⟩ := Kd.R_slice HO312.out; subst eo63; have hcz64_0 : w61.cell? ⟨gb294, 0, none⟩ = some (.int .i64 a0_0) := (blk_cell BK294.out 0).trans rfl; have hcz64_1 : w61.cell? ⟨gb294, 1, none⟩ = some (.slice Ao12 y291.length co12) := (blk_cell BK294.out 1).trans rfl; have hcz64_2 : w61.cell? ⟨gb294, 2, none⟩ = some (u295002) := (blk_cell BK294.out 2).trans rfl; have hfz64_0 := blk_frozen BK294.out 0; have hfz64_1 := blk_frozen BK294.out 1; have hfz64_2 := blk_frozen BK294.out 2))
            go_roundg k2
            case measure => have := HK1.out; have := HK2.out; omega
            case rel => exact ⟨(wrap64 (x4_1 + 1)), (y310), (.slice Ao63 y310.length co63), zz0, H', ⟨by have := HK1.out; have := HK2.out; omega⟩, ⟨zzr (Kd.R_mono (Kd.R_far (p := ⟨gb294, 2, none⟩) (Kd.R_types HO_295001.out BK294.out (by decide)) (fun _ hk => hk.2) (.slice Ao63 y310.length co63)) (fun _ hk => trivial))⟩, ⟨zzr (Kd.R_mono (Kd.R_far (p := ⟨gb294, 2, none⟩) (Kd.R_types HO312.out BK294.out (by decide)) (fun _ hk => hk.2) (.slice Ao63 y310.length co63)) (fun _ hk => trivial))⟩, ⟨by (with_reducible repeat (first | refine blk_drewN ?_ _ | refine blk_drew ?_ | refine blk_alloc ?_ _)); refine blk_far ?_ NB286_294.out _; exact zzb BK286⟩, ⟨by (with_reducible repeat (first | refine blk_drewN ?_ _ | refine blk_drew ?_ | refine blk_alloc ?_ _)); refine blk_far ?_ NB287_294.out _; exact zzb BK287⟩, ⟨by (with_reducible repeat (first | refine blk_drewN ?_ _ | refine blk_drew ?_ | refine blk_alloc ?_ _)); refine blk_put (cs := #[.int .i64 a0_0, .slice Ao12 y291.length co12, u295002]) ?_ 2 _ rfl; exact zzb BK294⟩, ⟨zzq⟩⟩
           ·rw [if_neg c51] at H
            exact absurd H (by simp)
         ·rw [if_neg c27] at H
          exact absurd H (by simp)
        ·rw [if_neg c26] at H
         exact absurd H (by simp)
     ·rw [if_neg c17] at H
      exact absurd H (by simp)
    ·rw [if_neg c16] at H; have c16b0 : decide (x4_1 < (l0_2.length : Int)) = false := decide_eq_false c16; clear c16
     simp only [Option.some.injEq, Prod.mk.injEq] at H
     obtain ⟨rfl, rfl, rfl⟩ := H; have hnb65 := NB286_287.out; have hnc65 := NB287_286.out; have hnb66 := NB286_294.out; have hnc66 := NB294_286.out
     have hcz67_0 : wr.cell? ⟨gb286, 0, none⟩ = some (.int .i64 a0_0) := (blk_cell BK286.out 0).trans rfl
     have hcz67_1 : wr.cell? ⟨gb286, 1, none⟩ = some (.slice A0_1 l0_1.length c0_1) := (blk_cell BK286.out 1).trans rfl
     have hcz67_2 : wr.cell? ⟨gb286, 2, none⟩ = some (.slice A0_2 l0_2.length c0_2) := (blk_cell BK286.out 2).trans rfl
     have hfz67_0 := blk_frozen BK286.out 0; have hfz67_1 := blk_frozen BK286.out 1; have hfz67_2 := blk_frozen BK286.out 2; have hnb68 := NB294_287.out; have hnc68 := NB287_294.out
     have hcz69_0 : wr.cell? ⟨gb294, 0, none⟩ = some (.int .i64 a0_0) := (blk_cell BK294.out 0).trans rfl
     have hcz69_1 : wr.cell? ⟨gb294, 1, none⟩ = some (.slice Ao12 y291.length co12) := (blk_cell BK294.out 1).trans rfl
     have hcz69_2 : wr.cell? ⟨gb294, 2, none⟩ = some (u295002) := (blk_cell BK294.out 2).trans rfl
     have hfz69_0 := blk_frozen BK294.out 0; have hfz69_1 := blk_frozen BK294.out 1; have hfz69_2 := blk_frozen BK294.out 2
     have hcz70_0 : wr.cell? ⟨gb287, 0, none⟩ = some (.int .i64 0) := (blk_cell BK287.out 0).trans rfl
     have hcz70_1 : wr.cell? ⟨gb287, 1, none⟩ = some (.slice none 0 0) := (blk_cell BK287.out 1).trans rfl
     have hcz70_2 : wr.cell? ⟨gb287, 2, none⟩ = some (.slice none 0 0) := (blk_cell BK287.out 2).trans rfl
     have hfz70_0 := blk_frozen BK287.out 0; have hfz70_1 := blk_frozen BK287.out 1; have hfz70_2 := blk_frozen BK287.out 2; obtain ⟨Ao71, co71, eo71⟩ := Kd.R_slice HO_295002.out; subst eo71; go_wp2
     refine bodyPost_ret (results_cell_row rfl _ _ gb287 28 #[.int .i64 a0_0, .slice Ao12 y291.length co12, .slice Ao71 x295002_1.length co71] (0, 0) _ rfl (by (with_reducible repeat (first | refine blk_drewN ?_ _ | refine blk_drew ?_ | refine blk_alloc ?_ _)); refine blk_put (cs := #[.int .i64 a0_0, .slice Ao12 y291.length co12, .slice none 0 0]) ?_ 2 _ rfl; (with_reducible repeat (first | refine blk_drewN ?_ _ | refine blk_drew ?_ | refine blk_alloc ?_ _)); refine blk_put (cs := #[.int .i64 a0_0, .slice none 0 0, .slice none 0 0]) ?_ 1 _ rfl; (with_reducible repeat (first | refine blk_drewN ?_ _ | refine blk_drew ?_ | refine blk_alloc ?_ _)); refine blk_put (cs := #[.int .i64 0, .slice none 0 0, .slice none 0 0]) ?_ 0 _ rfl; exact zzb BK287) Try.underlying28 rfl (by kernel_rfl)) rfl ?_
     exact ⟨_, _, by first | rfl | (simp [errW_none, errW_some] <;> rfl) | (simp [*, errW_none, errW_some] <;> rfl), zzr (Kd.R_mono (Kd.R_far (p := ⟨gb287, 2, none⟩) (Kd.R_far (p := ⟨gb287, 1, none⟩) (Kd.R_far (p := ⟨gb287, 0, none⟩) (Kd.R_types HO_295001.out BK287.out (by decide)) (fun _ hk => hk.2) (.int .i64 a0_0)) (fun _ hk => hk.2) (.slice Ao12 y291.length co12)) (fun _ hk => hk.2) (.slice Ao71 x295002_1.length co71)) (fun _ hk => trivial)), zzr (Kd.R_mono (Kd.R_far (p := ⟨gb287, 2, none⟩) (Kd.R_far (p := ⟨gb287, 1, none⟩) (Kd.R_far (p := ⟨gb287, 0, none⟩) (Kd.R_types HO_295002.out BK287.out (by decide)) (fun _ hk => hk.2) (.int .i64 a0_0)) (fun _ hk => hk.2) (.slice Ao12 y291.length co12)) (fun _ hk => hk.2) (.slice Ao71 x295002_1.length co71)) (fun _ hk => trivial)), zzq⟩
 ·rw [if_neg c2] at H
  exact absurd H (by simp)

end Go.Proofs.Ytdjnpgigdchfkaa.PBS
