-- written by a program of the session's (wip/myprint.py) out of the translation
import Derived.Test.YtdjnpgigdchfkaaPBSx0
import Derived.Test.YtdjnpgigdchfkaaPBSx6
namespace Go.Proofs.Ytdjnpgigdchfkaa.PBS
open Go.RowKit Go.Proofs.YtdjnpgigdchfkaaW.PrintWords Go.Proofs.YtdjnpgigdchfkaaW.PrintLast Go.Proofs.YtdjnpgigdchfkaaW.PrintMore
attribute [local go_sem] max2_int min2_int max_two min_two max_three min_three max_four min_four   -- for this text's walks alone
set_option linter.unusedVariables false
set_option linter.unusedSimpArgs false

/-! ### templeref1_symbols: function 31 -/
mutual
def templeref1_symbols.l0 : Nat → List (S61) → List ByteArray → List (S56) → Int → Option ((List (S56)))
 | 0, _, _, _, _ => none
 | k + 1, x0, x1, x5, x6 => if x6 < (x0.length : Int) then (templeref1_symbols.j1 k x0 x1 x5 x6 (decide ((x5.length : Int) ≤ 1024))) else (templeref1_symbols.j1 k x0 x1 x5 x6 false)
def templeref1_symbols.j1 : Nat → List (S61) → List ByteArray → List (S56) → Int → Bool → Option ((List (S56)))
 | 0, _, _, _, _, _ => none
 | k + 1, x0, x1, x5, x6, x17 => if x17 = true then (if 0 ≤ x6 then (if x6 < (x0.length : Int) then (if ((rd_T61 x0 x6).f0) = 0 then ((templeref1_find.f k x1 ((rd_T61 x0 x6).f1)).bind fun t239 => (if x5.length < 5864062014805 then (templeref1_symbols.l0 k x0 x1 (x5 ++ [(⟨t239, 0, 0⟩ : S56)]) (wrap64 (x6 + 1))) else (none))) else (if ((rd_T61 x0 x6).f0) = 2 then (if x5.length < 5864062014805 then (templeref1_symbols.l0 k x0 x1 (x5 ++ [(⟨(-1), (rd_T61 x0 x6).f2, (rd_T61 x0 x6).f3⟩ : S56)]) (wrap64 (x6 + 1))) else (none)) else (if ((rd_T61 x0 x6).f0) = 1 then (templeref1_symbols.l1 k x0 x1 x5 x6 0 ((rd_T61 x0 x6).f0) ((rd_T61 x0 x6).f1) ((rd_T61 x0 x6).f2) ((rd_T61 x0 x6).f3)) else (if x5.length < 5864062014805 then (templeref1_symbols.l0 k x0 x1 (x5 ++ [(⟨(-2), 0, 0⟩ : S56)]) (wrap64 (x6 + 1))) else (none))))) else (none)) else (none)) else (some x5)
def templeref1_symbols.l1 : Nat → List (S61) → List ByteArray → List (S56) → Int → Int → Int → ByteArray → Int → Int → Option ((List (S56)))
 | 0, _, _, _, _, _, _, _, _, _ => none
 | k + 1, x0, x1, x5, x6, x8, x239000, x239001, x239002, x239003 => if x8 < (x239001.size : Int) then (if 0 ≤ x8 then (if x5.length < 5864062014805 then (templeref1_symbols.l1 k x0 x1 (x5 ++ [(⟨(-1), wrap64 (bt x239001 x8), wrap64 (bt x239001 x8)⟩ : S56)]) x6 (wrap64 (x8 + 1)) x239000 x239001 x239002 x239003) else (none)) else (none)) else (templeref1_symbols.l0 k x0 x1 x5 (wrap64 (x6 + 1)))
end
def templeref1_symbols.f (k : Nat) (l0 : List (S61)) (l1 : List ByteArray) : Option ((List (S56))) := templeref1_symbols.l0 k l0 l1 ([] : List (S56)) 0
theorem templeref1_symbols.mono_l : ∀ k, (∀ y0 y1 y2 y3, LeO (templeref1_symbols.l0 k y0 y1 y2 y3) (templeref1_symbols.l0 (k + 1) y0 y1 y2 y3)) ∧ (∀ y0 y1 y2 y3 y4, LeO (templeref1_symbols.j1 k y0 y1 y2 y3 y4) (templeref1_symbols.j1 (k + 1) y0 y1 y2 y3 y4)) ∧ (∀ y0 y1 y2 y3 y4 y5 y6 y7 y8, LeO (templeref1_symbols.l1 k y0 y1 y2 y3 y4 y5 y6 y7 y8) (templeref1_symbols.l1 (k + 1) y0 y1 y2 y3 y4 y5 y6 y7 y8))
 | 0 => ⟨fun _ _ _ _ r h => by simp [templeref1_symbols.l0] at h, fun _ _ _ _ _ r h => by simp [templeref1_symbols.j1] at h, fun _ _ _ _ _ _ _ _ _ r h => by simp [templeref1_symbols.l1] at h⟩
 | k + 1 => by
  obtain ⟨ih0, ih1, ih2⟩ := templeref1_symbols.mono_l k
  refine ⟨?_, ?_, ?_⟩
  ·intro y0 y1 y2 y3
   unfold templeref1_symbols.l0
   repeat' first
   | (with_reducible exact ih0 _ _ _ _)
   | (with_reducible exact ih1 _ _ _ _ _)
   | (with_reducible exact ih2 _ _ _ _ _ _ _ _ _)
   | (with_reducible exact templeref1_find.mono _ _ _)
   | (with_reducible exact LeO.refl _)
   | (with_reducible exact LeO.none _)
   | (with_reducible refine LeO.ite ?_ ?_)
   | (with_reducible refine LeO.bind ?_ (fun _ => ?_))
   | exact ih0 _ _ _ _
   | exact ih1 _ _ _ _ _
   | exact ih2 _ _ _ _ _ _ _ _ _
   | exact templeref1_find.mono _ _ _
   | exact LeO.none _
   | refine LeO.ite ?_ ?_
   | refine LeO.bind ?_ (fun _ => ?_)
  ·intro y0 y1 y2 y3 y4
   unfold templeref1_symbols.j1
   repeat' first
   | (with_reducible exact ih0 _ _ _ _)
   | (with_reducible exact ih1 _ _ _ _ _)
   | (with_reducible exact ih2 _ _ _ _ _ _ _ _ _)
   | (with_reducible exact templeref1_find.mono _ _ _)
   | (with_reducible exact LeO.refl _)
   | (with_reducible exact LeO.none _)
   | (with_reducible refine LeO.ite ?_ ?_)
   | (with_reducible refine LeO.bind ?_ (fun _ => ?_))
   | exact ih0 _ _ _ _
   | exact ih1 _ _ _ _ _
   | exact ih2 _ _ _ _ _ _ _ _ _
   | exact templeref1_find.mono _ _ _
   | exact LeO.none _
   | refine LeO.ite ?_ ?_
   | refine LeO.bind ?_ (fun _ => ?_)
  ·intro y0 y1 y2 y3 y4 y5 y6 y7 y8
   unfold templeref1_symbols.l1
   repeat' first
   | (with_reducible exact ih0 _ _ _ _)
   | (with_reducible exact ih1 _ _ _ _ _)
   | (with_reducible exact ih2 _ _ _ _ _ _ _ _ _)
   | (with_reducible exact templeref1_find.mono _ _ _)
   | (with_reducible exact LeO.refl _)
   | (with_reducible exact LeO.none _)
   | (with_reducible refine LeO.ite ?_ ?_)
   | (with_reducible refine LeO.bind ?_ (fun _ => ?_))
   | exact ih0 _ _ _ _
   | exact ih1 _ _ _ _ _
   | exact ih2 _ _ _ _ _ _ _ _ _
   | exact templeref1_find.mono _ _ _
   | exact LeO.none _
   | refine LeO.ite ?_ ?_
   | refine LeO.bind ?_ (fun _ => ?_)
theorem templeref1_symbols.mono : ∀ a0 a1 k, LeO (templeref1_symbols.f k a0 a1) (templeref1_symbols.f (k + 1) a0 a1) := by
 intro a0 a1 k
 obtain ⟨ih0, ih1, ih2⟩ := templeref1_symbols.mono_l k
 unfold templeref1_symbols.f
 repeat' first
   | (with_reducible exact ih0 _ _ _ _)
   | (with_reducible exact ih1 _ _ _ _ _)
   | (with_reducible exact ih2 _ _ _ _ _ _ _ _ _)
   | (with_reducible exact templeref1_find.mono _ _ _)
   | (with_reducible exact LeO.refl _)
   | (with_reducible exact LeO.none _)
   | (with_reducible refine LeO.ite ?_ ?_)
   | (with_reducible refine LeO.bind ?_ (fun _ => ?_))
   | exact ih0 _ _ _ _
   | exact ih1 _ _ _ _ _
   | exact ih2 _ _ _ _ _ _ _ _ _
   | exact templeref1_find.mono _ _ _
   | exact LeO.none _
   | refine LeO.ite ?_ ?_
   | refine LeO.bind ?_ (fun _ => ?_)
def templeref1_symbols.T16 : Bool × List (List Nat × List Nat) := (true, [([], []), ([], []), ([1], [1]), ([], []), ([2, 3], [2, 3]), ([4], [4]), ([], []), ([6], [6]), ([], []), ([7, 8], [7, 8]), ([9], [9]), ([5, 10], [5, 10]), ([11], [11]), ([0, 12], [0, 12]), ([13, 13, 0, 1, 2, 3, 4, 5, 6, 7, 8, 9, 10, 11, 12, 13], [0, 13])])
def templeref1_symbols.B16 : List Nat := [0, 0, 2, 0, 14, 30, 0, 64, 0, 448, 960, 2046, 4094, 8191, 16383]
theorem templeref1_symbols.tab16 : rtab .any (opsOf Try.f31 16) = templeref1_symbols.T16 := by kernel_rfl
theorem templeref1_symbols.bits16 : waitsOk templeref1_symbols.T16.2 templeref1_symbols.B16 = true := by kernel_rfl
set_option maxHeartbeats 8000000 in
set_option maxRecDepth 100000 in
theorem templeref1_symbols.calls (k : Nat) (A0 : Option Addr) (c0 : Nat) (l0 : List (S61)) (A1 : Option Addr) (c1 : Nat) (l1 : List ByteArray) (r : List (S56)) (w : World) (hr0 : Kd.C k61 w A0 l0.length l0) (hc0 : l0.length ≤ c0) (hr1 : Kd.C Kd.string w A1 l1.length l1) (hc1 : l1.length ≤ c1) (h : templeref1_symbols.f k l0 l1 = some r) :
  Calls Try.prog 31 #[.slice A0 l0.length c0, .slice A1 l1.length c1] w fun e w' => ∃ v0_ : Value, e = .returned (v0_) ∧ Kd.R k56 56 w' w.heap.size (fun _ => True) v0_ r ∧ Below w.heap.size w w' := by
 have hu61 := Try.underlying61; have hu56 := Try.underlying56; have HR0 := Aside0.mk hr0; have HC0 := Aside0.mk hc0; clear hr0 hc0; have HR1 := Aside0.mk hr1; have HC1 := Aside0.mk hc1; clear hr1 hc1
 have HB := Aside0.mk (Below.refl w.heap.size w)
 have H : (templeref1_symbols.l0 k l0 l1 ([] : List (S56)) 0) = some r := h
 clear h; have H' := Aside0.mk H; clear H
 go_enter Try.func31, Try.ntmps31
 go_wp2
 go_loopg [5, 6] k (fun kq v5 v6 w' => ∃ (x5_1 : List (S56)) (x6_1 : Int), v6 = .int .i64 x6_1 ∧ Aside0 (templeref1_symbols.l0 kq l0 l1 x5_1 x6_1 = some r) ∧ Aside0 (kq ≤ k) ∧ Aside0 (Kd.R k56 56 w' w.heap.size (fun _ => True) v5 x5_1) ∧ Aside0 (Below w.heap.size w w'))
 case atStart => exact ⟨(([] : List (S56))), (0), zz0, H', ⟨Nat.le_refl _⟩, ⟨by first | exact Kd.R_nil _ _ _ _ _ | exact Kd.N_nil _ _ _ _ _ | exact Kd.V_nil _ _ _ _ _ | exact Kd.Q_nil _ _ _ _ _ | exact Kd.S_nil _ _ _ _ _⟩, ⟨zzq⟩⟩
 case round =>
  clear H'; (try clear c1); (try clear p2); obtain ⟨x5_1, x6_1, rfl, HA, HK1, HO_5, HB⟩ := hrel
  cases gk with
  | zero => exact absurd HA.out (by simp [templeref1_symbols.l0])
  | succ k1 =>
   have H := HA.out; clear HA
   simp only [templeref1_symbols.l0] at H
   have HC3 := Aside0.mk H; clear H
   go_upto_region 3 with (fail)
   go_cut [17] (fun v17 wc => ∃ (kq : Nat) (x17_2 : Bool), v17 = .bool x17_2 ∧ Aside0 (templeref1_symbols.j1 kq l0 l1 x5_1 x6_1 x17_2 = some r) ∧ Aside0 (kq ≤ k1) ∧ Aside0 (Kd.R k56 56 wc w.heap.size (fun _ => True) u5 x5_1) ∧ Aside0 (Below w.heap.size w wc))
   case first =>
    have H := HC3.out; clear HC3
    by_cases c4 : x6_1 < (l0.length : Int)
    ·rw [if_pos c4] at H; have c4b0 : decide (x6_1 < (l0.length : Int)) = true := decide_eq_true c4; clear c4
     (first | rw [c4b0] | (simp only [i64_w, i32_w]; rw [c4b0]) | skip)
     have H' := Aside0.mk H; clear H; obtain ⟨Ao5, co5, eo5⟩ := Kd.R_slice HO_5.out; subst eo5; go_wp2
     go_meet
     case rel => exact ⟨_, (decide ((x5_1.length : Int) ≤ 1024)), zz0, H', ⟨by have := HK1.out; first | omega | exact Nat.le_refl _⟩, ⟨zzr HO_5.out⟩, ⟨zzq⟩⟩
    ·rw [if_neg c4] at H; have c4b0 : decide (x6_1 < (l0.length : Int)) = false := decide_eq_false c4; clear c4
     (first | rw [c4b0] | (simp only [i64_w, i32_w]; rw [c4b0]) | skip)
     have H' := Aside0.mk H; clear H; go_wp2
     go_meet
     case rel => exact ⟨_, (false), zz0, H', ⟨by have := HK1.out; first | omega | exact Nat.le_refl _⟩, ⟨zzr HO_5.out⟩, ⟨zzq⟩⟩
   case rest =>
    clear HC3; (try clear c1); (try clear p2); (try clear c3); (try clear c4); (try clear c4b0); (try clear p2); obtain ⟨kq, x17_2, rfl, HA, HJ2, HO_5, HB⟩ := hcut
    cases kq with
    | zero => exact absurd HA.out (by simp [templeref1_symbols.j1])
    | succ kj2 =>
     have H := HA.out; clear HA
     simp only [templeref1_symbols.j1] at H
     by_cases c6 : x17_2 = true
     ·subst c6; have H1 := H
      rw [if_pos rfl] at H1
      clear H; have H := H1; clear H1
      by_cases c7 : 0 ≤ x6_1
      ·rw [if_pos c7] at H; have c7b0 : decide (0 ≤ x6_1) = true := decide_eq_true c7; clear c7
       by_cases c8 : x6_1 < (l0.length : Int)
       ·rw [if_pos c8] at H; have c8b0 : decide (x6_1 < (l0.length : Int)) = true := decide_eq_true c8; clear c8
        by_cases c9 : ((rd_T61 l0 x6_1).f0) = 0
        ·rw [if_pos c9] at H; have c9b0 : (((rd_T61 l0 x6_1).f0) == 0) = true := beq_iff_eq.mpr c9; have c9b1 : (((rd_T61 l0 x6_1).f0) != 0) = false := bne_eq_false_iff_eq.mpr c9; clear c9; replace H := Option.bind_eq_some_iff.mp H; obtain ⟨t239, A100, H⟩ := H
         replace H : (if x5_1.length < 5864062014805 then (templeref1_symbols.l0 kj2 l0 l1 (x5_1 ++ [(⟨t239, 0, 0⟩ : S56)]) (wrap64 (x6_1 + 1))) else (none)) = some r := H
         have A10 := Aside0.mk A100; clear A100
         by_cases c11 : x5_1.length < 5864062014805
         ·rw [if_pos c11] at H; have LMc11 := Aside0.mk c11; clear c11; obtain ⟨y240, hy240⟩ : ∃ y_ : List (S56), y_ = (x5_1 ++ [(⟨t239, 0, 0⟩ : S56)]) := ⟨_, rfl⟩
          replace H : (templeref1_symbols.l0 kj2 l0 l1 y240 (wrap64 (x6_1 + 1))) = some r := by first | (rw [hy240]; with_reducible exact H) | (have H2_ := (Option.bind_some _ _).symm.trans H; rw [hy240]; with_reducible exact H2_) | (have H2_ := (Option.bind_some _ _).symm.trans H; with_reducible exact H2_) | with_reducible exact H | (rw [hy240]; exact H) | exact H
          have Ny240 := Aside0.mk hy240; clear hy240; have H' := Aside0.mk H; clear H
          have p237 : 0 ≤ (x6_1 : Int) := of_decide_eq_true zz1
          have q237 : x6_1 < (l0.length : Int) := of_decide_eq_true zz1
          obtain ⟨ad237, e237, hx237_0, hx237_1, hx237_2, hx237_3⟩ := at_T61 HR0.out x6_1 p237 q237; cases e237
          replace hx237_0 := (HB.out.cell (World.block_lt_of_cell? w _ hx237_0)).trans hx237_0
          replace hx237_1 := (HB.out.cell (World.block_lt_of_cell? w _ hx237_1)).trans hx237_1
          replace hx237_2 := (HB.out.cell (World.block_lt_of_cell? w _ hx237_2)).trans hx237_2
          replace hx237_3 := (HB.out.cell (World.block_lt_of_cell? w _ hx237_3)).trans hx237_3
          replace p237 := eq_true p237; replace q237 := eq_true q237
          go_wp2_with (first | ((with_reducible refine gate_dst (N := 7) rfl ?_); (try (refine gate_guard (by rfl) ?_; dsimp only)); refine box_event (by rfl) (N := 7) (by rfl) (cs := #[.int .i64 0, .string (⟨#[]⟩ : ByteArray), .int .i64 0, .int .i64 0]) (t := 61) zzh ?_; intro gb238 hg w12 hbox hb; have n0_ := Aside0.mk (Kd.R_below (zzr HO_5.out) hb); have n1_ := Aside0.mk (below_step zzq hb); have n2_ := Aside0.mk (hbox); have n3_ := Aside0.mk ((zzg hg zzq)); have n4_ := Aside0.mk ((zzg hg zzq)); clear HO_5; clear HB; have HO_5 := n0_; have HB := n1_; have BK238 := n2_; have GW238 := n3_; have GE238 := n4_; clear n0_ n1_ n2_ n3_ n4_; clear hb hbox hg; have hcz13_0 : w12.cell? ⟨gb238, 0, none⟩ = some (.int .i64 0) := (blk_cell BK238.out 0).trans rfl; have hcz13_1 : w12.cell? ⟨gb238, 1, none⟩ = some (.string (⟨#[]⟩ : ByteArray)) := (blk_cell BK238.out 1).trans rfl; have hcz13_2 : w12.cell? ⟨gb238, 2, none⟩ = some (.int .i64 0) := (blk_cell BK238.out 2).trans rfl; have hcz13_3 : w12.cell? ⟨gb238, 3, none⟩ = some (.int .i64 0) := (blk_cell BK238.out 3).trans rfl; have hfz13_0 := blk_frozen BK238.out 0; have hfz13_1 := blk_frozen BK238.out 1; have hfz13_2 := blk_frozen BK238.out 2; have hfz13_3 := blk_frozen BK238.out 3) | ((with_reducible refine gate_callee (f := 28) rfl ?_); refine goesL_ (some 36) rfl rfl Try.func28 (by kernel_rfl) rfl #[.slice A1 l1.length c1, .string ((rd_T61 l0 x6_1).f1)] rfl zz2 ?_; (with_reducible refine (templeref1_find.calls kj2 _ _ l1 ((rd_T61 l0 x6_1).f1) t239 _ ?side1 ?side2 A10.out).mono ?_); (case side1 => exact Kd.C_below HR1.out zzq); (case side2 => exact HC1.out); rintro e w' ⟨rfl, ⟨nd, rfl⟩⟩; refine ⟨_, rfl, ?_⟩) | ((with_reducible refine gate_builtin (b := .append) (xs := #[.tmp 32, .tmp 38]) rfl ?_); (try (refine gate_guard (by rfl) ?_; dsimp only)); at_builtin; refine Kd.R_append k56 (w0 := w) w.heap.size rfl (.tmp 32) (.tmp 38) 52 56 (.agg #[(.int .i64 0), (.int .i64 0), (.int .i64 0)]) 24 rfl Try.underlying52 info56 rfl (by decide) (by omega) u5 x5_1 (⟨t239, 0, 0⟩ : S56) [.int .i64 t239, .int .i64 0, .int .i64 0] (fun _ => True) (fun _ => False) rfl (by first | (go_simp; done) | (go_simp; rfl)) ?aP (fun _ hk => hk.elim) ?aF ?aO ?aB ?aS ?aL ?_; (case aP => exact k56_mkM _ _ _ (⟨t239, 0, 0⟩ : S56)); (case aB => exact zzq); (case aF => exact (fun _ _ => trivial)); (case aO => exact (zzr (Kd.R_mono (Kd.R_far (p := ⟨gb238, 3, none⟩) (Kd.R_far (p := ⟨gb238, 2, none⟩) (Kd.R_far (p := ⟨gb238, 1, none⟩) (Kd.R_far (p := ⟨gb238, 0, none⟩) (Kd.R_types HO_5.out BK238.out (by decide)) (fun _ hk => hk.2) (.int .i64 ((rd_T61 l0 x6_1).f0))) (fun _ hk => hk.2) (.string ((rd_T61 l0 x6_1).f1))) (fun _ hk => hk.2) (.int .i64 ((rd_T61 l0 x6_1).f2))) (fun _ hk => hk.2) (.int .i64 ((rd_T61 l0 x6_1).f3))) (fun _ hk => trivial)))); (case aS => exact (below_size zzq)); (case aL => have := LMc11.out; omega); intro v241 w14 ho hb hg hat; rw [← Ny240.out] at ho; have n0_ := Aside0.mk (blk_grown (g := gb238) (o := .cells #[.int .i64 ((rd_T61 l0 x6_1).f0), .string ((rd_T61 l0 x6_1).f1), .int .i64 ((rd_T61 l0 x6_1).f2), .int .i64 ((rd_T61 l0 x6_1).f3)] 61 (0, 0)) (by (with_reducible repeat (first | refine blk_drewN ?_ _ | refine blk_drew ?_ | refine blk_alloc ?_ _)); refine blk_put (cs := #[.int .i64 ((rd_T61 l0 x6_1).f0), .string ((rd_T61 l0 x6_1).f1), .int .i64 ((rd_T61 l0 x6_1).f2), .int .i64 0]) ?_ 3 _ rfl; (with_reducible repeat (first | refine blk_drewN ?_ _ | refine blk_drew ?_ | refine blk_alloc ?_ _)); refine blk_put (cs := #[.int .i64 ((rd_T61 l0 x6_1).f0), .string ((rd_T61 l0 x6_1).f1), .int .i64 0, .int .i64 0]) ?_ 2 _ rfl; (with_reducible repeat (first | refine blk_drewN ?_ _ | refine blk_drew ?_ | refine blk_alloc ?_ _)); refine blk_put (cs := #[.int .i64 ((rd_T61 l0 x6_1).f0), .string (⟨#[]⟩ : ByteArray), .int .i64 0, .int .i64 0]) ?_ 1 _ rfl; (with_reducible repeat (first | refine blk_drewN ?_ _ | refine blk_drew ?_ | refine blk_alloc ?_ _)); refine blk_put (cs := #[.int .i64 0, .string (⟨#[]⟩ : ByteArray), .int .i64 0, .int .i64 0]) ?_ 0 _ rfl; exact zzb BK238) hg (Kd.R_ne HO_5.out BK238.out (by decide))); have n1_ := Aside0.mk (hb); have n2_ := Aside0.mk (ho); clear BK238; clear HB; clear HO_5; have BK238 := n0_; have HB := n1_; have HO242 := n2_; clear n0_ n1_ n2_; clear ho hb hg hat))
          go_roundg kj2
          case measure => have := HK1.out; have := HJ2.out; omega
          case rel => exact ⟨(y240), (wrap64 (x6_1 + 1)), zz0, H', ⟨by have := HK1.out; have := HJ2.out; omega⟩, ⟨zzr HO242.out⟩, ⟨zzq⟩⟩
         ·rw [if_neg c11] at H
          exact absurd H (by simp)
        ·rw [if_neg c9] at H; have c9b0 : (((rd_T61 l0 x6_1).f0) == 0) = false := beq_eq_false_iff_ne.mpr c9; have c9b1 : (((rd_T61 l0 x6_1).f0) != 0) = true := bne_iff_ne.mpr c9
         by_cases c15 : ((rd_T61 l0 x6_1).f0) = 2
         ·rw [if_pos c15] at H; have c15b0 : (((rd_T61 l0 x6_1).f0) == 2) = true := beq_iff_eq.mpr c15; have c15b1 : (((rd_T61 l0 x6_1).f0) != 2) = false := bne_eq_false_iff_eq.mpr c15; clear c15
          by_cases c16 : x5_1.length < 5864062014805
          ·rw [if_pos c16] at H; have LMc16 := Aside0.mk c16; clear c16; obtain ⟨y243, hy243⟩ : ∃ y_ : List (S56), y_ = (x5_1 ++ [(⟨(-1), (rd_T61 l0 x6_1).f2, (rd_T61 l0 x6_1).f3⟩ : S56)]) := ⟨_, rfl⟩
           replace H : (templeref1_symbols.l0 kj2 l0 l1 y243 (wrap64 (x6_1 + 1))) = some r := by first | (rw [hy243]; with_reducible exact H) | (have H2_ := (Option.bind_some _ _).symm.trans H; rw [hy243]; with_reducible exact H2_) | (have H2_ := (Option.bind_some _ _).symm.trans H; with_reducible exact H2_) | with_reducible exact H | (rw [hy243]; exact H) | exact H
           have Ny243 := Aside0.mk hy243; clear hy243; have H' := Aside0.mk H; clear H
           have p237 : 0 ≤ (x6_1 : Int) := of_decide_eq_true zz1
           have q237 : x6_1 < (l0.length : Int) := of_decide_eq_true zz1
           obtain ⟨ad237, e237, hx237_0, hx237_1, hx237_2, hx237_3⟩ := at_T61 HR0.out x6_1 p237 q237; cases e237
           replace hx237_0 := (HB.out.cell (World.block_lt_of_cell? w _ hx237_0)).trans hx237_0
           replace hx237_1 := (HB.out.cell (World.block_lt_of_cell? w _ hx237_1)).trans hx237_1
           replace hx237_2 := (HB.out.cell (World.block_lt_of_cell? w _ hx237_2)).trans hx237_2
           replace hx237_3 := (HB.out.cell (World.block_lt_of_cell? w _ hx237_3)).trans hx237_3
           replace p237 := eq_true p237; replace q237 := eq_true q237
           go_wp2_with (first | ((with_reducible refine gate_dst (N := 7) rfl ?_); (try (refine gate_guard (by rfl) ?_; dsimp only)); refine box_event (by rfl) (N := 7) (by rfl) (cs := #[.int .i64 0, .string (⟨#[]⟩ : ByteArray), .int .i64 0, .int .i64 0]) (t := 61) zzh ?_; intro gb238 hg w17 hbox hb; have n0_ := Aside0.mk (Kd.R_below (zzr HO_5.out) hb); have n1_ := Aside0.mk (below_step zzq hb); have n2_ := Aside0.mk (hbox); have n3_ := Aside0.mk ((zzg hg zzq)); have n4_ := Aside0.mk ((zzg hg zzq)); clear HO_5; clear HB; have HO_5 := n0_; have HB := n1_; have BK238 := n2_; have GW238 := n3_; have GE238 := n4_; clear n0_ n1_ n2_ n3_ n4_; clear hb hbox hg; have hcz18_0 : w17.cell? ⟨gb238, 0, none⟩ = some (.int .i64 0) := (blk_cell BK238.out 0).trans rfl; have hcz18_1 : w17.cell? ⟨gb238, 1, none⟩ = some (.string (⟨#[]⟩ : ByteArray)) := (blk_cell BK238.out 1).trans rfl; have hcz18_2 : w17.cell? ⟨gb238, 2, none⟩ = some (.int .i64 0) := (blk_cell BK238.out 2).trans rfl; have hcz18_3 : w17.cell? ⟨gb238, 3, none⟩ = some (.int .i64 0) := (blk_cell BK238.out 3).trans rfl; have hfz18_0 := blk_frozen BK238.out 0; have hfz18_1 := blk_frozen BK238.out 1; have hfz18_2 := blk_frozen BK238.out 2; have hfz18_3 := blk_frozen BK238.out 3) | ((with_reducible refine gate_builtin (b := .append) (xs := #[.tmp 42, .tmp 48]) rfl ?_); (try (refine gate_guard (by rfl) ?_; dsimp only)); at_builtin; refine Kd.R_append k56 (w0 := w) w.heap.size rfl (.tmp 42) (.tmp 48) 52 56 (.agg #[(.int .i64 0), (.int .i64 0), (.int .i64 0)]) 24 rfl Try.underlying52 info56 rfl (by decide) (by omega) u5 x5_1 (⟨(-1), (rd_T61 l0 x6_1).f2, (rd_T61 l0 x6_1).f3⟩ : S56) [.int .i64 (-1), .int .i64 ((rd_T61 l0 x6_1).f2), .int .i64 ((rd_T61 l0 x6_1).f3)] (fun _ => True) (fun _ => False) rfl (by first | (go_simp; done) | (go_simp; rfl)) ?aP (fun _ hk => hk.elim) ?aF ?aO ?aB ?aS ?aL ?_; (case aP => exact k56_mkM _ _ _ (⟨(-1), (rd_T61 l0 x6_1).f2, (rd_T61 l0 x6_1).f3⟩ : S56)); (case aB => exact zzq); (case aF => exact (fun _ _ => trivial)); (case aO => exact (zzr (Kd.R_mono (Kd.R_far (p := ⟨gb238, 3, none⟩) (Kd.R_far (p := ⟨gb238, 2, none⟩) (Kd.R_far (p := ⟨gb238, 1, none⟩) (Kd.R_far (p := ⟨gb238, 0, none⟩) (Kd.R_types HO_5.out BK238.out (by decide)) (fun _ hk => hk.2) (.int .i64 ((rd_T61 l0 x6_1).f0))) (fun _ hk => hk.2) (.string ((rd_T61 l0 x6_1).f1))) (fun _ hk => hk.2) (.int .i64 ((rd_T61 l0 x6_1).f2))) (fun _ hk => hk.2) (.int .i64 ((rd_T61 l0 x6_1).f3))) (fun _ hk => trivial)))); (case aS => exact (below_size zzq)); (case aL => have := LMc16.out; omega); intro v244 w19 ho hb hg hat; rw [← Ny243.out] at ho; have n0_ := Aside0.mk (blk_grown (g := gb238) (o := .cells #[.int .i64 ((rd_T61 l0 x6_1).f0), .string ((rd_T61 l0 x6_1).f1), .int .i64 ((rd_T61 l0 x6_1).f2), .int .i64 ((rd_T61 l0 x6_1).f3)] 61 (0, 0)) (by (with_reducible repeat (first | refine blk_drewN ?_ _ | refine blk_drew ?_ | refine blk_alloc ?_ _)); refine blk_put (cs := #[.int .i64 ((rd_T61 l0 x6_1).f0), .string ((rd_T61 l0 x6_1).f1), .int .i64 ((rd_T61 l0 x6_1).f2), .int .i64 0]) ?_ 3 _ rfl; (with_reducible repeat (first | refine blk_drewN ?_ _ | refine blk_drew ?_ | refine blk_alloc ?_ _)); refine blk_put (cs := #[.int .i64 ((rd_T61 l0 x6_1).f0), .string ((rd_T61 l0 x6_1).f1), .int .i64 0, .int .i64 0]) ?_ 2 _ rfl; (with_reducible repeat (first | refine blk_drewN ?_ _ | refine blk_drew ?_ | refine blk_alloc ?_ _)); refine blk_put (cs := #[.int .i64 ((rd_T61 l0 x6_1).f0), .string (⟨#[]⟩ : ByteArray), .int .i64 0, .int .i64 0]) ?_ 1 _ rfl; (with_reducible repeat (first | refine blk_drewN ?_ _ | refine blk_drew ?_ | refine blk_alloc ?_ _)); refine blk_put (cs := #[.int .i64 0, .string (⟨#[]⟩ : ByteArray), .int .i64 0, .int .i64 0]) ?_ 0 _ rfl; exact zzb BK238) hg (Kd.R_ne HO_5.out BK238.out (by decide))); have n1_ := Aside0.mk (hb); have n2_ := Aside0.mk (ho); clear BK238; clear HB; clear HO_5; have BK238 := n0_; have HB := n1_; have HO245 := n2_; clear n0_ n1_ n2_; clear ho hb hg hat))
           go_roundg kj2
           case measure => have := HK1.out; have := HJ2.out; omega
           case rel => exact ⟨(y243), (wrap64 (x6_1 + 1)), zz0, H', ⟨by have := HK1.out; have := HJ2.out; omega⟩, ⟨zzr HO245.out⟩, ⟨zzq⟩⟩
          ·rw [if_neg c16] at H
           exact absurd H (by simp)
         ·rw [if_neg c15] at H; have c15b0 : (((rd_T61 l0 x6_1).f0) == 2) = false := beq_eq_false_iff_ne.mpr c15; have c15b1 : (((rd_T61 l0 x6_1).f0) != 2) = true := bne_iff_ne.mpr c15
          by_cases c20 : ((rd_T61 l0 x6_1).f0) = 1
          ·rw [if_pos c20] at H; have c20b0 : (((rd_T61 l0 x6_1).f0) == 1) = true := beq_iff_eq.mpr c20; have c20b1 : (((rd_T61 l0 x6_1).f0) != 1) = false := bne_eq_false_iff_eq.mpr c20; clear c20; have H' := Aside0.mk H; clear H
           have p237 : 0 ≤ (x6_1 : Int) := of_decide_eq_true zz1
           have q237 : x6_1 < (l0.length : Int) := of_decide_eq_true zz1
           obtain ⟨ad237, e237, hx237_0, hx237_1, hx237_2, hx237_3⟩ := at_T61 HR0.out x6_1 p237 q237; cases e237
           replace hx237_0 := (HB.out.cell (World.block_lt_of_cell? w _ hx237_0)).trans hx237_0
           replace hx237_1 := (HB.out.cell (World.block_lt_of_cell? w _ hx237_1)).trans hx237_1
           replace hx237_2 := (HB.out.cell (World.block_lt_of_cell? w _ hx237_2)).trans hx237_2
           replace hx237_3 := (HB.out.cell (World.block_lt_of_cell? w _ hx237_3)).trans hx237_3
           replace p237 := eq_true p237; replace q237 := eq_true q237
           go_wp2_with (first | ((with_reducible refine gate_dst (N := 7) rfl ?_); (try (refine gate_guard (by rfl) ?_; dsimp only)); refine box_event (by rfl) (N := 7) (by rfl) (cs := #[.int .i64 0, .string (⟨#[]⟩ : ByteArray), .int .i64 0, .int .i64 0]) (t := 61) zzh ?_; intro gb238 hg w21 hbox hb; have n0_ := Aside0.mk (Kd.R_below (zzr HO_5.out) hb); have n1_ := Aside0.mk (below_step zzq hb); have n2_ := Aside0.mk (hbox); have n3_ := Aside0.mk ((zzg hg zzq)); have n4_ := Aside0.mk ((zzg hg zzq)); clear HO_5; clear HB; have HO_5 := n0_; have HB := n1_; have BK238 := n2_; have GW238 := n3_; have GE238 := n4_; clear n0_ n1_ n2_ n3_ n4_; clear hb hbox hg; have hcz22_0 : w21.cell? ⟨gb238, 0, none⟩ = some (.int .i64 0) := (blk_cell BK238.out 0).trans rfl; have hcz22_1 : w21.cell? ⟨gb238, 1, none⟩ = some (.string (⟨#[]⟩ : ByteArray)) := (blk_cell BK238.out 1).trans rfl; have hcz22_2 : w21.cell? ⟨gb238, 2, none⟩ = some (.int .i64 0) := (blk_cell BK238.out 2).trans rfl; have hcz22_3 : w21.cell? ⟨gb238, 3, none⟩ = some (.int .i64 0) := (blk_cell BK238.out 3).trans rfl; have hfz22_0 := blk_frozen BK238.out 0; have hfz22_1 := blk_frozen BK238.out 1; have hfz22_2 := blk_frozen BK238.out 2; have hfz22_3 := blk_frozen BK238.out 3))
           go_loopg [5, 8] kj2 (fun kq v5 v8 w' => ∃ (x5_3 : List (S56)) (x8_3 : Int), v8 = .int .i64 x8_3 ∧ Aside0 (templeref1_symbols.l1 kq l0 l1 x5_3 x6_1 x8_3 ((rd_T61 l0 x6_1).f0) ((rd_T61 l0 x6_1).f1) ((rd_T61 l0 x6_1).f2) ((rd_T61 l0 x6_1).f3) = some r) ∧ Aside0 (kq ≤ kj2) ∧ Aside0 (Kd.R k56 56 w' w.heap.size (fun _ => True) v5 x5_3) ∧ Aside0 (w'.heap[gb238]? = some (.cells #[.int .i64 ((rd_T61 l0 x6_1).f0), .string ((rd_T61 l0 x6_1).f1), .int .i64 ((rd_T61 l0 x6_1).f2), .int .i64 ((rd_T61 l0 x6_1).f3)] 61 (0, 0))) ∧ Aside0 (Below w.heap.size w w'))
           case atStart => exact ⟨(x5_1), (0), zz0, H', ⟨Nat.le_refl _⟩, ⟨zzr (Kd.R_mono (Kd.R_far (p := ⟨gb238, 3, none⟩) (Kd.R_far (p := ⟨gb238, 2, none⟩) (Kd.R_far (p := ⟨gb238, 1, none⟩) (Kd.R_far (p := ⟨gb238, 0, none⟩) (Kd.R_types HO_5.out BK238.out (by decide)) (fun _ hk => hk.2) (.int .i64 ((rd_T61 l0 x6_1).f0))) (fun _ hk => hk.2) (.string ((rd_T61 l0 x6_1).f1))) (fun _ hk => hk.2) (.int .i64 ((rd_T61 l0 x6_1).f2))) (fun _ hk => hk.2) (.int .i64 ((rd_T61 l0 x6_1).f3))) (fun _ hk => trivial))⟩, ⟨by (with_reducible repeat (first | refine blk_drewN ?_ _ | refine blk_drew ?_ | refine blk_alloc ?_ _)); refine blk_put (cs := #[.int .i64 ((rd_T61 l0 x6_1).f0), .string ((rd_T61 l0 x6_1).f1), .int .i64 ((rd_T61 l0 x6_1).f2), .int .i64 0]) ?_ 3 _ rfl; (with_reducible repeat (first | refine blk_drewN ?_ _ | refine blk_drew ?_ | refine blk_alloc ?_ _)); refine blk_put (cs := #[.int .i64 ((rd_T61 l0 x6_1).f0), .string ((rd_T61 l0 x6_1).f1), .int .i64 0, .int .i64 0]) ?_ 2 _ rfl; (with_reducible repeat (first | refine blk_drewN ?_ _ | refine blk_drew ?_ | refine blk_alloc ?_ _)); refine blk_put (cs := #[.int .i64 ((rd_T61 l0 x6_1).f0), .string (⟨#[]⟩ : ByteArray), .int .i64 0, .int .i64 0]) ?_ 1 _ rfl; (with_reducible repeat (first | refine blk_drewN ?_ _ | refine blk_drew ?_ | refine blk_alloc ?_ _)); refine blk_put (cs := #[.int .i64 0, .string (⟨#[]⟩ : ByteArray), .int .i64 0, .int .i64 0]) ?_ 0 _ rfl; exact zzb BK238⟩, ⟨zzq⟩⟩
           case round =>
            clear H'; (try clear c1); (try clear c2); (try clear p2); (try clear q2); (try clear hx2); (try clear c3); (try clear c4); (try clear c4b0); (try clear c6); (try clear p6); (try clear c7); (try clear c7b0); (try clear c8); (try clear c8b0); (try clear c9); (try clear c9b0); (try clear c9b1); (try clear c11); (try clear c15); (try clear c15b0); (try clear c15b1); (try clear c16); (try clear c20); (try clear c20b0); (try clear c20b1); (try clear hcz13_0); (try clear hcz13_1); (try clear hcz13_2); (try clear hcz13_3); (try clear hcz18_0); (try clear hcz18_1); (try clear hcz18_2); (try clear hcz18_3); (try clear hcz22_0); (try clear hcz22_1); (try clear hcz22_2); (try clear hcz22_3); (try clear hfz13_0); (try clear hfz13_1); (try clear hfz13_2); (try clear hfz13_3); (try clear hfz18_0); (try clear hfz18_1); (try clear hfz18_2); (try clear hfz18_3); (try clear hfz22_0); (try clear hfz22_1); (try clear hfz22_2); (try clear hfz22_3); (try clear hx237_0); (try clear hx237_1); (try clear hx237_2); (try clear hx237_3); (try clear p2); (try clear p237); (try clear q237); obtain ⟨x5_3, x8_3, rfl, HA, HK3, HO_5, BK238, HB⟩ := hrel
            cases gk with
            | zero => exact absurd HA.out (by simp [templeref1_symbols.l1])
            | succ k3 =>
             have H := HA.out; clear HA
             simp only [templeref1_symbols.l1] at H
             by_cases c23 : x8_3 < (((rd_T61 l0 x6_1).f1).size : Int)
             ·rw [if_pos c23] at H; have c23b0 : decide (x8_3 < (((rd_T61 l0 x6_1).f1).size : Int)) = true := decide_eq_true c23; clear c23
              by_cases c24 : 0 ≤ x8_3
              ·rw [if_pos c24] at H; have c24b0 : decide (0 ≤ x8_3) = true := decide_eq_true c24; clear c24
               by_cases c27 : x5_3.length < 5864062014805
               ·rw [if_pos c27] at H; have LMc27 := Aside0.mk c27; clear c27; obtain ⟨y246, hy246⟩ : ∃ y_ : List (S56), y_ = (x5_3 ++ [(⟨(-1), wrap64 (bt ((rd_T61 l0 x6_1).f1) x8_3), wrap64 (bt ((rd_T61 l0 x6_1).f1) x8_3)⟩ : S56)]) := ⟨_, rfl⟩
                replace H : (templeref1_symbols.l1 k3 l0 l1 y246 x6_1 (wrap64 (x8_3 + 1)) ((rd_T61 l0 x6_1).f0) ((rd_T61 l0 x6_1).f1) ((rd_T61 l0 x6_1).f2) ((rd_T61 l0 x6_1).f3)) = some r := by first | (rw [hy246]; with_reducible exact H) | (have H2_ := (Option.bind_some _ _).symm.trans H; rw [hy246]; with_reducible exact H2_) | (have H2_ := (Option.bind_some _ _).symm.trans H; with_reducible exact H2_) | with_reducible exact H | (rw [hy246]; exact H) | exact H
                have Ny246 := Aside0.mk hy246; clear hy246; have H' := Aside0.mk H; clear H
                have hcz28_0 : wr.cell? ⟨gb238, 0, none⟩ = some (.int .i64 ((rd_T61 l0 x6_1).f0)) := (blk_cell BK238.out 0).trans rfl
                have hcz28_1 : wr.cell? ⟨gb238, 1, none⟩ = some (.string ((rd_T61 l0 x6_1).f1)) := (blk_cell BK238.out 1).trans rfl
                have hcz28_2 : wr.cell? ⟨gb238, 2, none⟩ = some (.int .i64 ((rd_T61 l0 x6_1).f2)) := (blk_cell BK238.out 2).trans rfl
                have hcz28_3 : wr.cell? ⟨gb238, 3, none⟩ = some (.int .i64 ((rd_T61 l0 x6_1).f3)) := (blk_cell BK238.out 3).trans rfl
                have hfz28_0 := blk_frozen BK238.out 0; have hfz28_1 := blk_frozen BK238.out 1; have hfz28_2 := blk_frozen BK238.out 2; have hfz28_3 := blk_frozen BK238.out 3
                try go_wp2
                have n0_ := Aside0.mk (Kd.R_drew HO_5.out); have n1_ := Aside0.mk (blk_drew BK238.out); have n2_ := Aside0.mk (below_drew1 HB.out); clear HO_5; clear BK238; clear HB; have HO_5 := n0_; have BK238 := n1_; have HB := n2_; clear n0_ n1_ n2_
                have p25 : 0 ≤ (x8_3 : Int) := of_decide_eq_true zz1
                have q25 : x8_3 < (((rd_T61 l0 x6_1).f1).size : Int) := of_decide_eq_true zz1
                have hx25 := bt_at ((rd_T61 l0 x6_1).f1) x8_3
                replace p25 := eq_true p25; replace q25 := eq_true q25
                have p26 : 0 ≤ (x8_3 : Int) := of_decide_eq_true zz1
                have q26 : x8_3 < (((rd_T61 l0 x6_1).f1).size : Int) := of_decide_eq_true zz1
                have hx26 := bt_at ((rd_T61 l0 x6_1).f1) x8_3
                replace p26 := eq_true p26; replace q26 := eq_true q26
                refine start_ (n := 15) (S := fun w' => w'.cell? ⟨gb238, 0, none⟩ = some (.int .i64 ((rd_T61 l0 x6_1).f0)) ∧ w'.cell? ⟨gb238, 1, none⟩ = some (.string ((rd_T61 l0 x6_1).f1)) ∧ w'.cell? ⟨gb238, 2, none⟩ = some (.int .i64 ((rd_T61 l0 x6_1).f2)) ∧ w'.cell? ⟨gb238, 3, none⟩ = some (.int .i64 ((rd_T61 l0 x6_1).f3))) (ds := []) #[false, false, false, false, false, false, false, false, false, false, false, false, false, false, false] (by kernel_rfl) rfl rfl ⟨(blk_cell BK238.out 0).trans rfl, (blk_cell BK238.out 1).trans rfl, (blk_cell BK238.out 2).trans rfl, (blk_cell BK238.out 3).trans rfl⟩ (fun hHeld => ?_); refine with_tabW templeref1_symbols.tab16 templeref1_symbols.bits16 (fun HT_ HW_ => ?_)
                generalize wr.drew = w29 at HO_5 BK238 HB hHeld ⊢
                refine pure_ (i := 0) (N := some 59) (v := ?_) (a' := ?_) (bs 15 1) rfl rfl (any_of HT_.out (by kernel_rfl)) (fun _ _ _ h => h) (Or.inl ⟨by rfl, ?_⟩) ?_ ?_
                rotate_left
                ·intro w'
                 go_simp; with_reducible rfl
                rotate_left
                ·simp only [Act.put, s1, s2, s3, i64_w, i32_w]
                 rfl
                refine pure_ (i := 1) (N := some 60) (v := ?_) (a' := ?_) (bs 15 3) rfl rfl (any_of HT_.out (by kernel_rfl)) (fun _ _ _ h => h) (Or.inl ⟨by rfl, ?_⟩) ?_ ?_
                rotate_left
                ·intro w'
                 go_simp; with_reducible rfl
                rotate_left
                ·simp only [Act.put, s1, s2, s3, i64_w, i32_w]
                 rfl
                refine pure_ (i := 3) (N := some 62) (v := ?_) (a' := ?_) (bs 15 11) rfl rfl (any_of HT_.out (by kernel_rfl)) (fun _ _ _ h => h) (Or.inl ⟨by rfl, ?_⟩) ?_ ?_
                rotate_left
                ·intro w'
                 go_simp; with_reducible rfl
                rotate_left
                ·simp only [Act.put, s1, s2, s3, i64_w, i32_w]
                 rfl
                refine pure_ (i := 6) (N := some 65) (v := ?_) (a' := ?_) (bs 15 75) rfl rfl (any_of HT_.out (by kernel_rfl)) (fun _ _ _ h => h) (Or.inl ⟨by rfl, ?_⟩) ?_ ?_
                rotate_left
                ·intro w'
                 go_simp; with_reducible rfl
                rotate_left
                ·simp only [Act.put, s1, s2, s3, i64_w, i32_w]
                 rfl
                refine pure_ (i := 8) (N := some 67) (v := ?_) (a' := ?_) (bs 15 331) rfl rfl (any_of HT_.out (by kernel_rfl)) (fun _ _ _ h => h) (Or.inl ⟨by rfl, ?_⟩) ?_ ?_
                rotate_left
                ·intro w'
                 go_simp; with_reducible rfl
                rotate_left
                ·simp only [Act.put, s1, s2, s3, i64_w, i32_w]
                 rfl
                refine take_ (i := 2) (N := some 61) (v := ?_) (a' := ?_) (bs 15 335) rfl rfl (take_ofW HT_.out HW_.out (by kernel_rfl)) (fun _ _ _ h => h) (Or.inl ⟨by rfl, ?_⟩) hHeld ?_ ?_
                rotate_left
                ·rintro w' ⟨s0, s1, s2, s3⟩; go_simp; with_reducible rfl
                rotate_left
                ·simp only [Act.put, s1, s2, s3, i64_w, i32_w]
                 rfl
                refine take_ (i := 4) (N := some 63) (v := ?_) (a' := ?_) (bs 15 351) rfl rfl (take_ofW HT_.out HW_.out (by kernel_rfl)) (fun _ _ _ h => h) (Or.inl ⟨by rfl, ?_⟩) hHeld ?_ ?_
                rotate_left
                ·rintro w' ⟨s0, s1, s2, s3⟩; go_simp; with_reducible rfl
                rotate_left
                ·simp only [Act.put, s1, s2, s3, i64_w, i32_w]
                 rfl
                refine pure_ (i := 5) (N := some 64) (v := ?_) (a' := ?_) (bs 15 383) rfl rfl (any_of HT_.out (by kernel_rfl)) (fun _ _ _ h => h) (Or.inl ⟨by rfl, ?_⟩) ?_ ?_
                rotate_left
                ·intro w'
                 go_simp; with_reducible rfl
                rotate_left
                ·simp only [Act.put, s1, s2, s3, i64_w, i32_w]
                 rfl
                refine take_ (i := 7) (N := some 66) (v := ?_) (a' := ?_) (bs 15 511) rfl rfl (take_ofW HT_.out HW_.out (by kernel_rfl)) (fun _ _ _ h => h) (Or.inl ⟨by rfl, ?_⟩) hHeld ?_ ?_
                rotate_left
                ·rintro w' ⟨s0, s1, s2, s3⟩; go_simp; with_reducible rfl
                rotate_left
                ·simp only [Act.put, s1, s2, s3, i64_w, i32_w]
                 rfl
                refine take_ (i := 9) (N := some 68) (v := ?_) (a' := ?_) (bs 15 1023) rfl rfl (take_ofW HT_.out HW_.out (by kernel_rfl)) (fun _ _ _ h => h) (Or.inl ⟨by rfl, ?_⟩) hHeld ?_ ?_
                rotate_left
                ·rintro w' ⟨s0, s1, s2, s3⟩; go_simp; with_reducible rfl
                rotate_left
                ·simp only [Act.put, s1, s2, s3, i64_w, i32_w]
                 rfl
                refine pure_ (i := 10) (N := some 69) (v := ?_) (a' := ?_) (bs 15 2047) rfl rfl (any_of HT_.out (by kernel_rfl)) (fun _ _ _ h => h) (Or.inl ⟨by rfl, ?_⟩) ?_ ?_
                rotate_left
                ·intro w'
                 go_simp; with_reducible rfl
                rotate_left
                ·simp only [Act.put, s1, s2, s3, i64_w, i32_w]
                 rfl
                refine pure_ (i := 11) (N := some 70) (v := ?_) (a' := ?_) (bs 15 4095) rfl rfl (any_of HT_.out (by kernel_rfl)) (fun _ _ _ h => h) (Or.inl ⟨by rfl, ?_⟩) ?_ ?_
                rotate_left
                ·intro w'
                 go_simp; with_reducible rfl
                rotate_left
                ·simp only [Act.put, s1, s2, s3, i64_w, i32_w]
                 rfl
                refine one_ (i := 12) (N := some 71) (bs 15 8191) rfl rfl (one_of HT_.out (by kernel_rfl)) (by decide) (fun K hK => ?_)
                refine value_ (w1 := ?_) (v := ?_) (by rfl) rfl ?_ ?_
                rotate_left 2
                ·go_simp
                 constructor
                 ·rfl
                 ·rfl
                refine hK.out _ _ ⟨(blk_cell (blk_alloc BK238.out _) 0).trans rfl, (blk_cell (blk_alloc BK238.out _) 1).trans rfl, (blk_cell (blk_alloc BK238.out _) 2).trans rfl, (blk_cell (blk_alloc BK238.out _) 3).trans rfl⟩ (fun hHeld => ?_)
                clear hK K
                refine norm_ (a' := ?_) ?_ ?_
                rotate_left
                ·show Act.put _ (some 71) _ = _
                 simp only [Act.put, s1, s2, s3, i64_w, i32_w]
                 rfl
                refine one_ (i := 13) (N := some 72) (bs 15 16383) rfl rfl (one_of HT_.out (by kernel_rfl)) (by decide) (fun K hK => ?_)
                refine Kd.R_append_step k56 (w0 := w) w.heap.size (by rfl) (.tmp 59) (.tmp 71) 52 56 (.agg #[(.int .i64 0), (.int .i64 0), (.int .i64 0)]) 24 rfl Try.underlying52 info56 rfl (by decide) (by omega) u5 x5_3 (⟨(-1), wrap64 (bt ((rd_T61 l0 x6_1).f1) x8_3), wrap64 (bt ((rd_T61 l0 x6_1).f1) x8_3)⟩ : S56) [.int .i64 (-1), .int .i64 (wrap64 (bt ((rd_T61 l0 x6_1).f1) x8_3)), .int .i64 (wrap64 (bt ((rd_T61 l0 x6_1).f1) x8_3))] (fun _ => True) (fun _ => False) rfl rfl ?aP (fun _ hk => hk.elim) ?aF ?aO ?aB ?aS ?aL ?_
                (case aP => exact k56_mkM _ _ _ (⟨(-1), wrap64 (bt ((rd_T61 l0 x6_1).f1) x8_3), wrap64 (bt ((rd_T61 l0 x6_1).f1) x8_3)⟩ : S56))
                (case aB => exact zzq)
                (case aF => exact (fun _ _ => trivial))
                (case aO => exact (zzr HO_5.out))
                (case aS => exact (below_size zzq))
                (case aL => have := LMc27.out; omega)
                intro v247 w30 ho hb hg hat
                rw [← Ny246.out] at ho
                have n0_ := Aside0.mk (blk_grown (g := gb238) (o := .cells #[.int .i64 ((rd_T61 l0 x6_1).f0), .string ((rd_T61 l0 x6_1).f1), .int .i64 ((rd_T61 l0 x6_1).f2), .int .i64 ((rd_T61 l0 x6_1).f3)] 61 (0, 0)) (zzb BK238) hg (Kd.R_ne HO_5.out BK238.out (by decide))); have n1_ := Aside0.mk (hb); have n2_ := Aside0.mk (ho); clear BK238; clear HB; clear HO_5; have BK238 := n0_; have HB := n1_; have HO248 := n2_; clear n0_ n1_ n2_; clear ho hb hg hat
                refine hK.out _ _ ⟨(blk_cell BK238.out 0).trans rfl, (blk_cell BK238.out 1).trans rfl, (blk_cell BK238.out 2).trans rfl, (blk_cell BK238.out 3).trans rfl⟩ (fun hHeld => ?_)
                clear hK K
                refine norm_ (a' := ?_) ?_ ?_
                rotate_left
                ·show Act.put _ (some 72) _ = _
                 simp only [Act.put, s1, s2, s3, i64_w, i32_w]
                 rfl
                refine pure_ (i := 14) (N := some 5) (v := ?_) (a' := ?_) (bs 15 32767) rfl rfl (any_of HT_.out (by kernel_rfl)) (fun _ _ _ h => h) (Or.inl ⟨by rfl, ?_⟩) ?_ ?_
                rotate_left
                ·intro w'
                 go_simp; with_reducible rfl
                rotate_left
                ·simp only [Act.put, s1, s2, s3, i64_w, i32_w]
                 rfl
                refine done_ (done_of HT_.out (by kernel_rfl)) ?_
                try go_wp2
                go_roundg k3
                case measure => have := HK1.out; have := HJ2.out; have := HK3.out; omega
                case rel => exact ⟨(y246), (wrap64 (x8_3 + 1)), zz0, H', ⟨by have := HK1.out; have := HJ2.out; have := HK3.out; omega⟩, ⟨zzr HO248.out⟩, ⟨zzb BK238⟩, ⟨zzq⟩⟩
               ·rw [if_neg c27] at H
                exact absurd H (by simp)
              ·rw [if_neg c24] at H
               exact absurd H (by simp)
             ·rw [if_neg c23] at H; have c23b0 : decide (x8_3 < (((rd_T61 l0 x6_1).f1).size : Int)) = false := decide_eq_false c23; clear c23; have H' := Aside0.mk H; clear H
              have hcz31_0 : wr.cell? ⟨gb238, 0, none⟩ = some (.int .i64 ((rd_T61 l0 x6_1).f0)) := (blk_cell BK238.out 0).trans rfl
              have hcz31_1 : wr.cell? ⟨gb238, 1, none⟩ = some (.string ((rd_T61 l0 x6_1).f1)) := (blk_cell BK238.out 1).trans rfl
              have hcz31_2 : wr.cell? ⟨gb238, 2, none⟩ = some (.int .i64 ((rd_T61 l0 x6_1).f2)) := (blk_cell BK238.out 2).trans rfl
              have hcz31_3 : wr.cell? ⟨gb238, 3, none⟩ = some (.int .i64 ((rd_T61 l0 x6_1).f3)) := (blk_cell BK238.out 3).trans rfl
              have hfz31_0 := blk_frozen BK238.out 0; have hfz31_1 := blk_frozen BK238.out 1; have hfz31_2 := blk_frozen BK238.out 2; have hfz31_3 := blk_frozen BK238.out 3; go_wp2; go_roundg k3
              case measure => have := HK1.out; have := HJ2.out; have := HK3.out; omega
              case rel => exact ⟨(x5_3), (wrap64 (x6_1 + 1)), zz0, H', ⟨by have := HK1.out; have := HJ2.out; have := HK3.out; omega⟩, ⟨zzr HO_5.out⟩, ⟨zzq⟩⟩
          ·rw [if_neg c20] at H; have c20b0 : (((rd_T61 l0 x6_1).f0) == 1) = false := beq_eq_false_iff_ne.mpr c20; have c20b1 : (((rd_T61 l0 x6_1).f0) != 1) = true := bne_iff_ne.mpr c20
           by_cases c32 : x5_1.length < 5864062014805
           ·rw [if_pos c32] at H; have LMc32 := Aside0.mk c32; clear c32; obtain ⟨y249, hy249⟩ : ∃ y_ : List (S56), y_ = (x5_1 ++ [(⟨(-2), 0, 0⟩ : S56)]) := ⟨_, rfl⟩
            replace H : (templeref1_symbols.l0 kj2 l0 l1 y249 (wrap64 (x6_1 + 1))) = some r := by first | (rw [hy249]; with_reducible exact H) | (have H2_ := (Option.bind_some _ _).symm.trans H; rw [hy249]; with_reducible exact H2_) | (have H2_ := (Option.bind_some _ _).symm.trans H; with_reducible exact H2_) | with_reducible exact H | (rw [hy249]; exact H) | exact H
            have Ny249 := Aside0.mk hy249; clear hy249; have H' := Aside0.mk H; clear H
            have p237 : 0 ≤ (x6_1 : Int) := of_decide_eq_true zz1
            have q237 : x6_1 < (l0.length : Int) := of_decide_eq_true zz1
            obtain ⟨ad237, e237, hx237_0, hx237_1, hx237_2, hx237_3⟩ := at_T61 HR0.out x6_1 p237 q237; cases e237
            replace hx237_0 := (HB.out.cell (World.block_lt_of_cell? w _ hx237_0)).trans hx237_0
            replace hx237_1 := (HB.out.cell (World.block_lt_of_cell? w _ hx237_1)).trans hx237_1
            replace hx237_2 := (HB.out.cell (World.block_lt_of_cell? w _ hx237_2)).trans hx237_2
            replace hx237_3 := (HB.out.cell (World.block_lt_of_cell? w _ hx237_3)).trans hx237_3
            replace p237 := eq_true p237; replace q237 := eq_true q237
            go_wp2_with (first | ((with_reducible refine gate_dst (N := 7) rfl ?_); (try (refine gate_guard (by rfl) ?_; dsimp only)); refine box_event (by rfl) (N := 7) (by rfl) (cs := #[.int .i64 0, .string (⟨#[]⟩ : ByteArray), .int .i64 0, .int .i64 0]) (t := 61) zzh ?_; intro gb238 hg w33 hbox hb; have n0_ := Aside0.mk (Kd.R_below (zzr HO_5.out) hb); have n1_ := Aside0.mk (below_step zzq hb); have n2_ := Aside0.mk (hbox); have n3_ := Aside0.mk ((zzg hg zzq)); have n4_ := Aside0.mk ((zzg hg zzq)); clear HO_5; clear HB; have HO_5 := n0_; have HB := n1_; have BK238 := n2_; have GW238 := n3_; have GE238 := n4_; clear n0_ n1_ n2_ n3_ n4_; clear hb hbox hg; have hcz34_0 : w33.cell? ⟨gb238, 0, none⟩ = some (.int .i64 0) := (blk_cell BK238.out 0).trans rfl; have hcz34_1 : w33.cell? ⟨gb238, 1, none⟩ = some (.string (⟨#[]⟩ : ByteArray)) := (blk_cell BK238.out 1).trans rfl; have hcz34_2 : w33.cell? ⟨gb238, 2, none⟩ = some (.int .i64 0) := (blk_cell BK238.out 2).trans rfl; have hcz34_3 : w33.cell? ⟨gb238, 3, none⟩ = some (.int .i64 0) := (blk_cell BK238.out 3).trans rfl; have hfz34_0 := blk_frozen BK238.out 0; have hfz34_1 := blk_frozen BK238.out 1; have hfz34_2 := blk_frozen BK238.out 2; have hfz34_3 := blk_frozen BK238.out 3) | ((with_reducible refine gate_builtin (b := .append) (xs := #[.tmp 26, .tmp 28]) rfl ?_); (try (refine gate_guard (by rfl) ?_; dsimp only)); at_builtin; refine Kd.R_append k56 (w0 := w) w.heap.size rfl (.tmp 26) (.tmp 28) 52 56 (.agg #[(.int .i64 0), (.int .i64 0), (.int .i64 0)]) 24 rfl Try.underlying52 info56 rfl (by decide) (by omega) u5 x5_1 (⟨(-2), 0, 0⟩ : S56) [.int .i64 (-2), .int .i64 0, .int .i64 0] (fun _ => True) (fun _ => False) rfl (by first | (go_simp; done) | (go_simp; rfl)) ?aP (fun _ hk => hk.elim) ?aF ?aO ?aB ?aS ?aL ?_; (case aP => exact k56_mkM _ _ _ (⟨(-2), 0, 0⟩ : S56)); (case aB => exact zzq); (case aF => exact (fun _ _ => trivial)); (case aO => exact (zzr (Kd.R_mono (Kd.R_far (p := ⟨gb238, 3, none⟩) (Kd.R_far (p := ⟨gb238, 2, none⟩) (Kd.R_far (p := ⟨gb238, 1, none⟩) (Kd.R_far (p := ⟨gb238, 0, none⟩) (Kd.R_types HO_5.out BK238.out (by decide)) (fun _ hk => hk.2) (.int .i64 ((rd_T61 l0 x6_1).f0))) (fun _ hk => hk.2) (.string ((rd_T61 l0 x6_1).f1))) (fun _ hk => hk.2) (.int .i64 ((rd_T61 l0 x6_1).f2))) (fun _ hk => hk.2) (.int .i64 ((rd_T61 l0 x6_1).f3))) (fun _ hk => trivial)))); (case aS => exact (below_size zzq)); (case aL => have := LMc32.out; omega); intro v250 w35 ho hb hg hat; rw [← Ny249.out] at ho; have n0_ := Aside0.mk (blk_grown (g := gb238) (o := .cells #[.int .i64 ((rd_T61 l0 x6_1).f0), .string ((rd_T61 l0 x6_1).f1), .int .i64 ((rd_T61 l0 x6_1).f2), .int .i64 ((rd_T61 l0 x6_1).f3)] 61 (0, 0)) (by (with_reducible repeat (first | refine blk_drewN ?_ _ | refine blk_drew ?_ | refine blk_alloc ?_ _)); refine blk_put (cs := #[.int .i64 ((rd_T61 l0 x6_1).f0), .string ((rd_T61 l0 x6_1).f1), .int .i64 ((rd_T61 l0 x6_1).f2), .int .i64 0]) ?_ 3 _ rfl; (with_reducible repeat (first | refine blk_drewN ?_ _ | refine blk_drew ?_ | refine blk_alloc ?_ _)); refine blk_put (cs := #[.int .i64 ((rd_T61 l0 x6_1).f0), .string ((rd_T61 l0 x6_1).f1), .int .i64 0, .int .i64 0]) ?_ 2 _ rfl; (with_reducible repeat (first | refine blk_drewN ?_ _ | refine blk_drew ?_ | refine blk_alloc ?_ _)); refine blk_put (cs := #[.int .i64 ((rd_T61 l0 x6_1).f0), .string (⟨#[]⟩ : ByteArray), .int .i64 0, .int .i64 0]) ?_ 1 _ rfl; (with_reducible repeat (first | refine blk_drewN ?_ _ | refine blk_drew ?_ | refine blk_alloc ?_ _)); refine blk_put (cs := #[.int .i64 0, .string (⟨#[]⟩ : ByteArray), .int .i64 0, .int .i64 0]) ?_ 0 _ rfl; exact zzb BK238) hg (Kd.R_ne HO_5.out BK238.out (by decide))); have n1_ := Aside0.mk (hb); have n2_ := Aside0.mk (ho); clear BK238; clear HB; clear HO_5; have BK238 := n0_; have HB := n1_; have HO251 := n2_; clear n0_ n1_ n2_; clear ho hb hg hat))
            go_roundg kj2
            case measure => have := HK1.out; have := HJ2.out; omega
            case rel => exact ⟨(y249), (wrap64 (x6_1 + 1)), zz0, H', ⟨by have := HK1.out; have := HJ2.out; omega⟩, ⟨zzr HO251.out⟩, ⟨zzq⟩⟩
           ·rw [if_neg c32] at H
            exact absurd H (by simp)
       ·rw [if_neg c8] at H
        exact absurd H (by simp)
      ·rw [if_neg c7] at H
       exact absurd H (by simp)
     ·replace c6 := Bool.eq_false_iff.mpr c6
      subst c6
      have H1 : (some x5_1) = some r := by rw [if_neg (show ¬ (false = true) by decide)] at H; exact H
      clear H; have H := H1; clear H1; obtain rfl := Option.some.inj H; go_wp2; go_ret
      exact ⟨_, by first | rfl | (simp [errW_none, errW_some] <;> rfl) | (simp [*, errW_none, errW_some] <;> rfl), zzr HO_5.out, zzq⟩

end Go.Proofs.Ytdjnpgigdchfkaa.PBS
