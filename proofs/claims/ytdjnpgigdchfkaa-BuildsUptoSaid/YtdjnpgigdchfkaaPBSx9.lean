-- written by a program of the session's (wip/myprint.py) out of the translation
import Derived.Test.YtdjnpgigdchfkaaPBSx0
import Derived.Test.YtdjnpgigdchfkaaPBSx6
namespace Go.Proofs.Ytdjnpgigdchfkaa.PBS
open Go.RowKit Go.Proofs.YtdjnpgigdchfkaaW.PrintWords Go.Proofs.YtdjnpgigdchfkaaW.PrintLast Go.Proofs.YtdjnpgigdchfkaaW.PrintMore
attribute [local go_sem] max2_int min2_int max_two min_two max_three min_three max_four min_four   -- for this text's walks alone
set_option linter.unusedVariables false
set_option linter.unusedSimpArgs false

/-! ### templeref1_unknown: function 29 -/
mutual
def templeref1_unknown.l0 : Nat → List ByteArray → Int → List ByteArray → List (S45) → Option (ByteArray × Bool)
 | 0, _, _, _, _ => none
 | k + 1, x1, x6, x213000, x213001 => if x6 < (x213001.length : Int) then (templeref1_unknown.l1 k x1 x6 0 x213000 x213001) else (some ((⟨#[]⟩ : ByteArray), false))
def templeref1_unknown.l1 : Nat → List ByteArray → Int → Int → List ByteArray → List (S45) → Option (ByteArray × Bool)
 | 0, _, _, _, _, _ => none
 | k + 1, x1, x6, x7, x213000, x213001 => if 0 ≤ x6 then (if x6 < (x213001.length : Int) then (if x7 < (((rd_T45 x213001 x6).f1).length : Int) then (templeref1_unknown.l2 k x1 x6 x7 0 x213000 x213001) else (templeref1_unknown.l0 k x1 (wrap64 (x6 + 1)) x213000 x213001)) else (none)) else (none)
def templeref1_unknown.l2 : Nat → List ByteArray → Int → Int → Int → List ByteArray → List (S45) → Option (ByteArray × Bool)
 | 0, _, _, _, _, _, _ => none
 | k + 1, x1, x6, x7, x8, x213000, x213001 => if 0 ≤ x6 then (if x6 < (x213001.length : Int) then (if 0 ≤ x7 then (if x7 < (((rd_T45 x213001 x6).f1).length : Int) then (if x8 < ((rd_L6 ((rd_T45 x213001 x6).f1) x7).length : Int) then (if 0 ≤ x8 then (templeref1_unknown.l3 k x1 x6 x7 x8 ((rd_T64 (rd_L6 ((rd_T45 x213001 x6).f1) x7) x8).f1) 0 x213000 x213001) else (none)) else (templeref1_unknown.l1 k x1 x6 (wrap64 (x7 + 1)) x213000 x213001)) else (none)) else (none)) else (none)) else (none)
def templeref1_unknown.l3 : Nat → List ByteArray → Int → Int → Int → List (S61) → Int → List ByteArray → List (S45) → Option (ByteArray × Bool)
 | 0, _, _, _, _, _, _, _, _ => none
 | k + 1, x1, x6, x7, x8, x9, x10, x213000, x213001 => if x10 < (x9.length : Int) then (if 0 ≤ x10 then (if ((rd_T61 x9 x10).f0) = 0 then ((templeref1_find.f k x1 ((rd_T61 x9 x10).f1)).bind fun t224 => (if t224 < 0 then (some ((rd_T61 x9 x10).f1, true)) else (templeref1_unknown.l3 k x1 x6 x7 x8 x9 (wrap64 (x10 + 1)) x213000 x213001))) else (templeref1_unknown.l3 k x1 x6 x7 x8 x9 (wrap64 (x10 + 1)) x213000 x213001)) else (none)) else (templeref1_unknown.l2 k x1 x6 x7 (wrap64 (x8 + 1)) x213000 x213001)
end
def templeref1_unknown.f (k : Nat) (l0_0 : List ByteArray) (l0_1 : List (S45)) (l1 : List ByteArray) : Option (ByteArray × Bool) := if 0 < (l0_0.length : Int) then ((templeref1_find.f k l1 (rdOf ByteArray.empty l0_0 0)).bind fun t214 => (if t214 < 0 then (some (rdOf ByteArray.empty l0_0 0, true)) else (templeref1_unknown.l0 k l1 0 l0_0 l0_1))) else (none)
theorem templeref1_unknown.mono_l : ∀ k, (∀ y0 y1 y2 y3, LeO (templeref1_unknown.l0 k y0 y1 y2 y3) (templeref1_unknown.l0 (k + 1) y0 y1 y2 y3)) ∧ (∀ y0 y1 y2 y3 y4, LeO (templeref1_unknown.l1 k y0 y1 y2 y3 y4) (templeref1_unknown.l1 (k + 1) y0 y1 y2 y3 y4)) ∧ (∀ y0 y1 y2 y3 y4 y5, LeO (templeref1_unknown.l2 k y0 y1 y2 y3 y4 y5) (templeref1_unknown.l2 (k + 1) y0 y1 y2 y3 y4 y5)) ∧ (∀ y0 y1 y2 y3 y4 y5 y6 y7, LeO (templeref1_unknown.l3 k y0 y1 y2 y3 y4 y5 y6 y7) (templeref1_unknown.l3 (k + 1) y0 y1 y2 y3 y4 y5 y6 y7))
 | 0 => ⟨fun _ _ _ _ r h => by simp [templeref1_unknown.l0] at h, fun _ _ _ _ _ r h => by simp [templeref1_unknown.l1] at h, fun _ _ _ _ _ _ r h => by simp [templeref1_unknown.l2] at h, fun _ _ _ _ _ _ _ _ r h => by simp [templeref1_unknown.l3] at h⟩
 | k + 1 => by
  obtain ⟨ih0, ih1, ih2, ih3⟩ := templeref1_unknown.mono_l k
  refine ⟨?_, ?_, ?_, ?_⟩
  ·intro y0 y1 y2 y3
   unfold templeref1_unknown.l0
   repeat' first
   | (with_reducible exact ih0 _ _ _ _)
   | (with_reducible exact ih1 _ _ _ _ _)
   | (with_reducible exact ih2 _ _ _ _ _ _)
   | (with_reducible exact ih3 _ _ _ _ _ _ _ _)
   | (with_reducible exact templeref1_find.mono _ _ _)
   | (with_reducible exact LeO.refl _)
   | (with_reducible exact LeO.none _)
   | (with_reducible refine LeO.ite ?_ ?_)
   | (with_reducible refine LeO.bind ?_ (fun _ => ?_))
   | exact ih0 _ _ _ _
   | exact ih1 _ _ _ _ _
   | exact ih2 _ _ _ _ _ _
   | exact ih3 _ _ _ _ _ _ _ _
   | exact templeref1_find.mono _ _ _
   | exact LeO.none _
   | refine LeO.ite ?_ ?_
   | refine LeO.bind ?_ (fun _ => ?_)
  ·intro y0 y1 y2 y3 y4
   unfold templeref1_unknown.l1
   repeat' first
   | (with_reducible exact ih0 _ _ _ _)
   | (with_reducible exact ih1 _ _ _ _ _)
   | (with_reducible exact ih2 _ _ _ _ _ _)
   | (with_reducible exact ih3 _ _ _ _ _ _ _ _)
   | (with_reducible exact templeref1_find.mono _ _ _)
   | (with_reducible exact LeO.refl _)
   | (with_reducible exact LeO.none _)
   | (with_reducible refine LeO.ite ?_ ?_)
   | (with_reducible refine LeO.bind ?_ (fun _ => ?_))
   | exact ih0 _ _ _ _
   | exact ih1 _ _ _ _ _
   | exact ih2 _ _ _ _ _ _
   | exact ih3 _ _ _ _ _ _ _ _
   | exact templeref1_find.mono _ _ _
   | exact LeO.none _
   | refine LeO.ite ?_ ?_
   | refine LeO.bind ?_ (fun _ => ?_)
  ·intro y0 y1 y2 y3 y4 y5
   unfold templeref1_unknown.l2
   repeat' first
   | (with_reducible exact ih0 _ _ _ _)
   | (with_reducible exact ih1 _ _ _ _ _)
   | (with_reducible exact ih2 _ _ _ _ _ _)
   | (with_reducible exact ih3 _ _ _ _ _ _ _ _)
   | (with_reducible exact templeref1_find.mono _ _ _)
   | (with_reducible exact LeO.refl _)
   | (with_reducible exact LeO.none _)
   | (with_reducible refine LeO.ite ?_ ?_)
   | (with_reducible refine LeO.bind ?_ (fun _ => ?_))
   | exact ih0 _ _ _ _
   | exact ih1 _ _ _ _ _
   | exact ih2 _ _ _ _ _ _
   | exact ih3 _ _ _ _ _ _ _ _
   | exact templeref1_find.mono _ _ _
   | exact LeO.none _
   | refine LeO.ite ?_ ?_
   | refine LeO.bind ?_ (fun _ => ?_)
  ·intro y0 y1 y2 y3 y4 y5 y6 y7
   unfold templeref1_unknown.l3
   repeat' first
   | (with_reducible exact ih0 _ _ _ _)
   | (with_reducible exact ih1 _ _ _ _ _)
   | (with_reducible exact ih2 _ _ _ _ _ _)
   | (with_reducible exact ih3 _ _ _ _ _ _ _ _)
   | (with_reducible exact templeref1_find.mono _ _ _)
   | (with_reducible exact LeO.refl _)
   | (with_reducible exact LeO.none _)
   | (with_reducible refine LeO.ite ?_ ?_)
   | (with_reducible refine LeO.bind ?_ (fun _ => ?_))
   | exact ih0 _ _ _ _
   | exact ih1 _ _ _ _ _
   | exact ih2 _ _ _ _ _ _
   | exact ih3 _ _ _ _ _ _ _ _
   | exact templeref1_find.mono _ _ _
   | exact LeO.none _
   | refine LeO.ite ?_ ?_
   | refine LeO.bind ?_ (fun _ => ?_)
theorem templeref1_unknown.mono : ∀ a0 a1 a2 k, LeO (templeref1_unknown.f k a0 a1 a2) (templeref1_unknown.f (k + 1) a0 a1 a2) := by
 intro a0 a1 a2 k
 obtain ⟨ih0, ih1, ih2, ih3⟩ := templeref1_unknown.mono_l k
 unfold templeref1_unknown.f
 repeat' first
   | (with_reducible exact ih0 _ _ _ _)
   | (with_reducible exact ih1 _ _ _ _ _)
   | (with_reducible exact ih2 _ _ _ _ _ _)
   | (with_reducible exact ih3 _ _ _ _ _ _ _ _)
   | (with_reducible exact templeref1_find.mono _ _ _)
   | (with_reducible exact LeO.refl _)
   | (with_reducible exact LeO.none _)
   | (with_reducible refine LeO.ite ?_ ?_)
   | (with_reducible refine LeO.bind ?_ (fun _ => ?_))
   | exact ih0 _ _ _ _
   | exact ih1 _ _ _ _ _
   | exact ih2 _ _ _ _ _ _
   | exact ih3 _ _ _ _ _ _ _ _
   | exact templeref1_find.mono _ _ _
   | exact LeO.none _
   | refine LeO.ite ?_ ?_
   | refine LeO.bind ?_ (fun _ => ?_)
set_option maxHeartbeats 8000000 in
set_option maxRecDepth 100000 in
theorem templeref1_unknown.calls (k : Nat) (A0_0 : Option Addr) (c0_0 : Nat) (l0_0 : List ByteArray) (A0_1 : Option Addr) (c0_1 : Nat) (l0_1 : List (S45)) (A1 : Option Addr) (c1 : Nat) (l1 : List ByteArray) (r1 : ByteArray) (r2 : Bool) (w : World) (hr0_0 : Kd.C Kd.string w A0_0 l0_0.length l0_0) (hc0_0 : l0_0.length ≤ c0_0) (hr0_1 : Kd.C k45 w A0_1 l0_1.length l0_1) (hc0_1 : l0_1.length ≤ c0_1) (hr1 : Kd.C Kd.string w A1 l1.length l1) (hc1 : l1.length ≤ c1) (h : templeref1_unknown.f k l0_0 l0_1 l1 = some (r1, r2)) :
  Calls Try.prog 29 #[.agg #[.slice A0_0 l0_0.length c0_0, .slice A0_1 l0_1.length c0_1], .slice A1 l1.length c1] w fun e w' => e = .returned (.tuple #[.string r1, .bool r2]) ∧ Below w.heap.size w w' := by
 have hu25 := Try.underlying25; have HR0_0 := Aside0.mk hr0_0; have HC0_0 := Aside0.mk hc0_0; clear hr0_0 hc0_0; have HR0_1 := Aside0.mk hr0_1; have HC0_1 := Aside0.mk hc0_1; clear hr0_1 hc0_1; have HR1 := Aside0.mk hr1; have HC1 := Aside0.mk hc1; clear hr1 hc1
 have HB := Aside0.mk (Below.refl w.heap.size w)
 have H : (if 0 < (l0_0.length : Int) then ((templeref1_find.f k l1 (rdOf ByteArray.empty l0_0 0)).bind fun t214 => (if t214 < 0 then (some (rdOf ByteArray.empty l0_0 0, true)) else (templeref1_unknown.l0 k l1 0 l0_0 l0_1))) else (none)) = some (r1, r2) := h
 clear h
 by_cases c3 : 0 < (l0_0.length : Int)
 ·rw [if_pos c3] at H; have c3b0 : decide (0 < (l0_0.length : Int)) = true := decide_eq_true c3
  have c3b1 : decide (0 < l0_0.length) = true := decide_eq_true (by omega)
  clear c3; replace H := Option.bind_eq_some_iff.mp H; obtain ⟨t214, A40, H⟩ := H
  replace H : (if t214 < 0 then (some (rdOf ByteArray.empty l0_0 0, true)) else (templeref1_unknown.l0 k l1 0 l0_0 l0_1)) = some (r1, r2) := H
  have A4 := Aside0.mk A40; clear A40
  by_cases c5 : t214 < 0
  ·rw [if_pos c5] at H; have c5b0 : decide (t214 < 0) = true := decide_eq_true c5; clear c5
   simp only [Option.some.injEq, Prod.mk.injEq] at H
   obtain ⟨rfl, rfl⟩ := H
   go_enter Try.func29, Try.ntmps29
   go_wp2_with (first | ((with_reducible refine gate_dst (N := 2) rfl ?_); refine box_event (by rfl) (N := 2) (by rfl) (cs := #[.slice A0_0 l0_0.length c0_0, .slice A0_1 l0_1.length c0_1]) (t := 25) zzh ?_; intro gb212 hg w6 hbox hb; have n0_ := Aside0.mk (below_step zzq hb); have n1_ := Aside0.mk (hbox); have n2_ := Aside0.mk ((zzg hg zzq)); have n3_ := Aside0.mk ((zzg hg zzq)); clear HB; have HB := n0_; have BK212 := n1_; have GW212 := n2_; have GE212 := n3_; clear n0_ n1_ n2_ n3_; clear hb hbox hg; have hcz7_0 : w6.cell? ⟨gb212, 0, none⟩ = some (.slice A0_0 l0_0.length c0_0) := (blk_cell BK212.out 0).trans rfl; have hcz7_1 : w6.cell? ⟨gb212, 1, none⟩ = some (.slice A0_1 l0_1.length c0_1) := (blk_cell BK212.out 1).trans rfl; have hfz7_0 := blk_frozen BK212.out 0; have hfz7_1 := blk_frozen BK212.out 1; have p213 : 0 ≤ (0 : Int) := (by omega); have q213 : 0 < (l0_0.length : Int) := of_decide_eq_true zz1; obtain ⟨ad213, e213, hx213_0⟩ := Kd.at_string HR0_0.out 0 p213 q213; cases e213; have qi213 : (0 < l0_0.length) = True := eq_true (by omega); (try rw [show ((0 : Int)).toNat = 0 from rfl] at hx213_0); (try rw [Addr.add_zero'] at hx213_0); replace hx213_0 := (HB.out.cell (World.block_lt_of_cell? w _ hx213_0)).trans hx213_0; replace p213 := eq_true p213; replace q213 := eq_true q213) | ((with_reducible refine gate_callee (f := 28) rfl ?_); refine goesL_ (some 16) rfl rfl Try.func28 (by kernel_rfl) rfl #[.slice A1 l1.length c1, .string (rdOf ByteArray.empty l0_0 0)] rfl zz2 ?_; (with_reducible refine (templeref1_find.calls k _ _ l1 (rdOf ByteArray.empty l0_0 0) t214 _ ?side1 ?side2 A4.out).mono ?_); (case side1 => exact zzc (Kd.C_below HR1.out HB.out)); (case side2 => exact HC1.out); rintro e w' ⟨rfl, ⟨nd, rfl⟩⟩; refine ⟨_, rfl, ?_⟩; have p215 : 0 ≤ (0 : Int) := (by omega); have q215 : 0 < (l0_0.length : Int) := of_decide_eq_true zz1; obtain ⟨ad215, e215, hx215_0⟩ := Kd.at_string HR0_0.out 0 p215 q215; obtain rfl : ad213 = ad215 := (by injection e215); have qi215 : (0 < l0_0.length) = True := eq_true (by omega); (try rw [show ((0 : Int)).toNat = 0 from rfl] at hx215_0); (try rw [Addr.add_zero'] at hx215_0); replace hx215_0 := (HB.out.cell (World.block_lt_of_cell? w _ hx215_0)).trans hx215_0; replace p215 := eq_true p215; replace q215 := eq_true q215))
   go_ret2
   exact ⟨by first | rfl | (simp [errW_none, errW_some] <;> rfl) | (simp [*, errW_none, errW_some] <;> rfl), zzq⟩
  ·rw [if_neg c5] at H; have c5b0 : decide (t214 < 0) = false := decide_eq_false c5; clear c5; have H' := Aside0.mk H; clear H
   go_enter Try.func29, Try.ntmps29
   go_wp2_with (first | ((with_reducible refine gate_dst (N := 2) rfl ?_); refine box_event (by rfl) (N := 2) (by rfl) (cs := #[.slice A0_0 l0_0.length c0_0, .slice A0_1 l0_1.length c0_1]) (t := 25) zzh ?_; intro gb212 hg w8 hbox hb; have n0_ := Aside0.mk (below_step zzq hb); have n1_ := Aside0.mk (hbox); have n2_ := Aside0.mk ((zzg hg zzq)); have n3_ := Aside0.mk ((zzg hg zzq)); clear HB; have HB := n0_; have BK212 := n1_; have GW212 := n2_; have GE212 := n3_; clear n0_ n1_ n2_ n3_; clear hb hbox hg; have hcz9_0 : w8.cell? ⟨gb212, 0, none⟩ = some (.slice A0_0 l0_0.length c0_0) := (blk_cell BK212.out 0).trans rfl; have hcz9_1 : w8.cell? ⟨gb212, 1, none⟩ = some (.slice A0_1 l0_1.length c0_1) := (blk_cell BK212.out 1).trans rfl; have hfz9_0 := blk_frozen BK212.out 0; have hfz9_1 := blk_frozen BK212.out 1; have p213 : 0 ≤ (0 : Int) := (by omega); have q213 : 0 < (l0_0.length : Int) := of_decide_eq_true zz1; obtain ⟨ad213, e213, hx213_0⟩ := Kd.at_string HR0_0.out 0 p213 q213; cases e213; have qi213 : (0 < l0_0.length) = True := eq_true (by omega); (try rw [show ((0 : Int)).toNat = 0 from rfl] at hx213_0); (try rw [Addr.add_zero'] at hx213_0); replace hx213_0 := (HB.out.cell (World.block_lt_of_cell? w _ hx213_0)).trans hx213_0; replace p213 := eq_true p213; replace q213 := eq_true q213) | ((with_reducible refine gate_callee (f := 28) rfl ?_); refine goesL_ (some 16) rfl rfl Try.func28 (by kernel_rfl) rfl #[.slice A1 l1.length c1, .string (rdOf ByteArray.empty l0_0 0)] rfl zz2 ?_; (with_reducible refine (templeref1_find.calls k _ _ l1 (rdOf ByteArray.empty l0_0 0) t214 _ ?side1 ?side2 A4.out).mono ?_); (case side1 => exact zzc (Kd.C_below HR1.out HB.out)); (case side2 => exact HC1.out); rintro e w' ⟨rfl, ⟨nd, rfl⟩⟩; refine ⟨_, rfl, ?_⟩))
   go_loopg [6] k (fun kq v6 w' => ∃ (x6_1 : Int), v6 = .int .i64 x6_1 ∧ Aside0 (templeref1_unknown.l0 kq l1 x6_1 l0_0 l0_1 = some (r1, r2)) ∧ Aside0 (kq ≤ k) ∧ Aside0 (w'.heap[gb212]? = some (.cells #[(.slice (some ad213) l0_0.length c0_0), (.slice A0_1 l0_1.length c0_1)] 25 (0, 0))) ∧ Aside0 (Below w.heap.size w w'))
   case atStart => exact ⟨(0), zz0, H', ⟨Nat.le_refl _⟩, ⟨zzb BK212⟩, ⟨zzq⟩⟩
   case round =>
    clear H'; (try clear c1); (try clear c2); (try clear p2); (try clear q2); (try clear hx2); (try clear qi2); (try clear c3); (try clear c3b0); (try clear c3b1); (try clear c5); (try clear c5b0); (try clear hcz7_0); (try clear hcz7_1); (try clear hcz9_0); (try clear hcz9_1); (try clear hfz7_0); (try clear hfz7_1); (try clear hfz9_0); (try clear hfz9_1); (try clear hx213_0); (try clear hx215_0); (try clear p213); (try clear p215); (try clear q213); (try clear q215); obtain ⟨x6_1, rfl, HA, HK1, BK212, HB⟩ := hrel
    cases gk with
    | zero => exact absurd HA.out (by simp [templeref1_unknown.l0])
    | succ k1 =>
     have H := HA.out; clear HA
     simp only [templeref1_unknown.l0] at H
     by_cases c10 : x6_1 < (l0_1.length : Int)
     ·rw [if_pos c10] at H; have c10b0 : decide (x6_1 < (l0_1.length : Int)) = true := decide_eq_true c10; clear c10; have H' := Aside0.mk H; clear H
      have hcz11_0 : wr.cell? ⟨gb212, 0, none⟩ = some (.slice (some ad213) l0_0.length c0_0) := (blk_cell BK212.out 0).trans rfl
      have hcz11_1 : wr.cell? ⟨gb212, 1, none⟩ = some (.slice A0_1 l0_1.length c0_1) := (blk_cell BK212.out 1).trans rfl
      have hfz11_0 := blk_frozen BK212.out 0; have hfz11_1 := blk_frozen BK212.out 1; go_wp2
      go_loopg [7] k1 (fun kq v7 w' => ∃ (x7_2 : Int), v7 = .int .i64 x7_2 ∧ Aside0 (templeref1_unknown.l1 kq l1 x6_1 x7_2 l0_0 l0_1 = some (r1, r2)) ∧ Aside0 (kq ≤ k1) ∧ Aside0 (w'.heap[gb212]? = some (.cells #[(.slice (some ad213) l0_0.length c0_0), (.slice A0_1 l0_1.length c0_1)] 25 (0, 0))) ∧ Aside0 (Below w.heap.size w w'))
      case atStart => exact ⟨(0), zz0, H', ⟨Nat.le_refl _⟩, ⟨zzb BK212⟩, ⟨zzq⟩⟩
      case round =>
       clear H'; (try clear c1); (try clear c2); (try clear p2); (try clear q2); (try clear hx2); (try clear qi2); (try clear c3); (try clear c3b0); (try clear c3b1); (try clear c5); (try clear c5b0); (try clear c10); (try clear c10b0); (try clear hcz11_0); (try clear hcz11_1); (try clear hcz7_0); (try clear hcz7_1); (try clear hcz9_0); (try clear hcz9_1); (try clear hfz11_0); (try clear hfz11_1); (try clear hfz7_0); (try clear hfz7_1); (try clear hfz9_0); (try clear hfz9_1); (try clear hx213_0); (try clear hx215_0); (try clear p2); (try clear p213); (try clear p215); (try clear q2); (try clear q213); (try clear q215); obtain ⟨x7_2, rfl, HA, HK2, BK212, HB⟩ := hrel
       cases gk with
       | zero => exact absurd HA.out (by simp [templeref1_unknown.l1])
       | succ k2 =>
        have H := HA.out; clear HA
        simp only [templeref1_unknown.l1] at H
        by_cases c12 : 0 ≤ x6_1
        ·rw [if_pos c12] at H; have c12b0 : decide (0 ≤ x6_1) = true := decide_eq_true c12; clear c12
         by_cases c13 : x6_1 < (l0_1.length : Int)
         ·rw [if_pos c13] at H; have c13b0 : decide (x6_1 < (l0_1.length : Int)) = true := decide_eq_true c13; clear c13
          by_cases c14 : x7_2 < (((rd_T45 l0_1 x6_1).f1).length : Int)
          ·rw [if_pos c14] at H; have c14b0 : decide (x7_2 < (((rd_T45 l0_1 x6_1).f1).length : Int)) = true := decide_eq_true c14; clear c14; have H' := Aside0.mk H; clear H
           have hcz15_0 : wr.cell? ⟨gb212, 0, none⟩ = some (.slice (some ad213) l0_0.length c0_0) := (blk_cell BK212.out 0).trans rfl
           have hcz15_1 : wr.cell? ⟨gb212, 1, none⟩ = some (.slice A0_1 l0_1.length c0_1) := (blk_cell BK212.out 1).trans rfl
           have hfz15_0 := blk_frozen BK212.out 0; have hfz15_1 := blk_frozen BK212.out 1
           have p216 : 0 ≤ (x6_1 : Int) := of_decide_eq_true zz1
           have q216 : x6_1 < (l0_1.length : Int) := of_decide_eq_true zz1
           obtain ⟨ad216, A216_1, c216_1, e216, hx216_0, hx216_1, hl216_1, hi216_1⟩ := at_T45 HR0_1.out x6_1 p216 q216; cases e216
           replace hx216_0 := (HB.out.cell (World.block_lt_of_cell? w _ hx216_0)).trans hx216_0
           replace hx216_1 := (HB.out.cell (World.block_lt_of_cell? w _ hx216_1)).trans hx216_1
           have HR216_1 := Aside0.mk hi216_1; have HC216_1 := Aside0.mk hl216_1; clear hi216_1 hl216_1; replace p216 := eq_true p216; replace q216 := eq_true q216; go_wp2
           go_loopg [8] k2 (fun kq v8 w' => ∃ (x8_3 : Int), v8 = .int .i64 x8_3 ∧ Aside0 (templeref1_unknown.l2 kq l1 x6_1 x7_2 x8_3 l0_0 l0_1 = some (r1, r2)) ∧ Aside0 (kq ≤ k2) ∧ Aside0 (w'.heap[gb212]? = some (.cells #[(.slice (some ad213) l0_0.length c0_0), (.slice (some ad216) l0_1.length c0_1)] 25 (0, 0))) ∧ Aside0 (Below w.heap.size w w'))
           case atStart => exact ⟨(0), zz0, H', ⟨Nat.le_refl _⟩, ⟨zzb BK212⟩, ⟨zzq⟩⟩
           case round =>
            clear H'; (try clear c1); (try clear c2); (try clear p2); (try clear q2); (try clear hx2); (try clear qi2); (try clear c3); (try clear c3b0); (try clear c3b1); (try clear c5); (try clear c5b0); (try clear c10); (try clear c10b0); (try clear c12); (try clear c12b0); (try clear c13); (try clear c13b0); (try clear c14); (try clear c14b0); (try clear hcz11_0); (try clear hcz11_1); (try clear hcz15_0); (try clear hcz15_1); (try clear hcz7_0); (try clear hcz7_1); (try clear hcz9_0); (try clear hcz9_1); (try clear hfz11_0); (try clear hfz11_1); (try clear hfz15_0); (try clear hfz15_1); (try clear hfz7_0); (try clear hfz7_1); (try clear hfz9_0); (try clear hfz9_1); (try clear hx213_0); (try clear hx215_0); (try clear hx216_0); (try clear hx216_1); (try clear p2); (try clear p213); (try clear p215); (try clear p216); (try clear q2); (try clear q213); (try clear q215); (try clear q216); obtain ⟨x8_3, rfl, HA, HK3, BK212, HB⟩ := hrel
            cases gk with
            | zero => exact absurd HA.out (by simp [templeref1_unknown.l2])
            | succ k3 =>
             have H := HA.out; clear HA
             simp only [templeref1_unknown.l2] at H
             by_cases c16 : 0 ≤ x6_1
             ·rw [if_pos c16] at H; have c16b0 : decide (0 ≤ x6_1) = true := decide_eq_true c16; clear c16
              by_cases c17 : x6_1 < (l0_1.length : Int)
              ·rw [if_pos c17] at H; have c17b0 : decide (x6_1 < (l0_1.length : Int)) = true := decide_eq_true c17; clear c17
               by_cases c18 : 0 ≤ x7_2
               ·rw [if_pos c18] at H; have c18b0 : decide (0 ≤ x7_2) = true := decide_eq_true c18; clear c18
                by_cases c19 : x7_2 < (((rd_T45 l0_1 x6_1).f1).length : Int)
                ·rw [if_pos c19] at H; have c19b0 : decide (x7_2 < (((rd_T45 l0_1 x6_1).f1).length : Int)) = true := decide_eq_true c19; clear c19
                 by_cases c20 : x8_3 < ((rd_L6 ((rd_T45 l0_1 x6_1).f1) x7_2).length : Int)
                 ·rw [if_pos c20] at H; have c20b0 : decide (x8_3 < ((rd_L6 ((rd_T45 l0_1 x6_1).f1) x7_2).length : Int)) = true := decide_eq_true c20; clear c20
                  by_cases c21 : 0 ≤ x8_3
                  ·rw [if_pos c21] at H; have c21b0 : decide (0 ≤ x8_3) = true := decide_eq_true c21; clear c21; have H' := Aside0.mk H; clear H
                   have hcz22_0 : wr.cell? ⟨gb212, 0, none⟩ = some (.slice (some ad213) l0_0.length c0_0) := (blk_cell BK212.out 0).trans rfl
                   have hcz22_1 : wr.cell? ⟨gb212, 1, none⟩ = some (.slice (some ad216) l0_1.length c0_1) := (blk_cell BK212.out 1).trans rfl
                   have hfz22_0 := blk_frozen BK212.out 0; have hfz22_1 := blk_frozen BK212.out 1
                   have p217 : 0 ≤ (x6_1 : Int) := of_decide_eq_true zz1
                   have q217 : x6_1 < (l0_1.length : Int) := of_decide_eq_true zz1
                   obtain ⟨ad217, A217_1, c217_1, e217, hx217_0, hx217_1, hl217_1, hi217_1⟩ := at_T45 HR0_1.out x6_1 p217 q217; obtain rfl : ad216 = ad217 := (by injection e217)
                   replace hx217_0 := (HB.out.cell (World.block_lt_of_cell? w _ hx217_0)).trans hx217_0
                   replace hx217_1 := (HB.out.cell (World.block_lt_of_cell? w _ hx217_1)).trans hx217_1
                   have HR217_1 := Aside0.mk hi217_1; have HC217_1 := Aside0.mk hl217_1; clear hi217_1 hl217_1; replace p217 := eq_true p217; replace q217 := eq_true q217
                   have p218 : 0 ≤ (x7_2 : Int) := of_decide_eq_true zz1
                   have q218 : x7_2 < (((rd_T45 l0_1 x6_1).f1).length : Int) := of_decide_eq_true zz1
                   obtain ⟨ad218, A218_0, c218_0, e218, hx218_0, hl218_0, hi218_0⟩ := at_L6 HR217_1.out x7_2 p218 q218; cases e218
                   replace hx218_0 := (HB.out.cell (World.block_lt_of_cell? w _ hx218_0)).trans hx218_0
                   have HR218_0 := Aside0.mk hi218_0; have HC218_0 := Aside0.mk hl218_0; clear hi218_0 hl218_0; replace p218 := eq_true p218; replace q218 := eq_true q218
                   have p219 : 0 ≤ (x6_1 : Int) := of_decide_eq_true zz1
                   have q219 : x6_1 < (l0_1.length : Int) := of_decide_eq_true zz1
                   obtain ⟨ad219, A219_1, c219_1, e219, hx219_0, hx219_1, hl219_1, hi219_1⟩ := at_T45 HR0_1.out x6_1 p219 q219; obtain rfl : ad216 = ad219 := (by injection e219)
                   replace hx219_0 := (HB.out.cell (World.block_lt_of_cell? w _ hx219_0)).trans hx219_0
                   replace hx219_1 := (HB.out.cell (World.block_lt_of_cell? w _ hx219_1)).trans hx219_1
                   have HR219_1 := Aside0.mk hi219_1; have HC219_1 := Aside0.mk hl219_1; clear hi219_1 hl219_1; replace p219 := eq_true p219; replace q219 := eq_true q219
                   have ea_ := Option.some.inj (hx217_1.symm.trans hx219_1)
                   injection ea_ with ea_ en_ ec_
                   subst ea_; subst ec_; clear en_
                   have p220 : 0 ≤ (x7_2 : Int) := of_decide_eq_true zz1
                   have q220 : x7_2 < (((rd_T45 l0_1 x6_1).f1).length : Int) := of_decide_eq_true zz1
                   obtain ⟨ad220, A220_0, c220_0, e220, hx220_0, hl220_0, hi220_0⟩ := at_L6 HR219_1.out x7_2 p220 q220; cases e220
                   replace hx220_0 := (HB.out.cell (World.block_lt_of_cell? w _ hx220_0)).trans hx220_0
                   have ea_ := Option.some.inj (hx218_0.symm.trans hx220_0)
                   injection ea_ with ea_ en_ ec_
                   subst ea_; subst ec_; clear en_; have HR220_0 := Aside0.mk hi220_0; have HC220_0 := Aside0.mk hl220_0; clear hi220_0 hl220_0; replace p220 := eq_true p220; replace q220 := eq_true q220
                   have p221 : 0 ≤ (x8_3 : Int) := of_decide_eq_true zz1
                   have q221 : x8_3 < ((rd_L6 ((rd_T45 l0_1 x6_1).f1) x7_2).length : Int) := of_decide_eq_true zz1
                   obtain ⟨ad221, A221_1, c221_1, e221, hx221_0, hx221_1, hl221_1, hi221_1⟩ := at_T64 HR220_0.out x8_3 p221 q221; cases e221
                   replace hx221_0 := (HB.out.cell (World.block_lt_of_cell? w _ hx221_0)).trans hx221_0
                   replace hx221_1 := (HB.out.cell (World.block_lt_of_cell? w _ hx221_1)).trans hx221_1
                   have HR221_1 := Aside0.mk hi221_1; have HC221_1 := Aside0.mk hl221_1; clear hi221_1 hl221_1; replace p221 := eq_true p221; replace q221 := eq_true q221; go_wp2
                   go_loopg [10] k3 (fun kq v10 w' => ∃ (x10_4 : Int), v10 = .int .i64 x10_4 ∧ Aside0 (templeref1_unknown.l3 kq l1 x6_1 x7_2 x8_3 ((rd_T64 (rd_L6 ((rd_T45 l0_1 x6_1).f1) x7_2) x8_3).f1) x10_4 l0_0 l0_1 = some (r1, r2)) ∧ Aside0 (kq ≤ k3) ∧ Aside0 (w'.heap[gb212]? = some (.cells #[(.slice (some ad213) l0_0.length c0_0), (.slice (some ad216) l0_1.length c0_1)] 25 (0, 0))) ∧ Aside0 (Below w.heap.size w w'))
                   case atStart => exact ⟨(0), zz0, H', ⟨Nat.le_refl _⟩, ⟨zzb BK212⟩, ⟨zzq⟩⟩
                   case round =>
                    clear H'; (try clear c1); (try clear c2); (try clear p2); (try clear q2); (try clear hx2); (try clear qi2); (try clear c3); (try clear c3b0); (try clear c3b1); (try clear c5); (try clear c5b0); (try clear c10); (try clear c10b0); (try clear c12); (try clear c12b0); (try clear c13); (try clear c13b0); (try clear c14); (try clear c14b0); (try clear c16); (try clear c16b0); (try clear c17); (try clear c17b0); (try clear c18); (try clear c18b0); (try clear c19); (try clear c19b0); (try clear c20); (try clear c20b0); (try clear c21); (try clear c21b0); (try clear p21); (try clear q21); (try clear hx21); (try clear qi21); (try clear c22); (try clear p22); (try clear q22); (try clear hx22); (try clear hcz11_0); (try clear hcz11_1); (try clear hcz15_0); (try clear hcz15_1); (try clear hcz22_0); (try clear hcz22_1); (try clear hcz7_0); (try clear hcz7_1); (try clear hcz9_0); (try clear hcz9_1); (try clear hfz11_0); (try clear hfz11_1); (try clear hfz15_0); (try clear hfz15_1); (try clear hfz22_0); (try clear hfz22_1); (try clear hfz7_0); (try clear hfz7_1); (try clear hfz9_0); (try clear hfz9_1); (try clear hx213_0); (try clear hx215_0); (try clear hx216_0); (try clear hx216_1); (try clear hx217_0); (try clear hx217_1); (try clear hx218_0); (try clear hx219_0); (try clear hx219_1); (try clear hx220_0); (try clear hx221_0); (try clear hx221_1); (try clear p2); (try clear p213); (try clear p215); (try clear p216); (try clear p217); (try clear p218); (try clear p219); (try clear p220); (try clear p221); (try clear q2); (try clear q213); (try clear q215); (try clear q216); (try clear q217); (try clear q218); (try clear q219); (try clear q220); (try clear q221); obtain ⟨x10_4, rfl, HA, HK4, BK212, HB⟩ := hrel
                    cases gk with
                    | zero => exact absurd HA.out (by simp [templeref1_unknown.l3])
                    | succ k4 =>
                     have H := HA.out; clear HA
                     simp only [templeref1_unknown.l3] at H
                     by_cases c23 : x10_4 < (((rd_T64 (rd_L6 ((rd_T45 l0_1 x6_1).f1) x7_2) x8_3).f1).length : Int)
                     ·rw [if_pos c23] at H; have c23b0 : decide (x10_4 < (((rd_T64 (rd_L6 ((rd_T45 l0_1 x6_1).f1) x7_2) x8_3).f1).length : Int)) = true := decide_eq_true c23; clear c23
                      by_cases c24 : 0 ≤ x10_4
                      ·rw [if_pos c24] at H; have c24b0 : decide (0 ≤ x10_4) = true := decide_eq_true c24; clear c24
                       by_cases c25 : ((rd_T61 ((rd_T64 (rd_L6 ((rd_T45 l0_1 x6_1).f1) x7_2) x8_3).f1) x10_4).f0) = 0
                       ·rw [if_pos c25] at H; have c25b0 : (((rd_T61 ((rd_T64 (rd_L6 ((rd_T45 l0_1 x6_1).f1) x7_2) x8_3).f1) x10_4).f0) == 0) = true := beq_iff_eq.mpr c25; have c25b1 : (((rd_T61 ((rd_T64 (rd_L6 ((rd_T45 l0_1 x6_1).f1) x7_2) x8_3).f1) x10_4).f0) != 0) = false := bne_eq_false_iff_eq.mpr c25; clear c25; replace H := Option.bind_eq_some_iff.mp H; obtain ⟨t224, A260, H⟩ := H; (try dsimp only at H); have A26 := Aside0.mk A260; clear A260
                        by_cases c27 : t224 < 0
                        ·rw [if_pos c27] at H; have c27b0 : decide (t224 < 0) = true := decide_eq_true c27; clear c27
                         simp only [Option.some.injEq, Prod.mk.injEq] at H
                         obtain ⟨rfl, rfl⟩ := H
                         have p222 : 0 ≤ (x10_4 : Int) := of_decide_eq_true zz1
                         have q222 : x10_4 < (((rd_T64 (rd_L6 ((rd_T45 l0_1 x6_1).f1) x7_2) x8_3).f1).length : Int) := of_decide_eq_true zz1
                         obtain ⟨ad222, e222, hx222_0, hx222_1, hx222_2, hx222_3⟩ := at_T61 HR221_1.out x10_4 p222 q222; cases e222
                         replace hx222_0 := (HB.out.cell (World.block_lt_of_cell? w _ hx222_0)).trans hx222_0
                         replace hx222_1 := (HB.out.cell (World.block_lt_of_cell? w _ hx222_1)).trans hx222_1
                         replace hx222_2 := (HB.out.cell (World.block_lt_of_cell? w _ hx222_2)).trans hx222_2
                         replace hx222_3 := (HB.out.cell (World.block_lt_of_cell? w _ hx222_3)).trans hx222_3
                         replace p222 := eq_true p222; replace q222 := eq_true q222
                         have p223 : 0 ≤ (x10_4 : Int) := of_decide_eq_true zz1
                         have q223 : x10_4 < (((rd_T64 (rd_L6 ((rd_T45 l0_1 x6_1).f1) x7_2) x8_3).f1).length : Int) := of_decide_eq_true zz1
                         obtain ⟨ad223, e223, hx223_0, hx223_1, hx223_2, hx223_3⟩ := at_T61 HR221_1.out x10_4 p223 q223; obtain rfl : ad222 = ad223 := (by injection e223)
                         replace hx223_0 := (HB.out.cell (World.block_lt_of_cell? w _ hx223_0)).trans hx223_0
                         replace hx223_1 := (HB.out.cell (World.block_lt_of_cell? w _ hx223_1)).trans hx223_1
                         replace hx223_2 := (HB.out.cell (World.block_lt_of_cell? w _ hx223_2)).trans hx223_2
                         replace hx223_3 := (HB.out.cell (World.block_lt_of_cell? w _ hx223_3)).trans hx223_3
                         replace p223 := eq_true p223; replace q223 := eq_true q223
                         go_wp2_with (first | (go_at_call 28; (with_reducible refine (templeref1_find.calls k4 _ _ l1 ((rd_T61 ((rd_T64 (rd_L6 ((rd_T45 l0_1 x6_1).f1) x7_2) x8_3).f1) x10_4).f1) t224 _ ?side1 ?side2 A26.out).mono ?_); (case side1 => exact zzc (Kd.C_below HR1.out HB.out)); (case side2 => exact HC1.out); rintro e w' ⟨rfl, ⟨nd, rfl⟩⟩; have p225 : 0 ≤ (x10_4 : Int) := of_decide_eq_true zz1; have q225 : x10_4 < (((rd_T64 (rd_L6 ((rd_T45 l0_1 x6_1).f1) x7_2) x8_3).f1).length : Int) := of_decide_eq_true zz1; obtain ⟨ad225, e225, hx225_0, hx225_1, hx225_2, hx225_3⟩ := at_T61 HR221_1.out x10_4 p225 q225; obtain rfl : ad222 = ad225 := (by injection e225); replace hx225_0 := (HB.out.cell (World.block_lt_of_cell? w _ hx225_0)).trans hx225_0; replace hx225_1 := (HB.out.cell (World.block_lt_of_cell? w _ hx225_1)).trans hx225_1; replace hx225_2 := (HB.out.cell (World.block_lt_of_cell? w _ hx225_2)).trans hx225_2; replace hx225_3 := (HB.out.cell (World.block_lt_of_cell? w _ hx225_3)).trans hx225_3; replace p225 := eq_true p225; replace q225 := eq_true q225))
                         go_ret2
                         exact ⟨by first | rfl | (simp [errW_none, errW_some] <;> rfl) | (simp [*, errW_none, errW_some] <;> rfl), zzq⟩
                        ·rw [if_neg c27] at H; have c27b0 : decide (t224 < 0) = false := decide_eq_false c27; clear c27; have H' := Aside0.mk H; clear H
                         have p222 : 0 ≤ (x10_4 : Int) := of_decide_eq_true zz1
                         have q222 : x10_4 < (((rd_T64 (rd_L6 ((rd_T45 l0_1 x6_1).f1) x7_2) x8_3).f1).length : Int) := of_decide_eq_true zz1
                         obtain ⟨ad222, e222, hx222_0, hx222_1, hx222_2, hx222_3⟩ := at_T61 HR221_1.out x10_4 p222 q222; cases e222
                         replace hx222_0 := (HB.out.cell (World.block_lt_of_cell? w _ hx222_0)).trans hx222_0
                         replace hx222_1 := (HB.out.cell (World.block_lt_of_cell? w _ hx222_1)).trans hx222_1
                         replace hx222_2 := (HB.out.cell (World.block_lt_of_cell? w _ hx222_2)).trans hx222_2
                         replace hx222_3 := (HB.out.cell (World.block_lt_of_cell? w _ hx222_3)).trans hx222_3
                         replace p222 := eq_true p222; replace q222 := eq_true q222
                         have p223 : 0 ≤ (x10_4 : Int) := of_decide_eq_true zz1
                         have q223 : x10_4 < (((rd_T64 (rd_L6 ((rd_T45 l0_1 x6_1).f1) x7_2) x8_3).f1).length : Int) := of_decide_eq_true zz1
                         obtain ⟨ad223, e223, hx223_0, hx223_1, hx223_2, hx223_3⟩ := at_T61 HR221_1.out x10_4 p223 q223; obtain rfl : ad222 = ad223 := (by injection e223)
                         replace hx223_0 := (HB.out.cell (World.block_lt_of_cell? w _ hx223_0)).trans hx223_0
                         replace hx223_1 := (HB.out.cell (World.block_lt_of_cell? w _ hx223_1)).trans hx223_1
                         replace hx223_2 := (HB.out.cell (World.block_lt_of_cell? w _ hx223_2)).trans hx223_2
                         replace hx223_3 := (HB.out.cell (World.block_lt_of_cell? w _ hx223_3)).trans hx223_3
                         replace p223 := eq_true p223; replace q223 := eq_true q223
                         go_wp2_with (first | (go_at_call 28; (with_reducible refine (templeref1_find.calls k4 _ _ l1 ((rd_T61 ((rd_T64 (rd_L6 ((rd_T45 l0_1 x6_1).f1) x7_2) x8_3).f1) x10_4).f1) t224 _ ?side1 ?side2 A26.out).mono ?_); (case side1 => exact zzc (Kd.C_below HR1.out HB.out)); (case side2 => exact HC1.out); rintro e w' ⟨rfl, ⟨nd, rfl⟩⟩))
                         go_roundg k4
                         case measure => have := HK1.out; have := HK2.out; have := HK3.out; have := HK4.out; omega
                         case rel => exact ⟨(wrap64 (x10_4 + 1)), zz0, H', ⟨by have := HK1.out; have := HK2.out; have := HK3.out; have := HK4.out; omega⟩, ⟨zzb BK212⟩, ⟨zzq⟩⟩
                       ·rw [if_neg c25] at H; have c25b0 : (((rd_T61 ((rd_T64 (rd_L6 ((rd_T45 l0_1 x6_1).f1) x7_2) x8_3).f1) x10_4).f0) == 0) = false := beq_eq_false_iff_ne.mpr c25; have c25b1 : (((rd_T61 ((rd_T64 (rd_L6 ((rd_T45 l0_1 x6_1).f1) x7_2) x8_3).f1) x10_4).f0) != 0) = true := bne_iff_ne.mpr c25; have H' := Aside0.mk H; clear H
                        have p222 : 0 ≤ (x10_4 : Int) := of_decide_eq_true zz1
                        have q222 : x10_4 < (((rd_T64 (rd_L6 ((rd_T45 l0_1 x6_1).f1) x7_2) x8_3).f1).length : Int) := of_decide_eq_true zz1
                        obtain ⟨ad222, e222, hx222_0, hx222_1, hx222_2, hx222_3⟩ := at_T61 HR221_1.out x10_4 p222 q222; cases e222
                        replace hx222_0 := (HB.out.cell (World.block_lt_of_cell? w _ hx222_0)).trans hx222_0
                        replace hx222_1 := (HB.out.cell (World.block_lt_of_cell? w _ hx222_1)).trans hx222_1
                        replace hx222_2 := (HB.out.cell (World.block_lt_of_cell? w _ hx222_2)).trans hx222_2
                        replace hx222_3 := (HB.out.cell (World.block_lt_of_cell? w _ hx222_3)).trans hx222_3
                        replace p222 := eq_true p222; replace q222 := eq_true q222; go_wp2; go_roundg k4
                        case measure => have := HK1.out; have := HK2.out; have := HK3.out; have := HK4.out; omega
                        case rel => exact ⟨(wrap64 (x10_4 + 1)), zz0, H', ⟨by have := HK1.out; have := HK2.out; have := HK3.out; have := HK4.out; omega⟩, ⟨zzb BK212⟩, ⟨zzq⟩⟩
                      ·rw [if_neg c24] at H
                       exact absurd H (by simp)
                     ·rw [if_neg c23] at H; have c23b0 : decide (x10_4 < (((rd_T64 (rd_L6 ((rd_T45 l0_1 x6_1).f1) x7_2) x8_3).f1).length : Int)) = false := decide_eq_false c23; clear c23; have H' := Aside0.mk H; clear H; go_wp2; go_roundg k4
                      case measure => have := HK1.out; have := HK2.out; have := HK3.out; have := HK4.out; omega
                      case rel => exact ⟨(wrap64 (x8_3 + 1)), zz0, H', ⟨by have := HK1.out; have := HK2.out; have := HK3.out; have := HK4.out; omega⟩, ⟨zzb BK212⟩, ⟨zzq⟩⟩
                  ·rw [if_neg c21] at H
                   exact absurd H (by simp)
                 ·rw [if_neg c20] at H; have c20b0 : decide (x8_3 < ((rd_L6 ((rd_T45 l0_1 x6_1).f1) x7_2).length : Int)) = false := decide_eq_false c20; clear c20; have H' := Aside0.mk H; clear H
                  have hcz28_0 : wr.cell? ⟨gb212, 0, none⟩ = some (.slice (some ad213) l0_0.length c0_0) := (blk_cell BK212.out 0).trans rfl
                  have hcz28_1 : wr.cell? ⟨gb212, 1, none⟩ = some (.slice (some ad216) l0_1.length c0_1) := (blk_cell BK212.out 1).trans rfl
                  have hfz28_0 := blk_frozen BK212.out 0; have hfz28_1 := blk_frozen BK212.out 1
                  have p217 : 0 ≤ (x6_1 : Int) := of_decide_eq_true zz1
                  have q217 : x6_1 < (l0_1.length : Int) := of_decide_eq_true zz1
                  obtain ⟨ad217, A217_1, c217_1, e217, hx217_0, hx217_1, hl217_1, hi217_1⟩ := at_T45 HR0_1.out x6_1 p217 q217; obtain rfl : ad216 = ad217 := (by injection e217)
                  replace hx217_0 := (HB.out.cell (World.block_lt_of_cell? w _ hx217_0)).trans hx217_0
                  replace hx217_1 := (HB.out.cell (World.block_lt_of_cell? w _ hx217_1)).trans hx217_1
                  have HR217_1 := Aside0.mk hi217_1; have HC217_1 := Aside0.mk hl217_1; clear hi217_1 hl217_1; replace p217 := eq_true p217; replace q217 := eq_true q217
                  have p218 : 0 ≤ (x7_2 : Int) := of_decide_eq_true zz1
                  have q218 : x7_2 < (((rd_T45 l0_1 x6_1).f1).length : Int) := of_decide_eq_true zz1
                  obtain ⟨ad218, A218_0, c218_0, e218, hx218_0, hl218_0, hi218_0⟩ := at_L6 HR217_1.out x7_2 p218 q218; cases e218
                  replace hx218_0 := (HB.out.cell (World.block_lt_of_cell? w _ hx218_0)).trans hx218_0
                  have HR218_0 := Aside0.mk hi218_0; have HC218_0 := Aside0.mk hl218_0; clear hi218_0 hl218_0; replace p218 := eq_true p218; replace q218 := eq_true q218; go_wp2; go_roundg k3
                  case measure => have := HK1.out; have := HK2.out; have := HK3.out; omega
                  case rel => exact ⟨(wrap64 (x7_2 + 1)), zz0, H', ⟨by have := HK1.out; have := HK2.out; have := HK3.out; omega⟩, ⟨zzb BK212⟩, ⟨zzq⟩⟩
                ·rw [if_neg c19] at H
                 exact absurd H (by simp)
               ·rw [if_neg c18] at H
                exact absurd H (by simp)
              ·rw [if_neg c17] at H
               exact absurd H (by simp)
             ·rw [if_neg c16] at H
              exact absurd H (by simp)
          ·rw [if_neg c14] at H; have c14b0 : decide (x7_2 < (((rd_T45 l0_1 x6_1).f1).length : Int)) = false := decide_eq_false c14; clear c14; have H' := Aside0.mk H; clear H
           have hcz29_0 : wr.cell? ⟨gb212, 0, none⟩ = some (.slice (some ad213) l0_0.length c0_0) := (blk_cell BK212.out 0).trans rfl
           have hcz29_1 : wr.cell? ⟨gb212, 1, none⟩ = some (.slice A0_1 l0_1.length c0_1) := (blk_cell BK212.out 1).trans rfl
           have hfz29_0 := blk_frozen BK212.out 0; have hfz29_1 := blk_frozen BK212.out 1
           have p216 : 0 ≤ (x6_1 : Int) := of_decide_eq_true zz1
           have q216 : x6_1 < (l0_1.length : Int) := of_decide_eq_true zz1
           obtain ⟨ad216, A216_1, c216_1, e216, hx216_0, hx216_1, hl216_1, hi216_1⟩ := at_T45 HR0_1.out x6_1 p216 q216; cases e216
           replace hx216_0 := (HB.out.cell (World.block_lt_of_cell? w _ hx216_0)).trans hx216_0
           replace hx216_1 := (HB.out.cell (World.block_lt_of_cell? w _ hx216_1)).trans hx216_1
           have HR216_1 := Aside0.mk hi216_1; have HC216_1 := Aside0.mk hl216_1; clear hi216_1 hl216_1; replace p216 := eq_true p216; replace q216 := eq_true q216; go_wp2; go_roundg k2
           case measure => have := HK1.out; have := HK2.out; omega
           case rel => exact ⟨(wrap64 (x6_1 + 1)), zz0, H', ⟨by have := HK1.out; have := HK2.out; omega⟩, ⟨zzb BK212⟩, ⟨zzq⟩⟩
         ·rw [if_neg c13] at H
          exact absurd H (by simp)
        ·rw [if_neg c12] at H
         exact absurd H (by simp)
     ·rw [if_neg c10] at H; have c10b0 : decide (x6_1 < (l0_1.length : Int)) = false := decide_eq_false c10; clear c10
      simp only [Option.some.injEq, Prod.mk.injEq] at H
      obtain ⟨rfl, rfl⟩ := H
      have hcz30_0 : wr.cell? ⟨gb212, 0, none⟩ = some (.slice (some ad213) l0_0.length c0_0) := (blk_cell BK212.out 0).trans rfl
      have hcz30_1 : wr.cell? ⟨gb212, 1, none⟩ = some (.slice A0_1 l0_1.length c0_1) := (blk_cell BK212.out 1).trans rfl
      have hfz30_0 := blk_frozen BK212.out 0; have hfz30_1 := blk_frozen BK212.out 1; go_wp2; go_ret2
      exact ⟨by first | rfl | (simp [errW_none, errW_some] <;> rfl) | (simp [*, errW_none, errW_some] <;> rfl), zzq⟩
 ·rw [if_neg c3] at H
  exact absurd H (by simp)

end Go.Proofs.Ytdjnpgigdchfkaa.PBS
