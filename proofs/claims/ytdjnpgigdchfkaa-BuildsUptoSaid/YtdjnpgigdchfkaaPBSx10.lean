-- written by a program of the session's (wip/myprint.py) out of the translation
import Derived.Test.YtdjnpgigdchfkaaPBSx0
namespace Go.Proofs.Ytdjnpgigdchfkaa.PBS
open Go.RowKit Go.Proofs.YtdjnpgigdchfkaaW.PrintWords Go.Proofs.YtdjnpgigdchfkaaW.PrintLast Go.Proofs.YtdjnpgigdchfkaaW.PrintMore
attribute [local go_sem] max2_int min2_int max_two min_two max_three min_three max_four min_four   -- for this text's walks alone
set_option linter.unusedVariables false
set_option linter.unusedSimpArgs false

/-! ### templeref1_hollow: function 30 -/
mutual
def templeref1_hollow.l0 : Nat → Int → List ByteArray → List (S45) → Option (ByteArray × Bool)
 | 0, _, _, _ => none
 | k + 1, x4, x227000, x227001 => if x4 < (x227001.length : Int) then (templeref1_hollow.l1 k x4 0 x227000 x227001) else (some ((⟨#[]⟩ : ByteArray), false))
def templeref1_hollow.l1 : Nat → Int → Int → List ByteArray → List (S45) → Option (ByteArray × Bool)
 | 0, _, _, _, _ => none
 | k + 1, x4, x5, x227000, x227001 => if 0 ≤ x4 then (if x4 < (x227001.length : Int) then (if x5 < (((rd_T45 x227001 x4).f1).length : Int) then (templeref1_hollow.l2 k x4 x5 0 x227000 x227001) else (templeref1_hollow.l0 k (wrap64 (x4 + 1)) x227000 x227001)) else (none)) else (none)
def templeref1_hollow.l2 : Nat → Int → Int → Int → List ByteArray → List (S45) → Option (ByteArray × Bool)
 | 0, _, _, _, _, _ => none
 | k + 1, x4, x5, x6, x227000, x227001 => if 0 ≤ x4 then (if x4 < (x227001.length : Int) then (if 0 ≤ x5 then (if x5 < (((rd_T45 x227001 x4).f1).length : Int) then (if x6 < ((rd_L6 ((rd_T45 x227001 x4).f1) x5).length : Int) then (if 0 ≤ x6 then (templeref1_hollow.l3 k x4 x5 x6 ((rd_T64 (rd_L6 ((rd_T45 x227001 x4).f1) x5) x6).f1) 0 x227000 x227001) else (none)) else (templeref1_hollow.l1 k x4 (wrap64 (x5 + 1)) x227000 x227001)) else (none)) else (none)) else (none)) else (none)
def templeref1_hollow.l3 : Nat → Int → Int → Int → List (S61) → Int → List ByteArray → List (S45) → Option (ByteArray × Bool)
 | 0, _, _, _, _, _, _, _ => none
 | k + 1, x4, x5, x6, x7, x8, x227000, x227001 => if x8 < (x7.length : Int) then (if 0 ≤ x8 then (if ((rd_T61 x7 x8).f0) = 2 then (if ((rd_T61 x7 x8).f2) > ((rd_T61 x7 x8).f3) then (if 0 ≤ x4 then (if x4 < (x227001.length : Int) then (some ((rd_T45 x227001 x4).f0, true)) else (none)) else (none)) else (templeref1_hollow.l3 k x4 x5 x6 x7 (wrap64 (x8 + 1)) x227000 x227001)) else (templeref1_hollow.l3 k x4 x5 x6 x7 (wrap64 (x8 + 1)) x227000 x227001)) else (none)) else (templeref1_hollow.l2 k x4 x5 (wrap64 (x6 + 1)) x227000 x227001)
end
def templeref1_hollow.f (k : Nat) (l0_0 : List ByteArray) (l0_1 : List (S45)) : Option (ByteArray × Bool) := templeref1_hollow.l0 k 0 l0_0 l0_1
theorem templeref1_hollow.mono_l : ∀ k, (∀ y0 y1 y2, LeO (templeref1_hollow.l0 k y0 y1 y2) (templeref1_hollow.l0 (k + 1) y0 y1 y2)) ∧ (∀ y0 y1 y2 y3, LeO (templeref1_hollow.l1 k y0 y1 y2 y3) (templeref1_hollow.l1 (k + 1) y0 y1 y2 y3)) ∧ (∀ y0 y1 y2 y3 y4, LeO (templeref1_hollow.l2 k y0 y1 y2 y3 y4) (templeref1_hollow.l2 (k + 1) y0 y1 y2 y3 y4)) ∧ (∀ y0 y1 y2 y3 y4 y5 y6, LeO (templeref1_hollow.l3 k y0 y1 y2 y3 y4 y5 y6) (templeref1_hollow.l3 (k + 1) y0 y1 y2 y3 y4 y5 y6))
 | 0 => ⟨fun _ _ _ r h => by simp [templeref1_hollow.l0] at h, fun _ _ _ _ r h => by simp [templeref1_hollow.l1] at h, fun _ _ _ _ _ r h => by simp [templeref1_hollow.l2] at h, fun _ _ _ _ _ _ _ r h => by simp [templeref1_hollow.l3] at h⟩
 | k + 1 => by
  obtain ⟨ih0, ih1, ih2, ih3⟩ := templeref1_hollow.mono_l k
  refine ⟨?_, ?_, ?_, ?_⟩
  ·intro y0 y1 y2
   unfold templeref1_hollow.l0
   repeat' first
   | (with_reducible exact ih0 _ _ _)
   | (with_reducible exact ih1 _ _ _ _)
   | (with_reducible exact ih2 _ _ _ _ _)
   | (with_reducible exact ih3 _ _ _ _ _ _ _)
   | (with_reducible exact LeO.refl _)
   | (with_reducible exact LeO.none _)
   | (with_reducible refine LeO.ite ?_ ?_)
   | (with_reducible refine LeO.bind ?_ (fun _ => ?_))
   | exact ih0 _ _ _
   | exact ih1 _ _ _ _
   | exact ih2 _ _ _ _ _
   | exact ih3 _ _ _ _ _ _ _
   | exact LeO.none _
   | refine LeO.ite ?_ ?_
   | refine LeO.bind ?_ (fun _ => ?_)
  ·intro y0 y1 y2 y3
   unfold templeref1_hollow.l1
   repeat' first
   | (with_reducible exact ih0 _ _ _)
   | (with_reducible exact ih1 _ _ _ _)
   | (with_reducible exact ih2 _ _ _ _ _)
   | (with_reducible exact ih3 _ _ _ _ _ _ _)
   | (with_reducible exact LeO.refl _)
   | (with_reducible exact LeO.none _)
   | (with_reducible refine LeO.ite ?_ ?_)
   | (with_reducible refine LeO.bind ?_ (fun _ => ?_))
   | exact ih0 _ _ _
   | exact ih1 _ _ _ _
   | exact ih2 _ _ _ _ _
   | exact ih3 _ _ _ _ _ _ _
   | exact LeO.none _
   | refine LeO.ite ?_ ?_
   | refine LeO.bind ?_ (fun _ => ?_)
  ·intro y0 y1 y2 y3 y4
   unfold templeref1_hollow.l2
   repeat' first
   | (with_reducible exact ih0 _ _ _)
   | (with_reducible exact ih1 _ _ _ _)
   | (with_reducible exact ih2 _ _ _ _ _)
   | (with_reducible exact ih3 _ _ _ _ _ _ _)
   | (with_reducible exact LeO.refl _)
   | (with_reducible exact LeO.none _)
   | (with_reducible refine LeO.ite ?_ ?_)
   | (with_reducible refine LeO.bind ?_ (fun _ => ?_))
   | exact ih0 _ _ _
   | exact ih1 _ _ _ _
   | exact ih2 _ _ _ _ _
   | exact ih3 _ _ _ _ _ _ _
   | exact LeO.none _
   | refine LeO.ite ?_ ?_
   | refine LeO.bind ?_ (fun _ => ?_)
  ·intro y0 y1 y2 y3 y4 y5 y6
   unfold templeref1_hollow.l3
   repeat' first
   | (with_reducible exact ih0 _ _ _)
   | (with_reducible exact ih1 _ _ _ _)
   | (with_reducible exact ih2 _ _ _ _ _)
   | (with_reducible exact ih3 _ _ _ _ _ _ _)
   | (with_reducible exact LeO.refl _)
   | (with_reducible exact LeO.none _)
   | (with_reducible refine LeO.ite ?_ ?_)
   | (with_reducible refine LeO.bind ?_ (fun _ => ?_))
   | exact ih0 _ _ _
   | exact ih1 _ _ _ _
   | exact ih2 _ _ _ _ _
   | exact ih3 _ _ _ _ _ _ _
   | exact LeO.none _
   | refine LeO.ite ?_ ?_
   | refine LeO.bind ?_ (fun _ => ?_)
theorem templeref1_hollow.mono : ∀ a0 a1 k, LeO (templeref1_hollow.f k a0 a1) (templeref1_hollow.f (k + 1) a0 a1) := by
 intro a0 a1 k
 obtain ⟨ih0, ih1, ih2, ih3⟩ := templeref1_hollow.mono_l k
 unfold templeref1_hollow.f
 repeat' first
   | (with_reducible exact ih0 _ _ _)
   | (with_reducible exact ih1 _ _ _ _)
   | (with_reducible exact ih2 _ _ _ _ _)
   | (with_reducible exact ih3 _ _ _ _ _ _ _)
   | (with_reducible exact LeO.refl _)
   | (with_reducible exact LeO.none _)
   | (with_reducible refine LeO.ite ?_ ?_)
   | (with_reducible refine LeO.bind ?_ (fun _ => ?_))
   | exact ih0 _ _ _
   | exact ih1 _ _ _ _
   | exact ih2 _ _ _ _ _
   | exact ih3 _ _ _ _ _ _ _
   | exact LeO.none _
   | refine LeO.ite ?_ ?_
   | refine LeO.bind ?_ (fun _ => ?_)
set_option maxHeartbeats 8000000 in
set_option maxRecDepth 100000 in
theorem templeref1_hollow.calls (k : Nat) (A0_0 : Option Addr) (c0_0 : Nat) (l0_0 : List ByteArray) (A0_1 : Option Addr) (c0_1 : Nat) (l0_1 : List (S45)) (r1 : ByteArray) (r2 : Bool) (w : World) (hr0_0 : Kd.C Kd.string w A0_0 l0_0.length l0_0) (hc0_0 : l0_0.length ≤ c0_0) (hr0_1 : Kd.C k45 w A0_1 l0_1.length l0_1) (hc0_1 : l0_1.length ≤ c0_1) (h : templeref1_hollow.f k l0_0 l0_1 = some (r1, r2)) :
  Calls Try.prog 30 #[.agg #[.slice A0_0 l0_0.length c0_0, .slice A0_1 l0_1.length c0_1]] w fun e w' => e = .returned (.tuple #[.string r1, .bool r2]) ∧ Below w.heap.size w w' := by
 have hu25 := Try.underlying25; have HR0_0 := Aside0.mk hr0_0; have HC0_0 := Aside0.mk hc0_0; clear hr0_0 hc0_0; have HR0_1 := Aside0.mk hr0_1; have HC0_1 := Aside0.mk hc0_1; clear hr0_1 hc0_1
 have HB := Aside0.mk (Below.refl w.heap.size w)
 have H : (templeref1_hollow.l0 k 0 l0_0 l0_1) = some (r1, r2) := h
 clear h; have H' := Aside0.mk H; clear H
 go_enter Try.func30, Try.ntmps30
 go_wp2_with (first | ((with_reducible refine gate_dst (N := 1) rfl ?_); refine box_event (by rfl) (N := 1) (by rfl) (cs := #[.slice A0_0 l0_0.length c0_0, .slice A0_1 l0_1.length c0_1]) (t := 25) zzh ?_; intro gb226 hg w2 hbox hb; have n0_ := Aside0.mk (below_step zzq hb); have n1_ := Aside0.mk (hbox); have n2_ := Aside0.mk ((zzg hg zzq)); have n3_ := Aside0.mk ((zzg hg zzq)); clear HB; have HB := n0_; have BK226 := n1_; have GW226 := n2_; have GE226 := n3_; clear n0_ n1_ n2_ n3_; clear hb hbox hg))
 repeat (go_quiet (first | ((with_reducible refine gate_dst (N := 1) rfl ?_); refine box_event (by rfl) (N := 1) (by rfl) (cs := #[.slice A0_0 l0_0.length c0_0, .slice A0_1 l0_1.length c0_1]) (t := 25) zzh ?_; intro gb226 hg w2 hbox hb; have n0_ := Aside0.mk (below_step zzq hb); have n1_ := Aside0.mk (hbox); have n2_ := Aside0.mk ((zzg hg zzq)); have n3_ := Aside0.mk ((zzg hg zzq)); clear HB; have HB := n0_; have BK226 := n1_; have GW226 := n2_; have GE226 := n3_; clear n0_ n1_ n2_ n3_; clear hb hbox hg)); try go_wp2_with (first | ((with_reducible refine gate_dst (N := 1) rfl ?_); refine box_event (by rfl) (N := 1) (by rfl) (cs := #[.slice A0_0 l0_0.length c0_0, .slice A0_1 l0_1.length c0_1]) (t := 25) zzh ?_; intro gb226 hg w2 hbox hb; have n0_ := Aside0.mk (below_step zzq hb); have n1_ := Aside0.mk (hbox); have n2_ := Aside0.mk ((zzg hg zzq)); have n3_ := Aside0.mk ((zzg hg zzq)); clear HB; have HB := n0_; have BK226 := n1_; have GW226 := n2_; have GE226 := n3_; clear n0_ n1_ n2_ n3_; clear hb hbox hg)))
 go_loopg [4] k (fun kq v4 w' => ∃ (x4_1 : Int), v4 = .int .i64 x4_1 ∧ Aside0 (templeref1_hollow.l0 kq x4_1 l0_0 l0_1 = some (r1, r2)) ∧ Aside0 (kq ≤ k) ∧ Aside0 (w'.heap[gb226]? = some (.cells #[(.slice A0_0 l0_0.length c0_0), (.slice A0_1 l0_1.length c0_1)] 25 (0, 0))) ∧ Aside0 (Below w.heap.size w w'))
 case atStart => exact ⟨(0), zz0, H', ⟨Nat.le_refl _⟩, ⟨zzb BK226⟩, ⟨zzq⟩⟩
 case round =>
  clear H'; (try clear p2); obtain ⟨x4_1, rfl, HA, HK1, BK226, HB⟩ := hrel
  cases gk with
  | zero => exact absurd HA.out (by simp [templeref1_hollow.l0])
  | succ k1 =>
   have H := HA.out; clear HA
   simp only [templeref1_hollow.l0] at H
   by_cases c3 : x4_1 < (l0_1.length : Int)
   ·rw [if_pos c3] at H; have c3b0 : decide (x4_1 < (l0_1.length : Int)) = true := decide_eq_true c3; clear c3; have H' := Aside0.mk H; clear H
    have hcz4_0 : wr.cell? ⟨gb226, 0, none⟩ = some (.slice A0_0 l0_0.length c0_0) := (blk_cell BK226.out 0).trans rfl
    have hcz4_1 : wr.cell? ⟨gb226, 1, none⟩ = some (.slice A0_1 l0_1.length c0_1) := (blk_cell BK226.out 1).trans rfl
    have hfz4_0 := blk_frozen BK226.out 0; have hfz4_1 := blk_frozen BK226.out 1; go_wp2
    repeat (go_quiet (fail); try go_wp2)
    go_loopg [5] k1 (fun kq v5 w' => ∃ (x5_2 : Int), v5 = .int .i64 x5_2 ∧ Aside0 (templeref1_hollow.l1 kq x4_1 x5_2 l0_0 l0_1 = some (r1, r2)) ∧ Aside0 (kq ≤ k1) ∧ Aside0 (w'.heap[gb226]? = some (.cells #[(.slice A0_0 l0_0.length c0_0), (.slice A0_1 l0_1.length c0_1)] 25 (0, 0))) ∧ Aside0 (Below w.heap.size w w'))
    case atStart => exact ⟨(0), zz0, H', ⟨Nat.le_refl _⟩, ⟨zzb BK226⟩, ⟨zzq⟩⟩
    case round =>
     clear H'; (try clear p2); (try clear c3); (try clear c3b0); (try clear hcz4_0); (try clear hcz4_1); (try clear hfz4_0); (try clear hfz4_1); (try clear p2); obtain ⟨x5_2, rfl, HA, HK2, BK226, HB⟩ := hrel
     cases gk with
     | zero => exact absurd HA.out (by simp [templeref1_hollow.l1])
     | succ k2 =>
      have H := HA.out; clear HA
      simp only [templeref1_hollow.l1] at H
      by_cases c5 : 0 ≤ x4_1
      ·rw [if_pos c5] at H; have c5b0 : decide (0 ≤ x4_1) = true := decide_eq_true c5; clear c5
       by_cases c6 : x4_1 < (l0_1.length : Int)
       ·rw [if_pos c6] at H; have c6b0 : decide (x4_1 < (l0_1.length : Int)) = true := decide_eq_true c6; clear c6
        by_cases c7 : x5_2 < (((rd_T45 l0_1 x4_1).f1).length : Int)
        ·rw [if_pos c7] at H; have c7b0 : decide (x5_2 < (((rd_T45 l0_1 x4_1).f1).length : Int)) = true := decide_eq_true c7; clear c7; have H' := Aside0.mk H; clear H
         have hcz8_0 : wr.cell? ⟨gb226, 0, none⟩ = some (.slice A0_0 l0_0.length c0_0) := (blk_cell BK226.out 0).trans rfl
         have hcz8_1 : wr.cell? ⟨gb226, 1, none⟩ = some (.slice A0_1 l0_1.length c0_1) := (blk_cell BK226.out 1).trans rfl
         have hfz8_0 := blk_frozen BK226.out 0; have hfz8_1 := blk_frozen BK226.out 1
         have p227 : 0 ≤ (x4_1 : Int) := of_decide_eq_true zz1
         have q227 : x4_1 < (l0_1.length : Int) := of_decide_eq_true zz1
         obtain ⟨ad227, A227_1, c227_1, e227, hx227_0, hx227_1, hl227_1, hi227_1⟩ := at_T45 HR0_1.out x4_1 p227 q227; cases e227
         replace hx227_0 := (HB.out.cell (World.block_lt_of_cell? w _ hx227_0)).trans hx227_0
         replace hx227_1 := (HB.out.cell (World.block_lt_of_cell? w _ hx227_1)).trans hx227_1
         have HR227_1 := Aside0.mk hi227_1; have HC227_1 := Aside0.mk hl227_1; clear hi227_1 hl227_1; replace p227 := eq_true p227; replace q227 := eq_true q227; go_wp2
         repeat (go_quiet (fail); try go_wp2)
         go_loopg [6] k2 (fun kq v6 w' => ∃ (x6_3 : Int), v6 = .int .i64 x6_3 ∧ Aside0 (templeref1_hollow.l2 kq x4_1 x5_2 x6_3 l0_0 l0_1 = some (r1, r2)) ∧ Aside0 (kq ≤ k2) ∧ Aside0 (w'.heap[gb226]? = some (.cells #[(.slice A0_0 l0_0.length c0_0), (.slice (some ad227) l0_1.length c0_1)] 25 (0, 0))) ∧ Aside0 (Below w.heap.size w w'))
         case atStart => exact ⟨(0), zz0, H', ⟨Nat.le_refl _⟩, ⟨zzb BK226⟩, ⟨zzq⟩⟩
         case round =>
          clear H'; (try clear c2); (try clear p2); (try clear q2); (try clear hx2); (try clear c3); (try clear c3b0); (try clear c5); (try clear c5b0); (try clear c6); (try clear c6b0); (try clear c7); (try clear c7b0); (try clear hcz4_0); (try clear hcz4_1); (try clear hcz8_0); (try clear hcz8_1); (try clear hfz4_0); (try clear hfz4_1); (try clear hfz8_0); (try clear hfz8_1); (try clear hx227_0); (try clear hx227_1); (try clear p2); (try clear p227); (try clear q227); obtain ⟨x6_3, rfl, HA, HK3, BK226, HB⟩ := hrel
          cases gk with
          | zero => exact absurd HA.out (by simp [templeref1_hollow.l2])
          | succ k3 =>
           have H := HA.out; clear HA
           simp only [templeref1_hollow.l2] at H
           by_cases c9 : 0 ≤ x4_1
           ·rw [if_pos c9] at H; have c9b0 : decide (0 ≤ x4_1) = true := decide_eq_true c9; clear c9
            by_cases c10 : x4_1 < (l0_1.length : Int)
            ·rw [if_pos c10] at H; have c10b0 : decide (x4_1 < (l0_1.length : Int)) = true := decide_eq_true c10; clear c10
             by_cases c11 : 0 ≤ x5_2
             ·rw [if_pos c11] at H; have c11b0 : decide (0 ≤ x5_2) = true := decide_eq_true c11; clear c11
              by_cases c12 : x5_2 < (((rd_T45 l0_1 x4_1).f1).length : Int)
              ·rw [if_pos c12] at H; have c12b0 : decide (x5_2 < (((rd_T45 l0_1 x4_1).f1).length : Int)) = true := decide_eq_true c12; clear c12
               by_cases c13 : x6_3 < ((rd_L6 ((rd_T45 l0_1 x4_1).f1) x5_2).length : Int)
               ·rw [if_pos c13] at H; have c13b0 : decide (x6_3 < ((rd_L6 ((rd_T45 l0_1 x4_1).f1) x5_2).length : Int)) = true := decide_eq_true c13; clear c13
                by_cases c14 : 0 ≤ x6_3
                ·rw [if_pos c14] at H; have c14b0 : decide (0 ≤ x6_3) = true := decide_eq_true c14; clear c14; have H' := Aside0.mk H; clear H
                 have hcz15_0 : wr.cell? ⟨gb226, 0, none⟩ = some (.slice A0_0 l0_0.length c0_0) := (blk_cell BK226.out 0).trans rfl
                 have hcz15_1 : wr.cell? ⟨gb226, 1, none⟩ = some (.slice (some ad227) l0_1.length c0_1) := (blk_cell BK226.out 1).trans rfl
                 have hfz15_0 := blk_frozen BK226.out 0; have hfz15_1 := blk_frozen BK226.out 1
                 have p228 : 0 ≤ (x4_1 : Int) := of_decide_eq_true zz1
                 have q228 : x4_1 < (l0_1.length : Int) := of_decide_eq_true zz1
                 obtain ⟨ad228, A228_1, c228_1, e228, hx228_0, hx228_1, hl228_1, hi228_1⟩ := at_T45 HR0_1.out x4_1 p228 q228; obtain rfl : ad227 = ad228 := (by injection e228)
                 replace hx228_0 := (HB.out.cell (World.block_lt_of_cell? w _ hx228_0)).trans hx228_0
                 replace hx228_1 := (HB.out.cell (World.block_lt_of_cell? w _ hx228_1)).trans hx228_1
                 have HR228_1 := Aside0.mk hi228_1; have HC228_1 := Aside0.mk hl228_1; clear hi228_1 hl228_1; replace p228 := eq_true p228; replace q228 := eq_true q228
                 have p229 : 0 ≤ (x5_2 : Int) := of_decide_eq_true zz1
                 have q229 : x5_2 < (((rd_T45 l0_1 x4_1).f1).length : Int) := of_decide_eq_true zz1
                 obtain ⟨ad229, A229_0, c229_0, e229, hx229_0, hl229_0, hi229_0⟩ := at_L6 HR228_1.out x5_2 p229 q229; cases e229
                 replace hx229_0 := (HB.out.cell (World.block_lt_of_cell? w _ hx229_0)).trans hx229_0
                 have HR229_0 := Aside0.mk hi229_0; have HC229_0 := Aside0.mk hl229_0; clear hi229_0 hl229_0; replace p229 := eq_true p229; replace q229 := eq_true q229
                 have p230 : 0 ≤ (x4_1 : Int) := of_decide_eq_true zz1
                 have q230 : x4_1 < (l0_1.length : Int) := of_decide_eq_true zz1
                 obtain ⟨ad230, A230_1, c230_1, e230, hx230_0, hx230_1, hl230_1, hi230_1⟩ := at_T45 HR0_1.out x4_1 p230 q230; obtain rfl : ad227 = ad230 := (by injection e230)
                 replace hx230_0 := (HB.out.cell (World.block_lt_of_cell? w _ hx230_0)).trans hx230_0
                 replace hx230_1 := (HB.out.cell (World.block_lt_of_cell? w _ hx230_1)).trans hx230_1
                 have HR230_1 := Aside0.mk hi230_1; have HC230_1 := Aside0.mk hl230_1; clear hi230_1 hl230_1; replace p230 := eq_true p230; replace q230 := eq_true q230
                 have ea_ := Option.some.inj (hx228_1.symm.trans hx230_1)
                 injection ea_ with ea_ en_ ec_
                 subst ea_; subst ec_; clear en_
                 have p231 : 0 ≤ (x5_2 : Int) := of_decide_eq_true zz1
                 have q231 : x5_2 < (((rd_T45 l0_1 x4_1).f1).length : Int) := of_decide_eq_true zz1
                 obtain ⟨ad231, A231_0, c231_0, e231, hx231_0, hl231_0, hi231_0⟩ := at_L6 HR230_1.out x5_2 p231 q231; cases e231
                 replace hx231_0 := (HB.out.cell (World.block_lt_of_cell? w _ hx231_0)).trans hx231_0
                 have ea_ := Option.some.inj (hx229_0.symm.trans hx231_0)
                 injection ea_ with ea_ en_ ec_
                 subst ea_; subst ec_; clear en_; have HR231_0 := Aside0.mk hi231_0; have HC231_0 := Aside0.mk hl231_0; clear hi231_0 hl231_0; replace p231 := eq_true p231; replace q231 := eq_true q231
                 have p232 : 0 ≤ (x6_3 : Int) := of_decide_eq_true zz1
                 have q232 : x6_3 < ((rd_L6 ((rd_T45 l0_1 x4_1).f1) x5_2).length : Int) := of_decide_eq_true zz1
                 obtain ⟨ad232, A232_1, c232_1, e232, hx232_0, hx232_1, hl232_1, hi232_1⟩ := at_T64 HR231_0.out x6_3 p232 q232; cases e232
                 replace hx232_0 := (HB.out.cell (World.block_lt_of_cell? w _ hx232_0)).trans hx232_0
                 replace hx232_1 := (HB.out.cell (World.block_lt_of_cell? w _ hx232_1)).trans hx232_1
                 have HR232_1 := Aside0.mk hi232_1; have HC232_1 := Aside0.mk hl232_1; clear hi232_1 hl232_1; replace p232 := eq_true p232; replace q232 := eq_true q232; go_wp2
                 repeat (go_quiet (fail); try go_wp2)
                 go_loopg [8] k3 (fun kq v8 w' => ∃ (x8_4 : Int), v8 = .int .i64 x8_4 ∧ Aside0 (templeref1_hollow.l3 kq x4_1 x5_2 x6_3 ((rd_T64 (rd_L6 ((rd_T45 l0_1 x4_1).f1) x5_2) x6_3).f1) x8_4 l0_0 l0_1 = some (r1, r2)) ∧ Aside0 (kq ≤ k3) ∧ Aside0 (w'.heap[gb226]? = some (.cells #[(.slice A0_0 l0_0.length c0_0), (.slice (some ad227) l0_1.length c0_1)] 25 (0, 0))) ∧ Aside0 (Below w.heap.size w w'))
                 case atStart => exact ⟨(0), zz0, H', ⟨Nat.le_refl _⟩, ⟨zzb BK226⟩, ⟨zzq⟩⟩
                 case round =>
                  clear H'; (try clear c1); (try clear c2); (try clear p2); (try clear q2); (try clear hx2); (try clear c3); (try clear c3b0); (try clear c5); (try clear c5b0); (try clear c6); (try clear c6b0); (try clear c7); (try clear c7b0); (try clear c9); (try clear c9b0); (try clear c10); (try clear c10b0); (try clear c11); (try clear c11b0); (try clear c12); (try clear c12b0); (try clear c13); (try clear c13b0); (try clear c14); (try clear c14b0); (try clear hcz15_0); (try clear hcz15_1); (try clear hcz4_0); (try clear hcz4_1); (try clear hcz8_0); (try clear hcz8_1); (try clear hfz15_0); (try clear hfz15_1); (try clear hfz4_0); (try clear hfz4_1); (try clear hfz8_0); (try clear hfz8_1); (try clear hx227_0); (try clear hx227_1); (try clear hx228_0); (try clear hx228_1); (try clear hx229_0); (try clear hx230_0); (try clear hx230_1); (try clear hx231_0); (try clear hx232_0); (try clear hx232_1); (try clear p2); (try clear p227); (try clear p228); (try clear p229); (try clear p230); (try clear p231); (try clear p232); (try clear q2); (try clear q227); (try clear q228); (try clear q229); (try clear q230); (try clear q231); (try clear q232); obtain ⟨x8_4, rfl, HA, HK4, BK226, HB⟩ := hrel
                  cases gk with
                  | zero => exact absurd HA.out (by simp [templeref1_hollow.l3])
                  | succ k4 =>
                   have H := HA.out; clear HA
                   simp only [templeref1_hollow.l3] at H
                   by_cases c16 : x8_4 < (((rd_T64 (rd_L6 ((rd_T45 l0_1 x4_1).f1) x5_2) x6_3).f1).length : Int)
                   ·rw [if_pos c16] at H; have c16b0 : decide (x8_4 < (((rd_T64 (rd_L6 ((rd_T45 l0_1 x4_1).f1) x5_2) x6_3).f1).length : Int)) = true := decide_eq_true c16; clear c16
                    by_cases c17 : 0 ≤ x8_4
                    ·rw [if_pos c17] at H; have c17b0 : decide (0 ≤ x8_4) = true := decide_eq_true c17; clear c17
                     by_cases c18 : ((rd_T61 ((rd_T64 (rd_L6 ((rd_T45 l0_1 x4_1).f1) x5_2) x6_3).f1) x8_4).f0) = 2
                     ·rw [if_pos c18] at H; have c18b0 : (((rd_T61 ((rd_T64 (rd_L6 ((rd_T45 l0_1 x4_1).f1) x5_2) x6_3).f1) x8_4).f0) == 2) = true := beq_iff_eq.mpr c18; have c18b1 : (((rd_T61 ((rd_T64 (rd_L6 ((rd_T45 l0_1 x4_1).f1) x5_2) x6_3).f1) x8_4).f0) != 2) = false := bne_eq_false_iff_eq.mpr c18; clear c18
                      by_cases c19 : ((rd_T61 ((rd_T64 (rd_L6 ((rd_T45 l0_1 x4_1).f1) x5_2) x6_3).f1) x8_4).f2) > ((rd_T61 ((rd_T64 (rd_L6 ((rd_T45 l0_1 x4_1).f1) x5_2) x6_3).f1) x8_4).f3)
                      ·rw [if_pos c19] at H; have c19b0 : decide (((rd_T61 ((rd_T64 (rd_L6 ((rd_T45 l0_1 x4_1).f1) x5_2) x6_3).f1) x8_4).f3) < ((rd_T61 ((rd_T64 (rd_L6 ((rd_T45 l0_1 x4_1).f1) x5_2) x6_3).f1) x8_4).f2)) = true := decide_eq_true c19; clear c19
                       by_cases c20 : 0 ≤ x4_1
                       ·rw [if_pos c20] at H; have c20b0 : decide (0 ≤ x4_1) = true := decide_eq_true c20; clear c20
                        by_cases c21 : x4_1 < (l0_1.length : Int)
                        ·rw [if_pos c21] at H; have c21b0 : decide (x4_1 < (l0_1.length : Int)) = true := decide_eq_true c21; clear c21
                         simp only [Option.some.injEq, Prod.mk.injEq] at H
                         obtain ⟨rfl, rfl⟩ := H
                         have p233 : 0 ≤ (x8_4 : Int) := of_decide_eq_true zz1
                         have q233 : x8_4 < (((rd_T64 (rd_L6 ((rd_T45 l0_1 x4_1).f1) x5_2) x6_3).f1).length : Int) := of_decide_eq_true zz1
                         obtain ⟨ad233, e233, hx233_0, hx233_1, hx233_2, hx233_3⟩ := at_T61 HR232_1.out x8_4 p233 q233; cases e233
                         replace hx233_0 := (HB.out.cell (World.block_lt_of_cell? w _ hx233_0)).trans hx233_0
                         replace hx233_1 := (HB.out.cell (World.block_lt_of_cell? w _ hx233_1)).trans hx233_1
                         replace hx233_2 := (HB.out.cell (World.block_lt_of_cell? w _ hx233_2)).trans hx233_2
                         replace hx233_3 := (HB.out.cell (World.block_lt_of_cell? w _ hx233_3)).trans hx233_3
                         replace p233 := eq_true p233; replace q233 := eq_true q233
                         have p234 : 0 ≤ (x8_4 : Int) := of_decide_eq_true zz1
                         have q234 : x8_4 < (((rd_T64 (rd_L6 ((rd_T45 l0_1 x4_1).f1) x5_2) x6_3).f1).length : Int) := of_decide_eq_true zz1
                         obtain ⟨ad234, e234, hx234_0, hx234_1, hx234_2, hx234_3⟩ := at_T61 HR232_1.out x8_4 p234 q234; obtain rfl : ad233 = ad234 := (by injection e234)
                         replace hx234_0 := (HB.out.cell (World.block_lt_of_cell? w _ hx234_0)).trans hx234_0
                         replace hx234_1 := (HB.out.cell (World.block_lt_of_cell? w _ hx234_1)).trans hx234_1
                         replace hx234_2 := (HB.out.cell (World.block_lt_of_cell? w _ hx234_2)).trans hx234_2
                         replace hx234_3 := (HB.out.cell (World.block_lt_of_cell? w _ hx234_3)).trans hx234_3
                         replace p234 := eq_true p234; replace q234 := eq_true q234
                         have p235 : 0 ≤ (x8_4 : Int) := of_decide_eq_true zz1
                         have q235 : x8_4 < (((rd_T64 (rd_L6 ((rd_T45 l0_1 x4_1).f1) x5_2) x6_3).f1).length : Int) := of_decide_eq_true zz1
                         obtain ⟨ad235, e235, hx235_0, hx235_1, hx235_2, hx235_3⟩ := at_T61 HR232_1.out x8_4 p235 q235; obtain rfl : ad233 = ad235 := (by injection e235)
                         replace hx235_0 := (HB.out.cell (World.block_lt_of_cell? w _ hx235_0)).trans hx235_0
                         replace hx235_1 := (HB.out.cell (World.block_lt_of_cell? w _ hx235_1)).trans hx235_1
                         replace hx235_2 := (HB.out.cell (World.block_lt_of_cell? w _ hx235_2)).trans hx235_2
                         replace hx235_3 := (HB.out.cell (World.block_lt_of_cell? w _ hx235_3)).trans hx235_3
                         replace p235 := eq_true p235; replace q235 := eq_true q235
                         have hcz22_0 : wr.cell? ⟨gb226, 0, none⟩ = some (.slice A0_0 l0_0.length c0_0) := (blk_cell BK226.out 0).trans rfl
                         have hcz22_1 : wr.cell? ⟨gb226, 1, none⟩ = some (.slice (some ad227) l0_1.length c0_1) := (blk_cell BK226.out 1).trans rfl
                         have hfz22_0 := blk_frozen BK226.out 0; have hfz22_1 := blk_frozen BK226.out 1
                         have p236 : 0 ≤ (x4_1 : Int) := of_decide_eq_true zz1
                         have q236 : x4_1 < (l0_1.length : Int) := of_decide_eq_true zz1
                         obtain ⟨ad236, A236_1, c236_1, e236, hx236_0, hx236_1, hl236_1, hi236_1⟩ := at_T45 HR0_1.out x4_1 p236 q236; obtain rfl : ad227 = ad236 := (by injection e236)
                         replace hx236_0 := (HB.out.cell (World.block_lt_of_cell? w _ hx236_0)).trans hx236_0
                         replace hx236_1 := (HB.out.cell (World.block_lt_of_cell? w _ hx236_1)).trans hx236_1
                         have HR236_1 := Aside0.mk hi236_1; have HC236_1 := Aside0.mk hl236_1; clear hi236_1 hl236_1; replace p236 := eq_true p236; replace q236 := eq_true q236; go_wp2
                         repeat (go_quiet (fail); try go_wp2)
                         go_ret2
                         exact ⟨by first | rfl | (simp [errW_none, errW_some] <;> rfl) | (simp [*, errW_none, errW_some] <;> rfl), zzq⟩
                        ·rw [if_neg c21] at H
                         exact absurd H (by simp)
                       ·rw [if_neg c20] at H
                        exact absurd H (by simp)
                      ·rw [if_neg c19] at H; have c19b0 : decide (((rd_T61 ((rd_T64 (rd_L6 ((rd_T45 l0_1 x4_1).f1) x5_2) x6_3).f1) x8_4).f3) < ((rd_T61 ((rd_T64 (rd_L6 ((rd_T45 l0_1 x4_1).f1) x5_2) x6_3).f1) x8_4).f2)) = false := decide_eq_false c19; clear c19; have H' := Aside0.mk H; clear H
                       have p233 : 0 ≤ (x8_4 : Int) := of_decide_eq_true zz1
                       have q233 : x8_4 < (((rd_T64 (rd_L6 ((rd_T45 l0_1 x4_1).f1) x5_2) x6_3).f1).length : Int) := of_decide_eq_true zz1
                       obtain ⟨ad233, e233, hx233_0, hx233_1, hx233_2, hx233_3⟩ := at_T61 HR232_1.out x8_4 p233 q233; cases e233
                       replace hx233_0 := (HB.out.cell (World.block_lt_of_cell? w _ hx233_0)).trans hx233_0
                       replace hx233_1 := (HB.out.cell (World.block_lt_of_cell? w _ hx233_1)).trans hx233_1
                       replace hx233_2 := (HB.out.cell (World.block_lt_of_cell? w _ hx233_2)).trans hx233_2
                       replace hx233_3 := (HB.out.cell (World.block_lt_of_cell? w _ hx233_3)).trans hx233_3
                       replace p233 := eq_true p233; replace q233 := eq_true q233
                       have p234 : 0 ≤ (x8_4 : Int) := of_decide_eq_true zz1
                       have q234 : x8_4 < (((rd_T64 (rd_L6 ((rd_T45 l0_1 x4_1).f1) x5_2) x6_3).f1).length : Int) := of_decide_eq_true zz1
                       obtain ⟨ad234, e234, hx234_0, hx234_1, hx234_2, hx234_3⟩ := at_T61 HR232_1.out x8_4 p234 q234; obtain rfl : ad233 = ad234 := (by injection e234)
                       replace hx234_0 := (HB.out.cell (World.block_lt_of_cell? w _ hx234_0)).trans hx234_0
                       replace hx234_1 := (HB.out.cell (World.block_lt_of_cell? w _ hx234_1)).trans hx234_1
                       replace hx234_2 := (HB.out.cell (World.block_lt_of_cell? w _ hx234_2)).trans hx234_2
                       replace hx234_3 := (HB.out.cell (World.block_lt_of_cell? w _ hx234_3)).trans hx234_3
                       replace p234 := eq_true p234; replace q234 := eq_true q234
                       have p235 : 0 ≤ (x8_4 : Int) := of_decide_eq_true zz1
                       have q235 : x8_4 < (((rd_T64 (rd_L6 ((rd_T45 l0_1 x4_1).f1) x5_2) x6_3).f1).length : Int) := of_decide_eq_true zz1
                       obtain ⟨ad235, e235, hx235_0, hx235_1, hx235_2, hx235_3⟩ := at_T61 HR232_1.out x8_4 p235 q235; obtain rfl : ad233 = ad235 := (by injection e235)
                       replace hx235_0 := (HB.out.cell (World.block_lt_of_cell? w _ hx235_0)).trans hx235_0
                       replace hx235_1 := (HB.out.cell (World.block_lt_of_cell? w _ hx235_1)).trans hx235_1
                       replace hx235_2 := (HB.out.cell (World.block_lt_of_cell? w _ hx235_2)).trans hx235_2
                       replace hx235_3 := (HB.out.cell (World.block_lt_of_cell? w _ hx235_3)).trans hx235_3
                       replace p235 := eq_true p235; replace q235 := eq_true q235; go_wp2
                       repeat (go_quiet (fail); try go_wp2)
                       go_roundg k4
                       case measure => have := HK1.out; have := HK2.out; have := HK3.out; have := HK4.out; omega
                       case rel => exact ⟨(wrap64 (x8_4 + 1)), zz0, H', ⟨by have := HK1.out; have := HK2.out; have := HK3.out; have := HK4.out; omega⟩, ⟨zzb BK226⟩, ⟨zzq⟩⟩
                     ·rw [if_neg c18] at H; have c18b0 : (((rd_T61 ((rd_T64 (rd_L6 ((rd_T45 l0_1 x4_1).f1) x5_2) x6_3).f1) x8_4).f0) == 2) = false := beq_eq_false_iff_ne.mpr c18; have c18b1 : (((rd_T61 ((rd_T64 (rd_L6 ((rd_T45 l0_1 x4_1).f1) x5_2) x6_3).f1) x8_4).f0) != 2) = true := bne_iff_ne.mpr c18; have H' := Aside0.mk H; clear H
                      have p233 : 0 ≤ (x8_4 : Int) := of_decide_eq_true zz1
                      have q233 : x8_4 < (((rd_T64 (rd_L6 ((rd_T45 l0_1 x4_1).f1) x5_2) x6_3).f1).length : Int) := of_decide_eq_true zz1
                      obtain ⟨ad233, e233, hx233_0, hx233_1, hx233_2, hx233_3⟩ := at_T61 HR232_1.out x8_4 p233 q233; cases e233
                      replace hx233_0 := (HB.out.cell (World.block_lt_of_cell? w _ hx233_0)).trans hx233_0
                      replace hx233_1 := (HB.out.cell (World.block_lt_of_cell? w _ hx233_1)).trans hx233_1
                      replace hx233_2 := (HB.out.cell (World.block_lt_of_cell? w _ hx233_2)).trans hx233_2
                      replace hx233_3 := (HB.out.cell (World.block_lt_of_cell? w _ hx233_3)).trans hx233_3
                      replace p233 := eq_true p233; replace q233 := eq_true q233; go_wp2
                      repeat (go_quiet (fail); try go_wp2)
                      go_roundg k4
                      case measure => have := HK1.out; have := HK2.out; have := HK3.out; have := HK4.out; omega
                      case rel => exact ⟨(wrap64 (x8_4 + 1)), zz0, H', ⟨by have := HK1.out; have := HK2.out; have := HK3.out; have := HK4.out; omega⟩, ⟨zzb BK226⟩, ⟨zzq⟩⟩
                    ·rw [if_neg c17] at H
                     exact absurd H (by simp)
                   ·rw [if_neg c16] at H; have c16b0 : decide (x8_4 < (((rd_T64 (rd_L6 ((rd_T45 l0_1 x4_1).f1) x5_2) x6_3).f1).length : Int)) = false := decide_eq_false c16; clear c16; have H' := Aside0.mk H; clear H; go_wp2
                    repeat (go_quiet (fail); try go_wp2)
                    go_roundg k4
                    case measure => have := HK1.out; have := HK2.out; have := HK3.out; have := HK4.out; omega
                    case rel => exact ⟨(wrap64 (x6_3 + 1)), zz0, H', ⟨by have := HK1.out; have := HK2.out; have := HK3.out; have := HK4.out; omega⟩, ⟨zzb BK226⟩, ⟨zzq⟩⟩
                ·rw [if_neg c14] at H
                 exact absurd H (by simp)
               ·rw [if_neg c13] at H; have c13b0 : decide (x6_3 < ((rd_L6 ((rd_T45 l0_1 x4_1).f1) x5_2).length : Int)) = false := decide_eq_false c13; clear c13; have H' := Aside0.mk H; clear H
                have hcz23_0 : wr.cell? ⟨gb226, 0, none⟩ = some (.slice A0_0 l0_0.length c0_0) := (blk_cell BK226.out 0).trans rfl
                have hcz23_1 : wr.cell? ⟨gb226, 1, none⟩ = some (.slice (some ad227) l0_1.length c0_1) := (blk_cell BK226.out 1).trans rfl
                have hfz23_0 := blk_frozen BK226.out 0; have hfz23_1 := blk_frozen BK226.out 1
                have p228 : 0 ≤ (x4_1 : Int) := of_decide_eq_true zz1
                have q228 : x4_1 < (l0_1.length : Int) := of_decide_eq_true zz1
                obtain ⟨ad228, A228_1, c228_1, e228, hx228_0, hx228_1, hl228_1, hi228_1⟩ := at_T45 HR0_1.out x4_1 p228 q228; obtain rfl : ad227 = ad228 := (by injection e228)
                replace hx228_0 := (HB.out.cell (World.block_lt_of_cell? w _ hx228_0)).trans hx228_0
                replace hx228_1 := (HB.out.cell (World.block_lt_of_cell? w _ hx228_1)).trans hx228_1
                have HR228_1 := Aside0.mk hi228_1; have HC228_1 := Aside0.mk hl228_1; clear hi228_1 hl228_1; replace p228 := eq_true p228; replace q228 := eq_true q228
                have p229 : 0 ≤ (x5_2 : Int) := of_decide_eq_true zz1
                have q229 : x5_2 < (((rd_T45 l0_1 x4_1).f1).length : Int) := of_decide_eq_true zz1
                obtain ⟨ad229, A229_0, c229_0, e229, hx229_0, hl229_0, hi229_0⟩ := at_L6 HR228_1.out x5_2 p229 q229; cases e229
                replace hx229_0 := (HB.out.cell (World.block_lt_of_cell? w _ hx229_0)).trans hx229_0
                have HR229_0 := Aside0.mk hi229_0; have HC229_0 := Aside0.mk hl229_0; clear hi229_0 hl229_0; replace p229 := eq_true p229; replace q229 := eq_true q229; go_wp2
                repeat (go_quiet (fail); try go_wp2)
                go_roundg k3
                case measure => have := HK1.out; have := HK2.out; have := HK3.out; omega
                case rel => exact ⟨(wrap64 (x5_2 + 1)), zz0, H', ⟨by have := HK1.out; have := HK2.out; have := HK3.out; omega⟩, ⟨zzb BK226⟩, ⟨zzq⟩⟩
              ·rw [if_neg c12] at H
               exact absurd H (by simp)
             ·rw [if_neg c11] at H
              exact absurd H (by simp)
            ·rw [if_neg c10] at H
             exact absurd H (by simp)
           ·rw [if_neg c9] at H
            exact absurd H (by simp)
        ·rw [if_neg c7] at H; have c7b0 : decide (x5_2 < (((rd_T45 l0_1 x4_1).f1).length : Int)) = false := decide_eq_false c7; clear c7; have H' := Aside0.mk H; clear H
         have hcz24_0 : wr.cell? ⟨gb226, 0, none⟩ = some (.slice A0_0 l0_0.length c0_0) := (blk_cell BK226.out 0).trans rfl
         have hcz24_1 : wr.cell? ⟨gb226, 1, none⟩ = some (.slice A0_1 l0_1.length c0_1) := (blk_cell BK226.out 1).trans rfl
         have hfz24_0 := blk_frozen BK226.out 0; have hfz24_1 := blk_frozen BK226.out 1
         have p227 : 0 ≤ (x4_1 : Int) := of_decide_eq_true zz1
         have q227 : x4_1 < (l0_1.length : Int) := of_decide_eq_true zz1
         obtain ⟨ad227, A227_1, c227_1, e227, hx227_0, hx227_1, hl227_1, hi227_1⟩ := at_T45 HR0_1.out x4_1 p227 q227; cases e227
         replace hx227_0 := (HB.out.cell (World.block_lt_of_cell? w _ hx227_0)).trans hx227_0
         replace hx227_1 := (HB.out.cell (World.block_lt_of_cell? w _ hx227_1)).trans hx227_1
         have HR227_1 := Aside0.mk hi227_1; have HC227_1 := Aside0.mk hl227_1; clear hi227_1 hl227_1; replace p227 := eq_true p227; replace q227 := eq_true q227; go_wp2
         repeat (go_quiet (fail); try go_wp2)
         go_roundg k2
         case measure => have := HK1.out; have := HK2.out; omega
         case rel => exact ⟨(wrap64 (x4_1 + 1)), zz0, H', ⟨by have := HK1.out; have := HK2.out; omega⟩, ⟨zzb BK226⟩, ⟨zzq⟩⟩
       ·rw [if_neg c6] at H
        exact absurd H (by simp)
      ·rw [if_neg c5] at H
       exact absurd H (by simp)
   ·rw [if_neg c3] at H; have c3b0 : decide (x4_1 < (l0_1.length : Int)) = false := decide_eq_false c3; clear c3
    simp only [Option.some.injEq, Prod.mk.injEq] at H
    obtain ⟨rfl, rfl⟩ := H
    have hcz25_0 : wr.cell? ⟨gb226, 0, none⟩ = some (.slice A0_0 l0_0.length c0_0) := (blk_cell BK226.out 0).trans rfl
    have hcz25_1 : wr.cell? ⟨gb226, 1, none⟩ = some (.slice A0_1 l0_1.length c0_1) := (blk_cell BK226.out 1).trans rfl
    have hfz25_0 := blk_frozen BK226.out 0; have hfz25_1 := blk_frozen BK226.out 1; go_wp2
    repeat (go_quiet (fail); try go_wp2)
    go_ret2
    exact ⟨by first | rfl | (simp [errW_none, errW_some] <;> rfl) | (simp [*, errW_none, errW_some] <;> rfl), zzq⟩

end Go.Proofs.Ytdjnpgigdchfkaa.PBS
