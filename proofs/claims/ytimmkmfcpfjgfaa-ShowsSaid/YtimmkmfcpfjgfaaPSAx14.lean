import Derived.Test.YtimmkmfcpfjgfaaPSAx0
import Derived.Test.YtimmkmfcpfjgfaaWNLit
import Derived.Test.YtimmkmfcpfjgfaaPSAx2
import Derived.Test.YtimmkmfcpfjgfaaPSAx5
import Derived.Test.YtimmkmfcpfjgfaaPSAx12
import Derived.Test.YtimmkmfcpfjgfaaPSAx13
namespace Go.Proofs.Ytimmkmfcpfjgfaa.PSA
open Go.RowKit Go.Proofs.YtimmkmfcpfjgfaaW.PrintWords Go.Proofs.YtimmkmfcpfjgfaaW.PrintLast
set_option linter.unusedVariables false
set_option linter.unusedSimpArgs false
mutual
def templelaw0_SameGrammar.j0 : Nat → Bool → Int → List ByteArray → List (S44) → Int → List ByteArray → List (S44) → Option (Bool)
 | 0, _, _, _, _, _, _, _ => none
 | k + 1, x27, x213000, x213001, x213002, x214000, x214001, x214002 => if x27 = true then (some false) else (templelaw0_SameGrammar.l0 k 0 x213000 x213001 x213002 x214000 x214001 x214002)
def templelaw0_SameGrammar.l0 : Nat → Int → Int → List ByteArray → List (S44) → Int → List ByteArray → List (S44) → Option (Bool)
 | 0, _, _, _, _, _, _, _ => none
 | k + 1, x5, x213000, x213001, x213002, x214000, x214001, x214002 => if x5 < (x213002.length : Int) then (if 0 ≤ x5 then (if x5 < (x214002.length : Int) then ((templelaw0_SameRule.f k ((rd_T44 x213002 x5).f0) ((rd_T44 x213002 x5).f1) ((rd_T44 x214002 x5).f0) ((rd_T44 x214002 x5).f1)).bind fun t217 => (if t217 = true then (templelaw0_SameGrammar.l0 k (wrap64 (x5 + 1)) x213000 x213001 x213002 x214000 x214001 x214002) else (some false))) else (none)) else (none)) else (some true)
end
def templelaw0_SameGrammar.f (k : Nat) (a0_0 : Int) (l0_1 : List ByteArray) (l0_2 : List (S44)) (a1_0 : Int) (l1_1 : List ByteArray) (l1_2 : List (S44)) : Option (Bool) := if a0_0 = a1_0 then ((templelaw0_SameTexts.f k l0_1 l1_1).bind fun t214 => (if t214 = true then (templelaw0_SameGrammar.j0 k ((l0_2.length : Int) != (l1_2.length : Int)) a0_0 l0_1 l0_2 a1_0 l1_1 l1_2) else (templelaw0_SameGrammar.j0 k true a0_0 l0_1 l0_2 a1_0 l1_1 l1_2))) else (templelaw0_SameGrammar.j0 k true a0_0 l0_1 l0_2 a1_0 l1_1 l1_2)
theorem templelaw0_SameGrammar.mono_l : ∀ k, (∀ y0 y1 y2 y3 y4 y5 y6, LeO (templelaw0_SameGrammar.j0 k y0 y1 y2 y3 y4 y5 y6) (templelaw0_SameGrammar.j0 (k + 1) y0 y1 y2 y3 y4 y5 y6)) ∧ (∀ y0 y1 y2 y3 y4 y5 y6, LeO (templelaw0_SameGrammar.l0 k y0 y1 y2 y3 y4 y5 y6) (templelaw0_SameGrammar.l0 (k + 1) y0 y1 y2 y3 y4 y5 y6))
 | 0 => ⟨fun _ _ _ _ _ _ _ r h => by simp [templelaw0_SameGrammar.j0] at h, fun _ _ _ _ _ _ _ r h => by simp [templelaw0_SameGrammar.l0] at h⟩
 | k + 1 => by
  obtain ⟨ih0, ih1⟩ := templelaw0_SameGrammar.mono_l k
  refine ⟨?_, ?_⟩
  ·intro y0 y1 y2 y3 y4 y5 y6
   unfold templelaw0_SameGrammar.j0
   repeat' first
   | (with_reducible exact ih0 _ _ _ _ _ _ _)
   | (with_reducible exact ih1 _ _ _ _ _ _ _)
   | (with_reducible exact templelaw0_SameRule.mono _ _ _ _ _)
   | (with_reducible exact templelaw0_SameTexts.mono _ _ _)
   | (with_reducible exact LeO.refl _)
   | (with_reducible exact LeO.none _)
   | (with_reducible refine LeO.ite ?_ ?_)
   | (with_reducible refine LeO.bind ?_ (fun _ => ?_))
   | exact ih0 _ _ _ _ _ _ _
   | exact ih1 _ _ _ _ _ _ _
   | exact templelaw0_SameRule.mono _ _ _ _ _
   | exact templelaw0_SameTexts.mono _ _ _
   | exact LeO.none _
   | refine LeO.ite ?_ ?_
   | refine LeO.bind ?_ (fun _ => ?_)
  ·intro y0 y1 y2 y3 y4 y5 y6
   unfold templelaw0_SameGrammar.l0
   repeat' first
   | (with_reducible exact ih0 _ _ _ _ _ _ _)
   | (with_reducible exact ih1 _ _ _ _ _ _ _)
   | (with_reducible exact templelaw0_SameRule.mono _ _ _ _ _)
   | (with_reducible exact templelaw0_SameTexts.mono _ _ _)
   | (with_reducible exact LeO.refl _)
   | (with_reducible exact LeO.none _)
   | (with_reducible refine LeO.ite ?_ ?_)
   | (with_reducible refine LeO.bind ?_ (fun _ => ?_))
   | exact ih0 _ _ _ _ _ _ _
   | exact ih1 _ _ _ _ _ _ _
   | exact templelaw0_SameRule.mono _ _ _ _ _
   | exact templelaw0_SameTexts.mono _ _ _
   | exact LeO.none _
   | refine LeO.ite ?_ ?_
   | refine LeO.bind ?_ (fun _ => ?_)
theorem templelaw0_SameGrammar.mono : ∀ a0 a1 a2 a3 a4 a5 k, LeO (templelaw0_SameGrammar.f k a0 a1 a2 a3 a4 a5) (templelaw0_SameGrammar.f (k + 1) a0 a1 a2 a3 a4 a5) := by
 intro a0 a1 a2 a3 a4 a5 k
 obtain ⟨ih0, ih1⟩ := templelaw0_SameGrammar.mono_l k
 unfold templelaw0_SameGrammar.f
 repeat' first
   | (with_reducible exact ih0 _ _ _ _ _ _ _)
   | (with_reducible exact ih1 _ _ _ _ _ _ _)
   | (with_reducible exact templelaw0_SameRule.mono _ _ _ _ _)
   | (with_reducible exact templelaw0_SameTexts.mono _ _ _)
   | (with_reducible exact LeO.refl _)
   | (with_reducible exact LeO.none _)
   | (with_reducible refine LeO.ite ?_ ?_)
   | (with_reducible refine LeO.bind ?_ (fun _ => ?_))
   | exact ih0 _ _ _ _ _ _ _
   | exact ih1 _ _ _ _ _ _ _
   | exact templelaw0_SameRule.mono _ _ _ _ _
   | exact templelaw0_SameTexts.mono _ _ _
   | exact LeO.none _
   | refine LeO.ite ?_ ?_
   | refine LeO.bind ?_ (fun _ => ?_)
def templelaw0_SameGrammar.T6 : Bool × List (List Nat × List Nat) := (true, [([], []), ([0], [0]), ([], []), ([1, 2], [1, 2]), ([3], [3]), ([], []), ([5], [5]), ([], []), ([6, 7], [6, 7]), ([8], [8]), ([4, 9], [4, 9]), ([10], [10])])
def templelaw0_SameGrammar.B6 : List Nat := [0, 1, 0, 7, 15, 0, 32, 0, 224, 480, 1023, 2047]
theorem templelaw0_SameGrammar.tab6 : rtab .any (opsOf Try.f13 6) = templelaw0_SameGrammar.T6 := by kernel_rfl
theorem templelaw0_SameGrammar.bits6 : waitsOk templelaw0_SameGrammar.T6.2 templelaw0_SameGrammar.B6 = true := by kernel_rfl
set_option maxHeartbeats 8000000 in
set_option maxRecDepth 100000 in
theorem templelaw0_SameGrammar.calls (k : Nat) (a0_0 : Int) (A0_1 : Option Addr) (c0_1 : Nat) (l0_1 : List ByteArray) (A0_2 : Option Addr) (c0_2 : Nat) (l0_2 : List (S44)) (a1_0 : Int) (A1_1 : Option Addr) (c1_1 : Nat) (l1_1 : List ByteArray) (A1_2 : Option Addr) (c1_2 : Nat) (l1_2 : List (S44)) (r : Bool) (w : World) (hr0_1 : Kd.C Kd.string w A0_1 l0_1.length l0_1) (hc0_1 : l0_1.length ≤ c0_1) (hr0_2 : Kd.C k44 w A0_2 l0_2.length l0_2) (hc0_2 : l0_2.length ≤ c0_2) (hr1_1 : Kd.C Kd.string w A1_1 l1_1.length l1_1) (hc1_1 : l1_1.length ≤ c1_1) (hr1_2 : Kd.C k44 w A1_2 l1_2.length l1_2) (hc1_2 : l1_2.length ≤ c1_2) (h : templelaw0_SameGrammar.f k a0_0 l0_1 l0_2 a1_0 l1_1 l1_2 = some r) :
  Calls Try.prog 13 #[.agg #[.int .i64 a0_0, .slice A0_1 l0_1.length c0_1, .slice A0_2 l0_2.length c0_2], .agg #[.int .i64 a1_0, .slice A1_1 l1_1.length c1_1, .slice A1_2 l1_2.length c1_2]] w fun e w' => e = .returned (.bool r) ∧ Below w.heap.size w w' := by
 have hu25 := Try.underlying25; have hu44 := Try.underlying44; have HR0_1 := zam hr0_1; have HC0_1 := zam hc0_1; clear hr0_1 hc0_1; have HR0_2 := zam hr0_2; have HC0_2 := zam hc0_2; clear hr0_2 hc0_2; have HR1_1 := zam hr1_1; have HC1_1 := zam hc1_1; clear hr1_1 hc1_1; have HR1_2 := zam hr1_2; have HC1_2 := zam hc1_2; clear hr1_2 hc1_2
 have HB := zam (Below.refl w.heap.size w)
 have H : (if a0_0 = a1_0 then ((templelaw0_SameTexts.f k l0_1 l1_1).bind fun t214 => (if t214 = true then (templelaw0_SameGrammar.j0 k ((l0_2.length : Int) != (l1_2.length : Int)) a0_0 l0_1 l0_2 a1_0 l1_1 l1_2) else (templelaw0_SameGrammar.j0 k true a0_0 l0_1 l0_2 a1_0 l1_1 l1_2))) else (templelaw0_SameGrammar.j0 k true a0_0 l0_1 l0_2 a1_0 l1_1 l1_2)) = some r := h
 clear h; have HC3 := zam H; clear H
 go_enter Try.func13, Try.ntmps13
 go_upto_region 1 with (first | ((with_reducible refine gate_dst (N := 2) rfl ?_); (try (refine gate_guard (by rfl) ?_; dsimp only)); refine box_event ?hg (N := 2) ?hd (cs := #[.int .i64 a0_0, .slice A0_1 l0_1.length c0_1, .slice A0_2 l0_2.length c0_2]) (t := 25) ?hr ?_; (case hd => rfl); (case hg => rfl); (case hr => first | (go_simp; done) | (go_simp; rfl)); intro gb212 hg w4 hbox hb; have n0_ := zam (below_step (by repeat (first | (with_reducible first | exact HB.out | apply zba | apply zbd | apply zbe) | exact HB.out)) hb); have n1_ := zam (hbox); have n2_ := zam ((by rw [hg]; exact (below_size (by repeat (first | (with_reducible first | exact HB.out | apply zba | apply zbd | apply zbe) | exact HB.out))) : w.heap.size ≤ gb212)); have n3_ := zam ((by rw [hg]; exact (below_size (by repeat (first | (with_reducible first | exact HB.out | apply zba | apply zbd | apply zbe) | exact HB.out))) : w.heap.size ≤ gb212)); clear HB; have HB := n0_; have BK212 := n1_; have GW212 := n2_; have GE212 := n3_; clear n0_ n1_ n2_ n3_; clear hb hbox hg) | ((with_reducible refine gate_dst (N := 3) rfl ?_); (try (refine gate_guard (by rfl) ?_; dsimp only)); refine box_event ?hg (N := 3) ?hd (cs := #[.int .i64 a1_0, .slice A1_1 l1_1.length c1_1, .slice A1_2 l1_2.length c1_2]) (t := 25) ?hr ?_; (case hd => rfl); (case hg => rfl); (case hr => first | (go_simp; done) | (go_simp; rfl)); intro gb213 hg w5 hbox hb; have n0_ := zam (blk_below (g := gb212) (o := .cells #[.int .i64 a0_0, .slice A0_1 l0_1.length c0_1, .slice A0_2 l0_2.length c0_2] 25 (0, 0)) (by (with_reducible repeat (first | refine blk_drewN ?_ _ | refine blk_drew ?_ | refine blk_alloc ?_ _)); exact BK212.out) hb); have n1_ := zam (below_step (by repeat (first | (with_reducible first | exact HB.out | apply zba | apply zbd | apply zbe | refine below_set ?_ GE212.out) | exact HB.out)) hb); have n2_ := zam (hbox); have n3_ := zam ((by rw [hg]; exact (below_size (by repeat (first | (with_reducible first | exact HB.out | apply zba | apply zbd | apply zbe | refine below_set ?_ GE212.out) | exact HB.out))) : w.heap.size ≤ gb213)); have n4_ := zam ((by rw [hg]; exact (below_size (by repeat (first | (with_reducible first | exact HB.out | apply zba | apply zbd | apply zbe | refine below_set ?_ GE212.out) | exact HB.out))) : w.heap.size ≤ gb213)); have n5_ := zam ((by rw [hg]; exact Nat.ne_of_lt (blk_lt (g := gb212) (o := .cells #[.int .i64 a0_0, .slice A0_1 l0_1.length c0_1, .slice A0_2 l0_2.length c0_2] 25 (0, 0)) (by (with_reducible repeat (first | refine blk_drewN ?_ _ | refine blk_drew ?_ | refine blk_alloc ?_ _)); exact BK212.out)) : gb212 ≠ gb213)); have n6_ := zam ((by rw [hg]; exact Nat.ne_of_gt (blk_lt (g := gb212) (o := .cells #[.int .i64 a0_0, .slice A0_1 l0_1.length c0_1, .slice A0_2 l0_2.length c0_2] 25 (0, 0)) (by (with_reducible repeat (first | refine blk_drewN ?_ _ | refine blk_drew ?_ | refine blk_alloc ?_ _)); exact BK212.out)) : gb213 ≠ gb212)); clear BK212; clear HB; have BK212 := n0_; have HB := n1_; have BK213 := n2_; have GW213 := n3_; have GE213 := n4_; have NB212_213 := n5_; have NB213_212 := n6_; clear n0_ n1_ n2_ n3_ n4_ n5_ n6_; clear hb hbox hg))
 (try simp only [Act.put, s1, s2, s3])
 go_cut [27] (fun v27 wc => ∃ (kq : Nat) (x27_2 : Bool), v27 = .bool x27_2 ∧ Aside0 (templelaw0_SameGrammar.j0 kq x27_2 a0_0 l0_1 l0_2 a1_0 l1_1 l1_2 = some r) ∧ Aside0 (kq ≤ k) ∧ Aside0 (wc.heap[gb212]? = some (.cells #[.int .i64 a0_0, (.slice A0_1 l0_1.length c0_1), (.slice A0_2 l0_2.length c0_2)] 25 (0, 0))) ∧ Aside0 (wc.heap[gb213]? = some (.cells #[.int .i64 a1_0, (.slice A1_1 l1_1.length c1_1), (.slice A1_2 l1_2.length c1_2)] 25 (0, 0))) ∧ Aside0 (Below w.heap.size w wc))
 case first =>
  have H := HC3.out; clear HC3
  by_cases c6 : a0_0 = a1_0
  ·rw [if_pos c6] at H; have c6b0 : (a0_0 == a1_0) = true := beq_iff_eq.mpr c6; have c6b1 : (a0_0 != a1_0) = false := bne_eq_false_iff_eq.mpr c6; clear c6
   (first | rw [c6b0] | (simp only [i64_w, i32_w]; rw [c6b0]) | skip)
   replace H := Option.bind_eq_some_iff.mp H; obtain ⟨t214, A70, H⟩ := H
   replace H : (if t214 = true then (templelaw0_SameGrammar.j0 k ((l0_2.length : Int) != (l1_2.length : Int)) a0_0 l0_1 l0_2 a1_0 l1_1 l1_2) else (templelaw0_SameGrammar.j0 k true a0_0 l0_1 l0_2 a1_0 l1_1 l1_2)) = some r := H
   have A7 := zam A70; clear A70
   by_cases c8 : t214 = true
   ·subst c8
    have H1 : (templelaw0_SameGrammar.j0 k ((l0_2.length : Int) != (l1_2.length : Int)) a0_0 l0_1 l0_2 a1_0 l1_1 l1_2) = some r := by rw [if_pos rfl] at H; exact H
    clear H; have H := H1; clear H1; have H' := zam H; clear H; have hnb9 := NB212_213.out; have hnc9 := NB213_212.out
    have hcz10_0 : w5.cell? ⟨gb212, 0, none⟩ = some (.int .i64 a0_0) := (blk_cell BK212.out 0).trans rfl
    have hcz10_1 : w5.cell? ⟨gb212, 1, none⟩ = some (.slice A0_1 l0_1.length c0_1) := (blk_cell BK212.out 1).trans rfl
    have hcz10_2 : w5.cell? ⟨gb212, 2, none⟩ = some (.slice A0_2 l0_2.length c0_2) := (blk_cell BK212.out 2).trans rfl
    have hfz10_0 := blk_frozen BK212.out 0; have hfz10_1 := blk_frozen BK212.out 1; have hfz10_2 := blk_frozen BK212.out 2
    have hcz11_0 : w5.cell? ⟨gb213, 0, none⟩ = some (.int .i64 a1_0) := (blk_cell BK213.out 0).trans rfl
    have hcz11_1 : w5.cell? ⟨gb213, 1, none⟩ = some (.slice A1_1 l1_1.length c1_1) := (blk_cell BK213.out 1).trans rfl
    have hcz11_2 : w5.cell? ⟨gb213, 2, none⟩ = some (.slice A1_2 l1_2.length c1_2) := (blk_cell BK213.out 2).trans rfl
    have hfz11_0 := blk_frozen BK213.out 0; have hfz11_1 := blk_frozen BK213.out 1; have hfz11_2 := blk_frozen BK213.out 2
    go_wp2_with (first | (go_at_call 24; (with_reducible refine (templelaw0_SameTexts.calls k _ _ l0_1 _ _ l1_1 true _ ?side1 ?side2 ?side3 ?side4 A7.out).mono ?_); (case side1 => repeat (first | exact (Kd.C_below HR0_1.out HB.out) | (with_reducible refine Kd.C_alloc ?_ _) | (with_reducible refine Kd.C_drewN ?_ _) | (with_reducible refine Kd.C_drew ?_))); (case side2 => exact HC0_1.out); (case side3 => repeat (first | exact (Kd.C_below HR1_1.out HB.out) | (with_reducible refine Kd.C_alloc ?_ _) | (with_reducible refine Kd.C_drewN ?_ _) | (with_reducible refine Kd.C_drew ?_))); (case side4 => exact HC1_1.out); rintro e w' ⟨rfl, ⟨nd, rfl⟩⟩))
    go_meet
    case rel => exact ⟨_, (((l0_2.length : Int) != (l1_2.length : Int))), (by first | rfl | (simp; done) | (simp [i64_w]; done) | (simp [*]; done) | (simp [*, i64_w]; done) | (simp [*]; unfold wrap64; omega)), H', ⟨by first | omega | exact Nat.le_refl _⟩, ⟨by (with_reducible repeat (first | refine blk_drewN ?_ _ | refine blk_drew ?_ | refine blk_alloc ?_ _)); exact BK212.out⟩, ⟨by (with_reducible repeat (first | refine blk_drewN ?_ _ | refine blk_drew ?_ | refine blk_alloc ?_ _)); exact BK213.out⟩, ⟨by repeat (first | (with_reducible first | exact HB.out | apply zba | apply zbd | apply zbe | refine below_set ?_ GE212.out | refine below_set ?_ GE213.out) | exact HB.out)⟩⟩
   ·replace c8 := Bool.eq_false_iff.mpr c8
    subst c8
    have H1 : (templelaw0_SameGrammar.j0 k true a0_0 l0_1 l0_2 a1_0 l1_1 l1_2) = some r := by rw [if_neg (show ¬ (false = true) by decide)] at H; exact H
    clear H; have H := H1; clear H1; have H' := zam H; clear H; have hnb12 := NB212_213.out; have hnc12 := NB213_212.out
    have hcz13_0 : w5.cell? ⟨gb212, 0, none⟩ = some (.int .i64 a0_0) := (blk_cell BK212.out 0).trans rfl
    have hcz13_1 : w5.cell? ⟨gb212, 1, none⟩ = some (.slice A0_1 l0_1.length c0_1) := (blk_cell BK212.out 1).trans rfl
    have hcz13_2 : w5.cell? ⟨gb212, 2, none⟩ = some (.slice A0_2 l0_2.length c0_2) := (blk_cell BK212.out 2).trans rfl
    have hfz13_0 := blk_frozen BK212.out 0; have hfz13_1 := blk_frozen BK212.out 1; have hfz13_2 := blk_frozen BK212.out 2
    have hcz14_0 : w5.cell? ⟨gb213, 0, none⟩ = some (.int .i64 a1_0) := (blk_cell BK213.out 0).trans rfl
    have hcz14_1 : w5.cell? ⟨gb213, 1, none⟩ = some (.slice A1_1 l1_1.length c1_1) := (blk_cell BK213.out 1).trans rfl
    have hcz14_2 : w5.cell? ⟨gb213, 2, none⟩ = some (.slice A1_2 l1_2.length c1_2) := (blk_cell BK213.out 2).trans rfl
    have hfz14_0 := blk_frozen BK213.out 0; have hfz14_1 := blk_frozen BK213.out 1; have hfz14_2 := blk_frozen BK213.out 2
    go_wp2_with (first | (go_at_call 24; (with_reducible refine (templelaw0_SameTexts.calls k _ _ l0_1 _ _ l1_1 false _ ?side1 ?side2 ?side3 ?side4 A7.out).mono ?_); (case side1 => repeat (first | exact (Kd.C_below HR0_1.out HB.out) | (with_reducible refine Kd.C_alloc ?_ _) | (with_reducible refine Kd.C_drewN ?_ _) | (with_reducible refine Kd.C_drew ?_))); (case side2 => exact HC0_1.out); (case side3 => repeat (first | exact (Kd.C_below HR1_1.out HB.out) | (with_reducible refine Kd.C_alloc ?_ _) | (with_reducible refine Kd.C_drewN ?_ _) | (with_reducible refine Kd.C_drew ?_))); (case side4 => exact HC1_1.out); rintro e w' ⟨rfl, ⟨nd, rfl⟩⟩))
    go_meet
    case rel => exact ⟨_, (true), (by first | rfl | (simp; done) | (simp [i64_w]; done) | (simp [*]; done) | (simp [*, i64_w]; done) | (simp [*]; unfold wrap64; omega)), H', ⟨by first | omega | exact Nat.le_refl _⟩, ⟨by (with_reducible repeat (first | refine blk_drewN ?_ _ | refine blk_drew ?_ | refine blk_alloc ?_ _)); exact BK212.out⟩, ⟨by (with_reducible repeat (first | refine blk_drewN ?_ _ | refine blk_drew ?_ | refine blk_alloc ?_ _)); exact BK213.out⟩, ⟨by repeat (first | (with_reducible first | exact HB.out | apply zba | apply zbd | apply zbe | refine below_set ?_ GE212.out | refine below_set ?_ GE213.out) | exact HB.out)⟩⟩
  ·rw [if_neg c6] at H; have c6b0 : (a0_0 == a1_0) = false := beq_eq_false_iff_ne.mpr c6; have c6b1 : (a0_0 != a1_0) = true := bne_iff_ne.mpr c6
   (first | rw [c6b0] | (simp only [i64_w, i32_w]; rw [c6b0]) | skip)
   have H' := zam H; clear H; have hnb15 := NB212_213.out; have hnc15 := NB213_212.out
   have hcz16_0 : w5.cell? ⟨gb212, 0, none⟩ = some (.int .i64 a0_0) := (blk_cell BK212.out 0).trans rfl
   have hcz16_1 : w5.cell? ⟨gb212, 1, none⟩ = some (.slice A0_1 l0_1.length c0_1) := (blk_cell BK212.out 1).trans rfl
   have hcz16_2 : w5.cell? ⟨gb212, 2, none⟩ = some (.slice A0_2 l0_2.length c0_2) := (blk_cell BK212.out 2).trans rfl
   have hfz16_0 := blk_frozen BK212.out 0; have hfz16_1 := blk_frozen BK212.out 1; have hfz16_2 := blk_frozen BK212.out 2
   have hcz17_0 : w5.cell? ⟨gb213, 0, none⟩ = some (.int .i64 a1_0) := (blk_cell BK213.out 0).trans rfl
   have hcz17_1 : w5.cell? ⟨gb213, 1, none⟩ = some (.slice A1_1 l1_1.length c1_1) := (blk_cell BK213.out 1).trans rfl
   have hcz17_2 : w5.cell? ⟨gb213, 2, none⟩ = some (.slice A1_2 l1_2.length c1_2) := (blk_cell BK213.out 2).trans rfl
   have hfz17_0 := blk_frozen BK213.out 0; have hfz17_1 := blk_frozen BK213.out 1; have hfz17_2 := blk_frozen BK213.out 2; go_wp2
   go_meet
   case rel => exact ⟨_, (true), (by first | rfl | (simp; done) | (simp [i64_w]; done) | (simp [*]; done) | (simp [*, i64_w]; done) | (simp [*]; unfold wrap64; omega)), H', ⟨by first | omega | exact Nat.le_refl _⟩, ⟨by (with_reducible repeat (first | refine blk_drewN ?_ _ | refine blk_drew ?_ | refine blk_alloc ?_ _)); exact BK212.out⟩, ⟨by (with_reducible repeat (first | refine blk_drewN ?_ _ | refine blk_drew ?_ | refine blk_alloc ?_ _)); exact BK213.out⟩, ⟨by repeat (first | (with_reducible first | exact HB.out | apply zba | apply zbd | apply zbe | refine below_set ?_ GE212.out | refine below_set ?_ GE213.out) | exact HB.out)⟩⟩
 case rest =>
  clear HC3; (try clear c1); (try clear p2); (try clear c6); (try clear c6b0); (try clear c6b1); (try clear c8); (try clear c9); (try clear c12); (try clear c13); (try clear c15); (try clear hcz10_0); (try clear hcz10_1); (try clear hcz10_2); (try clear hcz11_0); (try clear hcz11_1); (try clear hcz11_2); (try clear hcz13_0); (try clear hcz13_1); (try clear hcz13_2); (try clear hcz14_0); (try clear hcz14_1); (try clear hcz14_2); (try clear hcz16_0); (try clear hcz16_1); (try clear hcz16_2); (try clear hcz17_0); (try clear hcz17_1); (try clear hcz17_2); (try clear hfz10_0); (try clear hfz10_1); (try clear hfz10_2); (try clear hfz11_0); (try clear hfz11_1); (try clear hfz11_2); (try clear hfz13_0); (try clear hfz13_1); (try clear hfz13_2); (try clear hfz14_0); (try clear hfz14_1); (try clear hfz14_2); (try clear hfz16_0); (try clear hfz16_1); (try clear hfz16_2); (try clear hfz17_0); (try clear hfz17_1); (try clear hfz17_2); obtain ⟨kq, x27_2, rfl, HA, HJ2, BK212, BK213, HB⟩ := hcut
  cases kq with
  | zero => exact absurd HA.out (by simp [templelaw0_SameGrammar.j0])
  | succ kj2 =>
   have H := HA.out; clear HA
   simp only [templelaw0_SameGrammar.j0] at H
   by_cases c18 : x27_2 = true
   ·subst c18
    have H1 : (some false) = some r := by rw [if_pos rfl] at H; exact H
    clear H; have H := H1; clear H1; obtain rfl := Option.some.inj H; go_wp2; go_ret
    exact ⟨by first | rfl | (simp [errW_none, errW_some] <;> rfl) | (simp [*, errW_none, errW_some] <;> rfl), by repeat (first | (with_reducible first | exact HB.out | apply zba | apply zbd | apply zbe | refine below_set ?_ GE212.out | refine below_set ?_ GE213.out) | exact HB.out)⟩
   ·replace c18 := Bool.eq_false_iff.mpr c18
    subst c18
    have H1 : (templelaw0_SameGrammar.l0 kj2 0 a0_0 l0_1 l0_2 a1_0 l1_1 l1_2) = some r := by rw [if_neg (show ¬ (false = true) by decide)] at H; exact H
    clear H; have H := H1; clear H1; have H' := zam H; clear H; go_wp2
    go_loopg [5] kj2 (fun kq v5 w' => ∃ (x5_2 : Int), v5 = .int .i64 x5_2 ∧ Aside0 (templelaw0_SameGrammar.l0 kq x5_2 a0_0 l0_1 l0_2 a1_0 l1_1 l1_2 = some r) ∧ Aside0 (kq ≤ kj2) ∧ Aside0 (w'.heap[gb212]? = some (.cells #[.int .i64 a0_0, (.slice A0_1 l0_1.length c0_1), (.slice A0_2 l0_2.length c0_2)] 25 (0, 0))) ∧ Aside0 (w'.heap[gb213]? = some (.cells #[.int .i64 a1_0, (.slice A1_1 l1_1.length c1_1), (.slice A1_2 l1_2.length c1_2)] 25 (0, 0))) ∧ Aside0 (Below w.heap.size w w'))
    case atStart => exact ⟨(0), (by first | rfl | (simp; done) | (simp [i64_w]; done) | (simp [*]; done) | (simp [*, i64_w]; done) | (simp [*]; unfold wrap64; omega)), H', ⟨Nat.le_refl _⟩, ⟨by (with_reducible repeat (first | refine blk_drewN ?_ _ | refine blk_drew ?_ | refine blk_alloc ?_ _)); exact BK212.out⟩, ⟨by (with_reducible repeat (first | refine blk_drewN ?_ _ | refine blk_drew ?_ | refine blk_alloc ?_ _)); exact BK213.out⟩, ⟨by repeat (first | (with_reducible first | exact HB.out | apply zba | apply zbd | apply zbe | refine below_set ?_ GE212.out | refine below_set ?_ GE213.out) | exact HB.out)⟩⟩
    case round =>
     clear H'; (try clear c1); (try clear p2); (try clear c6); (try clear c6b0); (try clear c6b1); (try clear c8); (try clear c9); (try clear c12); (try clear c13); (try clear c15); (try clear c18); (try clear hcz10_0); (try clear hcz10_1); (try clear hcz10_2); (try clear hcz11_0); (try clear hcz11_1); (try clear hcz11_2); (try clear hcz13_0); (try clear hcz13_1); (try clear hcz13_2); (try clear hcz14_0); (try clear hcz14_1); (try clear hcz14_2); (try clear hcz16_0); (try clear hcz16_1); (try clear hcz16_2); (try clear hcz17_0); (try clear hcz17_1); (try clear hcz17_2); (try clear hfz10_0); (try clear hfz10_1); (try clear hfz10_2); (try clear hfz11_0); (try clear hfz11_1); (try clear hfz11_2); (try clear hfz13_0); (try clear hfz13_1); (try clear hfz13_2); (try clear hfz14_0); (try clear hfz14_1); (try clear hfz14_2); (try clear hfz16_0); (try clear hfz16_1); (try clear hfz16_2); (try clear hfz17_0); (try clear hfz17_1); (try clear hfz17_2); (try clear p2); obtain ⟨x5_2, rfl, HA, HK2, BK212, BK213, HB⟩ := hrel
     cases gk with
     | zero => exact absurd HA.out (by simp [templelaw0_SameGrammar.l0])
     | succ k2 =>
      have H := HA.out; clear HA
      simp only [templelaw0_SameGrammar.l0] at H
      by_cases c19 : x5_2 < (l0_2.length : Int)
      ·rw [if_pos c19] at H; have c19b0 : decide (x5_2 < (l0_2.length : Int)) = true := decide_eq_true c19; clear c19
       by_cases c20 : 0 ≤ x5_2
       ·rw [if_pos c20] at H; have c20b0 : decide (0 ≤ x5_2) = true := decide_eq_true c20; clear c20
        by_cases c21 : x5_2 < (l1_2.length : Int)
        ·rw [if_pos c21] at H; have c21b0 : decide (x5_2 < (l1_2.length : Int)) = true := decide_eq_true c21; clear c21; replace H := Option.bind_eq_some_iff.mp H; obtain ⟨t217, A220, H⟩ := H
         replace H : (if t217 = true then (templelaw0_SameGrammar.l0 k2 (wrap64 (x5_2 + 1)) a0_0 l0_1 l0_2 a1_0 l1_1 l1_2) else (some false)) = some r := H
         have A22 := zam A220; clear A220
         by_cases c23 : t217 = true
         ·subst c23
          have H1 : (templelaw0_SameGrammar.l0 k2 (wrap64 (x5_2 + 1)) a0_0 l0_1 l0_2 a1_0 l1_1 l1_2) = some r := by rw [if_pos rfl] at H; exact H
          clear H; have H := H1; clear H1; have H' := zam H; clear H; have hnb24 := NB212_213.out; have hnc24 := NB213_212.out
          have hcz25_0 : wr.cell? ⟨gb212, 0, none⟩ = some (.int .i64 a0_0) := (blk_cell BK212.out 0).trans rfl
          have hcz25_1 : wr.cell? ⟨gb212, 1, none⟩ = some (.slice A0_1 l0_1.length c0_1) := (blk_cell BK212.out 1).trans rfl
          have hcz25_2 : wr.cell? ⟨gb212, 2, none⟩ = some (.slice A0_2 l0_2.length c0_2) := (blk_cell BK212.out 2).trans rfl
          have hfz25_0 := blk_frozen BK212.out 0; have hfz25_1 := blk_frozen BK212.out 1; have hfz25_2 := blk_frozen BK212.out 2
          try go_wp2
          have n0_ := zam (blk_drew BK212.out); have n1_ := zam (blk_drew BK213.out); have n2_ := zam (below_drew1 HB.out); clear BK212; clear BK213; clear HB; have BK212 := n0_; have BK213 := n1_; have HB := n2_; clear n0_ n1_ n2_
          have p215 : 0 ≤ (x5_2 : Int) := of_decide_eq_true (by first | (with_reducible assumption) | assumption)
          have q215 : x5_2 < (l0_2.length : Int) := of_decide_eq_true (by first | (with_reducible assumption) | assumption)
          obtain ⟨ad215, A215_1, c215_1, e215, hx215_0, hx215_1, hl215_1, hi215_1⟩ := at_T44 HR0_2.out x5_2 p215 q215; have hw215_1 := hx215_1; have hw215_0 := hx215_0; cases e215
          replace hx215_0 := (HB.out.cell (zbl w _ hx215_0)).trans hx215_0
          replace hx215_1 := (HB.out.cell (zbl w _ hx215_1)).trans hx215_1
          have HR215_1 := zam hi215_1; have HC215_1 := zam hl215_1; clear hi215_1 hl215_1; replace p215 := eq_true p215; replace q215 := eq_true q215
          have p216 : 0 ≤ (x5_2 : Int) := of_decide_eq_true (by first | (with_reducible assumption) | assumption)
          have q216 : x5_2 < (l1_2.length : Int) := of_decide_eq_true (by first | (with_reducible assumption) | assumption)
          obtain ⟨ad216, A216_1, c216_1, e216, hx216_0, hx216_1, hl216_1, hi216_1⟩ := at_T44 HR1_2.out x5_2 p216 q216; have hw216_1 := hx216_1; have hw216_0 := hx216_0; cases e216
          replace hx216_0 := (HB.out.cell (zbl w _ hx216_0)).trans hx216_0
          replace hx216_1 := (HB.out.cell (zbl w _ hx216_1)).trans hx216_1
          have HR216_1 := zam hi216_1; have HC216_1 := zam hl216_1; clear hi216_1 hl216_1; replace p216 := eq_true p216; replace q216 := eq_true q216
          refine start_ (n := 12) (S := fun w' => w'.cell? ⟨gb212, 0, none⟩ = some (.int .i64 a0_0) ∧ w'.cell? ⟨gb212, 1, none⟩ = some (.slice A0_1 l0_1.length c0_1) ∧ w'.cell? ⟨gb212, 2, none⟩ = some (.slice (some ad215) l0_2.length c0_2) ∧ w'.cell? ⟨gb213, 0, none⟩ = some (.int .i64 a1_0) ∧ w'.cell? ⟨gb213, 1, none⟩ = some (.slice A1_1 l1_1.length c1_1) ∧ w'.cell? ⟨gb213, 2, none⟩ = some (.slice (some ad216) l1_2.length c1_2) ∧ w'.cell? (ad215.add ((x5_2).toNat * 2)) = some (.int .i64 ((rd_T44 l0_2 x5_2).f0)) ∧ w'.cell? ⟨(ad215.add ((x5_2).toNat * 2)).block, (ad215.add ((x5_2).toNat * 2)).off + 1, none⟩ = some (.slice A215_1 ((rd_T44 l0_2 x5_2).f1).length c215_1) ∧ w'.cell? (ad216.add ((x5_2).toNat * 2)) = some (.int .i64 ((rd_T44 l1_2 x5_2).f0)) ∧ w'.cell? ⟨(ad216.add ((x5_2).toNat * 2)).block, (ad216.add ((x5_2).toNat * 2)).off + 1, none⟩ = some (.slice A216_1 ((rd_T44 l1_2 x5_2).f1).length c216_1)) (ds := []) #[false, false, false, false, false, false, false, false, false, false, false, false] (by kernel_rfl) rfl rfl ⟨(blk_cell BK212.out 0).trans rfl, (blk_cell BK212.out 1).trans rfl, (blk_cell BK212.out 2).trans rfl, (blk_cell BK213.out 0).trans rfl, (blk_cell BK213.out 1).trans rfl, (blk_cell BK213.out 2).trans rfl, ((HB.out.cell (zbl w _ hw215_0)).trans hw215_0), ((HB.out.cell (zbl w _ hw215_1)).trans hw215_1), ((HB.out.cell (zbl w _ hw216_0)).trans hw216_0), ((HB.out.cell (zbl w _ hw216_1)).trans hw216_1)⟩ (fun hHeld => ?_); refine with_tabW templelaw0_SameGrammar.tab6 templelaw0_SameGrammar.bits6 (fun HT_ HW_ => ?_)
          generalize wr.drew = w26 at BK212 BK213 HB HR215_1 HR216_1 hx215_0 hx215_1 hx216_0 hx216_1 hHeld ⊢
          refine pure_ (i := 0) (N := some 35) (v := ?_) (a' := ?_) #[true, false, false, false, false, false, false, false, false, false, false, false] rfl rfl (any_of HT_.out (by kernel_rfl)) (fun _ _ _ h => h) (Or.inl ⟨by rfl, ?_⟩) ?_ ?_
          rotate_left
          ·intro w'
           go_simp; with_reducible rfl
          rotate_left
          ·simp only [Act.put, s1, s2, s3, i64_w, i32_w]
           rfl
          refine pure_ (i := 2) (N := some 37) (v := ?_) (a' := ?_) #[true, false, true, false, false, false, false, false, false, false, false, false] rfl rfl (any_of HT_.out (by kernel_rfl)) (fun _ _ _ h => h) (Or.inl ⟨by rfl, ?_⟩) ?_ ?_
          rotate_left
          ·intro w'
           go_simp; with_reducible rfl
          rotate_left
          ·simp only [Act.put, s1, s2, s3, i64_w, i32_w]
           rfl
          refine pure_ (i := 5) (N := some 40) (v := ?_) (a' := ?_) #[true, false, true, false, false, true, false, false, false, false, false, false] rfl rfl (any_of HT_.out (by kernel_rfl)) (fun _ _ _ h => h) (Or.inl ⟨by rfl, ?_⟩) ?_ ?_
          rotate_left
          ·intro w'
           go_simp; with_reducible rfl
          rotate_left
          ·simp only [Act.put, s1, s2, s3, i64_w, i32_w]
           rfl
          refine pure_ (i := 7) (N := some 42) (v := ?_) (a' := ?_) #[true, false, true, false, false, true, false, true, false, false, false, false] rfl rfl (any_of HT_.out (by kernel_rfl)) (fun _ _ _ h => h) (Or.inl ⟨by rfl, ?_⟩) ?_ ?_
          rotate_left
          ·intro w'
           go_simp; with_reducible rfl
          rotate_left
          ·simp only [Act.put, s1, s2, s3, i64_w, i32_w]
           rfl
          refine take_ (i := 1) (N := some 36) (v := ?_) (a' := ?_) #[true, true, true, false, false, true, false, true, false, false, false, false] rfl rfl (take_ofW HT_.out HW_.out (by kernel_rfl)) (fun _ _ _ h => h) (Or.inl ⟨by rfl, ?_⟩) hHeld ?_ ?_
          rotate_left
          ·rintro w' ⟨s0, s1, s2, s3, s4, s5, s6, s7, s8, s9⟩; go_simp; with_reducible rfl
          rotate_left
          ·simp only [Act.put, s1, s2, s3, i64_w, i32_w]
           rfl
          refine pure_ (i := 3) (N := some 38) (v := ?_) (a' := ?_) #[true, true, true, true, false, true, false, true, false, false, false, false] rfl rfl (any_of HT_.out (by kernel_rfl)) (fun _ _ _ h => h) (Or.inl ⟨by rfl, ?_⟩) ?_ ?_
          rotate_left
          ·intro w'
           go_simp; with_reducible rfl
          rotate_left
          ·simp only [Act.put, s1, s2, s3, i64_w, i32_w]
           rfl
          refine take_ (i := 4) (N := some 39) (v := ?_) (a' := ?_) #[true, true, true, true, true, true, false, true, false, false, false, false] rfl rfl (take_ofW HT_.out HW_.out (by kernel_rfl)) (fun _ _ _ h => h) (Or.inl ⟨by rfl, ?_⟩) hHeld ?_ ?_
          rotate_left
          ·rintro w' ⟨s0, s1, s2, s3, s4, s5, s6, s7, s8, s9⟩; go_simp; with_reducible rfl
          rotate_left
          ·simp only [Act.put, s1, s2, s3, i64_w, i32_w]
           rfl
          refine take_ (i := 6) (N := some 41) (v := ?_) (a' := ?_) #[true, true, true, true, true, true, true, true, false, false, false, false] rfl rfl (take_ofW HT_.out HW_.out (by kernel_rfl)) (fun _ _ _ h => h) (Or.inl ⟨by rfl, ?_⟩) hHeld ?_ ?_
          rotate_left
          ·rintro w' ⟨s0, s1, s2, s3, s4, s5, s6, s7, s8, s9⟩; go_simp; with_reducible rfl
          rotate_left
          ·simp only [Act.put, s1, s2, s3, i64_w, i32_w]
           rfl
          refine pure_ (i := 8) (N := some 43) (v := ?_) (a' := ?_) #[true, true, true, true, true, true, true, true, true, false, false, false] rfl rfl (any_of HT_.out (by kernel_rfl)) (fun _ _ _ h => h) (Or.inl ⟨by rfl, ?_⟩) ?_ ?_
          rotate_left
          ·intro w'
           go_simp; with_reducible rfl
          rotate_left
          ·simp only [Act.put, s1, s2, s3, i64_w, i32_w]
           rfl
          refine take_ (i := 9) (N := some 44) (v := ?_) (a' := ?_) #[true, true, true, true, true, true, true, true, true, true, false, false] rfl rfl (take_ofW HT_.out HW_.out (by kernel_rfl)) (fun _ _ _ h => h) (Or.inl ⟨by rfl, ?_⟩) hHeld ?_ ?_
          rotate_left
          ·rintro w' ⟨s0, s1, s2, s3, s4, s5, s6, s7, s8, s9⟩; go_simp; with_reducible rfl
          rotate_left
          ·simp only [Act.put, s1, s2, s3, i64_w, i32_w]
           rfl
          refine one_ (i := 10) (N := some 45) #[true, true, true, true, true, true, true, true, true, true, true, false] rfl rfl (one_of HT_.out (by kernel_rfl)) (by decide) (fun K hK => ?_)
          refine goes_ Try.func25 (by kernel_rfl) rfl #[.agg #[.int .i64 ((rd_T44 l0_2 x5_2).f0), .slice A215_1 ((rd_T44 l0_2 x5_2).f1).length c215_1], .agg #[.int .i64 ((rd_T44 l1_2 x5_2).f0), .slice A216_1 ((rd_T44 l1_2 x5_2).f1).length c216_1]] (by rfl) rfl rfl (by (try simp only [List.map_toArray, List.map_cons, List.map_nil]); first | done | rfl | (simp only [List.length_drop, List.length_take]; rfl)) ?_
          with_reducible refine (templelaw0_SameRule.calls k2 ((rd_T44 l0_2 x5_2).f0) _ _ ((rd_T44 l0_2 x5_2).f1) ((rd_T44 l1_2 x5_2).f0) _ _ ((rd_T44 l1_2 x5_2).f1) true _ ?side1 ?side2 ?side3 ?side4 A22.out).mono ?_
          (case side1 => repeat (first | exact (Kd.C_below HR215_1.out HB.out) | (with_reducible refine Kd.C_alloc ?_ _) | (with_reducible refine Kd.C_drewN ?_ _) | (with_reducible refine Kd.C_drew ?_)))
          (case side2 => exact HC215_1.out)
          (case side3 => repeat (first | exact (Kd.C_below HR216_1.out HB.out) | (with_reducible refine Kd.C_alloc ?_ _) | (with_reducible refine Kd.C_drewN ?_ _) | (with_reducible refine Kd.C_drew ?_)))
          (case side4 => exact HC216_1.out)
          rintro e w27 ⟨rfl, hb⟩
          refine ⟨_, rfl, ?_⟩
          have n0_ := kb BK212 hb; have n1_ := kb BK213 hb; have n2_ := ks HB hb; clear BK212; clear BK213; clear HB; have BK212 := n0_; have BK213 := n1_; have HB := n2_; clear n0_ n1_ n2_; (try clear hb)
          refine hK.out _ _ ⟨(blk_cell BK212.out 0).trans rfl, (blk_cell BK212.out 1).trans rfl, (blk_cell BK212.out 2).trans rfl, (blk_cell BK213.out 0).trans rfl, (blk_cell BK213.out 1).trans rfl, (blk_cell BK213.out 2).trans rfl, ((HB.out.cell (zbl w _ hw215_0)).trans hw215_0), ((HB.out.cell (zbl w _ hw215_1)).trans hw215_1), ((HB.out.cell (zbl w _ hw216_0)).trans hw216_0), ((HB.out.cell (zbl w _ hw216_1)).trans hw216_1)⟩ (fun hHeld => ?_)
          clear hK K
          refine norm_ (a' := ?_) ?_ ?_
          rotate_left
          ·show Act.put _ (some 45) _ = _
           simp only [Act.put, s1, s2, s3, i64_w, i32_w]
           rfl
          refine pure_ (i := 11) (N := some 46) (v := ?_) (a' := ?_) #[true, true, true, true, true, true, true, true, true, true, true, true] rfl rfl (any_of HT_.out (by kernel_rfl)) (fun _ _ _ h => h) (Or.inl ⟨by rfl, ?_⟩) ?_ ?_
          rotate_left
          ·intro w'
           go_simp; with_reducible rfl
          rotate_left
          ·simp only [Act.put, s1, s2, s3, i64_w, i32_w]
           rfl
          refine done_ (done_of HT_.out (by kernel_rfl)) ?_
          try go_wp2
          go_roundg k2
          case measure => have := HJ2.out; have := HK2.out; omega
          case rel => exact ⟨(wrap64 (x5_2 + 1)), (by first | rfl | (simp; done) | (simp [i64_w]; done) | (simp [*]; done) | (simp [*, i64_w]; done) | (simp [*]; unfold wrap64; omega)), H', ⟨by have := HJ2.out; have := HK2.out; omega⟩, ⟨by (with_reducible repeat (first | refine blk_drewN ?_ _ | refine blk_drew ?_ | refine blk_alloc ?_ _)); exact BK212.out⟩, ⟨by (with_reducible repeat (first | refine blk_drewN ?_ _ | refine blk_drew ?_ | refine blk_alloc ?_ _)); exact BK213.out⟩, ⟨by repeat (first | (with_reducible first | exact HB.out | apply zba | apply zbd | apply zbe | refine below_set ?_ GE212.out | refine below_set ?_ GE213.out) | exact HB.out)⟩⟩
         ·replace c23 := Bool.eq_false_iff.mpr c23
          subst c23
          have H1 : (some false) = some r := by rw [if_neg (show ¬ (false = true) by decide)] at H; exact H
          clear H; have H := H1; clear H1; obtain rfl := Option.some.inj H; have hnb28 := NB212_213.out; have hnc28 := NB213_212.out
          have hcz29_0 : wr.cell? ⟨gb212, 0, none⟩ = some (.int .i64 a0_0) := (blk_cell BK212.out 0).trans rfl
          have hcz29_1 : wr.cell? ⟨gb212, 1, none⟩ = some (.slice A0_1 l0_1.length c0_1) := (blk_cell BK212.out 1).trans rfl
          have hcz29_2 : wr.cell? ⟨gb212, 2, none⟩ = some (.slice A0_2 l0_2.length c0_2) := (blk_cell BK212.out 2).trans rfl
          have hfz29_0 := blk_frozen BK212.out 0; have hfz29_1 := blk_frozen BK212.out 1; have hfz29_2 := blk_frozen BK212.out 2
          try go_wp2
          have n0_ := zam (blk_drew BK212.out); have n1_ := zam (blk_drew BK213.out); have n2_ := zam (below_drew1 HB.out); clear BK212; clear BK213; clear HB; have BK212 := n0_; have BK213 := n1_; have HB := n2_; clear n0_ n1_ n2_
          have p215 : 0 ≤ (x5_2 : Int) := of_decide_eq_true (by first | (with_reducible assumption) | assumption)
          have q215 : x5_2 < (l0_2.length : Int) := of_decide_eq_true (by first | (with_reducible assumption) | assumption)
          obtain ⟨ad215, A215_1, c215_1, e215, hx215_0, hx215_1, hl215_1, hi215_1⟩ := at_T44 HR0_2.out x5_2 p215 q215; have hw215_1 := hx215_1; have hw215_0 := hx215_0; cases e215
          replace hx215_0 := (HB.out.cell (zbl w _ hx215_0)).trans hx215_0
          replace hx215_1 := (HB.out.cell (zbl w _ hx215_1)).trans hx215_1
          have HR215_1 := zam hi215_1; have HC215_1 := zam hl215_1; clear hi215_1 hl215_1; replace p215 := eq_true p215; replace q215 := eq_true q215
          have p216 : 0 ≤ (x5_2 : Int) := of_decide_eq_true (by first | (with_reducible assumption) | assumption)
          have q216 : x5_2 < (l1_2.length : Int) := of_decide_eq_true (by first | (with_reducible assumption) | assumption)
          obtain ⟨ad216, A216_1, c216_1, e216, hx216_0, hx216_1, hl216_1, hi216_1⟩ := at_T44 HR1_2.out x5_2 p216 q216; have hw216_1 := hx216_1; have hw216_0 := hx216_0; cases e216
          replace hx216_0 := (HB.out.cell (zbl w _ hx216_0)).trans hx216_0
          replace hx216_1 := (HB.out.cell (zbl w _ hx216_1)).trans hx216_1
          have HR216_1 := zam hi216_1; have HC216_1 := zam hl216_1; clear hi216_1 hl216_1; replace p216 := eq_true p216; replace q216 := eq_true q216
          refine start_ (n := 12) (S := fun w' => w'.cell? ⟨gb212, 0, none⟩ = some (.int .i64 a0_0) ∧ w'.cell? ⟨gb212, 1, none⟩ = some (.slice A0_1 l0_1.length c0_1) ∧ w'.cell? ⟨gb212, 2, none⟩ = some (.slice (some ad215) l0_2.length c0_2) ∧ w'.cell? ⟨gb213, 0, none⟩ = some (.int .i64 a1_0) ∧ w'.cell? ⟨gb213, 1, none⟩ = some (.slice A1_1 l1_1.length c1_1) ∧ w'.cell? ⟨gb213, 2, none⟩ = some (.slice (some ad216) l1_2.length c1_2) ∧ w'.cell? (ad215.add ((x5_2).toNat * 2)) = some (.int .i64 ((rd_T44 l0_2 x5_2).f0)) ∧ w'.cell? ⟨(ad215.add ((x5_2).toNat * 2)).block, (ad215.add ((x5_2).toNat * 2)).off + 1, none⟩ = some (.slice A215_1 ((rd_T44 l0_2 x5_2).f1).length c215_1) ∧ w'.cell? (ad216.add ((x5_2).toNat * 2)) = some (.int .i64 ((rd_T44 l1_2 x5_2).f0)) ∧ w'.cell? ⟨(ad216.add ((x5_2).toNat * 2)).block, (ad216.add ((x5_2).toNat * 2)).off + 1, none⟩ = some (.slice A216_1 ((rd_T44 l1_2 x5_2).f1).length c216_1)) (ds := []) #[false, false, false, false, false, false, false, false, false, false, false, false] (by kernel_rfl) rfl rfl ⟨(blk_cell BK212.out 0).trans rfl, (blk_cell BK212.out 1).trans rfl, (blk_cell BK212.out 2).trans rfl, (blk_cell BK213.out 0).trans rfl, (blk_cell BK213.out 1).trans rfl, (blk_cell BK213.out 2).trans rfl, ((HB.out.cell (zbl w _ hw215_0)).trans hw215_0), ((HB.out.cell (zbl w _ hw215_1)).trans hw215_1), ((HB.out.cell (zbl w _ hw216_0)).trans hw216_0), ((HB.out.cell (zbl w _ hw216_1)).trans hw216_1)⟩ (fun hHeld => ?_); refine with_tabW templelaw0_SameGrammar.tab6 templelaw0_SameGrammar.bits6 (fun HT_ HW_ => ?_)
          generalize wr.drew = w30 at BK212 BK213 HB HR215_1 HR216_1 hx215_0 hx215_1 hx216_0 hx216_1 hHeld ⊢
          refine pure_ (i := 0) (N := some 35) (v := ?_) (a' := ?_) #[true, false, false, false, false, false, false, false, false, false, false, false] rfl rfl (any_of HT_.out (by kernel_rfl)) (fun _ _ _ h => h) (Or.inl ⟨by rfl, ?_⟩) ?_ ?_
          rotate_left
          ·intro w'
           go_simp; with_reducible rfl
          rotate_left
          ·simp only [Act.put, s1, s2, s3, i64_w, i32_w]
           rfl
          refine pure_ (i := 2) (N := some 37) (v := ?_) (a' := ?_) #[true, false, true, false, false, false, false, false, false, false, false, false] rfl rfl (any_of HT_.out (by kernel_rfl)) (fun _ _ _ h => h) (Or.inl ⟨by rfl, ?_⟩) ?_ ?_
          rotate_left
          ·intro w'
           go_simp; with_reducible rfl
          rotate_left
          ·simp only [Act.put, s1, s2, s3, i64_w, i32_w]
           rfl
          refine pure_ (i := 5) (N := some 40) (v := ?_) (a' := ?_) #[true, false, true, false, false, true, false, false, false, false, false, false] rfl rfl (any_of HT_.out (by kernel_rfl)) (fun _ _ _ h => h) (Or.inl ⟨by rfl, ?_⟩) ?_ ?_
          rotate_left
          ·intro w'
           go_simp; with_reducible rfl
          rotate_left
          ·simp only [Act.put, s1, s2, s3, i64_w, i32_w]
           rfl
          refine pure_ (i := 7) (N := some 42) (v := ?_) (a' := ?_) #[true, false, true, false, false, true, false, true, false, false, false, false] rfl rfl (any_of HT_.out (by kernel_rfl)) (fun _ _ _ h => h) (Or.inl ⟨by rfl, ?_⟩) ?_ ?_
          rotate_left
          ·intro w'
           go_simp; with_reducible rfl
          rotate_left
          ·simp only [Act.put, s1, s2, s3, i64_w, i32_w]
           rfl
          refine take_ (i := 1) (N := some 36) (v := ?_) (a' := ?_) #[true, true, true, false, false, true, false, true, false, false, false, false] rfl rfl (take_ofW HT_.out HW_.out (by kernel_rfl)) (fun _ _ _ h => h) (Or.inl ⟨by rfl, ?_⟩) hHeld ?_ ?_
          rotate_left
          ·rintro w' ⟨s0, s1, s2, s3, s4, s5, s6, s7, s8, s9⟩; go_simp; with_reducible rfl
          rotate_left
          ·simp only [Act.put, s1, s2, s3, i64_w, i32_w]
           rfl
          refine pure_ (i := 3) (N := some 38) (v := ?_) (a' := ?_) #[true, true, true, true, false, true, false, true, false, false, false, false] rfl rfl (any_of HT_.out (by kernel_rfl)) (fun _ _ _ h => h) (Or.inl ⟨by rfl, ?_⟩) ?_ ?_
          rotate_left
          ·intro w'
           go_simp; with_reducible rfl
          rotate_left
          ·simp only [Act.put, s1, s2, s3, i64_w, i32_w]
           rfl
          refine take_ (i := 4) (N := some 39) (v := ?_) (a' := ?_) #[true, true, true, true, true, true, false, true, false, false, false, false] rfl rfl (take_ofW HT_.out HW_.out (by kernel_rfl)) (fun _ _ _ h => h) (Or.inl ⟨by rfl, ?_⟩) hHeld ?_ ?_
          rotate_left
          ·rintro w' ⟨s0, s1, s2, s3, s4, s5, s6, s7, s8, s9⟩; go_simp; with_reducible rfl
          rotate_left
          ·simp only [Act.put, s1, s2, s3, i64_w, i32_w]
           rfl
          refine take_ (i := 6) (N := some 41) (v := ?_) (a' := ?_) #[true, true, true, true, true, true, true, true, false, false, false, false] rfl rfl (take_ofW HT_.out HW_.out (by kernel_rfl)) (fun _ _ _ h => h) (Or.inl ⟨by rfl, ?_⟩) hHeld ?_ ?_
          rotate_left
          ·rintro w' ⟨s0, s1, s2, s3, s4, s5, s6, s7, s8, s9⟩; go_simp; with_reducible rfl
          rotate_left
          ·simp only [Act.put, s1, s2, s3, i64_w, i32_w]
           rfl
          refine pure_ (i := 8) (N := some 43) (v := ?_) (a' := ?_) #[true, true, true, true, true, true, true, true, true, false, false, false] rfl rfl (any_of HT_.out (by kernel_rfl)) (fun _ _ _ h => h) (Or.inl ⟨by rfl, ?_⟩) ?_ ?_
          rotate_left
          ·intro w'
           go_simp; with_reducible rfl
          rotate_left
          ·simp only [Act.put, s1, s2, s3, i64_w, i32_w]
           rfl
          refine take_ (i := 9) (N := some 44) (v := ?_) (a' := ?_) #[true, true, true, true, true, true, true, true, true, true, false, false] rfl rfl (take_ofW HT_.out HW_.out (by kernel_rfl)) (fun _ _ _ h => h) (Or.inl ⟨by rfl, ?_⟩) hHeld ?_ ?_
          rotate_left
          ·rintro w' ⟨s0, s1, s2, s3, s4, s5, s6, s7, s8, s9⟩; go_simp; with_reducible rfl
          rotate_left
          ·simp only [Act.put, s1, s2, s3, i64_w, i32_w]
           rfl
          refine one_ (i := 10) (N := some 45) #[true, true, true, true, true, true, true, true, true, true, true, false] rfl rfl (one_of HT_.out (by kernel_rfl)) (by decide) (fun K hK => ?_)
          refine goes_ Try.func25 (by kernel_rfl) rfl #[.agg #[.int .i64 ((rd_T44 l0_2 x5_2).f0), .slice A215_1 ((rd_T44 l0_2 x5_2).f1).length c215_1], .agg #[.int .i64 ((rd_T44 l1_2 x5_2).f0), .slice A216_1 ((rd_T44 l1_2 x5_2).f1).length c216_1]] (by rfl) rfl rfl (by (try simp only [List.map_toArray, List.map_cons, List.map_nil]); first | done | rfl | (simp only [List.length_drop, List.length_take]; rfl)) ?_
          with_reducible refine (templelaw0_SameRule.calls k2 ((rd_T44 l0_2 x5_2).f0) _ _ ((rd_T44 l0_2 x5_2).f1) ((rd_T44 l1_2 x5_2).f0) _ _ ((rd_T44 l1_2 x5_2).f1) false _ ?side1 ?side2 ?side3 ?side4 A22.out).mono ?_
          (case side1 => repeat (first | exact (Kd.C_below HR215_1.out HB.out) | (with_reducible refine Kd.C_alloc ?_ _) | (with_reducible refine Kd.C_drewN ?_ _) | (with_reducible refine Kd.C_drew ?_)))
          (case side2 => exact HC215_1.out)
          (case side3 => repeat (first | exact (Kd.C_below HR216_1.out HB.out) | (with_reducible refine Kd.C_alloc ?_ _) | (with_reducible refine Kd.C_drewN ?_ _) | (with_reducible refine Kd.C_drew ?_)))
          (case side4 => exact HC216_1.out)
          rintro e w31 ⟨rfl, hb⟩
          refine ⟨_, rfl, ?_⟩
          have n0_ := kb BK212 hb; have n1_ := kb BK213 hb; have n2_ := ks HB hb; clear BK212; clear BK213; clear HB; have BK212 := n0_; have BK213 := n1_; have HB := n2_; clear n0_ n1_ n2_; (try clear hb)
          refine hK.out _ _ ⟨(blk_cell BK212.out 0).trans rfl, (blk_cell BK212.out 1).trans rfl, (blk_cell BK212.out 2).trans rfl, (blk_cell BK213.out 0).trans rfl, (blk_cell BK213.out 1).trans rfl, (blk_cell BK213.out 2).trans rfl, ((HB.out.cell (zbl w _ hw215_0)).trans hw215_0), ((HB.out.cell (zbl w _ hw215_1)).trans hw215_1), ((HB.out.cell (zbl w _ hw216_0)).trans hw216_0), ((HB.out.cell (zbl w _ hw216_1)).trans hw216_1)⟩ (fun hHeld => ?_)
          clear hK K
          refine norm_ (a' := ?_) ?_ ?_
          rotate_left
          ·show Act.put _ (some 45) _ = _
           simp only [Act.put, s1, s2, s3, i64_w, i32_w]
           rfl
          refine pure_ (i := 11) (N := some 46) (v := ?_) (a' := ?_) #[true, true, true, true, true, true, true, true, true, true, true, true] rfl rfl (any_of HT_.out (by kernel_rfl)) (fun _ _ _ h => h) (Or.inl ⟨by rfl, ?_⟩) ?_ ?_
          rotate_left
          ·intro w'
           go_simp; with_reducible rfl
          rotate_left
          ·simp only [Act.put, s1, s2, s3, i64_w, i32_w]
           rfl
          refine done_ (done_of HT_.out (by kernel_rfl)) ?_
          try go_wp2
          go_ret
          exact ⟨by first | rfl | (simp [errW_none, errW_some] <;> rfl) | (simp [*, errW_none, errW_some] <;> rfl), by repeat (first | (with_reducible first | exact HB.out | apply zba | apply zbd | apply zbe | refine below_set ?_ GE212.out | refine below_set ?_ GE213.out) | exact HB.out)⟩
        ·rw [if_neg c21] at H
         exact absurd H (by simp)
       ·rw [if_neg c20] at H
        exact absurd H (by simp)
      ·rw [if_neg c19] at H; have c19b0 : decide (x5_2 < (l0_2.length : Int)) = false := decide_eq_false c19; clear c19; obtain rfl := Option.some.inj H; have hnb32 := NB212_213.out; have hnc32 := NB213_212.out
       have hcz33_0 : wr.cell? ⟨gb212, 0, none⟩ = some (.int .i64 a0_0) := (blk_cell BK212.out 0).trans rfl
       have hcz33_1 : wr.cell? ⟨gb212, 1, none⟩ = some (.slice A0_1 l0_1.length c0_1) := (blk_cell BK212.out 1).trans rfl
       have hcz33_2 : wr.cell? ⟨gb212, 2, none⟩ = some (.slice A0_2 l0_2.length c0_2) := (blk_cell BK212.out 2).trans rfl
       have hfz33_0 := blk_frozen BK212.out 0; have hfz33_1 := blk_frozen BK212.out 1; have hfz33_2 := blk_frozen BK212.out 2; go_wp2; go_ret
       exact ⟨by first | rfl | (simp [errW_none, errW_some] <;> rfl) | (simp [*, errW_none, errW_some] <;> rfl), by repeat (first | (with_reducible first | exact HB.out | apply zba | apply zbd | apply zbe | refine below_set ?_ GE212.out | refine below_set ?_ GE213.out) | exact HB.out)⟩
def templelaw5_awake.f  : Option (Bool) := (show_Show.f 0 (([(⟨#[83]⟩ : ByteArray)] : List ByteArray)) (([(⟨0, (([(⟨false, ([] : List (S38))⟩ : S41), (⟨true, (([(⟨(-1), 34, 34⟩ : S38), (⟨(-1), 10, 10⟩ : S38), (⟨0, 0, 0⟩ : S38), (⟨(-1), 39, 122⟩ : S38)] : List (S38)))⟩ : S41)] : List (S41)))⟩ : S44), (⟨0, (([(⟨false, (([(⟨0, 0, 0⟩ : S38)] : List (S38)))⟩ : S41)] : List (S41)))⟩ : S44)] : List (S44)))).bind fun bt236 => ((show_Show.f 0 ([] : List ByteArray) ([] : List (S44))).bind fun bt238 => (if bt236.1.toList = ([115, 116, 97, 114, 116, 32, 83, 59, 10, 83, 32, 61, 32, 34, 34, 32, 38, 32, 126, 34, 92, 34, 92, 120, 48, 97, 34, 32, 83, 32, 39, 92, 39, 39, 46, 46, 39, 122, 39, 32, 124, 32, 83, 59, 10] : List UInt8) then ((templelaw0_Num.f bt236.2).bind fun t240 => (if t240 = 0 then ((templelaw0_Num.f bt238.2).bind fun t241 => (some (t241 == 500))) else (none))) else (none)))
set_option maxHeartbeats 8000000 in
set_option maxRecDepth 100000 in
theorem templelaw5_awake.calls  (r : Bool) (w : World) (h : templelaw5_awake.f  = some r) :
  Calls Try.prog 14 #[] w fun e w' => e = .returned (.bool r) ∧ Below w.heap.size w w' := by
 have hu41 := Try.underlying41; have hu38 := Try.underlying38; have hu44 := Try.underlying44; have hu25 := Try.underlying25
 have HB := zam (Below.refl w.heap.size w)
 have H : ((show_Show.f 0 (([(⟨#[83]⟩ : ByteArray)] : List ByteArray)) (([(⟨0, (([(⟨false, ([] : List (S38))⟩ : S41), (⟨true, (([(⟨(-1), 34, 34⟩ : S38), (⟨(-1), 10, 10⟩ : S38), (⟨0, 0, 0⟩ : S38), (⟨(-1), 39, 122⟩ : S38)] : List (S38)))⟩ : S41)] : List (S41)))⟩ : S44), (⟨0, (([(⟨false, (([(⟨0, 0, 0⟩ : S38)] : List (S38)))⟩ : S41)] : List (S41)))⟩ : S44)] : List (S44)))).bind fun bt236 => ((show_Show.f 0 ([] : List ByteArray) ([] : List (S44))).bind fun bt238 => (if bt236.1.toList = ([115, 116, 97, 114, 116, 32, 83, 59, 10, 83, 32, 61, 32, 34, 34, 32, 38, 32, 126, 34, 92, 34, 92, 120, 48, 97, 34, 32, 83, 32, 39, 92, 39, 39, 46, 46, 39, 122, 39, 32, 124, 32, 83, 59, 10] : List UInt8) then ((templelaw0_Num.f bt236.2).bind fun t240 => (if t240 = 0 then ((templelaw0_Num.f bt238.2).bind fun t241 => (some (t241 == 500))) else (none))) else (none)))) = some r := h
 clear h; obtain ⟨y218, hy218⟩ : ∃ y_ : List ByteArray, y_ = (([(⟨#[83]⟩ : ByteArray)] : List ByteArray)) := ⟨_, rfl⟩
 replace H : ((show_Show.f 0 y218 (([(⟨0, (([(⟨false, ([] : List (S38))⟩ : S41), (⟨true, (([(⟨(-1), 34, 34⟩ : S38), (⟨(-1), 10, 10⟩ : S38), (⟨0, 0, 0⟩ : S38), (⟨(-1), 39, 122⟩ : S38)] : List (S38)))⟩ : S41)] : List (S41)))⟩ : S44), (⟨0, (([(⟨false, (([(⟨0, 0, 0⟩ : S38)] : List (S38)))⟩ : S41)] : List (S41)))⟩ : S44)] : List (S44)))).bind fun bt236 => ((show_Show.f 0 ([] : List ByteArray) ([] : List (S44))).bind fun bt238 => (if bt236.1.toList = ([115, 116, 97, 114, 116, 32, 83, 59, 10, 83, 32, 61, 32, 34, 34, 32, 38, 32, 126, 34, 92, 34, 92, 120, 48, 97, 34, 32, 83, 32, 39, 92, 39, 39, 46, 46, 39, 122, 39, 32, 124, 32, 83, 59, 10] : List UInt8) then ((templelaw0_Num.f bt236.2).bind fun t240 => (if t240 = 0 then ((templelaw0_Num.f bt238.2).bind fun t241 => (some (t241 == 500))) else (none))) else (none)))) = some r := by first | (rw [hy218]; with_reducible exact H) | (have H2_ := (Option.bind_some _ _).symm.trans H; rw [hy218]; with_reducible exact H2_) | (have H2_ := (Option.bind_some _ _).symm.trans H; with_reducible exact H2_) | with_reducible exact H | (rw [hy218]; exact H) | exact H
 have Ny218 := zam hy218; clear hy218; obtain ⟨y221, hy221⟩ : ∃ y_ : List (S38), y_ = (([(⟨(-1), 34, 34⟩ : S38), (⟨(-1), 10, 10⟩ : S38), (⟨0, 0, 0⟩ : S38), (⟨(-1), 39, 122⟩ : S38)] : List (S38))) := ⟨_, rfl⟩
 replace H : ((show_Show.f 0 y218 (([(⟨0, (([(⟨false, ([] : List (S38))⟩ : S41), (⟨true, y221⟩ : S41)] : List (S41)))⟩ : S44), (⟨0, (([(⟨false, (([(⟨0, 0, 0⟩ : S38)] : List (S38)))⟩ : S41)] : List (S41)))⟩ : S44)] : List (S44)))).bind fun bt236 => ((show_Show.f 0 ([] : List ByteArray) ([] : List (S44))).bind fun bt238 => (if bt236.1.toList = ([115, 116, 97, 114, 116, 32, 83, 59, 10, 83, 32, 61, 32, 34, 34, 32, 38, 32, 126, 34, 92, 34, 92, 120, 48, 97, 34, 32, 83, 32, 39, 92, 39, 39, 46, 46, 39, 122, 39, 32, 124, 32, 83, 59, 10] : List UInt8) then ((templelaw0_Num.f bt236.2).bind fun t240 => (if t240 = 0 then ((templelaw0_Num.f bt238.2).bind fun t241 => (some (t241 == 500))) else (none))) else (none)))) = some r := by first | (rw [hy221]; with_reducible exact H) | (have H2_ := (Option.bind_some _ _).symm.trans H; rw [hy221]; with_reducible exact H2_) | (have H2_ := (Option.bind_some _ _).symm.trans H; with_reducible exact H2_) | with_reducible exact H | (rw [hy221]; exact H) | exact H
 have Ny221 := zam hy221; clear hy221; obtain ⟨y224, hy224⟩ : ∃ y_ : List (S41), y_ = (([(⟨false, ([] : List (S38))⟩ : S41), (⟨true, y221⟩ : S41)] : List (S41))) := ⟨_, rfl⟩
 replace H : ((show_Show.f 0 y218 (([(⟨0, y224⟩ : S44), (⟨0, (([(⟨false, (([(⟨0, 0, 0⟩ : S38)] : List (S38)))⟩ : S41)] : List (S41)))⟩ : S44)] : List (S44)))).bind fun bt236 => ((show_Show.f 0 ([] : List ByteArray) ([] : List (S44))).bind fun bt238 => (if bt236.1.toList = ([115, 116, 97, 114, 116, 32, 83, 59, 10, 83, 32, 61, 32, 34, 34, 32, 38, 32, 126, 34, 92, 34, 92, 120, 48, 97, 34, 32, 83, 32, 39, 92, 39, 39, 46, 46, 39, 122, 39, 32, 124, 32, 83, 59, 10] : List UInt8) then ((templelaw0_Num.f bt236.2).bind fun t240 => (if t240 = 0 then ((templelaw0_Num.f bt238.2).bind fun t241 => (some (t241 == 500))) else (none))) else (none)))) = some r := by first | (rw [hy224]; with_reducible exact H) | (have H2_ := (Option.bind_some _ _).symm.trans H; rw [hy224]; with_reducible exact H2_) | (have H2_ := (Option.bind_some _ _).symm.trans H; with_reducible exact H2_) | with_reducible exact H | (rw [hy224]; exact H) | exact H
 have Ny224 := zam hy224; clear hy224; obtain ⟨y227, hy227⟩ : ∃ y_ : List (S38), y_ = (([(⟨0, 0, 0⟩ : S38)] : List (S38))) := ⟨_, rfl⟩
 replace H : ((show_Show.f 0 y218 (([(⟨0, y224⟩ : S44), (⟨0, (([(⟨false, y227⟩ : S41)] : List (S41)))⟩ : S44)] : List (S44)))).bind fun bt236 => ((show_Show.f 0 ([] : List ByteArray) ([] : List (S44))).bind fun bt238 => (if bt236.1.toList = ([115, 116, 97, 114, 116, 32, 83, 59, 10, 83, 32, 61, 32, 34, 34, 32, 38, 32, 126, 34, 92, 34, 92, 120, 48, 97, 34, 32, 83, 32, 39, 92, 39, 39, 46, 46, 39, 122, 39, 32, 124, 32, 83, 59, 10] : List UInt8) then ((templelaw0_Num.f bt236.2).bind fun t240 => (if t240 = 0 then ((templelaw0_Num.f bt238.2).bind fun t241 => (some (t241 == 500))) else (none))) else (none)))) = some r := by first | (rw [hy227]; with_reducible exact H) | (have H2_ := (Option.bind_some _ _).symm.trans H; rw [hy227]; with_reducible exact H2_) | (have H2_ := (Option.bind_some _ _).symm.trans H; with_reducible exact H2_) | with_reducible exact H | (rw [hy227]; exact H) | exact H
 have Ny227 := zam hy227; clear hy227; obtain ⟨y230, hy230⟩ : ∃ y_ : List (S41), y_ = (([(⟨false, y227⟩ : S41)] : List (S41))) := ⟨_, rfl⟩
 replace H : ((show_Show.f 0 y218 (([(⟨0, y224⟩ : S44), (⟨0, y230⟩ : S44)] : List (S44)))).bind fun bt236 => ((show_Show.f 0 ([] : List ByteArray) ([] : List (S44))).bind fun bt238 => (if bt236.1.toList = ([115, 116, 97, 114, 116, 32, 83, 59, 10, 83, 32, 61, 32, 34, 34, 32, 38, 32, 126, 34, 92, 34, 92, 120, 48, 97, 34, 32, 83, 32, 39, 92, 39, 39, 46, 46, 39, 122, 39, 32, 124, 32, 83, 59, 10] : List UInt8) then ((templelaw0_Num.f bt236.2).bind fun t240 => (if t240 = 0 then ((templelaw0_Num.f bt238.2).bind fun t241 => (some (t241 == 500))) else (none))) else (none)))) = some r := by first | (rw [hy230]; with_reducible exact H) | (have H2_ := (Option.bind_some _ _).symm.trans H; rw [hy230]; with_reducible exact H2_) | (have H2_ := (Option.bind_some _ _).symm.trans H; with_reducible exact H2_) | with_reducible exact H | (rw [hy230]; exact H) | exact H
 have Ny230 := zam hy230; clear hy230; obtain ⟨y233, hy233⟩ : ∃ y_ : List (S44), y_ = (([(⟨0, y224⟩ : S44), (⟨0, y230⟩ : S44)] : List (S44))) := ⟨_, rfl⟩
 replace H : ((show_Show.f 0 y218 y233).bind fun bt236 => ((show_Show.f 0 ([] : List ByteArray) ([] : List (S44))).bind fun bt238 => (if bt236.1.toList = ([115, 116, 97, 114, 116, 32, 83, 59, 10, 83, 32, 61, 32, 34, 34, 32, 38, 32, 126, 34, 92, 34, 92, 120, 48, 97, 34, 32, 83, 32, 39, 92, 39, 39, 46, 46, 39, 122, 39, 32, 124, 32, 83, 59, 10] : List UInt8) then ((templelaw0_Num.f bt236.2).bind fun t240 => (if t240 = 0 then ((templelaw0_Num.f bt238.2).bind fun t241 => (some (t241 == 500))) else (none))) else (none)))) = some r := by first | (rw [hy233]; with_reducible exact H) | (have H2_ := (Option.bind_some _ _).symm.trans H; rw [hy233]; with_reducible exact H2_) | (have H2_ := (Option.bind_some _ _).symm.trans H; with_reducible exact H2_) | with_reducible exact H | (rw [hy233]; exact H) | exact H
 have Ny233 := zam hy233; clear hy233; replace H := Option.bind_eq_some_iff.mp H; obtain ⟨⟨t236, t237⟩, A10, H⟩ := H; (try dsimp only at H); have A1 := zam A10; clear A10; replace H := Option.bind_eq_some_iff.mp H; obtain ⟨⟨t238, t239⟩, A20, H⟩ := H; (try dsimp only at H); have A2 := zam A20; clear A20
 by_cases c3 : t236.toList = ([115, 116, 97, 114, 116, 32, 83, 59, 10, 83, 32, 61, 32, 34, 34, 32, 38, 32, 126, 34, 92, 34, 92, 120, 48, 97, 34, 32, 83, 32, 39, 92, 39, 39, 46, 46, 39, 122, 39, 32, 124, 32, 83, 59, 10] : List UInt8)
 ·rw [if_pos c3] at H; have c3b0 : (t236.toList == ([115, 116, 97, 114, 116, 32, 83, 59, 10, 83, 32, 61, 32, 34, 34, 32, 38, 32, 126, 34, 92, 34, 92, 120, 48, 97, 34, 32, 83, 32, 39, 92, 39, 39, 46, 46, 39, 122, 39, 32, 124, 32, 83, 59, 10] : List UInt8)) = true := beq_iff_eq.mpr c3; have c3b1 : (t236.toList != ([115, 116, 97, 114, 116, 32, 83, 59, 10, 83, 32, 61, 32, 34, 34, 32, 38, 32, 126, 34, 92, 34, 92, 120, 48, 97, 34, 32, 83, 32, 39, 92, 39, 39, 46, 46, 39, 122, 39, 32, 124, 32, 83, 59, 10] : List UInt8)) = false := bne_eq_false_iff_eq.mpr c3; clear c3; replace H := Option.bind_eq_some_iff.mp H; obtain ⟨t240, A40, H⟩ := H
  replace H : (if t240 = 0 then ((templelaw0_Num.f t239).bind fun t241 => (some (t241 == 500))) else (none)) = some r := H
  have A4 := zam A40; clear A40
  by_cases c5 : t240 = 0
  ·rw [if_pos c5] at H; have c5b0 : (t240 == 0) = true := beq_iff_eq.mpr c5; have c5b1 : (t240 != 0) = false := bne_eq_false_iff_eq.mpr c5; clear c5; replace H := Option.bind_eq_some_iff.mp H; obtain ⟨t241, A60, H⟩ := H
   replace H : (some (t241 == 500)) = some r := H
   have A6 := zam A60; clear A60; obtain rfl := Option.some.inj H
   go_enter Try.func14, Try.ntmps14
   go_wp2_with (first | ((with_reducible refine gate_dst (N := 6) rfl ?_); refine Kd.R_lit Kd.string _ 9 ?hg (N := 6) ?hd (xs := ([(⟨#[83]⟩ : ByteArray)] : List ByteArray)) (inner := [.string (⟨#[83]⟩ : ByteArray)]) (ok := fun _ => True) (okp := fun _ => True) ?hr ?hp (fun _ hk => hk) trivial (Below.refl _ _) (Nat.le_refl _) (by simp) ?_; (case hd => rfl); (case hg => rfl); (case hr => first | (go_simp; done) | (go_simp; rfl)); (case hp => exact (Reps.one (show Kd.M Kd.string _ _ _ (⟨#[83]⟩ : ByteArray) [.string (⟨#[83]⟩ : ByteArray)] from rfl) (Reps.none _ _))); intro v219 w7 ho8 hb hg_ hnew_; clear hg_ hnew_; (first | rw [← Ny218.out] at ho8 | (simp only [Int.reduceToNat] at ho8; rw [← Ny218.out] at ho8)); have n0_ := zam (Kd.R_lower ho8 (below_size (by repeat (first | (with_reducible first | exact HB.out | apply zba | apply zbd | apply zbe) | exact HB.out)))); have n1_ := zam (below_step (by repeat (first | (with_reducible first | exact HB.out | apply zba | apply zbd | apply zbe) | exact HB.out)) hb); clear HB; have HO220 := n0_; have HB := n1_; clear n0_ n1_; clear hb ho8) | ((with_reducible refine gate_dst (N := 12) rfl ?_); refine Kd.R_lit k38 _ 38 ?hg (N := 12) ?hd (xs := ([(⟨(-1), 34, 34⟩ : S38), (⟨(-1), 10, 10⟩ : S38), (⟨0, 0, 0⟩ : S38), (⟨(-1), 39, 122⟩ : S38)] : List (S38))) (inner := [.int .i64 (-1), .int .i64 34, .int .i64 34, .int .i64 (-1), .int .i64 10, .int .i64 10, .int .i64 0, .int .i64 0, .int .i64 0, .int .i64 (-1), .int .i64 39, .int .i64 122]) (ok := fun _ => True) (okp := fun _ => True) ?hr ?hp (fun _ hk => hk) trivial (Below.refl _ _) (Nat.le_refl _) (by simp) ?_; (case hd => rfl); (case hg => rfl); (case hr => first | (go_simp; done) | (go_simp; rfl)); (case hp => exact (Reps.c3 (show Kd.M k38 _ _ _ (⟨(-1), 34, 34⟩ : S38) [.int .i64 (-1), .int .i64 34, .int .i64 34] from (k38_mkM _ _ _ (⟨(-1), 34, 34⟩ : S38) )) (Reps.c3 (show Kd.M k38 _ _ _ (⟨(-1), 10, 10⟩ : S38) [.int .i64 (-1), .int .i64 10, .int .i64 10] from (k38_mkM _ _ _ (⟨(-1), 10, 10⟩ : S38) )) (Reps.c3 (show Kd.M k38 _ _ _ (⟨0, 0, 0⟩ : S38) [.int .i64 0, .int .i64 0, .int .i64 0] from (k38_mkM _ _ _ (⟨0, 0, 0⟩ : S38) )) (Reps.c3 (show Kd.M k38 _ _ _ (⟨(-1), 39, 122⟩ : S38) [.int .i64 (-1), .int .i64 39, .int .i64 122] from (k38_mkM _ _ _ (⟨(-1), 39, 122⟩ : S38) )) (Reps.none _ _)))))); intro v222 w9 ho10 hb hg_ hnew_; clear hg_ hnew_; (first | rw [← Ny221.out] at ho10 | (simp only [Int.reduceToNat] at ho10; rw [← Ny221.out] at ho10)); have n0_ := zam (Kd.R_below (by (with_reducible repeat (first | apply Kd.R_alloc | apply Kd.R_drewN | apply Kd.R_drew)); exact HO220.out) hb); have n1_ := zam (Kd.R_lower ho10 (below_size (by repeat (first | (with_reducible first | exact HB.out | apply zba | apply zbd | apply zbe) | exact HB.out)))); have n2_ := zam (below_step (by repeat (first | (with_reducible first | exact HB.out | apply zba | apply zbd | apply zbe) | exact HB.out)) hb); clear HO220; clear HB; have HO220 := n0_; have HO223 := n1_; have HB := n2_; clear n0_ n1_ n2_; clear hb ho10; obtain ⟨Ao11, co11, eo11⟩ := Kd.R_slice HO223.out; subst eo11) | ((with_reducible refine gate_dst (N := 14) rfl ?_); refine Kd.N_lit k41 _ 41 ?hg (N' := 14) ?hd (xs := ([(⟨false, ([] : List (S38))⟩ : S41), (⟨true, y221⟩ : S41)] : List (S41))) (inner := [.bool false, .slice none 0 0, .bool true, .slice Ao11 y221.length co11]) (ok := (fun k_ => some k_ ≠ (v219 : Value).ownBlock)) (okp := (fun k_ => some k_ ≠ (v219 : Value).ownBlock)) ?hr ?hp (fun _ hk => hk) ((show ∀ k_, w9.heap.size ≤ k_ → (fun k_ => some k_ ≠ (v219 : Value).ownBlock) k_ from fun k_ hk => Kd.fresh' (Kd.R_lt (by (with_reducible repeat (first | apply Kd.R_alloc | apply Kd.R_drewN | apply Kd.R_drew)); exact HO220.out)) k_ hk) _ (Nat.le_refl _)) (Below.refl _ _) (Nat.le_refl _) (by simp) ?_; (case hd => rfl); (case hg => rfl); (case hr => first | (go_simp; done) | (go_simp; rfl)); (case hp => exact (Reps.c2 (show Kd.FK k41 _ _ (⟨false, ([] : List (S38))⟩ : S41) [.bool false, .slice none 0 0] from (k41_mkF _ _ (⟨false, ([] : List (S38))⟩ : S41) (Nat.le_refl _) (Kd.F_nil _ _ _))) (Reps.c2 (show Kd.FK k41 _ _ (⟨true, y221⟩ : S41) [.bool true, .slice Ao11 y221.length co11] from (k41_mkF _ _ (⟨true, y221⟩ : S41) (Kd.R_reads' (Kd.R_mono (ok' := (fun k_ => some k_ ≠ (v219 : Value).ownBlock)) (Kd.R_apart' (HO223.out) (Kd.R_typed HO220.out) (by decide)) (fun k_ hk => hk.2))).2.1 (Kd.R_F (Kd.R_mono (ok' := (fun k_ => some k_ ≠ (v219 : Value).ownBlock)) (Kd.R_apart' (HO223.out) (Kd.R_typed HO220.out) (by decide)) (fun k_ hk => hk.2))))) (Reps.none _ _)))); intro v225 w12 ho13 hb hg_ hnew_; clear hg_ hnew_; (first | rw [← Ny224.out] at ho13 | (simp only [Int.reduceToNat] at ho13; rw [← Ny224.out] at ho13)); have n0_ := zam (Kd.R_below (by (with_reducible repeat (first | apply Kd.R_alloc | apply Kd.R_drewN | apply Kd.R_drew)); exact HO220.out) hb); have n1_ := zam (Kd.N_lower ho13 (below_size (by repeat (first | (with_reducible first | exact HB.out | apply zba | apply zbd | apply zbe) | exact HB.out)))); have n2_ := zam (below_step (by repeat (first | (with_reducible first | exact HB.out | apply zba | apply zbd | apply zbe) | exact HB.out)) hb); clear HO220; clear HB; clear HO223; have HO220 := n0_; have HO226 := n1_; have HB := n2_; clear n0_ n1_ n2_; clear hb ho13; obtain ⟨Ao14, co14, eo14⟩ := Kd.N_slice HO226.out; subst eo14) | ((with_reducible refine gate_dst (N := 17) rfl ?_); refine Kd.R_lit k38 _ 38 ?hg (N := 17) ?hd (xs := ([(⟨0, 0, 0⟩ : S38)] : List (S38))) (inner := [.int .i64 0, .int .i64 0, .int .i64 0]) (ok := fun _ => True) (okp := fun _ => True) ?hr ?hp (fun _ hk => hk) trivial (Below.refl _ _) (Nat.le_refl _) (by simp) ?_; (case hd => rfl); (case hg => rfl); (case hr => first | (go_simp; done) | (go_simp; rfl)); (case hp => exact (Reps.c3 (show Kd.M k38 _ _ _ (⟨0, 0, 0⟩ : S38) [.int .i64 0, .int .i64 0, .int .i64 0] from (k38_mkM _ _ _ (⟨0, 0, 0⟩ : S38) )) (Reps.none _ _))); intro v228 w15 ho16 hb hg_ hnew_; clear hg_ hnew_; (first | rw [← Ny227.out] at ho16 | (simp only [Int.reduceToNat] at ho16; rw [← Ny227.out] at ho16)); have n0_ := zam (Kd.R_below (by (with_reducible repeat (first | apply Kd.R_alloc | apply Kd.R_drewN | apply Kd.R_drew)); exact HO220.out) hb); have n1_ := zam (Kd.N_elder' (by (with_reducible repeat (first | apply Kd.N_alloc | apply Kd.N_drewN | apply Kd.N_drew)); exact HO226.out) (Kd.R_base ho16) hb); have n2_ := zam (Kd.R_lower ho16 (below_size (by repeat (first | (with_reducible first | exact HB.out | apply zba | apply zbd | apply zbe) | exact HB.out)))); have n3_ := zam (below_step (by repeat (first | (with_reducible first | exact HB.out | apply zba | apply zbd | apply zbe) | exact HB.out)) hb); clear HO220; clear HO226; clear HB; have HO220 := n0_; have HO226 := n1_; have HO229 := n2_; have HB := n3_; clear n0_ n1_ n2_ n3_; clear hb ho16; obtain ⟨Ao17, co17, eo17⟩ := Kd.R_slice HO229.out; subst eo17) | ((with_reducible refine gate_dst (N := 19) rfl ?_); refine Kd.N_lit k41 _ 41 ?hg (N' := 19) ?hd (xs := ([(⟨false, y227⟩ : S41)] : List (S41))) (inner := [.bool false, .slice Ao17 y227.length co17]) (ok := (fun k_ => some k_ ≠ (v219 : Value).ownBlock ∧ some k_ ≠ (.slice Ao14 y224.length co14 : Value).ownBlock)) (okp := (fun k_ => some k_ ≠ (v219 : Value).ownBlock ∧ some k_ ≠ (.slice Ao14 y224.length co14 : Value).ownBlock)) ?hr ?hp (fun _ hk => hk) ((show ∀ k_, w15.heap.size ≤ k_ → (fun k_ => some k_ ≠ (v219 : Value).ownBlock ∧ some k_ ≠ (.slice Ao14 y224.length co14 : Value).ownBlock) k_ from fun k_ hk => ⟨Kd.fresh' (Kd.R_lt (by (with_reducible repeat (first | apply Kd.R_alloc | apply Kd.R_drewN | apply Kd.R_drew)); exact HO220.out)) k_ hk, Kd.fresh' (Kd.N_lt (by (with_reducible repeat (first | apply Kd.N_alloc | apply Kd.N_drewN | apply Kd.N_drew)); exact HO226.out)) k_ hk⟩) _ (Nat.le_refl _)) (Below.refl _ _) (Nat.le_refl _) (by simp) ?_; (case hd => rfl); (case hg => rfl); (case hr => first | (go_simp; done) | (go_simp; rfl)); (case hp => exact (Reps.c2 (show Kd.FK k41 _ _ (⟨false, y227⟩ : S41) [.bool false, .slice Ao17 y227.length co17] from (k41_mkF _ _ (⟨false, y227⟩ : S41) (Kd.R_reads' (Kd.R_mono (ok' := (fun k_ => some k_ ≠ (v219 : Value).ownBlock ∧ some k_ ≠ (.slice Ao14 y224.length co14 : Value).ownBlock)) (Kd.R_apart' (Kd.R_apart' (HO229.out) (Kd.R_typed HO220.out) (by decide)) (Kd.N_typed HO226.out) (by decide)) (fun k_ hk => ⟨hk.1.2, hk.2⟩))).2.1 (Kd.R_F (Kd.R_mono (ok' := (fun k_ => some k_ ≠ (v219 : Value).ownBlock ∧ some k_ ≠ (.slice Ao14 y224.length co14 : Value).ownBlock)) (Kd.R_apart' (Kd.R_apart' (HO229.out) (Kd.R_typed HO220.out) (by decide)) (Kd.N_typed HO226.out) (by decide)) (fun k_ hk => ⟨hk.1.2, hk.2⟩))))) (Reps.none _ _))); intro v231 w18 ho19 hb hg_ hnew_; clear hg_ hnew_; (first | rw [← Ny230.out] at ho19 | (simp only [Int.reduceToNat] at ho19; rw [← Ny230.out] at ho19)); have n0_ := zam (Kd.R_below (by (with_reducible repeat (first | apply Kd.R_alloc | apply Kd.R_drewN | apply Kd.R_drew)); exact HO220.out) hb); have n1_ := zam (Kd.N_elder' (by (with_reducible repeat (first | apply Kd.N_alloc | apply Kd.N_drewN | apply Kd.N_drew)); exact HO226.out) (Kd.N_base ho19) hb); have n2_ := zam (Kd.N_lower ho19 (below_size (by repeat (first | (with_reducible first | exact HB.out | apply zba | apply zbd | apply zbe) | exact HB.out)))); have n3_ := zam (below_step (by repeat (first | (with_reducible first | exact HB.out | apply zba | apply zbd | apply zbe) | exact HB.out)) hb); clear HO220; clear HO226; clear HB; clear HO229; have HO220 := n0_; have HO226 := n1_; have HO232 := n2_; have HB := n3_; clear n0_ n1_ n2_ n3_; clear hb ho19; obtain ⟨Ao20, co20, eo20⟩ := Kd.N_slice HO232.out; subst eo20) | ((with_reducible refine gate_dst (N := 21) rfl ?_); refine Kd.N_lit k44 _ 44 ?hg (N' := 21) ?hd (xs := ([(⟨0, y224⟩ : S44), (⟨0, y230⟩ : S44)] : List (S44))) (inner := [.int .i64 0, .slice Ao14 y224.length co14, .int .i64 0, .slice Ao20 y230.length co20]) (ok := (fun k_ => some k_ ≠ (v219 : Value).ownBlock)) (okp := (fun k_ => some k_ ≠ (v219 : Value).ownBlock)) ?hr ?hp (fun _ hk => hk) ((show ∀ k_, w18.heap.size ≤ k_ → (fun k_ => some k_ ≠ (v219 : Value).ownBlock) k_ from fun k_ hk => Kd.fresh' (Kd.R_lt (by (with_reducible repeat (first | apply Kd.R_alloc | apply Kd.R_drewN | apply Kd.R_drew)); exact HO220.out)) k_ hk) _ (Nat.le_refl _)) (Below.refl _ _) (Nat.le_refl _) (by simp) ?_; (case hd => rfl); (case hg => rfl); (case hr => first | (go_simp; done) | (go_simp; rfl)); (case hp => exact (Reps.c2 (show Kd.FK k44 _ _ (⟨0, y224⟩ : S44) [.int .i64 0, .slice Ao14 y224.length co14] from (k44_mkF _ _ (⟨0, y224⟩ : S44) (Kd.N_reads' (Kd.N_mono (ok' := (fun k_ => some k_ ≠ (v219 : Value).ownBlock)) (HO226.out) (fun k_ hk => hk.1.1))).2.1 (Kd.N_F (Kd.N_mono (ok' := (fun k_ => some k_ ≠ (v219 : Value).ownBlock)) (HO226.out) (fun k_ hk => hk.1.1))))) (Reps.c2 (show Kd.FK k44 _ _ (⟨0, y230⟩ : S44) [.int .i64 0, .slice Ao20 y230.length co20] from (k44_mkF _ _ (⟨0, y230⟩ : S44) (Kd.N_reads' (Kd.N_mono (ok' := (fun k_ => some k_ ≠ (v219 : Value).ownBlock)) (HO232.out) (fun k_ hk => hk.1))).2.1 (Kd.N_F (Kd.N_mono (ok' := (fun k_ => some k_ ≠ (v219 : Value).ownBlock)) (HO232.out) (fun k_ hk => hk.1))))) (Reps.none _ _)))); intro v234 w21 ho22 hb hg_ hnew_; clear hg_ hnew_; (first | rw [← Ny233.out] at ho22 | (simp only [Int.reduceToNat] at ho22; rw [← Ny233.out] at ho22)); have n0_ := zam (Kd.R_below (by (with_reducible repeat (first | apply Kd.R_alloc | apply Kd.R_drewN | apply Kd.R_drew)); exact HO220.out) hb); have n1_ := zam (Kd.N_lower ho22 (below_size (by repeat (first | (with_reducible first | exact HB.out | apply zba | apply zbd | apply zbe) | exact HB.out)))); have n2_ := zam (below_step (by repeat (first | (with_reducible first | exact HB.out | apply zba | apply zbd | apply zbe) | exact HB.out)) hb); clear HO220; clear HB; clear HO226; clear HO232; have HO220 := n0_; have HO235 := n1_; have HB := n2_; clear n0_ n1_ n2_; clear hb ho22; obtain ⟨Ao23, co23, eo23⟩ := Kd.N_slice HO235.out; subst eo23; obtain ⟨Ao24, co24, eo24⟩ := Kd.R_slice HO220.out; subst eo24) | ((with_reducible refine gate_callee (f := 10) rfl ?_); refine goesL_ (some 23) rfl rfl Try.func10 (by kernel_rfl) rfl #[.agg #[.int .i64 0, .slice Ao24 y218.length co24, .slice Ao23 y233.length co23]] rfl (by (try simp only [List.map_toArray, List.map_cons, List.map_nil]); first | done | rfl | (simp only [List.length_drop, List.length_take]; rfl)) ?_; (with_reducible refine (show_Show.calls 0 _ _ y218 _ _ y233 t236 t237 _ ?side1 ?side2 ?side3 ?side4 A1.out).mono ?_); (case side1 => repeat (first | exact (Kd.R_reads' HO220.out).2.2 | (with_reducible refine Kd.C_alloc ?_ _) | (with_reducible refine Kd.C_drewN ?_ _) | (with_reducible refine Kd.C_drew ?_))); (case side2 => exact (Kd.R_reads' HO220.out).2.1); (case side3 => repeat (first | exact (Kd.N_reads' HO235.out).2.2 | (with_reducible refine Kd.C_alloc ?_ _) | (with_reducible refine Kd.C_drewN ?_ _) | (with_reducible refine Kd.C_drew ?_))); (case side4 => exact (Kd.N_reads' HO235.out).2.1); rintro e w25 ⟨rfl, hb⟩; refine ⟨_, rfl, ?_⟩; have n0_ := zam (Kd.R_below (by (with_reducible repeat (first | apply Kd.R_alloc | apply Kd.R_drewN | apply Kd.R_drew)); exact HO220.out) hb); have n1_ := zam (Kd.N_below (by (with_reducible repeat (first | apply Kd.N_alloc | apply Kd.N_drewN | apply Kd.N_drew)); exact HO235.out) hb); have n2_ := zam (below_step (by repeat (first | (with_reducible first | exact HB.out | apply zba | apply zbd | apply zbe) | exact HB.out)) hb); clear HO220; clear HO235; clear HB; have HO220 := n0_; have HO235 := n1_; have HB := n2_; clear n0_ n1_ n2_; (try clear hb)) | ((with_reducible refine gate_callee (f := 10) rfl ?_); refine goesL_ (some 28) rfl rfl Try.func10 (by kernel_rfl) rfl #[.agg #[.int .i64 0, .slice none 0 0, .slice none 0 0]] rfl (by (try simp only [List.map_toArray, List.map_cons, List.map_nil]); first | done | rfl | (simp only [List.length_drop, List.length_take]; rfl)) ?_; (refine (show_Show.calls 0 _ _ ([] : List ByteArray) _ _ ([] : List (S44)) t238 t239 _ ?side1 ?side2 ?side3 ?side4 A2.out).mono ?_); (case side1 => exact Kd.C_nil _ _); (case side2 => exact Nat.le_refl _); (case side3 => exact Kd.C_nil _ _); (case side4 => exact Nat.le_refl _); rintro e w26 ⟨rfl, hb⟩; refine ⟨_, rfl, ?_⟩; have n0_ := zam (Kd.R_below (by (with_reducible repeat (first | apply Kd.R_alloc | apply Kd.R_drewN | apply Kd.R_drew)); exact HO220.out) hb); have n1_ := zam (Kd.N_below (by (with_reducible repeat (first | apply Kd.N_alloc | apply Kd.N_drewN | apply Kd.N_drew)); exact HO235.out) hb); have n2_ := zam (below_step (by repeat (first | (with_reducible first | exact HB.out | apply zba | apply zbd | apply zbe) | exact HB.out)) hb); clear HO220; clear HO235; clear HB; have HO220 := n0_; have HO235 := n1_; have HB := n2_; clear n0_ n1_ n2_; (try clear hb)) | (go_at_call 12; (with_reducible refine (templelaw0_Num.calls t237 t240 _ A4.out).mono ?_); rintro e w' ⟨rfl, ⟨nd, rfl⟩⟩) | (go_at_call 12; (with_reducible refine (templelaw0_Num.calls t239 t241 _ A6.out).mono ?_); rintro e w' ⟨rfl, ⟨nd, rfl⟩⟩))
   go_ret
   exact ⟨by first | rfl | (simp [errW_none, errW_some] <;> rfl) | (simp [*, errW_none, errW_some] <;> rfl), by repeat (first | (with_reducible first | exact HB.out | apply zba | apply zbd | apply zbe) | exact HB.out)⟩
  ·rw [if_neg c5] at H
   exact absurd H (by simp)
 ·rw [if_neg c3] at H
  exact absurd H (by simp)
def templelaw5_Shows.f (k : Nat) (a0_0 : Int) (l0_1 : List ByteArray) (l0_2 : List (S44)) : Option (Bool) := (templelaw0_CopyGrammar.f k a0_0 l0_1 l0_2).bind fun bt243 => ((show_Show.f bt243.1 bt243.2.1 bt243.2.2).bind fun bt251 => ((templeref1_Show.f k a0_0 l0_1 l0_2).bind fun bt253 => (if bt251.1.toList = bt253.1.toList then ((templelaw0_Num.f bt251.2).bind fun t255 => (if t255 = bt253.2 then ((templelaw0_SameGrammar.f k bt243.1 bt243.2.1 bt243.2.2 a0_0 l0_1 l0_2).bind fun t256 => (if t256 = true then ((templelaw5_awake.f).bind fun t257 => (some t257)) else (none))) else (none))) else (none))))
theorem templelaw5_Shows.mono : ∀ a0 a1 a2 k, LeO (templelaw5_Shows.f k a0 a1 a2) (templelaw5_Shows.f (k + 1) a0 a1 a2) := by
 intro a0 a1 a2 k
 unfold templelaw5_Shows.f
 repeat' first
   | (with_reducible exact templelaw0_CopyGrammar.mono _ _ _ _)
   | (with_reducible exact templelaw0_SameGrammar.mono _ _ _ _ _ _ _)
   | (with_reducible exact templeref1_Show.mono _ _ _ _)
   | (with_reducible exact LeO.refl _)
   | (with_reducible exact LeO.none _)
   | (with_reducible refine LeO.ite ?_ ?_)
   | (with_reducible refine LeO.bind ?_ (fun _ => ?_))
   | exact templelaw0_CopyGrammar.mono _ _ _ _
   | exact templelaw0_SameGrammar.mono _ _ _ _ _ _ _
   | exact templeref1_Show.mono _ _ _ _
   | exact LeO.none _
   | refine LeO.ite ?_ ?_
   | refine LeO.bind ?_ (fun _ => ?_)
set_option maxHeartbeats 8000000 in
set_option maxRecDepth 100000 in
theorem templelaw5_Shows.calls (k : Nat) (a0_0 : Int) (A0_1 : Option Addr) (c0_1 : Nat) (l0_1 : List ByteArray) (A0_2 : Option Addr) (c0_2 : Nat) (l0_2 : List (S44)) (r : Bool) (w : World) (hr0_1 : Kd.C Kd.string w A0_1 l0_1.length l0_1) (hc0_1 : l0_1.length ≤ c0_1) (hr0_2 : Kd.C k44 w A0_2 l0_2.length l0_2) (hc0_2 : l0_2.length ≤ c0_2) (h : templelaw5_Shows.f k a0_0 l0_1 l0_2 = some r) :
  Calls Try.prog 3 #[.agg #[.int .i64 a0_0, .slice A0_1 l0_1.length c0_1, .slice A0_2 l0_2.length c0_2]] w fun e w' => e = .returned (.bool r) ∧ Below w.heap.size w w' := by
 have hu25 := Try.underlying25; have HR0_1 := zam hr0_1; have HC0_1 := zam hc0_1; clear hr0_1 hc0_1; have HR0_2 := zam hr0_2; have HC0_2 := zam hc0_2; clear hr0_2 hc0_2
 have HB := zam (Below.refl w.heap.size w)
 have H : ((templelaw0_CopyGrammar.f k a0_0 l0_1 l0_2).bind fun bt243 => ((show_Show.f bt243.1 bt243.2.1 bt243.2.2).bind fun bt251 => ((templeref1_Show.f k a0_0 l0_1 l0_2).bind fun bt253 => (if bt251.1.toList = bt253.1.toList then ((templelaw0_Num.f bt251.2).bind fun t255 => (if t255 = bt253.2 then ((templelaw0_SameGrammar.f k bt243.1 bt243.2.1 bt243.2.2 a0_0 l0_1 l0_2).bind fun t256 => (if t256 = true then ((templelaw5_awake.f).bind fun t257 => (some t257)) else (none))) else (none))) else (none))))) = some r := h
 clear h; replace H := Option.bind_eq_some_iff.mp H; obtain ⟨⟨t243, t244, t247⟩, A20, H⟩ := H; (try dsimp only at H); have A2 := zam A20; clear A20; replace H := Option.bind_eq_some_iff.mp H; obtain ⟨⟨t251, t252⟩, A30, H⟩ := H; (try dsimp only at H); have A3 := zam A30; clear A30; replace H := Option.bind_eq_some_iff.mp H; obtain ⟨⟨t253, t254⟩, A40, H⟩ := H; (try dsimp only at H); have A4 := zam A40; clear A40
 by_cases c5 : t251.toList = t253.toList
 ·rw [if_pos c5] at H; have c5b0 : (t251.toList == t253.toList) = true := beq_iff_eq.mpr c5; have c5b1 : (t251.toList != t253.toList) = false := bne_eq_false_iff_eq.mpr c5; clear c5; replace H := Option.bind_eq_some_iff.mp H; obtain ⟨t255, A60, H⟩ := H
  replace H : (if t255 = t254 then ((templelaw0_SameGrammar.f k t243 t244 t247 a0_0 l0_1 l0_2).bind fun t256 => (if t256 = true then ((templelaw5_awake.f).bind fun t257 => (some t257)) else (none))) else (none)) = some r := H
  have A6 := zam A60; clear A60
  by_cases c7 : t255 = t254
  ·rw [if_pos c7] at H; have c7b0 : (t255 == t254) = true := beq_iff_eq.mpr c7; have c7b1 : (t255 != t254) = false := bne_eq_false_iff_eq.mpr c7; clear c7; replace H := Option.bind_eq_some_iff.mp H; obtain ⟨t256, A80, H⟩ := H
   replace H : (if t256 = true then ((templelaw5_awake.f).bind fun t257 => (some t257)) else (none)) = some r := H
   have A8 := zam A80; clear A80
   by_cases c9 : t256 = true
   ·subst c9
    have H1 : ((templelaw5_awake.f).bind fun t257 => (some t257)) = some r := by rw [if_pos rfl] at H; exact H
    clear H; have H := H1; clear H1; replace H := Option.bind_eq_some_iff.mp H; obtain ⟨t257, A100, H⟩ := H
    replace H : (some t257) = some r := H
    have A10 := zam A100; clear A100; obtain rfl := Option.some.inj H
    go_enter Try.func3, Try.ntmps3
    go_wp2_with (first | ((with_reducible refine gate_dst (N := 1) rfl ?_); refine box_event ?hg (N := 1) ?hd (cs := #[.int .i64 a0_0, .slice A0_1 l0_1.length c0_1, .slice A0_2 l0_2.length c0_2]) (t := 25) ?hr ?_; (case hd => rfl); (case hg => rfl); (case hr => first | (go_simp; done) | (go_simp; rfl)); intro gb242 hg w11 hbox hb; have n0_ := zam (below_step (by repeat (first | (with_reducible first | exact HB.out | apply zba | apply zbd | apply zbe) | exact HB.out)) hb); have n1_ := zam (hbox); have n2_ := zam ((by rw [hg]; exact (below_size (by repeat (first | (with_reducible first | exact HB.out | apply zba | apply zbd | apply zbe) | exact HB.out))) : w.heap.size ≤ gb242)); have n3_ := zam ((by rw [hg]; exact (below_size (by repeat (first | (with_reducible first | exact HB.out | apply zba | apply zbd | apply zbe) | exact HB.out))) : w.heap.size ≤ gb242)); clear HB; have HB := n0_; have BK242 := n1_; have GW242 := n2_; have GE242 := n3_; clear n0_ n1_ n2_ n3_; clear hb hbox hg; have hcz12_0 : w11.cell? ⟨gb242, 0, none⟩ = some (.int .i64 a0_0) := (blk_cell BK242.out 0).trans rfl; have hcz12_1 : w11.cell? ⟨gb242, 1, none⟩ = some (.slice A0_1 l0_1.length c0_1) := (blk_cell BK242.out 1).trans rfl; have hcz12_2 : w11.cell? ⟨gb242, 2, none⟩ = some (.slice A0_2 l0_2.length c0_2) := (blk_cell BK242.out 2).trans rfl; have hfz12_0 := blk_frozen BK242.out 0; have hfz12_1 := blk_frozen BK242.out 1; have hfz12_2 := blk_frozen BK242.out 2) | ((with_reducible refine gate_callee (f := 9) rfl ?_); refine goesL_ (some 9) rfl rfl Try.func9 (by kernel_rfl) rfl #[.agg #[.int .i64 a0_0, .slice A0_1 l0_1.length c0_1, .slice A0_2 l0_2.length c0_2]] rfl (by (try simp only [List.map_toArray, List.map_cons, List.map_nil]); first | done | rfl | (simp only [List.length_drop, List.length_take]; rfl)) ?_; (with_reducible refine (templelaw0_CopyGrammar.calls k a0_0 _ _ l0_1 _ _ l0_2 t243 t244 t247 _ ?side1 ?side2 ?side3 ?side4 A2.out).mono ?_); (case side1 => repeat (first | exact (Kd.C_below HR0_1.out HB.out) | (with_reducible refine Kd.C_alloc ?_ _) | (with_reducible refine Kd.C_drewN ?_ _) | (with_reducible refine Kd.C_drew ?_))); (case side2 => exact HC0_1.out); (case side3 => repeat (first | exact (Kd.C_below HR0_2.out HB.out) | (with_reducible refine Kd.C_alloc ?_ _) | (with_reducible refine Kd.C_drewN ?_ _) | (with_reducible refine Kd.C_drew ?_))); (case side4 => exact HC0_2.out); rintro e w13 ⟨v245, v248, rfl, ho0, ho1, hb⟩; refine ⟨_, rfl, ?_⟩; have n0_ := zam (Kd.R_lower ho0 (below_size (by repeat (first | (with_reducible first | exact HB.out | apply zba | apply zbd | apply zbe | refine below_set ?_ GE242.out) | exact HB.out)))); have n1_ := zam (Kd.R_lower ho1 (below_size (by repeat (first | (with_reducible first | exact HB.out | apply zba | apply zbd | apply zbe | refine below_set ?_ GE242.out) | exact HB.out)))); have n2_ := zam (blk_below (g := gb242) (o := .cells #[.int .i64 a0_0, .slice A0_1 l0_1.length c0_1, .slice A0_2 l0_2.length c0_2] 25 (0, 0)) (by (with_reducible repeat (first | refine blk_drewN ?_ _ | refine blk_drew ?_ | refine blk_alloc ?_ _)); exact BK242.out) hb); have n3_ := zam (below_step (by repeat (first | (with_reducible first | exact HB.out | apply zba | apply zbd | apply zbe | refine below_set ?_ GE242.out) | exact HB.out)) hb); clear BK242; clear HB; have HO246 := n0_; have HO249 := n1_; have BK242 := n2_; have HB := n3_; clear n0_ n1_ n2_ n3_; (try clear hb); (try clear ho0); (try clear ho1)) | ((with_reducible refine gate_dst (N := 3) rfl ?_); refine box_event ?hg (N := 3) ?hd (cs := #[.int .i64 0, .slice none 0 0, .slice none 0 0]) (t := 25) ?hr ?_; (case hd => rfl); (case hg => rfl); (case hr => first | (go_simp; done) | (go_simp; rfl)); intro gb250 hg w14 hbox hb; have n0_ := zam (Kd.R_below (by (with_reducible repeat (first | apply Kd.R_alloc | apply Kd.R_drewN | apply Kd.R_drew)); exact HO246.out) hb); have n1_ := zam (Kd.R_below (by (with_reducible repeat (first | apply Kd.R_alloc | apply Kd.R_drewN | apply Kd.R_drew)); exact HO249.out) hb); have n2_ := zam (blk_below (g := gb242) (o := .cells #[.int .i64 a0_0, .slice A0_1 l0_1.length c0_1, .slice A0_2 l0_2.length c0_2] 25 (0, 0)) (by (with_reducible repeat (first | refine blk_drewN ?_ _ | refine blk_drew ?_ | refine blk_alloc ?_ _)); exact BK242.out) hb); have n3_ := zam (below_step (by repeat (first | (with_reducible first | exact HB.out | apply zba | apply zbd | apply zbe | refine below_set ?_ GE242.out) | exact HB.out)) hb); have n4_ := zam (hbox); have n5_ := zam ((by rw [hg]; exact (below_size (by repeat (first | (with_reducible first | exact HB.out | apply zba | apply zbd | apply zbe | refine below_set ?_ GE242.out) | exact HB.out))) : w.heap.size ≤ gb250)); have n6_ := zam ((by rw [hg]; exact (below_size (by repeat (first | (with_reducible first | exact HB.out | apply zba | apply zbd | apply zbe | refine below_set ?_ GE242.out) | exact HB.out))) : w.heap.size ≤ gb250)); have n7_ := zam ((by rw [hg]; exact Nat.ne_of_lt (blk_lt (g := gb242) (o := .cells #[.int .i64 a0_0, .slice A0_1 l0_1.length c0_1, .slice A0_2 l0_2.length c0_2] 25 (0, 0)) (by (with_reducible repeat (first | refine blk_drewN ?_ _ | refine blk_drew ?_ | refine blk_alloc ?_ _)); exact BK242.out)) : gb242 ≠ gb250)); have n8_ := zam ((by rw [hg]; exact Nat.ne_of_gt (blk_lt (g := gb242) (o := .cells #[.int .i64 a0_0, .slice A0_1 l0_1.length c0_1, .slice A0_2 l0_2.length c0_2] 25 (0, 0)) (by (with_reducible repeat (first | refine blk_drewN ?_ _ | refine blk_drew ?_ | refine blk_alloc ?_ _)); exact BK242.out)) : gb250 ≠ gb242)); clear HO246; clear HO249; clear BK242; clear HB; have HO246 := n0_; have HO249 := n1_; have BK242 := n2_; have HB := n3_; have BK250 := n4_; have GW250 := n5_; have GE250 := n6_; have NB242_250 := n7_; have NB250_242 := n8_; clear n0_ n1_ n2_ n3_ n4_ n5_ n6_ n7_ n8_; clear hb hbox hg; have hnb15 := NB250_242.out; have hnc15 := NB242_250.out; have hcz16_0 : w14.cell? ⟨gb250, 0, none⟩ = some (.int .i64 0) := (blk_cell BK250.out 0).trans rfl; have hcz16_1 : w14.cell? ⟨gb250, 1, none⟩ = some (.slice none 0 0) := (blk_cell BK250.out 1).trans rfl; have hcz16_2 : w14.cell? ⟨gb250, 2, none⟩ = some (.slice none 0 0) := (blk_cell BK250.out 2).trans rfl; have hfz16_0 := blk_frozen BK250.out 0; have hfz16_1 := blk_frozen BK250.out 1; have hfz16_2 := blk_frozen BK250.out 2; obtain ⟨Ao17, co17, eo17⟩ := Kd.R_slice HO246.out; subst eo17; obtain ⟨Ao18, co18, eo18⟩ := Kd.R_slice HO249.out; subst eo18) | ((with_reducible refine gate_callee (f := 10) rfl ?_); refine goesL_ (some 12) rfl rfl Try.func10 (by kernel_rfl) rfl #[.agg #[.int .i64 t243, .slice Ao17 t244.length co17, .slice Ao18 t247.length co18]] rfl (by (try simp only [List.map_toArray, List.map_cons, List.map_nil]); first | done | rfl | (simp only [List.length_drop, List.length_take]; rfl)) ?_; (with_reducible refine (show_Show.calls t243 _ _ t244 _ _ t247 t251 t252 _ ?side1 ?side2 ?side3 ?side4 A3.out).mono ?_); (case side1 => refine (Kd.R_reads' (e := 9) (base := w.heap.size) (ok := fun k_ => True) (n := t244.length) (c := co17) ?_).2.2; exact (by (with_reducible repeat (first | apply Kd.R_alloc | apply Kd.R_drewN | apply Kd.R_drew)); exact (Kd.R_mono (Kd.R_far (p := ⟨gb250, 2, none⟩) (Kd.R_far (p := ⟨gb250, 1, none⟩) (Kd.R_far (p := ⟨gb250, 0, none⟩) (Kd.R_types HO246.out BK250.out (by decide)) (fun _ hk => hk.2) (.int .i64 t243)) (fun _ hk => hk.2) (.slice Ao17 t244.length co17)) (fun _ hk => hk.2) (.slice Ao18 t247.length co18)) (fun _ h_ => h_.1)))); (case side2 => exact (Kd.R_reads' HO246.out).2.1); (case side3 => refine (Kd.R_reads' (e := 44) (base := w.heap.size) (ok := fun k_ => True) (n := t247.length) (c := co18) ?_).2.2; exact (by (with_reducible repeat (first | apply Kd.R_alloc | apply Kd.R_drewN | apply Kd.R_drew)); exact (Kd.R_mono (Kd.R_far (p := ⟨gb250, 2, none⟩) (Kd.R_far (p := ⟨gb250, 1, none⟩) (Kd.R_far (p := ⟨gb250, 0, none⟩) (Kd.R_types HO249.out BK250.out (by decide)) (fun _ hk => hk.2) (.int .i64 t243)) (fun _ hk => hk.2) (.slice Ao17 t244.length co17)) (fun _ hk => hk.2) (.slice Ao18 t247.length co18)) (fun _ h_ => h_.1)))); (case side4 => exact (Kd.R_reads' HO249.out).2.1); rintro e w19 ⟨rfl, hb⟩; refine ⟨_, rfl, ?_⟩; have n0_ := zam (Kd.R_below (by (with_reducible repeat (first | apply Kd.R_alloc | apply Kd.R_drewN | apply Kd.R_drew)); exact (Kd.R_mono (Kd.R_far (p := ⟨gb250, 2, none⟩) (Kd.R_far (p := ⟨gb250, 1, none⟩) (Kd.R_far (p := ⟨gb250, 0, none⟩) (Kd.R_types HO246.out BK250.out (by decide)) (fun _ hk => hk.2) (.int .i64 t243)) (fun _ hk => hk.2) (.slice Ao17 t244.length co17)) (fun _ hk => hk.2) (.slice Ao18 t247.length co18)) (fun _ h_ => h_.1))) hb); have n1_ := zam (Kd.R_below (by (with_reducible repeat (first | apply Kd.R_alloc | apply Kd.R_drewN | apply Kd.R_drew)); exact (Kd.R_mono (Kd.R_far (p := ⟨gb250, 2, none⟩) (Kd.R_far (p := ⟨gb250, 1, none⟩) (Kd.R_far (p := ⟨gb250, 0, none⟩) (Kd.R_types HO249.out BK250.out (by decide)) (fun _ hk => hk.2) (.int .i64 t243)) (fun _ hk => hk.2) (.slice Ao17 t244.length co17)) (fun _ hk => hk.2) (.slice Ao18 t247.length co18)) (fun _ h_ => h_.1))) hb); have n2_ := zam (blk_below (g := gb242) (o := .cells #[.int .i64 a0_0, .slice A0_1 l0_1.length c0_1, .slice A0_2 l0_2.length c0_2] 25 (0, 0)) (by (with_reducible repeat (first | refine blk_drewN ?_ _ | refine blk_drew ?_ | refine blk_alloc ?_ _)); refine blk_far ?_ NB242_250.out _; (with_reducible repeat (first | refine blk_drewN ?_ _ | refine blk_drew ?_ | refine blk_alloc ?_ _)); refine blk_far ?_ NB242_250.out _; (with_reducible repeat (first | refine blk_drewN ?_ _ | refine blk_drew ?_ | refine blk_alloc ?_ _)); refine blk_far ?_ NB242_250.out _; (with_reducible repeat (first | refine blk_drewN ?_ _ | refine blk_drew ?_ | refine blk_alloc ?_ _)); exact BK242.out) hb); have n3_ := zam (blk_below (g := gb250) (o := .cells #[.int .i64 t243, .slice Ao17 t244.length co17, .slice Ao18 t247.length co18] 25 (0, 0)) (by (with_reducible repeat (first | refine blk_drewN ?_ _ | refine blk_drew ?_ | refine blk_alloc ?_ _)); refine blk_put (cs := #[.int .i64 t243, .slice Ao17 t244.length co17, .slice none 0 0]) ?_ 2 _ rfl; (with_reducible repeat (first | refine blk_drewN ?_ _ | refine blk_drew ?_ | refine blk_alloc ?_ _)); refine blk_put (cs := #[.int .i64 t243, .slice none 0 0, .slice none 0 0]) ?_ 1 _ rfl; (with_reducible repeat (first | refine blk_drewN ?_ _ | refine blk_drew ?_ | refine blk_alloc ?_ _)); refine blk_put (cs := #[.int .i64 0, .slice none 0 0, .slice none 0 0]) ?_ 0 _ rfl; (with_reducible repeat (first | refine blk_drewN ?_ _ | refine blk_drew ?_ | refine blk_alloc ?_ _)); exact BK250.out) hb); have n4_ := zam (below_step (by repeat (first | (with_reducible first | exact HB.out | apply zba | apply zbd | apply zbe | refine below_set ?_ GE242.out | refine below_set ?_ GE250.out) | exact HB.out)) hb); clear HO246; clear HO249; clear BK242; clear BK250; clear HB; have HO246 := n0_; have HO249 := n1_; have BK242 := n2_; have BK250 := n3_; have HB := n4_; clear n0_ n1_ n2_ n3_ n4_; (try clear hb); have hcz20_0 : w19.cell? ⟨gb242, 0, none⟩ = some (.int .i64 a0_0) := (blk_cell BK242.out 0).trans rfl; have hcz20_1 : w19.cell? ⟨gb242, 1, none⟩ = some (.slice A0_1 l0_1.length c0_1) := (blk_cell BK242.out 1).trans rfl; have hcz20_2 : w19.cell? ⟨gb242, 2, none⟩ = some (.slice A0_2 l0_2.length c0_2) := (blk_cell BK242.out 2).trans rfl; have hfz20_0 := blk_frozen BK242.out 0; have hfz20_1 := blk_frozen BK242.out 1; have hfz20_2 := blk_frozen BK242.out 2) | ((with_reducible refine gate_callee (f := 11) rfl ?_); refine goesL_ (some 17) rfl rfl Try.func11 (by kernel_rfl) rfl #[.agg #[.int .i64 a0_0, .slice A0_1 l0_1.length c0_1, .slice A0_2 l0_2.length c0_2]] rfl (by (try simp only [List.map_toArray, List.map_cons, List.map_nil]); first | done | rfl | (simp only [List.length_drop, List.length_take]; rfl)) ?_; (with_reducible refine (templeref1_Show.calls k a0_0 _ _ l0_1 _ _ l0_2 t253 t254 _ ?side1 ?side2 ?side3 ?side4 A4.out).mono ?_); (case side1 => repeat (first | exact (Kd.C_below HR0_1.out HB.out) | (with_reducible refine Kd.C_alloc ?_ _) | (with_reducible refine Kd.C_drewN ?_ _) | (with_reducible refine Kd.C_drew ?_))); (case side2 => exact HC0_1.out); (case side3 => repeat (first | exact (Kd.C_below HR0_2.out HB.out) | (with_reducible refine Kd.C_alloc ?_ _) | (with_reducible refine Kd.C_drewN ?_ _) | (with_reducible refine Kd.C_drew ?_))); (case side4 => exact HC0_2.out); rintro e w21 ⟨rfl, hb⟩; refine ⟨_, rfl, ?_⟩; have n0_ := zam (Kd.R_below (by (with_reducible repeat (first | apply Kd.R_alloc | apply Kd.R_drewN | apply Kd.R_drew)); exact HO246.out) hb); have n1_ := zam (Kd.R_below (by (with_reducible repeat (first | apply Kd.R_alloc | apply Kd.R_drewN | apply Kd.R_drew)); exact HO249.out) hb); have n2_ := zam (blk_below (g := gb242) (o := .cells #[.int .i64 a0_0, .slice A0_1 l0_1.length c0_1, .slice A0_2 l0_2.length c0_2] 25 (0, 0)) (by (with_reducible repeat (first | refine blk_drewN ?_ _ | refine blk_drew ?_ | refine blk_alloc ?_ _)); exact BK242.out) hb); have n3_ := zam (blk_below (g := gb250) (o := .cells #[.int .i64 t243, .slice Ao17 t244.length co17, .slice Ao18 t247.length co18] 25 (0, 0)) (by (with_reducible repeat (first | refine blk_drewN ?_ _ | refine blk_drew ?_ | refine blk_alloc ?_ _)); exact BK250.out) hb); have n4_ := zam (below_step (by repeat (first | (with_reducible first | exact HB.out | apply zba | apply zbd | apply zbe | refine below_set ?_ GE242.out | refine below_set ?_ GE250.out) | exact HB.out)) hb); clear HO246; clear HO249; clear BK242; clear BK250; clear HB; have HO246 := n0_; have HO249 := n1_; have BK242 := n2_; have BK250 := n3_; have HB := n4_; clear n0_ n1_ n2_ n3_ n4_; (try clear hb)) | (go_at_call 12; (with_reducible refine (templelaw0_Num.calls t252 t255 _ A6.out).mono ?_); rintro e w' ⟨rfl, ⟨nd, rfl⟩⟩; have hcz22_0 : w21.cell? ⟨gb250, 0, none⟩ = some (.int .i64 t243) := (blk_cell BK250.out 0).trans rfl; have hcz22_1 : w21.cell? ⟨gb250, 1, none⟩ = some (.slice Ao17 t244.length co17) := (blk_cell BK250.out 1).trans rfl; have hcz22_2 : w21.cell? ⟨gb250, 2, none⟩ = some (.slice Ao18 t247.length co18) := (blk_cell BK250.out 2).trans rfl; have hfz22_0 := blk_frozen BK250.out 0; have hfz22_1 := blk_frozen BK250.out 1; have hfz22_2 := blk_frozen BK250.out 2; have hcz23_0 : w21.cell? ⟨gb242, 0, none⟩ = some (.int .i64 a0_0) := (blk_cell BK242.out 0).trans rfl; have hcz23_1 : w21.cell? ⟨gb242, 1, none⟩ = some (.slice A0_1 l0_1.length c0_1) := (blk_cell BK242.out 1).trans rfl; have hcz23_2 : w21.cell? ⟨gb242, 2, none⟩ = some (.slice A0_2 l0_2.length c0_2) := (blk_cell BK242.out 2).trans rfl; have hfz23_0 := blk_frozen BK242.out 0; have hfz23_1 := blk_frozen BK242.out 1; have hfz23_2 := blk_frozen BK242.out 2) | (go_at_call 13; (with_reducible refine (templelaw0_SameGrammar.calls k t243 _ _ t244 _ _ t247 a0_0 _ _ l0_1 _ _ l0_2 true _ ?side1 ?side2 ?side3 ?side4 ?side5 ?side6 ?side7 ?side8 A8.out).mono ?_); (case side1 => repeat (first | exact (Kd.R_reads' HO246.out).2.2 | (with_reducible refine Kd.C_alloc ?_ _) | (with_reducible refine Kd.C_drewN ?_ _) | (with_reducible refine Kd.C_drew ?_))); (case side2 => exact (Kd.R_reads' HO246.out).2.1); (case side3 => repeat (first | exact (Kd.R_reads' HO249.out).2.2 | (with_reducible refine Kd.C_alloc ?_ _) | (with_reducible refine Kd.C_drewN ?_ _) | (with_reducible refine Kd.C_drew ?_))); (case side4 => exact (Kd.R_reads' HO249.out).2.1); (case side5 => repeat (first | exact (Kd.C_below HR0_1.out (by repeat (first | (with_reducible first | exact HB.out | apply zba | apply zbd | apply zbe | refine below_set ?_ GE242.out | refine below_set ?_ GE250.out) | exact HB.out))) | (with_reducible refine Kd.C_alloc ?_ _) | (with_reducible refine Kd.C_drewN ?_ _) | (with_reducible refine Kd.C_drew ?_))); (case side6 => exact HC0_1.out); (case side7 => repeat (first | exact (Kd.C_below HR0_2.out (by repeat (first | (with_reducible first | exact HB.out | apply zba | apply zbd | apply zbe | refine below_set ?_ GE242.out | refine below_set ?_ GE250.out) | exact HB.out))) | (with_reducible refine Kd.C_alloc ?_ _) | (with_reducible refine Kd.C_drewN ?_ _) | (with_reducible refine Kd.C_drew ?_))); (case side8 => exact HC0_2.out); rintro e w24 ⟨rfl, hb⟩; have n0_ := zam (Kd.R_below (by (with_reducible repeat (first | apply Kd.R_alloc | apply Kd.R_drewN | apply Kd.R_drew)); exact HO246.out) hb); have n1_ := zam (Kd.R_below (by (with_reducible repeat (first | apply Kd.R_alloc | apply Kd.R_drewN | apply Kd.R_drew)); exact HO249.out) hb); have n2_ := zam (blk_below (g := gb242) (o := .cells #[.int .i64 a0_0, .slice A0_1 l0_1.length c0_1, .slice A0_2 l0_2.length c0_2] 25 (0, 0)) (by (with_reducible repeat (first | refine blk_drewN ?_ _ | refine blk_drew ?_ | refine blk_alloc ?_ _)); exact BK242.out) hb); have n3_ := zam (blk_below (g := gb250) (o := .cells #[.int .i64 t243, .slice Ao17 t244.length co17, .slice Ao18 t247.length co18] 25 (0, 0)) (by (with_reducible repeat (first | refine blk_drewN ?_ _ | refine blk_drew ?_ | refine blk_alloc ?_ _)); exact BK250.out) hb); have n4_ := zam (below_step (by repeat (first | (with_reducible first | exact HB.out | apply zba | apply zbd | apply zbe | refine below_set ?_ GE242.out | refine below_set ?_ GE250.out) | exact HB.out)) hb); clear HO246; clear HO249; clear BK242; clear BK250; clear HB; have HO246 := n0_; have HO249 := n1_; have BK242 := n2_; have BK250 := n3_; have HB := n4_; clear n0_ n1_ n2_ n3_ n4_; (try clear hb)) | (go_at_call 14; (with_reducible refine (templelaw5_awake.calls  t257 _ A10.out).mono ?_); rintro e w25 ⟨rfl, hb⟩; have n0_ := zam (Kd.R_below (by (with_reducible repeat (first | apply Kd.R_alloc | apply Kd.R_drewN | apply Kd.R_drew)); exact HO246.out) hb); have n1_ := zam (Kd.R_below (by (with_reducible repeat (first | apply Kd.R_alloc | apply Kd.R_drewN | apply Kd.R_drew)); exact HO249.out) hb); have n2_ := zam (blk_below (g := gb242) (o := .cells #[.int .i64 a0_0, .slice A0_1 l0_1.length c0_1, .slice A0_2 l0_2.length c0_2] 25 (0, 0)) (by (with_reducible repeat (first | refine blk_drewN ?_ _ | refine blk_drew ?_ | refine blk_alloc ?_ _)); exact BK242.out) hb); have n3_ := zam (blk_below (g := gb250) (o := .cells #[.int .i64 t243, .slice Ao17 t244.length co17, .slice Ao18 t247.length co18] 25 (0, 0)) (by (with_reducible repeat (first | refine blk_drewN ?_ _ | refine blk_drew ?_ | refine blk_alloc ?_ _)); exact BK250.out) hb); have n4_ := zam (below_step (by repeat (first | (with_reducible first | exact HB.out | apply zba | apply zbd | apply zbe | refine below_set ?_ GE242.out | refine below_set ?_ GE250.out) | exact HB.out)) hb); clear HO246; clear HO249; clear BK242; clear BK250; clear HB; have HO246 := n0_; have HO249 := n1_; have BK242 := n2_; have BK250 := n3_; have HB := n4_; clear n0_ n1_ n2_ n3_ n4_; (try clear hb)))
    go_ret
    exact ⟨by first | rfl | (simp [errW_none, errW_some] <;> rfl) | (simp [*, errW_none, errW_some] <;> rfl), by repeat (first | (with_reducible first | exact HB.out | apply zba | apply zbd | apply zbe | refine below_set ?_ GE242.out | refine below_set ?_ GE250.out) | exact HB.out)⟩
   ·replace c9 := Bool.eq_false_iff.mpr c9
    subst c9
    have H1 : (none) = some r := by rw [if_neg (show ¬ (false = true) by decide)] at H; exact H
    clear H; have H := H1; clear H1
    exact absurd H (by simp)
  ·rw [if_neg c7] at H
   exact absurd H (by simp)
 ·rw [if_neg c5] at H
  exact absurd H (by simp)
end Go.Proofs.Ytimmkmfcpfjgfaa.PSA
