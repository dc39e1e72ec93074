import Derived.Test.YtimmkmfcpfjgfaaPSAx0
import Derived.Test.YtimmkmfcpfjgfaaPSAx9
namespace Go.Proofs.Ytimmkmfcpfjgfaa.PSA
open Go.RowKit Go.Proofs.YtimmkmfcpfjgfaaW.PrintWords Go.Proofs.YtimmkmfcpfjgfaaW.PrintLast
set_option linter.unusedVariables false
set_option linter.unusedSimpArgs false
mutual
def templeref1_seq.l0 : Nat → List (S38) → ByteArray → Int → Int → List ByteArray → List (S44) → Option (ByteArray)
 | 0, _, _, _, _, _, _ => none
 | k + 1, x1, x5, x6, x168000, x168001, x168002 => if x6 < (x1.length : Int) then (if x5.toList = ([] : List UInt8) then (templeref1_seq.j1 k x1 x5 x6 x168000 x168001 x168002) else (if x5.size + 1 ≤ 9223372036854775807 then (templeref1_seq.j1 k x1 (x5 ++ (⟨#[32]⟩ : ByteArray)) x6 x168000 x168001 x168002) else (none))) else (some x5)
def templeref1_seq.j1 : Nat → List (S38) → ByteArray → Int → Int → List ByteArray → List (S44) → Option (ByteArray)
 | 0, _, _, _, _, _, _ => none
 | k + 1, x1, x5, x6, x168000, x168001, x168002 => if 0 ≤ x6 then (if x6 < (x1.length : Int) then (if ((rd_T38 x1 x6).f0) ≥ 0 then (if 0 ≤ ((rd_T38 x1 x6).f0) then (if ((rd_T38 x1 x6).f0) < (x168001.length : Int) then (if x5.size + (rdOf ByteArray.empty x168001 ((rd_T38 x1 x6).f0)).size ≤ 9223372036854775807 then (templeref1_seq.l0 k x1 (x5 ++ (rdOf ByteArray.empty x168001 ((rd_T38 x1 x6).f0))) (wrap64 (x6 + 1)) x168000 x168001 x168002) else (none)) else (none)) else (none)) else (if ((rd_T38 x1 x6).f1) < ((rd_T38 x1 x6).f2) then (if x5.size + 1 ≤ 9223372036854775807 then ((templeref1_shown.f k ((rd_T38 x1 x6).f1) 39).bind fun t171 => (if (x5 ++ (⟨#[39]⟩ : ByteArray)).size + t171.size ≤ 9223372036854775807 then (if ((x5 ++ (⟨#[39]⟩ : ByteArray)) ++ t171).size + 4 ≤ 9223372036854775807 then ((templeref1_shown.f k ((rd_T38 x1 x6).f2) 39).bind fun t172 => (if (((x5 ++ (⟨#[39]⟩ : ByteArray)) ++ t171) ++ (⟨#[39, 46, 46, 39]⟩ : ByteArray)).size + t172.size ≤ 9223372036854775807 then (if ((((x5 ++ (⟨#[39]⟩ : ByteArray)) ++ t171) ++ (⟨#[39, 46, 46, 39]⟩ : ByteArray)) ++ t172).size + 1 ≤ 9223372036854775807 then (templeref1_seq.l0 k x1 (((((x5 ++ (⟨#[39]⟩ : ByteArray)) ++ t171) ++ (⟨#[39, 46, 46, 39]⟩ : ByteArray)) ++ t172) ++ (⟨#[39]⟩ : ByteArray)) (wrap64 (x6 + 1)) x168000 x168001 x168002) else (none)) else (none))) else (none)) else (none))) else (none)) else (if x5.size + 1 ≤ 9223372036854775807 then (templeref1_seq.l1 k x1 (x5 ++ (⟨#[34]⟩ : ByteArray)) x6 x168000 x168001 x168002) else (none)))) else (none)) else (none)
def templeref1_seq.l1 : Nat → List (S38) → ByteArray → Int → Int → List ByteArray → List (S44) → Option (ByteArray)
 | 0, _, _, _, _, _, _ => none
 | k + 1, x1, x5, x6, x168000, x168001, x168002 => if x6 < (x1.length : Int) then (if 0 ≤ x6 then (if ((rd_T38 x1 x6).f0) < 0 then (if ((rd_T38 x1 x6).f1) = ((rd_T38 x1 x6).f2) then ((templeref1_shown.f k ((rd_T38 x1 x6).f1) 34).bind fun t177 => (if x5.size + t177.size ≤ 9223372036854775807 then (templeref1_seq.l1 k x1 (x5 ++ t177) (wrap64 (x6 + 1)) x168000 x168001 x168002) else (none))) else (if x5.size + 1 ≤ 9223372036854775807 then (templeref1_seq.l0 k x1 (x5 ++ (⟨#[34]⟩ : ByteArray)) x6 x168000 x168001 x168002) else (none))) else (if x5.size + 1 ≤ 9223372036854775807 then (templeref1_seq.l0 k x1 (x5 ++ (⟨#[34]⟩ : ByteArray)) x6 x168000 x168001 x168002) else (none))) else (none)) else (if x5.size + 1 ≤ 9223372036854775807 then (templeref1_seq.l0 k x1 (x5 ++ (⟨#[34]⟩ : ByteArray)) x6 x168000 x168001 x168002) else (none))
end
def templeref1_seq.f (k : Nat) (a0_0 : Int) (l0_1 : List ByteArray) (l0_2 : List (S44)) (l1 : List (S38)) : Option (ByteArray) := if (l1.length : Int) = 0 then (some (⟨#[34, 34]⟩ : ByteArray)) else (templeref1_seq.l0 k l1 (⟨#[]⟩ : ByteArray) 0 a0_0 l0_1 l0_2)
theorem templeref1_seq.mono_l : ∀ k, (∀ y0 y1 y2 y3 y4 y5, LeO (templeref1_seq.l0 k y0 y1 y2 y3 y4 y5) (templeref1_seq.l0 (k + 1) y0 y1 y2 y3 y4 y5)) ∧ (∀ y0 y1 y2 y3 y4 y5, LeO (templeref1_seq.j1 k y0 y1 y2 y3 y4 y5) (templeref1_seq.j1 (k + 1) y0 y1 y2 y3 y4 y5)) ∧ (∀ y0 y1 y2 y3 y4 y5, LeO (templeref1_seq.l1 k y0 y1 y2 y3 y4 y5) (templeref1_seq.l1 (k + 1) y0 y1 y2 y3 y4 y5))
 | 0 => ⟨fun _ _ _ _ _ _ r h => by simp [templeref1_seq.l0] at h, fun _ _ _ _ _ _ r h => by simp [templeref1_seq.j1] at h, fun _ _ _ _ _ _ r h => by simp [templeref1_seq.l1] at h⟩
 | k + 1 => by
  obtain ⟨ih0, ih1, ih2⟩ := templeref1_seq.mono_l k
  refine ⟨?_, ?_, ?_⟩
  ·intro y0 y1 y2 y3 y4 y5
   unfold templeref1_seq.l0
   repeat' first
   | (with_reducible exact ih0 _ _ _ _ _ _)
   | (with_reducible exact ih1 _ _ _ _ _ _)
   | (with_reducible exact ih2 _ _ _ _ _ _)
   | (with_reducible exact templeref1_shown.mono _ _ _)
   | (with_reducible exact LeO.refl _)
   | (with_reducible exact LeO.none _)
   | (with_reducible refine LeO.ite ?_ ?_)
   | (with_reducible refine LeO.bind ?_ (fun _ => ?_))
   | exact ih0 _ _ _ _ _ _
   | exact ih1 _ _ _ _ _ _
   | exact ih2 _ _ _ _ _ _
   | exact templeref1_shown.mono _ _ _
   | exact LeO.none _
   | refine LeO.ite ?_ ?_
   | refine LeO.bind ?_ (fun _ => ?_)
  ·intro y0 y1 y2 y3 y4 y5
   unfold templeref1_seq.j1
   repeat' first
   | (with_reducible exact ih0 _ _ _ _ _ _)
   | (with_reducible exact ih1 _ _ _ _ _ _)
   | (with_reducible exact ih2 _ _ _ _ _ _)
   | (with_reducible exact templeref1_shown.mono _ _ _)
   | (with_reducible exact LeO.refl _)
   | (with_reducible exact LeO.none _)
   | (with_reducible refine LeO.ite ?_ ?_)
   | (with_reducible refine LeO.bind ?_ (fun _ => ?_))
   | exact ih0 _ _ _ _ _ _
   | exact ih1 _ _ _ _ _ _
   | exact ih2 _ _ _ _ _ _
   | exact templeref1_shown.mono _ _ _
   | exact LeO.none _
   | refine LeO.ite ?_ ?_
   | refine LeO.bind ?_ (fun _ => ?_)
  ·intro y0 y1 y2 y3 y4 y5
   unfold templeref1_seq.l1
   repeat' first
   | (with_reducible exact ih0 _ _ _ _ _ _)
   | (with_reducible exact ih1 _ _ _ _ _ _)
   | (with_reducible exact ih2 _ _ _ _ _ _)
   | (with_reducible exact templeref1_shown.mono _ _ _)
   | (with_reducible exact LeO.refl _)
   | (with_reducible exact LeO.none _)
   | (with_reducible refine LeO.ite ?_ ?_)
   | (with_reducible refine LeO.bind ?_ (fun _ => ?_))
   | exact ih0 _ _ _ _ _ _
   | exact ih1 _ _ _ _ _ _
   | exact ih2 _ _ _ _ _ _
   | exact templeref1_shown.mono _ _ _
   | exact LeO.none _
   | refine LeO.ite ?_ ?_
   | refine LeO.bind ?_ (fun _ => ?_)
theorem templeref1_seq.mono : ∀ a0 a1 a2 a3 k, LeO (templeref1_seq.f k a0 a1 a2 a3) (templeref1_seq.f (k + 1) a0 a1 a2 a3) := by
 intro a0 a1 a2 a3 k
 obtain ⟨ih0, ih1, ih2⟩ := templeref1_seq.mono_l k
 unfold templeref1_seq.f
 repeat' first
   | (with_reducible exact ih0 _ _ _ _ _ _)
   | (with_reducible exact ih1 _ _ _ _ _ _)
   | (with_reducible exact ih2 _ _ _ _ _ _)
   | (with_reducible exact templeref1_shown.mono _ _ _)
   | (with_reducible exact LeO.refl _)
   | (with_reducible exact LeO.none _)
   | (with_reducible refine LeO.ite ?_ ?_)
   | (with_reducible refine LeO.bind ?_ (fun _ => ?_))
   | exact ih0 _ _ _ _ _ _
   | exact ih1 _ _ _ _ _ _
   | exact ih2 _ _ _ _ _ _
   | exact templeref1_shown.mono _ _ _
   | exact LeO.none _
   | refine LeO.ite ?_ ?_
   | refine LeO.bind ?_ (fun _ => ?_)
def templeref1_seq.T10 : Bool × List (List Nat × List Nat) := (true, [([], []), ([], []), ([1], [1]), ([0, 2], [0, 2]), ([3], [3]), ([4], [4]), ([4], [4]), ([5, 6, 4], [4, 5, 6]), ([7, 4], [4, 7]), ([8, 4], [4, 8]), ([9, 4], [4, 9]), ([4, 10], [4, 10]), ([11, 4], [11]), ([12], [12]), ([12], [12]), ([13, 14, 12], [12, 13, 14]), ([15, 12], [12, 15]), ([16, 12], [12, 16]), ([12], [12]), ([12], [12]), ([18, 19, 12], [12, 18, 19]), ([20, 12], [12, 20]), ([21, 12], [12, 21]), ([17, 22, 12], [12, 17, 22]), ([12, 23], [12, 23])])
def templeref1_seq.B10 : List Nat := [0, 0, 2, 7, 15, 31, 31, 127, 255, 511, 1023, 2047, 4095, 8191, 8191, 32767, 65535, 131071, 8191, 8191, 794623, 1843199, 3940351, 8388607, 16777215]
theorem templeref1_seq.tab10 : rtab .any (opsOf Try.f42 10) = templeref1_seq.T10 := by kernel_rfl
theorem templeref1_seq.bits10 : waitsOk templeref1_seq.T10.2 templeref1_seq.B10 = true := by kernel_rfl
def templeref1_seq.T18 : Bool × List (List Nat × List Nat) := (true, [([], []), ([0], [0]), ([], []), ([2], [2]), ([3], [3]), ([1, 4], [1, 4]), ([5], [5]), ([], []), ([7], [7]), ([8, 4], [8]), ([6, 9], [6, 9]), ([10], [10]), ([11, 9, 0, 1, 2, 3, 4, 5, 6, 7, 8, 9, 10, 11], [0, 11])])
def templeref1_seq.B18 : List Nat := [0, 1, 0, 4, 12, 31, 63, 0, 128, 412, 1023, 2047, 4095]
theorem templeref1_seq.tab18 : rtab .any (opsOf Try.f42 18) = templeref1_seq.T18 := by kernel_rfl
theorem templeref1_seq.bits18 : waitsOk templeref1_seq.T18.2 templeref1_seq.B18 = true := by kernel_rfl
set_option maxHeartbeats 8000000 in
set_option maxRecDepth 100000 in
theorem templeref1_seq.calls (k : Nat) (a0_0 : Int) (A0_1 : Option Addr) (c0_1 : Nat) (l0_1 : List ByteArray) (A0_2 : Option Addr) (c0_2 : Nat) (l0_2 : List (S44)) (A1 : Option Addr) (c1 : Nat) (l1 : List (S38)) (r : ByteArray) (w : World) (hr0_1 : Kd.C Kd.string w A0_1 l0_1.length l0_1) (hc0_1 : l0_1.length ≤ c0_1) (hr0_2 : Kd.C k44 w A0_2 l0_2.length l0_2) (hc0_2 : l0_2.length ≤ c0_2) (hr1 : Kd.C k38 w A1 l1.length l1) (hc1 : l1.length ≤ c1) (h : templeref1_seq.f k a0_0 l0_1 l0_2 l1 = some r) :
  Calls Try.prog 42 #[.agg #[.int .i64 a0_0, .slice A0_1 l0_1.length c0_1, .slice A0_2 l0_2.length c0_2], .slice A1 l1.length c1] w fun e w' => e = .returned (.string r) ∧ Below w.heap.size w w' := by
 have hu25 := Try.underlying25; have hu38 := Try.underlying38; have HR0_1 := zam hr0_1; have HC0_1 := zam hc0_1; clear hr0_1 hc0_1; have HR0_2 := zam hr0_2; have HC0_2 := zam hc0_2; clear hr0_2 hc0_2; have HR1 := zam hr1; have HC1 := zam hc1; clear hr1 hc1
 have HB := zam (Below.refl w.heap.size w)
 have H : (if (l1.length : Int) = 0 then (some (⟨#[34, 34]⟩ : ByteArray)) else (templeref1_seq.l0 k l1 (⟨#[]⟩ : ByteArray) 0 a0_0 l0_1 l0_2)) = some r := h
 clear h
 by_cases c3 : (l1.length : Int) = 0
 ·rw [if_pos c3] at H; have c3b0 : ((l1.length : Int) == 0) = true := beq_iff_eq.mpr c3; have c3b1 : ((l1.length : Int) != 0) = false := bne_eq_false_iff_eq.mpr c3; clear c3; obtain rfl := Option.some.inj H
  go_enter Try.func42, Try.ntmps42
  go_wp2_with (first | ((with_reducible refine gate_dst (N := 2) rfl ?_); refine box_event ?hg (N := 2) ?hd (cs := #[.int .i64 a0_0, .slice A0_1 l0_1.length c0_1, .slice A0_2 l0_2.length c0_2]) (t := 25) ?hr ?_; (case hd => rfl); (case hg => rfl); (case hr => first | (go_simp; done) | (go_simp; rfl)); intro gb167 hg w4 hbox hb; have n0_ := zam (below_step (by repeat (first | (with_reducible first | exact HB.out | apply zba | apply zbd | apply zbe) | exact HB.out)) hb); have n1_ := zam (hbox); have n2_ := zam ((by rw [hg]; exact (below_size (by repeat (first | (with_reducible first | exact HB.out | apply zba | apply zbd | apply zbe) | exact HB.out))) : w.heap.size ≤ gb167)); have n3_ := zam ((by rw [hg]; exact (below_size (by repeat (first | (with_reducible first | exact HB.out | apply zba | apply zbd | apply zbe) | exact HB.out))) : w.heap.size ≤ gb167)); clear HB; have HB := n0_; have BK167 := n1_; have GW167 := n2_; have GE167 := n3_; clear n0_ n1_ n2_ n3_; clear hb hbox hg))
  go_ret
  exact ⟨by first | rfl | (simp [errW_none, errW_some] <;> rfl) | (simp [*, errW_none, errW_some] <;> rfl), by repeat (first | (with_reducible first | exact HB.out | apply zba | apply zbd | apply zbe | refine below_set ?_ GE167.out) | exact HB.out)⟩
 ·rw [if_neg c3] at H; have c3b0 : ((l1.length : Int) == 0) = false := beq_eq_false_iff_ne.mpr c3; have c3b1 : ((l1.length : Int) != 0) = true := bne_iff_ne.mpr c3
  have c3b2 : ¬ (l1 = []) := fun h_ => c3 (by rw [h_]; rfl)
  have H' := zam H; clear H
  go_enter Try.func42, Try.ntmps42
  go_wp2_with (first | ((with_reducible refine gate_dst (N := 2) rfl ?_); refine box_event ?hg (N := 2) ?hd (cs := #[.int .i64 a0_0, .slice A0_1 l0_1.length c0_1, .slice A0_2 l0_2.length c0_2]) (t := 25) ?hr ?_; (case hd => rfl); (case hg => rfl); (case hr => first | (go_simp; done) | (go_simp; rfl)); intro gb167 hg w5 hbox hb; have n0_ := zam (below_step (by repeat (first | (with_reducible first | exact HB.out | apply zba | apply zbd | apply zbe) | exact HB.out)) hb); have n1_ := zam (hbox); have n2_ := zam ((by rw [hg]; exact (below_size (by repeat (first | (with_reducible first | exact HB.out | apply zba | apply zbd | apply zbe) | exact HB.out))) : w.heap.size ≤ gb167)); have n3_ := zam ((by rw [hg]; exact (below_size (by repeat (first | (with_reducible first | exact HB.out | apply zba | apply zbd | apply zbe) | exact HB.out))) : w.heap.size ≤ gb167)); clear HB; have HB := n0_; have BK167 := n1_; have GW167 := n2_; have GE167 := n3_; clear n0_ n1_ n2_ n3_; clear hb hbox hg))
  go_loopg [5, 6] k (fun kq v5 v6 w' => ∃ (x5_1 : ByteArray) (x6_1 : Int), v5 = .string x5_1 ∧ v6 = .int .i64 x6_1 ∧ Aside0 (templeref1_seq.l0 kq l1 x5_1 x6_1 a0_0 l0_1 l0_2 = some r) ∧ Aside0 (kq ≤ k) ∧ Aside0 (w'.heap[gb167]? = some (.cells #[.int .i64 a0_0, (.slice A0_1 l0_1.length c0_1), (.slice A0_2 l0_2.length c0_2)] 25 (0, 0))) ∧ Aside0 (Below w.heap.size w w'))
  case atStart => exact ⟨((⟨#[]⟩ : ByteArray)), (0), (by first | rfl | (simp; done) | (simp [i64_w]; done) | (simp [*]; done) | (simp [*, i64_w]; done) | (simp [*]; unfold wrap64; omega)), (by first | rfl | (simp; done) | (simp [i64_w]; done) | (simp [*]; done) | (simp [*, i64_w]; done) | (simp [*]; unfold wrap64; omega)), H', ⟨Nat.le_refl _⟩, ⟨by (with_reducible repeat (first | refine blk_drewN ?_ _ | refine blk_drew ?_ | refine blk_alloc ?_ _)); exact BK167.out⟩, ⟨by repeat (first | (with_reducible first | exact HB.out | apply zba | apply zbd | apply zbe | refine below_set ?_ GE167.out) | exact HB.out)⟩⟩
  case round =>
   clear H'; (try clear c1); (try clear p2); (try clear c3); (try clear c3b0); (try clear c3b1); (try clear c3b2); (try clear c4); obtain ⟨x5_1, x6_1, rfl, rfl, HA, HK1, BK167, HB⟩ := hrel
   cases gk with
   | zero => exact absurd HA.out (by simp [templeref1_seq.l0])
   | succ k1 =>
    have H := HA.out; clear HA
    simp only [templeref1_seq.l0] at H
    by_cases c6 : x6_1 < (l1.length : Int)
    ·rw [if_pos c6] at H; have c6b0 : decide (x6_1 < (l1.length : Int)) = true := decide_eq_true c6; clear c6; have HC7 := zam H; clear H
     go_upto_if 16 with (fail)
     go_cut [5] (fun v5 wc => ∃ (kq : Nat) (x5_6 : ByteArray), v5 = .string x5_6 ∧ Aside0 (templeref1_seq.j1 kq l1 x5_6 x6_1 a0_0 l0_1 l0_2 = some r) ∧ Aside0 (kq ≤ k1) ∧ Aside0 (wc.heap[gb167]? = some (.cells #[.int .i64 a0_0, (.slice A0_1 l0_1.length c0_1), (.slice A0_2 l0_2.length c0_2)] 25 (0, 0))) ∧ Aside0 (Below w.heap.size w wc))
     case first =>
      have H := HC7.out; clear HC7
      by_cases c8 : x5_1.toList = ([] : List UInt8)
      ·rw [if_pos c8] at H; have c8b0 : (x5_1.toList == ([] : List UInt8)) = true := beq_iff_eq.mpr c8
       have c8e_ : (x5_1).toList.isEmpty = true := by rw [c8]; rfl
       have c8b1 : (x5_1.toList != ([] : List UInt8)) = false := bne_eq_false_iff_eq.mpr c8; clear c8
       (first | rw [c8b0] | rw [c8e_] | (simp only [i64_w, i32_w]; rw [c8b0]) | skip)
       have H' := zam H; clear H; go_wp2
       go_meet
       case rel => exact ⟨_, (x5_1), (by first | rfl | (simp; done) | (simp [i64_w]; done) | (simp [*]; done) | (simp [*, i64_w]; done) | (simp [*]; unfold wrap64; omega)), H', ⟨by have := HK1.out; first | omega | exact Nat.le_refl _⟩, ⟨by (with_reducible repeat (first | refine blk_drewN ?_ _ | refine blk_drew ?_ | refine blk_alloc ?_ _)); exact BK167.out⟩, ⟨by repeat (first | (with_reducible first | exact HB.out | apply zba | apply zbd | apply zbe | refine below_set ?_ GE167.out) | exact HB.out)⟩⟩
      ·rw [if_neg c8] at H; have c8b0 : (x5_1.toList == ([] : List UInt8)) = false := beq_eq_false_iff_ne.mpr c8
       have c8e_ : (x5_1).toList.isEmpty = false := by simpa using c8
       have c8b1 : (x5_1.toList != ([] : List UInt8)) = true := bne_iff_ne.mpr c8
       (first | rw [c8b0] | rw [c8e_] | (simp only [i64_w, i32_w]; rw [c8b0]) | skip)
       by_cases c9 : x5_1.size + 1 ≤ 9223372036854775807
       ·rw [if_pos c9] at H
        have c9b0 := eq_true c9
        have c9b1 : decide (x5_1.size + 1 ≤ 9223372036854775807) = true := decide_eq_true c9
        try have c9b2 : (9223372036854775807 < x5_1.size + 1) = False := eq_false (Nat.not_lt.2 c9)
        have H' := zam H; clear H; go_wp2
        go_meet
        case rel => exact ⟨_, (x5_1 ++ (⟨#[32]⟩ : ByteArray)), (by first | rfl | (simp; done) | (simp [i64_w]; done) | (simp [*]; done) | (simp [*, i64_w]; done) | (simp [*]; unfold wrap64; omega)), H', ⟨by have := HK1.out; first | omega | exact Nat.le_refl _⟩, ⟨by (with_reducible repeat (first | refine blk_drewN ?_ _ | refine blk_drew ?_ | refine blk_alloc ?_ _)); exact BK167.out⟩, ⟨by repeat (first | (with_reducible first | exact HB.out | apply zba | apply zbd | apply zbe | refine below_set ?_ GE167.out) | exact HB.out)⟩⟩
       ·rw [if_neg c9] at H
        exact absurd H (by simp)
     case rest =>
      clear HC7; (try clear c1); (try clear p2); (try clear c3); (try clear c3b0); (try clear c3b1); (try clear c3b2); (try clear c4); (try clear c6); (try clear c6b0); (try clear c8); (try clear c8b0); (try clear c8b1); (try clear c9); (try clear c9b0); (try clear c9b1); (try clear c9b2); (try clear p2); obtain ⟨kq, x5_6, rfl, HA, HJ6, BK167, HB⟩ := hcut
      cases kq with
      | zero => exact absurd HA.out (by simp [templeref1_seq.j1])
      | succ kj6 =>
       have H := HA.out; clear HA
       simp only [templeref1_seq.j1] at H
       by_cases c10 : 0 ≤ x6_1
       ·rw [if_pos c10] at H; have c10b0 : decide (0 ≤ x6_1) = true := decide_eq_true c10; clear c10
        by_cases c11 : x6_1 < (l1.length : Int)
        ·rw [if_pos c11] at H; have c11b0 : decide (x6_1 < (l1.length : Int)) = true := decide_eq_true c11; clear c11
         by_cases c12 : ((rd_T38 l1 x6_1).f0) ≥ 0
         ·rw [if_pos c12] at H; have c12b0 : decide (0 ≤ ((rd_T38 l1 x6_1).f0)) = true := decide_eq_true c12; clear c12
          by_cases c13 : 0 ≤ ((rd_T38 l1 x6_1).f0)
          ·rw [if_pos c13] at H; have c13b0 : decide (0 ≤ ((rd_T38 l1 x6_1).f0)) = true := decide_eq_true c13; clear c13
           by_cases c14 : ((rd_T38 l1 x6_1).f0) < (l0_1.length : Int)
           ·rw [if_pos c14] at H; have c14b0 : decide (((rd_T38 l1 x6_1).f0) < (l0_1.length : Int)) = true := decide_eq_true c14; clear c14
            by_cases c15 : x5_6.size + (rdOf ByteArray.empty l0_1 ((rd_T38 l1 x6_1).f0)).size ≤ 9223372036854775807
            ·rw [if_pos c15] at H
             have c15b0 := eq_true c15
             have c15b1 : decide (x5_6.size + (rdOf ByteArray.empty l0_1 ((rd_T38 l1 x6_1).f0)).size ≤ 9223372036854775807) = true := decide_eq_true c15
             try have c15b2 : (9223372036854775807 < x5_6.size + (rdOf ByteArray.empty l0_1 ((rd_T38 l1 x6_1).f0)).size) = False := eq_false (Nat.not_lt.2 c15)
             have H' := zam H; clear H
             have p168 : 0 ≤ (x6_1 : Int) := of_decide_eq_true (by first | (with_reducible assumption) | assumption)
             have q168 : x6_1 < (l1.length : Int) := of_decide_eq_true (by first | (with_reducible assumption) | assumption)
             obtain ⟨ad168, e168, hx168_0, hx168_1, hx168_2⟩ := at_T38 HR1.out x6_1 p168 q168; cases e168
             replace hx168_0 := (HB.out.cell (zbl w _ hx168_0)).trans hx168_0
             replace hx168_1 := (HB.out.cell (zbl w _ hx168_1)).trans hx168_1
             replace hx168_2 := (HB.out.cell (zbl w _ hx168_2)).trans hx168_2
             replace p168 := eq_true p168; replace q168 := eq_true q168
             go_wp2_with (first | ((with_reducible refine gate_dst (N := 7) rfl ?_); refine box_event ?hg (N := 7) ?hd (cs := #[.int .i64 0, .int .i64 0, .int .i64 0]) (t := 38) ?hr ?_; (case hd => rfl); (case hg => rfl); (case hr => first | (go_simp; done) | (go_simp; rfl)); intro gb169 hg w16 hbox hb; have n0_ := zam (blk_below (g := gb167) (o := .cells #[.int .i64 a0_0, .slice A0_1 l0_1.length c0_1, .slice A0_2 l0_2.length c0_2] 25 (0, 0)) (by (with_reducible repeat (first | refine blk_drewN ?_ _ | refine blk_drew ?_ | refine blk_alloc ?_ _)); exact BK167.out) hb); have n1_ := zam (below_step (by repeat (first | (with_reducible first | exact HB.out | apply zba | apply zbd | apply zbe | refine below_set ?_ GE167.out) | exact HB.out)) hb); have n2_ := zam (hbox); have n3_ := zam ((by rw [hg]; exact (below_size (by repeat (first | (with_reducible first | exact HB.out | apply zba | apply zbd | apply zbe | refine below_set ?_ GE167.out) | exact HB.out))) : w.heap.size ≤ gb169)); have n4_ := zam ((by rw [hg]; exact (below_size (by repeat (first | (with_reducible first | exact HB.out | apply zba | apply zbd | apply zbe | refine below_set ?_ GE167.out) | exact HB.out))) : w.heap.size ≤ gb169)); have n5_ := zam ((by rw [hg]; exact Nat.ne_of_lt (blk_lt (g := gb167) (o := .cells #[.int .i64 a0_0, .slice A0_1 l0_1.length c0_1, .slice A0_2 l0_2.length c0_2] 25 (0, 0)) (by (with_reducible repeat (first | refine blk_drewN ?_ _ | refine blk_drew ?_ | refine blk_alloc ?_ _)); exact BK167.out)) : gb167 ≠ gb169)); have n6_ := zam ((by rw [hg]; exact Nat.ne_of_gt (blk_lt (g := gb167) (o := .cells #[.int .i64 a0_0, .slice A0_1 l0_1.length c0_1, .slice A0_2 l0_2.length c0_2] 25 (0, 0)) (by (with_reducible repeat (first | refine blk_drewN ?_ _ | refine blk_drew ?_ | refine blk_alloc ?_ _)); exact BK167.out)) : gb169 ≠ gb167)); clear BK167; clear HB; have BK167 := n0_; have HB := n1_; have BK169 := n2_; have GW169 := n3_; have GE169 := n4_; have NB167_169 := n5_; have NB169_167 := n6_; clear n0_ n1_ n2_ n3_ n4_ n5_ n6_; clear hb hbox hg; have hnb17 := NB169_167.out; have hnc17 := NB167_169.out; have hcz18_0 : w16.cell? ⟨gb169, 0, none⟩ = some (.int .i64 0) := (blk_cell BK169.out 0).trans rfl; have hcz18_1 : w16.cell? ⟨gb169, 1, none⟩ = some (.int .i64 0) := (blk_cell BK169.out 1).trans rfl; have hcz18_2 : w16.cell? ⟨gb169, 2, none⟩ = some (.int .i64 0) := (blk_cell BK169.out 2).trans rfl; have hfz18_0 := blk_frozen BK169.out 0; have hfz18_1 := blk_frozen BK169.out 1; have hfz18_2 := blk_frozen BK169.out 2; have hcz19_0 : w16.cell? ⟨gb167, 0, none⟩ = some (.int .i64 a0_0) := (blk_cell BK167.out 0).trans rfl; have hcz19_1 : w16.cell? ⟨gb167, 1, none⟩ = some (.slice A0_1 l0_1.length c0_1) := (blk_cell BK167.out 1).trans rfl; have hcz19_2 : w16.cell? ⟨gb167, 2, none⟩ = some (.slice A0_2 l0_2.length c0_2) := (blk_cell BK167.out 2).trans rfl; have hfz19_0 := blk_frozen BK167.out 0; have hfz19_1 := blk_frozen BK167.out 1; have hfz19_2 := blk_frozen BK167.out 2; have p170 : 0 ≤ (((rd_T38 l1 x6_1).f0) : Int) := of_decide_eq_true (by first | (with_reducible assumption) | assumption); have q170 : ((rd_T38 l1 x6_1).f0) < (l0_1.length : Int) := of_decide_eq_true (by first | (with_reducible assumption) | assumption); obtain ⟨ad170, e170, hx170_0⟩ := Kd.at_string HR0_1.out ((rd_T38 l1 x6_1).f0) p170 q170; cases e170; have hn170_0 : ad170.block ≠ gb169 := Nat.ne_of_lt (Nat.lt_of_lt_of_le (by have := zbl _ _ hx170_0; first | rwa [add_block] at this | exact this) GW169.out); have hn170_1 : ad170.block ≠ gb169 := Nat.ne_of_lt (Nat.lt_of_lt_of_le (by have := zbl _ _ hx170_0; first | rwa [add_block] at this | exact this) GW169.out); have hn170_2 : ad170.block ≠ gb169 := Nat.ne_of_lt (Nat.lt_of_lt_of_le (by have := zbl _ _ hx170_0; first | rwa [add_block] at this | exact this) GW169.out); replace hx170_0 := (HB.out.cell (zbl w _ hx170_0)).trans hx170_0; replace hx170_0 := (cell_far (p := ⟨gb169, 0, none⟩) (by first | (rw [add_block]; exact hn170_0) | (show (Addr.add _ _).block ≠ _; rw [add_block]; exact hn170_0) | exact hn170_0) (.int .i64 ((rd_T38 l1 x6_1).f0))).trans hx170_0; replace hx170_0 := (cell_far (p := ⟨gb169, 1, none⟩) (by first | (rw [add_block]; exact hn170_1) | (show (Addr.add _ _).block ≠ _; rw [add_block]; exact hn170_1) | exact hn170_1) (.int .i64 ((rd_T38 l1 x6_1).f1))).trans hx170_0; replace hx170_0 := (cell_far (p := ⟨gb169, 2, none⟩) (by first | (rw [add_block]; exact hn170_2) | (show (Addr.add _ _).block ≠ _; rw [add_block]; exact hn170_2) | exact hn170_2) (.int .i64 ((rd_T38 l1 x6_1).f2))).trans hx170_0; clear hn170_0; clear hn170_1; clear hn170_2; replace p170 := eq_true p170; replace q170 := eq_true q170))
             go_roundg kj6
             case measure => have := HK1.out; have := HJ6.out; omega
             case rel => exact ⟨(x5_6 ++ (rdOf ByteArray.empty l0_1 ((rd_T38 l1 x6_1).f0))), (wrap64 (x6_1 + 1)), (by first | rfl | (simp; done) | (simp [i64_w]; done) | (simp [*]; done) | (simp [*, i64_w]; done) | (simp [*]; unfold wrap64; omega)), (by first | rfl | (simp; done) | (simp [i64_w]; done) | (simp [*]; done) | (simp [*, i64_w]; done) | (simp [*]; unfold wrap64; omega)), H', ⟨by have := HK1.out; have := HJ6.out; omega⟩, ⟨by (with_reducible repeat (first | refine blk_drewN ?_ _ | refine blk_drew ?_ | refine blk_alloc ?_ _)); refine blk_far ?_ NB167_169.out _; (with_reducible repeat (first | refine blk_drewN ?_ _ | refine blk_drew ?_ | refine blk_alloc ?_ _)); refine blk_far ?_ NB167_169.out _; (with_reducible repeat (first | refine blk_drewN ?_ _ | refine blk_drew ?_ | refine blk_alloc ?_ _)); refine blk_far ?_ NB167_169.out _; (with_reducible repeat (first | refine blk_drewN ?_ _ | refine blk_drew ?_ | refine blk_alloc ?_ _)); exact BK167.out⟩, ⟨by repeat (first | (with_reducible first | exact HB.out | apply zba | apply zbd | apply zbe | refine below_set ?_ GE167.out | refine below_set ?_ GE169.out) | exact HB.out)⟩⟩
            ·rw [if_neg c15] at H
             exact absurd H (by simp)
           ·rw [if_neg c14] at H
            exact absurd H (by simp)
          ·rw [if_neg c13] at H
           exact absurd H (by simp)
         ·rw [if_neg c12] at H; have c12b0 : decide (0 ≤ ((rd_T38 l1 x6_1).f0)) = false := decide_eq_false c12; clear c12
          by_cases c20 : ((rd_T38 l1 x6_1).f1) < ((rd_T38 l1 x6_1).f2)
          ·rw [if_pos c20] at H; have c20b0 : decide (((rd_T38 l1 x6_1).f1) < ((rd_T38 l1 x6_1).f2)) = true := decide_eq_true c20; clear c20
           by_cases c21 : x5_6.size + 1 ≤ 9223372036854775807
           ·rw [if_pos c21] at H
            have c21b0 := eq_true c21
            have c21b1 : decide (x5_6.size + 1 ≤ 9223372036854775807) = true := decide_eq_true c21
            try have c21b2 : (9223372036854775807 < x5_6.size + 1) = False := eq_false (Nat.not_lt.2 c21)
            replace H := Option.bind_eq_some_iff.mp H; obtain ⟨t171, A220, H⟩ := H; (try dsimp only at H); have A22 := zam A220; clear A220
            by_cases c23 : (x5_6 ++ (⟨#[39]⟩ : ByteArray)).size + t171.size ≤ 9223372036854775807
            ·rw [if_pos c23] at H
             have c23b0 := eq_true c23
             have c23b1 : decide ((x5_6 ++ (⟨#[39]⟩ : ByteArray)).size + t171.size ≤ 9223372036854775807) = true := decide_eq_true c23
             try have c23b2 : (9223372036854775807 < (x5_6 ++ (⟨#[39]⟩ : ByteArray)).size + t171.size) = False := eq_false (Nat.not_lt.2 c23)
             try have c23b3 : (9223372036854775807 < x5_6.size + 1 + t171.size) = False := eq_false (by have q_ := c23; have z0_ : (⟨#[39]⟩ : ByteArray).size = 1 := rfl; (try simp only [ByteArray.size_append, ByteArray.size_extract] at q_); omega)
             by_cases c24 : ((x5_6 ++ (⟨#[39]⟩ : ByteArray)) ++ t171).size + 4 ≤ 9223372036854775807
             ·rw [if_pos c24] at H
              have c24b0 := eq_true c24
              have c24b1 : decide (((x5_6 ++ (⟨#[39]⟩ : ByteArray)) ++ t171).size + 4 ≤ 9223372036854775807) = true := decide_eq_true c24
              try have c24b2 : (9223372036854775807 < ((x5_6 ++ (⟨#[39]⟩ : ByteArray)) ++ t171).size + 4) = False := eq_false (Nat.not_lt.2 c24)
              try have c24b3 : (9223372036854775807 < x5_6.size + 1 + t171.size + 4) = False := eq_false (by have q_ := c24; have z0_ : (⟨#[39]⟩ : ByteArray).size = 1 := rfl; (try simp only [ByteArray.size_append, ByteArray.size_extract] at q_); omega)
              replace H := Option.bind_eq_some_iff.mp H; obtain ⟨t172, A250, H⟩ := H; (try dsimp only at H); have A25 := zam A250; clear A250
              by_cases c26 : (((x5_6 ++ (⟨#[39]⟩ : ByteArray)) ++ t171) ++ (⟨#[39, 46, 46, 39]⟩ : ByteArray)).size + t172.size ≤ 9223372036854775807
              ·rw [if_pos c26] at H
               have c26b0 := eq_true c26
               have c26b1 : decide ((((x5_6 ++ (⟨#[39]⟩ : ByteArray)) ++ t171) ++ (⟨#[39, 46, 46, 39]⟩ : ByteArray)).size + t172.size ≤ 9223372036854775807) = true := decide_eq_true c26
               try have c26b2 : (9223372036854775807 < (((x5_6 ++ (⟨#[39]⟩ : ByteArray)) ++ t171) ++ (⟨#[39, 46, 46, 39]⟩ : ByteArray)).size + t172.size) = False := eq_false (Nat.not_lt.2 c26)
               try have c26b3 : (9223372036854775807 < x5_6.size + 1 + t171.size + 4 + t172.size) = False := eq_false (by have q_ := c26; have z0_ : (⟨#[39, 46, 46, 39]⟩ : ByteArray).size = 4 := rfl; have z1_ : (⟨#[39]⟩ : ByteArray).size = 1 := rfl; (try simp only [ByteArray.size_append, ByteArray.size_extract] at q_); omega)
               by_cases c27 : ((((x5_6 ++ (⟨#[39]⟩ : ByteArray)) ++ t171) ++ (⟨#[39, 46, 46, 39]⟩ : ByteArray)) ++ t172).size + 1 ≤ 9223372036854775807
               ·rw [if_pos c27] at H
                have c27b0 := eq_true c27
                have c27b1 : decide (((((x5_6 ++ (⟨#[39]⟩ : ByteArray)) ++ t171) ++ (⟨#[39, 46, 46, 39]⟩ : ByteArray)) ++ t172).size + 1 ≤ 9223372036854775807) = true := decide_eq_true c27
                try have c27b2 : (9223372036854775807 < ((((x5_6 ++ (⟨#[39]⟩ : ByteArray)) ++ t171) ++ (⟨#[39, 46, 46, 39]⟩ : ByteArray)) ++ t172).size + 1) = False := eq_false (Nat.not_lt.2 c27)
                try have c27b3 : (9223372036854775807 < x5_6.size + 1 + t171.size + 4 + t172.size + 1) = False := eq_false (by have q_ := c27; have z0_ : (⟨#[39, 46, 46, 39]⟩ : ByteArray).size = 4 := rfl; have z1_ : (⟨#[39]⟩ : ByteArray).size = 1 := rfl; (try simp only [ByteArray.size_append, ByteArray.size_extract] at q_); omega)
                have H' := zam H; clear H
                have p168 : 0 ≤ (x6_1 : Int) := of_decide_eq_true (by first | (with_reducible assumption) | assumption)
                have q168 : x6_1 < (l1.length : Int) := of_decide_eq_true (by first | (with_reducible assumption) | assumption)
                obtain ⟨ad168, e168, hx168_0, hx168_1, hx168_2⟩ := at_T38 HR1.out x6_1 p168 q168; cases e168
                replace hx168_0 := (HB.out.cell (zbl w _ hx168_0)).trans hx168_0
                replace hx168_1 := (HB.out.cell (zbl w _ hx168_1)).trans hx168_1
                replace hx168_2 := (HB.out.cell (zbl w _ hx168_2)).trans hx168_2
                replace p168 := eq_true p168; replace q168 := eq_true q168
                try go_wp2_with (first | ((with_reducible refine gate_dst (N := 7) rfl ?_); refine box_event ?hg (N := 7) ?hd (cs := #[.int .i64 0, .int .i64 0, .int .i64 0]) (t := 38) ?hr ?_; (case hd => rfl); (case hg => rfl); (case hr => first | (go_simp; done) | (go_simp; rfl)); intro gb169 hg w28 hbox hb; have n0_ := zam (blk_below (g := gb167) (o := .cells #[.int .i64 a0_0, .slice A0_1 l0_1.length c0_1, .slice A0_2 l0_2.length c0_2] 25 (0, 0)) (by (with_reducible repeat (first | refine blk_drewN ?_ _ | refine blk_drew ?_ | refine blk_alloc ?_ _)); exact BK167.out) hb); have n1_ := zam (below_step (by repeat (first | (with_reducible first | exact HB.out | apply zba | apply zbd | apply zbe | refine below_set ?_ GE167.out) | exact HB.out)) hb); have n2_ := zam (hbox); have n3_ := zam ((by rw [hg]; exact (below_size (by repeat (first | (with_reducible first | exact HB.out | apply zba | apply zbd | apply zbe | refine below_set ?_ GE167.out) | exact HB.out))) : w.heap.size ≤ gb169)); have n4_ := zam ((by rw [hg]; exact (below_size (by repeat (first | (with_reducible first | exact HB.out | apply zba | apply zbd | apply zbe | refine below_set ?_ GE167.out) | exact HB.out))) : w.heap.size ≤ gb169)); have n5_ := zam ((by rw [hg]; exact Nat.ne_of_lt (blk_lt (g := gb167) (o := .cells #[.int .i64 a0_0, .slice A0_1 l0_1.length c0_1, .slice A0_2 l0_2.length c0_2] 25 (0, 0)) (by (with_reducible repeat (first | refine blk_drewN ?_ _ | refine blk_drew ?_ | refine blk_alloc ?_ _)); exact BK167.out)) : gb167 ≠ gb169)); have n6_ := zam ((by rw [hg]; exact Nat.ne_of_gt (blk_lt (g := gb167) (o := .cells #[.int .i64 a0_0, .slice A0_1 l0_1.length c0_1, .slice A0_2 l0_2.length c0_2] 25 (0, 0)) (by (with_reducible repeat (first | refine blk_drewN ?_ _ | refine blk_drew ?_ | refine blk_alloc ?_ _)); exact BK167.out)) : gb169 ≠ gb167)); clear BK167; clear HB; have BK167 := n0_; have HB := n1_; have BK169 := n2_; have GW169 := n3_; have GE169 := n4_; have NB167_169 := n5_; have NB169_167 := n6_; clear n0_ n1_ n2_ n3_ n4_ n5_ n6_; clear hb hbox hg; have hnb29 := NB169_167.out; have hnc29 := NB167_169.out; have hcz30_0 : w28.cell? ⟨gb169, 0, none⟩ = some (.int .i64 0) := (blk_cell BK169.out 0).trans rfl; have hcz30_1 : w28.cell? ⟨gb169, 1, none⟩ = some (.int .i64 0) := (blk_cell BK169.out 1).trans rfl; have hcz30_2 : w28.cell? ⟨gb169, 2, none⟩ = some (.int .i64 0) := (blk_cell BK169.out 2).trans rfl; have hfz30_0 := blk_frozen BK169.out 0; have hfz30_1 := blk_frozen BK169.out 1; have hfz30_2 := blk_frozen BK169.out 2))
                have n0_ : Aside0 ((((w28.setCell ⟨gb169, 0, none⟩ (.int .i64 ((rd_T38 l1 x6_1).f0))).setCell ⟨gb169, 1, none⟩ (.int .i64 ((rd_T38 l1 x6_1).f1))).setCell ⟨gb169, 2, none⟩ (.int .i64 ((rd_T38 l1 x6_1).f2))).heap[gb167]? = some (.cells #[.int .i64 a0_0, .slice A0_1 l0_1.length c0_1, .slice A0_2 l0_2.length c0_2] 25 (0, 0))) := ⟨by (with_reducible repeat (first | refine blk_drewN ?_ _ | refine blk_drew ?_ | refine blk_alloc ?_ _)); refine blk_far ?_ NB167_169.out _; (with_reducible repeat (first | refine blk_drewN ?_ _ | refine blk_drew ?_ | refine blk_alloc ?_ _)); refine blk_far ?_ NB167_169.out _; (with_reducible repeat (first | refine blk_drewN ?_ _ | refine blk_drew ?_ | refine blk_alloc ?_ _)); refine blk_far ?_ NB167_169.out _; (with_reducible repeat (first | refine blk_drewN ?_ _ | refine blk_drew ?_ | refine blk_alloc ?_ _)); exact BK167.out⟩
                have n1_ : Aside0 ((((w28.setCell ⟨gb169, 0, none⟩ (.int .i64 ((rd_T38 l1 x6_1).f0))).setCell ⟨gb169, 1, none⟩ (.int .i64 ((rd_T38 l1 x6_1).f1))).setCell ⟨gb169, 2, none⟩ (.int .i64 ((rd_T38 l1 x6_1).f2))).heap[gb169]? = some (.cells #[.int .i64 ((rd_T38 l1 x6_1).f0), .int .i64 ((rd_T38 l1 x6_1).f1), .int .i64 ((rd_T38 l1 x6_1).f2)] 38 (0, 0))) := ⟨by (with_reducible repeat (first | refine blk_drewN ?_ _ | refine blk_drew ?_ | refine blk_alloc ?_ _)); refine blk_put (cs := #[.int .i64 ((rd_T38 l1 x6_1).f0), .int .i64 ((rd_T38 l1 x6_1).f1), .int .i64 0]) ?_ 2 _ rfl; (with_reducible repeat (first | refine blk_drewN ?_ _ | refine blk_drew ?_ | refine blk_alloc ?_ _)); refine blk_put (cs := #[.int .i64 ((rd_T38 l1 x6_1).f0), .int .i64 0, .int .i64 0]) ?_ 1 _ rfl; (with_reducible repeat (first | refine blk_drewN ?_ _ | refine blk_drew ?_ | refine blk_alloc ?_ _)); refine blk_put (cs := #[.int .i64 0, .int .i64 0, .int .i64 0]) ?_ 0 _ rfl; (with_reducible repeat (first | refine blk_drewN ?_ _ | refine blk_drew ?_ | refine blk_alloc ?_ _)); exact BK169.out⟩
                have n2_ : Aside0 (Below w.heap.size w (((w28.setCell ⟨gb169, 0, none⟩ (.int .i64 ((rd_T38 l1 x6_1).f0))).setCell ⟨gb169, 1, none⟩ (.int .i64 ((rd_T38 l1 x6_1).f1))).setCell ⟨gb169, 2, none⟩ (.int .i64 ((rd_T38 l1 x6_1).f2)))) := ⟨by repeat (first | (with_reducible first | exact HB.out | apply zba | apply zbd | apply zbe | refine below_set ?_ GE167.out | refine below_set ?_ GE169.out) | exact HB.out)⟩
                (try clear BK167); (try clear BK169); (try clear HB)
                generalize (((w28.setCell ⟨gb169, 0, none⟩ (.int .i64 ((rd_T38 l1 x6_1).f0))).setCell ⟨gb169, 1, none⟩ (.int .i64 ((rd_T38 l1 x6_1).f1))).setCell ⟨gb169, 2, none⟩ (.int .i64 ((rd_T38 l1 x6_1).f2))) = w31 at n0_ n1_ n2_ ⊢
                have BK167 := n0_; have BK169 := n1_; have HB := n2_; clear n0_ n1_ n2_; have n0_ := zam (blk_drew BK167.out); have n1_ := zam (blk_drew BK169.out); have n2_ := zam (below_drew1 HB.out); clear BK167; clear BK169; clear HB; have BK167 := n0_; have BK169 := n1_; have HB := n2_; clear n0_ n1_ n2_
                refine start_ (n := 13) (S := fun w' => w'.cell? ⟨gb169, 0, none⟩ = some (.int .i64 ((rd_T38 l1 x6_1).f0)) ∧ w'.cell? ⟨gb169, 1, none⟩ = some (.int .i64 ((rd_T38 l1 x6_1).f1)) ∧ w'.cell? ⟨gb169, 2, none⟩ = some (.int .i64 ((rd_T38 l1 x6_1).f2))) (ds := []) #[false, false, false, false, false, false, false, false, false, false, false, false, false] (by kernel_rfl) rfl rfl ⟨(blk_cell BK169.out 0).trans rfl, (blk_cell BK169.out 1).trans rfl, (blk_cell BK169.out 2).trans rfl⟩ (fun hHeld => ?_); refine with_tabW templeref1_seq.tab18 templeref1_seq.bits18 (fun HT_ HW_ => ?_)
                generalize w31.drew = w32 at BK167 BK169 HB hHeld ⊢
                refine pure_ (i := 0) (N := some 82) (v := ?_) (a' := ?_) #[true, false, false, false, false, false, false, false, false, false, false, false, false] rfl rfl (any_of HT_.out (by kernel_rfl)) (fun _ _ _ h => h) (Or.inl ⟨by rfl, ?_⟩) ?_ ?_
                rotate_left
                ·intro w'
                 go_simp; with_reducible rfl
                rotate_left
                ·simp only [Act.put, s1, s2, s3, i64_w, i32_w]
                 rfl
                refine pure_ (i := 1) (N := some 83) (v := ?_) (a' := ?_) #[true, true, false, false, false, false, false, false, false, false, false, false, false] rfl rfl (any_of HT_.out (by kernel_rfl)) (fun _ _ _ h => h) (Or.inl ⟨by rfl, ?_⟩) ?_ ?_
                rotate_left
                ·intro w'
                 go_simp; with_reducible rfl
                rotate_left
                ·simp only [Act.put, s1, s2, s3, i64_w, i32_w]
                 rfl
                refine pure_ (i := 2) (N := some 84) (v := ?_) (a' := ?_) #[true, true, true, false, false, false, false, false, false, false, false, false, false] rfl rfl (any_of HT_.out (by kernel_rfl)) (fun _ _ _ h => h) (Or.inl ⟨by rfl, ?_⟩) ?_ ?_
                rotate_left
                ·intro w'
                 go_simp; with_reducible rfl
                rotate_left
                ·simp only [Act.put, s1, s2, s3, i64_w, i32_w]
                 rfl
                refine pure_ (i := 7) (N := some 89) (v := ?_) (a' := ?_) #[true, true, true, false, false, false, false, true, false, false, false, false, false] rfl rfl (any_of HT_.out (by kernel_rfl)) (fun _ _ _ h => h) (Or.inl ⟨by rfl, ?_⟩) ?_ ?_
                rotate_left
                ·intro w'
                 go_simp; with_reducible rfl
                rotate_left
                ·simp only [Act.put, s1, s2, s3, i64_w, i32_w]
                 rfl
                refine take_ (i := 3) (N := some 85) (v := ?_) (a' := ?_) #[true, true, true, true, false, false, false, true, false, false, false, false, false] rfl rfl (take_ofW HT_.out HW_.out (by kernel_rfl)) (fun _ _ _ h => h) (Or.inl ⟨by rfl, ?_⟩) hHeld ?_ ?_
                rotate_left
                ·rintro w' ⟨s0, s1, s2⟩; go_simp; with_reducible rfl
                rotate_left
                ·simp only [Act.put, s1, s2, s3, i64_w, i32_w]
                 rfl
                refine take_ (i := 8) (N := some 90) (v := ?_) (a' := ?_) #[true, true, true, true, false, false, false, true, true, false, false, false, false] rfl rfl (take_ofW HT_.out HW_.out (by kernel_rfl)) (fun _ _ _ h => h) (Or.inl ⟨by rfl, ?_⟩) hHeld ?_ ?_
                rotate_left
                ·rintro w' ⟨s0, s1, s2⟩; go_simp; with_reducible rfl
                rotate_left
                ·simp only [Act.put, s1, s2, s3, i64_w, i32_w]
                 rfl
                refine one_ (i := 4) (N := some 86) #[true, true, true, true, true, false, false, true, true, false, false, false, false] rfl rfl (one_of HT_.out (by kernel_rfl)) (by decide) (fun K hK => ?_)
                refine goes_ Try.func61 (by kernel_rfl) rfl #[.int .i64 ((rd_T38 l1 x6_1).f1), .int .u8 39] (by rfl) rfl rfl (by (try simp only [List.map_toArray, List.map_cons, List.map_nil]); first | done | rfl | (simp only [List.length_drop, List.length_take]; rfl)) ?_
                with_reducible refine (templeref1_shown.calls kj6 ((rd_T38 l1 x6_1).f1) 39 t171 _ A22.out).mono ?_
                rintro e w33 ⟨rfl, hb⟩
                refine ⟨_, rfl, ?_⟩
                have n0_ := kb BK167 hb; have n1_ := zam (blk_below (g := gb169) (o := .cells #[.int .i64 ((rd_T38 l1 x6_1).f0), .int .i64 ((rd_T38 l1 x6_1).f1), .int .i64 ((rd_T38 l1 x6_1).f2)] 38 (0, 0)) (by (with_reducible repeat (first | refine blk_drewN ?_ _ | refine blk_drew ?_ | refine blk_alloc ?_ _)); exact BK169.out) hb); have n2_ := ks HB hb; clear BK167; clear BK169; clear HB; have BK167 := n0_; have BK169 := n1_; have HB := n2_; clear n0_ n1_ n2_; (try clear hb)
                refine hK.out _ _ ⟨(blk_cell BK169.out 0).trans rfl, (blk_cell BK169.out 1).trans rfl, (blk_cell BK169.out 2).trans rfl⟩ (fun hHeld => ?_)
                clear hK K
                refine norm_ (a' := ?_) ?_ ?_
                rotate_left
                ·show Act.put _ (some 86) _ = _
                 simp only [Act.put, s1, s2, s3, i64_w, i32_w]
                 rfl
                refine pure_ (i := 5) (N := some 87) (v := ?_) (a' := ?_) #[true, true, true, true, true, true, false, true, true, false, false, false, false] rfl rfl (any_of HT_.out (by kernel_rfl)) (fun _ _ _ h => h) (Or.inl ⟨by rfl, ?_⟩) ?_ ?_
                rotate_left
                ·intro w'
                 go_simp; with_reducible rfl
                rotate_left
                ·simp only [Act.put, s1, s2, s3, i64_w, i32_w]
                 rfl
                refine pure_ (i := 6) (N := some 88) (v := ?_) (a' := ?_) #[true, true, true, true, true, true, true, true, true, false, false, false, false] rfl rfl (any_of HT_.out (by kernel_rfl)) (fun _ _ _ h => h) (Or.inl ⟨by rfl, ?_⟩) ?_ ?_
                rotate_left
                ·intro w'
                 go_simp; with_reducible rfl
                rotate_left
                ·simp only [Act.put, s1, s2, s3, i64_w, i32_w]
                 rfl
                refine one_ (i := 9) (N := some 91) #[true, true, true, true, true, true, true, true, true, true, false, false, false] rfl rfl (one_of HT_.out (by kernel_rfl)) (by decide) (fun K hK => ?_)
                refine goes_ Try.func61 (by kernel_rfl) rfl #[.int .i64 ((rd_T38 l1 x6_1).f2), .int .u8 39] (by rfl) rfl rfl (by (try simp only [List.map_toArray, List.map_cons, List.map_nil]); first | done | rfl | (simp only [List.length_drop, List.length_take]; rfl)) ?_
                with_reducible refine (templeref1_shown.calls kj6 ((rd_T38 l1 x6_1).f2) 39 t172 _ A25.out).mono ?_
                rintro e w34 ⟨rfl, hb⟩
                refine ⟨_, rfl, ?_⟩
                have n0_ := kb BK167 hb; have n1_ := zam (blk_below (g := gb169) (o := .cells #[.int .i64 ((rd_T38 l1 x6_1).f0), .int .i64 ((rd_T38 l1 x6_1).f1), .int .i64 ((rd_T38 l1 x6_1).f2)] 38 (0, 0)) (by (with_reducible repeat (first | refine blk_drewN ?_ _ | refine blk_drew ?_ | refine blk_alloc ?_ _)); exact BK169.out) hb); have n2_ := ks HB hb; clear BK167; clear BK169; clear HB; have BK167 := n0_; have BK169 := n1_; have HB := n2_; clear n0_ n1_ n2_; (try clear hb)
                refine hK.out _ _ ⟨(blk_cell BK169.out 0).trans rfl, (blk_cell BK169.out 1).trans rfl, (blk_cell BK169.out 2).trans rfl⟩ (fun hHeld => ?_)
                clear hK K
                refine norm_ (a' := ?_) ?_ ?_
                rotate_left
                ·show Act.put _ (some 91) _ = _
                 simp only [Act.put, s1, s2, s3, i64_w, i32_w]
                 rfl
                refine pure_ (i := 10) (N := some 92) (v := ?_) (a' := ?_) #[true, true, true, true, true, true, true, true, true, true, true, false, false] rfl rfl (any_of HT_.out (by kernel_rfl)) (fun _ _ _ h => h) (Or.inl ⟨by rfl, ?_⟩) ?_ ?_
                rotate_left
                ·intro w'
                 go_simp; with_reducible rfl
                rotate_left
                ·simp only [Act.put, s1, s2, s3, i64_w, i32_w]
                 rfl
                refine pure_ (i := 11) (N := some 93) (v := ?_) (a' := ?_) #[true, true, true, true, true, true, true, true, true, true, true, true, false] rfl rfl (any_of HT_.out (by kernel_rfl)) (fun _ _ _ h => h) (Or.inl ⟨by rfl, ?_⟩) ?_ ?_
                rotate_left
                ·intro w'
                 go_simp; with_reducible rfl
                rotate_left
                ·simp only [Act.put, s1, s2, s3, i64_w, i32_w]
                 rfl
                refine pure_ (i := 12) (N := some 5) (v := ?_) (a' := ?_) #[true, true, true, true, true, true, true, true, true, true, true, true, true] rfl rfl (any_of HT_.out (by kernel_rfl)) (fun _ _ _ h => h) (Or.inl ⟨by rfl, ?_⟩) ?_ ?_
                rotate_left
                ·intro w'
                 go_simp; with_reducible rfl
                rotate_left
                ·simp only [Act.put, s1, s2, s3, i64_w, i32_w]
                 rfl
                refine done_ (done_of HT_.out (by kernel_rfl)) ?_
                try go_wp2
                go_roundg kj6
                case measure => have := HK1.out; have := HJ6.out; omega
                case rel => exact ⟨(((((x5_6 ++ (⟨#[39]⟩ : ByteArray)) ++ t171) ++ (⟨#[39, 46, 46, 39]⟩ : ByteArray)) ++ t172) ++ (⟨#[39]⟩ : ByteArray)), (wrap64 (x6_1 + 1)), (by first | rfl | (simp; done) | (simp [i64_w]; done) | (simp [*]; done) | (simp [*, i64_w]; done) | (simp [*]; unfold wrap64; omega)), (by first | rfl | (simp; done) | (simp [i64_w]; done) | (simp [*]; done) | (simp [*, i64_w]; done) | (simp [*]; unfold wrap64; omega)), H', ⟨by have := HK1.out; have := HJ6.out; omega⟩, ⟨by (with_reducible repeat (first | refine blk_drewN ?_ _ | refine blk_drew ?_ | refine blk_alloc ?_ _)); exact BK167.out⟩, ⟨by repeat (first | (with_reducible first | exact HB.out | apply zba | apply zbd | apply zbe | refine below_set ?_ GE167.out | refine below_set ?_ GE169.out) | exact HB.out)⟩⟩
               ·rw [if_neg c27] at H
                exact absurd H (by simp)
              ·rw [if_neg c26] at H
               exact absurd H (by simp)
             ·rw [if_neg c24] at H
              exact absurd H (by simp)
            ·rw [if_neg c23] at H
             exact absurd H (by simp)
           ·rw [if_neg c21] at H
            exact absurd H (by simp)
          ·rw [if_neg c20] at H; have c20b0 : decide (((rd_T38 l1 x6_1).f1) < ((rd_T38 l1 x6_1).f2)) = false := decide_eq_false c20; clear c20
           by_cases c35 : x5_6.size + 1 ≤ 9223372036854775807
           ·rw [if_pos c35] at H
            have c35b0 := eq_true c35
            have c35b1 : decide (x5_6.size + 1 ≤ 9223372036854775807) = true := decide_eq_true c35
            try have c35b2 : (9223372036854775807 < x5_6.size + 1) = False := eq_false (Nat.not_lt.2 c35)
            have H' := zam H; clear H
            have p168 : 0 ≤ (x6_1 : Int) := of_decide_eq_true (by first | (with_reducible assumption) | assumption)
            have q168 : x6_1 < (l1.length : Int) := of_decide_eq_true (by first | (with_reducible assumption) | assumption)
            obtain ⟨ad168, e168, hx168_0, hx168_1, hx168_2⟩ := at_T38 HR1.out x6_1 p168 q168; cases e168
            replace hx168_0 := (HB.out.cell (zbl w _ hx168_0)).trans hx168_0
            replace hx168_1 := (HB.out.cell (zbl w _ hx168_1)).trans hx168_1
            replace hx168_2 := (HB.out.cell (zbl w _ hx168_2)).trans hx168_2
            replace p168 := eq_true p168; replace q168 := eq_true q168
            go_wp2_with (first | ((with_reducible refine gate_dst (N := 7) rfl ?_); refine box_event ?hg (N := 7) ?hd (cs := #[.int .i64 0, .int .i64 0, .int .i64 0]) (t := 38) ?hr ?_; (case hd => rfl); (case hg => rfl); (case hr => first | (go_simp; done) | (go_simp; rfl)); intro gb169 hg w36 hbox hb; have n0_ := zam (blk_below (g := gb167) (o := .cells #[.int .i64 a0_0, .slice A0_1 l0_1.length c0_1, .slice A0_2 l0_2.length c0_2] 25 (0, 0)) (by (with_reducible repeat (first | refine blk_drewN ?_ _ | refine blk_drew ?_ | refine blk_alloc ?_ _)); exact BK167.out) hb); have n1_ := zam (below_step (by repeat (first | (with_reducible first | exact HB.out | apply zba | apply zbd | apply zbe | refine below_set ?_ GE167.out) | exact HB.out)) hb); have n2_ := zam (hbox); have n3_ := zam ((by rw [hg]; exact (below_size (by repeat (first | (with_reducible first | exact HB.out | apply zba | apply zbd | apply zbe | refine below_set ?_ GE167.out) | exact HB.out))) : w.heap.size ≤ gb169)); have n4_ := zam ((by rw [hg]; exact (below_size (by repeat (first | (with_reducible first | exact HB.out | apply zba | apply zbd | apply zbe | refine below_set ?_ GE167.out) | exact HB.out))) : w.heap.size ≤ gb169)); have n5_ := zam ((by rw [hg]; exact Nat.ne_of_lt (blk_lt (g := gb167) (o := .cells #[.int .i64 a0_0, .slice A0_1 l0_1.length c0_1, .slice A0_2 l0_2.length c0_2] 25 (0, 0)) (by (with_reducible repeat (first | refine blk_drewN ?_ _ | refine blk_drew ?_ | refine blk_alloc ?_ _)); exact BK167.out)) : gb167 ≠ gb169)); have n6_ := zam ((by rw [hg]; exact Nat.ne_of_gt (blk_lt (g := gb167) (o := .cells #[.int .i64 a0_0, .slice A0_1 l0_1.length c0_1, .slice A0_2 l0_2.length c0_2] 25 (0, 0)) (by (with_reducible repeat (first | refine blk_drewN ?_ _ | refine blk_drew ?_ | refine blk_alloc ?_ _)); exact BK167.out)) : gb169 ≠ gb167)); clear BK167; clear HB; have BK167 := n0_; have HB := n1_; have BK169 := n2_; have GW169 := n3_; have GE169 := n4_; have NB167_169 := n5_; have NB169_167 := n6_; clear n0_ n1_ n2_ n3_ n4_ n5_ n6_; clear hb hbox hg; have hnb37 := NB169_167.out; have hnc37 := NB167_169.out; have hcz38_0 : w36.cell? ⟨gb169, 0, none⟩ = some (.int .i64 0) := (blk_cell BK169.out 0).trans rfl; have hcz38_1 : w36.cell? ⟨gb169, 1, none⟩ = some (.int .i64 0) := (blk_cell BK169.out 1).trans rfl; have hcz38_2 : w36.cell? ⟨gb169, 2, none⟩ = some (.int .i64 0) := (blk_cell BK169.out 2).trans rfl; have hfz38_0 := blk_frozen BK169.out 0; have hfz38_1 := blk_frozen BK169.out 1; have hfz38_2 := blk_frozen BK169.out 2))
            go_loopg [5, 6] kj6 (fun kq v5 v6 w' => ∃ (x5_3 : ByteArray) (x6_3 : Int), v5 = .string x5_3 ∧ v6 = .int .i64 x6_3 ∧ Aside0 (templeref1_seq.l1 kq l1 x5_3 x6_3 a0_0 l0_1 l0_2 = some r) ∧ Aside0 (kq ≤ kj6) ∧ Aside0 (w'.heap[gb167]? = some (.cells #[.int .i64 a0_0, (.slice A0_1 l0_1.length c0_1), (.slice A0_2 l0_2.length c0_2)] 25 (0, 0))) ∧ Aside0 (w'.heap[gb169]? = some (.cells #[.int .i64 ((rd_T38 l1 x6_1).f0), .int .i64 ((rd_T38 l1 x6_1).f1), .int .i64 ((rd_T38 l1 x6_1).f2)] 38 (0, 0))) ∧ Aside0 (Below w.heap.size w w'))
            case atStart => exact ⟨(x5_6 ++ (⟨#[34]⟩ : ByteArray)), (x6_1), (by first | rfl | (simp; done) | (simp [i64_w]; done) | (simp [*]; done) | (simp [*, i64_w]; done) | (simp [*]; unfold wrap64; omega)), (by first | rfl | (simp; done) | (simp [i64_w]; done) | (simp [*]; done) | (simp [*, i64_w]; done) | (simp [*]; unfold wrap64; omega)), H', ⟨Nat.le_refl _⟩, ⟨by (with_reducible repeat (first | refine blk_drewN ?_ _ | refine blk_drew ?_ | refine blk_alloc ?_ _)); refine blk_far ?_ NB167_169.out _; (with_reducible repeat (first | refine blk_drewN ?_ _ | refine blk_drew ?_ | refine blk_alloc ?_ _)); refine blk_far ?_ NB167_169.out _; (with_reducible repeat (first | refine blk_drewN ?_ _ | refine blk_drew ?_ | refine blk_alloc ?_ _)); refine blk_far ?_ NB167_169.out _; (with_reducible repeat (first | refine blk_drewN ?_ _ | refine blk_drew ?_ | refine blk_alloc ?_ _)); exact BK167.out⟩, ⟨by (with_reducible repeat (first | refine blk_drewN ?_ _ | refine blk_drew ?_ | refine blk_alloc ?_ _)); refine blk_put (cs := #[.int .i64 ((rd_T38 l1 x6_1).f0), .int .i64 ((rd_T38 l1 x6_1).f1), .int .i64 0]) ?_ 2 _ rfl; (with_reducible repeat (first | refine blk_drewN ?_ _ | refine blk_drew ?_ | refine blk_alloc ?_ _)); refine blk_put (cs := #[.int .i64 ((rd_T38 l1 x6_1).f0), .int .i64 0, .int .i64 0]) ?_ 1 _ rfl; (with_reducible repeat (first | refine blk_drewN ?_ _ | refine blk_drew ?_ | refine blk_alloc ?_ _)); refine blk_put (cs := #[.int .i64 0, .int .i64 0, .int .i64 0]) ?_ 0 _ rfl; (with_reducible repeat (first | refine blk_drewN ?_ _ | refine blk_drew ?_ | refine blk_alloc ?_ _)); exact BK169.out⟩, ⟨by repeat (first | (with_reducible first | exact HB.out | apply zba | apply zbd | apply zbe | refine below_set ?_ GE167.out | refine below_set ?_ GE169.out) | exact HB.out)⟩⟩
            case round =>
             clear H'; (try clear c1); (try clear p1); (try clear q1); (try clear hx1); (try clear c2); (try clear p2); (try clear c3); (try clear c3b0); (try clear c3b1); (try clear c3b2); (try clear c4); (try clear c6); (try clear c6b0); (try clear p6); (try clear c8); (try clear c8b0); (try clear c8b1); (try clear c9); (try clear c9b0); (try clear c9b1); (try clear c9b2); (try clear c10); (try clear c10b0); (try clear c11); (try clear c11b0); (try clear c12); (try clear c12b0); (try clear c13); (try clear c13b0); (try clear c14); (try clear c14b0); (try clear c15); (try clear c15b0); (try clear c15b1); (try clear c15b2); (try clear p16); (try clear q16); (try clear hx16); (try clear c17); (try clear p17); (try clear q17); (try clear hx17); (try clear c20); (try clear c20b0); (try clear c21); (try clear c21b0); (try clear c21b1); (try clear c21b2); (try clear c23); (try clear c23b0); (try clear c23b1); (try clear c23b2); (try clear c24); (try clear c24b0); (try clear c24b1); (try clear c24b2); (try clear c26); (try clear c26b0); (try clear c26b1); (try clear c26b2); (try clear c27); (try clear c27b0); (try clear c27b1); (try clear c27b2); (try clear c29); (try clear c35); (try clear c35b0); (try clear c35b1); (try clear c35b2); (try clear c37); (try clear hcz18_0); (try clear hcz18_1); (try clear hcz18_2); (try clear hcz19_0); (try clear hcz19_1); (try clear hcz19_2); (try clear hcz30_0); (try clear hcz30_1); (try clear hcz30_2); (try clear hcz38_0); (try clear hcz38_1); (try clear hcz38_2); (try clear hfz18_0); (try clear hfz18_1); (try clear hfz18_2); (try clear hfz19_0); (try clear hfz19_1); (try clear hfz19_2); (try clear hfz30_0); (try clear hfz30_1); (try clear hfz30_2); (try clear hfz38_0); (try clear hfz38_1); (try clear hfz38_2); (try clear hx168_0); (try clear hx168_1); (try clear hx168_2); (try clear hx170_0); (try clear p168); (try clear p170); (try clear p2); (try clear q168); (try clear q170); obtain ⟨x5_3, x6_3, rfl, rfl, HA, HK3, BK167, BK169, HB⟩ := hrel
             cases gk with
             | zero => exact absurd HA.out (by simp [templeref1_seq.l1])
             | succ k3 =>
              have H := HA.out; clear HA
              simp only [templeref1_seq.l1] at H
              by_cases c39 : x6_3 < (l1.length : Int)
              ·rw [if_pos c39] at H; have c39b0 : decide (x6_3 < (l1.length : Int)) = true := decide_eq_true c39; clear c39
               by_cases c40 : 0 ≤ x6_3
               ·rw [if_pos c40] at H; have c40b0 : decide (0 ≤ x6_3) = true := decide_eq_true c40; clear c40
                by_cases c41 : ((rd_T38 l1 x6_3).f0) < 0
                ·rw [if_pos c41] at H; have c41b0 : decide (((rd_T38 l1 x6_3).f0) < 0) = true := decide_eq_true c41; clear c41
                 by_cases c42 : ((rd_T38 l1 x6_3).f1) = ((rd_T38 l1 x6_3).f2)
                 ·rw [if_pos c42] at H; have c42b0 : (((rd_T38 l1 x6_3).f1) == ((rd_T38 l1 x6_3).f2)) = true := beq_iff_eq.mpr c42; have c42b1 : (((rd_T38 l1 x6_3).f1) != ((rd_T38 l1 x6_3).f2)) = false := bne_eq_false_iff_eq.mpr c42; clear c42; replace H := Option.bind_eq_some_iff.mp H; obtain ⟨t177, A430, H⟩ := H
                  replace H : (if x5_3.size + t177.size ≤ 9223372036854775807 then (templeref1_seq.l1 k3 l1 (x5_3 ++ t177) (wrap64 (x6_3 + 1)) a0_0 l0_1 l0_2) else (none)) = some r := H
                  have A43 := zam A430; clear A430
                  by_cases c44 : x5_3.size + t177.size ≤ 9223372036854775807
                  ·rw [if_pos c44] at H
                   have c44b0 := eq_true c44
                   have c44b1 : decide (x5_3.size + t177.size ≤ 9223372036854775807) = true := decide_eq_true c44
                   try have c44b2 : (9223372036854775807 < x5_3.size + t177.size) = False := eq_false (Nat.not_lt.2 c44)
                   have H' := zam H; clear H
                   try go_wp2
                   have n0_ := zam (blk_drew BK167.out); have n1_ := zam (blk_drew BK169.out); have n2_ := zam (below_drew1 HB.out); clear BK167; clear BK169; clear HB; have BK167 := n0_; have BK169 := n1_; have HB := n2_; clear n0_ n1_ n2_
                   have p173 : 0 ≤ (x6_3 : Int) := of_decide_eq_true (by first | (with_reducible assumption) | assumption)
                   have q173 : x6_3 < (l1.length : Int) := of_decide_eq_true (by first | (with_reducible assumption) | assumption)
                   obtain ⟨ad173, e173, hx173_0, hx173_1, hx173_2⟩ := at_T38 HR1.out x6_3 p173 q173; have hw173_2 := hx173_2; have hw173_1 := hx173_1; have hw173_0 := hx173_0; obtain rfl : ad168 = ad173 := (by injection e173)
                   replace hx173_0 := (HB.out.cell (zbl w _ hx173_0)).trans hx173_0
                   replace hx173_1 := (HB.out.cell (zbl w _ hx173_1)).trans hx173_1
                   replace hx173_2 := (HB.out.cell (zbl w _ hx173_2)).trans hx173_2
                   replace p173 := eq_true p173; replace q173 := eq_true q173
                   have p174 : 0 ≤ (x6_3 : Int) := of_decide_eq_true (by first | (with_reducible assumption) | assumption)
                   have q174 : x6_3 < (l1.length : Int) := of_decide_eq_true (by first | (with_reducible assumption) | assumption)
                   obtain ⟨ad174, e174, hx174_0, hx174_1, hx174_2⟩ := at_T38 HR1.out x6_3 p174 q174; have hw174_2 := hx174_2; have hw174_1 := hx174_1; have hw174_0 := hx174_0; obtain rfl : ad168 = ad174 := (by injection e174)
                   replace hx174_0 := (HB.out.cell (zbl w _ hx174_0)).trans hx174_0
                   replace hx174_1 := (HB.out.cell (zbl w _ hx174_1)).trans hx174_1
                   replace hx174_2 := (HB.out.cell (zbl w _ hx174_2)).trans hx174_2
                   replace p174 := eq_true p174; replace q174 := eq_true q174
                   have p175 : 0 ≤ (x6_3 : Int) := of_decide_eq_true (by first | (with_reducible assumption) | assumption)
                   have q175 : x6_3 < (l1.length : Int) := of_decide_eq_true (by first | (with_reducible assumption) | assumption)
                   obtain ⟨ad175, e175, hx175_0, hx175_1, hx175_2⟩ := at_T38 HR1.out x6_3 p175 q175; have hw175_2 := hx175_2; have hw175_1 := hx175_1; have hw175_0 := hx175_0; obtain rfl : ad168 = ad175 := (by injection e175)
                   replace hx175_0 := (HB.out.cell (zbl w _ hx175_0)).trans hx175_0
                   replace hx175_1 := (HB.out.cell (zbl w _ hx175_1)).trans hx175_1
                   replace hx175_2 := (HB.out.cell (zbl w _ hx175_2)).trans hx175_2
                   replace p175 := eq_true p175; replace q175 := eq_true q175
                   refine start_ (n := 25) (S := fun w' => w'.cell? (ad168.add ((x6_3).toNat * 3)) = some (.int .i64 ((rd_T38 l1 x6_3).f0)) ∧ w'.cell? ⟨(ad168.add ((x6_3).toNat * 3)).block, (ad168.add ((x6_3).toNat * 3)).off + 1, none⟩ = some (.int .i64 ((rd_T38 l1 x6_3).f1)) ∧ w'.cell? ⟨(ad168.add ((x6_3).toNat * 3)).block, (ad168.add ((x6_3).toNat * 3)).off + 2, none⟩ = some (.int .i64 ((rd_T38 l1 x6_3).f2)) ∧ w'.cell? (ad168.add ((x6_3).toNat * 3)) = some (.int .i64 ((rd_T38 l1 x6_3).f0)) ∧ w'.cell? ⟨(ad168.add ((x6_3).toNat * 3)).block, (ad168.add ((x6_3).toNat * 3)).off + 1, none⟩ = some (.int .i64 ((rd_T38 l1 x6_3).f1)) ∧ w'.cell? ⟨(ad168.add ((x6_3).toNat * 3)).block, (ad168.add ((x6_3).toNat * 3)).off + 2, none⟩ = some (.int .i64 ((rd_T38 l1 x6_3).f2)) ∧ w'.cell? (ad168.add ((x6_3).toNat * 3)) = some (.int .i64 ((rd_T38 l1 x6_3).f0)) ∧ w'.cell? ⟨(ad168.add ((x6_3).toNat * 3)).block, (ad168.add ((x6_3).toNat * 3)).off + 1, none⟩ = some (.int .i64 ((rd_T38 l1 x6_3).f1)) ∧ w'.cell? ⟨(ad168.add ((x6_3).toNat * 3)).block, (ad168.add ((x6_3).toNat * 3)).off + 2, none⟩ = some (.int .i64 ((rd_T38 l1 x6_3).f2))) (ds := []) #[false, false, false, false, false, false, false, false, false, false, false, false, false, false, false, false, false, false, false, false, false, false, false, false, false] (by kernel_rfl) rfl rfl ⟨((HB.out.cell (zbl w _ hw173_0)).trans hw173_0), ((HB.out.cell (zbl w _ hw173_1)).trans hw173_1), ((HB.out.cell (zbl w _ hw173_2)).trans hw173_2), ((HB.out.cell (zbl w _ hw174_0)).trans hw174_0), ((HB.out.cell (zbl w _ hw174_1)).trans hw174_1), ((HB.out.cell (zbl w _ hw174_2)).trans hw174_2), ((HB.out.cell (zbl w _ hw175_0)).trans hw175_0), ((HB.out.cell (zbl w _ hw175_1)).trans hw175_1), ((HB.out.cell (zbl w _ hw175_2)).trans hw175_2)⟩ (fun hHeld => ?_); refine with_tabW templeref1_seq.tab10 templeref1_seq.bits10 (fun HT_ HW_ => ?_)
                   generalize wr.drew = w45 at BK167 BK169 HB hx173_0 hx173_1 hx173_2 hx174_0 hx174_1 hx174_2 hx175_0 hx175_1 hx175_2 hHeld ⊢
                   refine pure_ (i := 0) (N := some 25) (v := ?_) (a' := ?_) #[true, false, false, false, false, false, false, false, false, false, false, false, false, false, false, false, false, false, false, false, false, false, false, false, false] rfl rfl (any_of HT_.out (by kernel_rfl)) (fun _ _ _ h => h) (Or.inl ⟨by rfl, ?_⟩) ?_ ?_
                   rotate_left
                   ·intro w'
                    go_simp; with_reducible rfl
                   rotate_left
                   ·simp only [Act.put, s1, s2, s3, i64_w, i32_w]
                    rfl
                   refine pure_ (i := 1) (N := some 26) (v := ?_) (a' := ?_) #[true, true, false, false, false, false, false, false, false, false, false, false, false, false, false, false, false, false, false, false, false, false, false, false, false] rfl rfl (any_of HT_.out (by kernel_rfl)) (fun _ _ _ h => h) (Or.inl ⟨by rfl, ?_⟩) ?_ ?_
                   rotate_left
                   ·intro w'
                    go_simp; with_reducible rfl
                   rotate_left
                   ·simp only [Act.put, s1, s2, s3, i64_w, i32_w]
                    rfl
                   refine pure_ (i := 2) (N := some 27) (v := ?_) (a' := ?_) #[true, true, true, false, false, false, false, false, false, false, false, false, false, false, false, false, false, false, false, false, false, false, false, false, false] rfl rfl (any_of HT_.out (by kernel_rfl)) (fun _ _ _ h => h) (Or.inl ⟨by rfl, ?_⟩) ?_ ?_
                   rotate_left
                   ·intro w'
                    go_simp; with_reducible rfl
                   rotate_left
                   ·simp only [Act.put, s1, s2, s3, i64_w, i32_w]
                    rfl
                   refine pure_ (i := 3) (N := some 28) (v := ?_) (a' := ?_) #[true, true, true, true, false, false, false, false, false, false, false, false, false, false, false, false, false, false, false, false, false, false, false, false, false] rfl rfl (any_of HT_.out (by kernel_rfl)) (fun _ _ _ h => h) (Or.inl ⟨by rfl, ?_⟩) ?_ ?_
                   rotate_left
                   ·intro w'
                    go_simp; with_reducible rfl
                   rotate_left
                   ·simp only [Act.put, s1, s2, s3, i64_w, i32_w]
                    rfl
                   refine pure_ (i := 4) (N := some 29) (v := ?_) (a' := ?_) #[true, true, true, true, true, false, false, false, false, false, false, false, false, false, false, false, false, false, false, false, false, false, false, false, false] rfl rfl (any_of HT_.out (by kernel_rfl)) (fun _ _ _ h => h) (Or.inl ⟨by rfl, ?_⟩) ?_ ?_
                   rotate_left
                   ·intro w'
                    go_simp; with_reducible rfl
                   rotate_left
                   ·simp only [Act.put, s1, s2, s3, i64_w, i32_w]
                    rfl
                   refine pure_ (i := 5) (N := some 30) (v := ?_) (a' := ?_) #[true, true, true, true, true, true, false, false, false, false, false, false, false, false, false, false, false, false, false, false, false, false, false, false, false] rfl rfl (any_of HT_.out (by kernel_rfl)) (fun _ _ _ h => h) (Or.inl ⟨by rfl, ?_⟩) ?_ ?_
                   rotate_left
                   ·intro w'
                    go_simp; with_reducible rfl
                   rotate_left
                   ·simp only [Act.put, s1, s2, s3, i64_w, i32_w]
                    rfl
                   refine pure_ (i := 6) (N := some 31) (v := ?_) (a' := ?_) #[true, true, true, true, true, true, true, false, false, false, false, false, false, false, false, false, false, false, false, false, false, false, false, false, false] rfl rfl (any_of HT_.out (by kernel_rfl)) (fun _ _ _ h => h) (Or.inl ⟨by rfl, ?_⟩) ?_ ?_
                   rotate_left
                   ·intro w'
                    go_simp; with_reducible rfl
                   rotate_left
                   ·simp only [Act.put, s1, s2, s3, i64_w, i32_w]
                    rfl
                   refine pure_ (i := 7) (N := some 32) (v := ?_) (a' := ?_) #[true, true, true, true, true, true, true, true, false, false, false, false, false, false, false, false, false, false, false, false, false, false, false, false, false] rfl rfl (any_of HT_.out (by kernel_rfl)) (fun _ _ _ h => h) (Or.inl ⟨by rfl, ?_⟩) ?_ ?_
                   rotate_left
                   ·intro w'
                    go_simp; with_reducible rfl
                   rotate_left
                   ·simp only [Act.put, s1, s2, s3, i64_w, i32_w]
                    rfl
                   refine pure_ (i := 8) (N := some 33) (v := ?_) (a' := ?_) #[true, true, true, true, true, true, true, true, true, false, false, false, false, false, false, false, false, false, false, false, false, false, false, false, false] rfl rfl (any_of HT_.out (by kernel_rfl)) (fun _ _ _ h => h) (Or.inl ⟨by rfl, ?_⟩) ?_ ?_
                   rotate_left
                   ·intro w'
                    go_simp; with_reducible rfl
                   rotate_left
                   ·simp only [Act.put, s1, s2, s3, i64_w, i32_w]
                    rfl
                   refine take_ (i := 9) (N := some 34) (v := ?_) (a' := ?_) #[true, true, true, true, true, true, true, true, true, true, false, false, false, false, false, false, false, false, false, false, false, false, false, false, false] rfl rfl (take_ofW HT_.out HW_.out (by kernel_rfl)) (fun _ _ _ h => h) (Or.inl ⟨by rfl, ?_⟩) hHeld ?_ ?_
                   rotate_left
                   ·rintro w' ⟨s0, s1, s2, s3, s4, s5, s6, s7, s8⟩; go_simp; with_reducible rfl
                   rotate_left
                   ·simp only [Act.put, s1, s2, s3, i64_w, i32_w]
                    rfl
                   refine pure_ (i := 10) (N := some 35) (v := ?_) (a' := ?_) #[true, true, true, true, true, true, true, true, true, true, true, false, false, false, false, false, false, false, false, false, false, false, false, false, false] rfl rfl (any_of HT_.out (by kernel_rfl)) (fun _ _ _ h => h) (Or.inl ⟨by rfl, ?_⟩) ?_ ?_
                   rotate_left
                   ·intro w'
                    go_simp; with_reducible rfl
                   rotate_left
                   ·simp only [Act.put, s1, s2, s3, i64_w, i32_w]
                    rfl
                   refine pure_ (i := 11) (N := some 36) (v := ?_) (a' := ?_) #[true, true, true, true, true, true, true, true, true, true, true, true, false, false, false, false, false, false, false, false, false, false, false, false, false] rfl rfl (any_of HT_.out (by kernel_rfl)) (fun _ _ _ h => h) (Or.inl ⟨by rfl, ?_⟩) ?_ ?_
                   rotate_left
                   ·intro w'
                    go_simp; with_reducible rfl
                   rotate_left
                   ·simp only [Act.put, s1, s2, s3, i64_w, i32_w]
                    rfl
                   refine pure_ (i := 12) (N := some 37) (v := ?_) (a' := ?_) #[true, true, true, true, true, true, true, true, true, true, true, true, true, false, false, false, false, false, false, false, false, false, false, false, false] rfl rfl (any_of HT_.out (by kernel_rfl)) (fun _ _ _ h => h) (Or.inl ⟨by rfl, ?_⟩) ?_ ?_
                   rotate_left
                   ·intro w'
                    go_simp; with_reducible rfl
                   rotate_left
                   ·simp only [Act.put, s1, s2, s3, i64_w, i32_w]
                    rfl
                   refine pure_ (i := 13) (N := some 38) (v := ?_) (a' := ?_) #[true, true, true, true, true, true, true, true, true, true, true, true, true, true, false, false, false, false, false, false, false, false, false, false, false] rfl rfl (any_of HT_.out (by kernel_rfl)) (fun _ _ _ h => h) (Or.inl ⟨by rfl, ?_⟩) ?_ ?_
                   rotate_left
                   ·intro w'
                    go_simp; with_reducible rfl
                   rotate_left
                   ·simp only [Act.put, s1, s2, s3, i64_w, i32_w]
                    rfl
                   refine pure_ (i := 14) (N := some 39) (v := ?_) (a' := ?_) #[true, true, true, true, true, true, true, true, true, true, true, true, true, true, true, false, false, false, false, false, false, false, false, false, false] rfl rfl (any_of HT_.out (by kernel_rfl)) (fun _ _ _ h => h) (Or.inl ⟨by rfl, ?_⟩) ?_ ?_
                   rotate_left
                   ·intro w'
                    go_simp; with_reducible rfl
                   rotate_left
                   ·simp only [Act.put, s1, s2, s3, i64_w, i32_w]
                    rfl
                   refine pure_ (i := 15) (N := some 40) (v := ?_) (a' := ?_) #[true, true, true, true, true, true, true, true, true, true, true, true, true, true, true, true, false, false, false, false, false, false, false, false, false] rfl rfl (any_of HT_.out (by kernel_rfl)) (fun _ _ _ h => h) (Or.inl ⟨by rfl, ?_⟩) ?_ ?_
                   rotate_left
                   ·intro w'
                    go_simp; with_reducible rfl
                   rotate_left
                   ·simp only [Act.put, s1, s2, s3, i64_w, i32_w]
                    rfl
                   refine pure_ (i := 16) (N := some 41) (v := ?_) (a' := ?_) #[true, true, true, true, true, true, true, true, true, true, true, true, true, true, true, true, true, false, false, false, false, false, false, false, false] rfl rfl (any_of HT_.out (by kernel_rfl)) (fun _ _ _ h => h) (Or.inl ⟨by rfl, ?_⟩) ?_ ?_
                   rotate_left
                   ·intro w'
                    go_simp; with_reducible rfl
                   rotate_left
                   ·simp only [Act.put, s1, s2, s3, i64_w, i32_w]
                    rfl
                   refine pure_ (i := 18) (N := some 43) (v := ?_) (a' := ?_) #[true, true, true, true, true, true, true, true, true, true, true, true, true, true, true, true, true, false, true, false, false, false, false, false, false] rfl rfl (any_of HT_.out (by kernel_rfl)) (fun _ _ _ h => h) (Or.inl ⟨by rfl, ?_⟩) ?_ ?_
                   rotate_left
                   ·intro w'
                    go_simp; with_reducible rfl
                   rotate_left
                   ·simp only [Act.put, s1, s2, s3, i64_w, i32_w]
                    rfl
                   refine pure_ (i := 19) (N := some 44) (v := ?_) (a' := ?_) #[true, true, true, true, true, true, true, true, true, true, true, true, true, true, true, true, true, false, true, true, false, false, false, false, false] rfl rfl (any_of HT_.out (by kernel_rfl)) (fun _ _ _ h => h) (Or.inl ⟨by rfl, ?_⟩) ?_ ?_
                   rotate_left
                   ·intro w'
                    go_simp; with_reducible rfl
                   rotate_left
                   ·simp only [Act.put, s1, s2, s3, i64_w, i32_w]
                    rfl
                   refine pure_ (i := 20) (N := some 45) (v := ?_) (a' := ?_) #[true, true, true, true, true, true, true, true, true, true, true, true, true, true, true, true, true, false, true, true, true, false, false, false, false] rfl rfl (any_of HT_.out (by kernel_rfl)) (fun _ _ _ h => h) (Or.inl ⟨by rfl, ?_⟩) ?_ ?_
                   rotate_left
                   ·intro w'
                    go_simp; with_reducible rfl
                   rotate_left
                   ·simp only [Act.put, s1, s2, s3, i64_w, i32_w]
                    rfl
                   refine pure_ (i := 21) (N := some 46) (v := ?_) (a' := ?_) #[true, true, true, true, true, true, true, true, true, true, true, true, true, true, true, true, true, false, true, true, true, true, false, false, false] rfl rfl (any_of HT_.out (by kernel_rfl)) (fun _ _ _ h => h) (Or.inl ⟨by rfl, ?_⟩) ?_ ?_
                   rotate_left
                   ·intro w'
                    go_simp; with_reducible rfl
                   rotate_left
                   ·simp only [Act.put, s1, s2, s3, i64_w, i32_w]
                    rfl
                   refine take_ (i := 17) (N := some 42) (v := ?_) (a' := ?_) #[true, true, true, true, true, true, true, true, true, true, true, true, true, true, true, true, true, true, true, true, true, true, false, false, false] rfl rfl (take_ofW HT_.out HW_.out (by kernel_rfl)) (fun _ _ _ h => h) (Or.inl ⟨by rfl, ?_⟩) hHeld ?_ ?_
                   rotate_left
                   ·rintro w' ⟨s0, s1, s2, s3, s4, s5, s6, s7, s8⟩; go_simp; with_reducible rfl
                   rotate_left
                   ·simp only [Act.put, s1, s2, s3, i64_w, i32_w]
                    rfl
                   refine take_ (i := 22) (N := some 47) (v := ?_) (a' := ?_) #[true, true, true, true, true, true, true, true, true, true, true, true, true, true, true, true, true, true, true, true, true, true, true, false, false] rfl rfl (take_ofW HT_.out HW_.out (by kernel_rfl)) (fun _ _ _ h => h) (Or.inl ⟨by rfl, ?_⟩) hHeld ?_ ?_
                   rotate_left
                   ·rintro w' ⟨s0, s1, s2, s3, s4, s5, s6, s7, s8⟩; go_simp; with_reducible rfl
                   rotate_left
                   ·simp only [Act.put, s1, s2, s3, i64_w, i32_w]
                    rfl
                   refine pure_ (i := 23) (N := some 48) (v := ?_) (a' := ?_) #[true, true, true, true, true, true, true, true, true, true, true, true, true, true, true, true, true, true, true, true, true, true, true, true, false] rfl rfl (any_of HT_.out (by kernel_rfl)) (fun _ _ _ h => h) (Or.inl ⟨by rfl, ?_⟩) ?_ ?_
                   rotate_left
                   ·intro w'
                    go_simp; with_reducible rfl
                   rotate_left
                   ·simp only [Act.put, s1, s2, s3, i64_w, i32_w]
                    rfl
                   refine pure_ (i := 24) (N := some 49) (v := ?_) (a' := ?_) #[true, true, true, true, true, true, true, true, true, true, true, true, true, true, true, true, true, true, true, true, true, true, true, true, true] rfl rfl (any_of HT_.out (by kernel_rfl)) (fun _ _ _ h => h) (Or.inl ⟨by rfl, ?_⟩) ?_ ?_
                   rotate_left
                   ·intro w'
                    go_simp; with_reducible rfl
                   rotate_left
                   ·simp only [Act.put, s1, s2, s3, i64_w, i32_w]
                    rfl
                   refine done_ (done_of HT_.out (by kernel_rfl)) ?_
                   have p176 : 0 ≤ (x6_3 : Int) := of_decide_eq_true (by first | (with_reducible assumption) | assumption)
                   have q176 : x6_3 < (l1.length : Int) := of_decide_eq_true (by first | (with_reducible assumption) | assumption)
                   obtain ⟨ad176, e176, hx176_0, hx176_1, hx176_2⟩ := at_T38 HR1.out x6_3 p176 q176; obtain rfl : ad168 = ad176 := (by injection e176)
                   replace hx176_0 := (HB.out.cell (zbl w _ hx176_0)).trans hx176_0
                   replace hx176_1 := (HB.out.cell (zbl w _ hx176_1)).trans hx176_1
                   replace hx176_2 := (HB.out.cell (zbl w _ hx176_2)).trans hx176_2
                   replace p176 := eq_true p176; replace q176 := eq_true q176
                   try go_wp2_with (first | ((with_reducible refine gate_callee (f := 61) rfl ?_); refine goesL_ (some 56) rfl rfl Try.func61 (by kernel_rfl) rfl #[.int .i64 ((rd_T38 l1 x6_3).f1), .int .u8 34] rfl (by (try simp only [List.map_toArray, List.map_cons, List.map_nil]); first | done | rfl | (simp only [List.length_drop, List.length_take]; rfl)) ?_; (with_reducible refine (templeref1_shown.calls k3 ((rd_T38 l1 x6_3).f1) 34 t177 _ A43.out).mono ?_); rintro e w46 ⟨rfl, hb⟩; refine ⟨_, rfl, ?_⟩; have n0_ := zam (blk_below (g := gb167) (o := .cells #[.int .i64 a0_0, .slice A0_1 l0_1.length c0_1, .slice A0_2 l0_2.length c0_2] 25 (0, 0)) (by (with_reducible repeat (first | refine blk_drewN ?_ _ | refine blk_drew ?_ | refine blk_alloc ?_ _)); exact BK167.out) hb); have n1_ := zam (blk_below (g := gb169) (o := .cells #[.int .i64 ((rd_T38 l1 x6_1).f0), .int .i64 ((rd_T38 l1 x6_1).f1), .int .i64 ((rd_T38 l1 x6_1).f2)] 38 (0, 0)) (by (with_reducible repeat (first | refine blk_drewN ?_ _ | refine blk_drew ?_ | refine blk_alloc ?_ _)); exact BK169.out) hb); have n2_ := zam (below_step (by repeat (first | (with_reducible first | exact HB.out | apply zba | apply zbd | apply zbe | refine below_set ?_ GE167.out | refine below_set ?_ GE169.out) | exact HB.out)) hb); clear BK167; clear BK169; clear HB; have BK167 := n0_; have BK169 := n1_; have HB := n2_; clear n0_ n1_ n2_; (try clear hb)))
                   go_roundg k3
                   case measure => have := HK1.out; have := HJ6.out; have := HK3.out; omega
                   case rel => exact ⟨(x5_3 ++ t177), (wrap64 (x6_3 + 1)), (by first | rfl | (simp; done) | (simp [i64_w]; done) | (simp [*]; done) | (simp [*, i64_w]; done) | (simp [*]; unfold wrap64; omega)), (by first | rfl | (simp; done) | (simp [i64_w]; done) | (simp [*]; done) | (simp [*, i64_w]; done) | (simp [*]; unfold wrap64; omega)), H', ⟨by have := HK1.out; have := HJ6.out; have := HK3.out; omega⟩, ⟨by (with_reducible repeat (first | refine blk_drewN ?_ _ | refine blk_drew ?_ | refine blk_alloc ?_ _)); exact BK167.out⟩, ⟨by (with_reducible repeat (first | refine blk_drewN ?_ _ | refine blk_drew ?_ | refine blk_alloc ?_ _)); exact BK169.out⟩, ⟨by repeat (first | (with_reducible first | exact HB.out | apply zba | apply zbd | apply zbe | refine below_set ?_ GE167.out | refine below_set ?_ GE169.out) | exact HB.out)⟩⟩
                  ·rw [if_neg c44] at H
                   exact absurd H (by simp)
                 ·rw [if_neg c42] at H; have c42b0 : (((rd_T38 l1 x6_3).f1) == ((rd_T38 l1 x6_3).f2)) = false := beq_eq_false_iff_ne.mpr c42; have c42b1 : (((rd_T38 l1 x6_3).f1) != ((rd_T38 l1 x6_3).f2)) = true := bne_iff_ne.mpr c42
                  by_cases c47 : x5_3.size + 1 ≤ 9223372036854775807
                  ·rw [if_pos c47] at H
                   have c47b0 := eq_true c47
                   have c47b1 : decide (x5_3.size + 1 ≤ 9223372036854775807) = true := decide_eq_true c47
                   try have c47b2 : (9223372036854775807 < x5_3.size + 1) = False := eq_false (Nat.not_lt.2 c47)
                   have H' := zam H; clear H
                   try go_wp2
                   have n0_ := zam (blk_drew BK167.out); have n1_ := zam (blk_drew BK169.out); have n2_ := zam (below_drew1 HB.out); clear BK167; clear BK169; clear HB; have BK167 := n0_; have BK169 := n1_; have HB := n2_; clear n0_ n1_ n2_
                   have p173 : 0 ≤ (x6_3 : Int) := of_decide_eq_true (by first | (with_reducible assumption) | assumption)
                   have q173 : x6_3 < (l1.length : Int) := of_decide_eq_true (by first | (with_reducible assumption) | assumption)
                   obtain ⟨ad173, e173, hx173_0, hx173_1, hx173_2⟩ := at_T38 HR1.out x6_3 p173 q173; have hw173_2 := hx173_2; have hw173_1 := hx173_1; have hw173_0 := hx173_0; obtain rfl : ad168 = ad173 := (by injection e173)
                   replace hx173_0 := (HB.out.cell (zbl w _ hx173_0)).trans hx173_0
                   replace hx173_1 := (HB.out.cell (zbl w _ hx173_1)).trans hx173_1
                   replace hx173_2 := (HB.out.cell (zbl w _ hx173_2)).trans hx173_2
                   replace p173 := eq_true p173; replace q173 := eq_true q173
                   have p174 : 0 ≤ (x6_3 : Int) := of_decide_eq_true (by first | (with_reducible assumption) | assumption)
                   have q174 : x6_3 < (l1.length : Int) := of_decide_eq_true (by first | (with_reducible assumption) | assumption)
                   obtain ⟨ad174, e174, hx174_0, hx174_1, hx174_2⟩ := at_T38 HR1.out x6_3 p174 q174; have hw174_2 := hx174_2; have hw174_1 := hx174_1; have hw174_0 := hx174_0; obtain rfl : ad168 = ad174 := (by injection e174)
                   replace hx174_0 := (HB.out.cell (zbl w _ hx174_0)).trans hx174_0
                   replace hx174_1 := (HB.out.cell (zbl w _ hx174_1)).trans hx174_1
                   replace hx174_2 := (HB.out.cell (zbl w _ hx174_2)).trans hx174_2
                   replace p174 := eq_true p174; replace q174 := eq_true q174
                   have p175 : 0 ≤ (x6_3 : Int) := of_decide_eq_true (by first | (with_reducible assumption) | assumption)
                   have q175 : x6_3 < (l1.length : Int) := of_decide_eq_true (by first | (with_reducible assumption) | assumption)
                   obtain ⟨ad175, e175, hx175_0, hx175_1, hx175_2⟩ := at_T38 HR1.out x6_3 p175 q175; have hw175_2 := hx175_2; have hw175_1 := hx175_1; have hw175_0 := hx175_0; obtain rfl : ad168 = ad175 := (by injection e175)
                   replace hx175_0 := (HB.out.cell (zbl w _ hx175_0)).trans hx175_0
                   replace hx175_1 := (HB.out.cell (zbl w _ hx175_1)).trans hx175_1
                   replace hx175_2 := (HB.out.cell (zbl w _ hx175_2)).trans hx175_2
                   replace p175 := eq_true p175; replace q175 := eq_true q175
                   refine start_ (n := 25) (S := fun w' => w'.cell? (ad168.add ((x6_3).toNat * 3)) = some (.int .i64 ((rd_T38 l1 x6_3).f0)) ∧ w'.cell? ⟨(ad168.add ((x6_3).toNat * 3)).block, (ad168.add ((x6_3).toNat * 3)).off + 1, none⟩ = some (.int .i64 ((rd_T38 l1 x6_3).f1)) ∧ w'.cell? ⟨(ad168.add ((x6_3).toNat * 3)).block, (ad168.add ((x6_3).toNat * 3)).off + 2, none⟩ = some (.int .i64 ((rd_T38 l1 x6_3).f2)) ∧ w'.cell? (ad168.add ((x6_3).toNat * 3)) = some (.int .i64 ((rd_T38 l1 x6_3).f0)) ∧ w'.cell? ⟨(ad168.add ((x6_3).toNat * 3)).block, (ad168.add ((x6_3).toNat * 3)).off + 1, none⟩ = some (.int .i64 ((rd_T38 l1 x6_3).f1)) ∧ w'.cell? ⟨(ad168.add ((x6_3).toNat * 3)).block, (ad168.add ((x6_3).toNat * 3)).off + 2, none⟩ = some (.int .i64 ((rd_T38 l1 x6_3).f2)) ∧ w'.cell? (ad168.add ((x6_3).toNat * 3)) = some (.int .i64 ((rd_T38 l1 x6_3).f0)) ∧ w'.cell? ⟨(ad168.add ((x6_3).toNat * 3)).block, (ad168.add ((x6_3).toNat * 3)).off + 1, none⟩ = some (.int .i64 ((rd_T38 l1 x6_3).f1)) ∧ w'.cell? ⟨(ad168.add ((x6_3).toNat * 3)).block, (ad168.add ((x6_3).toNat * 3)).off + 2, none⟩ = some (.int .i64 ((rd_T38 l1 x6_3).f2))) (ds := []) #[false, false, false, false, false, false, false, false, false, false, false, false, false, false, false, false, false, false, false, false, false, false, false, false, false] (by kernel_rfl) rfl rfl ⟨((HB.out.cell (zbl w _ hw173_0)).trans hw173_0), ((HB.out.cell (zbl w _ hw173_1)).trans hw173_1), ((HB.out.cell (zbl w _ hw173_2)).trans hw173_2), ((HB.out.cell (zbl w _ hw174_0)).trans hw174_0), ((HB.out.cell (zbl w _ hw174_1)).trans hw174_1), ((HB.out.cell (zbl w _ hw174_2)).trans hw174_2), ((HB.out.cell (zbl w _ hw175_0)).trans hw175_0), ((HB.out.cell (zbl w _ hw175_1)).trans hw175_1), ((HB.out.cell (zbl w _ hw175_2)).trans hw175_2)⟩ (fun hHeld => ?_); refine with_tabW templeref1_seq.tab10 templeref1_seq.bits10 (fun HT_ HW_ => ?_)
                   generalize wr.drew = w48 at BK167 BK169 HB hx173_0 hx173_1 hx173_2 hx174_0 hx174_1 hx174_2 hx175_0 hx175_1 hx175_2 hHeld ⊢
                   refine pure_ (i := 0) (N := some 25) (v := ?_) (a' := ?_) #[true, false, false, false, false, false, false, false, false, false, false, false, false, false, false, false, false, false, false, false, false, false, false, false, false] rfl rfl (any_of HT_.out (by kernel_rfl)) (fun _ _ _ h => h) (Or.inl ⟨by rfl, ?_⟩) ?_ ?_
                   rotate_left
                   ·intro w'
                    go_simp; with_reducible rfl
                   rotate_left
                   ·simp only [Act.put, s1, s2, s3, i64_w, i32_w]
                    rfl
                   refine pure_ (i := 1) (N := some 26) (v := ?_) (a' := ?_) #[true, true, false, false, false, false, false, false, false, false, false, false, false, false, false, false, false, false, false, false, false, false, false, false, false] rfl rfl (any_of HT_.out (by kernel_rfl)) (fun _ _ _ h => h) (Or.inl ⟨by rfl, ?_⟩) ?_ ?_
                   rotate_left
                   ·intro w'
                    go_simp; with_reducible rfl
                   rotate_left
                   ·simp only [Act.put, s1, s2, s3, i64_w, i32_w]
                    rfl
                   refine pure_ (i := 2) (N := some 27) (v := ?_) (a' := ?_) #[true, true, true, false, false, false, false, false, false, false, false, false, false, false, false, false, false, false, false, false, false, false, false, false, false] rfl rfl (any_of HT_.out (by kernel_rfl)) (fun _ _ _ h => h) (Or.inl ⟨by rfl, ?_⟩) ?_ ?_
                   rotate_left
                   ·intro w'
                    go_simp; with_reducible rfl
                   rotate_left
                   ·simp only [Act.put, s1, s2, s3, i64_w, i32_w]
                    rfl
                   refine pure_ (i := 3) (N := some 28) (v := ?_) (a' := ?_) #[true, true, true, true, false, false, false, false, false, false, false, false, false, false, false, false, false, false, false, false, false, false, false, false, false] rfl rfl (any_of HT_.out (by kernel_rfl)) (fun _ _ _ h => h) (Or.inl ⟨by rfl, ?_⟩) ?_ ?_
                   rotate_left
                   ·intro w'
                    go_simp; with_reducible rfl
                   rotate_left
                   ·simp only [Act.put, s1, s2, s3, i64_w, i32_w]
                    rfl
                   refine pure_ (i := 4) (N := some 29) (v := ?_) (a' := ?_) #[true, true, true, true, true, false, false, false, false, false, false, false, false, false, false, false, false, false, false, false, false, false, false, false, false] rfl rfl (any_of HT_.out (by kernel_rfl)) (fun _ _ _ h => h) (Or.inl ⟨by rfl, ?_⟩) ?_ ?_
                   rotate_left
                   ·intro w'
                    go_simp; with_reducible rfl
                   rotate_left
                   ·simp only [Act.put, s1, s2, s3, i64_w, i32_w]
                    rfl
                   refine pure_ (i := 5) (N := some 30) (v := ?_) (a' := ?_) #[true, true, true, true, true, true, false, false, false, false, false, false, false, false, false, false, false, false, false, false, false, false, false, false, false] rfl rfl (any_of HT_.out (by kernel_rfl)) (fun _ _ _ h => h) (Or.inl ⟨by rfl, ?_⟩) ?_ ?_
                   rotate_left
                   ·intro w'
                    go_simp; with_reducible rfl
                   rotate_left
                   ·simp only [Act.put, s1, s2, s3, i64_w, i32_w]
                    rfl
                   refine pure_ (i := 6) (N := some 31) (v := ?_) (a' := ?_) #[true, true, true, true, true, true, true, false, false, false, false, false, false, false, false, false, false, false, false, false, false, false, false, false, false] rfl rfl (any_of HT_.out (by kernel_rfl)) (fun _ _ _ h => h) (Or.inl ⟨by rfl, ?_⟩) ?_ ?_
                   rotate_left
                   ·intro w'
                    go_simp; with_reducible rfl
                   rotate_left
                   ·simp only [Act.put, s1, s2, s3, i64_w, i32_w]
                    rfl
                   refine pure_ (i := 7) (N := some 32) (v := ?_) (a' := ?_) #[true, true, true, true, true, true, true, true, false, false, false, false, false, false, false, false, false, false, false, false, false, false, false, false, false] rfl rfl (any_of HT_.out (by kernel_rfl)) (fun _ _ _ h => h) (Or.inl ⟨by rfl, ?_⟩) ?_ ?_
                   rotate_left
                   ·intro w'
                    go_simp; with_reducible rfl
                   rotate_left
                   ·simp only [Act.put, s1, s2, s3, i64_w, i32_w]
                    rfl
                   refine pure_ (i := 8) (N := some 33) (v := ?_) (a' := ?_) #[true, true, true, true, true, true, true, true, true, false, false, false, false, false, false, false, false, false, false, false, false, false, false, false, false] rfl rfl (any_of HT_.out (by kernel_rfl)) (fun _ _ _ h => h) (Or.inl ⟨by rfl, ?_⟩) ?_ ?_
                   rotate_left
                   ·intro w'
                    go_simp; with_reducible rfl
                   rotate_left
                   ·simp only [Act.put, s1, s2, s3, i64_w, i32_w]
                    rfl
                   refine take_ (i := 9) (N := some 34) (v := ?_) (a' := ?_) #[true, true, true, true, true, true, true, true, true, true, false, false, false, false, false, false, false, false, false, false, false, false, false, false, false] rfl rfl (take_ofW HT_.out HW_.out (by kernel_rfl)) (fun _ _ _ h => h) (Or.inl ⟨by rfl, ?_⟩) hHeld ?_ ?_
                   rotate_left
                   ·rintro w' ⟨s0, s1, s2, s3, s4, s5, s6, s7, s8⟩; go_simp; with_reducible rfl
                   rotate_left
                   ·simp only [Act.put, s1, s2, s3, i64_w, i32_w]
                    rfl
                   refine pure_ (i := 10) (N := some 35) (v := ?_) (a' := ?_) #[true, true, true, true, true, true, true, true, true, true, true, false, false, false, false, false, false, false, false, false, false, false, false, false, false] rfl rfl (any_of HT_.out (by kernel_rfl)) (fun _ _ _ h => h) (Or.inl ⟨by rfl, ?_⟩) ?_ ?_
                   rotate_left
                   ·intro w'
                    go_simp; with_reducible rfl
                   rotate_left
                   ·simp only [Act.put, s1, s2, s3, i64_w, i32_w]
                    rfl
                   refine pure_ (i := 11) (N := some 36) (v := ?_) (a' := ?_) #[true, true, true, true, true, true, true, true, true, true, true, true, false, false, false, false, false, false, false, false, false, false, false, false, false] rfl rfl (any_of HT_.out (by kernel_rfl)) (fun _ _ _ h => h) (Or.inl ⟨by rfl, ?_⟩) ?_ ?_
                   rotate_left
                   ·intro w'
                    go_simp; with_reducible rfl
                   rotate_left
                   ·simp only [Act.put, s1, s2, s3, i64_w, i32_w]
                    rfl
                   refine pure_ (i := 12) (N := some 37) (v := ?_) (a' := ?_) #[true, true, true, true, true, true, true, true, true, true, true, true, true, false, false, false, false, false, false, false, false, false, false, false, false] rfl rfl (any_of HT_.out (by kernel_rfl)) (fun _ _ _ h => h) (Or.inl ⟨by rfl, ?_⟩) ?_ ?_
                   rotate_left
                   ·intro w'
                    go_simp; with_reducible rfl
                   rotate_left
                   ·simp only [Act.put, s1, s2, s3, i64_w, i32_w]
                    rfl
                   refine pure_ (i := 13) (N := some 38) (v := ?_) (a' := ?_) #[true, true, true, true, true, true, true, true, true, true, true, true, true, true, false, false, false, false, false, false, false, false, false, false, false] rfl rfl (any_of HT_.out (by kernel_rfl)) (fun _ _ _ h => h) (Or.inl ⟨by rfl, ?_⟩) ?_ ?_
                   rotate_left
                   ·intro w'
                    go_simp; with_reducible rfl
                   rotate_left
                   ·simp only [Act.put, s1, s2, s3, i64_w, i32_w]
                    rfl
                   refine pure_ (i := 14) (N := some 39) (v := ?_) (a' := ?_) #[true, true, true, true, true, true, true, true, true, true, true, true, true, true, true, false, false, false, false, false, false, false, false, false, false] rfl rfl (any_of HT_.out (by kernel_rfl)) (fun _ _ _ h => h) (Or.inl ⟨by rfl, ?_⟩) ?_ ?_
                   rotate_left
                   ·intro w'
                    go_simp; with_reducible rfl
                   rotate_left
                   ·simp only [Act.put, s1, s2, s3, i64_w, i32_w]
                    rfl
                   refine pure_ (i := 15) (N := some 40) (v := ?_) (a' := ?_) #[true, true, true, true, true, true, true, true, true, true, true, true, true, true, true, true, false, false, false, false, false, false, false, false, false] rfl rfl (any_of HT_.out (by kernel_rfl)) (fun _ _ _ h => h) (Or.inl ⟨by rfl, ?_⟩) ?_ ?_
                   rotate_left
                   ·intro w'
                    go_simp; with_reducible rfl
                   rotate_left
                   ·simp only [Act.put, s1, s2, s3, i64_w, i32_w]
                    rfl
                   refine pure_ (i := 16) (N := some 41) (v := ?_) (a' := ?_) #[true, true, true, true, true, true, true, true, true, true, true, true, true, true, true, true, true, false, false, false, false, false, false, false, false] rfl rfl (any_of HT_.out (by kernel_rfl)) (fun _ _ _ h => h) (Or.inl ⟨by rfl, ?_⟩) ?_ ?_
                   rotate_left
                   ·intro w'
                    go_simp; with_reducible rfl
                   rotate_left
                   ·simp only [Act.put, s1, s2, s3, i64_w, i32_w]
                    rfl
                   refine pure_ (i := 18) (N := some 43) (v := ?_) (a' := ?_) #[true, true, true, true, true, true, true, true, true, true, true, true, true, true, true, true, true, false, true, false, false, false, false, false, false] rfl rfl (any_of HT_.out (by kernel_rfl)) (fun _ _ _ h => h) (Or.inl ⟨by rfl, ?_⟩) ?_ ?_
                   rotate_left
                   ·intro w'
                    go_simp; with_reducible rfl
                   rotate_left
                   ·simp only [Act.put, s1, s2, s3, i64_w, i32_w]
                    rfl
                   refine pure_ (i := 19) (N := some 44) (v := ?_) (a' := ?_) #[true, true, true, true, true, true, true, true, true, true, true, true, true, true, true, true, true, false, true, true, false, false, false, false, false] rfl rfl (any_of HT_.out (by kernel_rfl)) (fun _ _ _ h => h) (Or.inl ⟨by rfl, ?_⟩) ?_ ?_
                   rotate_left
                   ·intro w'
                    go_simp; with_reducible rfl
                   rotate_left
                   ·simp only [Act.put, s1, s2, s3, i64_w, i32_w]
                    rfl
                   refine pure_ (i := 20) (N := some 45) (v := ?_) (a' := ?_) #[true, true, true, true, true, true, true, true, true, true, true, true, true, true, true, true, true, false, true, true, true, false, false, false, false] rfl rfl (any_of HT_.out (by kernel_rfl)) (fun _ _ _ h => h) (Or.inl ⟨by rfl, ?_⟩) ?_ ?_
                   rotate_left
                   ·intro w'
                    go_simp; with_reducible rfl
                   rotate_left
                   ·simp only [Act.put, s1, s2, s3, i64_w, i32_w]
                    rfl
                   refine pure_ (i := 21) (N := some 46) (v := ?_) (a' := ?_) #[true, true, true, true, true, true, true, true, true, true, true, true, true, true, true, true, true, false, true, true, true, true, false, false, false] rfl rfl (any_of HT_.out (by kernel_rfl)) (fun _ _ _ h => h) (Or.inl ⟨by rfl, ?_⟩) ?_ ?_
                   rotate_left
                   ·intro w'
                    go_simp; with_reducible rfl
                   rotate_left
                   ·simp only [Act.put, s1, s2, s3, i64_w, i32_w]
                    rfl
                   refine take_ (i := 17) (N := some 42) (v := ?_) (a' := ?_) #[true, true, true, true, true, true, true, true, true, true, true, true, true, true, true, true, true, true, true, true, true, true, false, false, false] rfl rfl (take_ofW HT_.out HW_.out (by kernel_rfl)) (fun _ _ _ h => h) (Or.inl ⟨by rfl, ?_⟩) hHeld ?_ ?_
                   rotate_left
                   ·rintro w' ⟨s0, s1, s2, s3, s4, s5, s6, s7, s8⟩; go_simp; with_reducible rfl
                   rotate_left
                   ·simp only [Act.put, s1, s2, s3, i64_w, i32_w]
                    rfl
                   refine take_ (i := 22) (N := some 47) (v := ?_) (a' := ?_) #[true, true, true, true, true, true, true, true, true, true, true, true, true, true, true, true, true, true, true, true, true, true, true, false, false] rfl rfl (take_ofW HT_.out HW_.out (by kernel_rfl)) (fun _ _ _ h => h) (Or.inl ⟨by rfl, ?_⟩) hHeld ?_ ?_
                   rotate_left
                   ·rintro w' ⟨s0, s1, s2, s3, s4, s5, s6, s7, s8⟩; go_simp; with_reducible rfl
                   rotate_left
                   ·simp only [Act.put, s1, s2, s3, i64_w, i32_w]
                    rfl
                   refine pure_ (i := 23) (N := some 48) (v := ?_) (a' := ?_) #[true, true, true, true, true, true, true, true, true, true, true, true, true, true, true, true, true, true, true, true, true, true, true, true, false] rfl rfl (any_of HT_.out (by kernel_rfl)) (fun _ _ _ h => h) (Or.inl ⟨by rfl, ?_⟩) ?_ ?_
                   rotate_left
                   ·intro w'
                    go_simp; with_reducible rfl
                   rotate_left
                   ·simp only [Act.put, s1, s2, s3, i64_w, i32_w]
                    rfl
                   refine pure_ (i := 24) (N := some 49) (v := ?_) (a' := ?_) #[true, true, true, true, true, true, true, true, true, true, true, true, true, true, true, true, true, true, true, true, true, true, true, true, true] rfl rfl (any_of HT_.out (by kernel_rfl)) (fun _ _ _ h => h) (Or.inl ⟨by rfl, ?_⟩) ?_ ?_
                   rotate_left
                   ·intro w'
                    go_simp; with_reducible rfl
                   rotate_left
                   ·simp only [Act.put, s1, s2, s3, i64_w, i32_w]
                    rfl
                   refine done_ (done_of HT_.out (by kernel_rfl)) ?_
                   try go_wp2
                   go_roundg k3
                   case measure => have := HK1.out; have := HJ6.out; have := HK3.out; omega
                   case rel => exact ⟨(x5_3 ++ (⟨#[34]⟩ : ByteArray)), (x6_3), (by first | rfl | (simp; done) | (simp [i64_w]; done) | (simp [*]; done) | (simp [*, i64_w]; done) | (simp [*]; unfold wrap64; omega)), (by first | rfl | (simp; done) | (simp [i64_w]; done) | (simp [*]; done) | (simp [*, i64_w]; done) | (simp [*]; unfold wrap64; omega)), H', ⟨by have := HK1.out; have := HJ6.out; have := HK3.out; omega⟩, ⟨by (with_reducible repeat (first | refine blk_drewN ?_ _ | refine blk_drew ?_ | refine blk_alloc ?_ _)); exact BK167.out⟩, ⟨by repeat (first | (with_reducible first | exact HB.out | apply zba | apply zbd | apply zbe | refine below_set ?_ GE167.out | refine below_set ?_ GE169.out) | exact HB.out)⟩⟩
                  ·rw [if_neg c47] at H
                   exact absurd H (by simp)
                ·rw [if_neg c41] at H; have c41b0 : decide (((rd_T38 l1 x6_3).f0) < 0) = false := decide_eq_false c41; clear c41
                 by_cases c49 : x5_3.size + 1 ≤ 9223372036854775807
                 ·rw [if_pos c49] at H
                  have c49b0 := eq_true c49
                  have c49b1 : decide (x5_3.size + 1 ≤ 9223372036854775807) = true := decide_eq_true c49
                  try have c49b2 : (9223372036854775807 < x5_3.size + 1) = False := eq_false (Nat.not_lt.2 c49)
                  have H' := zam H; clear H
                  try go_wp2
                  have n0_ := zam (blk_drew BK167.out); have n1_ := zam (blk_drew BK169.out); have n2_ := zam (below_drew1 HB.out); clear BK167; clear BK169; clear HB; have BK167 := n0_; have BK169 := n1_; have HB := n2_; clear n0_ n1_ n2_
                  have p173 : 0 ≤ (x6_3 : Int) := of_decide_eq_true (by first | (with_reducible assumption) | assumption)
                  have q173 : x6_3 < (l1.length : Int) := of_decide_eq_true (by first | (with_reducible assumption) | assumption)
                  obtain ⟨ad173, e173, hx173_0, hx173_1, hx173_2⟩ := at_T38 HR1.out x6_3 p173 q173; have hw173_2 := hx173_2; have hw173_1 := hx173_1; have hw173_0 := hx173_0; obtain rfl : ad168 = ad173 := (by injection e173)
                  replace hx173_0 := (HB.out.cell (zbl w _ hx173_0)).trans hx173_0
                  replace hx173_1 := (HB.out.cell (zbl w _ hx173_1)).trans hx173_1
                  replace hx173_2 := (HB.out.cell (zbl w _ hx173_2)).trans hx173_2
                  replace p173 := eq_true p173; replace q173 := eq_true q173
                  refine start_ (n := 25) (S := fun w' => w'.cell? (ad168.add ((x6_3).toNat * 3)) = some (.int .i64 ((rd_T38 l1 x6_3).f0)) ∧ w'.cell? ⟨(ad168.add ((x6_3).toNat * 3)).block, (ad168.add ((x6_3).toNat * 3)).off + 1, none⟩ = some (.int .i64 ((rd_T38 l1 x6_3).f1)) ∧ w'.cell? ⟨(ad168.add ((x6_3).toNat * 3)).block, (ad168.add ((x6_3).toNat * 3)).off + 2, none⟩ = some (.int .i64 ((rd_T38 l1 x6_3).f2))) (ds := []) #[false, false, false, false, false, false, false, false, false, false, false, false, false, false, false, false, false, false, false, false, false, false, false, false, false] (by kernel_rfl) rfl rfl ⟨((HB.out.cell (zbl w _ hw173_0)).trans hw173_0), ((HB.out.cell (zbl w _ hw173_1)).trans hw173_1), ((HB.out.cell (zbl w _ hw173_2)).trans hw173_2)⟩ (fun hHeld => ?_); refine with_tabW templeref1_seq.tab10 templeref1_seq.bits10 (fun HT_ HW_ => ?_)
                  generalize wr.drew = w50 at BK167 BK169 HB hx173_0 hx173_1 hx173_2 hHeld ⊢
                  refine pure_ (i := 0) (N := some 25) (v := ?_) (a' := ?_) #[true, false, false, false, false, false, false, false, false, false, false, false, false, false, false, false, false, false, false, false, false, false, false, false, false] rfl rfl (any_of HT_.out (by kernel_rfl)) (fun _ _ _ h => h) (Or.inl ⟨by rfl, ?_⟩) ?_ ?_
                  rotate_left
                  ·intro w'
                   go_simp; with_reducible rfl
                  rotate_left
                  ·simp only [Act.put, s1, s2, s3, i64_w, i32_w]
                   rfl
                  refine pure_ (i := 1) (N := some 26) (v := ?_) (a' := ?_) #[true, true, false, false, false, false, false, false, false, false, false, false, false, false, false, false, false, false, false, false, false, false, false, false, false] rfl rfl (any_of HT_.out (by kernel_rfl)) (fun _ _ _ h => h) (Or.inl ⟨by rfl, ?_⟩) ?_ ?_
                  rotate_left
                  ·intro w'
                   go_simp; with_reducible rfl
                  rotate_left
                  ·simp only [Act.put, s1, s2, s3, i64_w, i32_w]
                   rfl
                  refine pure_ (i := 2) (N := some 27) (v := ?_) (a' := ?_) #[true, true, true, false, false, false, false, false, false, false, false, false, false, false, false, false, false, false, false, false, false, false, false, false, false] rfl rfl (any_of HT_.out (by kernel_rfl)) (fun _ _ _ h => h) (Or.inl ⟨by rfl, ?_⟩) ?_ ?_
                  rotate_left
                  ·intro w'
                   go_simp; with_reducible rfl
                  rotate_left
                  ·simp only [Act.put, s1, s2, s3, i64_w, i32_w]
                   rfl
                  refine pure_ (i := 3) (N := some 28) (v := ?_) (a' := ?_) #[true, true, true, true, false, false, false, false, false, false, false, false, false, false, false, false, false, false, false, false, false, false, false, false, false] rfl rfl (any_of HT_.out (by kernel_rfl)) (fun _ _ _ h => h) (Or.inl ⟨by rfl, ?_⟩) ?_ ?_
                  rotate_left
                  ·intro w'
                   go_simp; with_reducible rfl
                  rotate_left
                  ·simp only [Act.put, s1, s2, s3, i64_w, i32_w]
                   rfl
                  refine pure_ (i := 4) (N := some 29) (v := ?_) (a' := ?_) #[true, true, true, true, true, false, false, false, false, false, false, false, false, false, false, false, false, false, false, false, false, false, false, false, false] rfl rfl (any_of HT_.out (by kernel_rfl)) (fun _ _ _ h => h) (Or.inl ⟨by rfl, ?_⟩) ?_ ?_
                  rotate_left
                  ·intro w'
                   go_simp; with_reducible rfl
                  rotate_left
                  ·simp only [Act.put, s1, s2, s3, i64_w, i32_w]
                   rfl
                  refine pure_ (i := 5) (N := some 30) (v := ?_) (a' := ?_) #[true, true, true, true, true, true, false, false, false, false, false, false, false, false, false, false, false, false, false, false, false, false, false, false, false] rfl rfl (any_of HT_.out (by kernel_rfl)) (fun _ _ _ h => h) (Or.inl ⟨by rfl, ?_⟩) ?_ ?_
                  rotate_left
                  ·intro w'
                   go_simp; with_reducible rfl
                  rotate_left
                  ·simp only [Act.put, s1, s2, s3, i64_w, i32_w]
                   rfl
                  refine pure_ (i := 6) (N := some 31) (v := ?_) (a' := ?_) #[true, true, true, true, true, true, true, false, false, false, false, false, false, false, false, false, false, false, false, false, false, false, false, false, false] rfl rfl (any_of HT_.out (by kernel_rfl)) (fun _ _ _ h => h) (Or.inl ⟨by rfl, ?_⟩) ?_ ?_
                  rotate_left
                  ·intro w'
                   go_simp; with_reducible rfl
                  rotate_left
                  ·simp only [Act.put, s1, s2, s3, i64_w, i32_w]
                   rfl
                  refine pure_ (i := 7) (N := some 32) (v := ?_) (a' := ?_) #[true, true, true, true, true, true, true, true, false, false, false, false, false, false, false, false, false, false, false, false, false, false, false, false, false] rfl rfl (any_of HT_.out (by kernel_rfl)) (fun _ _ _ h => h) (Or.inl ⟨by rfl, ?_⟩) ?_ ?_
                  rotate_left
                  ·intro w'
                   go_simp; with_reducible rfl
                  rotate_left
                  ·simp only [Act.put, s1, s2, s3, i64_w, i32_w]
                   rfl
                  refine pure_ (i := 8) (N := some 33) (v := ?_) (a' := ?_) #[true, true, true, true, true, true, true, true, true, false, false, false, false, false, false, false, false, false, false, false, false, false, false, false, false] rfl rfl (any_of HT_.out (by kernel_rfl)) (fun _ _ _ h => h) (Or.inl ⟨by rfl, ?_⟩) ?_ ?_
                  rotate_left
                  ·intro w'
                   go_simp; with_reducible rfl
                  rotate_left
                  ·simp only [Act.put, s1, s2, s3, i64_w, i32_w]
                   rfl
                  refine take_ (i := 9) (N := some 34) (v := ?_) (a' := ?_) #[true, true, true, true, true, true, true, true, true, true, false, false, false, false, false, false, false, false, false, false, false, false, false, false, false] rfl rfl (take_ofW HT_.out HW_.out (by kernel_rfl)) (fun _ _ _ h => h) (Or.inl ⟨by rfl, ?_⟩) hHeld ?_ ?_
                  rotate_left
                  ·rintro w' ⟨s0, s1, s2⟩; go_simp; with_reducible rfl
                  rotate_left
                  ·simp only [Act.put, s1, s2, s3, i64_w, i32_w]
                   rfl
                  refine pure_ (i := 10) (N := some 35) (v := ?_) (a' := ?_) #[true, true, true, true, true, true, true, true, true, true, true, false, false, false, false, false, false, false, false, false, false, false, false, false, false] rfl rfl (any_of HT_.out (by kernel_rfl)) (fun _ _ _ h => h) (Or.inl ⟨by rfl, ?_⟩) ?_ ?_
                  rotate_left
                  ·intro w'
                   go_simp; with_reducible rfl
                  rotate_left
                  ·simp only [Act.put, s1, s2, s3, i64_w, i32_w]
                   rfl
                  refine pure_ (i := 11) (N := some 36) (v := ?_) (a' := ?_) #[true, true, true, true, true, true, true, true, true, true, true, true, false, false, false, false, false, false, false, false, false, false, false, false, false] rfl rfl (any_of HT_.out (by kernel_rfl)) (fun _ _ _ h => h) (Or.inl ⟨by rfl, ?_⟩) ?_ ?_
                  rotate_left
                  ·intro w'
                   go_simp; with_reducible rfl
                  rotate_left
                  ·simp only [Act.put, s1, s2, s3, i64_w, i32_w]
                   rfl
                  refine pure_ (i := 12) (N := some 37) (v := ?_) (a' := ?_) #[true, true, true, true, true, true, true, true, true, true, true, true, true, false, false, false, false, false, false, false, false, false, false, false, false] rfl rfl (any_of HT_.out (by kernel_rfl)) (fun _ _ _ h => h) (Or.inl ⟨by rfl, ?_⟩) ?_ ?_
                  rotate_left
                  ·intro w'
                   go_simp; with_reducible rfl
                  rotate_left
                  ·simp only [Act.put, s1, s2, s3, i64_w, i32_w]
                   rfl
                  refine pure_ (i := 13) (N := some 38) (v := undef) (a' := ?_) #[true, true, true, true, true, true, true, true, true, true, true, true, true, true, false, false, false, false, false, false, false, false, false, false, false] rfl rfl (any_of HT_.out (by kernel_rfl)) (fun _ _ _ h => h) (Or.inr ⟨by rfl, rfl⟩) ?_ ?_
                  rotate_left
                  ·simp only [Act.put, s1, s2, s3, i64_w, i32_w]
                   rfl
                  refine pure_ (i := 14) (N := some 39) (v := undef) (a' := ?_) #[true, true, true, true, true, true, true, true, true, true, true, true, true, true, true, false, false, false, false, false, false, false, false, false, false] rfl rfl (any_of HT_.out (by kernel_rfl)) (fun _ _ _ h => h) (Or.inr ⟨by rfl, rfl⟩) ?_ ?_
                  rotate_left
                  ·simp only [Act.put, s1, s2, s3, i64_w, i32_w]
                   rfl
                  refine pure_ (i := 15) (N := some 40) (v := undef) (a' := ?_) #[true, true, true, true, true, true, true, true, true, true, true, true, true, true, true, true, false, false, false, false, false, false, false, false, false] rfl rfl (any_of HT_.out (by kernel_rfl)) (fun _ _ _ h => h) (Or.inr ⟨by rfl, rfl⟩) ?_ ?_
                  rotate_left
                  ·simp only [Act.put, s1, s2, s3, i64_w, i32_w]
                   rfl
                  refine pure_ (i := 16) (N := some 41) (v := undef) (a' := ?_) #[true, true, true, true, true, true, true, true, true, true, true, true, true, true, true, true, true, false, false, false, false, false, false, false, false] rfl rfl (any_of HT_.out (by kernel_rfl)) (fun _ _ _ h => h) (Or.inr ⟨by rfl, rfl⟩) ?_ ?_
                  rotate_left
                  ·simp only [Act.put, s1, s2, s3, i64_w, i32_w]
                   rfl
                  refine pure_ (i := 17) (N := some 42) (v := undef) (a' := ?_) #[true, true, true, true, true, true, true, true, true, true, true, true, true, true, true, true, true, true, false, false, false, false, false, false, false] rfl rfl (any_of HT_.out (by kernel_rfl)) (fun _ _ _ h => h) (Or.inr ⟨by rfl, rfl⟩) ?_ ?_
                  rotate_left
                  ·simp only [Act.put, s1, s2, s3, i64_w, i32_w]
                   rfl
                  refine pure_ (i := 18) (N := some 43) (v := undef) (a' := ?_) #[true, true, true, true, true, true, true, true, true, true, true, true, true, true, true, true, true, true, true, false, false, false, false, false, false] rfl rfl (any_of HT_.out (by kernel_rfl)) (fun _ _ _ h => h) (Or.inr ⟨by rfl, rfl⟩) ?_ ?_
                  rotate_left
                  ·simp only [Act.put, s1, s2, s3, i64_w, i32_w]
                   rfl
                  refine pure_ (i := 19) (N := some 44) (v := undef) (a' := ?_) #[true, true, true, true, true, true, true, true, true, true, true, true, true, true, true, true, true, true, true, true, false, false, false, false, false] rfl rfl (any_of HT_.out (by kernel_rfl)) (fun _ _ _ h => h) (Or.inr ⟨by rfl, rfl⟩) ?_ ?_
                  rotate_left
                  ·simp only [Act.put, s1, s2, s3, i64_w, i32_w]
                   rfl
                  refine pure_ (i := 20) (N := some 45) (v := undef) (a' := ?_) #[true, true, true, true, true, true, true, true, true, true, true, true, true, true, true, true, true, true, true, true, true, false, false, false, false] rfl rfl (any_of HT_.out (by kernel_rfl)) (fun _ _ _ h => h) (Or.inr ⟨by rfl, rfl⟩) ?_ ?_
                  rotate_left
                  ·simp only [Act.put, s1, s2, s3, i64_w, i32_w]
                   rfl
                  refine pure_ (i := 21) (N := some 46) (v := undef) (a' := ?_) #[true, true, true, true, true, true, true, true, true, true, true, true, true, true, true, true, true, true, true, true, true, true, false, false, false] rfl rfl (any_of HT_.out (by kernel_rfl)) (fun _ _ _ h => h) (Or.inr ⟨by rfl, rfl⟩) ?_ ?_
                  rotate_left
                  ·simp only [Act.put, s1, s2, s3, i64_w, i32_w]
                   rfl
                  refine pure_ (i := 22) (N := some 47) (v := undef) (a' := ?_) #[true, true, true, true, true, true, true, true, true, true, true, true, true, true, true, true, true, true, true, true, true, true, true, false, false] rfl rfl (any_of HT_.out (by kernel_rfl)) (fun _ _ _ h => h) (Or.inr ⟨by rfl, rfl⟩) ?_ ?_
                  rotate_left
                  ·simp only [Act.put, s1, s2, s3, i64_w, i32_w]
                   rfl
                  refine pure_ (i := 23) (N := some 48) (v := undef) (a' := ?_) #[true, true, true, true, true, true, true, true, true, true, true, true, true, true, true, true, true, true, true, true, true, true, true, true, false] rfl rfl (any_of HT_.out (by kernel_rfl)) (fun _ _ _ h => h) (Or.inr ⟨by rfl, rfl⟩) ?_ ?_
                  rotate_left
                  ·simp only [Act.put, s1, s2, s3, i64_w, i32_w]
                   rfl
                  refine pure_ (i := 24) (N := some 49) (v := ?_) (a' := ?_) #[true, true, true, true, true, true, true, true, true, true, true, true, true, true, true, true, true, true, true, true, true, true, true, true, true] rfl rfl (any_of HT_.out (by kernel_rfl)) (fun _ _ _ h => h) (Or.inl ⟨by rfl, ?_⟩) ?_ ?_
                  rotate_left
                  ·intro w'
                   go_simp; with_reducible rfl
                  rotate_left
                  ·simp only [Act.put, s1, s2, s3, i64_w, i32_w]
                   rfl
                  refine done_ (done_of HT_.out (by kernel_rfl)) ?_
                  try go_wp2
                  go_roundg k3
                  case measure => have := HK1.out; have := HJ6.out; have := HK3.out; omega
                  case rel => exact ⟨(x5_3 ++ (⟨#[34]⟩ : ByteArray)), (x6_3), (by first | rfl | (simp; done) | (simp [i64_w]; done) | (simp [*]; done) | (simp [*, i64_w]; done) | (simp [*]; unfold wrap64; omega)), (by first | rfl | (simp; done) | (simp [i64_w]; done) | (simp [*]; done) | (simp [*, i64_w]; done) | (simp [*]; unfold wrap64; omega)), H', ⟨by have := HK1.out; have := HJ6.out; have := HK3.out; omega⟩, ⟨by (with_reducible repeat (first | refine blk_drewN ?_ _ | refine blk_drew ?_ | refine blk_alloc ?_ _)); exact BK167.out⟩, ⟨by repeat (first | (with_reducible first | exact HB.out | apply zba | apply zbd | apply zbe | refine below_set ?_ GE167.out | refine below_set ?_ GE169.out) | exact HB.out)⟩⟩
                 ·rw [if_neg c49] at H
                  exact absurd H (by simp)
               ·rw [if_neg c40] at H
                exact absurd H (by simp)
              ·rw [if_neg c39] at H; have c39b0 : decide (x6_3 < (l1.length : Int)) = false := decide_eq_false c39; clear c39
               by_cases c51 : x5_3.size + 1 ≤ 9223372036854775807
               ·rw [if_pos c51] at H
                have c51b0 := eq_true c51
                have c51b1 : decide (x5_3.size + 1 ≤ 9223372036854775807) = true := decide_eq_true c51
                try have c51b2 : (9223372036854775807 < x5_3.size + 1) = False := eq_false (Nat.not_lt.2 c51)
                have H' := zam H; clear H
                try go_wp2
                have n0_ := zam (blk_drew BK167.out); have n1_ := zam (blk_drew BK169.out); have n2_ := zam (below_drew1 HB.out); clear BK167; clear BK169; clear HB; have BK167 := n0_; have BK169 := n1_; have HB := n2_; clear n0_ n1_ n2_
                refine start_ (n := 25) (S := fun w' => True) (ds := []) #[false, false, false, false, false, false, false, false, false, false, false, false, false, false, false, false, false, false, false, false, false, false, false, false, false] (by kernel_rfl) rfl rfl trivial (fun hHeld => ?_); refine with_tabW templeref1_seq.tab10 templeref1_seq.bits10 (fun HT_ HW_ => ?_)
                generalize wr.drew = w52 at BK167 BK169 HB hHeld ⊢
                refine pure_ (i := 0) (N := some 25) (v := ?_) (a' := ?_) #[true, false, false, false, false, false, false, false, false, false, false, false, false, false, false, false, false, false, false, false, false, false, false, false, false] rfl rfl (any_of HT_.out (by kernel_rfl)) (fun _ _ _ h => h) (Or.inl ⟨by rfl, ?_⟩) ?_ ?_
                rotate_left
                ·intro w'
                 go_simp; with_reducible rfl
                rotate_left
                ·simp only [Act.put, s1, s2, s3, i64_w, i32_w]
                 rfl
                refine pure_ (i := 1) (N := some 26) (v := ?_) (a' := ?_) #[true, true, false, false, false, false, false, false, false, false, false, false, false, false, false, false, false, false, false, false, false, false, false, false, false] rfl rfl (any_of HT_.out (by kernel_rfl)) (fun _ _ _ h => h) (Or.inl ⟨by rfl, ?_⟩) ?_ ?_
                rotate_left
                ·intro w'
                 go_simp; with_reducible rfl
                rotate_left
                ·simp only [Act.put, s1, s2, s3, i64_w, i32_w]
                 rfl
                refine pure_ (i := 2) (N := some 27) (v := ?_) (a' := ?_) #[true, true, true, false, false, false, false, false, false, false, false, false, false, false, false, false, false, false, false, false, false, false, false, false, false] rfl rfl (any_of HT_.out (by kernel_rfl)) (fun _ _ _ h => h) (Or.inl ⟨by rfl, ?_⟩) ?_ ?_
                rotate_left
                ·intro w'
                 go_simp; with_reducible rfl
                rotate_left
                ·simp only [Act.put, s1, s2, s3, i64_w, i32_w]
                 rfl
                refine pure_ (i := 3) (N := some 28) (v := ?_) (a' := ?_) #[true, true, true, true, false, false, false, false, false, false, false, false, false, false, false, false, false, false, false, false, false, false, false, false, false] rfl rfl (any_of HT_.out (by kernel_rfl)) (fun _ _ _ h => h) (Or.inl ⟨by rfl, ?_⟩) ?_ ?_
                rotate_left
                ·intro w'
                 go_simp; with_reducible rfl
                rotate_left
                ·simp only [Act.put, s1, s2, s3, i64_w, i32_w]
                 rfl
                refine pure_ (i := 4) (N := some 29) (v := ?_) (a' := ?_) #[true, true, true, true, true, false, false, false, false, false, false, false, false, false, false, false, false, false, false, false, false, false, false, false, false] rfl rfl (any_of HT_.out (by kernel_rfl)) (fun _ _ _ h => h) (Or.inl ⟨by rfl, ?_⟩) ?_ ?_
                rotate_left
                ·intro w'
                 go_simp; with_reducible rfl
                rotate_left
                ·simp only [Act.put, s1, s2, s3, i64_w, i32_w]
                 rfl
                refine pure_ (i := 5) (N := some 30) (v := undef) (a' := ?_) #[true, true, true, true, true, true, false, false, false, false, false, false, false, false, false, false, false, false, false, false, false, false, false, false, false] rfl rfl (any_of HT_.out (by kernel_rfl)) (fun _ _ _ h => h) (Or.inr ⟨by rfl, rfl⟩) ?_ ?_
                rotate_left
                ·simp only [Act.put, s1, s2, s3, i64_w, i32_w]
                 rfl
                refine pure_ (i := 6) (N := some 31) (v := undef) (a' := ?_) #[true, true, true, true, true, true, true, false, false, false, false, false, false, false, false, false, false, false, false, false, false, false, false, false, false] rfl rfl (any_of HT_.out (by kernel_rfl)) (fun _ _ _ h => h) (Or.inr ⟨by rfl, rfl⟩) ?_ ?_
                rotate_left
                ·simp only [Act.put, s1, s2, s3, i64_w, i32_w]
                 rfl
                refine pure_ (i := 7) (N := some 32) (v := undef) (a' := ?_) #[true, true, true, true, true, true, true, true, false, false, false, false, false, false, false, false, false, false, false, false, false, false, false, false, false] rfl rfl (any_of HT_.out (by kernel_rfl)) (fun _ _ _ h => h) (Or.inr ⟨by rfl, rfl⟩) ?_ ?_
                rotate_left
                ·simp only [Act.put, s1, s2, s3, i64_w, i32_w]
                 rfl
                refine pure_ (i := 8) (N := some 33) (v := undef) (a' := ?_) #[true, true, true, true, true, true, true, true, true, false, false, false, false, false, false, false, false, false, false, false, false, false, false, false, false] rfl rfl (any_of HT_.out (by kernel_rfl)) (fun _ _ _ h => h) (Or.inr ⟨by rfl, rfl⟩) ?_ ?_
                rotate_left
                ·simp only [Act.put, s1, s2, s3, i64_w, i32_w]
                 rfl
                refine pure_ (i := 9) (N := some 34) (v := undef) (a' := ?_) #[true, true, true, true, true, true, true, true, true, true, false, false, false, false, false, false, false, false, false, false, false, false, false, false, false] rfl rfl (any_of HT_.out (by kernel_rfl)) (fun _ _ _ h => h) (Or.inr ⟨by rfl, rfl⟩) ?_ ?_
                rotate_left
                ·simp only [Act.put, s1, s2, s3, i64_w, i32_w]
                 rfl
                refine pure_ (i := 10) (N := some 35) (v := undef) (a' := ?_) #[true, true, true, true, true, true, true, true, true, true, true, false, false, false, false, false, false, false, false, false, false, false, false, false, false] rfl rfl (any_of HT_.out (by kernel_rfl)) (fun _ _ _ h => h) (Or.inr ⟨by rfl, rfl⟩) ?_ ?_
                rotate_left
                ·simp only [Act.put, s1, s2, s3, i64_w, i32_w]
                 rfl
                refine pure_ (i := 11) (N := some 36) (v := ?_) (a' := ?_) #[true, true, true, true, true, true, true, true, true, true, true, true, false, false, false, false, false, false, false, false, false, false, false, false, false] rfl rfl (any_of HT_.out (by kernel_rfl)) (fun _ _ _ h => h) (Or.inl ⟨by rfl, ?_⟩) ?_ ?_
                rotate_left
                ·intro w'
                 go_simp; with_reducible rfl
                rotate_left
                ·simp only [Act.put, s1, s2, s3, i64_w, i32_w]
                 rfl
                refine pure_ (i := 12) (N := some 37) (v := ?_) (a' := ?_) #[true, true, true, true, true, true, true, true, true, true, true, true, true, false, false, false, false, false, false, false, false, false, false, false, false] rfl rfl (any_of HT_.out (by kernel_rfl)) (fun _ _ _ h => h) (Or.inl ⟨by rfl, ?_⟩) ?_ ?_
                rotate_left
                ·intro w'
                 go_simp; with_reducible rfl
                rotate_left
                ·simp only [Act.put, s1, s2, s3, i64_w, i32_w]
                 rfl
                refine pure_ (i := 13) (N := some 38) (v := undef) (a' := ?_) #[true, true, true, true, true, true, true, true, true, true, true, true, true, true, false, false, false, false, false, false, false, false, false, false, false] rfl rfl (any_of HT_.out (by kernel_rfl)) (fun _ _ _ h => h) (Or.inr ⟨by rfl, rfl⟩) ?_ ?_
                rotate_left
                ·simp only [Act.put, s1, s2, s3, i64_w, i32_w]
                 rfl
                refine pure_ (i := 14) (N := some 39) (v := undef) (a' := ?_) #[true, true, true, true, true, true, true, true, true, true, true, true, true, true, true, false, false, false, false, false, false, false, false, false, false] rfl rfl (any_of HT_.out (by kernel_rfl)) (fun _ _ _ h => h) (Or.inr ⟨by rfl, rfl⟩) ?_ ?_
                rotate_left
                ·simp only [Act.put, s1, s2, s3, i64_w, i32_w]
                 rfl
                refine pure_ (i := 15) (N := some 40) (v := undef) (a' := ?_) #[true, true, true, true, true, true, true, true, true, true, true, true, true, true, true, true, false, false, false, false, false, false, false, false, false] rfl rfl (any_of HT_.out (by kernel_rfl)) (fun _ _ _ h => h) (Or.inr ⟨by rfl, rfl⟩) ?_ ?_
                rotate_left
                ·simp only [Act.put, s1, s2, s3, i64_w, i32_w]
                 rfl
                refine pure_ (i := 16) (N := some 41) (v := undef) (a' := ?_) #[true, true, true, true, true, true, true, true, true, true, true, true, true, true, true, true, true, false, false, false, false, false, false, false, false] rfl rfl (any_of HT_.out (by kernel_rfl)) (fun _ _ _ h => h) (Or.inr ⟨by rfl, rfl⟩) ?_ ?_
                rotate_left
                ·simp only [Act.put, s1, s2, s3, i64_w, i32_w]
                 rfl
                refine pure_ (i := 17) (N := some 42) (v := undef) (a' := ?_) #[true, true, true, true, true, true, true, true, true, true, true, true, true, true, true, true, true, true, false, false, false, false, false, false, false] rfl rfl (any_of HT_.out (by kernel_rfl)) (fun _ _ _ h => h) (Or.inr ⟨by rfl, rfl⟩) ?_ ?_
                rotate_left
                ·simp only [Act.put, s1, s2, s3, i64_w, i32_w]
                 rfl
                refine pure_ (i := 18) (N := some 43) (v := undef) (a' := ?_) #[true, true, true, true, true, true, true, true, true, true, true, true, true, true, true, true, true, true, true, false, false, false, false, false, false] rfl rfl (any_of HT_.out (by kernel_rfl)) (fun _ _ _ h => h) (Or.inr ⟨by rfl, rfl⟩) ?_ ?_
                rotate_left
                ·simp only [Act.put, s1, s2, s3, i64_w, i32_w]
                 rfl
                refine pure_ (i := 19) (N := some 44) (v := undef) (a' := ?_) #[true, true, true, true, true, true, true, true, true, true, true, true, true, true, true, true, true, true, true, true, false, false, false, false, false] rfl rfl (any_of HT_.out (by kernel_rfl)) (fun _ _ _ h => h) (Or.inr ⟨by rfl, rfl⟩) ?_ ?_
                rotate_left
                ·simp only [Act.put, s1, s2, s3, i64_w, i32_w]
                 rfl
                refine pure_ (i := 20) (N := some 45) (v := undef) (a' := ?_) #[true, true, true, true, true, true, true, true, true, true, true, true, true, true, true, true, true, true, true, true, true, false, false, false, false] rfl rfl (any_of HT_.out (by kernel_rfl)) (fun _ _ _ h => h) (Or.inr ⟨by rfl, rfl⟩) ?_ ?_
                rotate_left
                ·simp only [Act.put, s1, s2, s3, i64_w, i32_w]
                 rfl
                refine pure_ (i := 21) (N := some 46) (v := undef) (a' := ?_) #[true, true, true, true, true, true, true, true, true, true, true, true, true, true, true, true, true, true, true, true, true, true, false, false, false] rfl rfl (any_of HT_.out (by kernel_rfl)) (fun _ _ _ h => h) (Or.inr ⟨by rfl, rfl⟩) ?_ ?_
                rotate_left
                ·simp only [Act.put, s1, s2, s3, i64_w, i32_w]
                 rfl
                refine pure_ (i := 22) (N := some 47) (v := undef) (a' := ?_) #[true, true, true, true, true, true, true, true, true, true, true, true, true, true, true, true, true, true, true, true, true, true, true, false, false] rfl rfl (any_of HT_.out (by kernel_rfl)) (fun _ _ _ h => h) (Or.inr ⟨by rfl, rfl⟩) ?_ ?_
                rotate_left
                ·simp only [Act.put, s1, s2, s3, i64_w, i32_w]
                 rfl
                refine pure_ (i := 23) (N := some 48) (v := undef) (a' := ?_) #[true, true, true, true, true, true, true, true, true, true, true, true, true, true, true, true, true, true, true, true, true, true, true, true, false] rfl rfl (any_of HT_.out (by kernel_rfl)) (fun _ _ _ h => h) (Or.inr ⟨by rfl, rfl⟩) ?_ ?_
                rotate_left
                ·simp only [Act.put, s1, s2, s3, i64_w, i32_w]
                 rfl
                refine pure_ (i := 24) (N := some 49) (v := ?_) (a' := ?_) #[true, true, true, true, true, true, true, true, true, true, true, true, true, true, true, true, true, true, true, true, true, true, true, true, true] rfl rfl (any_of HT_.out (by kernel_rfl)) (fun _ _ _ h => h) (Or.inl ⟨by rfl, ?_⟩) ?_ ?_
                rotate_left
                ·intro w'
                 go_simp; with_reducible rfl
                rotate_left
                ·simp only [Act.put, s1, s2, s3, i64_w, i32_w]
                 rfl
                refine done_ (done_of HT_.out (by kernel_rfl)) ?_
                try go_wp2
                go_roundg k3
                case measure => have := HK1.out; have := HJ6.out; have := HK3.out; omega
                case rel => exact ⟨(x5_3 ++ (⟨#[34]⟩ : ByteArray)), (x6_3), (by first | rfl | (simp; done) | (simp [i64_w]; done) | (simp [*]; done) | (simp [*, i64_w]; done) | (simp [*]; unfold wrap64; omega)), (by first | rfl | (simp; done) | (simp [i64_w]; done) | (simp [*]; done) | (simp [*, i64_w]; done) | (simp [*]; unfold wrap64; omega)), H', ⟨by have := HK1.out; have := HJ6.out; have := HK3.out; omega⟩, ⟨by (with_reducible repeat (first | refine blk_drewN ?_ _ | refine blk_drew ?_ | refine blk_alloc ?_ _)); exact BK167.out⟩, ⟨by repeat (first | (with_reducible first | exact HB.out | apply zba | apply zbd | apply zbe | refine below_set ?_ GE167.out | refine below_set ?_ GE169.out) | exact HB.out)⟩⟩
               ·rw [if_neg c51] at H
                exact absurd H (by simp)
           ·rw [if_neg c35] at H
            exact absurd H (by simp)
        ·rw [if_neg c11] at H
         exact absurd H (by simp)
       ·rw [if_neg c10] at H
        exact absurd H (by simp)
    ·rw [if_neg c6] at H; have c6b0 : decide (x6_1 < (l1.length : Int)) = false := decide_eq_false c6; clear c6; obtain rfl := Option.some.inj H; go_wp2; go_ret
     exact ⟨by first | rfl | (simp [errW_none, errW_some] <;> rfl) | (simp [*, errW_none, errW_some] <;> rfl), by repeat (first | (with_reducible first | exact HB.out | apply zba | apply zbd | apply zbe | refine below_set ?_ GE167.out) | exact HB.out)⟩
end Go.Proofs.Ytimmkmfcpfjgfaa.PSA
