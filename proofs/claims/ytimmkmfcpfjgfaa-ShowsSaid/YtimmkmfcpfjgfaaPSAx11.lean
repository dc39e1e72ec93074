import Derived.Test.YtimmkmfcpfjgfaaPSAx0
import Derived.Test.YtimmkmfcpfjgfaaPSAx10
namespace Go.Proofs.Ytimmkmfcpfjgfaa.PSA
open Go.RowKit Go.Proofs.YtimmkmfcpfjgfaaW.PrintWords Go.Proofs.YtimmkmfcpfjgfaaW.PrintLast
set_option linter.unusedVariables false
set_option linter.unusedSimpArgs false
def templeref1_rule.l0 : Nat → ByteArray → Int → Int → List ByteArray → List (S44) → Int → List (S41) → Option (ByteArray)
 | 0, _, _, _, _, _, _, _ => none
 | k + 1, x5, x6, x179000, x179001, x179002, x180000, x180001 => if x6 < (x180001.length : Int) then (if x6 > 0 then (if x5.size + 3 ≤ 9223372036854775807 then (if 0 ≤ x6 then (if (rd_T41 x180001 x6).f0 = true then (if (x5 ++ (⟨#[32, 38, 32]⟩ : ByteArray)).size + 1 ≤ 9223372036854775807 then ((templeref1_seq.f k x179000 x179001 x179002 ((rd_T41 x180001 x6).f1)).bind fun t182 => (if ((x5 ++ (⟨#[32, 38, 32]⟩ : ByteArray)) ++ (⟨#[126]⟩ : ByteArray)).size + t182.size ≤ 9223372036854775807 then (templeref1_rule.l0 k (((x5 ++ (⟨#[32, 38, 32]⟩ : ByteArray)) ++ (⟨#[126]⟩ : ByteArray)) ++ t182) (wrap64 (x6 + 1)) x179000 x179001 x179002 x180000 x180001) else (none))) else (none)) else ((templeref1_seq.f k x179000 x179001 x179002 ((rd_T41 x180001 x6).f1)).bind fun t184 => (if (x5 ++ (⟨#[32, 38, 32]⟩ : ByteArray)).size + t184.size ≤ 9223372036854775807 then (templeref1_rule.l0 k ((x5 ++ (⟨#[32, 38, 32]⟩ : ByteArray)) ++ t184) (wrap64 (x6 + 1)) x179000 x179001 x179002 x180000 x180001) else (none)))) else (none)) else (none)) else (if 0 ≤ x6 then (if (rd_T41 x180001 x6).f0 = true then (if x5.size + 1 ≤ 9223372036854775807 then ((templeref1_seq.f k x179000 x179001 x179002 ((rd_T41 x180001 x6).f1)).bind fun t187 => (if (x5 ++ (⟨#[126]⟩ : ByteArray)).size + t187.size ≤ 9223372036854775807 then (templeref1_rule.l0 k ((x5 ++ (⟨#[126]⟩ : ByteArray)) ++ t187) (wrap64 (x6 + 1)) x179000 x179001 x179002 x180000 x180001) else (none))) else (none)) else ((templeref1_seq.f k x179000 x179001 x179002 ((rd_T41 x180001 x6).f1)).bind fun t189 => (if x5.size + t189.size ≤ 9223372036854775807 then (templeref1_rule.l0 k (x5 ++ t189) (wrap64 (x6 + 1)) x179000 x179001 x179002 x180000 x180001) else (none)))) else (none))) else (some x5)
def templeref1_rule.f (k : Nat) (a0_0 : Int) (l0_1 : List ByteArray) (l0_2 : List (S44)) (a1_0 : Int) (l1_1 : List (S41)) : Option (ByteArray) := templeref1_rule.l0 k (⟨#[]⟩ : ByteArray) 0 a0_0 l0_1 l0_2 a1_0 l1_1
theorem templeref1_rule.mono_l : ∀ k, (∀ y0 y1 y2 y3 y4 y5 y6, LeO (templeref1_rule.l0 k y0 y1 y2 y3 y4 y5 y6) (templeref1_rule.l0 (k + 1) y0 y1 y2 y3 y4 y5 y6))
 | 0 => fun _ _ _ _ _ _ _ r h => by simp [templeref1_rule.l0] at h
 | k + 1 => by
  have ih0 := templeref1_rule.mono_l k
  ·intro y0 y1 y2 y3 y4 y5 y6
   unfold templeref1_rule.l0
   repeat' first
   | (with_reducible exact ih0 _ _ _ _ _ _ _)
   | (with_reducible exact templeref1_seq.mono _ _ _ _ _)
   | (with_reducible exact LeO.refl _)
   | (with_reducible exact LeO.none _)
   | (with_reducible refine LeO.ite ?_ ?_)
   | (with_reducible refine LeO.bind ?_ (fun _ => ?_))
   | exact ih0 _ _ _ _ _ _ _
   | exact templeref1_seq.mono _ _ _ _ _
   | exact LeO.none _
   | refine LeO.ite ?_ ?_
   | refine LeO.bind ?_ (fun _ => ?_)
theorem templeref1_rule.mono : ∀ a0 a1 a2 a3 a4 k, LeO (templeref1_rule.f k a0 a1 a2 a3 a4) (templeref1_rule.f (k + 1) a0 a1 a2 a3 a4) := by
 intro a0 a1 a2 a3 a4 k
 have ih0 := templeref1_rule.mono_l k
 unfold templeref1_rule.f
 repeat' first
   | (with_reducible exact ih0 _ _ _ _ _ _ _)
   | (with_reducible exact templeref1_seq.mono _ _ _ _ _)
   | (with_reducible exact LeO.refl _)
   | (with_reducible exact LeO.none _)
   | (with_reducible refine LeO.ite ?_ ?_)
   | (with_reducible refine LeO.bind ?_ (fun _ => ?_))
   | exact ih0 _ _ _ _ _ _ _
   | exact templeref1_seq.mono _ _ _ _ _
   | exact LeO.none _
   | refine LeO.ite ?_ ?_
   | refine LeO.bind ?_ (fun _ => ?_)
def templeref1_rule.T9 : Bool × List (List Nat × List Nat) := (true, [([], []), ([], []), ([], []), ([2], [2]), ([], []), ([3, 4], [3, 4]), ([5], [5]), ([6], [6]), ([1, 7], [1, 7]), ([0, 8], [0, 8]), ([9, 8, 0, 1, 2, 3, 4, 5, 6, 7, 8, 9], [0, 9])])
def templeref1_rule.B9 : List Nat := [0, 0, 0, 4, 0, 28, 60, 124, 254, 511, 1023]
theorem templeref1_rule.tab9 : rtab .any (opsOf Try.f23 9) = templeref1_rule.T9 := by kernel_rfl
theorem templeref1_rule.bits9 : waitsOk templeref1_rule.T9.2 templeref1_rule.B9 = true := by kernel_rfl
set_option maxHeartbeats 8000000 in
set_option maxRecDepth 100000 in
theorem templeref1_rule.calls (k : Nat) (a0_0 : Int) (A0_1 : Option Addr) (c0_1 : Nat) (l0_1 : List ByteArray) (A0_2 : Option Addr) (c0_2 : Nat) (l0_2 : List (S44)) (a1_0 : Int) (A1_1 : Option Addr) (c1_1 : Nat) (l1_1 : List (S41)) (r : ByteArray) (w : World) (hr0_1 : Kd.C Kd.string w A0_1 l0_1.length l0_1) (hc0_1 : l0_1.length ≤ c0_1) (hr0_2 : Kd.C k44 w A0_2 l0_2.length l0_2) (hc0_2 : l0_2.length ≤ c0_2) (hr1_1 : Kd.C k41 w A1_1 l1_1.length l1_1) (hc1_1 : l1_1.length ≤ c1_1) (h : templeref1_rule.f k a0_0 l0_1 l0_2 a1_0 l1_1 = some r) :
  Calls Try.prog 23 #[.agg #[.int .i64 a0_0, .slice A0_1 l0_1.length c0_1, .slice A0_2 l0_2.length c0_2], .agg #[.int .i64 a1_0, .slice A1_1 l1_1.length c1_1]] w fun e w' => e = .returned (.string r) ∧ Below w.heap.size w w' := by
 have hu25 := Try.underlying25; have hu44 := Try.underlying44; have HR0_1 := zam hr0_1; have HC0_1 := zam hc0_1; clear hr0_1 hc0_1; have HR0_2 := zam hr0_2; have HC0_2 := zam hc0_2; clear hr0_2 hc0_2; have HR1_1 := zam hr1_1; have HC1_1 := zam hc1_1; clear hr1_1 hc1_1
 have HB := zam (Below.refl w.heap.size w)
 have H : (templeref1_rule.l0 k (⟨#[]⟩ : ByteArray) 0 a0_0 l0_1 l0_2 a1_0 l1_1) = some r := h
 clear h; have H' := zam H; clear H
 go_enter Try.func23, Try.ntmps23
 go_wp2_with (first | ((with_reducible refine gate_dst (N := 2) rfl ?_); refine box_event ?hg (N := 2) ?hd (cs := #[.int .i64 a0_0, .slice A0_1 l0_1.length c0_1, .slice A0_2 l0_2.length c0_2]) (t := 25) ?hr ?_; (case hd => rfl); (case hg => rfl); (case hr => first | (go_simp; done) | (go_simp; rfl)); intro gb178 hg w3 hbox hb; have n0_ := zam (below_step (by repeat (first | (with_reducible first | exact HB.out | apply zba | apply zbd | apply zbe) | exact HB.out)) hb); have n1_ := zam (hbox); have n2_ := zam ((by rw [hg]; exact (below_size (by repeat (first | (with_reducible first | exact HB.out | apply zba | apply zbd | apply zbe) | exact HB.out))) : w.heap.size ≤ gb178)); have n3_ := zam ((by rw [hg]; exact (below_size (by repeat (first | (with_reducible first | exact HB.out | apply zba | apply zbd | apply zbe) | exact HB.out))) : w.heap.size ≤ gb178)); clear HB; have HB := n0_; have BK178 := n1_; have GW178 := n2_; have GE178 := n3_; clear n0_ n1_ n2_ n3_; clear hb hbox hg) | ((with_reducible refine gate_dst (N := 3) rfl ?_); refine box_event ?hg (N := 3) ?hd (cs := #[.int .i64 a1_0, .slice A1_1 l1_1.length c1_1]) (t := 44) ?hr ?_; (case hd => rfl); (case hg => rfl); (case hr => first | (go_simp; done) | (go_simp; rfl)); intro gb179 hg w4 hbox hb; have n0_ := zam (blk_below (g := gb178) (o := .cells #[.int .i64 a0_0, .slice A0_1 l0_1.length c0_1, .slice A0_2 l0_2.length c0_2] 25 (0, 0)) (by (with_reducible repeat (first | refine blk_drewN ?_ _ | refine blk_drew ?_ | refine blk_alloc ?_ _)); exact BK178.out) hb); have n1_ := zam (below_step (by repeat (first | (with_reducible first | exact HB.out | apply zba | apply zbd | apply zbe | refine below_set ?_ GE178.out) | exact HB.out)) hb); have n2_ := zam (hbox); have n3_ := zam ((by rw [hg]; exact (below_size (by repeat (first | (with_reducible first | exact HB.out | apply zba | apply zbd | apply zbe | refine below_set ?_ GE178.out) | exact HB.out))) : w.heap.size ≤ gb179)); have n4_ := zam ((by rw [hg]; exact (below_size (by repeat (first | (with_reducible first | exact HB.out | apply zba | apply zbd | apply zbe | refine below_set ?_ GE178.out) | exact HB.out))) : w.heap.size ≤ gb179)); have n5_ := zam ((by rw [hg]; exact Nat.ne_of_lt (blk_lt (g := gb178) (o := .cells #[.int .i64 a0_0, .slice A0_1 l0_1.length c0_1, .slice A0_2 l0_2.length c0_2] 25 (0, 0)) (by (with_reducible repeat (first | refine blk_drewN ?_ _ | refine blk_drew ?_ | refine blk_alloc ?_ _)); exact BK178.out)) : gb178 ≠ gb179)); have n6_ := zam ((by rw [hg]; exact Nat.ne_of_gt (blk_lt (g := gb178) (o := .cells #[.int .i64 a0_0, .slice A0_1 l0_1.length c0_1, .slice A0_2 l0_2.length c0_2] 25 (0, 0)) (by (with_reducible repeat (first | refine blk_drewN ?_ _ | refine blk_drew ?_ | refine blk_alloc ?_ _)); exact BK178.out)) : gb179 ≠ gb178)); clear BK178; clear HB; have BK178 := n0_; have HB := n1_; have BK179 := n2_; have GW179 := n3_; have GE179 := n4_; have NB178_179 := n5_; have NB179_178 := n6_; clear n0_ n1_ n2_ n3_ n4_ n5_ n6_; clear hb hbox hg))
 go_loopg [5, 6] k (fun kq v5 v6 w' => ∃ (x5_1 : ByteArray) (x6_1 : Int), v5 = .string x5_1 ∧ v6 = .int .i64 x6_1 ∧ Aside0 (templeref1_rule.l0 kq x5_1 x6_1 a0_0 l0_1 l0_2 a1_0 l1_1 = some r) ∧ Aside0 (kq ≤ k) ∧ Aside0 (w'.heap[gb178]? = some (.cells #[.int .i64 a0_0, (.slice A0_1 l0_1.length c0_1), (.slice A0_2 l0_2.length c0_2)] 25 (0, 0))) ∧ Aside0 (w'.heap[gb179]? = some (.cells #[.int .i64 a1_0, (.slice A1_1 l1_1.length c1_1)] 44 (0, 0))) ∧ Aside0 (Below w.heap.size w w'))
 case atStart => exact ⟨((⟨#[]⟩ : ByteArray)), (0), (by first | rfl | (simp; done) | (simp [i64_w]; done) | (simp [*]; done) | (simp [*, i64_w]; done) | (simp [*]; unfold wrap64; omega)), (by first | rfl | (simp; done) | (simp [i64_w]; done) | (simp [*]; done) | (simp [*, i64_w]; done) | (simp [*]; unfold wrap64; omega)), H', ⟨Nat.le_refl _⟩, ⟨by (with_reducible repeat (first | refine blk_drewN ?_ _ | refine blk_drew ?_ | refine blk_alloc ?_ _)); exact BK178.out⟩, ⟨by (with_reducible repeat (first | refine blk_drewN ?_ _ | refine blk_drew ?_ | refine blk_alloc ?_ _)); exact BK179.out⟩, ⟨by repeat (first | (with_reducible first | exact HB.out | apply zba | apply zbd | apply zbe | refine below_set ?_ GE178.out | refine below_set ?_ GE179.out) | exact HB.out)⟩⟩
 case round =>
  clear H'; (try clear c1); (try clear c2); (try clear p2); obtain ⟨x5_1, x6_1, rfl, rfl, HA, HK1, BK178, BK179, HB⟩ := hrel
  cases gk with
  | zero => exact absurd HA.out (by simp [templeref1_rule.l0])
  | succ k1 =>
   have H := HA.out; clear HA
   simp only [templeref1_rule.l0] at H
   by_cases c5 : x6_1 < (l1_1.length : Int)
   ·rw [if_pos c5] at H; have c5b0 : decide (x6_1 < (l1_1.length : Int)) = true := decide_eq_true c5; clear c5
    by_cases c6 : x6_1 > 0
    ·rw [if_pos c6] at H; have c6b0 : decide (0 < x6_1) = true := decide_eq_true c6; clear c6
     by_cases c7 : x5_1.size + 3 ≤ 9223372036854775807
     ·rw [if_pos c7] at H
      have c7b0 := eq_true c7
      have c7b1 : decide (x5_1.size + 3 ≤ 9223372036854775807) = true := decide_eq_true c7
      try have c7b2 : (9223372036854775807 < x5_1.size + 3) = False := eq_false (Nat.not_lt.2 c7)
      by_cases c8 : 0 ≤ x6_1
      ·rw [if_pos c8] at H; have c8b0 : decide (0 ≤ x6_1) = true := decide_eq_true c8; clear c8; obtain ⟨bq9, hbq9⟩ : ∃ b_ : Bool, b_ = ((rd_T41 l1_1 x6_1).f0) := ⟨_, rfl⟩
       replace H : (if bq9 = true then (if (x5_1 ++ (⟨#[32, 38, 32]⟩ : ByteArray)).size + 1 ≤ 9223372036854775807 then ((templeref1_seq.f k1 a0_0 l0_1 l0_2 ((rd_T41 l1_1 x6_1).f1)).bind fun t182 => (if ((x5_1 ++ (⟨#[32, 38, 32]⟩ : ByteArray)) ++ (⟨#[126]⟩ : ByteArray)).size + t182.size ≤ 9223372036854775807 then (templeref1_rule.l0 k1 (((x5_1 ++ (⟨#[32, 38, 32]⟩ : ByteArray)) ++ (⟨#[126]⟩ : ByteArray)) ++ t182) (wrap64 (x6_1 + 1)) a0_0 l0_1 l0_2 a1_0 l1_1) else (none))) else (none)) else ((templeref1_seq.f k1 a0_0 l0_1 l0_2 ((rd_T41 l1_1 x6_1).f1)).bind fun t184 => (if (x5_1 ++ (⟨#[32, 38, 32]⟩ : ByteArray)).size + t184.size ≤ 9223372036854775807 then (templeref1_rule.l0 k1 ((x5_1 ++ (⟨#[32, 38, 32]⟩ : ByteArray)) ++ t184) (wrap64 (x6_1 + 1)) a0_0 l0_1 l0_2 a1_0 l1_1) else (none)))) = some r := by rw [← hbq9] at H; exact H
       have Nbq9 := zam hbq9; clear hbq9
       by_cases c10 : bq9 = true
       ·subst c10; have H1 := H
        rw [if_pos rfl] at H1
        clear H; have H := H1; clear H1
        by_cases c11 : (x5_1 ++ (⟨#[32, 38, 32]⟩ : ByteArray)).size + 1 ≤ 9223372036854775807
        ·rw [if_pos c11] at H
         have c11b0 := eq_true c11
         have c11b1 : decide ((x5_1 ++ (⟨#[32, 38, 32]⟩ : ByteArray)).size + 1 ≤ 9223372036854775807) = true := decide_eq_true c11
         try have c11b2 : (9223372036854775807 < (x5_1 ++ (⟨#[32, 38, 32]⟩ : ByteArray)).size + 1) = False := eq_false (Nat.not_lt.2 c11)
         try have c11b3 : (9223372036854775807 < x5_1.size + 3 + 1) = False := eq_false (by have q_ := c11; have z0_ : (⟨#[32, 38, 32]⟩ : ByteArray).size = 3 := rfl; (try simp only [ByteArray.size_append, ByteArray.size_extract] at q_); omega)
         replace H := Option.bind_eq_some_iff.mp H; obtain ⟨t182, A120, H⟩ := H; (try dsimp only at H); have A12 := zam A120; clear A120
         by_cases c13 : ((x5_1 ++ (⟨#[32, 38, 32]⟩ : ByteArray)) ++ (⟨#[126]⟩ : ByteArray)).size + t182.size ≤ 9223372036854775807
         ·rw [if_pos c13] at H
          have c13b0 := eq_true c13
          have c13b1 : decide (((x5_1 ++ (⟨#[32, 38, 32]⟩ : ByteArray)) ++ (⟨#[126]⟩ : ByteArray)).size + t182.size ≤ 9223372036854775807) = true := decide_eq_true c13
          try have c13b2 : (9223372036854775807 < ((x5_1 ++ (⟨#[32, 38, 32]⟩ : ByteArray)) ++ (⟨#[126]⟩ : ByteArray)).size + t182.size) = False := eq_false (Nat.not_lt.2 c13)
          try have c13b3 : (9223372036854775807 < x5_1.size + 3 + 1 + t182.size) = False := eq_false (by have q_ := c13; have z0_ : (⟨#[126]⟩ : ByteArray).size = 1 := rfl; have z1_ : (⟨#[32, 38, 32]⟩ : ByteArray).size = 3 := rfl; (try simp only [ByteArray.size_append, ByteArray.size_extract] at q_); omega)
          have H' := zam H; clear H; have hnb14 := NB179_178.out; have hnc14 := NB178_179.out
          have hcz15_0 : wr.cell? ⟨gb179, 0, none⟩ = some (.int .i64 a1_0) := (blk_cell BK179.out 0).trans rfl
          have hcz15_1 : wr.cell? ⟨gb179, 1, none⟩ = some (.slice A1_1 l1_1.length c1_1) := (blk_cell BK179.out 1).trans rfl
          have hfz15_0 := blk_frozen BK179.out 0; have hfz15_1 := blk_frozen BK179.out 1
          have p180 : 0 ≤ (x6_1 : Int) := of_decide_eq_true (by first | (with_reducible assumption) | assumption)
          have q180 : x6_1 < (l1_1.length : Int) := of_decide_eq_true (by first | (with_reducible assumption) | assumption)
          obtain ⟨ad180, A180_1, c180_1, e180, hx180_0, hx180_1, hl180_1, hi180_1⟩ := at_T41 HR1_1.out x6_1 p180 q180
          (try rw [← Nbq9.out] at hx180_0)
          cases e180
          replace hx180_0 := (HB.out.cell (zbl w _ hx180_0)).trans hx180_0
          replace hx180_1 := (HB.out.cell (zbl w _ hx180_1)).trans hx180_1
          have HR180_1 := zam hi180_1; have HC180_1 := zam hl180_1; clear hi180_1 hl180_1; replace p180 := eq_true p180; replace q180 := eq_true q180
          try go_wp2
          have n0_ := zam (blk_drew BK178.out); have n1_ := zam (blk_drew BK179.out); have n2_ := zam (below_drew1 HB.out); clear BK178; clear BK179; clear HB; have BK178 := n0_; have BK179 := n1_; have HB := n2_; clear n0_ n1_ n2_
          have p181 : 0 ≤ (x6_1 : Int) := of_decide_eq_true (by first | (with_reducible assumption) | assumption)
          have q181 : x6_1 < (l1_1.length : Int) := of_decide_eq_true (by first | (with_reducible assumption) | assumption)
          obtain ⟨ad181, A181_1, c181_1, e181, hx181_0, hx181_1, hl181_1, hi181_1⟩ := at_T41 HR1_1.out x6_1 p181 q181; have hw181_1 := hx181_1; have hw181_0 := hx181_0
          (try rw [← Nbq9.out] at hx181_0)
          (try rw [← Nbq9.out] at hw181_0)
          obtain rfl : ad180 = ad181 := (by injection e181)
          replace hx181_0 := (HB.out.cell (zbl w _ hx181_0)).trans hx181_0
          replace hx181_1 := (HB.out.cell (zbl w _ hx181_1)).trans hx181_1
          have HR181_1 := zam hi181_1; have HC181_1 := zam hl181_1; clear hi181_1 hl181_1; replace p181 := eq_true p181; replace q181 := eq_true q181
          refine start_ (n := 11) (S := fun w' => w'.cell? ⟨gb178, 0, none⟩ = some (.int .i64 a0_0) ∧ w'.cell? ⟨gb178, 1, none⟩ = some (.slice A0_1 l0_1.length c0_1) ∧ w'.cell? ⟨gb178, 2, none⟩ = some (.slice A0_2 l0_2.length c0_2) ∧ w'.cell? ⟨gb179, 0, none⟩ = some (.int .i64 a1_0) ∧ w'.cell? ⟨gb179, 1, none⟩ = some (.slice (some ad180) l1_1.length c1_1) ∧ w'.cell? (ad180.add ((x6_1).toNat * 2)) = some (.bool (true)) ∧ w'.cell? ⟨(ad180.add ((x6_1).toNat * 2)).block, (ad180.add ((x6_1).toNat * 2)).off + 1, none⟩ = some (.slice A181_1 ((rd_T41 l1_1 x6_1).f1).length c181_1)) (ds := []) #[false, false, false, false, false, false, false, false, false, false, false] (by kernel_rfl) rfl rfl ⟨(blk_cell BK178.out 0).trans rfl, (blk_cell BK178.out 1).trans rfl, (blk_cell BK178.out 2).trans rfl, (blk_cell BK179.out 0).trans rfl, (blk_cell BK179.out 1).trans rfl, ((HB.out.cell (zbl w _ hw181_0)).trans hw181_0), ((HB.out.cell (zbl w _ hw181_1)).trans hw181_1)⟩ (fun hHeld => ?_); refine with_tabW templeref1_rule.tab9 templeref1_rule.bits9 (fun HT_ HW_ => ?_)
          generalize wr.drew = w16 at BK178 BK179 HB HR181_1 hx181_0 hx181_1 hHeld ⊢
          refine pure_ (i := 0) (N := some 26) (v := ?_) (a' := ?_) #[true, false, false, false, false, false, false, false, false, false, false] rfl rfl (any_of HT_.out (by kernel_rfl)) (fun _ _ _ h => h) (Or.inl ⟨by rfl, ?_⟩) ?_ ?_
          rotate_left
          ·intro w'
           go_simp; with_reducible rfl
          rotate_left
          ·simp only [Act.put, s1, s2, s3, i64_w, i32_w]
           rfl
          refine pure_ (i := 2) (N := some 28) (v := ?_) (a' := ?_) #[true, false, true, false, false, false, false, false, false, false, false] rfl rfl (any_of HT_.out (by kernel_rfl)) (fun _ _ _ h => h) (Or.inl ⟨by rfl, ?_⟩) ?_ ?_
          rotate_left
          ·intro w'
           go_simp; with_reducible rfl
          rotate_left
          ·simp only [Act.put, s1, s2, s3, i64_w, i32_w]
           rfl
          refine pure_ (i := 4) (N := some 30) (v := ?_) (a' := ?_) #[true, false, true, false, true, false, false, false, false, false, false] rfl rfl (any_of HT_.out (by kernel_rfl)) (fun _ _ _ h => h) (Or.inl ⟨by rfl, ?_⟩) ?_ ?_
          rotate_left
          ·intro w'
           go_simp; with_reducible rfl
          rotate_left
          ·simp only [Act.put, s1, s2, s3, i64_w, i32_w]
           rfl
          refine take_ (i := 1) (N := some 27) (v := ?_) (a' := ?_) #[true, true, true, false, true, false, false, false, false, false, false] rfl rfl (take_ofW HT_.out HW_.out (by kernel_rfl)) (fun _ _ _ h => h) (Or.inl ⟨by rfl, ?_⟩) hHeld ?_ ?_
          rotate_left
          ·rintro w' ⟨s0, s1, s2, s3, s4, s5, s6⟩; go_simp; with_reducible rfl
          rotate_left
          ·simp only [Act.put, s1, s2, s3, i64_w, i32_w]
           rfl
          refine take_ (i := 3) (N := some 29) (v := ?_) (a' := ?_) #[true, true, true, true, true, false, false, false, false, false, false] rfl rfl (take_ofW HT_.out HW_.out (by kernel_rfl)) (fun _ _ _ h => h) (Or.inl ⟨by rfl, ?_⟩) hHeld ?_ ?_
          rotate_left
          ·rintro w' ⟨s0, s1, s2, s3, s4, s5, s6⟩; go_simp; with_reducible rfl
          rotate_left
          ·simp only [Act.put, s1, s2, s3, i64_w, i32_w]
           rfl
          refine pure_ (i := 5) (N := some 31) (v := ?_) (a' := ?_) #[true, true, true, true, true, true, false, false, false, false, false] rfl rfl (any_of HT_.out (by kernel_rfl)) (fun _ _ _ h => h) (Or.inl ⟨by rfl, ?_⟩) ?_ ?_
          rotate_left
          ·intro w'
           go_simp; with_reducible rfl
          rotate_left
          ·simp only [Act.put, s1, s2, s3, i64_w, i32_w]
           rfl
          refine pure_ (i := 6) (N := some 32) (v := ?_) (a' := ?_) #[true, true, true, true, true, true, true, false, false, false, false] rfl rfl (any_of HT_.out (by kernel_rfl)) (fun _ _ _ h => h) (Or.inl ⟨by rfl, ?_⟩) ?_ ?_
          rotate_left
          ·intro w'
           go_simp; with_reducible rfl
          rotate_left
          ·simp only [Act.put, s1, s2, s3, i64_w, i32_w]
           rfl
          refine take_ (i := 7) (N := some 33) (v := ?_) (a' := ?_) #[true, true, true, true, true, true, true, true, false, false, false] rfl rfl (take_ofW HT_.out HW_.out (by kernel_rfl)) (fun _ _ _ h => h) (Or.inl ⟨by rfl, ?_⟩) hHeld ?_ ?_
          rotate_left
          ·rintro w' ⟨s0, s1, s2, s3, s4, s5, s6⟩; go_simp; with_reducible rfl
          rotate_left
          ·simp only [Act.put, s1, s2, s3, i64_w, i32_w]
           rfl
          refine one_ (i := 8) (N := some 34) #[true, true, true, true, true, true, true, true, true, false, false] rfl rfl (one_of HT_.out (by kernel_rfl)) (by decide) (fun K hK => ?_)
          refine goes_ Try.func42 (by kernel_rfl) rfl #[.agg #[.int .i64 a0_0, .slice A0_1 l0_1.length c0_1, .slice A0_2 l0_2.length c0_2], .slice A181_1 ((rd_T41 l1_1 x6_1).f1).length c181_1] (by rfl) rfl rfl (by (try simp only [List.map_toArray, List.map_cons, List.map_nil]); first | done | rfl | (simp only [List.length_drop, List.length_take]; rfl)) ?_
          with_reducible refine (templeref1_seq.calls k1 a0_0 _ _ l0_1 _ _ l0_2 _ _ ((rd_T41 l1_1 x6_1).f1) t182 _ ?side1 ?side2 ?side3 ?side4 ?side5 ?side6 A12.out).mono ?_
          (case side1 => repeat (first | exact (Kd.C_below HR0_1.out HB.out) | (with_reducible refine Kd.C_alloc ?_ _) | (with_reducible refine Kd.C_drewN ?_ _) | (with_reducible refine Kd.C_drew ?_)))
          (case side2 => exact HC0_1.out)
          (case side3 => repeat (first | exact (Kd.C_below HR0_2.out HB.out) | (with_reducible refine Kd.C_alloc ?_ _) | (with_reducible refine Kd.C_drewN ?_ _) | (with_reducible refine Kd.C_drew ?_)))
          (case side4 => exact HC0_2.out)
          (case side5 => repeat (first | exact (Kd.C_below HR181_1.out HB.out) | (with_reducible refine Kd.C_alloc ?_ _) | (with_reducible refine Kd.C_drewN ?_ _) | (with_reducible refine Kd.C_drew ?_)))
          (case side6 => exact HC181_1.out)
          rintro e w17 ⟨rfl, hb⟩
          refine ⟨_, rfl, ?_⟩
          have n0_ := kb BK178 hb; have n1_ := kb BK179 hb; have n2_ := ks HB hb; clear BK178; clear BK179; clear HB; have BK178 := n0_; have BK179 := n1_; have HB := n2_; clear n0_ n1_ n2_; (try clear hb)
          refine hK.out _ _ ⟨(blk_cell BK178.out 0).trans rfl, (blk_cell BK178.out 1).trans rfl, (blk_cell BK178.out 2).trans rfl, (blk_cell BK179.out 0).trans rfl, (blk_cell BK179.out 1).trans rfl, ((HB.out.cell (zbl w _ hw181_0)).trans hw181_0), ((HB.out.cell (zbl w _ hw181_1)).trans hw181_1)⟩ (fun hHeld => ?_)
          clear hK K
          refine norm_ (a' := ?_) ?_ ?_
          rotate_left
          ·show Act.put _ (some 34) _ = _
           simp only [Act.put, s1, s2, s3, i64_w, i32_w]
           rfl
          refine pure_ (i := 9) (N := some 35) (v := ?_) (a' := ?_) #[true, true, true, true, true, true, true, true, true, true, false] rfl rfl (any_of HT_.out (by kernel_rfl)) (fun _ _ _ h => h) (Or.inl ⟨by rfl, ?_⟩) ?_ ?_
          rotate_left
          ·intro w'
           go_simp; with_reducible rfl
          rotate_left
          ·simp only [Act.put, s1, s2, s3, i64_w, i32_w]
           rfl
          refine pure_ (i := 10) (N := some 5) (v := ?_) (a' := ?_) #[true, true, true, true, true, true, true, true, true, true, true] rfl rfl (any_of HT_.out (by kernel_rfl)) (fun _ _ _ h => h) (Or.inl ⟨by rfl, ?_⟩) ?_ ?_
          rotate_left
          ·intro w'
           go_simp; with_reducible rfl
          rotate_left
          ·simp only [Act.put, s1, s2, s3, i64_w, i32_w]
           rfl
          refine done_ (done_of HT_.out (by kernel_rfl)) ?_
          try go_wp2
          go_roundg k1
          case measure => have := HK1.out; omega
          case rel => exact ⟨(((x5_1 ++ (⟨#[32, 38, 32]⟩ : ByteArray)) ++ (⟨#[126]⟩ : ByteArray)) ++ t182), (wrap64 (x6_1 + 1)), (by first | rfl | (simp; done) | (simp [i64_w]; done) | (simp [*]; done) | (simp [*, i64_w]; done) | (simp [*]; unfold wrap64; omega)), (by first | rfl | (simp; done) | (simp [i64_w]; done) | (simp [*]; done) | (simp [*, i64_w]; done) | (simp [*]; unfold wrap64; omega)), H', ⟨by have := HK1.out; omega⟩, ⟨by (with_reducible repeat (first | refine blk_drewN ?_ _ | refine blk_drew ?_ | refine blk_alloc ?_ _)); exact BK178.out⟩, ⟨by (with_reducible repeat (first | refine blk_drewN ?_ _ | refine blk_drew ?_ | refine blk_alloc ?_ _)); exact BK179.out⟩, ⟨by repeat (first | (with_reducible first | exact HB.out | apply zba | apply zbd | apply zbe | refine below_set ?_ GE178.out | refine below_set ?_ GE179.out) | exact HB.out)⟩⟩
         ·rw [if_neg c13] at H
          exact absurd H (by simp)
        ·rw [if_neg c11] at H
         exact absurd H (by simp)
       ·replace c10 := Bool.eq_false_iff.mpr c10
        subst c10; have H1 := H
        rw [if_neg (show ¬ (false = true) by decide)] at H1
        clear H; have H := H1; clear H1; replace H := Option.bind_eq_some_iff.mp H; obtain ⟨t184, A180, H⟩ := H
        replace H : (if (x5_1 ++ (⟨#[32, 38, 32]⟩ : ByteArray)).size + t184.size ≤ 9223372036854775807 then (templeref1_rule.l0 k1 ((x5_1 ++ (⟨#[32, 38, 32]⟩ : ByteArray)) ++ t184) (wrap64 (x6_1 + 1)) a0_0 l0_1 l0_2 a1_0 l1_1) else (none)) = some r := H
        have A18 := zam A180; clear A180
        by_cases c19 : (x5_1 ++ (⟨#[32, 38, 32]⟩ : ByteArray)).size + t184.size ≤ 9223372036854775807
        ·rw [if_pos c19] at H
         have c19b0 := eq_true c19
         have c19b1 : decide ((x5_1 ++ (⟨#[32, 38, 32]⟩ : ByteArray)).size + t184.size ≤ 9223372036854775807) = true := decide_eq_true c19
         try have c19b2 : (9223372036854775807 < (x5_1 ++ (⟨#[32, 38, 32]⟩ : ByteArray)).size + t184.size) = False := eq_false (Nat.not_lt.2 c19)
         try have c19b3 : (9223372036854775807 < x5_1.size + 3 + t184.size) = False := eq_false (by have q_ := c19; have z0_ : (⟨#[32, 38, 32]⟩ : ByteArray).size = 3 := rfl; (try simp only [ByteArray.size_append, ByteArray.size_extract] at q_); omega)
         have H' := zam H; clear H; have hnb20 := NB179_178.out; have hnc20 := NB178_179.out
         have hcz21_0 : wr.cell? ⟨gb179, 0, none⟩ = some (.int .i64 a1_0) := (blk_cell BK179.out 0).trans rfl
         have hcz21_1 : wr.cell? ⟨gb179, 1, none⟩ = some (.slice A1_1 l1_1.length c1_1) := (blk_cell BK179.out 1).trans rfl
         have hfz21_0 := blk_frozen BK179.out 0; have hfz21_1 := blk_frozen BK179.out 1
         have p180 : 0 ≤ (x6_1 : Int) := of_decide_eq_true (by first | (with_reducible assumption) | assumption)
         have q180 : x6_1 < (l1_1.length : Int) := of_decide_eq_true (by first | (with_reducible assumption) | assumption)
         obtain ⟨ad180, A180_1, c180_1, e180, hx180_0, hx180_1, hl180_1, hi180_1⟩ := at_T41 HR1_1.out x6_1 p180 q180
         (try rw [← Nbq9.out] at hx180_0)
         cases e180
         replace hx180_0 := (HB.out.cell (zbl w _ hx180_0)).trans hx180_0
         replace hx180_1 := (HB.out.cell (zbl w _ hx180_1)).trans hx180_1
         have HR180_1 := zam hi180_1; have HC180_1 := zam hl180_1; clear hi180_1 hl180_1; replace p180 := eq_true p180; replace q180 := eq_true q180
         try go_wp2
         have n0_ := zam (blk_drew BK178.out); have n1_ := zam (blk_drew BK179.out); have n2_ := zam (below_drew1 HB.out); clear BK178; clear BK179; clear HB; have BK178 := n0_; have BK179 := n1_; have HB := n2_; clear n0_ n1_ n2_
         have p183 : 0 ≤ (x6_1 : Int) := of_decide_eq_true (by first | (with_reducible assumption) | assumption)
         have q183 : x6_1 < (l1_1.length : Int) := of_decide_eq_true (by first | (with_reducible assumption) | assumption)
         obtain ⟨ad183, A183_1, c183_1, e183, hx183_0, hx183_1, hl183_1, hi183_1⟩ := at_T41 HR1_1.out x6_1 p183 q183; have hw183_1 := hx183_1; have hw183_0 := hx183_0
         (try rw [← Nbq9.out] at hx183_0)
         (try rw [← Nbq9.out] at hw183_0)
         obtain rfl : ad180 = ad183 := (by injection e183)
         replace hx183_0 := (HB.out.cell (zbl w _ hx183_0)).trans hx183_0
         replace hx183_1 := (HB.out.cell (zbl w _ hx183_1)).trans hx183_1
         have HR183_1 := zam hi183_1; have HC183_1 := zam hl183_1; clear hi183_1 hl183_1; replace p183 := eq_true p183; replace q183 := eq_true q183
         refine start_ (n := 11) (S := fun w' => w'.cell? ⟨gb178, 0, none⟩ = some (.int .i64 a0_0) ∧ w'.cell? ⟨gb178, 1, none⟩ = some (.slice A0_1 l0_1.length c0_1) ∧ w'.cell? ⟨gb178, 2, none⟩ = some (.slice A0_2 l0_2.length c0_2) ∧ w'.cell? ⟨gb179, 0, none⟩ = some (.int .i64 a1_0) ∧ w'.cell? ⟨gb179, 1, none⟩ = some (.slice (some ad180) l1_1.length c1_1) ∧ w'.cell? (ad180.add ((x6_1).toNat * 2)) = some (.bool (false)) ∧ w'.cell? ⟨(ad180.add ((x6_1).toNat * 2)).block, (ad180.add ((x6_1).toNat * 2)).off + 1, none⟩ = some (.slice A183_1 ((rd_T41 l1_1 x6_1).f1).length c183_1)) (ds := []) #[false, false, false, false, false, false, false, false, false, false, false] (by kernel_rfl) rfl rfl ⟨(blk_cell BK178.out 0).trans rfl, (blk_cell BK178.out 1).trans rfl, (blk_cell BK178.out 2).trans rfl, (blk_cell BK179.out 0).trans rfl, (blk_cell BK179.out 1).trans rfl, ((HB.out.cell (zbl w _ hw183_0)).trans hw183_0), ((HB.out.cell (zbl w _ hw183_1)).trans hw183_1)⟩ (fun hHeld => ?_); refine with_tabW templeref1_rule.tab9 templeref1_rule.bits9 (fun HT_ HW_ => ?_)
         generalize wr.drew = w22 at BK178 BK179 HB HR183_1 hx183_0 hx183_1 hHeld ⊢
         refine pure_ (i := 0) (N := some 26) (v := ?_) (a' := ?_) #[true, false, false, false, false, false, false, false, false, false, false] rfl rfl (any_of HT_.out (by kernel_rfl)) (fun _ _ _ h => h) (Or.inl ⟨by rfl, ?_⟩) ?_ ?_
         rotate_left
         ·intro w'
          go_simp; with_reducible rfl
         rotate_left
         ·simp only [Act.put, s1, s2, s3, i64_w, i32_w]
          rfl
         refine pure_ (i := 2) (N := some 28) (v := ?_) (a' := ?_) #[true, false, true, false, false, false, false, false, false, false, false] rfl rfl (any_of HT_.out (by kernel_rfl)) (fun _ _ _ h => h) (Or.inl ⟨by rfl, ?_⟩) ?_ ?_
         rotate_left
         ·intro w'
          go_simp; with_reducible rfl
         rotate_left
         ·simp only [Act.put, s1, s2, s3, i64_w, i32_w]
          rfl
         refine pure_ (i := 4) (N := some 30) (v := ?_) (a' := ?_) #[true, false, true, false, true, false, false, false, false, false, false] rfl rfl (any_of HT_.out (by kernel_rfl)) (fun _ _ _ h => h) (Or.inl ⟨by rfl, ?_⟩) ?_ ?_
         rotate_left
         ·intro w'
          go_simp; with_reducible rfl
         rotate_left
         ·simp only [Act.put, s1, s2, s3, i64_w, i32_w]
          rfl
         refine take_ (i := 1) (N := some 27) (v := ?_) (a' := ?_) #[true, true, true, false, true, false, false, false, false, false, false] rfl rfl (take_ofW HT_.out HW_.out (by kernel_rfl)) (fun _ _ _ h => h) (Or.inl ⟨by rfl, ?_⟩) hHeld ?_ ?_
         rotate_left
         ·rintro w' ⟨s0, s1, s2, s3, s4, s5, s6⟩; go_simp; with_reducible rfl
         rotate_left
         ·simp only [Act.put, s1, s2, s3, i64_w, i32_w]
          rfl
         refine take_ (i := 3) (N := some 29) (v := ?_) (a' := ?_) #[true, true, true, true, true, false, false, false, false, false, false] rfl rfl (take_ofW HT_.out HW_.out (by kernel_rfl)) (fun _ _ _ h => h) (Or.inl ⟨by rfl, ?_⟩) hHeld ?_ ?_
         rotate_left
         ·rintro w' ⟨s0, s1, s2, s3, s4, s5, s6⟩; go_simp; with_reducible rfl
         rotate_left
         ·simp only [Act.put, s1, s2, s3, i64_w, i32_w]
          rfl
         refine pure_ (i := 5) (N := some 31) (v := ?_) (a' := ?_) #[true, true, true, true, true, true, false, false, false, false, false] rfl rfl (any_of HT_.out (by kernel_rfl)) (fun _ _ _ h => h) (Or.inl ⟨by rfl, ?_⟩) ?_ ?_
         rotate_left
         ·intro w'
          go_simp; with_reducible rfl
         rotate_left
         ·simp only [Act.put, s1, s2, s3, i64_w, i32_w]
          rfl
         refine pure_ (i := 6) (N := some 32) (v := ?_) (a' := ?_) #[true, true, true, true, true, true, true, false, false, false, false] rfl rfl (any_of HT_.out (by kernel_rfl)) (fun _ _ _ h => h) (Or.inl ⟨by rfl, ?_⟩) ?_ ?_
         rotate_left
         ·intro w'
          go_simp; with_reducible rfl
         rotate_left
         ·simp only [Act.put, s1, s2, s3, i64_w, i32_w]
          rfl
         refine take_ (i := 7) (N := some 33) (v := ?_) (a' := ?_) #[true, true, true, true, true, true, true, true, false, false, false] rfl rfl (take_ofW HT_.out HW_.out (by kernel_rfl)) (fun _ _ _ h => h) (Or.inl ⟨by rfl, ?_⟩) hHeld ?_ ?_
         rotate_left
         ·rintro w' ⟨s0, s1, s2, s3, s4, s5, s6⟩; go_simp; with_reducible rfl
         rotate_left
         ·simp only [Act.put, s1, s2, s3, i64_w, i32_w]
          rfl
         refine one_ (i := 8) (N := some 34) #[true, true, true, true, true, true, true, true, true, false, false] rfl rfl (one_of HT_.out (by kernel_rfl)) (by decide) (fun K hK => ?_)
         refine goes_ Try.func42 (by kernel_rfl) rfl #[.agg #[.int .i64 a0_0, .slice A0_1 l0_1.length c0_1, .slice A0_2 l0_2.length c0_2], .slice A183_1 ((rd_T41 l1_1 x6_1).f1).length c183_1] (by rfl) rfl rfl (by (try simp only [List.map_toArray, List.map_cons, List.map_nil]); first | done | rfl | (simp only [List.length_drop, List.length_take]; rfl)) ?_
         with_reducible refine (templeref1_seq.calls k1 a0_0 _ _ l0_1 _ _ l0_2 _ _ ((rd_T41 l1_1 x6_1).f1) t184 _ ?side1 ?side2 ?side3 ?side4 ?side5 ?side6 A18.out).mono ?_
         (case side1 => repeat (first | exact (Kd.C_below HR0_1.out HB.out) | (with_reducible refine Kd.C_alloc ?_ _) | (with_reducible refine Kd.C_drewN ?_ _) | (with_reducible refine Kd.C_drew ?_)))
         (case side2 => exact HC0_1.out)
         (case side3 => repeat (first | exact (Kd.C_below HR0_2.out HB.out) | (with_reducible refine Kd.C_alloc ?_ _) | (with_reducible refine Kd.C_drewN ?_ _) | (with_reducible refine Kd.C_drew ?_)))
         (case side4 => exact HC0_2.out)
         (case side5 => repeat (first | exact (Kd.C_below HR183_1.out HB.out) | (with_reducible refine Kd.C_alloc ?_ _) | (with_reducible refine Kd.C_drewN ?_ _) | (with_reducible refine Kd.C_drew ?_)))
         (case side6 => exact HC183_1.out)
         rintro e w23 ⟨rfl, hb⟩
         refine ⟨_, rfl, ?_⟩
         have n0_ := kb BK178 hb; have n1_ := kb BK179 hb; have n2_ := ks HB hb; clear BK178; clear BK179; clear HB; have BK178 := n0_; have BK179 := n1_; have HB := n2_; clear n0_ n1_ n2_; (try clear hb)
         refine hK.out _ _ ⟨(blk_cell BK178.out 0).trans rfl, (blk_cell BK178.out 1).trans rfl, (blk_cell BK178.out 2).trans rfl, (blk_cell BK179.out 0).trans rfl, (blk_cell BK179.out 1).trans rfl, ((HB.out.cell (zbl w _ hw183_0)).trans hw183_0), ((HB.out.cell (zbl w _ hw183_1)).trans hw183_1)⟩ (fun hHeld => ?_)
         clear hK K
         refine norm_ (a' := ?_) ?_ ?_
         rotate_left
         ·show Act.put _ (some 34) _ = _
          simp only [Act.put, s1, s2, s3, i64_w, i32_w]
          rfl
         refine pure_ (i := 9) (N := some 35) (v := ?_) (a' := ?_) #[true, true, true, true, true, true, true, true, true, true, false] rfl rfl (any_of HT_.out (by kernel_rfl)) (fun _ _ _ h => h) (Or.inl ⟨by rfl, ?_⟩) ?_ ?_
         rotate_left
         ·intro w'
          go_simp; with_reducible rfl
         rotate_left
         ·simp only [Act.put, s1, s2, s3, i64_w, i32_w]
          rfl
         refine pure_ (i := 10) (N := some 5) (v := ?_) (a' := ?_) #[true, true, true, true, true, true, true, true, true, true, true] rfl rfl (any_of HT_.out (by kernel_rfl)) (fun _ _ _ h => h) (Or.inl ⟨by rfl, ?_⟩) ?_ ?_
         rotate_left
         ·intro w'
          go_simp; with_reducible rfl
         rotate_left
         ·simp only [Act.put, s1, s2, s3, i64_w, i32_w]
          rfl
         refine done_ (done_of HT_.out (by kernel_rfl)) ?_
         try go_wp2
         go_roundg k1
         case measure => have := HK1.out; omega
         case rel => exact ⟨((x5_1 ++ (⟨#[32, 38, 32]⟩ : ByteArray)) ++ t184), (wrap64 (x6_1 + 1)), (by first | rfl | (simp; done) | (simp [i64_w]; done) | (simp [*]; done) | (simp [*, i64_w]; done) | (simp [*]; unfold wrap64; omega)), (by first | rfl | (simp; done) | (simp [i64_w]; done) | (simp [*]; done) | (simp [*, i64_w]; done) | (simp [*]; unfold wrap64; omega)), H', ⟨by have := HK1.out; omega⟩, ⟨by (with_reducible repeat (first | refine blk_drewN ?_ _ | refine blk_drew ?_ | refine blk_alloc ?_ _)); exact BK178.out⟩, ⟨by (with_reducible repeat (first | refine blk_drewN ?_ _ | refine blk_drew ?_ | refine blk_alloc ?_ _)); exact BK179.out⟩, ⟨by repeat (first | (with_reducible first | exact HB.out | apply zba | apply zbd | apply zbe | refine below_set ?_ GE178.out | refine below_set ?_ GE179.out) | exact HB.out)⟩⟩
        ·rw [if_neg c19] at H
         exact absurd H (by simp)
      ·rw [if_neg c8] at H
       exact absurd H (by simp)
     ·rw [if_neg c7] at H
      exact absurd H (by simp)
    ·rw [if_neg c6] at H; have c6b0 : decide (0 < x6_1) = false := decide_eq_false c6; clear c6
     by_cases c24 : 0 ≤ x6_1
     ·rw [if_pos c24] at H; have c24b0 : decide (0 ≤ x6_1) = true := decide_eq_true c24; clear c24; obtain ⟨bq25, hbq25⟩ : ∃ b_ : Bool, b_ = ((rd_T41 l1_1 x6_1).f0) := ⟨_, rfl⟩
      replace H : (if bq25 = true then (if x5_1.size + 1 ≤ 9223372036854775807 then ((templeref1_seq.f k1 a0_0 l0_1 l0_2 ((rd_T41 l1_1 x6_1).f1)).bind fun t187 => (if (x5_1 ++ (⟨#[126]⟩ : ByteArray)).size + t187.size ≤ 9223372036854775807 then (templeref1_rule.l0 k1 ((x5_1 ++ (⟨#[126]⟩ : ByteArray)) ++ t187) (wrap64 (x6_1 + 1)) a0_0 l0_1 l0_2 a1_0 l1_1) else (none))) else (none)) else ((templeref1_seq.f k1 a0_0 l0_1 l0_2 ((rd_T41 l1_1 x6_1).f1)).bind fun t189 => (if x5_1.size + t189.size ≤ 9223372036854775807 then (templeref1_rule.l0 k1 (x5_1 ++ t189) (wrap64 (x6_1 + 1)) a0_0 l0_1 l0_2 a1_0 l1_1) else (none)))) = some r := by rw [← hbq25] at H; exact H
      have Nbq25 := zam hbq25; clear hbq25
      by_cases c26 : bq25 = true
      ·subst c26; have H1 := H
       rw [if_pos rfl] at H1
       clear H; have H := H1; clear H1
       by_cases c27 : x5_1.size + 1 ≤ 9223372036854775807
       ·rw [if_pos c27] at H
        have c27b0 := eq_true c27
        have c27b1 : decide (x5_1.size + 1 ≤ 9223372036854775807) = true := decide_eq_true c27
        try have c27b2 : (9223372036854775807 < x5_1.size + 1) = False := eq_false (Nat.not_lt.2 c27)
        replace H := Option.bind_eq_some_iff.mp H; obtain ⟨t187, A280, H⟩ := H
        replace H : (if (x5_1 ++ (⟨#[126]⟩ : ByteArray)).size + t187.size ≤ 9223372036854775807 then (templeref1_rule.l0 k1 ((x5_1 ++ (⟨#[126]⟩ : ByteArray)) ++ t187) (wrap64 (x6_1 + 1)) a0_0 l0_1 l0_2 a1_0 l1_1) else (none)) = some r := H
        have A28 := zam A280; clear A280
        by_cases c29 : (x5_1 ++ (⟨#[126]⟩ : ByteArray)).size + t187.size ≤ 9223372036854775807
        ·rw [if_pos c29] at H
         have c29b0 := eq_true c29
         have c29b1 : decide ((x5_1 ++ (⟨#[126]⟩ : ByteArray)).size + t187.size ≤ 9223372036854775807) = true := decide_eq_true c29
         try have c29b2 : (9223372036854775807 < (x5_1 ++ (⟨#[126]⟩ : ByteArray)).size + t187.size) = False := eq_false (Nat.not_lt.2 c29)
         try have c29b3 : (9223372036854775807 < x5_1.size + 1 + t187.size) = False := eq_false (by have q_ := c29; have z0_ : (⟨#[126]⟩ : ByteArray).size = 1 := rfl; (try simp only [ByteArray.size_append, ByteArray.size_extract] at q_); omega)
         have H' := zam H; clear H; have hnb30 := NB179_178.out; have hnc30 := NB178_179.out
         have hcz31_0 : wr.cell? ⟨gb179, 0, none⟩ = some (.int .i64 a1_0) := (blk_cell BK179.out 0).trans rfl
         have hcz31_1 : wr.cell? ⟨gb179, 1, none⟩ = some (.slice A1_1 l1_1.length c1_1) := (blk_cell BK179.out 1).trans rfl
         have hfz31_0 := blk_frozen BK179.out 0; have hfz31_1 := blk_frozen BK179.out 1
         have p185 : 0 ≤ (x6_1 : Int) := of_decide_eq_true (by first | (with_reducible assumption) | assumption)
         have q185 : x6_1 < (l1_1.length : Int) := of_decide_eq_true (by first | (with_reducible assumption) | assumption)
         obtain ⟨ad185, A185_1, c185_1, e185, hx185_0, hx185_1, hl185_1, hi185_1⟩ := at_T41 HR1_1.out x6_1 p185 q185
         (try rw [← Nbq25.out] at hx185_0)
         cases e185
         replace hx185_0 := (HB.out.cell (zbl w _ hx185_0)).trans hx185_0
         replace hx185_1 := (HB.out.cell (zbl w _ hx185_1)).trans hx185_1
         have HR185_1 := zam hi185_1; have HC185_1 := zam hl185_1; clear hi185_1 hl185_1; replace p185 := eq_true p185; replace q185 := eq_true q185
         try go_wp2
         have n0_ := zam (blk_drew BK178.out); have n1_ := zam (blk_drew BK179.out); have n2_ := zam (below_drew1 HB.out); clear BK178; clear BK179; clear HB; have BK178 := n0_; have BK179 := n1_; have HB := n2_; clear n0_ n1_ n2_
         have p186 : 0 ≤ (x6_1 : Int) := of_decide_eq_true (by first | (with_reducible assumption) | assumption)
         have q186 : x6_1 < (l1_1.length : Int) := of_decide_eq_true (by first | (with_reducible assumption) | assumption)
         obtain ⟨ad186, A186_1, c186_1, e186, hx186_0, hx186_1, hl186_1, hi186_1⟩ := at_T41 HR1_1.out x6_1 p186 q186; have hw186_1 := hx186_1; have hw186_0 := hx186_0
         (try rw [← Nbq25.out] at hx186_0)
         (try rw [← Nbq25.out] at hw186_0)
         obtain rfl : ad185 = ad186 := (by injection e186)
         replace hx186_0 := (HB.out.cell (zbl w _ hx186_0)).trans hx186_0
         replace hx186_1 := (HB.out.cell (zbl w _ hx186_1)).trans hx186_1
         have HR186_1 := zam hi186_1; have HC186_1 := zam hl186_1; clear hi186_1 hl186_1; replace p186 := eq_true p186; replace q186 := eq_true q186
         refine start_ (n := 11) (S := fun w' => w'.cell? ⟨gb178, 0, none⟩ = some (.int .i64 a0_0) ∧ w'.cell? ⟨gb178, 1, none⟩ = some (.slice A0_1 l0_1.length c0_1) ∧ w'.cell? ⟨gb178, 2, none⟩ = some (.slice A0_2 l0_2.length c0_2) ∧ w'.cell? ⟨gb179, 0, none⟩ = some (.int .i64 a1_0) ∧ w'.cell? ⟨gb179, 1, none⟩ = some (.slice (some ad185) l1_1.length c1_1) ∧ w'.cell? (ad185.add ((x6_1).toNat * 2)) = some (.bool (true)) ∧ w'.cell? ⟨(ad185.add ((x6_1).toNat * 2)).block, (ad185.add ((x6_1).toNat * 2)).off + 1, none⟩ = some (.slice A186_1 ((rd_T41 l1_1 x6_1).f1).length c186_1)) (ds := []) #[false, false, false, false, false, false, false, false, false, false, false] (by kernel_rfl) rfl rfl ⟨(blk_cell BK178.out 0).trans rfl, (blk_cell BK178.out 1).trans rfl, (blk_cell BK178.out 2).trans rfl, (blk_cell BK179.out 0).trans rfl, (blk_cell BK179.out 1).trans rfl, ((HB.out.cell (zbl w _ hw186_0)).trans hw186_0), ((HB.out.cell (zbl w _ hw186_1)).trans hw186_1)⟩ (fun hHeld => ?_); refine with_tabW templeref1_rule.tab9 templeref1_rule.bits9 (fun HT_ HW_ => ?_)
         generalize wr.drew = w32 at BK178 BK179 HB HR186_1 hx186_0 hx186_1 hHeld ⊢
         refine pure_ (i := 0) (N := some 26) (v := ?_) (a' := ?_) #[true, false, false, false, false, false, false, false, false, false, false] rfl rfl (any_of HT_.out (by kernel_rfl)) (fun _ _ _ h => h) (Or.inl ⟨by rfl, ?_⟩) ?_ ?_
         rotate_left
         ·intro w'
          go_simp; with_reducible rfl
         rotate_left
         ·simp only [Act.put, s1, s2, s3, i64_w, i32_w]
          rfl
         refine pure_ (i := 2) (N := some 28) (v := ?_) (a' := ?_) #[true, false, true, false, false, false, false, false, false, false, false] rfl rfl (any_of HT_.out (by kernel_rfl)) (fun _ _ _ h => h) (Or.inl ⟨by rfl, ?_⟩) ?_ ?_
         rotate_left
         ·intro w'
          go_simp; with_reducible rfl
         rotate_left
         ·simp only [Act.put, s1, s2, s3, i64_w, i32_w]
          rfl
         refine pure_ (i := 4) (N := some 30) (v := ?_) (a' := ?_) #[true, false, true, false, true, false, false, false, false, false, false] rfl rfl (any_of HT_.out (by kernel_rfl)) (fun _ _ _ h => h) (Or.inl ⟨by rfl, ?_⟩) ?_ ?_
         rotate_left
         ·intro w'
          go_simp; with_reducible rfl
         rotate_left
         ·simp only [Act.put, s1, s2, s3, i64_w, i32_w]
          rfl
         refine take_ (i := 1) (N := some 27) (v := ?_) (a' := ?_) #[true, true, true, false, true, false, false, false, false, false, false] rfl rfl (take_ofW HT_.out HW_.out (by kernel_rfl)) (fun _ _ _ h => h) (Or.inl ⟨by rfl, ?_⟩) hHeld ?_ ?_
         rotate_left
         ·rintro w' ⟨s0, s1, s2, s3, s4, s5, s6⟩; go_simp; with_reducible rfl
         rotate_left
         ·simp only [Act.put, s1, s2, s3, i64_w, i32_w]
          rfl
         refine take_ (i := 3) (N := some 29) (v := ?_) (a' := ?_) #[true, true, true, true, true, false, false, false, false, false, false] rfl rfl (take_ofW HT_.out HW_.out (by kernel_rfl)) (fun _ _ _ h => h) (Or.inl ⟨by rfl, ?_⟩) hHeld ?_ ?_
         rotate_left
         ·rintro w' ⟨s0, s1, s2, s3, s4, s5, s6⟩; go_simp; with_reducible rfl
         rotate_left
         ·simp only [Act.put, s1, s2, s3, i64_w, i32_w]
          rfl
         refine pure_ (i := 5) (N := some 31) (v := ?_) (a' := ?_) #[true, true, true, true, true, true, false, false, false, false, false] rfl rfl (any_of HT_.out (by kernel_rfl)) (fun _ _ _ h => h) (Or.inl ⟨by rfl, ?_⟩) ?_ ?_
         rotate_left
         ·intro w'
          go_simp; with_reducible rfl
         rotate_left
         ·simp only [Act.put, s1, s2, s3, i64_w, i32_w]
          rfl
         refine pure_ (i := 6) (N := some 32) (v := ?_) (a' := ?_) #[true, true, true, true, true, true, true, false, false, false, false] rfl rfl (any_of HT_.out (by kernel_rfl)) (fun _ _ _ h => h) (Or.inl ⟨by rfl, ?_⟩) ?_ ?_
         rotate_left
         ·intro w'
          go_simp; with_reducible rfl
         rotate_left
         ·simp only [Act.put, s1, s2, s3, i64_w, i32_w]
          rfl
         refine take_ (i := 7) (N := some 33) (v := ?_) (a' := ?_) #[true, true, true, true, true, true, true, true, false, false, false] rfl rfl (take_ofW HT_.out HW_.out (by kernel_rfl)) (fun _ _ _ h => h) (Or.inl ⟨by rfl, ?_⟩) hHeld ?_ ?_
         rotate_left
         ·rintro w' ⟨s0, s1, s2, s3, s4, s5, s6⟩; go_simp; with_reducible rfl
         rotate_left
         ·simp only [Act.put, s1, s2, s3, i64_w, i32_w]
          rfl
         refine one_ (i := 8) (N := some 34) #[true, true, true, true, true, true, true, true, true, false, false] rfl rfl (one_of HT_.out (by kernel_rfl)) (by decide) (fun K hK => ?_)
         refine goes_ Try.func42 (by kernel_rfl) rfl #[.agg #[.int .i64 a0_0, .slice A0_1 l0_1.length c0_1, .slice A0_2 l0_2.length c0_2], .slice A186_1 ((rd_T41 l1_1 x6_1).f1).length c186_1] (by rfl) rfl rfl (by (try simp only [List.map_toArray, List.map_cons, List.map_nil]); first | done | rfl | (simp only [List.length_drop, List.length_take]; rfl)) ?_
         with_reducible refine (templeref1_seq.calls k1 a0_0 _ _ l0_1 _ _ l0_2 _ _ ((rd_T41 l1_1 x6_1).f1) t187 _ ?side1 ?side2 ?side3 ?side4 ?side5 ?side6 A28.out).mono ?_
         (case side1 => repeat (first | exact (Kd.C_below HR0_1.out HB.out) | (with_reducible refine Kd.C_alloc ?_ _) | (with_reducible refine Kd.C_drewN ?_ _) | (with_reducible refine Kd.C_drew ?_)))
         (case side2 => exact HC0_1.out)
         (case side3 => repeat (first | exact (Kd.C_below HR0_2.out HB.out) | (with_reducible refine Kd.C_alloc ?_ _) | (with_reducible refine Kd.C_drewN ?_ _) | (with_reducible refine Kd.C_drew ?_)))
         (case side4 => exact HC0_2.out)
         (case side5 => repeat (first | exact (Kd.C_below HR186_1.out HB.out) | (with_reducible refine Kd.C_alloc ?_ _) | (with_reducible refine Kd.C_drewN ?_ _) | (with_reducible refine Kd.C_drew ?_)))
         (case side6 => exact HC186_1.out)
         rintro e w33 ⟨rfl, hb⟩
         refine ⟨_, rfl, ?_⟩
         have n0_ := kb BK178 hb; have n1_ := kb BK179 hb; have n2_ := ks HB hb; clear BK178; clear BK179; clear HB; have BK178 := n0_; have BK179 := n1_; have HB := n2_; clear n0_ n1_ n2_; (try clear hb)
         refine hK.out _ _ ⟨(blk_cell BK178.out 0).trans rfl, (blk_cell BK178.out 1).trans rfl, (blk_cell BK178.out 2).trans rfl, (blk_cell BK179.out 0).trans rfl, (blk_cell BK179.out 1).trans rfl, ((HB.out.cell (zbl w _ hw186_0)).trans hw186_0), ((HB.out.cell (zbl w _ hw186_1)).trans hw186_1)⟩ (fun hHeld => ?_)
         clear hK K
         refine norm_ (a' := ?_) ?_ ?_
         rotate_left
         ·show Act.put _ (some 34) _ = _
          simp only [Act.put, s1, s2, s3, i64_w, i32_w]
          rfl
         refine pure_ (i := 9) (N := some 35) (v := ?_) (a' := ?_) #[true, true, true, true, true, true, true, true, true, true, false] rfl rfl (any_of HT_.out (by kernel_rfl)) (fun _ _ _ h => h) (Or.inl ⟨by rfl, ?_⟩) ?_ ?_
         rotate_left
         ·intro w'
          go_simp; with_reducible rfl
         rotate_left
         ·simp only [Act.put, s1, s2, s3, i64_w, i32_w]
          rfl
         refine pure_ (i := 10) (N := some 5) (v := ?_) (a' := ?_) #[true, true, true, true, true, true, true, true, true, true, true] rfl rfl (any_of HT_.out (by kernel_rfl)) (fun _ _ _ h => h) (Or.inl ⟨by rfl, ?_⟩) ?_ ?_
         rotate_left
         ·intro w'
          go_simp; with_reducible rfl
         rotate_left
         ·simp only [Act.put, s1, s2, s3, i64_w, i32_w]
          rfl
         refine done_ (done_of HT_.out (by kernel_rfl)) ?_
         try go_wp2
         go_roundg k1
         case measure => have := HK1.out; omega
         case rel => exact ⟨((x5_1 ++ (⟨#[126]⟩ : ByteArray)) ++ t187), (wrap64 (x6_1 + 1)), (by first | rfl | (simp; done) | (simp [i64_w]; done) | (simp [*]; done) | (simp [*, i64_w]; done) | (simp [*]; unfold wrap64; omega)), (by first | rfl | (simp; done) | (simp [i64_w]; done) | (simp [*]; done) | (simp [*, i64_w]; done) | (simp [*]; unfold wrap64; omega)), H', ⟨by have := HK1.out; omega⟩, ⟨by (with_reducible repeat (first | refine blk_drewN ?_ _ | refine blk_drew ?_ | refine blk_alloc ?_ _)); exact BK178.out⟩, ⟨by (with_reducible repeat (first | refine blk_drewN ?_ _ | refine blk_drew ?_ | refine blk_alloc ?_ _)); exact BK179.out⟩, ⟨by repeat (first | (with_reducible first | exact HB.out | apply zba | apply zbd | apply zbe | refine below_set ?_ GE178.out | refine below_set ?_ GE179.out) | exact HB.out)⟩⟩
        ·rw [if_neg c29] at H
         exact absurd H (by simp)
       ·rw [if_neg c27] at H
        exact absurd H (by simp)
      ·replace c26 := Bool.eq_false_iff.mpr c26
       subst c26; have H1 := H
       rw [if_neg (show ¬ (false = true) by decide)] at H1
       clear H; have H := H1; clear H1; replace H := Option.bind_eq_some_iff.mp H; obtain ⟨t189, A340, H⟩ := H
       replace H : (if x5_1.size + t189.size ≤ 9223372036854775807 then (templeref1_rule.l0 k1 (x5_1 ++ t189) (wrap64 (x6_1 + 1)) a0_0 l0_1 l0_2 a1_0 l1_1) else (none)) = some r := H
       have A34 := zam A340; clear A340
       by_cases c35 : x5_1.size + t189.size ≤ 9223372036854775807
       ·rw [if_pos c35] at H
        have c35b0 := eq_true c35
        have c35b1 : decide (x5_1.size + t189.size ≤ 9223372036854775807) = true := decide_eq_true c35
        try have c35b2 : (9223372036854775807 < x5_1.size + t189.size) = False := eq_false (Nat.not_lt.2 c35)
        have H' := zam H; clear H; have hnb36 := NB179_178.out; have hnc36 := NB178_179.out
        have hcz37_0 : wr.cell? ⟨gb179, 0, none⟩ = some (.int .i64 a1_0) := (blk_cell BK179.out 0).trans rfl
        have hcz37_1 : wr.cell? ⟨gb179, 1, none⟩ = some (.slice A1_1 l1_1.length c1_1) := (blk_cell BK179.out 1).trans rfl
        have hfz37_0 := blk_frozen BK179.out 0; have hfz37_1 := blk_frozen BK179.out 1
        have p185 : 0 ≤ (x6_1 : Int) := of_decide_eq_true (by first | (with_reducible assumption) | assumption)
        have q185 : x6_1 < (l1_1.length : Int) := of_decide_eq_true (by first | (with_reducible assumption) | assumption)
        obtain ⟨ad185, A185_1, c185_1, e185, hx185_0, hx185_1, hl185_1, hi185_1⟩ := at_T41 HR1_1.out x6_1 p185 q185
        (try rw [← Nbq25.out] at hx185_0)
        cases e185
        replace hx185_0 := (HB.out.cell (zbl w _ hx185_0)).trans hx185_0
        replace hx185_1 := (HB.out.cell (zbl w _ hx185_1)).trans hx185_1
        have HR185_1 := zam hi185_1; have HC185_1 := zam hl185_1; clear hi185_1 hl185_1; replace p185 := eq_true p185; replace q185 := eq_true q185
        try go_wp2
        have n0_ := zam (blk_drew BK178.out); have n1_ := zam (blk_drew BK179.out); have n2_ := zam (below_drew1 HB.out); clear BK178; clear BK179; clear HB; have BK178 := n0_; have BK179 := n1_; have HB := n2_; clear n0_ n1_ n2_
        have p188 : 0 ≤ (x6_1 : Int) := of_decide_eq_true (by first | (with_reducible assumption) | assumption)
        have q188 : x6_1 < (l1_1.length : Int) := of_decide_eq_true (by first | (with_reducible assumption) | assumption)
        obtain ⟨ad188, A188_1, c188_1, e188, hx188_0, hx188_1, hl188_1, hi188_1⟩ := at_T41 HR1_1.out x6_1 p188 q188; have hw188_1 := hx188_1; have hw188_0 := hx188_0
        (try rw [← Nbq25.out] at hx188_0)
        (try rw [← Nbq25.out] at hw188_0)
        obtain rfl : ad185 = ad188 := (by injection e188)
        replace hx188_0 := (HB.out.cell (zbl w _ hx188_0)).trans hx188_0
        replace hx188_1 := (HB.out.cell (zbl w _ hx188_1)).trans hx188_1
        have HR188_1 := zam hi188_1; have HC188_1 := zam hl188_1; clear hi188_1 hl188_1; replace p188 := eq_true p188; replace q188 := eq_true q188
        refine start_ (n := 11) (S := fun w' => w'.cell? ⟨gb178, 0, none⟩ = some (.int .i64 a0_0) ∧ w'.cell? ⟨gb178, 1, none⟩ = some (.slice A0_1 l0_1.length c0_1) ∧ w'.cell? ⟨gb178, 2, none⟩ = some (.slice A0_2 l0_2.length c0_2) ∧ w'.cell? ⟨gb179, 0, none⟩ = some (.int .i64 a1_0) ∧ w'.cell? ⟨gb179, 1, none⟩ = some (.slice (some ad185) l1_1.length c1_1) ∧ w'.cell? (ad185.add ((x6_1).toNat * 2)) = some (.bool (false)) ∧ w'.cell? ⟨(ad185.add ((x6_1).toNat * 2)).block, (ad185.add ((x6_1).toNat * 2)).off + 1, none⟩ = some (.slice A188_1 ((rd_T41 l1_1 x6_1).f1).length c188_1)) (ds := []) #[false, false, false, false, false, false, false, false, false, false, false] (by kernel_rfl) rfl rfl ⟨(blk_cell BK178.out 0).trans rfl, (blk_cell BK178.out 1).trans rfl, (blk_cell BK178.out 2).trans rfl, (blk_cell BK179.out 0).trans rfl, (blk_cell BK179.out 1).trans rfl, ((HB.out.cell (zbl w _ hw188_0)).trans hw188_0), ((HB.out.cell (zbl w _ hw188_1)).trans hw188_1)⟩ (fun hHeld => ?_); refine with_tabW templeref1_rule.tab9 templeref1_rule.bits9 (fun HT_ HW_ => ?_)
        generalize wr.drew = w38 at BK178 BK179 HB HR188_1 hx188_0 hx188_1 hHeld ⊢
        refine pure_ (i := 0) (N := some 26) (v := ?_) (a' := ?_) #[true, false, false, false, false, false, false, false, false, false, false] rfl rfl (any_of HT_.out (by kernel_rfl)) (fun _ _ _ h => h) (Or.inl ⟨by rfl, ?_⟩) ?_ ?_
        rotate_left
        ·intro w'
         go_simp; with_reducible rfl
        rotate_left
        ·simp only [Act.put, s1, s2, s3, i64_w, i32_w]
         rfl
        refine pure_ (i := 2) (N := some 28) (v := ?_) (a' := ?_) #[true, false, true, false, false, false, false, false, false, false, false] rfl rfl (any_of HT_.out (by kernel_rfl)) (fun _ _ _ h => h) (Or.inl ⟨by rfl, ?_⟩) ?_ ?_
        rotate_left
        ·intro w'
         go_simp; with_reducible rfl
        rotate_left
        ·simp only [Act.put, s1, s2, s3, i64_w, i32_w]
         rfl
        refine pure_ (i := 4) (N := some 30) (v := ?_) (a' := ?_) #[true, false, true, false, true, false, false, false, false, false, false] rfl rfl (any_of HT_.out (by kernel_rfl)) (fun _ _ _ h => h) (Or.inl ⟨by rfl, ?_⟩) ?_ ?_
        rotate_left
        ·intro w'
         go_simp; with_reducible rfl
        rotate_left
        ·simp only [Act.put, s1, s2, s3, i64_w, i32_w]
         rfl
        refine take_ (i := 1) (N := some 27) (v := ?_) (a' := ?_) #[true, true, true, false, true, false, false, false, false, false, false] rfl rfl (take_ofW HT_.out HW_.out (by kernel_rfl)) (fun _ _ _ h => h) (Or.inl ⟨by rfl, ?_⟩) hHeld ?_ ?_
        rotate_left
        ·rintro w' ⟨s0, s1, s2, s3, s4, s5, s6⟩; go_simp; with_reducible rfl
        rotate_left
        ·simp only [Act.put, s1, s2, s3, i64_w, i32_w]
         rfl
        refine take_ (i := 3) (N := some 29) (v := ?_) (a' := ?_) #[true, true, true, true, true, false, false, false, false, false, false] rfl rfl (take_ofW HT_.out HW_.out (by kernel_rfl)) (fun _ _ _ h => h) (Or.inl ⟨by rfl, ?_⟩) hHeld ?_ ?_
        rotate_left
        ·rintro w' ⟨s0, s1, s2, s3, s4, s5, s6⟩; go_simp; with_reducible rfl
        rotate_left
        ·simp only [Act.put, s1, s2, s3, i64_w, i32_w]
         rfl
        refine pure_ (i := 5) (N := some 31) (v := ?_) (a' := ?_) #[true, true, true, true, true, true, false, false, false, false, false] rfl rfl (any_of HT_.out (by kernel_rfl)) (fun _ _ _ h => h) (Or.inl ⟨by rfl, ?_⟩) ?_ ?_
        rotate_left
        ·intro w'
         go_simp; with_reducible rfl
        rotate_left
        ·simp only [Act.put, s1, s2, s3, i64_w, i32_w]
         rfl
        refine pure_ (i := 6) (N := some 32) (v := ?_) (a' := ?_) #[true, true, true, true, true, true, true, false, false, false, false] rfl rfl (any_of HT_.out (by kernel_rfl)) (fun _ _ _ h => h) (Or.inl ⟨by rfl, ?_⟩) ?_ ?_
        rotate_left
        ·intro w'
         go_simp; with_reducible rfl
        rotate_left
        ·simp only [Act.put, s1, s2, s3, i64_w, i32_w]
         rfl
        refine take_ (i := 7) (N := some 33) (v := ?_) (a' := ?_) #[true, true, true, true, true, true, true, true, false, false, false] rfl rfl (take_ofW HT_.out HW_.out (by kernel_rfl)) (fun _ _ _ h => h) (Or.inl ⟨by rfl, ?_⟩) hHeld ?_ ?_
        rotate_left
        ·rintro w' ⟨s0, s1, s2, s3, s4, s5, s6⟩; go_simp; with_reducible rfl
        rotate_left
        ·simp only [Act.put, s1, s2, s3, i64_w, i32_w]
         rfl
        refine one_ (i := 8) (N := some 34) #[true, true, true, true, true, true, true, true, true, false, false] rfl rfl (one_of HT_.out (by kernel_rfl)) (by decide) (fun K hK => ?_)
        refine goes_ Try.func42 (by kernel_rfl) rfl #[.agg #[.int .i64 a0_0, .slice A0_1 l0_1.length c0_1, .slice A0_2 l0_2.length c0_2], .slice A188_1 ((rd_T41 l1_1 x6_1).f1).length c188_1] (by rfl) rfl rfl (by (try simp only [List.map_toArray, List.map_cons, List.map_nil]); first | done | rfl | (simp only [List.length_drop, List.length_take]; rfl)) ?_
        with_reducible refine (templeref1_seq.calls k1 a0_0 _ _ l0_1 _ _ l0_2 _ _ ((rd_T41 l1_1 x6_1).f1) t189 _ ?side1 ?side2 ?side3 ?side4 ?side5 ?side6 A34.out).mono ?_
        (case side1 => repeat (first | exact (Kd.C_below HR0_1.out HB.out) | (with_reducible refine Kd.C_alloc ?_ _) | (with_reducible refine Kd.C_drewN ?_ _) | (with_reducible refine Kd.C_drew ?_)))
        (case side2 => exact HC0_1.out)
        (case side3 => repeat (first | exact (Kd.C_below HR0_2.out HB.out) | (with_reducible refine Kd.C_alloc ?_ _) | (with_reducible refine Kd.C_drewN ?_ _) | (with_reducible refine Kd.C_drew ?_)))
        (case side4 => exact HC0_2.out)
        (case side5 => repeat (first | exact (Kd.C_below HR188_1.out HB.out) | (with_reducible refine Kd.C_alloc ?_ _) | (with_reducible refine Kd.C_drewN ?_ _) | (with_reducible refine Kd.C_drew ?_)))
        (case side6 => exact HC188_1.out)
        rintro e w39 ⟨rfl, hb⟩
        refine ⟨_, rfl, ?_⟩
        have n0_ := kb BK178 hb; have n1_ := kb BK179 hb; have n2_ := ks HB hb; clear BK178; clear BK179; clear HB; have BK178 := n0_; have BK179 := n1_; have HB := n2_; clear n0_ n1_ n2_; (try clear hb)
        refine hK.out _ _ ⟨(blk_cell BK178.out 0).trans rfl, (blk_cell BK178.out 1).trans rfl, (blk_cell BK178.out 2).trans rfl, (blk_cell BK179.out 0).trans rfl, (blk_cell BK179.out 1).trans rfl, ((HB.out.cell (zbl w _ hw188_0)).trans hw188_0), ((HB.out.cell (zbl w _ hw188_1)).trans hw188_1)⟩ (fun hHeld => ?_)
        clear hK K
        refine norm_ (a' := ?_) ?_ ?_
        rotate_left
        ·show Act.put _ (some 34) _ = _
         simp only [Act.put, s1, s2, s3, i64_w, i32_w]
         rfl
        refine pure_ (i := 9) (N := some 35) (v := ?_) (a' := ?_) #[true, true, true, true, true, true, true, true, true, true, false] rfl rfl (any_of HT_.out (by kernel_rfl)) (fun _ _ _ h => h) (Or.inl ⟨by rfl, ?_⟩) ?_ ?_
        rotate_left
        ·intro w'
         go_simp; with_reducible rfl
        rotate_left
        ·simp only [Act.put, s1, s2, s3, i64_w, i32_w]
         rfl
        refine pure_ (i := 10) (N := some 5) (v := ?_) (a' := ?_) #[true, true, true, true, true, true, true, true, true, true, true] rfl rfl (any_of HT_.out (by kernel_rfl)) (fun _ _ _ h => h) (Or.inl ⟨by rfl, ?_⟩) ?_ ?_
        rotate_left
        ·intro w'
         go_simp; with_reducible rfl
        rotate_left
        ·simp only [Act.put, s1, s2, s3, i64_w, i32_w]
         rfl
        refine done_ (done_of HT_.out (by kernel_rfl)) ?_
        try go_wp2
        go_roundg k1
        case measure => have := HK1.out; omega
        case rel => exact ⟨(x5_1 ++ t189), (wrap64 (x6_1 + 1)), (by first | rfl | (simp; done) | (simp [i64_w]; done) | (simp [*]; done) | (simp [*, i64_w]; done) | (simp [*]; unfold wrap64; omega)), (by first | rfl | (simp; done) | (simp [i64_w]; done) | (simp [*]; done) | (simp [*, i64_w]; done) | (simp [*]; unfold wrap64; omega)), H', ⟨by have := HK1.out; omega⟩, ⟨by (with_reducible repeat (first | refine blk_drewN ?_ _ | refine blk_drew ?_ | refine blk_alloc ?_ _)); exact BK178.out⟩, ⟨by (with_reducible repeat (first | refine blk_drewN ?_ _ | refine blk_drew ?_ | refine blk_alloc ?_ _)); exact BK179.out⟩, ⟨by repeat (first | (with_reducible first | exact HB.out | apply zba | apply zbd | apply zbe | refine below_set ?_ GE178.out | refine below_set ?_ GE179.out) | exact HB.out)⟩⟩
       ·rw [if_neg c35] at H
        exact absurd H (by simp)
     ·rw [if_neg c24] at H
      exact absurd H (by simp)
   ·rw [if_neg c5] at H; have c5b0 : decide (x6_1 < (l1_1.length : Int)) = false := decide_eq_false c5; clear c5; obtain rfl := Option.some.inj H; have hnb40 := NB179_178.out; have hnc40 := NB178_179.out
    have hcz41_0 : wr.cell? ⟨gb179, 0, none⟩ = some (.int .i64 a1_0) := (blk_cell BK179.out 0).trans rfl
    have hcz41_1 : wr.cell? ⟨gb179, 1, none⟩ = some (.slice A1_1 l1_1.length c1_1) := (blk_cell BK179.out 1).trans rfl
    have hfz41_0 := blk_frozen BK179.out 0; have hfz41_1 := blk_frozen BK179.out 1; go_wp2; go_ret
    exact ⟨by first | rfl | (simp [errW_none, errW_some] <;> rfl) | (simp [*, errW_none, errW_some] <;> rfl), by repeat (first | (with_reducible first | exact HB.out | apply zba | apply zbd | apply zbe | refine below_set ?_ GE178.out | refine below_set ?_ GE179.out) | exact HB.out)⟩
end Go.Proofs.Ytimmkmfcpfjgfaa.PSA
