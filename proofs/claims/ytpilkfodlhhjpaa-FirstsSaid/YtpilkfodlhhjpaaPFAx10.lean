-- written by a program of the session's (wip/myprint.py) out of the translation
import Derived.Test.YtpilkfodlhhjpaaPFAx0
import Derived.Test.YtpilkfodlhhjpaaPFAx6
import Derived.Test.YtpilkfodlhhjpaaPFAx9
namespace Go.Proofs.Ytpilkfodlhhjpaa.PFA
open Go.RowKit Go.Proofs.YtpilkfodlhhjpaaW.PrintWords Go.Proofs.YtpilkfodlhhjpaaW.PrintLast Go.Proofs.YtpilkfodlhhjpaaW.PrintMore
attribute [local go_sem] max2_int min2_int max_two min_two max_three min_three max_four min_four   -- for this text's walks alone
set_option linter.unusedVariables false
set_option linter.unusedSimpArgs false

/-! ### templeref6_allEmpty: function 33 -/
def templeref6_allEmpty.l0 : Nat → List (S68) → List Bool → Int → Option (Bool)
 | 0, _, _, _ => none
 | k + 1, x0, x1, x5 => if x5 < (x0.length : Int) then (if 0 ≤ x5 then (if ((rd_T68 x0 x5).f0) < 0 then (some false) else (if 0 ≤ ((rd_T68 x0 x5).f0) then (if ((rd_T68 x0 x5).f0) < (x1.length : Int) then (if (rdOf false x1 ((rd_T68 x0 x5).f0) = true) then (templeref6_allEmpty.l0 k x0 x1 (wrap64 (x5 + 1))) else (some false)) else (none)) else (none))) else (none)) else (some true)
def templeref6_allEmpty.f (k : Nat) (l0 : List (S68)) (l1 : List Bool) : Option (Bool) := templeref6_allEmpty.l0 k l0 l1 0
theorem templeref6_allEmpty.mono_l : ∀ k, (∀ y0 y1 y2, LeO (templeref6_allEmpty.l0 k y0 y1 y2) (templeref6_allEmpty.l0 (k + 1) y0 y1 y2))
 | 0 => fun _ _ _ r h => by simp [templeref6_allEmpty.l0] at h
 | k + 1 => by
  have ih0 := templeref6_allEmpty.mono_l k
  ·intro y0 y1 y2
   unfold templeref6_allEmpty.l0
   repeat' first
   | (with_reducible exact ih0 _ _ _)
   | (with_reducible exact LeO.refl _)
   | (with_reducible exact LeO.none _)
   | (with_reducible refine LeO.ite ?_ ?_)
   | (with_reducible refine LeO.bind ?_ (fun _ => ?_))
   | exact ih0 _ _ _
   | exact LeO.none _
   | refine LeO.ite ?_ ?_
   | refine LeO.bind ?_ (fun _ => ?_)
theorem templeref6_allEmpty.mono : ∀ a0 a1 k, LeO (templeref6_allEmpty.f k a0 a1) (templeref6_allEmpty.f (k + 1) a0 a1) := by
 intro a0 a1 k
 have ih0 := templeref6_allEmpty.mono_l k
 unfold templeref6_allEmpty.f
 repeat' first
   | (with_reducible exact ih0 _ _ _)
   | (with_reducible exact LeO.refl _)
   | (with_reducible exact LeO.none _)
   | (with_reducible refine LeO.ite ?_ ?_)
   | (with_reducible refine LeO.bind ?_ (fun _ => ?_))
   | exact ih0 _ _ _
   | exact LeO.none _
   | refine LeO.ite ?_ ?_
   | refine LeO.bind ?_ (fun _ => ?_)
set_option maxHeartbeats 8000000 in
set_option maxRecDepth 100000 in
theorem templeref6_allEmpty.calls (k : Nat) (A0 : Option Addr) (c0 : Nat) (l0 : List (S68)) (A1 : Option Addr) (c1 : Nat) (l1 : List Bool) (r : Bool) (w : World) (hr0 : Kd.C k68 w A0 l0.length l0) (hc0 : l0.length ≤ c0) (hr1 : Kd.C Kd.bool w A1 l1.length l1) (hc1 : l1.length ≤ c1) (h : templeref6_allEmpty.f k l0 l1 = some r) :
  Calls Try.prog 33 #[.slice A0 l0.length c0, .slice A1 l1.length c1] w fun e w' => e = .returned (.bool r) ∧ Drawn0 w w' := by
 have HR0 := Aside0.mk hr0
 have HC0 := Aside0.mk hc0
 clear hr0 hc0
 have HR1 := Aside0.mk hr1
 have HC1 := Aside0.mk hc1
 clear hr1 hc1
 have H : (templeref6_allEmpty.l0 k l0 l1 0) = some r := h
 clear h
 have H' := Aside0.mk H
 clear H
 go_enter Try.func33, Try.ntmps33
 go_wp2
 go_loopg [5] k (fun kq v5 w' => ∃ (x5_1 : Int), v5 = .int .i64 x5_1 ∧ Aside0 (templeref6_allEmpty.l0 kq l0 l1 x5_1 = some r) ∧ Aside0 (kq ≤ k) ∧ Drawn0 w w')
 case atStart => exact ⟨(0), (by first | rfl | (simp; done) | (simp [i64_w]; done) | (simp [*]; done) | (simp [*, i64_w]; done) | (simp [*]; unfold wrap64; omega)), H', ⟨Nat.le_refl _⟩, by repeat (first | exact Drawn0.refl _ | apply Drawn0.step)⟩
 case round =>
  clear H'
  try clear c1
  try clear p2
  obtain ⟨x5_1, rfl, HA, HK1, ⟨m1, rfl⟩⟩ := hrel
  cases gk with
  | zero => exact absurd HA.out (by simp [templeref6_allEmpty.l0])
  | succ k1 =>
   have H := HA.out
   clear HA
   simp only [templeref6_allEmpty.l0] at H
   by_cases c3 : x5_1 < (l0.length : Int)
   ·rw [if_pos c3] at H
    have c3b0 : decide (x5_1 < (l0.length : Int)) = true := decide_eq_true c3
    clear c3
    by_cases c4 : 0 ≤ x5_1
    ·rw [if_pos c4] at H
     have c4b0 : decide (0 ≤ x5_1) = true := decide_eq_true c4
     clear c4
     by_cases c5 : ((rd_T68 l0 x5_1).f0) < 0
     ·rw [if_pos c5] at H
      have c5b0 : decide (((rd_T68 l0 x5_1).f0) < 0) = true := decide_eq_true c5
      clear c5
      obtain rfl := Option.some.inj H
      have p155 : 0 ≤ (x5_1 : Int) := of_decide_eq_true (by first | (with_reducible assumption) | assumption)
      have q155 : x5_1 < (l0.length : Int) := of_decide_eq_true (by first | (with_reducible assumption) | assumption)
      obtain ⟨ad155, e155, hx155_0, hx155_1, hx155_2⟩ := at_T68 HR0.out x5_1 p155 q155
      cases e155
      replace p155 := eq_true p155
      replace q155 := eq_true q155
      go_wp2
      go_ret
      exact ⟨by first | rfl | (simp; done) | (simp [*]; done), by repeat (first | exact Drawn0.refl _ | apply Drawn0.step)⟩
     ·rw [if_neg c5] at H
      have c5b0 : decide (((rd_T68 l0 x5_1).f0) < 0) = false := decide_eq_false c5
      clear c5
      by_cases c6 : 0 ≤ ((rd_T68 l0 x5_1).f0)
      ·rw [if_pos c6] at H
       have c6b0 : decide (0 ≤ ((rd_T68 l0 x5_1).f0)) = true := decide_eq_true c6
       clear c6
       by_cases c7 : ((rd_T68 l0 x5_1).f0) < (l1.length : Int)
       ·rw [if_pos c7] at H
        have c7b0 : decide (((rd_T68 l0 x5_1).f0) < (l1.length : Int)) = true := decide_eq_true c7
        clear c7
        obtain ⟨bq8, hbq8⟩ : ∃ b_ : Bool, b_ = (rdOf false l1 ((rd_T68 l0 x5_1).f0)) := ⟨_, rfl⟩
        replace H : (if (bq8 = true) then (templeref6_allEmpty.l0 k1 l0 l1 (wrap64 (x5_1 + 1))) else (some false)) = some r := by rw [← hbq8] at H; exact H
        have Nbq8 := Aside0.mk hbq8
        clear hbq8
        by_cases c9 : (bq8 = true)
        ·subst c9
         have H1 : (templeref6_allEmpty.l0 k1 l0 l1 (wrap64 (x5_1 + 1))) = some r := by rw [if_pos rfl] at H; exact H
         clear H
         have H := H1
         clear H1
         have H' := Aside0.mk H
         clear H
         have p155 : 0 ≤ (x5_1 : Int) := of_decide_eq_true (by first | (with_reducible assumption) | assumption)
         have q155 : x5_1 < (l0.length : Int) := of_decide_eq_true (by first | (with_reducible assumption) | assumption)
         obtain ⟨ad155, e155, hx155_0, hx155_1, hx155_2⟩ := at_T68 HR0.out x5_1 p155 q155
         cases e155
         replace p155 := eq_true p155
         replace q155 := eq_true q155
         have p156 : 0 ≤ (x5_1 : Int) := of_decide_eq_true (by first | (with_reducible assumption) | assumption)
         have q156 : x5_1 < (l0.length : Int) := of_decide_eq_true (by first | (with_reducible assumption) | assumption)
         obtain ⟨ad156, e156, hx156_0, hx156_1, hx156_2⟩ := at_T68 HR0.out x5_1 p156 q156
         obtain rfl : ad155 = ad156 := (by injection e156)
         replace p156 := eq_true p156
         replace q156 := eq_true q156
         have p157 : 0 ≤ (((rd_T68 l0 x5_1).f0) : Int) := of_decide_eq_true (by first | (with_reducible assumption) | assumption)
         have q157 : ((rd_T68 l0 x5_1).f0) < (l1.length : Int) := of_decide_eq_true (by first | (with_reducible assumption) | assumption)
         obtain ⟨ad157, e157, hx157_0⟩ := Kd.at_bool HR1.out ((rd_T68 l0 x5_1).f0) p157 q157
         (try rw [← Nbq8.out] at hx157_0)
         cases e157
         replace p157 := eq_true p157
         replace q157 := eq_true q157
         go_wp2
         go_roundg k1
         case measure => have := HK1.out; omega
         case rel => exact ⟨(wrap64 (x5_1 + 1)), (by first | rfl | (simp; done) | (simp [i64_w]; done) | (simp [*]; done) | (simp [*, i64_w]; done) | (simp [*]; unfold wrap64; omega)), H', ⟨by have := HK1.out; omega⟩, by repeat (first | exact Drawn0.refl _ | apply Drawn0.step)⟩
        ·replace c9 := Bool.eq_false_iff.mpr c9
         subst c9
         have H1 : (some false) = some r := by rw [if_neg (show ¬ (false = true) by decide)] at H; exact H
         clear H
         have H := H1
         clear H1
         obtain rfl := Option.some.inj H
         have p155 : 0 ≤ (x5_1 : Int) := of_decide_eq_true (by first | (with_reducible assumption) | assumption)
         have q155 : x5_1 < (l0.length : Int) := of_decide_eq_true (by first | (with_reducible assumption) | assumption)
         obtain ⟨ad155, e155, hx155_0, hx155_1, hx155_2⟩ := at_T68 HR0.out x5_1 p155 q155
         cases e155
         replace p155 := eq_true p155
         replace q155 := eq_true q155
         have p156 : 0 ≤ (x5_1 : Int) := of_decide_eq_true (by first | (with_reducible assumption) | assumption)
         have q156 : x5_1 < (l0.length : Int) := of_decide_eq_true (by first | (with_reducible assumption) | assumption)
         obtain ⟨ad156, e156, hx156_0, hx156_1, hx156_2⟩ := at_T68 HR0.out x5_1 p156 q156
         obtain rfl : ad155 = ad156 := (by injection e156)
         replace p156 := eq_true p156
         replace q156 := eq_true q156
         have p157 : 0 ≤ (((rd_T68 l0 x5_1).f0) : Int) := of_decide_eq_true (by first | (with_reducible assumption) | assumption)
         have q157 : ((rd_T68 l0 x5_1).f0) < (l1.length : Int) := of_decide_eq_true (by first | (with_reducible assumption) | assumption)
         obtain ⟨ad157, e157, hx157_0⟩ := Kd.at_bool HR1.out ((rd_T68 l0 x5_1).f0) p157 q157
         (try rw [← Nbq8.out] at hx157_0)
         cases e157
         replace p157 := eq_true p157
         replace q157 := eq_true q157
         go_wp2
         go_ret
         exact ⟨by first | rfl | (simp; done) | (simp [*]; done), by repeat (first | exact Drawn0.refl _ | apply Drawn0.step)⟩
       ·rw [if_neg c7] at H
        exact absurd H (by simp)
      ·rw [if_neg c6] at H
       exact absurd H (by simp)
    ·rw [if_neg c4] at H
     exact absurd H (by simp)
   ·rw [if_neg c3] at H
    have c3b0 : decide (x5_1 < (l0.length : Int)) = false := decide_eq_false c3
    clear c3
    obtain rfl := Option.some.inj H
    go_wp2
    go_ret
    exact ⟨by first | rfl | (simp; done) | (simp [*]; done), by repeat (first | exact Drawn0.refl _ | apply Drawn0.step)⟩

/-! ### templeref6_Empty: function 11 -/
set_option maxHeartbeats 1000000 in
theorem fe_allEmpty (q : List S68) (A : Option Addr) (c : Nat) (e : List Bool) (Ae : Option Addr) (ce : Nat) (w : World) (hq : Kd.C k68 w A q.length q) (he : Kd.C Kd.bool w Ae e.length e) (hok : ∀ s ∈ q, s.f0 < e.length) (hl : q.length ≤ 64) :
  Calls Try.prog 33 #[.slice A q.length c, .slice Ae e.length ce] w fun e' w' => e' = .returned (.bool (nothB e q)) ∧ w = w' := by
 have HQ := Aside0.mk hq
 have HE := Aside0.mk he
 have HO := Aside0.mk hok
 clear hq he hok
 obtain ⟨r, HR⟩ : ∃ r, Aside0 (nothB e q = r) := ⟨_, ⟨rfl⟩⟩
 rw [HR.out]
 go_enter Try.func33, Try.ntmps33
 go_wp2
 go_loop [5] (fun v => ∃ i : Nat, i ≤ q.length ∧ v = .int .i64 i ∧ Aside0 (nothB e (q.take i) = true)) (fun v => q.length - (intOf v).toNat)
 case atStart => exact ⟨0, by omega, rfl, ⟨rfl⟩⟩
 case round =>
  obtain ⟨i, hi, rfl, hall⟩ := hrel
  by_cases hlt : i < q.length
  ·obtain ⟨ad, eA, s0, s1, s2⟩ := at_T68 HQ.out (i : Int) (by omega) (by omega)
   rw [fe_rdsym _ _ hlt] at s0 s1 s2
   rw [Int.toNat_natCast] at s0 s1 s2
   subst eA
   have HT := Aside0.mk (fe_take (fun s => decide (0 ≤ s.f0) && e.getD s.f0.toNat false) q i hlt)
   have HB := Aside0.mk (fun hb => fe_bad (fun s => decide (0 ≤ s.f0) && e.getD s.f0.toNat false) q i hlt hb)
   have hlt2 := HO.out _ (List.getElem_mem hlt)
   generalize q[i] = x at *
   by_cases h0 : 0 ≤ x.f0
   ·obtain ⟨ad2, eA2, hc2⟩ := Kd.at_bool HE.out x.f0 h0 hlt2
    subst eA2
    rw [show rdOf false e x.f0 = e.getD x.f0.toNat false from rfl] at hc2
    have hd : decide (0 ≤ x.f0) = true := decide_eq_true h0
    rw [hd] at HT HB
    clear hd
    cases hv : e.getD x.f0.toNat false with
    | false =>
     rw [hv] at hc2 HT HB
     have hr : r = false := HR.out.symm.trans (HB.out rfl)
     subst hr
     clear hv
     go_wp2
     go_ret
     exact ⟨rfl, rfl⟩
    | true =>
     rw [hv] at hc2 HT
     clear hv
     go_wp2
     go_round
     case rel => exact ⟨i + 1, by omega, by go_num, ⟨by unfold nothB at hall ⊢; rw [HT.out, hall.out]; rfl⟩⟩
     case measure => simp [intOf]; omega
   ·have hd : decide (0 ≤ x.f0) = false := decide_eq_false h0
    rw [hd] at HB
    have hr : r = false := HR.out.symm.trans (HB.out rfl)
    subst hr
    clear hd
    go_wp2
    go_ret
    exact ⟨rfl, rfl⟩
  ·obtain rfl : i = q.length := by omega
   rw [List.take_length] at hall
   have hr : r = true := HR.out.symm.trans hall.out
   subst hr
   go_wp2
   go_ret
   exact ⟨rfl, rfl⟩
theorem stepE_alt (h : Int) (q : List S68) (s : List Bool) (hh : h.toNat < s.length) : (if nothB s q = true then s.set h.toNat true else s) = stepE h q s := by
 unfold stepE
 by_cases hn : nothB s q = true
 ·rw [if_pos hn]
  cases hv : s.getD h.toNat false with
  | false => rw [if_pos ⟨rfl, hn⟩]
  | true =>
   rw [if_neg (by simp)]
   have e2 : s[h.toNat] = true := by rw [List.getD_eq_getElem?_getD, List.getElem?_eq_getElem hh] at hv; exact hv
   rw [← e2]
   exact List.set_getElem_self hh
 ·rw [if_neg hn, if_neg (fun h => hn h.2)]
theorem passC_len {α : Type} (step : Int → List S68 → List α → List α) (hs : ∀ h q s, (step h q s).length = s.length) (h : Int) (cs : List S58) (s : List α) : (passC step h cs s).length = s.length := fold_len _ (fun s c => hs _ _ _) _ _
def templeref6_Empty.f (k : Nat) (a0_0 : Int) (l0_1 : List ByteArray) (l0_2 : List (S55)) : Option (List Bool × Int) := (templeref1_May.f k a0_0 l0_1 l0_2).bind fun b => if b = true then (if mayB a0_0 l0_1 l0_2 = true then some (emptyL l0_1 l0_2, 0) else none) else some ([], 1200)
theorem templeref6_Empty.mono : ∀ a0 a1 a2 k, LeO (templeref6_Empty.f k a0 a1 a2) (templeref6_Empty.f (k + 1) a0 a1 a2) := fun a0 a1 a2 k => LeO.bind (templeref1_May.mono _ _ _ _) (fun _ => LeO.refl _)
set_option maxHeartbeats 8000000 in
set_option maxRecDepth 100000 in
theorem templeref6_Empty.calls (k : Nat) (a0_0 : Int) (A0_1 : Option Addr) (c0_1 : Nat) (l0_1 : List ByteArray) (A0_2 : Option Addr) (c0_2 : Nat) (l0_2 : List (S55)) (r1 : List Bool) (r2 : Int) (w : World) (hr0_1 : Kd.C Kd.string w A0_1 l0_1.length l0_1) (hc0_1 : l0_1.length ≤ c0_1) (hr0_2 : Kd.C k55 w A0_2 l0_2.length l0_2) (hc0_2 : l0_2.length ≤ c0_2) (h : templeref6_Empty.f k a0_0 l0_1 l0_2 = some (r1, r2)) :
  Calls Try.prog 11 #[.agg #[.int .i64 a0_0, .slice A0_1 l0_1.length c0_1, .slice A0_2 l0_2.length c0_2]] w fun e w' => ∃ v0_ : Value, e = .returned (.tuple #[v0_, .int .i64 r2]) ∧ Kd.R Kd.bool 4 w' w.heap.size (fun _ => True) v0_ r1 ∧ Below w.heap.size w w' := by
 unfold templeref6_Empty.f at h
 obtain ⟨b, hmay, h⟩ := Option.bind_eq_some_iff.mp h
 have HMAY := Aside0.mk hmay
 have H1 := Aside0.mk hr0_1
 have H2 := Aside0.mk hr0_2
 clear hr0_1 hr0_2 hmay
 cases b with
 | false =>
  rw [if_neg (by decide)] at h
  obtain ⟨rfl, rfl⟩ := Prod.mk.inj (Option.some.inj h)
  clear h
  go_enter Try.func11, Try.ntmps11
  go_wp2_with (go_at_call 25; refine (templeref1_May.calls _ _ _ _ _ _ _ _ _ _ (Kd.C_alloc H1.out _) hc0_1 (Kd.C_alloc H2.out _) hc0_2 HMAY.out).mono ?_; rintro e w1 ⟨rfl, hb1⟩)
  go_ret2
  exact ⟨_, rfl, Kd.R_nil _ _ _ _ _, ((Below.refl _ _).alloc (Nat.le_refl _) _).trans (hb1.mono (by simp))⟩
 | true =>
  rw [if_pos rfl] at h
  have hm : mayB a0_0 l0_1 l0_2 = true := by
   by_cases hm : mayB a0_0 l0_1 l0_2 = true
   ·exact hm
   ·rw [if_neg hm] at h; cases h
  rw [if_pos hm] at h
  obtain ⟨rfl, rfl⟩ := Prod.mk.inj (Option.some.inj h)
  have F := may_facts hm
  have HF := Aside0.mk F
  obtain ⟨n1, n2, s0, s1, _, r2, _, _, _, _, _⟩ := F
  clear h hm
  have hmk := print_make_of (P := Try.prog) 27 4 (.bool false) 1 Try.underlying27 fe_info4 rfl (by decide) l0_1.length (by omega)
  rw [made_rowV] at hmk
  go_enter Try.func11, Try.ntmps11
  go_wp2_with (first
   | (go_at_call 25; refine (templeref1_May.calls _ _ _ _ _ _ _ _ _ _ (Kd.C_alloc H1.out _) hc0_1 (Kd.C_alloc H2.out _) hc0_2 HMAY.out).mono ?_; rintro e w1 ⟨rfl, hb1⟩; have HB1 := Aside0.mk hb1; have HG : Aside0 (w1.heap[w.heap.size]? = some (.cells #[.int .i64 a0_0, .slice A0_1 l0_1.length c0_1, .slice A0_2 l0_2.length c0_2] 25 (0, 0))) := ⟨blk_below (blk_new _ _) hb1⟩; have k1 : w1.cell? ⟨w.heap.size, 1, none⟩ = some (.slice A0_1 l0_1.length c0_1) := (blk_cell HG.out 1).trans rfl; have hz := hb1.size; simp at hz; have lt1 : w.heap.size < w1.heap.size := hz; clear hb1))
  have hne : w.heap.size ≠ w1.heap.size := Nat.ne_of_lt lt1
  have hlen : ∀ m, (iterT (passT stepE l0_2) m (startE l0_1.length)).length = l0_1.length := fun m => by
   rw [iterT_len _ (fun s => passT_len stepE stepE_len l0_2 s)]
   unfold startE
   rw [List.length_replicate]
  have HLEN := Aside0.mk hlen
  clear hlen
  go_loopw [5] (fun v wr => ∃ m : Nat, m ≤ l0_1.length + 1 ∧ v = .int .i64 m ∧ Aside0 (wr.heap[w.heap.size]? = some (.cells #[.int .i64 a0_0, .slice A0_1 l0_1.length c0_1, .slice A0_2 l0_2.length c0_2] 25 (0, 0))) ∧ Aside0 (wr.heap[w1.heap.size]? = some (.cells (rowV encB (iterT (passT stepE l0_2) m (startE l0_1.length))) 4 (0, 0))) ∧ Aside0 (Below w.heap.size w wr)) (fun v _ => l0_1.length + 1 - (intOf v).toNat)
  case atStart => exact ⟨0, by omega, rfl, ⟨blk_alloc HG.out _⟩, ⟨blk_new _ _⟩, ⟨(((Below.refl _ _).alloc (Nat.le_refl _) _).trans (HB1.out.mono (by simp))).alloc (by omega) _⟩⟩
  case round =>
   clear k1 HG HB1
   obtain ⟨m, hm, rfl, HG, HD, HB⟩ := hrel
   have g1 : wr.cell? ⟨w.heap.size, 1, none⟩ = some (.slice A0_1 l0_1.length c0_1) := (blk_cell HG.out 1).trans rfl
   by_cases hmn : m ≤ l0_1.length
   ·obtain ⟨wo, rfl⟩ : ∃ wo : World, wo = wr := ⟨_, rfl⟩
    have hs0 := HLEN.out m
    obtain ⟨s, HS⟩ : ∃ s, Aside0 (iterT (passT stepE l0_2) m (startE l0_1.length) = s) := ⟨_, ⟨rfl⟩⟩
    rw [HS.out] at hs0 HD
    have HS0 := Aside0.mk hs0
    clear hs0
    go_wp2
    go_loopw [6] (fun v wi => ∃ i : Nat, i ≤ l0_2.length ∧ v = .int .i64 i ∧ Aside0 (wi.heap[w.heap.size]? = some (.cells #[.int .i64 a0_0, .slice A0_1 l0_1.length c0_1, .slice A0_2 l0_2.length c0_2] 25 (0, 0))) ∧ Aside0 (wi.heap[w1.heap.size]? = some (.cells (rowV encB (passT stepE (l0_2.take i) s)) 4 (0, 0))) ∧ Aside0 (Below w.heap.size w wi)) (fun v _ => l0_2.length - (intOf v).toNat)
    case atStart => exact ⟨0, by omega, rfl, HG, HD, HB⟩
    case round =>
     clear g1 HG HD HB
     obtain ⟨i, hi, rfl, HG, HD, HB⟩ := hrel
     have g2 : wr.cell? ⟨w.heap.size, 2, none⟩ = some (.slice A0_2 l0_2.length c0_2) := (blk_cell HG.out 2).trans rfl
     by_cases hlt : i < l0_2.length
     ·obtain ⟨ad, A1, c1, eA, q0, q1, hc1, hC1⟩ := at_T55 H2.out (i : Int) (by omega) (by omega)
      rw [fe_rdrule _ _ hlt] at q0 q1 hc1 hC1
      rw [Int.toNat_natCast] at q0 q1
      have Q0 := Aside0.mk q0
      have Q1 := Aside0.mk q1
      clear q0 q1
      subst eA
      have HX := Aside0.mk (fe_passT_take stepE l0_2 i hlt s)
      have hmem := List.getElem_mem hlt
      generalize l0_2[i] = x at *
      have HC1 := Aside0.mk hC1
      have hxl := HF.out.cj x hmem
      have hx0 := HF.out.hd0 x hmem
      have hx1 := HF.out.hd1 x hmem
      have HME := Aside0.mk hmem
      clear hC1 hmem
      obtain ⟨s2, HS2⟩ : ∃ s2, Aside0 (passT stepE (l0_2.take i) s = s2) := ⟨_, ⟨rfl⟩⟩
      have hs2 : s2.length = l0_1.length := by rw [← HS2.out, passT_len stepE stepE_len, HS0.out]
      rw [HS2.out] at HD HX
      have HL2 := Aside0.mk hs2
      clear hs2
      obtain ⟨wp, rfl⟩ : ∃ wp : World, wp = wr := ⟨_, rfl⟩
      go_wp2
      go_loopw [7] (fun v wj => ∃ j : Nat, j ≤ x.f1.length ∧ v = .int .i64 j ∧ Aside0 (wj.heap[w.heap.size]? = some (.cells #[.int .i64 a0_0, .slice A0_1 l0_1.length c0_1, .slice (some ad) l0_2.length c0_2] 25 (0, 0))) ∧ Aside0 (wj.heap[w1.heap.size]? = some (.cells (rowV encB (passC stepE x.f0 (x.f1.take j) s2)) 4 (0, 0))) ∧ Aside0 (Below w.heap.size w wj)) (fun v _ => x.f1.length - (intOf v).toNat)
      case atStart => exact ⟨0, by omega, rfl, HG, HD, HB⟩
      case round =>
       clear g2 HG HD HB
       obtain ⟨j, hj, rfl, HG, HD, HB⟩ := hrel
       have g2 : wr.cell? ⟨w.heap.size, 2, none⟩ = some (.slice (some ad) l0_2.length c0_2) := (blk_cell HG.out 2).trans rfl
       have q0 := pw_cell_below HB.out Q0.out
       have q1 := pw_cell_below HB.out Q1.out
       by_cases hjl : j < x.f1.length
       ·obtain ⟨ad2, A2, c2, eA2, p0, p1, hc2, hC2⟩ := at_T58 HC1.out (j : Int) (by omega) (by omega)
        rw [fe_rdconj _ _ hjl] at p0 p1 hc2 hC2
        rw [Int.toNat_natCast] at p0 p1
        replace p0 := pw_cell_below HB.out p0
        replace p1 := pw_cell_below HB.out p1
        subst eA2
        have HY := Aside0.mk (fe_passC_take stepE x.f0 x.f1 j hjl s2)
        have hmem := List.getElem_mem hjl
        generalize x.f1[j] = y at *
        have HC2 := Aside0.mk hC2
        have HMY := Aside0.mk hmem
        clear hC2 hmem
        obtain ⟨s3, HS3⟩ : ∃ s3, Aside0 (passC stepE x.f0 (x.f1.take j) s2 = s3) := ⟨_, ⟨rfl⟩⟩
        have hs3 : s3.length = l0_1.length := by rw [← HS3.out, passC_len stepE stepE_len, HL2.out]
        rw [HS3.out] at HD HY
        have HL3 := Aside0.mk hs3
        have CD := Aside0.mk (rowV_C encB_len (d := Kd.bool) (fun _ _ => rfl) rfl HD.out (by omega))
        have HQQ := Aside0.mk (fun z hz => by have := symB_lt (HF.out.sy x HME.out y HMY.out z hz) n1; rwa [← hs3] at this)
        have hql := HF.out.sq x HME.out y HMY.out
        have hst := stepE_alt x.f0 y.f1 s3 (by omega)
        have ka : wr.cell? ⟨w1.heap.size, x.f0.toNat, none⟩ = some (.bool (s3.getD x.f0.toNat false)) := (blk_cell HD.out x.f0.toNat).trans (by have h := rowV_get encB_len s3 x.f0.toNat 0 (by omega) (by omega); rw [Nat.mul_one, Nat.add_zero] at h; rw [h, List.getD_eq_getElem?_getD, List.getElem?_eq_getElem (show x.f0.toNat < s3.length by omega)]; rfl)
        have kf := blk_frozen HD.out x.f0.toNat
        have hxs : x.f0.toNat < s3.length := by omega
        clear hs3
        have hall := fe_allEmpty y.f1 A2 c2 s3 (some ⟨w1.heap.size, 0, none⟩) l0_1.length wr (Kd.C_below HC2.out HB.out) CD.out HQQ.out hql
        obtain ⟨b, HN⟩ : ∃ b, Aside0 (nothB s3 y.f1 = b) := ⟨_, ⟨rfl⟩⟩
        rw [HL3.out, HN.out] at hall
        have HALL := Aside0.mk hall
        rw [HN.out] at hst
        have HST := Aside0.mk hst
        have HSL := Aside0.mk hxs
        clear hall hst hxs
        cases b with
        | false =>
         clear ka kf
         go_wp2_with (go_at_call 33; refine HALL.out.mono ?_; rintro e2 w2 ⟨rfl, rfl⟩)
         go_roundw
         case rel => exact ⟨j + 1, by omega, by go_num, HG, ⟨by rw [HY.out, ← HST.out]; exact HD.out⟩, HB⟩
         case measure => simp [intOf]; omega
        | true =>
         go_wp2_with (go_at_call 33; refine HALL.out.mono ?_; rintro e2 w2 ⟨rfl, rfl⟩)
         go_roundw
         case rel => exact ⟨j + 1, by omega, by go_num, ⟨blk_far HG.out hne _⟩, ⟨by rw [HY.out, ← HST.out, if_pos (by first | rfl | trivial), ← encB_set _ _ _ HSL.out]; exact blk_put HD.out _ _ rfl⟩, ⟨below_set HB.out (by omega)⟩⟩
         case measure => simp [intOf]; omega
       ·obtain rfl : j = x.f1.length := by omega
        rw [List.take_length] at HD
        go_wp2
        go_roundw
        case rel => exact ⟨i + 1, by omega, by go_num, HG, ⟨by rw [HX.out]; exact HD.out⟩, HB⟩
        case measure => simp [intOf]; omega
     ·obtain rfl : i = l0_2.length := by omega
      rw [List.take_length] at HD
      go_wp2
      go_roundw
      case rel => exact ⟨m + 1, by omega, by go_num, HG, ⟨by rw [iterT, HS.out]; exact HD.out⟩, HB⟩
      case measure => simp [intOf]; omega
   ·obtain rfl : m = l0_1.length + 1 := by omega
    have hl := HLEN.out (l0_1.length + 1)
    go_wp2
    go_ret2
    refine ⟨_, rfl, ?_, HB.out⟩
    have hr := rowV_R encB_len (d := Kd.bool) (fun _ _ _ _ => rfl) rfl (e := 4) (base := w.heap.size) (ok := fun _ => True) HD.out (by rw [hl]; unfold maxLen; omega) (by omega) trivial
    rw [hl] at hr
    exact hr


end Go.Proofs.Ytpilkfodlhhjpaa.PFA
