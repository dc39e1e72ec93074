-- written by a program of the session's (wip/myprint.py) out of the translation
import Derived.Test.YtpilkfodlhhjpaaPFMx0
import Derived.Test.YtpilkfodlhhjpaaPFMx2
namespace Go.Proofs.Ytpilkfodlhhjpaa.PFM
open Go.RowKit Go.Proofs.YtpilkfodlhhjpaaW.PrintWords Go.Proofs.YtpilkfodlhhjpaaW.PrintLast Go.Proofs.YtpilkfodlhhjpaaW.PrintMore
attribute [local go_sem] max2_int min2_int max_two min_two max_three min_three max_four min_four   -- for this text's walks alone
set_option linter.unusedVariables false
set_option linter.unusedSimpArgs false

/-! ### gram_May: function 29 -/
def symB (n : Int) (s : S68) : Bool := if s.f0 = -1 then decide (0 ≤ s.f1 ∧ s.f1 ≤ s.f2 ∧ s.f2 ≤ 255) else decide (0 ≤ s.f0 ∧ s.f0 < n ∧ s.f1 = 0 ∧ s.f2 = 0)
def conjB (n : Int) (c : S58) : Bool := decide (c.f1.length ≤ 64) && c.f1.all (symB n)
def ruleB (n : Int) (r : S55) : Bool := decide (1 ≤ r.f1.length ∧ r.f1.length ≤ 8) && r.f1.all (conjB n)
def cntR (cs : List S58) : Nat := (cs.map (fun c => c.f1.length)).sum
theorem symbol_eq (n : Int) (s : S68) : gram_symbol.f s.f0 s.f1 s.f2 n = some (symB n s) := by
 unfold gram_symbol.f symB
 repeat' split
 all_goals (congr 1; first | (rw [Bool.eq_iff_iff]; simp; omega) | (rw [eq_comm, decide_eq_false_iff_not]; omega))
theorem cntR_take (cs : List S58) (i : Nat) (h : i < cs.length) : cntR (cs.take (i + 1)) = cntR (cs.take i) + cs[i].f1.length := by
 unfold cntR
 rw [List.take_succ_eq_append_getElem h, List.map_append, List.sum_append]
 simp
theorem cntR_le (n : Int) : ∀ (cs : List S58), cs.all (conjB n) = true → cntR cs ≤ 64 * cs.length
 | [], _ => by simp [cntR]
 | c :: cs, h => by
  rw [List.all_cons, Bool.and_eq_true] at h
  have ih := cntR_le n cs h.2
  have h1 : c.f1.length ≤ 64 := by
   have := h.1
   unfold conjB at this
   rw [Bool.and_eq_true] at this
   simpa using this.1
  unfold cntR at ih ⊢
  simp only [List.map_cons, List.sum_cons, List.length_cons]
  omega
theorem all_take {α : Type} (p : α → Bool) (l : List α) (i : Nat) (h : i < l.length) : (l.take (i + 1)).all p = ((l.take i).all p && p l[i]) := by
 rw [List.take_succ_eq_append_getElem h, List.all_append]
 simp
theorem all_bad {α : Type} (p : α → Bool) (l : List α) (i : Nat) (h : i < l.length) (hb : p l[i] = false) : l.all p = false := by
 rw [List.all_eq_false]
 exact ⟨l[i], List.getElem_mem h, by simp [hb]⟩
theorem rd_sym (l : List S68) (i : Nat) (h : i < l.length) : rd_T68 l (i : Int) = l[i] := by
 unfold rd_T68
 rw [Int.toNat_natCast, List.getD_eq_getElem?_getD, List.getElem?_eq_getElem h]
 rfl
theorem rd_conj (l : List S58) (i : Nat) (h : i < l.length) : rd_T58 l (i : Int) = l[i] := by
 unfold rd_T58
 rw [Int.toNat_natCast, List.getD_eq_getElem?_getD, List.getElem?_eq_getElem h]
 rfl
theorem rd_rule (l : List S55) (i : Nat) (h : i < l.length) : rd_T55 l (i : Int) = l[i] := by
 unfold rd_T55
 rw [Int.toNat_natCast, List.getD_eq_getElem?_getD, List.getElem?_eq_getElem h]
 rfl
set_option maxHeartbeats 4000000 in
theorem rule_calls (p : Addr) (x : S55) (n : Int) (A : Option Addr) (c : Nat) (r1 : Int) (r2 : Bool) (w : World) (hp : w.cell? ⟨p.block, p.off + 1, none⟩ = some (.slice A x.f1.length c)) (hr : Kd.C k58 w A x.f1.length x.f1) (hres : (if ruleB n x then (cntR x.f1 : Int) else 0) = r1 ∧ ruleB n x = r2) :
  Calls Try.prog 50 #[.pointer (some p), .int .i64 n] w fun e w' => e = .returned (.tuple #[.int .i64 r1, .bool r2]) ∧ Below w.heap.size w w' := by
 have HR := Aside0.mk hr
 clear hr
 have H := Aside0.mk hres
 clear hres
 have bad : ruleB n x = false → r1 = 0 ∧ r2 = false := by
  intro h
  have := H.out
  rw [h] at this
  exact ⟨this.1.symm, this.2.symm⟩
 by_cases h1 : x.f1.length < 1
 ·obtain ⟨rfl, rfl⟩ := bad (by unfold ruleB; rw [show decide (1 ≤ x.f1.length ∧ x.f1.length ≤ 8) = false from by simp; omega, Bool.false_and])
  clear bad
  go_enter Try.func50, Try.ntmps50
  go_wp2
  go_ret2
  exact ⟨rfl, Below.refl _ _⟩
 by_cases h2 : 8 < x.f1.length
 ·obtain ⟨rfl, rfl⟩ := bad (by unfold ruleB; rw [show decide (1 ≤ x.f1.length ∧ x.f1.length ≤ 8) = false from by simp; omega, Bool.false_and])
  clear bad
  go_enter Try.func50, Try.ntmps50
  go_wp2
  go_ret2
  exact ⟨rfl, Below.refl _ _⟩
 have e : ruleB n x = x.f1.all (conjB n) := by unfold ruleB; rw [show decide (1 ≤ x.f1.length ∧ x.f1.length ≤ 8) = true from by simp; omega, Bool.true_and]
 rw [e] at H bad
 clear e
 have BAD := Aside0.mk bad
 clear bad
 have hl8 : x.f1.length ≤ 8 := by omega
 go_enter Try.func50, Try.ntmps50
 go_wp2
 go_loopw [6, 30] (fun m v wr => ∃ i : Nat, i ≤ x.f1.length ∧ v = .int .i64 i ∧ m = .int .i64 (cntR (x.f1.take i) : Nat) ∧ Aside0 ((x.f1.take i).all (conjB n) = true) ∧ Aside0 (Below w.heap.size w wr)) (fun _ v _ => x.f1.length - (intOf v).toNat)
 case atStart => exact ⟨0, by omega, rfl, rfl, ⟨rfl⟩, ⟨Below.refl _ _⟩⟩
 case round =>
  obtain ⟨i, hi, rfl, rfl, hall, hb⟩ := hrel
  by_cases hlt : i < x.f1.length
  ·obtain ⟨ad, A1, c1, eA, g0, g1, hc1, hC⟩ := at_T58 (Kd.C_below HR.out hb.out) (i : Int) (by omega) (by omega)
   rw [rd_conj _ _ hlt] at g0 g1 hc1 hC
   rw [Int.toNat_natCast] at g0 g1
   subst eA
   have hcl : cntR (x.f1.take i) ≤ 64 * i := by
    have := cntR_le n _ hall.out
    rw [List.length_take] at this
    omega
   have HT := Aside0.mk (cntR_take x.f1 i hlt)
   have HAT := Aside0.mk (all_take (conjB n) x.f1 i hlt)
   have HAB := Aside0.mk (fun hb => all_bad (conjB n) x.f1 i hlt hb)
   generalize x.f1[i] = y at *
   have HC := Aside0.mk hC
   clear hC
   by_cases h64 : 64 < y.f1.length
   ·obtain ⟨rfl, rfl⟩ := BAD.out (HAB.out (by unfold conjB; rw [show decide (y.f1.length ≤ 64) = false from by simp; omega, Bool.false_and]))
    go_wp2
    go_ret2
    exact ⟨rfl, (hb.out.alloc hb.out.size _)⟩
   ·have hle : y.f1.length ≤ 64 := by omega
    obtain ⟨wo, rfl⟩ : ∃ wo : World, wo = wr := ⟨_, rfl⟩
    go_wp2
    go_loopw [41] (fun v wi => ∃ j : Nat, j ≤ y.f1.length ∧ v = .int .i64 j ∧ Aside0 ((y.f1.take j).all (symB n) = true) ∧ Aside0 (wi.heap[wo.heap.size]? = some (.cells #[.bool y.f0, .slice A1 y.f1.length c1] 58 (0, 0))) ∧ Aside0 (Below wo.heap.size wo wi)) (fun v _ => y.f1.length - (intOf v).toNat)
    case atStart => exact ⟨0, by omega, rfl, ⟨rfl⟩, ⟨blk_new _ _⟩, ⟨(Below.refl _ _).alloc (Nat.le_refl _) _⟩⟩
    case round =>
     obtain ⟨j, hj, rfl, hsy, hbk, hb2⟩ := hrel
     by_cases hjl : j < y.f1.length
     ·obtain ⟨ad2, eA2, s0, s1, s2⟩ := at_T68 (Kd.C_below HC.out hb2.out) (j : Int) (by omega) (by omega)
      rw [rd_sym _ _ hjl] at s0 s1 s2
      rw [Int.toNat_natCast] at s0 s1 s2
      subst eA2
      have HST := Aside0.mk (all_take (symB n) y.f1 j hjl)
      have HSB := Aside0.mk (fun hb => all_bad (symB n) y.f1 j hjl hb)
      generalize y.f1[j] = z at *
      have HZ := Aside0.mk (symbol_eq n z)
      cases hz : symB n z with
      | false =>
       rw [hz] at HZ
       obtain ⟨rfl, rfl⟩ := BAD.out (HAB.out (by unfold conjB; rw [HSB.out hz, Bool.and_false]))
       clear hz
       go_wp2_with (first | (go_at_call 65; refine (gram_symbol.calls _ _ _ _ _ _ HZ.out).mono ?_; rintro e w1 ⟨rfl, hb3⟩))
       go_ret2
       exact ⟨rfl, below_step (below_step hb.out hb2.out |>.alloc (below_step hb.out hb2.out).size _) hb3⟩
      | true =>
       rw [hz] at HZ HST
       clear hz
       go_wp2_with (first | (go_at_call 65; refine (gram_symbol.calls _ _ _ _ _ _ HZ.out).mono ?_; rintro e w1 ⟨rfl, hb3⟩; have HB3 := Aside0.mk hb3; clear hb3))
       go_roundw
       case rel => exact ⟨j + 1, by omega, by go_num, ⟨by rw [HST.out, hsy.out]; rfl⟩, ⟨blk_below (blk_alloc hbk.out _) HB3.out⟩, ⟨below_step (hb2.out.alloc hb2.out.size _) HB3.out⟩⟩
       case measure => simp [intOf]; omega
     ·obtain rfl : j = y.f1.length := by omega
      rw [List.take_length] at hsy
      have k1 : wr.cell? ⟨wo.heap.size, 1, none⟩ = some (.slice A1 y.f1.length c1) := (blk_cell hbk.out 1).trans rfl
      go_wp2
      go_roundw
      case rel => exact ⟨i + 1, by omega, by go_num, by rw [HT.out]; go_num, ⟨by rw [HAT.out, hall.out, Bool.true_and]; unfold conjB; rw [hsy.out, Bool.and_true, decide_eq_true_eq]; exact hle⟩, ⟨below_step hb.out hb2.out⟩⟩
      case measure => simp [intOf]; omega
  ·obtain rfl : i = x.f1.length := by omega
   rw [List.take_length] at hall
   have hres := H.out
   rw [hall.out] at hres
   obtain ⟨rfl, rfl⟩ := hres
   clear H BAD
   go_wp2
   go_ret2
   exact ⟨rfl, hb.out⟩
/-- From the i-th rule on: heads don't fall and leave none out, no more than 1024 symbols. -/
def rulesFrom (n head all : Int) : List S55 → Bool
 | [] => head == n - 1
 | x :: xs => ruleB n x && decide (head ≤ x.f0 ∧ x.f0 ≤ head + 1 ∧ all + cntR x.f1 ≤ 1024) && rulesFrom n x.f0 (all + cntR x.f1) xs
def mayB (start : Int) (names : List ByteArray) (rules : List S55) : Bool :=
 namesOk names && decide (0 ≤ start ∧ start < names.length ∧ 1 ≤ rules.length ∧ rules.length ≤ 256) && rulesFrom names.length (-1) 0 rules && decide ((rules.headD z55).f0 = 0)
def gram_May.f (a0_0 : Int) (l0_1 : List ByteArray) (l0_2 : List (S55)) : Option (Bool) := some (mayB a0_0 l0_1 l0_2)
set_option maxHeartbeats 8000000 in
set_option maxRecDepth 100000 in
theorem gram_May.calls (a0_0 : Int) (A0_1 : Option Addr) (c0_1 : Nat) (l0_1 : List ByteArray) (A0_2 : Option Addr) (c0_2 : Nat) (l0_2 : List (S55)) (r : Bool) (w : World) (hr0_1 : Kd.C Kd.string w A0_1 l0_1.length l0_1) (hc0_1 : l0_1.length ≤ c0_1) (hr0_2 : Kd.C k55 w A0_2 l0_2.length l0_2) (hc0_2 : l0_2.length ≤ c0_2) (h : gram_May.f a0_0 l0_1 l0_2 = some r) :
  Calls Try.prog 29 #[.agg #[.int .i64 a0_0, .slice A0_1 l0_1.length c0_1, .slice A0_2 l0_2.length c0_2]] w fun e w' => e = .returned (.bool r) ∧ Below w.heap.size w w' := by
 unfold gram_May.f at h
 have Hr := Aside0.mk (Option.some.inj h)
 clear h
 unfold mayB at Hr
 have HR1 := Aside0.mk hr0_1
 have HR2 := Aside0.mk hr0_2
 clear hr0_1 hr0_2
 cases hn : namesOk l0_1 with
 | false =>
  rw [hn] at Hr
  simp only [Bool.false_and] at Hr
  have Hn := Aside0.mk (show gram_names.f l0_1 = some false by unfold gram_names.f; rw [hn])
  clear hn
  go_enter Try.func29, Try.ntmps29
  go_wp2_with (first | (go_at_call 49; refine (gram_names.calls _ _ _ _ _ (Kd.C_alloc HR1.out _) hc0_1 Hn.out).mono ?_; rintro e w1 ⟨rfl, hb⟩; have HB := Aside0.mk hb; clear hb))
  go_ret
  exact ⟨by rw [← Hr.out]; rfl, below_step ((Below.refl _ _).alloc (Nat.le_refl _) _) HB.out⟩
 | true =>
  rw [hn, Bool.true_and] at Hr
  have Hn := Aside0.mk (show gram_names.f l0_1 = some true by unfold gram_names.f; rw [hn])
  have hL : l0_1.length ≤ 64 := by
   unfold namesOk at hn
   rw [Bool.and_eq_true, decide_eq_true_eq] at hn
   exact hn.1.2
  clear hn
  by_cases q1 : a0_0 < 0
  ·have HF := Aside0.mk (show false = r by rw [← Hr.out]; rw [show decide (0 ≤ a0_0 ∧ a0_0 < l0_1.length ∧ 1 ≤ l0_2.length ∧ l0_2.length ≤ 256) = false from by simp only [decide_eq_false_iff_not]; omega]; simp)
   clear Hr
   go_enter Try.func29, Try.ntmps29
   go_wp2_with (first | (go_at_call 49; refine (gram_names.calls _ _ _ _ _ (Kd.C_alloc HR1.out _) hc0_1 Hn.out).mono ?_; rintro e w1 ⟨rfl, hb⟩; have HB : Aside0 (Below w.heap.size w w1) := ⟨below_step ((Below.refl _ _).alloc (Nat.le_refl _) _) hb⟩; have HK : Aside0 (w1.heap[w.heap.size]? = some (.cells #[.int .i64 a0_0, .slice A0_1 l0_1.length c0_1, .slice A0_2 l0_2.length c0_2] 25 (0, 0))) := ⟨(hb.block _ (by simp)).trans (blk_new _ _)⟩; clear hb; have k0 : w1.cell? ⟨w.heap.size, 0, none⟩ = some (.int .i64 a0_0) := (blk_cell HK.out 0).trans rfl; have k1 : w1.cell? ⟨w.heap.size, 1, none⟩ = some (.slice A0_1 l0_1.length c0_1) := (blk_cell HK.out 1).trans rfl; have k2 : w1.cell? ⟨w.heap.size, 2, none⟩ = some (.slice A0_2 l0_2.length c0_2) := (blk_cell HK.out 2).trans rfl))
   go_ret
   exact ⟨by rw [← HF.out]; rfl, HB.out⟩
  by_cases q2 : (l0_1.length : Int) ≤ a0_0
  ·have HF := Aside0.mk (show false = r by rw [← Hr.out]; rw [show decide (0 ≤ a0_0 ∧ a0_0 < l0_1.length ∧ 1 ≤ l0_2.length ∧ l0_2.length ≤ 256) = false from by simp only [decide_eq_false_iff_not]; omega]; simp)
   clear Hr
   go_enter Try.func29, Try.ntmps29
   go_wp2_with (first | (go_at_call 49; refine (gram_names.calls _ _ _ _ _ (Kd.C_alloc HR1.out _) hc0_1 Hn.out).mono ?_; rintro e w1 ⟨rfl, hb⟩; have HB : Aside0 (Below w.heap.size w w1) := ⟨below_step ((Below.refl _ _).alloc (Nat.le_refl _) _) hb⟩; have HK : Aside0 (w1.heap[w.heap.size]? = some (.cells #[.int .i64 a0_0, .slice A0_1 l0_1.length c0_1, .slice A0_2 l0_2.length c0_2] 25 (0, 0))) := ⟨(hb.block _ (by simp)).trans (blk_new _ _)⟩; clear hb; have k0 : w1.cell? ⟨w.heap.size, 0, none⟩ = some (.int .i64 a0_0) := (blk_cell HK.out 0).trans rfl; have k1 : w1.cell? ⟨w.heap.size, 1, none⟩ = some (.slice A0_1 l0_1.length c0_1) := (blk_cell HK.out 1).trans rfl; have k2 : w1.cell? ⟨w.heap.size, 2, none⟩ = some (.slice A0_2 l0_2.length c0_2) := (blk_cell HK.out 2).trans rfl))
   go_ret
   exact ⟨by rw [← HF.out]; rfl, HB.out⟩
  by_cases q3 : l0_2.length < 1
  ·have HF := Aside0.mk (show false = r by rw [← Hr.out]; rw [show decide (0 ≤ a0_0 ∧ a0_0 < l0_1.length ∧ 1 ≤ l0_2.length ∧ l0_2.length ≤ 256) = false from by simp only [decide_eq_false_iff_not]; omega]; simp)
   clear Hr
   go_enter Try.func29, Try.ntmps29
   go_wp2_with (first | (go_at_call 49; refine (gram_names.calls _ _ _ _ _ (Kd.C_alloc HR1.out _) hc0_1 Hn.out).mono ?_; rintro e w1 ⟨rfl, hb⟩; have HB : Aside0 (Below w.heap.size w w1) := ⟨below_step ((Below.refl _ _).alloc (Nat.le_refl _) _) hb⟩; have HK : Aside0 (w1.heap[w.heap.size]? = some (.cells #[.int .i64 a0_0, .slice A0_1 l0_1.length c0_1, .slice A0_2 l0_2.length c0_2] 25 (0, 0))) := ⟨(hb.block _ (by simp)).trans (blk_new _ _)⟩; clear hb; have k0 : w1.cell? ⟨w.heap.size, 0, none⟩ = some (.int .i64 a0_0) := (blk_cell HK.out 0).trans rfl; have k1 : w1.cell? ⟨w.heap.size, 1, none⟩ = some (.slice A0_1 l0_1.length c0_1) := (blk_cell HK.out 1).trans rfl; have k2 : w1.cell? ⟨w.heap.size, 2, none⟩ = some (.slice A0_2 l0_2.length c0_2) := (blk_cell HK.out 2).trans rfl))
   go_ret
   exact ⟨by rw [← HF.out]; rfl, HB.out⟩
  by_cases q4 : 256 < l0_2.length
  ·have HF := Aside0.mk (show false = r by rw [← Hr.out]; rw [show decide (0 ≤ a0_0 ∧ a0_0 < l0_1.length ∧ 1 ≤ l0_2.length ∧ l0_2.length ≤ 256) = false from by simp only [decide_eq_false_iff_not]; omega]; simp)
   clear Hr
   go_enter Try.func29, Try.ntmps29
   go_wp2_with (first | (go_at_call 49; refine (gram_names.calls _ _ _ _ _ (Kd.C_alloc HR1.out _) hc0_1 Hn.out).mono ?_; rintro e w1 ⟨rfl, hb⟩; have HB : Aside0 (Below w.heap.size w w1) := ⟨below_step ((Below.refl _ _).alloc (Nat.le_refl _) _) hb⟩; have HK : Aside0 (w1.heap[w.heap.size]? = some (.cells #[.int .i64 a0_0, .slice A0_1 l0_1.length c0_1, .slice A0_2 l0_2.length c0_2] 25 (0, 0))) := ⟨(hb.block _ (by simp)).trans (blk_new _ _)⟩; clear hb; have k0 : w1.cell? ⟨w.heap.size, 0, none⟩ = some (.int .i64 a0_0) := (blk_cell HK.out 0).trans rfl; have k1 : w1.cell? ⟨w.heap.size, 1, none⟩ = some (.slice A0_1 l0_1.length c0_1) := (blk_cell HK.out 1).trans rfl; have k2 : w1.cell? ⟨w.heap.size, 2, none⟩ = some (.slice A0_2 l0_2.length c0_2) := (blk_cell HK.out 2).trans rfl))
   go_ret
   exact ⟨by rw [← HF.out]; rfl, HB.out⟩
  rw [show decide (0 ≤ a0_0 ∧ a0_0 < l0_1.length ∧ 1 ≤ l0_2.length ∧ l0_2.length ≤ 256) = true from by simp only [decide_eq_true_eq]; omega, Bool.true_and] at Hr
  have hb1 : l0_2.length ≤ 256 := by omega
  obtain ⟨T, hT⟩ : ∃ T, rulesFrom l0_1.length (-1) 0 l0_2 = T := ⟨_, rfl⟩
  rw [hT] at Hr
  have HT := Aside0.mk hT
  clear hT
  go_enter Try.func29, Try.ntmps29
  go_wp2_with (first | (go_at_call 49; refine (gram_names.calls _ _ _ _ _ (Kd.C_alloc HR1.out _) hc0_1 Hn.out).mono ?_; rintro e w1 ⟨rfl, hb⟩; have HB : Aside0 (Below w.heap.size w w1) := ⟨below_step ((Below.refl _ _).alloc (Nat.le_refl _) _) hb⟩; have HK : Aside0 (w1.heap[w.heap.size]? = some (.cells #[.int .i64 a0_0, .slice A0_1 l0_1.length c0_1, .slice A0_2 l0_2.length c0_2] 25 (0, 0))) := ⟨(hb.block _ (by simp)).trans (blk_new _ _)⟩; clear hb; have k0 : w1.cell? ⟨w.heap.size, 0, none⟩ = some (.int .i64 a0_0) := (blk_cell HK.out 0).trans rfl; have k1 : w1.cell? ⟨w.heap.size, 1, none⟩ = some (.slice A0_1 l0_1.length c0_1) := (blk_cell HK.out 1).trans rfl; have k2 : w1.cell? ⟨w.heap.size, 2, none⟩ = some (.slice A0_2 l0_2.length c0_2) := (blk_cell HK.out 2).trans rfl))
  go_loopw [3, 4, 41] (fun hd al v wr => ∃ (i : Nat) (head all : Int), i ≤ l0_2.length ∧ v = .int .i64 i ∧ hd = .int .i64 head ∧ al = .int .i64 all ∧ -1 ≤ head ∧ head ≤ (i : Int) - 1 ∧ 0 ≤ all ∧ all ≤ 1024 ∧ Aside0 (rulesFrom l0_1.length head all (l0_2.drop i) = T) ∧ Aside0 (wr.heap[w.heap.size]? = some (.cells #[.int .i64 a0_0, .slice A0_1 l0_1.length c0_1, .slice A0_2 l0_2.length c0_2] 25 (0, 0))) ∧ Aside0 (Below w.heap.size w wr)) (fun _ _ v _ => l0_2.length - (intOf v).toNat)
  case atStart => exact ⟨0, -1, 0, by omega, rfl, rfl, rfl, by omega, by omega, by omega, by omega, HT, HK, HB⟩
  case round =>
   clear k0 k1 k2 HB HK
   obtain ⟨i, head, all, hi, rfl, rfl, rfl, hh1, hh2, ha1, ha2, hrf, hbk, hb⟩ := hrel
   have k1 : wr.cell? ⟨w.heap.size, 1, none⟩ = some (.slice A0_1 l0_1.length c0_1) := (blk_cell hbk.out 1).trans rfl
   have k2 : wr.cell? ⟨w.heap.size, 2, none⟩ = some (.slice A0_2 l0_2.length c0_2) := (blk_cell hbk.out 2).trans rfl
   by_cases hlt : i < l0_2.length
   ·obtain ⟨ad, A1, c1, eA, g0, g1, hc1, hC⟩ := at_T55 (Kd.C_below HR2.out hb.out) (i : Int) (by omega) (by omega)
    rw [rd_rule _ _ hlt] at g0 g1 hc1 hC
    rw [Int.toNat_natCast] at g0 g1
    have hds := hrf.out
    rw [List.drop_eq_getElem_cons hlt] at hds
    unfold rulesFrom at hds
    subst eA
    generalize l0_2[i] = x at *
    have HC := Aside0.mk hC
    have HD := Aside0.mk hds
    clear hC hds hrf
    cases hrb : ruleB l0_1.length x with
    | false =>
     have HRC := Aside0.mk (fun W h1 h2 => rule_calls (ad.add (i * 2)) x l0_1.length A1 c1 0 false W h1 h2 ⟨by rw [hrb]; rfl, hrb⟩)
     rw [hrb] at HD
     simp only [Bool.false_and] at HD
     have HF := Aside0.mk (show false = r by rw [← Hr.out, ← HD.out, Bool.false_and])
     clear Hr HD hrb
     go_wp2_with (first | (go_at_call 50; refine (HRC.out _ g1 HC.out).mono ?_; rintro e w2 ⟨rfl, hb2⟩; have HB2 := Aside0.mk hb2; clear hb2))
     go_ret
     exact ⟨by rw [← HF.out]; rfl, below_step hb.out HB2.out⟩
    | true =>
     have HRC := Aside0.mk (fun W h1 h2 => rule_calls (ad.add (i * 2)) x l0_1.length A1 c1 (cntR x.f1) true W h1 h2 ⟨by rw [hrb]; rfl, hrb⟩)
     rw [hrb, Bool.true_and] at HD
     have hcn : (cntR x.f1 : Int) ≤ 512 := by
      have hq := hrb
      unfold ruleB at hq
      rw [Bool.and_eq_true, decide_eq_true_eq] at hq
      have := cntR_le _ _ hq.2
      omega
     clear hrb
     by_cases p1 : x.f0 < head
     ·have HF := Aside0.mk (show false = r by rw [← Hr.out, ← HD.out, show decide (head ≤ x.f0 ∧ x.f0 ≤ head + 1 ∧ all + cntR x.f1 ≤ 1024) = false from by simp only [decide_eq_false_iff_not]; omega, Bool.false_and, Bool.false_and])
      clear Hr HD
      go_wp2_with (first | (go_at_call 50; refine (HRC.out _ g1 HC.out).mono ?_; rintro e w2 ⟨rfl, hb2⟩; have HB2 := Aside0.mk hb2; clear hb2; have g2 : w2.cell? (ad.add (i * 2)) = some (.int .i64 x.f0) := pw_cell_below HB2.out g0; clear g0))
      go_ret
      exact ⟨by rw [← HF.out]; rfl, below_step hb.out HB2.out⟩
     by_cases p2 : head + 1 < x.f0
     ·have HF := Aside0.mk (show false = r by rw [← Hr.out, ← HD.out, show decide (head ≤ x.f0 ∧ x.f0 ≤ head + 1 ∧ all + cntR x.f1 ≤ 1024) = false from by simp only [decide_eq_false_iff_not]; omega, Bool.false_and, Bool.false_and])
      clear Hr HD
      go_wp2_with (first | (go_at_call 50; refine (HRC.out _ g1 HC.out).mono ?_; rintro e w2 ⟨rfl, hb2⟩; have HB2 := Aside0.mk hb2; clear hb2; have g2 : w2.cell? (ad.add (i * 2)) = some (.int .i64 x.f0) := pw_cell_below HB2.out g0; clear g0))
      go_ret
      exact ⟨by rw [← HF.out]; rfl, below_step hb.out HB2.out⟩
     by_cases p3 : 1024 < all + (cntR x.f1 : Int)
     ·have HF := Aside0.mk (show false = r by rw [← Hr.out, ← HD.out, show decide (head ≤ x.f0 ∧ x.f0 ≤ head + 1 ∧ all + cntR x.f1 ≤ 1024) = false from by simp only [decide_eq_false_iff_not]; omega, Bool.false_and, Bool.false_and])
      clear Hr HD
      go_wp2_with (first | (go_at_call 50; refine (HRC.out _ g1 HC.out).mono ?_; rintro e w2 ⟨rfl, hb2⟩; have HB2 := Aside0.mk hb2; clear hb2; have g2 : w2.cell? (ad.add (i * 2)) = some (.int .i64 x.f0) := pw_cell_below HB2.out g0; clear g0))
      go_ret
      exact ⟨by rw [← HF.out]; rfl, below_step hb.out HB2.out⟩
     rw [show decide (head ≤ x.f0 ∧ x.f0 ≤ head + 1 ∧ all + cntR x.f1 ≤ 1024) = true from by simp only [decide_eq_true_eq]; omega, Bool.true_and] at HD
     have p1' : head ≤ x.f0 := by omega
     have p2' : x.f0 ≤ head + 1 := by omega
     have p3' : all + (cntR x.f1 : Int) ≤ 1024 := by omega
     clear p1 p2 p3
     go_wp2_with (first | (go_at_call 50; refine (HRC.out _ g1 HC.out).mono ?_; rintro e w2 ⟨rfl, hb2⟩; have HB2 := Aside0.mk hb2; clear hb2; have g2 : w2.cell? (ad.add (i * 2)) = some (.int .i64 x.f0) := pw_cell_below HB2.out g0; clear g0))
     go_roundw
     case rel => exact ⟨i + 1, x.f0, all + cntR x.f1, by omega, by go_num, rfl, rfl, by omega, by omega, by omega, by omega, HD, ⟨blk_below hbk.out HB2.out⟩, ⟨below_step hb.out HB2.out⟩⟩
     case measure => simp [intOf]; omega
   ·obtain rfl : i = l0_2.length := by omega
    rw [List.drop_length] at hrf
    obtain ⟨ad, A1, c1, eA, g0, g1, hc1, hC⟩ := at_T55 (Kd.C_below HR2.out hb.out) 0 (by omega) (by omega)
    have hrd : rd_T55 l0_2 0 = l0_2.headD z55 := by
     cases l0_2 with
     | nil => rfl
     | cons _ _ => rfl
    rw [hrd] at g0
    simp only [Int.toNat_zero, Nat.zero_mul] at g0
    subst eA
    have gz : wr.cell? ad = some (.int .i64 (l0_2.headD z55).f0) := g0
    have HF := Aside0.mk (show ((head == (l0_1.length : Int) - 1) && decide ((l0_2.headD z55).f0 = 0)) = r by rw [← Hr.out, ← hrf.out]; rfl)
    clear Hr hrf hrd g1 hc1 hC
    generalize l0_2.headD z55 = x at *
    by_cases s1 : x.f0 = 0
    ·have t0 : (x.f0 == 0) = true := beq_iff_eq.2 s1
     rw [show decide (x.f0 = 0) = true from by simpa using s1, Bool.and_true] at HF
     clear s1
     go_wp2
     go_ret
     exact ⟨by rw [← HF.out]; rfl, hb.out⟩
    ·have t0 : (x.f0 == 0) = false := beq_eq_false_iff_ne.2 s1
     rw [show decide (x.f0 = 0) = false from by simpa using s1, Bool.and_false] at HF
     clear s1
     go_wp2
     go_ret
     exact ⟨by have := HF.out; rw [← this] <;> rfl, hb.out⟩


-- NOT PRINTED: function 30 (first_each)

/-! ### first_Empty: function 10 -/
theorem fe_info4 : (Try.prog.info? 4).map (fun i => (i.zero, i.size, i.bytes)) = some (some (.bool false), 1, 1) := by kernel_rfl
/-- A row of elements as the cells of one whole block. -/
def rowV {α : Type} (enc : α → List Value) (s : List α) : Array Value := (s.flatMap enc).toArray
section
variable {α : Type} {enc : α → List Value} {sz : Nat} (hl : ∀ x, (enc x).length = sz)
include hl
theorem rowV_len (s : List α) : (s.flatMap enc).length = s.length * sz := by
 induction s with
 | nil => simp
 | cons x s ih => rw [List.flatMap_cons, List.length_append, hl, ih, List.length_cons, Nat.succ_mul]; omega
theorem rowV_split (s : List α) (i : Nat) (hi : i < s.length) : s.flatMap enc = (s.take i).flatMap enc ++ (enc s[i] ++ (s.drop (i + 1)).flatMap enc) ∧ ((s.take i).flatMap enc).length = i * sz := by
 constructor
 ·conv => lhs; rw [← List.take_append_drop i s, List.drop_eq_getElem_cons hi, List.flatMap_append, List.flatMap_cons]
 ·rw [rowV_len hl, List.length_take, Nat.min_eq_left (by omega)]
theorem rowV_get (s : List α) (i j : Nat) (hi : i < s.length) (hj : j < sz) : (rowV enc s)[i * sz + j]? = (enc s[i])[j]? := by
 obtain ⟨h1, h2⟩ := rowV_split hl s i hi
 unfold rowV
 rw [List.getElem?_toArray, h1, List.getElem?_append_right (by omega), h2, Nat.add_sub_cancel_left, List.getElem?_append_left (by rw [hl]; exact hj)]
theorem rowV_C {d : Kd α} (hK : ∀ w x, d.K w x (enc x)) (hz : d.sz = sz) {w : World} {g e : Nat} {s : List α} (h : w.heap[g]? = some (.cells (rowV enc s) e (0, 0))) (hs : s.length ≤ 9223372036854775807) : Kd.C d w (some ⟨g, 0, none⟩) s.length s := by
 refine ⟨rfl, hs, fun _ => ⟨_, rfl, fun j p hj => ⟨enc p, by rw [hl, hz], hK w p, fun i u hu => ?_⟩⟩⟩
 obtain ⟨hjl, rfl⟩ := List.getElem?_eq_some_iff.1 hj
 have hi : i < sz := by have := (List.getElem?_eq_some_iff.1 hu).1; rwa [hl] at this
 have hc := (blk_cell h (j * sz + i)).trans (rowV_get hl s j i hjl hi)
 rw [hu] at hc
 rw [hz, add_plain]
 exact hc
theorem rowV_R {d : Kd α} (hM : ∀ w base ok x, d.M w base ok x (enc x)) (hz : d.sz = sz) {w : World} {g e base : Nat} {ok : Nat → Prop} {s : List α} (h : w.heap[g]? = some (.cells (rowV enc s) e (0, 0))) (hs : s.length ≤ maxLen) (hb : base ≤ g) (hok : ok g) : Kd.R d e w base ok (.slice (some ⟨g, 0, none⟩) s.length s.length) s := by
 refine ⟨fun k hk => ?_, s.flatMap enc, ⟨by rw [rowV_len hl, hz], .inr ⟨g, s.length, rowV enc s, rfl, hb, h, Nat.le_refl _, hs, by unfold rowV; rw [List.size_toArray, rowV_len hl, hz], by unfold rowV; rw [List.take_of_length_le (by rw [rowV_len hl, hz]; exact Nat.le_refl _)]⟩⟩, by rw [rowV_len hl, hz], fun j p hj => ?_⟩
 ·have : g = k := by simpa [Value.ownBlock] using hk
  exact this ▸ hok
 ·obtain ⟨hjl, rfl⟩ := List.getElem?_eq_some_iff.1 hj
  obtain ⟨h1, h2⟩ := rowV_split hl s j hjl
  have : ((s.flatMap enc).drop (j * d.sz)).take d.sz = enc s[j] := by
   rw [h1, hz, ← h2, List.drop_left, List.take_append_of_le_length (by rw [hl]; exact Nat.le_refl _), List.take_of_length_le (by rw [hl]; exact Nat.le_refl _)]
  rw [this]
  exact hM _ _ _ _
end
def encB (b : Bool) : List Value := [.bool b]
theorem encB_len (b : Bool) : (encB b).length = 1 := rfl
theorem encB_set (s : List Bool) (i : Nat) (b : Bool) (h : i < s.length) : (rowV encB s).setIfInBounds i (.bool b) = rowV encB (s.set i b) := by
 unfold rowV
 rw [List.setIfInBounds_toArray]
 congr 1
 have e : ∀ s : List Bool, s.flatMap encB = s.map Value.bool := fun s => by
  induction s with
  | nil => rfl
  | cons x s ih => rw [List.flatMap_cons, ih]; rfl
 rw [e, e, List.map_set]
def nothB (e : List Bool) (q : List S68) : Bool := q.all (fun s => decide (0 ≤ s.f0) && e.getD s.f0.toNat false)
theorem fe_take {α : Type} (p : α → Bool) (l : List α) (i : Nat) (h : i < l.length) : (l.take (i + 1)).all p = ((l.take i).all p && p l[i]) := by
 rw [List.take_succ_eq_append_getElem h, List.all_append]
 simp
theorem fe_bad {α : Type} (p : α → Bool) (l : List α) (i : Nat) (h : i < l.length) (hb : p l[i] = false) : l.all p = false := by
 rw [List.all_eq_false]
 exact ⟨l[i], List.getElem_mem h, by simp [hb]⟩
theorem fe_rdsym (l : List S68) (i : Nat) (h : i < l.length) : rd_T68 l (i : Int) = l[i] := by
 unfold rd_T68
 rw [Int.toNat_natCast, List.getD_eq_getElem?_getD, List.getElem?_eq_getElem h]
 rfl
set_option maxHeartbeats 1000000 in
theorem fe_nothing (q : List S68) (A : Option Addr) (c : Nat) (e : List Bool) (Ae : Option Addr) (ce : Nat) (w : World) (hq : Kd.C k68 w A q.length q) (he : Kd.C Kd.bool w Ae e.length e) (hok : ∀ s ∈ q, s.f0 < e.length) (hl : q.length ≤ 64) :
  Calls Try.prog 32 #[.slice A q.length c, .slice Ae e.length ce] w fun e' w' => e' = .returned (.bool (nothB e q)) ∧ Below w.heap.size w w' := by
 have HQ := Aside0.mk hq
 have HE := Aside0.mk he
 have HO := Aside0.mk hok
 clear hq he hok
 obtain ⟨r, HR⟩ : ∃ r, Aside0 (nothB e q = r) := ⟨_, ⟨rfl⟩⟩
 rw [HR.out]
 go_enter Try.func32, Try.ntmps32
 go_wp2
 go_loopw [9] (fun v wr => ∃ i : Nat, i ≤ q.length ∧ v = .int .i64 i ∧ Aside0 (nothB e (q.take i) = true) ∧ Aside0 (Below w.heap.size w wr)) (fun v _ => q.length - (intOf v).toNat)
 case atStart => exact ⟨0, by omega, rfl, ⟨rfl⟩, ⟨Below.refl _ _⟩⟩
 case round =>
  obtain ⟨i, hi, rfl, hall, hb⟩ := hrel
  by_cases hlt : i < q.length
  ·obtain ⟨ad, eA, s0, s1, s2⟩ := at_T68 (Kd.C_below HQ.out hb.out) (i : Int) (by omega) (by omega)
   rw [fe_rdsym _ _ hlt] at s0 s1 s2
   rw [Int.toNat_natCast] at s0 s1 s2
   subst eA
   have HT := Aside0.mk (fe_take (fun s => decide (0 ≤ s.f0) && e.getD s.f0.toNat false) q i hlt)
   have HB := Aside0.mk (fun hb => fe_bad (fun s => decide (0 ≤ s.f0) && e.getD s.f0.toNat false) q i hlt hb)
   have hlt2 := HO.out _ (List.getElem_mem hlt)
   generalize q[i] = x at *
   by_cases h0 : 0 ≤ x.f0
   ·obtain ⟨ad2, eA2, hc2⟩ := Kd.at_bool (Kd.C_below HE.out hb.out) x.f0 h0 hlt2
    subst eA2
    have hrd : rdOf false e x.f0 = e.getD x.f0.toNat false := rfl
    rw [hrd] at hc2
    have hne := World.new_ne wr _ hc2
    have l2 := World.block_lt_of_cell? _ _ hc2
    have hd : decide (0 ≤ x.f0) = true := decide_eq_true h0
    rw [hd] at HT HB
    clear hd hrd
    cases hv : e.getD x.f0.toNat false with
    | false =>
     rw [hv] at hc2 HT HB
     have hr : r = false := HR.out.symm.trans (HB.out rfl)
     subst hr
     clear hv
     go_wp2
     go_ret
     exact ⟨rfl, hb.out.alloc hb.out.size _⟩
    | true =>
     rw [hv] at hc2 HT
     clear hv
     go_wp2
     go_roundw
     case rel => exact ⟨i + 1, by omega, by go_num, ⟨by unfold nothB at hall ⊢; rw [HT.out, hall.out]; rfl⟩, ⟨hb.out.alloc hb.out.size _⟩⟩
     case measure => simp [intOf]; omega
   ·have hd : decide (0 ≤ x.f0) = false := decide_eq_false h0
    rw [hd] at HB
    have hr : r = false := HR.out.symm.trans (HB.out rfl)
    subst hr
    clear hd
    go_wp2
    go_ret
    exact ⟨rfl, hb.out.alloc hb.out.size _⟩
  ·obtain rfl : i = q.length := by omega
   rw [List.take_length] at hall
   have hr : r = true := HR.out.symm.trans hall.out
   subst hr
   go_wp2
   go_ret
   exact ⟨rfl, hb.out⟩
theorem fe_rdrule (l : List S55) (i : Nat) (h : i < l.length) : rd_T55 l (i : Int) = l[i] := by
 unfold rd_T55
 rw [Int.toNat_natCast, List.getD_eq_getElem?_getD, List.getElem?_eq_getElem h]
 rfl
theorem fe_rdconj (l : List S58) (i : Nat) (h : i < l.length) : rd_T58 l (i : Int) = l[i] := by
 unfold rd_T58
 rw [Int.toNat_natCast, List.getD_eq_getElem?_getD, List.getElem?_eq_getElem h]
 rfl
def passC {σ : Type} (step : Int → List S68 → σ → σ) (h : Int) (cs : List S58) (s : σ) : σ := cs.foldl (fun s c => step h c.f1 s) s
def passT {σ : Type} (step : Int → List S68 → σ → σ) (rs : List S55) (s : σ) : σ := rs.foldl (fun s r => passC step r.f0 r.f1 s) s
theorem fe_passT_take {σ : Type} (step : Int → List S68 → σ → σ) (rs : List S55) (i : Nat) (h : i < rs.length) (s : σ) : passT step (rs.take (i + 1)) s = passC step rs[i].f0 rs[i].f1 (passT step (rs.take i) s) := by
 unfold passT
 rw [List.take_succ_eq_append_getElem h, List.foldl_append]
 rfl
theorem fe_passC_take {σ : Type} (step : Int → List S68 → σ → σ) (hd : Int) (cs : List S58) (i : Nat) (h : i < cs.length) (s : σ) : passC step hd (cs.take (i + 1)) s = step hd cs[i].f1 (passC step hd (cs.take i) s) := by
 unfold passC
 rw [List.take_succ_eq_append_getElem h, List.foldl_append]
 rfl
set_option maxHeartbeats 4000000 in
theorem fe_each31 {σ : Type} (μ : σ → Nat) (step : Int → List S68 → σ → σ) (R : σ → World → Prop) (gb ob : Nat) (Ar : Option Addr) (cr : Nat) (rs : List S55) (p0_ : Addr) (w0 : World) (hC : Kd.C k55 w0 Ar rs.length rs) (hrl : rs.length ≤ 256) (hcl : ∀ r ∈ rs, r.f1.length ≤ 8)
  (hRa : ∀ s w1 o, R s w1 → R s (w1.alloc o)) (hRg : ∀ s w1, R s w1 → w1.cell? ⟨gb, 2, none⟩ = some (.slice Ar rs.length cr))
  (hturn : ∀ r ∈ rs, ∀ cj ∈ r.f1, ∀ s w1 A c, R s w1 → Below w0.heap.size w0 w1 → Kd.C k68 w0 A cj.f1.length cj.f1 → cj.f1.length ≤ c → Calls Try.prog 31 #[.int .i64 r.f0, .slice A cj.f1.length c, .pointer (some p0_)] w1 fun e w' => ∃ b, e = .returned (.bool b) ∧ R (step r.f0 cj.f1 s) w' ∧ KeepBut w1 w' ob none ∧ Below w0.heap.size w0 w' ∧ (b = false → step r.f0 cj.f1 s = s) ∧ (b = true → μ (step r.f0 cj.f1 s) < μ s))
  (s0 : σ) (w : World) (h0 : R s0 w) (hob : ob < w.heap.size) (hb0 : Below w0.heap.size w0 w) :
  Calls Try.prog 30 #[.pointer (some ⟨gb, 0, none⟩), .func (.func 31) #[] #[.pointer (some p0_)]] w fun e w' => e = .returned (.tuple #[]) ∧ (∃ m, R (iterT (passT step rs) m s0) w' ∧ passT step rs (iterT (passT step rs) m s0) = iterT (passT step rs) m s0) ∧ Below w0.heap.size w0 w' := by
 have HC := Aside0.mk hC
 have HCL := Aside0.mk hcl
 have HRA := Aside0.mk hRa
 have HRG := Aside0.mk hRg
 have HT := Aside0.mk hturn
 have H0 := Aside0.mk h0
 have HB0 := Aside0.mk hb0
 clear hC hcl hRa hRg hturn h0 hb0
 go_enter Try.func30, Try.ntmps30
 go_wp2
 go_loopg [4] (μ s0 + 1) (fun kq v4 wr => ∃ (s : σ) (b : Bool), v4 = .bool b ∧ Aside0 (∃ m, s = iterT (passT step rs) m s0) ∧ Aside0 (b = false → passT step rs s = s) ∧ Aside0 (R s wr) ∧ Aside0 (Below w0.heap.size w0 wr) ∧ ob < wr.heap.size ∧ Aside0 (μ s + b.toNat ≤ kq))
 case atStart => exact ⟨s0, true, rfl, ⟨0, rfl⟩, ⟨fun h => by cases h⟩, ⟨H0.out⟩, ⟨HB0.out⟩, hob, ⟨Nat.le_refl _⟩⟩
 case round =>
  clear H0 HB0
  obtain ⟨s, b, rfl, HM, HF, HR, HB, hob2, HK⟩ := hrel
  cases b with
  | false =>
   go_wp2
   go_end0
   refine ⟨rfl, ?_, HB.out⟩
   obtain ⟨m, rfl⟩ := HM.out
   exact ⟨m, HR.out, HF.out trivial⟩
  | true =>
   have g2 := HRG.out _ _ HR.out
   obtain ⟨wo, rfl⟩ : ∃ wo : World, wo = wr := ⟨_, rfl⟩
   go_wp2
   go_loopw [15, 4] (fun v v4 wi => ∃ (i : Nat) (s2 : σ) (b2 : Bool), i ≤ rs.length ∧ v = .int .i64 i ∧ v4 = .bool b2 ∧ Aside0 (s2 = passT step (rs.take i) s) ∧ Aside0 (b2 = false → s2 = s) ∧ Aside0 (b2 = true → μ s2 < μ s) ∧ Aside0 (R s2 wi) ∧ Aside0 (Below w0.heap.size w0 wi) ∧ ob < wi.heap.size) (fun v _ _ => rs.length - (intOf v).toNat)
   case atStart => exact ⟨0, s, false, by omega, rfl, rfl, ⟨rfl⟩, ⟨fun _ => rfl⟩, ⟨fun h => by cases h⟩, ⟨HR.out⟩, ⟨HB.out⟩, hob2⟩
   case round =>
    obtain ⟨i, s2, b2, hi, rfl, rfl, HS, HF2, HM2, HR2, HB2, hob3⟩ := hrel
    by_cases hlt : i < rs.length
    ·obtain ⟨ad, A1, c1, eA, q0, q1, hc1, hC1⟩ := at_T55 HC.out (i : Int) (by omega) (by omega)
     rw [fe_rdrule _ _ hlt] at q0 q1 hc1 hC1
     rw [Int.toNat_natCast] at q0 q1
     replace q0 := pw_cell_below HB2.out q0
     replace q1 := pw_cell_below HB2.out q1
     subst eA
     have HX := Aside0.mk (fe_passT_take step rs i hlt s)
     have hmem := List.getElem_mem hlt
     generalize rs[i] = x at *
     have HC1 := Aside0.mk hC1
     have hxl := HCL.out x hmem
     have HME := Aside0.mk hmem
     clear hC1 hmem
     have r1 := World.new_ne wr _ q0
     have r2 := World.new_ne wr _ q1
     obtain ⟨wp, rfl⟩ : ∃ wp : World, wp = wr := ⟨_, rfl⟩
     go_wp2
     go_loopw [22, 4] (fun v v4 wj => ∃ (j : Nat) (s3 : σ) (b3 : Bool), j ≤ x.f1.length ∧ v = .int .i64 j ∧ v4 = .bool b3 ∧ Aside0 (s3 = passC step x.f0 (x.f1.take j) s2) ∧ Aside0 (b3 = false → s3 = s) ∧ Aside0 (b3 = true → μ s3 < μ s) ∧ Aside0 (R s3 wj) ∧ Aside0 (wj.heap[wp.heap.size]? = some (.cells #[.int .i64 x.f0, .slice A1 x.f1.length c1] 55 (0, 0))) ∧ Aside0 (Below w0.heap.size w0 wj) ∧ ob < wp.heap.size) (fun v _ _ => x.f1.length - (intOf v).toNat)
     case atStart => exact ⟨0, s2, b2, by omega, rfl, rfl, ⟨rfl⟩, ⟨HF2.out⟩, ⟨HM2.out⟩, ⟨HRA.out _ _ _ HR2.out⟩, ⟨blk_new _ _⟩, ⟨HB2.out.alloc HB2.out.size _⟩, hob3⟩
     case round =>
      obtain ⟨j, s3, b3, hj, rfl, rfl, HS3, HF3, HM3, HR3, HK3, HB3, hob4⟩ := hrel
      by_cases hjl : j < x.f1.length
      ·obtain ⟨ad2, A2, c2, eA2, p0, p1, hc2, hC2⟩ := at_T58 HC1.out (j : Int) (by omega) (by omega)
       rw [fe_rdconj _ _ hjl] at p0 p1 hc2 hC2
       rw [Int.toNat_natCast] at p0 p1
       replace p0 := pw_cell_below HB3.out p0
       replace p1 := pw_cell_below HB3.out p1
       subst eA2
       have HY := Aside0.mk (fe_passC_take step x.f0 x.f1 j hjl s2)
       have hmem := List.getElem_mem hjl
       generalize x.f1[j] = y at *
       have HC2 := Aside0.mk hC2
       have HMY := Aside0.mk hmem
       clear hC2 hmem
       have t1 := World.new_ne wr _ p0
       have t2 := World.new_ne wr _ p1
       have k0 : wr.cell? ⟨wp.heap.size, 0, none⟩ = some (.int .i64 x.f0) := (blk_cell HK3.out 0).trans rfl
       have l0 := World.block_lt_of_cell? _ _ k0
       have hsz := HB3.out.size
       have HLE : Aside0 (μ s3 ≤ μ s) := ⟨by
        cases b3 with
        | false => rw [HF3.out rfl]; exact Nat.le_refl _
        | true => exact Nat.le_of_lt (HM3.out rfl)⟩
       obtain ⟨wq, rfl⟩ : ∃ wq : World, wq = wr := ⟨_, rfl⟩
       go_wp2_with (first
        | (go_at_call 31; refine (HT.out x HME.out y HMY.out s3 _ _ _ (HRA.out _ _ _ HR3.out) (HB3.out.alloc hsz _) HC2.out hc2).mono ?_; rintro e w1 ⟨bb, rfl, g1, gk, g2, g3, g4⟩; have G1 := Aside0.mk g1; have GK := Aside0.mk gk; have G2 := Aside0.mk g2; have G3 := Aside0.mk g3; have G4 := Aside0.mk g4; clear g1 gk g2 g3 g4; cases bb))
       all_goals
        go_wp2
        go_roundw
        case measure => simp [intOf]; omega
        case rel =>
         first
          | exact ⟨j + 1, step x.f0 y.f1 s3, true, by omega, by go_num, rfl, ⟨by rw [HY.out, ← HS3.out]⟩, ⟨fun h => by cases h⟩, ⟨fun _ => Nat.lt_of_lt_of_le (G4.out (by first | rfl | trivial)) HLE.out⟩, ⟨G1.out⟩, ⟨GK.out.blk (blk_alloc HK3.out _) (by omega) (by simp)⟩, ⟨G2.out⟩, hob4⟩
          | exact ⟨j + 1, step x.f0 y.f1 s3, b3, by omega, by go_num, rfl, ⟨by rw [HY.out, ← HS3.out]⟩, ⟨fun h => (G3.out (by first | rfl | trivial)).trans (HF3.out h)⟩, ⟨fun h => by rw [G3.out (by first | rfl | trivial)]; exact HM3.out h⟩, ⟨G1.out⟩, ⟨GK.out.blk (blk_alloc HK3.out _) (by omega) (by simp)⟩, ⟨G2.out⟩, hob4⟩
      ·obtain rfl : j = x.f1.length := by omega
       rw [List.take_length] at HS3
       go_wp2
       go_roundw
       case rel => exact ⟨i + 1, s3, b3, by omega, by go_num, rfl, ⟨by rw [HX.out, ← HS.out]; exact HS3.out⟩, ⟨HF3.out⟩, ⟨HM3.out⟩, ⟨HR3.out⟩, ⟨HB3.out⟩, by have := blk_lt HK3.out; omega⟩
       case measure => simp [intOf]; omega
    ·obtain rfl : i = rs.length := by omega
     rw [List.take_length] at HS
     go_wp2
     have hms : b2.toNat + μ s2 < μ s + 1 := by
      cases b2 with
      | false => have := HF2.out rfl; subst this; simp
      | true => have := HM2.out rfl; simp; omega
     have hkq := HK.out
     simp only [Bool.toNat_true] at hkq
     go_roundg (b2.toNat + μ s2)
     case measure => omega
     case rel => exact ⟨s2, b2, rfl, ⟨by obtain ⟨m, rfl⟩ := HM.out; exact ⟨m + 1, HS.out⟩⟩, ⟨fun h => by have := HF2.out h; rw [this, ← HS.out]; exact this⟩, ⟨HR2.out⟩, ⟨HB2.out⟩, hob3, ⟨by omega⟩⟩

def stepE (h : Int) (q : List S68) (s : List Bool) : List Bool := if s.getD h.toNat false = false ∧ nothB s q = true then s.set h.toNat true else s
set_option maxHeartbeats 1000000 in
theorem fe_turn31 (bx ob : Nat) (s : List Bool) (hd : Int) (q : List S68) (A : Option Addr) (c : Nat) (w : World) (base : Nat)
  (hbox : w.heap[bx]? = some (.cells #[.slice (some ⟨ob, 0, none⟩) s.length s.length] 27 (0, 0))) (hdat : w.heap[ob]? = some (.cells (rowV encB s) 4 (0, 0)))
  (h0 : 0 ≤ hd) (h1 : hd < s.length) (hsl : s.length ≤ 9223372036854775807) (hok : ∀ x ∈ q, x.f0 < s.length) (hq : Kd.C k68 w A q.length q) (hl : q.length ≤ 64) (hb : base ≤ ob) :
  Calls Try.prog 31 #[.int .i64 hd, .slice A q.length c, .pointer (some ⟨bx, 0, none⟩)] w fun e w' => ∃ b, e = .returned (.bool b) ∧ w'.heap[ob]? = some (.cells (rowV encB (stepE hd q s)) 4 (0, 0)) ∧ KeepBut w w' ob none ∧ Below base w w' ∧ (b = false → stepE hd q s = s) ∧ (b = true → s.getD hd.toNat false = false ∧ stepE hd q s = s.set hd.toNat true) := by
 have lb := blk_lt hdat
 have k0 : w.cell? ⟨bx, 0, none⟩ = some (.slice (some ⟨ob, 0, none⟩) s.length s.length) := (blk_cell hbox 0).trans rfl
 have k1 : w.cell? ⟨ob, hd.toNat, none⟩ = some (.bool (s.getD hd.toNat false)) := (blk_cell hdat hd.toNat).trans (by have h := rowV_get encB_len s hd.toNat 0 (by omega) (by omega); rw [Nat.mul_one, Nat.add_zero] at h; rw [h, List.getD_eq_getElem?_getD, List.getElem?_eq_getElem (show hd.toNat < s.length by omega)]; rfl)
 have HC := Aside0.mk (rowV_C encB_len (d := Kd.bool) (fun _ _ => rfl) rfl hdat hsl)
 have HD := Aside0.mk hdat
 have HQ := Aside0.mk hq
 have HOK := Aside0.mk hok
 clear hbox hdat hq hok
 cases hv : s.getD hd.toNat false with
 | true =>
  have e : stepE hd q s = s := by unfold stepE; rw [if_neg (by rw [hv]; simp)]
  rw [e]
  rw [hv] at k1
  clear hv e
  go_enter Try.func31, Try.ntmps31
  go_wp2
  go_ret
  exact ⟨false, rfl, HD.out, KeepBut.refl _ _ _, Below.refl _ _, by first | exact fun _ => rfl | trivial, fun h => by cases h⟩
 | false =>
  rw [hv] at k1
  obtain ⟨r, HN⟩ : ∃ r, Aside0 (nothB s q = r) := ⟨_, ⟨rfl⟩⟩
  cases r with
  | false =>
   have e : stepE hd q s = s := by unfold stepE; rw [if_neg (by rw [HN.out]; simp)]
   rw [e]
   clear hv e
   go_enter Try.func31, Try.ntmps31
   go_wp2_with (go_at_call 32; refine (fe_nothing q A c s (some ⟨ob, 0, none⟩) s.length _ HQ.out HC.out HOK.out hl).mono ?_; rw [HN.out]; rintro e w1 ⟨rfl, hb1⟩)
   go_ret
   exact ⟨false, rfl, (hb1.block _ lb).trans HD.out, KeepBut.of_below hb1 _ _, hb1.mono (by omega), by first | exact fun _ => rfl | trivial, fun h => by cases h⟩
  | true =>
   have e : stepE hd q s = s.set hd.toNat true := by unfold stepE; rw [if_pos ⟨hv, HN.out⟩]
   rw [e]
   clear hv e
   go_enter Try.func31, Try.ntmps31
   go_wp2_with (go_at_call 32; refine (fe_nothing q A c s (some ⟨ob, 0, none⟩) s.length _ HQ.out HC.out HOK.out hl).mono ?_; rw [HN.out]; rintro e w1 ⟨rfl, hb1⟩; have HB1 := Aside0.mk hb1; have k2 := pw_cell_below hb1 k0; have fz : w1.frozen? ⟨ob, hd.toNat, none⟩ = false := blk_frozen ((hb1.block _ lb).trans HD.out) _; have k3 := pw_cell_below hb1 k1; clear hb1)
   go_ret
   exact ⟨true, rfl, by rw [← encB_set _ _ _ (by omega)]; exact blk_put ((HB1.out.block _ lb).trans HD.out) _ _ rfl, (KeepBut.of_below HB1.out _ _).set_ _ _, (HB1.out.mono (by omega)).setCell hb _, by first | exact fun h => by cases h | trivial, by first | exact fun _ => ⟨rfl, rfl⟩ | trivial | exact fun _ => trivial⟩
theorem fe_rules (n : Int) : ∀ (l : List S55) (h a : Int), rulesFrom n h a l = true → h ≤ n - 1 ∧ ∀ x ∈ l, h ≤ x.f0 ∧ x.f0 ≤ n - 1 ∧ ruleB n x = true
 | [], h, a, H => by
  have := eq_of_beq H
  exact ⟨by omega, fun x hx => by cases hx⟩
 | x :: xs, h, a, H => by
  unfold rulesFrom at H
  rw [Bool.and_eq_true, Bool.and_eq_true] at H
  obtain ⟨⟨h1, h2⟩, h3⟩ := H
  have h2 := of_decide_eq_true h2
  obtain ⟨h4, h5⟩ := fe_rules n xs _ _ h3
  refine ⟨by omega, fun y hy => ?_⟩
  rcases List.mem_cons.1 hy with rfl | hy
  ·exact ⟨h2.1, h4, h1⟩
  ·obtain ⟨h6, h7, h8⟩ := h5 y hy
   exact ⟨by omega, h7, h8⟩
structure MayF (a : Int) (ns : List ByteArray) (rs : List S55) : Prop where
 n1 : 1 ≤ ns.length
 n2 : ns.length ≤ 64
 s0 : 0 ≤ a
 s1 : a < ns.length
 r1 : 1 ≤ rs.length
 r2 : rs.length ≤ 256
 hd0 : ∀ x ∈ rs, 0 ≤ x.f0
 hd1 : ∀ x ∈ rs, x.f0 < ns.length
 cj : ∀ x ∈ rs, x.f1.length ≤ 8
 sq : ∀ x ∈ rs, ∀ c ∈ x.f1, c.f1.length ≤ 64
 sy : ∀ x ∈ rs, ∀ c ∈ x.f1, ∀ s ∈ c.f1, symB ns.length s = true
theorem may_facts {a : Int} {ns : List ByteArray} {rs : List S55} (h : mayB a ns rs = true) : MayF a ns rs := by
 unfold mayB at h
 rw [Bool.and_eq_true, Bool.and_eq_true, Bool.and_eq_true] at h
 obtain ⟨⟨⟨h1, h2⟩, h3⟩, h4⟩ := h
 have h2 := of_decide_eq_true h2
 have h4 := of_decide_eq_true h4
 unfold namesOk at h1
 rw [Bool.and_eq_true] at h1
 have h5 := of_decide_eq_true h1.1
 cases rs with
 | nil => simp at h2
 | cons x xs =>
  have h4 : x.f0 = 0 := h4
  have h30 := h3
  unfold rulesFrom at h3
  rw [Bool.and_eq_true] at h3
  obtain ⟨h6, h7⟩ := fe_rules _ xs _ _ h3.2
  obtain ⟨_, h8⟩ := fe_rules _ _ _ _ h30
  have hr : ∀ y ∈ x :: xs, y.f1.length ≤ 8 ∧ ∀ c ∈ y.f1, c.f1.length ≤ 64 ∧ ∀ s ∈ c.f1, symB ns.length s = true := fun y hy => by
   have h9 := (h8 y hy).2.2
   unfold ruleB at h9
   rw [Bool.and_eq_true, List.all_eq_true] at h9
   refine ⟨(of_decide_eq_true h9.1).2, fun c hc => ?_⟩
   have h10 := h9.2 c hc
   unfold conjB at h10
   rw [Bool.and_eq_true, List.all_eq_true] at h10
   exact ⟨of_decide_eq_true h10.1, h10.2⟩
  refine ⟨h5.1, h5.2, h2.1, h2.2.1, h2.2.2.1, h2.2.2.2, fun y hy => ?_, fun y hy => by have := (h8 y hy).2.1; omega, fun y hy => (hr y hy).1, fun y hy c hc => ((hr y hy).2 c hc).1, fun y hy c hc => ((hr y hy).2 c hc).2⟩
  rcases List.mem_cons.1 hy with rfl | hy
  ·omega
  ·have := (h7 y hy).1; omega
theorem symB_lt {n : Nat} {s : S68} (h : symB n s = true) (hn : 1 ≤ n) : s.f0 < n := by
 unfold symB at h
 by_cases e : s.f0 = -1
 ·omega
 ·rw [if_neg e] at h
  have := of_decide_eq_true h
  omega
def startE (n : Nat) : List Bool := List.replicate n false
def emptyL (ns : List ByteArray) (rs : List S55) : List Bool := iterT (passT stepE rs) (ns.length + 1) (startE ns.length)
theorem stepE_len (h : Int) (q : List S68) (s : List Bool) : (stepE h q s).length = s.length := by
 unfold stepE
 split <;> simp
theorem fold_len {α β : Type} (f : List α → β → List α) (hf : ∀ s x, (f s x).length = s.length) : ∀ (l : List β) (s : List α), (l.foldl f s).length = s.length
 | [], _ => rfl
 | x :: l, s => by rw [List.foldl_cons, fold_len f hf l, hf]
theorem passT_len {α : Type} (step : Int → List S68 → List α → List α) (hs : ∀ h q s, (step h q s).length = s.length) (rs : List S55) (s : List α) : (passT step rs s).length = s.length :=
 fold_len _ (fun s r => fold_len _ (fun s c => hs _ _ _) _ _) _ _
theorem stepE_mu {h : Int} {s : List Bool} (h1 : h.toNat < s.length) (e : s.getD h.toNat false = false) : (s.set h.toNat true).count false < s.count false := by
 have e2 : s[h.toNat] = false := by rw [List.getD_eq_getElem?_getD, List.getElem?_eq_getElem h1] at e; exact e
 rw [List.count_set h1, e2]
 have : 0 < s.count false := List.count_pos_iff.2 (by rw [← e2]; exact List.getElem_mem h1)
 simp
 omega
theorem stepE_cnt (h : Int) (q : List S68) (s : List Bool) (h1 : h.toNat < s.length) : stepE h q s = s ∨ (stepE h q s).count true = s.count true + 1 := by
 unfold stepE
 split
 ·rename_i e
  right
  have e2 : s[h.toNat] = false := by have := e.1; rw [List.getD_eq_getElem?_getD, List.getElem?_eq_getElem h1] at this; exact this
  rw [List.count_set h1, e2]
  simp
 ·exact .inl rfl
theorem pass_cnt {σ : Type} (step : Int → List S68 → σ → σ) (c : σ → Nat) (I : σ → Prop) (rs : List S55) (hI : ∀ r ∈ rs, ∀ cj ∈ r.f1, ∀ s, I s → I (step r.f0 cj.f1 s)) (hs : ∀ r ∈ rs, ∀ cj ∈ r.f1, ∀ s, I s → step r.f0 cj.f1 s = s ∨ c s < c (step r.f0 cj.f1 s)) (s : σ) (h : I s) : (passT step rs s = s ∨ c s < c (passT step rs s)) ∧ I (passT step rs s) :=
 fold_cnt _ c I rs (fun s r hr h => (fold_cnt _ c I r.f1 (fun s x hx h => hI r hr x hx s h) (fun s x hx h => hs r hr x hx s h) s h).2) (fun s r hr h => (fold_cnt _ c I r.f1 (fun s x hx h => hI r hr x hx s h) (fun s x hx h => hs r hr x hx s h) s h).1) s h
theorem passE_stand (n : Nat) (rs : List S55) (hr : ∀ r ∈ rs, r.f0.toNat < n) : passT stepE rs (iterT (passT stepE rs) (n + 1) (startE n)) = iterT (passT stepE rs) (n + 1) (startE n) := by
 have hp : ∀ s : List Bool, s.length = n → (passT stepE rs s = s ∨ s.count true < (passT stepE rs s).count true) ∧ (passT stepE rs s).length = n := fun s hs =>
  pass_cnt stepE (fun s => s.count true) (fun s => s.length = n) rs (fun r _ cj _ s h => by rw [stepE_len]; exact h) (fun r h cj _ s hl => by
   rcases stepE_cnt r.f0 cj.f1 s (by rw [hl]; exact hr r h) with h | h
   ·exact .inl h
   ·right; omega) s hs
 have hi := iter_inv (passT stepE rs) (fun s => s.length = n) (fun s h => (hp s h).2) (startE n) (by unfold startE; rw [List.length_replicate])
 refine iterT_stand _ (fun s => s.count true) _ n (fun a => ?_) (fun a h => ?_)
 ·have := List.count_le_length (a := true) (l := iterT (passT stepE rs) a (startE n))
  rw [hi a] at this
  exact this
 ·exact ((hp _ (hi a)).1).resolve_left h
theorem made_rowV (n : Nat) : madeCells #[.bool false] n = rowV encB (startE n) := by
 have e : ∀ s : List Bool, s.flatMap encB = s.map Value.bool := fun s => by
  induction s with
  | nil => rfl
  | cons x s ih => rw [List.flatMap_cons, ih]; rfl
 unfold rowV startE
 rw [e, List.map_replicate]
 apply Array.ext'
 apply List.ext_getElem
 ·simp [madeCells]
 ·intro i h1 h2
  simp [madeCells, Nat.mod_one]
def first_Empty.f (a0_0 : Int) (l0_1 : List ByteArray) (l0_2 : List (S55)) : Option (List Bool × Int) := some (if mayB a0_0 l0_1 l0_2 then (emptyL l0_1 l0_2, 0) else ([], 1200))
def EmR (gb bx ob n : Nat) (cs : Array Value) (s : List Bool) (W : World) : Prop := W.heap[gb]? = some (.cells cs 25 (0, 0)) ∧ W.heap[bx]? = some (.cells #[.slice (some ⟨ob, 0, none⟩) n n] 27 (0, 0)) ∧ W.heap[ob]? = some (.cells (rowV encB s) 4 (0, 0)) ∧ s.length = n
set_option maxHeartbeats 8000000 in
set_option maxRecDepth 100000 in
theorem first_Empty.calls (a0_0 : Int) (A0_1 : Option Addr) (c0_1 : Nat) (l0_1 : List ByteArray) (A0_2 : Option Addr) (c0_2 : Nat) (l0_2 : List (S55)) (r1 : List Bool) (r2 : Int) (w : World) (hr0_1 : Kd.C Kd.string w A0_1 l0_1.length l0_1) (hc0_1 : l0_1.length ≤ c0_1) (hr0_2 : Kd.C k55 w A0_2 l0_2.length l0_2) (hc0_2 : l0_2.length ≤ c0_2) (h : first_Empty.f a0_0 l0_1 l0_2 = some (r1, r2)) :
  Calls Try.prog 10 #[.agg #[.int .i64 a0_0, .slice A0_1 l0_1.length c0_1, .slice A0_2 l0_2.length c0_2]] w fun e w' => ∃ v0_ : Value, e = .returned (.tuple #[v0_, .int .i64 r2]) ∧ Kd.R Kd.bool 4 w' w.heap.size (fun _ => True) v0_ r1 ∧ Below w.heap.size w w' := by
 have h := Option.some.inj h
 have H1 := Aside0.mk hr0_1
 have H2 := Aside0.mk hr0_2
 clear hr0_1 hr0_2
 cases hm : mayB a0_0 l0_1 l0_2 with
 | false =>
  rw [hm, if_neg (by decide)] at h
  obtain ⟨rfl, rfl⟩ := Prod.mk.inj h
  have HM : Aside0 (gram_May.f a0_0 l0_1 l0_2 = some false) := ⟨by unfold gram_May.f; rw [hm]⟩
  clear h hm
  go_enter Try.func10, Try.ntmps10
  go_wp2_with (go_at_call 29; refine (gram_May.calls _ _ _ _ _ _ _ _ _ (Kd.C_alloc H1.out _) hc0_1 (Kd.C_alloc H2.out _) hc0_2 HM.out).mono ?_; rintro e w1 ⟨rfl, hb1⟩)
  go_ret2
  exact ⟨_, rfl, Kd.R_nil _ _ _ _ _, ((Below.refl _ _).alloc (Nat.le_refl _) _).trans (hb1.mono (by simp))⟩
 | true =>
  rw [hm, if_pos rfl] at h
  obtain ⟨rfl, rfl⟩ := Prod.mk.inj h
  have HM : Aside0 (gram_May.f a0_0 l0_1 l0_2 = some true) := ⟨by unfold gram_May.f; rw [hm]⟩
  have F := may_facts hm
  have HF := Aside0.mk F
  obtain ⟨n1, n2, s0, s1, _, r2, _, _, _, _, _⟩ := F
  clear h hm
  have hmk := print_make_of (P := Try.prog) 27 4 (.bool false) 1 Try.underlying27 fe_info4 rfl (by decide) l0_1.length (by omega)
  rw [made_rowV] at hmk
  go_enter Try.func10, Try.ntmps10
  go_wp2_with (first
   | (go_at_call 29; refine (gram_May.calls _ _ _ _ _ _ _ _ _ (Kd.C_alloc H1.out _) hc0_1 (Kd.C_alloc H2.out _) hc0_2 HM.out).mono ?_; rintro e w1 ⟨rfl, hb1⟩; have HB1 := Aside0.mk hb1; have HG : Aside0 (w1.heap[w.heap.size]? = some (.cells #[.int .i64 a0_0, .slice A0_1 l0_1.length c0_1, .slice A0_2 l0_2.length c0_2] 25 (0, 0))) := ⟨blk_below (blk_new _ _) hb1⟩; have k1 : w1.cell? ⟨w.heap.size, 1, none⟩ = some (.slice A0_1 l0_1.length c0_1) := (blk_cell HG.out 1).trans rfl; have hz := hb1.size; simp at hz; clear hb1)
   | (go_at_call 30; refine (fe_each31 (fun s => s.count false) stepE (EmR w.heap.size (w1.heap.size + 1) w1.heap.size l0_1.length #[.int .i64 a0_0, .slice A0_1 l0_1.length c0_1, .slice A0_2 l0_2.length c0_2]) w.heap.size w1.heap.size A0_2 c0_2 l0_2 ⟨w1.heap.size + 1, 0, none⟩ w H2.out r2 HF.out.cj ?ea ?eg ?et (startE l0_1.length) _ ?e0 ?eo ?eb).mono ?_))
  case ea =>
   rintro s1_ W o ⟨g1, g2, g3, g4⟩
   exact ⟨blk_alloc g1 _, blk_alloc g2 _, blk_alloc g3 _, g4⟩
  case eg =>
   rintro s1_ W ⟨g1, g2, g3, g4⟩
   exact (blk_cell g1 2).trans rfl
  case et =>
   rintro r hr cj hcj s1_ W A c ⟨g1, g2, g3, g4⟩ hbW hq0 _
   have hq := Kd.C_below hq0 hbW
   have f0 := HF.out.hd0 r hr
   have f1 := HF.out.hd1 r hr
   refine (fe_turn31 (w1.heap.size + 1) w1.heap.size s1_ r.f0 cj.f1 A c W w.heap.size (by rw [g4]; exact g2) g3 f0 (by omega) (by omega) (fun x hx => by have := symB_lt (HF.out.sy r hr cj hcj x hx) n1; omega) hq (HF.out.sq r hr cj hcj) (by omega)).mono ?_
   rintro e W2 ⟨b, rfl, d1, d2, d3, d4, d5⟩
   exact ⟨b, rfl, ⟨d2.blk g1 (by omega) (by simp), d2.blk g2 (by omega) (by simp), d1, by rw [stepE_len]; exact g4⟩, d2, hbW.trans d3, d4, fun hb => by rw [(d5 hb).2]; exact stepE_mu (by omega) (d5 hb).1⟩
  case e0 =>
   refine ⟨blk_alloc (blk_alloc HG.out _) _, by simpa using blk_new (w1.alloc _) _, blk_alloc (blk_new _ _) _, ?_⟩
   unfold startE
   rw [List.length_replicate]
  case eo => simp; omega
  case eb => exact ((((Below.refl _ _).alloc (Nat.le_refl _) _).trans (HB1.out.mono (by simp))).alloc (by omega) _).alloc (by simp; omega) _
  rintro e w2 ⟨rfl, ⟨m, he, hf⟩, hb2⟩
  have HE := Aside0.mk he
  have HFX := Aside0.mk hf
  have HB2 := Aside0.mk hb2
  have k2 : w2.cell? ⟨w1.heap.size + 1, 0, none⟩ = some (.slice (some ⟨w1.heap.size, 0, none⟩) l0_1.length l0_1.length) := (blk_cell HE.out.2.1 0).trans rfl
  clear he hf hb2
  go_wp2
  go_ret2
  have hl := HE.out.2.2.2
  have he : iterT (passT stepE l0_2) m (startE l0_1.length) = emptyL l0_1 l0_2 := iterT_two _ _ _ _ HFX.out (passE_stand _ _ (fun r hr => by have := HF.out.hd0 r hr; have := HF.out.hd1 r hr; omega))
  refine ⟨_, rfl, ?_, HB2.out⟩
  rw [← he]
  have hr := rowV_R encB_len (d := Kd.bool) (fun _ _ _ _ => rfl) rfl (e := 4) (base := w.heap.size) (ok := fun _ => True) HE.out.2.2.1 (by rw [hl]; unfold maxLen; omega) (by omega) trivial
  rwa [hl] at hr


end Go.Proofs.Ytpilkfodlhhjpaa.PFM
