-- written by a program of the session's (wip/myprint.py) out of the translation
import Derived.Test.YtpilkfodlhhjpaaPFWx0
import Derived.Test.YtpilkfodlhhjpaaPFWx5
import Derived.Test.YtpilkfodlhhjpaaPFWx6
namespace Go.Proofs.Ytpilkfodlhhjpaa.PFW
open Go.RowKit Go.Proofs.YtpilkfodlhhjpaaW.PrintWords Go.Proofs.YtpilkfodlhhjpaaW.PrintLast Go.Proofs.YtpilkfodlhhjpaaW.PrintMore
attribute [local go_sem] max2_int min2_int max_two min_two max_three min_three max_four min_four   -- for this text's walks alone
set_option linter.unusedVariables false
set_option linter.unusedSimpArgs false

/-! ### gram_May: function 29 -/
def symB (n : Int) (s : S68) : Bool := if s.f0 = -1 then decide (0 ≤ s.f1 ∧ s.f1 ≤ s.f2 ∧ s.f2 ≤ 255) else decide (0 ≤ s.f0 ∧ s.f0 < n ∧ s.f1 = 0 ∧ s.f2 = 0)
def conjB (n : Int) (c : S58) : Bool := decide (c.f1.length ≤ 64) && c.f1.all (symB n)
def ruleB (n : Int) (r : S55) : Bool := decide (1 ≤ r.f1.length ∧ r.f1.length ≤ 8) && r.f1.all (conjB n)
def cntR (cs : List S58) : Nat := (cs.map (fun c => c.f1.length)).sum
theorem symbol_eq (n : Int) (s : S68) : gram_symbol.f s.f0 s.f1 s.f2 n = some (symB n s) := by
 unfold gram_symbol.f symB
 repeat' split
 all_goals (congr 1; first | (rw [Bool.eq_iff_iff]; simp; omega) | (rw [eq_comm, decide_eq_false_iff_not]; omega))
theorem cntR_take (cs : List S58) (i : Nat) (h : i < cs.length) : cntR (cs.take (i + 1)) = cntR (cs.take i) + cs[i].f1.length := by
 unfold cntR
 rw [List.take_succ_eq_append_getElem h, List.map_append, List.sum_append]
 simp
theorem cntR_le (n : Int) : ∀ (cs : List S58), cs.all (conjB n) = true → cntR cs ≤ 64 * cs.length
 | [], _ => by simp [cntR]
 | c :: cs, h => by
  rw [List.all_cons, Bool.and_eq_true] at h
  have ih := cntR_le n cs h.2
  have h1 : c.f1.length ≤ 64 := by
   have := h.1
   unfold conjB at this
   rw [Bool.and_eq_true] at this
   simpa using this.1
  unfold cntR at ih ⊢
  simp only [List.map_cons, List.sum_cons, List.length_cons]
  omega
theorem all_take {α : Type} (p : α → Bool) (l : List α) (i : Nat) (h : i < l.length) : (l.take (i + 1)).all p = ((l.take i).all p && p l[i]) := by
 rw [List.take_succ_eq_append_getElem h, List.all_append]
 simp
theorem all_bad {α : Type} (p : α → Bool) (l : List α) (i : Nat) (h : i < l.length) (hb : p l[i] = false) : l.all p = false := by
 rw [List.all_eq_false]
 exact ⟨l[i], List.getElem_mem h, by simp [hb]⟩
theorem rd_sym (l : List S68) (i : Nat) (h : i < l.length) : rd_T68 l (i : Int) = l[i] := by
 unfold rd_T68
 rw [Int.toNat_natCast, List.getD_eq_getElem?_getD, List.getElem?_eq_getElem h]
 rfl
theorem rd_conj (l : List S58) (i : Nat) (h : i < l.length) : rd_T58 l (i : Int) = l[i] := by
 unfold rd_T58
 rw [Int.toNat_natCast, List.getD_eq_getElem?_getD, List.getElem?_eq_getElem h]
 rfl
theorem rd_rule (l : List S55) (i : Nat) (h : i < l.length) : rd_T55 l (i : Int) = l[i] := by
 unfold rd_T55
 rw [Int.toNat_natCast, List.getD_eq_getElem?_getD, List.getElem?_eq_getElem h]
 rfl
set_option maxHeartbeats 4000000 in
theorem rule_calls (p : Addr) (x : S55) (n : Int) (A : Option Addr) (c : Nat) (r1 : Int) (r2 : Bool) (w : World) (hp : w.cell? ⟨p.block, p.off + 1, none⟩ = some (.slice A x.f1.length c)) (hr : Kd.C k58 w A x.f1.length x.f1) (hres : (if ruleB n x then (cntR x.f1 : Int) else 0) = r1 ∧ ruleB n x = r2) :
  Calls Try.prog 50 #[.pointer (some p), .int .i64 n] w fun e w' => e = .returned (.tuple #[.int .i64 r1, .bool r2]) ∧ Below w.heap.size w w' := by
 have HR := Aside0.mk hr
 clear hr
 have H := Aside0.mk hres
 clear hres
 have bad : ruleB n x = false → r1 = 0 ∧ r2 = false := by
  intro h
  have := H.out
  rw [h] at this
  exact ⟨this.1.symm, this.2.symm⟩
 by_cases h1 : x.f1.length < 1
 ·obtain ⟨rfl, rfl⟩ := bad (by unfold ruleB; rw [show decide (1 ≤ x.f1.length ∧ x.f1.length ≤ 8) = false from by simp; omega, Bool.false_and])
  clear bad
  go_enter Try.func50, Try.ntmps50
  go_wp2
  go_ret2
  exact ⟨rfl, Below.refl _ _⟩
 by_cases h2 : 8 < x.f1.length
 ·obtain ⟨rfl, rfl⟩ := bad (by unfold ruleB; rw [show decide (1 ≤ x.f1.length ∧ x.f1.length ≤ 8) = false from by simp; omega, Bool.false_and])
  clear bad
  go_enter Try.func50, Try.ntmps50
  go_wp2
  go_ret2
  exact ⟨rfl, Below.refl _ _⟩
 have e : ruleB n x = x.f1.all (conjB n) := by unfold ruleB; rw [show decide (1 ≤ x.f1.length ∧ x.f1.length ≤ 8) = true from by simp; omega, Bool.true_and]
 rw [e] at H bad
 clear e
 have BAD := Aside0.mk bad
 clear bad
 have hl8 : x.f1.length ≤ 8 := by omega
 go_enter Try.func50, Try.ntmps50
 go_wp2
 go_loopw [6, 30] (fun m v wr => ∃ i : Nat, i ≤ x.f1.length ∧ v = .int .i64 i ∧ m = .int .i64 (cntR (x.f1.take i) : Nat) ∧ Aside0 ((x.f1.take i).all (conjB n) = true) ∧ Aside0 (Below w.heap.size w wr)) (fun _ v _ => x.f1.length - (intOf v).toNat)
 case atStart => exact ⟨0, by omega, rfl, rfl, ⟨rfl⟩, ⟨Below.refl _ _⟩⟩
 case round =>
  obtain ⟨i, hi, rfl, rfl, hall, hb⟩ := hrel
  by_cases hlt : i < x.f1.length
  ·obtain ⟨ad, A1, c1, eA, g0, g1, hc1, hC⟩ := at_T58 (Kd.C_below HR.out hb.out) (i : Int) (by omega) (by omega)
   rw [rd_conj _ _ hlt] at g0 g1 hc1 hC
   rw [Int.toNat_natCast] at g0 g1
   subst eA
   have hcl : cntR (x.f1.take i) ≤ 64 * i := by
    have := cntR_le n _ hall.out
    rw [List.length_take] at this
    omega
   have HT := Aside0.mk (cntR_take x.f1 i hlt)
   have HAT := Aside0.mk (all_take (conjB n) x.f1 i hlt)
   have HAB := Aside0.mk (fun hb => all_bad (conjB n) x.f1 i hlt hb)
   generalize x.f1[i] = y at *
   have HC := Aside0.mk hC
   clear hC
   by_cases h64 : 64 < y.f1.length
   ·obtain ⟨rfl, rfl⟩ := BAD.out (HAB.out (by unfold conjB; rw [show decide (y.f1.length ≤ 64) = false from by simp; omega, Bool.false_and]))
    go_wp2
    go_ret2
    exact ⟨rfl, (hb.out.alloc hb.out.size _)⟩
   ·have hle : y.f1.length ≤ 64 := by omega
    obtain ⟨wo, rfl⟩ : ∃ wo : World, wo = wr := ⟨_, rfl⟩
    go_wp2
    go_loopw [41] (fun v wi => ∃ j : Nat, j ≤ y.f1.length ∧ v = .int .i64 j ∧ Aside0 ((y.f1.take j).all (symB n) = true) ∧ Aside0 (wi.heap[wo.heap.size]? = some (.cells #[.bool y.f0, .slice A1 y.f1.length c1] 58 (0, 0))) ∧ Aside0 (Below wo.heap.size wo wi)) (fun v _ => y.f1.length - (intOf v).toNat)
    case atStart => exact ⟨0, by omega, rfl, ⟨rfl⟩, ⟨blk_new _ _⟩, ⟨(Below.refl _ _).alloc (Nat.le_refl _) _⟩⟩
    case round =>
     obtain ⟨j, hj, rfl, hsy, hbk, hb2⟩ := hrel
     by_cases hjl : j < y.f1.length
     ·obtain ⟨ad2, eA2, s0, s1, s2⟩ := at_T68 (Kd.C_below HC.out hb2.out) (j : Int) (by omega) (by omega)
      rw [rd_sym _ _ hjl] at s0 s1 s2
      rw [Int.toNat_natCast] at s0 s1 s2
      subst eA2
      have HST := Aside0.mk (all_take (symB n) y.f1 j hjl)
      have HSB := Aside0.mk (fun hb => all_bad (symB n) y.f1 j hjl hb)
      generalize y.f1[j] = z at *
      have HZ := Aside0.mk (symbol_eq n z)
      cases hz : symB n z with
      | false =>
       rw [hz] at HZ
       obtain ⟨rfl, rfl⟩ := BAD.out (HAB.out (by unfold conjB; rw [HSB.out hz, Bool.and_false]))
       clear hz
       go_wp2_with (first | (go_at_call 65; refine (gram_symbol.calls _ _ _ _ _ _ HZ.out).mono ?_; rintro e w1 ⟨rfl, hb3⟩))
       go_ret2
       exact ⟨rfl, below_step (below_step hb.out hb2.out |>.alloc (below_step hb.out hb2.out).size _) hb3⟩
      | true =>
       rw [hz] at HZ HST
       clear hz
       go_wp2_with (first | (go_at_call 65; refine (gram_symbol.calls _ _ _ _ _ _ HZ.out).mono ?_; rintro e w1 ⟨rfl, hb3⟩; have HB3 := Aside0.mk hb3; clear hb3))
       go_roundw
       case rel => exact ⟨j + 1, by omega, by go_num, ⟨by rw [HST.out, hsy.out]; rfl⟩, ⟨blk_below (blk_alloc hbk.out _) HB3.out⟩, ⟨below_step (hb2.out.alloc hb2.out.size _) HB3.out⟩⟩
       case measure => simp [intOf]; omega
     ·obtain rfl : j = y.f1.length := by omega
      rw [List.take_length] at hsy
      have k1 : wr.cell? ⟨wo.heap.size, 1, none⟩ = some (.slice A1 y.f1.length c1) := (blk_cell hbk.out 1).trans rfl
      go_wp2
      go_roundw
      case rel => exact ⟨i + 1, by omega, by go_num, by rw [HT.out]; go_num, ⟨by rw [HAT.out, hall.out, Bool.true_and]; unfold conjB; rw [hsy.out, Bool.and_true, decide_eq_true_eq]; exact hle⟩, ⟨below_step hb.out hb2.out⟩⟩
      case measure => simp [intOf]; omega
  ·obtain rfl : i = x.f1.length := by omega
   rw [List.take_length] at hall
   have hres := H.out
   rw [hall.out] at hres
   obtain ⟨rfl, rfl⟩ := hres
   clear H BAD
   go_wp2
   go_ret2
   exact ⟨rfl, hb.out⟩
/-- From the i-th rule on: heads don't fall and leave none out, no more than 1024 symbols. -/
def rulesFrom (n head all : Int) : List S55 → Bool
 | [] => head == n - 1
 | x :: xs => ruleB n x && decide (head ≤ x.f0 ∧ x.f0 ≤ head + 1 ∧ all + cntR x.f1 ≤ 1024) && rulesFrom n x.f0 (all + cntR x.f1) xs
def mayB (start : Int) (names : List ByteArray) (rules : List S55) : Bool :=
 namesOk names && decide (0 ≤ start ∧ start < names.length ∧ 1 ≤ rules.length ∧ rules.length ≤ 256) && rulesFrom names.length (-1) 0 rules && decide ((rules.headD z55).f0 = 0)
def gram_May.f (a0_0 : Int) (l0_1 : List ByteArray) (l0_2 : List (S55)) : Option (Bool) := some (mayB a0_0 l0_1 l0_2)
set_option maxHeartbeats 8000000 in
set_option maxRecDepth 100000 in
theorem gram_May.calls (a0_0 : Int) (A0_1 : Option Addr) (c0_1 : Nat) (l0_1 : List ByteArray) (A0_2 : Option Addr) (c0_2 : Nat) (l0_2 : List (S55)) (r : Bool) (w : World) (hr0_1 : Kd.C Kd.string w A0_1 l0_1.length l0_1) (hc0_1 : l0_1.length ≤ c0_1) (hr0_2 : Kd.C k55 w A0_2 l0_2.length l0_2) (hc0_2 : l0_2.length ≤ c0_2) (h : gram_May.f a0_0 l0_1 l0_2 = some r) :
  Calls Try.prog 29 #[.agg #[.int .i64 a0_0, .slice A0_1 l0_1.length c0_1, .slice A0_2 l0_2.length c0_2]] w fun e w' => e = .returned (.bool r) ∧ Below w.heap.size w w' := by
 unfold gram_May.f at h
 have Hr := Aside0.mk (Option.some.inj h)
 clear h
 unfold mayB at Hr
 have HR1 := Aside0.mk hr0_1
 have HR2 := Aside0.mk hr0_2
 clear hr0_1 hr0_2
 cases hn : namesOk l0_1 with
 | false =>
  rw [hn] at Hr
  simp only [Bool.false_and] at Hr
  have Hn := Aside0.mk (show gram_names.f l0_1 = some false by unfold gram_names.f; rw [hn])
  clear hn
  go_enter Try.func29, Try.ntmps29
  go_wp2_with (first | (go_at_call 49; refine (gram_names.calls _ _ _ _ _ (Kd.C_alloc HR1.out _) hc0_1 Hn.out).mono ?_; rintro e w1 ⟨rfl, hb⟩; have HB := Aside0.mk hb; clear hb))
  go_ret
  exact ⟨by rw [← Hr.out]; rfl, below_step ((Below.refl _ _).alloc (Nat.le_refl _) _) HB.out⟩
 | true =>
  rw [hn, Bool.true_and] at Hr
  have Hn := Aside0.mk (show gram_names.f l0_1 = some true by unfold gram_names.f; rw [hn])
  have hL : l0_1.length ≤ 64 := by
   unfold namesOk at hn
   rw [Bool.and_eq_true, decide_eq_true_eq] at hn
   exact hn.1.2
  clear hn
  by_cases q1 : a0_0 < 0
  ·have HF := Aside0.mk (show false = r by rw [← Hr.out]; rw [show decide (0 ≤ a0_0 ∧ a0_0 < l0_1.length ∧ 1 ≤ l0_2.length ∧ l0_2.length ≤ 256) = false from by simp only [decide_eq_false_iff_not]; omega]; simp)
   clear Hr
   go_enter Try.func29, Try.ntmps29
   go_wp2_with (first | (go_at_call 49; refine (gram_names.calls _ _ _ _ _ (Kd.C_alloc HR1.out _) hc0_1 Hn.out).mono ?_; rintro e w1 ⟨rfl, hb⟩; have HB : Aside0 (Below w.heap.size w w1) := ⟨below_step ((Below.refl _ _).alloc (Nat.le_refl _) _) hb⟩; have HK : Aside0 (w1.heap[w.heap.size]? = some (.cells #[.int .i64 a0_0, .slice A0_1 l0_1.length c0_1, .slice A0_2 l0_2.length c0_2] 25 (0, 0))) := ⟨(hb.block _ (by simp)).trans (blk_new _ _)⟩; clear hb; have k0 : w1.cell? ⟨w.heap.size, 0, none⟩ = some (.int .i64 a0_0) := (blk_cell HK.out 0).trans rfl; have k1 : w1.cell? ⟨w.heap.size, 1, none⟩ = some (.slice A0_1 l0_1.length c0_1) := (blk_cell HK.out 1).trans rfl; have k2 : w1.cell? ⟨w.heap.size, 2, none⟩ = some (.slice A0_2 l0_2.length c0_2) := (blk_cell HK.out 2).trans rfl))
   go_ret
   exact ⟨by rw [← HF.out]; rfl, HB.out⟩
  by_cases q2 : (l0_1.length : Int) ≤ a0_0
  ·have HF := Aside0.mk (show false = r by rw [← Hr.out]; rw [show decide (0 ≤ a0_0 ∧ a0_0 < l0_1.length ∧ 1 ≤ l0_2.length ∧ l0_2.length ≤ 256) = false from by simp only [decide_eq_false_iff_not]; omega]; simp)
   clear Hr
   go_enter Try.func29, Try.ntmps29
   go_wp2_with (first | (go_at_call 49; refine (gram_names.calls _ _ _ _ _ (Kd.C_alloc HR1.out _) hc0_1 Hn.out).mono ?_; rintro e w1 ⟨rfl, hb⟩; have HB : Aside0 (Below w.heap.size w w1) := ⟨below_step ((Below.refl _ _).alloc (Nat.le_refl _) _) hb⟩; have HK : Aside0 (w1.heap[w.heap.size]? = some (.cells #[.int .i64 a0_0, .slice A0_1 l0_1.length c0_1, .slice A0_2 l0_2.length c0_2] 25 (0, 0))) := ⟨(hb.block _ (by simp)).trans (blk_new _ _)⟩; clear hb; have k0 : w1.cell? ⟨w.heap.size, 0, none⟩ = some (.int .i64 a0_0) := (blk_cell HK.out 0).trans rfl; have k1 : w1.cell? ⟨w.heap.size, 1, none⟩ = some (.slice A0_1 l0_1.length c0_1) := (blk_cell HK.out 1).trans rfl; have k2 : w1.cell? ⟨w.heap.size, 2, none⟩ = some (.slice A0_2 l0_2.length c0_2) := (blk_cell HK.out 2).trans rfl))
   go_ret
   exact ⟨by rw [← HF.out]; rfl, HB.out⟩
  by_cases q3 : l0_2.length < 1
  ·have HF := Aside0.mk (show false = r by rw [← Hr.out]; rw [show decide (0 ≤ a0_0 ∧ a0_0 < l0_1.length ∧ 1 ≤ l0_2.length ∧ l0_2.length ≤ 256) = false from by simp only [decide_eq_false_iff_not]; omega]; simp)
   clear Hr
   go_enter Try.func29, Try.ntmps29
   go_wp2_with (first | (go_at_call 49; refine (gram_names.calls _ _ _ _ _ (Kd.C_alloc HR1.out _) hc0_1 Hn.out).mono ?_; rintro e w1 ⟨rfl, hb⟩; have HB : Aside0 (Below w.heap.size w w1) := ⟨below_step ((Below.refl _ _).alloc (Nat.le_refl _) _) hb⟩; have HK : Aside0 (w1.heap[w.heap.size]? = some (.cells #[.int .i64 a0_0, .slice A0_1 l0_1.length c0_1, .slice A0_2 l0_2.length c0_2] 25 (0, 0))) := ⟨(hb.block _ (by simp)).trans (blk_new _ _)⟩; clear hb; have k0 : w1.cell? ⟨w.heap.size, 0, none⟩ = some (.int .i64 a0_0) := (blk_cell HK.out 0).trans rfl; have k1 : w1.cell? ⟨w.heap.size, 1, none⟩ = some (.slice A0_1 l0_1.length c0_1) := (blk_cell HK.out 1).trans rfl; have k2 : w1.cell? ⟨w.heap.size, 2, none⟩ = some (.slice A0_2 l0_2.length c0_2) := (blk_cell HK.out 2).trans rfl))
   go_ret
   exact ⟨by rw [← HF.out]; rfl, HB.out⟩
  by_cases q4 : 256 < l0_2.length
  ·have HF := Aside0.mk (show false = r by rw [← Hr.out]; rw [show decide (0 ≤ a0_0 ∧ a0_0 < l0_1.length ∧ 1 ≤ l0_2.length ∧ l0_2.length ≤ 256) = false from by simp only [decide_eq_false_iff_not]; omega]; simp)
   clear Hr
   go_enter Try.func29, Try.ntmps29
   go_wp2_with (first | (go_at_call 49; refine (gram_names.calls _ _ _ _ _ (Kd.C_alloc HR1.out _) hc0_1 Hn.out).mono ?_; rintro e w1 ⟨rfl, hb⟩; have HB : Aside0 (Below w.heap.size w w1) := ⟨below_step ((Below.refl _ _).alloc (Nat.le_refl _) _) hb⟩; have HK : Aside0 (w1.heap[w.heap.size]? = some (.cells #[.int .i64 a0_0, .slice A0_1 l0_1.length c0_1, .slice A0_2 l0_2.length c0_2] 25 (0, 0))) := ⟨(hb.block _ (by simp)).trans (blk_new _ _)⟩; clear hb; have k0 : w1.cell? ⟨w.heap.size, 0, none⟩ = some (.int .i64 a0_0) := (blk_cell HK.out 0).trans rfl; have k1 : w1.cell? ⟨w.heap.size, 1, none⟩ = some (.slice A0_1 l0_1.length c0_1) := (blk_cell HK.out 1).trans rfl; have k2 : w1.cell? ⟨w.heap.size, 2, none⟩ = some (.slice A0_2 l0_2.length c0_2) := (blk_cell HK.out 2).trans rfl))
   go_ret
   exact ⟨by rw [← HF.out]; rfl, HB.out⟩
  rw [show decide (0 ≤ a0_0 ∧ a0_0 < l0_1.length ∧ 1 ≤ l0_2.length ∧ l0_2.length ≤ 256) = true from by simp only [decide_eq_true_eq]; omega, Bool.true_and] at Hr
  have hb1 : l0_2.length ≤ 256 := by omega
  obtain ⟨T, hT⟩ : ∃ T, rulesFrom l0_1.length (-1) 0 l0_2 = T := ⟨_, rfl⟩
  rw [hT] at Hr
  have HT := Aside0.mk hT
  clear hT
  go_enter Try.func29, Try.ntmps29
  go_wp2_with (first | (go_at_call 49; refine (gram_names.calls _ _ _ _ _ (Kd.C_alloc HR1.out _) hc0_1 Hn.out).mono ?_; rintro e w1 ⟨rfl, hb⟩; have HB : Aside0 (Below w.heap.size w w1) := ⟨below_step ((Below.refl _ _).alloc (Nat.le_refl _) _) hb⟩; have HK : Aside0 (w1.heap[w.heap.size]? = some (.cells #[.int .i64 a0_0, .slice A0_1 l0_1.length c0_1, .slice A0_2 l0_2.length c0_2] 25 (0, 0))) := ⟨(hb.block _ (by simp)).trans (blk_new _ _)⟩; clear hb; have k0 : w1.cell? ⟨w.heap.size, 0, none⟩ = some (.int .i64 a0_0) := (blk_cell HK.out 0).trans rfl; have k1 : w1.cell? ⟨w.heap.size, 1, none⟩ = some (.slice A0_1 l0_1.length c0_1) := (blk_cell HK.out 1).trans rfl; have k2 : w1.cell? ⟨w.heap.size, 2, none⟩ = some (.slice A0_2 l0_2.length c0_2) := (blk_cell HK.out 2).trans rfl))
  go_loopw [3, 4, 41] (fun hd al v wr => ∃ (i : Nat) (head all : Int), i ≤ l0_2.length ∧ v = .int .i64 i ∧ hd = .int .i64 head ∧ al = .int .i64 all ∧ -1 ≤ head ∧ head ≤ (i : Int) - 1 ∧ 0 ≤ all ∧ all ≤ 1024 ∧ Aside0 (rulesFrom l0_1.length head all (l0_2.drop i) = T) ∧ Aside0 (wr.heap[w.heap.size]? = some (.cells #[.int .i64 a0_0, .slice A0_1 l0_1.length c0_1, .slice A0_2 l0_2.length c0_2] 25 (0, 0))) ∧ Aside0 (Below w.heap.size w wr)) (fun _ _ v _ => l0_2.length - (intOf v).toNat)
  case atStart => exact ⟨0, -1, 0, by omega, rfl, rfl, rfl, by omega, by omega, by omega, by omega, HT, HK, HB⟩
  case round =>
   clear k0 k1 k2 HB HK
   obtain ⟨i, head, all, hi, rfl, rfl, rfl, hh1, hh2, ha1, ha2, hrf, hbk, hb⟩ := hrel
   have k1 : wr.cell? ⟨w.heap.size, 1, none⟩ = some (.slice A0_1 l0_1.length c0_1) := (blk_cell hbk.out 1).trans rfl
   have k2 : wr.cell? ⟨w.heap.size, 2, none⟩ = some (.slice A0_2 l0_2.length c0_2) := (blk_cell hbk.out 2).trans rfl
   by_cases hlt : i < l0_2.length
   ·obtain ⟨ad, A1, c1, eA, g0, g1, hc1, hC⟩ := at_T55 (Kd.C_below HR2.out hb.out) (i : Int) (by omega) (by omega)
    rw [rd_rule _ _ hlt] at g0 g1 hc1 hC
    rw [Int.toNat_natCast] at g0 g1
    have hds := hrf.out
    rw [List.drop_eq_getElem_cons hlt] at hds
    unfold rulesFrom at hds
    subst eA
    generalize l0_2[i] = x at *
    have HC := Aside0.mk hC
    have HD := Aside0.mk hds
    clear hC hds hrf
    cases hrb : ruleB l0_1.length x with
    | false =>
     have HRC := Aside0.mk (fun W h1 h2 => rule_calls (ad.add (i * 2)) x l0_1.length A1 c1 0 false W h1 h2 ⟨by rw [hrb]; rfl, hrb⟩)
     rw [hrb] at HD
     simp only [Bool.false_and] at HD
     have HF := Aside0.mk (show false = r by rw [← Hr.out, ← HD.out, Bool.false_and])
     clear Hr HD hrb
     go_wp2_with (first | (go_at_call 50; refine (HRC.out _ g1 HC.out).mono ?_; rintro e w2 ⟨rfl, hb2⟩; have HB2 := Aside0.mk hb2; clear hb2))
     go_ret
     exact ⟨by rw [← HF.out]; rfl, below_step hb.out HB2.out⟩
    | true =>
     have HRC := Aside0.mk (fun W h1 h2 => rule_calls (ad.add (i * 2)) x l0_1.length A1 c1 (cntR x.f1) true W h1 h2 ⟨by rw [hrb]; rfl, hrb⟩)
     rw [hrb, Bool.true_and] at HD
     have hcn : (cntR x.f1 : Int) ≤ 512 := by
      have hq := hrb
      unfold ruleB at hq
      rw [Bool.and_eq_true, decide_eq_true_eq] at hq
      have := cntR_le _ _ hq.2
      omega
     clear hrb
     by_cases p1 : x.f0 < head
     ·have HF := Aside0.mk (show false = r by rw [← Hr.out, ← HD.out, show decide (head ≤ x.f0 ∧ x.f0 ≤ head + 1 ∧ all + cntR x.f1 ≤ 1024) = false from by simp only [decide_eq_false_iff_not]; omega, Bool.false_and, Bool.false_and])
      clear Hr HD
      go_wp2_with (first | (go_at_call 50; refine (HRC.out _ g1 HC.out).mono ?_; rintro e w2 ⟨rfl, hb2⟩; have HB2 := Aside0.mk hb2; clear hb2; have g2 : w2.cell? (ad.add (i * 2)) = some (.int .i64 x.f0) := pw_cell_below HB2.out g0; clear g0))
      go_ret
      exact ⟨by rw [← HF.out]; rfl, below_step hb.out HB2.out⟩
     by_cases p2 : head + 1 < x.f0
     ·have HF := Aside0.mk (show false = r by rw [← Hr.out, ← HD.out, show decide (head ≤ x.f0 ∧ x.f0 ≤ head + 1 ∧ all + cntR x.f1 ≤ 1024) = false from by simp only [decide_eq_false_iff_not]; omega, Bool.false_and, Bool.false_and])
      clear Hr HD
      go_wp2_with (first | (go_at_call 50; refine (HRC.out _ g1 HC.out).mono ?_; rintro e w2 ⟨rfl, hb2⟩; have HB2 := Aside0.mk hb2; clear hb2; have g2 : w2.cell? (ad.add (i * 2)) = some (.int .i64 x.f0) := pw_cell_below HB2.out g0; clear g0))
      go_ret
      exact ⟨by rw [← HF.out]; rfl, below_step hb.out HB2.out⟩
     by_cases p3 : 1024 < all + (cntR x.f1 : Int)
     ·have HF := Aside0.mk (show false = r by rw [← Hr.out, ← HD.out, show decide (head ≤ x.f0 ∧ x.f0 ≤ head + 1 ∧ all + cntR x.f1 ≤ 1024) = false from by simp only [decide_eq_false_iff_not]; omega, Bool.false_and, Bool.false_and])
      clear Hr HD
      go_wp2_with (first | (go_at_call 50; refine (HRC.out _ g1 HC.out).mono ?_; rintro e w2 ⟨rfl, hb2⟩; have HB2 := Aside0.mk hb2; clear hb2; have g2 : w2.cell? (ad.add (i * 2)) = some (.int .i64 x.f0) := pw_cell_below HB2.out g0; clear g0))
      go_ret
      exact ⟨by rw [← HF.out]; rfl, below_step hb.out HB2.out⟩
     rw [show decide (head ≤ x.f0 ∧ x.f0 ≤ head + 1 ∧ all + cntR x.f1 ≤ 1024) = true from by simp only [decide_eq_true_eq]; omega, Bool.true_and] at HD
     have p1' : head ≤ x.f0 := by omega
     have p2' : x.f0 ≤ head + 1 := by omega
     have p3' : all + (cntR x.f1 : Int) ≤ 1024 := by omega
     clear p1 p2 p3
     go_wp2_with (first | (go_at_call 50; refine (HRC.out _ g1 HC.out).mono ?_; rintro e w2 ⟨rfl, hb2⟩; have HB2 := Aside0.mk hb2; clear hb2; have g2 : w2.cell? (ad.add (i * 2)) = some (.int .i64 x.f0) := pw_cell_below HB2.out g0; clear g0))
     go_roundw
     case rel => exact ⟨i + 1, x.f0, all + cntR x.f1, by omega, by go_num, rfl, rfl, by omega, by omega, by omega, by omega, HD, ⟨blk_below hbk.out HB2.out⟩, ⟨below_step hb.out HB2.out⟩⟩
     case measure => simp [intOf]; omega
   ·obtain rfl : i = l0_2.length := by omega
    rw [List.drop_length] at hrf
    obtain ⟨ad, A1, c1, eA, g0, g1, hc1, hC⟩ := at_T55 (Kd.C_below HR2.out hb.out) 0 (by omega) (by omega)
    have hrd : rd_T55 l0_2 0 = l0_2.headD z55 := by
     cases l0_2 with
     | nil => rfl
     | cons _ _ => rfl
    rw [hrd] at g0
    simp only [Int.toNat_zero, Nat.zero_mul] at g0
    subst eA
    have gz : wr.cell? ad = some (.int .i64 (l0_2.headD z55).f0) := g0
    have HF := Aside0.mk (show ((head == (l0_1.length : Int) - 1) && decide ((l0_2.headD z55).f0 = 0)) = r by rw [← Hr.out, ← hrf.out]; rfl)
    clear Hr hrf hrd g1 hc1 hC
    generalize l0_2.headD z55 = x at *
    by_cases s1 : x.f0 = 0
    ·have t0 : (x.f0 == 0) = true := beq_iff_eq.2 s1
     rw [show decide (x.f0 = 0) = true from by simpa using s1, Bool.and_true] at HF
     clear s1
     go_wp2
     go_ret
     exact ⟨by rw [← HF.out]; rfl, hb.out⟩
    ·have t0 : (x.f0 == 0) = false := beq_eq_false_iff_ne.2 s1
     rw [show decide (x.f0 = 0) = false from by simpa using s1, Bool.and_false] at HF
     clear s1
     go_wp2
     go_ret
     exact ⟨by have := HF.out; rw [← this] <;> rfl, hb.out⟩


end Go.Proofs.Ytpilkfodlhhjpaa.PFW
