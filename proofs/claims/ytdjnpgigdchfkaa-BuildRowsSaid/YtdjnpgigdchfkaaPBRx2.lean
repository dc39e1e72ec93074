-- written by a program of the session's (wip/myprint.py) out of the translation
import Derived.Test.YtdjnpgigdchfkaaPBRx0
import Derived.Test.YtdjnpgigdchfkaaPBRx1
namespace Go.Proofs.Ytdjnpgigdchfkaa.PBR
open Go.RowKit Go.Proofs.YtdjnpgigdchfkaaW.PrintWords Go.Proofs.YtdjnpgigdchfkaaW.PrintLast Go.Proofs.YtdjnpgigdchfkaaW.PrintMore
attribute [local go_sem] max2_int min2_int max_two min_two max_three min_three max_four min_four   -- for this text's walks alone
set_option linter.unusedVariables false
set_option linter.unusedSimpArgs false

/-! ### gram_May: function 17 -/
def symB (n : Int) (s : S56) : Bool := if s.f0 = -1 then decide (0 ≤ s.f1 ∧ s.f1 ≤ s.f2 ∧ s.f2 ≤ 255) else decide (0 ≤ s.f0 ∧ s.f0 < n ∧ s.f1 = 0 ∧ s.f2 = 0)
def conjB (n : Int) (c : S54) : Bool := decide (c.f1.length ≤ 64) && c.f1.all (symB n)
def ruleB (n : Int) (r : S51) : Bool := decide (1 ≤ r.f1.length ∧ r.f1.length ≤ 8) && r.f1.all (conjB n)
def cntR (cs : List S54) : Nat := (cs.map (fun c => c.f1.length)).sum
theorem symbol_eq (n : Int) (s : S56) : gram_symbol.f s.f0 s.f1 s.f2 n = some (symB n s) := by
 unfold gram_symbol.f symB
 repeat' split
 all_goals (congr 1; first | (rw [Bool.eq_iff_iff]; simp; omega) | (rw [eq_comm, decide_eq_false_iff_not]; omega))
theorem cntR_take (cs : List S54) (i : Nat) (h : i < cs.length) : cntR (cs.take (i + 1)) = cntR (cs.take i) + cs[i].f1.length := by
 unfold cntR
 rw [List.take_succ_eq_append_getElem h, List.map_append, List.sum_append]
 simp
theorem cntR_le (n : Int) : ∀ (cs : List S54), cs.all (conjB n) = true → cntR cs ≤ 64 * cs.length
 | [], _ => by simp [cntR]
 | c :: cs, h => by
  rw [List.all_cons, Bool.and_eq_true] at h
  have ih := cntR_le n cs h.2
  have h1 : c.f1.length ≤ 64 := by
   have := h.1
   unfold conjB at this
   rw [Bool.and_eq_true] at this
   simpa using this.1
  unfold cntR at ih ⊢
  simp only [List.map_cons, List.sum_cons, List.length_cons]
  omega
theorem all_take {α : Type} (p : α → Bool) (l : List α) (i : Nat) (h : i < l.length) : (l.take (i + 1)).all p = ((l.take i).all p && p l[i]) := by
 rw [List.take_succ_eq_append_getElem h, List.all_append]
 simp
theorem all_bad {α : Type} (p : α → Bool) (l : List α) (i : Nat) (h : i < l.length) (hb : p l[i] = false) : l.all p = false := by
 rw [List.all_eq_false]
 exact ⟨l[i], List.getElem_mem h, by simp [hb]⟩
theorem rd_sym (l : List S56) (i : Nat) (h : i < l.length) : rd_T56 l (i : Int) = l[i] := by
 unfold rd_T56
 rw [Int.toNat_natCast, List.getD_eq_getElem?_getD, List.getElem?_eq_getElem h]
 rfl
theorem rd_conj (l : List S54) (i : Nat) (h : i < l.length) : rd_T54 l (i : Int) = l[i] := by
 unfold rd_T54
 rw [Int.toNat_natCast, List.getD_eq_getElem?_getD, List.getElem?_eq_getElem h]
 rfl
theorem rd_rule (l : List S51) (i : Nat) (h : i < l.length) : rd_T51 l (i : Int) = l[i] := by
 unfold rd_T51
 rw [Int.toNat_natCast, List.getD_eq_getElem?_getD, List.getElem?_eq_getElem h]
 rfl
set_option maxHeartbeats 4000000 in
theorem rule_calls (p : Addr) (x : S51) (n : Int) (A : Option Addr) (c : Nat) (r1 : Int) (r2 : Bool) (w : World) (hp : w.cell? ⟨p.block, p.off + 1, none⟩ = some (.slice A x.f1.length c)) (hr : Kd.C k54 w A x.f1.length x.f1) (hres : (if ruleB n x then (cntR x.f1 : Int) else 0) = r1 ∧ ruleB n x = r2) :
  Calls Try.prog 36 #[.pointer (some p), .int .i64 n] w fun e w' => e = .returned (.tuple #[.int .i64 r1, .bool r2]) ∧ Below w.heap.size w w' := by
 have HR := Aside0.mk hr
 clear hr
 have H := Aside0.mk hres
 clear hres
 have bad : ruleB n x = false → r1 = 0 ∧ r2 = false := by
  intro h
  have := H.out
  rw [h] at this
  exact ⟨this.1.symm, this.2.symm⟩
 by_cases h1 : x.f1.length < 1
 ·obtain ⟨rfl, rfl⟩ := bad (by unfold ruleB; rw [show decide (1 ≤ x.f1.length ∧ x.f1.length ≤ 8) = false from by simp; omega, Bool.false_and])
  clear bad
  go_enter Try.func36, Try.ntmps36
  go_wp2
  go_ret2
  exact ⟨rfl, Below.refl _ _⟩
 by_cases h2 : 8 < x.f1.length
 ·obtain ⟨rfl, rfl⟩ := bad (by unfold ruleB; rw [show decide (1 ≤ x.f1.length ∧ x.f1.length ≤ 8) = false from by simp; omega, Bool.false_and])
  clear bad
  go_enter Try.func36, Try.ntmps36
  go_wp2
  go_ret2
  exact ⟨rfl, Below.refl _ _⟩
 have e : ruleB n x = x.f1.all (conjB n) := by unfold ruleB; rw [show decide (1 ≤ x.f1.length ∧ x.f1.length ≤ 8) = true from by simp; omega, Bool.true_and]
 rw [e] at H bad
 clear e
 have BAD := Aside0.mk bad
 clear bad
 have hl8 : x.f1.length ≤ 8 := by omega
 go_enter Try.func36, Try.ntmps36
 go_wp2
 go_loopw [6, 30] (fun m v wr => ∃ i : Nat, i ≤ x.f1.length ∧ v = .int .i64 i ∧ m = .int .i64 (cntR (x.f1.take i) : Nat) ∧ Aside0 ((x.f1.take i).all (conjB n) = true) ∧ Aside0 (Below w.heap.size w wr)) (fun _ v _ => x.f1.length - (intOf v).toNat)
 case atStart => exact ⟨0, by omega, rfl, rfl, ⟨rfl⟩, ⟨Below.refl _ _⟩⟩
 case round =>
  obtain ⟨i, hi, rfl, rfl, hall, hb⟩ := hrel
  by_cases hlt : i < x.f1.length
  ·obtain ⟨ad, A1, c1, eA, g0, g1, hc1, hC⟩ := at_T54 (Kd.C_below HR.out hb.out) (i : Int) (by omega) (by omega)
   rw [rd_conj _ _ hlt] at g0 g1 hc1 hC
   rw [Int.toNat_natCast] at g0 g1
   subst eA
   have hcl : cntR (x.f1.take i) ≤ 64 * i := by
    have := cntR_le n _ hall.out
    rw [List.length_take] at this
    omega
   have HT := Aside0.mk (cntR_take x.f1 i hlt)
   have HAT := Aside0.mk (all_take (conjB n) x.f1 i hlt)
   have HAB := Aside0.mk (fun hb => all_bad (conjB n) x.f1 i hlt hb)
   generalize x.f1[i] = y at *
   have HC := Aside0.mk hC
   clear hC
   by_cases h64 : 64 < y.f1.length
   ·obtain ⟨rfl, rfl⟩ := BAD.out (HAB.out (by unfold conjB; rw [show decide (y.f1.length ≤ 64) = false from by simp; omega, Bool.false_and]))
    go_wp2
    go_ret2
    exact ⟨rfl, (hb.out.alloc hb.out.size _)⟩
   ·have hle : y.f1.length ≤ 64 := by omega
    obtain ⟨wo, rfl⟩ : ∃ wo : World, wo = wr := ⟨_, rfl⟩
    go_wp2
    go_loopw [41] (fun v wi => ∃ j : Nat, j ≤ y.f1.length ∧ v = .int .i64 j ∧ Aside0 ((y.f1.take j).all (symB n) = true) ∧ Aside0 (wi.heap[wo.heap.size]? = some (.cells #[.bool y.f0, .slice A1 y.f1.length c1] 54 (0, 0))) ∧ Aside0 (Below wo.heap.size wo wi)) (fun v _ => y.f1.length - (intOf v).toNat)
    case atStart => exact ⟨0, by omega, rfl, ⟨rfl⟩, ⟨blk_new _ _⟩, ⟨(Below.refl _ _).alloc (Nat.le_refl _) _⟩⟩
    case round =>
     obtain ⟨j, hj, rfl, hsy, hbk, hb2⟩ := hrel
     by_cases hjl : j < y.f1.length
     ·obtain ⟨ad2, eA2, s0, s1, s2⟩ := at_T56 (Kd.C_below HC.out hb2.out) (j : Int) (by omega) (by omega)
      rw [rd_sym _ _ hjl] at s0 s1 s2
      rw [Int.toNat_natCast] at s0 s1 s2
      subst eA2
      have HST := Aside0.mk (all_take (symB n) y.f1 j hjl)
      have HSB := Aside0.mk (fun hb => all_bad (symB n) y.f1 j hjl hb)
      generalize y.f1[j] = z at *
      have HZ := Aside0.mk (symbol_eq n z)
      cases hz : symB n z with
      | false =>
       rw [hz] at HZ
       obtain ⟨rfl, rfl⟩ := BAD.out (HAB.out (by unfold conjB; rw [HSB.out hz, Bool.and_false]))
       clear hz
       go_wp2_with (first | (go_at_call 45; refine (gram_symbol.calls _ _ _ _ _ _ HZ.out).mono ?_; rintro e w1 ⟨rfl, hb3⟩))
       go_ret2
       exact ⟨rfl, below_step (below_step hb.out hb2.out |>.alloc (below_step hb.out hb2.out).size _) hb3⟩
      | true =>
       rw [hz] at HZ HST
       clear hz
       go_wp2_with (first | (go_at_call 45; refine (gram_symbol.calls _ _ _ _ _ _ HZ.out).mono ?_; rintro e w1 ⟨rfl, hb3⟩; have HB3 := Aside0.mk hb3; clear hb3))
       go_roundw
       case rel => exact ⟨j + 1, by omega, by go_num, ⟨by rw [HST.out, hsy.out]; rfl⟩, ⟨blk_below (blk_alloc hbk.out _) HB3.out⟩, ⟨below_step (hb2.out.alloc hb2.out.size _) HB3.out⟩⟩
       case measure => simp [intOf]; omega
     ·obtain rfl : j = y.f1.length := by omega
      rw [List.take_length] at hsy
      have k1 : wr.cell? ⟨wo.heap.size, 1, none⟩ = some (.slice A1 y.f1.length c1) := (blk_cell hbk.out 1).trans rfl
      go_wp2
      go_roundw
      case rel => exact ⟨i + 1, by omega, by go_num, by rw [HT.out]; go_num, ⟨by rw [HAT.out, hall.out, Bool.true_and]; unfold conjB; rw [hsy.out, Bool.and_true, decide_eq_true_eq]; exact hle⟩, ⟨below_step hb.out hb2.out⟩⟩
      case measure => simp [intOf]; omega
  ·obtain rfl : i = x.f1.length := by omega
   rw [List.take_length] at hall
   have hres := H.out
   rw [hall.out] at hres
   obtain ⟨rfl, rfl⟩ := hres
   clear H BAD
   go_wp2
   go_ret2
   exact ⟨rfl, hb.out⟩
/-- From the i-th rule on: heads don't fall and leave none out, no more than 1024 symbols. -/
def rulesFrom (n head all : Int) : List S51 → Bool
 | [] => head == n - 1
 | x :: xs => ruleB n x && decide (head ≤ x.f0 ∧ x.f0 ≤ head + 1 ∧ all + cntR x.f1 ≤ 1024) && rulesFrom n x.f0 (all + cntR x.f1) xs
def mayB (start : Int) (names : List ByteArray) (rules : List S51) : Bool :=
 namesOk names && decide (0 ≤ start ∧ start < names.length ∧ 1 ≤ rules.length ∧ rules.length ≤ 256) && rulesFrom names.length (-1) 0 rules && decide ((rules.headD z51).f0 = 0)
def gram_May.f (a0_0 : Int) (l0_1 : List ByteArray) (l0_2 : List (S51)) : Option (Bool) := some (mayB a0_0 l0_1 l0_2)
set_option maxHeartbeats 8000000 in
set_option maxRecDepth 100000 in
theorem gram_May.calls (a0_0 : Int) (A0_1 : Option Addr) (c0_1 : Nat) (l0_1 : List ByteArray) (A0_2 : Option Addr) (c0_2 : Nat) (l0_2 : List (S51)) (r : Bool) (w : World) (hr0_1 : Kd.C Kd.string w A0_1 l0_1.length l0_1) (hc0_1 : l0_1.length ≤ c0_1) (hr0_2 : Kd.C k51 w A0_2 l0_2.length l0_2) (hc0_2 : l0_2.length ≤ c0_2) (h : gram_May.f a0_0 l0_1 l0_2 = some r) :
  Calls Try.prog 17 #[.agg #[.int .i64 a0_0, .slice A0_1 l0_1.length c0_1, .slice A0_2 l0_2.length c0_2]] w fun e w' => e = .returned (.bool r) ∧ Below w.heap.size w w' := by
 unfold gram_May.f at h
 have Hr := Aside0.mk (Option.some.inj h)
 clear h
 unfold mayB at Hr
 have HR1 := Aside0.mk hr0_1
 have HR2 := Aside0.mk hr0_2
 clear hr0_1 hr0_2
 cases hn : namesOk l0_1 with
 | false =>
  rw [hn] at Hr
  simp only [Bool.false_and] at Hr
  have Hn := Aside0.mk (show gram_names.f l0_1 = some false by unfold gram_names.f; rw [hn])
  clear hn
  go_enter Try.func17, Try.ntmps17
  go_wp2_with (first | (go_at_call 35; refine (gram_names.calls _ _ _ _ _ (Kd.C_alloc HR1.out _) hc0_1 Hn.out).mono ?_; rintro e w1 ⟨rfl, hb⟩; have HB := Aside0.mk hb; clear hb))
  go_ret
  exact ⟨by rw [← Hr.out]; rfl, below_step ((Below.refl _ _).alloc (Nat.le_refl _) _) HB.out⟩
 | true =>
  rw [hn, Bool.true_and] at Hr
  have Hn := Aside0.mk (show gram_names.f l0_1 = some true by unfold gram_names.f; rw [hn])
  have hL : l0_1.length ≤ 64 := by
   unfold namesOk at hn
   rw [Bool.and_eq_true, decide_eq_true_eq] at hn
   exact hn.1.2
  clear hn
  by_cases q1 : a0_0 < 0
  ·have HF := Aside0.mk (show false = r by rw [← Hr.out]; rw [show decide (0 ≤ a0_0 ∧ a0_0 < l0_1.length ∧ 1 ≤ l0_2.length ∧ l0_2.length ≤ 256) = false from by simp only [decide_eq_false_iff_not]; omega]; simp)
   clear Hr
   go_enter Try.func17, Try.ntmps17
   go_wp2_with (first | (go_at_call 35; refine (gram_names.calls _ _ _ _ _ (Kd.C_alloc HR1.out _) hc0_1 Hn.out).mono ?_; rintro e w1 ⟨rfl, hb⟩; have HB : Aside0 (Below w.heap.size w w1) := ⟨below_step ((Below.refl _ _).alloc (Nat.le_refl _) _) hb⟩; have HK : Aside0 (w1.heap[w.heap.size]? = some (.cells #[.int .i64 a0_0, .slice A0_1 l0_1.length c0_1, .slice A0_2 l0_2.length c0_2] 28 (0, 0))) := ⟨(hb.block _ (by simp)).trans (blk_new _ _)⟩; clear hb; have k0 : w1.cell? ⟨w.heap.size, 0, none⟩ = some (.int .i64 a0_0) := (blk_cell HK.out 0).trans rfl; have k1 : w1.cell? ⟨w.heap.size, 1, none⟩ = some (.slice A0_1 l0_1.length c0_1) := (blk_cell HK.out 1).trans rfl; have k2 : w1.cell? ⟨w.heap.size, 2, none⟩ = some (.slice A0_2 l0_2.length c0_2) := (blk_cell HK.out 2).trans rfl))
   go_ret
   exact ⟨by rw [← HF.out]; rfl, HB.out⟩
  by_cases q2 : (l0_1.length : Int) ≤ a0_0
  ·have HF := Aside0.mk (show false = r by rw [← Hr.out]; rw [show decide (0 ≤ a0_0 ∧ a0_0 < l0_1.length ∧ 1 ≤ l0_2.length ∧ l0_2.length ≤ 256) = false from by simp only [decide_eq_false_iff_not]; omega]; simp)
   clear Hr
   go_enter Try.func17, Try.ntmps17
   go_wp2_with (first | (go_at_call 35; refine (gram_names.calls _ _ _ _ _ (Kd.C_alloc HR1.out _) hc0_1 Hn.out).mono ?_; rintro e w1 ⟨rfl, hb⟩; have HB : Aside0 (Below w.heap.size w w1) := ⟨below_step ((Below.refl _ _).alloc (Nat.le_refl _) _) hb⟩; have HK : Aside0 (w1.heap[w.heap.size]? = some (.cells #[.int .i64 a0_0, .slice A0_1 l0_1.length c0_1, .slice A0_2 l0_2.length c0_2] 28 (0, 0))) := ⟨(hb.block _ (by simp)).trans (blk_new _ _)⟩; clear hb; have k0 : w1.cell? ⟨w.heap.size, 0, none⟩ = some (.int .i64 a0_0) := (blk_cell HK.out 0).trans rfl; have k1 : w1.cell? ⟨w.heap.size, 1, none⟩ = some (.slice A0_1 l0_1.length c0_1) := (blk_cell HK.out 1).trans rfl; have k2 : w1.cell? ⟨w.heap.size, 2, none⟩ = some (.slice A0_2 l0_2.length c0_2) := (blk_cell HK.out 2).trans rfl))
   go_ret
   exact ⟨by rw [← HF.out]; rfl, HB.out⟩
  by_cases q3 : l0_2.length < 1
  ·have HF := Aside0.mk (show false = r by rw [← Hr.out]; rw [show decide (0 ≤ a0_0 ∧ a0_0 < l0_1.length ∧ 1 ≤ l0_2.length ∧ l0_2.length ≤ 256) = false from by simp only [decide_eq_false_iff_not]; omega]; simp)
   clear Hr
   go_enter Try.func17, Try.ntmps17
   go_wp2_with (first | (go_at_call 35; refine (gram_names.calls _ _ _ _ _ (Kd.C_alloc HR1.out _) hc0_1 Hn.out).mono ?_; rintro e w1 ⟨rfl, hb⟩; have HB : Aside0 (Below w.heap.size w w1) := ⟨below_step ((Below.refl _ _).alloc (Nat.le_refl _) _) hb⟩; have HK : Aside0 (w1.heap[w.heap.size]? = some (.cells #[.int .i64 a0_0, .slice A0_1 l0_1.length c0_1, .slice A0_2 l0_2.length c0_2] 28 (0, 0))) := ⟨(hb.block _ (by simp)).trans (blk_new _ _)⟩; clear hb; have k0 : w1.cell? ⟨w.heap.size, 0, none⟩ = some (.int .i64 a0_0) := (blk_cell HK.out 0).trans rfl; have k1 : w1.cell? ⟨w.heap.size, 1, none⟩ = some (.slice A0_1 l0_1.length c0_1) := (blk_cell HK.out 1).trans rfl; have k2 : w1.cell? ⟨w.heap.size, 2, none⟩ = some (.slice A0_2 l0_2.length c0_2) := (blk_cell HK.out 2).trans rfl))
   go_ret
   exact ⟨by rw [← HF.out]; rfl, HB.out⟩
  by_cases q4 : 256 < l0_2.length
  ·have HF := Aside0.mk (show false = r by rw [← Hr.out]; rw [show decide (0 ≤ a0_0 ∧ a0_0 < l0_1.length ∧ 1 ≤ l0_2.length ∧ l0_2.length ≤ 256) = false from by simp only [decide_eq_false_iff_not]; omega]; simp)
   clear Hr
   go_enter Try.func17, Try.ntmps17
   go_wp2_with (first | (go_at_call 35; refine (gram_names.calls _ _ _ _ _ (Kd.C_alloc HR1.out _) hc0_1 Hn.out).mono ?_; rintro e w1 ⟨rfl, hb⟩; have HB : Aside0 (Below w.heap.size w w1) := ⟨below_step ((Below.refl _ _).alloc (Nat.le_refl _) _) hb⟩; have HK : Aside0 (w1.heap[w.heap.size]? = some (.cells #[.int .i64 a0_0, .slice A0_1 l0_1.length c0_1, .slice A0_2 l0_2.length c0_2] 28 (0, 0))) := ⟨(hb.block _ (by simp)).trans (blk_new _ _)⟩; clear hb; have k0 : w1.cell? ⟨w.heap.size, 0, none⟩ = some (.int .i64 a0_0) := (blk_cell HK.out 0).trans rfl; have k1 : w1.cell? ⟨w.heap.size, 1, none⟩ = some (.slice A0_1 l0_1.length c0_1) := (blk_cell HK.out 1).trans rfl; have k2 : w1.cell? ⟨w.heap.size, 2, none⟩ = some (.slice A0_2 l0_2.length c0_2) := (blk_cell HK.out 2).trans rfl))
   go_ret
   exact ⟨by rw [← HF.out]; rfl, HB.out⟩
  rw [show decide (0 ≤ a0_0 ∧ a0_0 < l0_1.length ∧ 1 ≤ l0_2.length ∧ l0_2.length ≤ 256) = true from by simp only [decide_eq_true_eq]; omega, Bool.true_and] at Hr
  have hb1 : l0_2.length ≤ 256 := by omega
  obtain ⟨T, hT⟩ : ∃ T, rulesFrom l0_1.length (-1) 0 l0_2 = T := ⟨_, rfl⟩
  rw [hT] at Hr
  have HT := Aside0.mk hT
  clear hT
  go_enter Try.func17, Try.ntmps17
  go_wp2_with (first | (go_at_call 35; refine (gram_names.calls _ _ _ _ _ (Kd.C_alloc HR1.out _) hc0_1 Hn.out).mono ?_; rintro e w1 ⟨rfl, hb⟩; have HB : Aside0 (Below w.heap.size w w1) := ⟨below_step ((Below.refl _ _).alloc (Nat.le_refl _) _) hb⟩; have HK : Aside0 (w1.heap[w.heap.size]? = some (.cells #[.int .i64 a0_0, .slice A0_1 l0_1.length c0_1, .slice A0_2 l0_2.length c0_2] 28 (0, 0))) := ⟨(hb.block _ (by simp)).trans (blk_new _ _)⟩; clear hb; have k0 : w1.cell? ⟨w.heap.size, 0, none⟩ = some (.int .i64 a0_0) := (blk_cell HK.out 0).trans rfl; have k1 : w1.cell? ⟨w.heap.size, 1, none⟩ = some (.slice A0_1 l0_1.length c0_1) := (blk_cell HK.out 1).trans rfl; have k2 : w1.cell? ⟨w.heap.size, 2, none⟩ = some (.slice A0_2 l0_2.length c0_2) := (blk_cell HK.out 2).trans rfl))
  go_loopw [3, 4, 41] (fun hd al v wr => ∃ (i : Nat) (head all : Int), i ≤ l0_2.length ∧ v = .int .i64 i ∧ hd = .int .i64 head ∧ al = .int .i64 all ∧ -1 ≤ head ∧ head ≤ (i : Int) - 1 ∧ 0 ≤ all ∧ all ≤ 1024 ∧ Aside0 (rulesFrom l0_1.length head all (l0_2.drop i) = T) ∧ Aside0 (wr.heap[w.heap.size]? = some (.cells #[.int .i64 a0_0, .slice A0_1 l0_1.length c0_1, .slice A0_2 l0_2.length c0_2] 28 (0, 0))) ∧ Aside0 (Below w.heap.size w wr)) (fun _ _ v _ => l0_2.length - (intOf v).toNat)
  case atStart => exact ⟨0, -1, 0, by omega, rfl, rfl, rfl, by omega, by omega, by omega, by omega, HT, HK, HB⟩
  case round =>
   clear k0 k1 k2 HB HK
   obtain ⟨i, head, all, hi, rfl, rfl, rfl, hh1, hh2, ha1, ha2, hrf, hbk, hb⟩ := hrel
   have k1 : wr.cell? ⟨w.heap.size, 1, none⟩ = some (.slice A0_1 l0_1.length c0_1) := (blk_cell hbk.out 1).trans rfl
   have k2 : wr.cell? ⟨w.heap.size, 2, none⟩ = some (.slice A0_2 l0_2.length c0_2) := (blk_cell hbk.out 2).trans rfl
   by_cases hlt : i < l0_2.length
   ·obtain ⟨ad, A1, c1, eA, g0, g1, hc1, hC⟩ := at_T51 (Kd.C_below HR2.out hb.out) (i : Int) (by omega) (by omega)
    rw [rd_rule _ _ hlt] at g0 g1 hc1 hC
    rw [Int.toNat_natCast] at g0 g1
    have hds := hrf.out
    rw [List.drop_eq_getElem_cons hlt] at hds
    unfold rulesFrom at hds
    subst eA
    generalize l0_2[i] = x at *
    have HC := Aside0.mk hC
    have HD := Aside0.mk hds
    clear hC hds hrf
    cases hrb : ruleB l0_1.length x with
    | false =>
     have HRC := Aside0.mk (fun W h1 h2 => rule_calls (ad.add (i * 2)) x l0_1.length A1 c1 0 false W h1 h2 ⟨by rw [hrb]; rfl, hrb⟩)
     rw [hrb] at HD
     simp only [Bool.false_and] at HD
     have HF := Aside0.mk (show false = r by rw [← Hr.out, ← HD.out, Bool.false_and])
     clear Hr HD hrb
     go_wp2_with (first | (go_at_call 36; refine (HRC.out _ g1 HC.out).mono ?_; rintro e w2 ⟨rfl, hb2⟩; have HB2 := Aside0.mk hb2; clear hb2))
     go_ret
     exact ⟨by rw [← HF.out]; rfl, below_step hb.out HB2.out⟩
    | true =>
     have HRC := Aside0.mk (fun W h1 h2 => rule_calls (ad.add (i * 2)) x l0_1.length A1 c1 (cntR x.f1) true W h1 h2 ⟨by rw [hrb]; rfl, hrb⟩)
     rw [hrb, Bool.true_and] at HD
     have hcn : (cntR x.f1 : Int) ≤ 512 := by
      have hq := hrb
      unfold ruleB at hq
      rw [Bool.and_eq_true, decide_eq_true_eq] at hq
      have := cntR_le _ _ hq.2
      omega
     clear hrb
     by_cases p1 : x.f0 < head
     ·have HF := Aside0.mk (show false = r by rw [← Hr.out, ← HD.out, show decide (head ≤ x.f0 ∧ x.f0 ≤ head + 1 ∧ all + cntR x.f1 ≤ 1024) = false from by simp only [decide_eq_false_iff_not]; omega, Bool.false_and, Bool.false_and])
      clear Hr HD
      go_wp2_with (first | (go_at_call 36; refine (HRC.out _ g1 HC.out).mono ?_; rintro e w2 ⟨rfl, hb2⟩; have HB2 := Aside0.mk hb2; clear hb2; have g2 : w2.cell? (ad.add (i * 2)) = some (.int .i64 x.f0) := pw_cell_below HB2.out g0; clear g0))
      go_ret
      exact ⟨by rw [← HF.out]; rfl, below_step hb.out HB2.out⟩
     by_cases p2 : head + 1 < x.f0
     ·have HF := Aside0.mk (show false = r by rw [← Hr.out, ← HD.out, show decide (head ≤ x.f0 ∧ x.f0 ≤ head + 1 ∧ all + cntR x.f1 ≤ 1024) = false from by simp only [decide_eq_false_iff_not]; omega, Bool.false_and, Bool.false_and])
      clear Hr HD
      go_wp2_with (first | (go_at_call 36; refine (HRC.out _ g1 HC.out).mono ?_; rintro e w2 ⟨rfl, hb2⟩; have HB2 := Aside0.mk hb2; clear hb2; have g2 : w2.cell? (ad.add (i * 2)) = some (.int .i64 x.f0) := pw_cell_below HB2.out g0; clear g0))
      go_ret
      exact ⟨by rw [← HF.out]; rfl, below_step hb.out HB2.out⟩
     by_cases p3 : 1024 < all + (cntR x.f1 : Int)
     ·have HF := Aside0.mk (show false = r by rw [← Hr.out, ← HD.out, show decide (head ≤ x.f0 ∧ x.f0 ≤ head + 1 ∧ all + cntR x.f1 ≤ 1024) = false from by simp only [decide_eq_false_iff_not]; omega, Bool.false_and, Bool.false_and])
      clear Hr HD
      go_wp2_with (first | (go_at_call 36; refine (HRC.out _ g1 HC.out).mono ?_; rintro e w2 ⟨rfl, hb2⟩; have HB2 := Aside0.mk hb2; clear hb2; have g2 : w2.cell? (ad.add (i * 2)) = some (.int .i64 x.f0) := pw_cell_below HB2.out g0; clear g0))
      go_ret
      exact ⟨by rw [← HF.out]; rfl, below_step hb.out HB2.out⟩
     rw [show decide (head ≤ x.f0 ∧ x.f0 ≤ head + 1 ∧ all + cntR x.f1 ≤ 1024) = true from by simp only [decide_eq_true_eq]; omega, Bool.true_and] at HD
     have p1' : head ≤ x.f0 := by omega
     have p2' : x.f0 ≤ head + 1 := by omega
     have p3' : all + (cntR x.f1 : Int) ≤ 1024 := by omega
     clear p1 p2 p3
     go_wp2_with (first | (go_at_call 36; refine (HRC.out _ g1 HC.out).mono ?_; rintro e w2 ⟨rfl, hb2⟩; have HB2 := Aside0.mk hb2; clear hb2; have g2 : w2.cell? (ad.add (i * 2)) = some (.int .i64 x.f0) := pw_cell_below HB2.out g0; clear g0))
     go_roundw
     case rel => exact ⟨i + 1, x.f0, all + cntR x.f1, by omega, by go_num, rfl, rfl, by omega, by omega, by omega, by omega, HD, ⟨blk_below hbk.out HB2.out⟩, ⟨below_step hb.out HB2.out⟩⟩
     case measure => simp [intOf]; omega
   ·obtain rfl : i = l0_2.length := by omega
    rw [List.drop_length] at hrf
    obtain ⟨ad, A1, c1, eA, g0, g1, hc1, hC⟩ := at_T51 (Kd.C_below HR2.out hb.out) 0 (by omega) (by omega)
    have hrd : rd_T51 l0_2 0 = l0_2.headD z51 := by
     cases l0_2 with
     | nil => rfl
     | cons _ _ => rfl
    rw [hrd] at g0
    simp only [Int.toNat_zero, Nat.zero_mul] at g0
    subst eA
    have gz : wr.cell? ad = some (.int .i64 (l0_2.headD z51).f0) := g0
    have HF := Aside0.mk (show ((head == (l0_1.length : Int) - 1) && decide ((l0_2.headD z51).f0 = 0)) = r by rw [← Hr.out, ← hrf.out]; rfl)
    clear Hr hrf hrd g1 hc1 hC
    generalize l0_2.headD z51 = x at *
    by_cases s1 : x.f0 = 0
    ·have t0 : (x.f0 == 0) = true := beq_iff_eq.2 s1
     rw [show decide (x.f0 = 0) = true from by simpa using s1, Bool.and_true] at HF
     clear s1
     go_wp2
     go_ret
     exact ⟨by rw [← HF.out]; rfl, hb.out⟩
    ·have t0 : (x.f0 == 0) = false := beq_eq_false_iff_ne.2 s1
     rw [show decide (x.f0 = 0) = false from by simpa using s1, Bool.and_false] at HF
     clear s1
     go_wp2
     go_ret
     exact ⟨by have := HF.out; rw [← this] <;> rfl, hb.out⟩


-- NOT PRINTED: function 23 (gram_numbers)

/-! ### gram_Build_1: function 24 -/
def gram_Build_1.f (l0 : List (S61)) (a1 : Int) (a2 : MapP) : Option Bool := if 0 ≤ a1 ∧ a1 < (l0.length : Int) then some (decide ((rd_T61 l0 a1).f0 ≠ 0) || (mfind a2 (rd_T61 l0 a1).f1).isSome) else none
set_option maxHeartbeats 8000000 in
set_option maxRecDepth 100000 in
theorem gram_Build_1.calls (gm gb : Nat) (ad : Addr) (c0 : Nat) (l0 : List (S61)) (a1 : Int) (a2 : MapP) (r : Bool) (w : World) (hr0 : Kd.C k61 w (some ad) l0.length l0) (hc0 : l0.length ≤ c0) (hM : MapIs w gm (mapVals a2)) (hG : w.cell? ⟨gb, 0, none⟩ = some (.map (some gm))) (h : gram_Build_1.f l0 a1 a2 = some r) :
  Calls Try.prog 24 #[.pointer (some (ad.add (a1.toNat * 4))), .pointer (some ⟨gb, 0, none⟩)] w fun e w' => e = .returned (.bool r) ∧ Drawn0 w w' := by
 unfold gram_Build_1.f at h
 by_cases hk : 0 ≤ a1 ∧ a1 < (l0.length : Int)
 ·rw [if_pos hk] at h
  have hr := Option.some.inj h
  clear h
  obtain ⟨i0_, hi0_, hz0_, hz1_, hz2_⟩ := info_parts (show (Try.prog.info? 3).map (fun i => (i.zero, i.size, i.bytes)) = some (some (.int .i64 0), 1, 8) from by kernel_rfl)
  obtain ⟨ad1, e1, hx0, hx1, hx2, hx3⟩ := at_T61 hr0 a1 hk.1 hk.2
  cases e1
  have hlk := fun m => look_int_ok (P := Try.prog) (w := w.drewN m) Try.underlying69 Try.underlying9 hi0_ hz0_ hM ((rd_T61 l0 a1).f1)
  have hlk2 := look_int_ok (P := Try.prog) (w := w.drew) Try.underlying69 Try.underlying9 hi0_ hz0_ (show MapIs w.drew gm (mapVals a2) from hM) ((rd_T61 l0 a1).f1)
  have HH := Aside0.mk hr
  clear hr hr0 hc0 hM
  by_cases h0 : (rd_T61 l0 a1).f0 = 0
  ·have c0b0 : ((rd_T61 l0 a1).f0 != 0) = false := by rw [h0]; rfl
   go_enter Try.func24, Try.ntmps24
   go_wp2
   go_region
   all_goals (try go_wp2)
   all_goals go_ret
   all_goals exact ⟨by rw [← HH.out]; simp [h0], ⟨_, rfl⟩⟩
  ·have c0b0 : ((rd_T61 l0 a1).f0 != 0) = true := by simp [h0]
   go_enter Try.func24, Try.ntmps24
   go_wp2
   go_region
   all_goals (try go_wp2)
   all_goals go_ret
   all_goals exact ⟨by rw [← HH.out]; simp [h0], ⟨_, rfl⟩⟩
 ·rw [if_neg hk] at h
  cases h


/-! ### gram_items: function 25 -/
mutual
def gram_items.l0 : Nat → List (S45) → MapP → Int → Int → Option (Int × ByteArray × Bool)
 | 0, _, _, _, _ => none
 | k + 1, x0, x1, x14, x15 => if x15 < x14 then (if 0 ≤ x15 then (if x15 < (x0.length : Int) then (gram_items.l1 k x0 x1 x15 x14 x15 ((rd_T45 x0 x15).f1) (((rd_T45 x0 x15).f1).length : Int) 0) else (none)) else (none)) else (some (0, (⟨#[]⟩ : ByteArray), true))
def gram_items.l1 : Nat → List (S45) → MapP → Int → Int → Int → List (List (S64)) → Int → Int → Option (Int × ByteArray × Bool)
 | 0, _, _, _, _, _, _, _, _ => none
 | k + 1, x0, x1, x7, x14, x15, x22, x23, x24 => if x24 < x23 then (if 0 ≤ x24 then (if x24 < (x22.length : Int) then (gram_items.l2 k x0 x1 x7 x14 x15 x22 x23 x24 (rd_L11 x22 x24) ((rd_L11 x22 x24).length : Int) 0) else (none)) else (none)) else (gram_items.l0 k x0 x1 x14 (wrap64 (x15 + 1)))
def gram_items.l2 : Nat → List (S45) → MapP → Int → Int → Int → List (List (S64)) → Int → Int → List (S64) → Int → Int → Option (Int × ByteArray × Bool)
 | 0, _, _, _, _, _, _, _, _, _, _, _ => none
 | k + 1, x0, x1, x7, x14, x15, x22, x23, x24, x28, x29, x30 => if x30 < x29 then (if 0 ≤ x30 then (if x30 < (x28.length : Int) then (gram_items.l3 k x0 x1 x7 x14 x15 x22 x23 x24 x28 x29 x30 (((rd_T64 x28 x30).f1).length : Int) 0 ((rd_T64 x28 x30).f0) ((rd_T64 x28 x30).f1)) else (none)) else (none)) else (gram_items.l1 k x0 x1 x7 x14 x15 x22 x23 (wrap64 (x24 + 1)))
def gram_items.l3 : Nat → List (S45) → MapP → Int → Int → Int → List (List (S64)) → Int → Int → List (S64) → Int → Int → Int → Int → Bool → List (S61) → Option (Int × ByteArray × Bool)
 | 0, _, _, _, _, _, _, _, _, _, _, _, _, _, _, _ => none
 | k + 1, x0, x1, x7, x14, x15, x22, x23, x24, x28, x29, x30, x36, x37, x114000, x114001 => if x37 < x36 then (if 0 ≤ x37 then (if x37 < (x114001.length : Int) then ((gram_Build_1.f x114001 x37 x1).bind fun t115 => (if t115 = true then (gram_items.l3 k x0 x1 x7 x14 x15 x22 x23 x24 x28 x29 x30 x36 (wrap64 (x37 + 1)) x114000 x114001) else (some (x7, (rd_T61 x114001 x37).f1, false)))) else (none)) else (none)) else (gram_items.l2 k x0 x1 x7 x14 x15 x22 x23 x24 x28 x29 (wrap64 (x30 + 1)))
end
def gram_items.f (k : Nat) (l0 : List (S45)) (a1 : MapP) : Option (Int × ByteArray × Bool) := gram_items.l0 k l0 a1 (l0.length : Int) 0
theorem gram_items.mono_l : ∀ k, (∀ y0 y1 y2 y3, LeO (gram_items.l0 k y0 y1 y2 y3) (gram_items.l0 (k + 1) y0 y1 y2 y3)) ∧ (∀ y0 y1 y2 y3 y4 y5 y6 y7, LeO (gram_items.l1 k y0 y1 y2 y3 y4 y5 y6 y7) (gram_items.l1 (k + 1) y0 y1 y2 y3 y4 y5 y6 y7)) ∧ (∀ y0 y1 y2 y3 y4 y5 y6 y7 y8 y9 y10, LeO (gram_items.l2 k y0 y1 y2 y3 y4 y5 y6 y7 y8 y9 y10) (gram_items.l2 (k + 1) y0 y1 y2 y3 y4 y5 y6 y7 y8 y9 y10)) ∧ (∀ y0 y1 y2 y3 y4 y5 y6 y7 y8 y9 y10 y11 y12 y13 y14, LeO (gram_items.l3 k y0 y1 y2 y3 y4 y5 y6 y7 y8 y9 y10 y11 y12 y13 y14) (gram_items.l3 (k + 1) y0 y1 y2 y3 y4 y5 y6 y7 y8 y9 y10 y11 y12 y13 y14))
 | 0 => ⟨fun _ _ _ _ r h => by simp [gram_items.l0] at h, fun _ _ _ _ _ _ _ _ r h => by simp [gram_items.l1] at h, fun _ _ _ _ _ _ _ _ _ _ _ r h => by simp [gram_items.l2] at h, fun _ _ _ _ _ _ _ _ _ _ _ _ _ _ _ r h => by simp [gram_items.l3] at h⟩
 | k + 1 => by
  obtain ⟨ih0, ih1, ih2, ih3⟩ := gram_items.mono_l k
  refine ⟨?_, ?_, ?_, ?_⟩
  ·intro y0 y1 y2 y3
   unfold gram_items.l0
   repeat' first
   | (with_reducible exact ih0 _ _ _ _)
   | (with_reducible exact ih1 _ _ _ _ _ _ _ _)
   | (with_reducible exact ih2 _ _ _ _ _ _ _ _ _ _ _)
   | (with_reducible exact ih3 _ _ _ _ _ _ _ _ _ _ _ _ _ _ _)
   | (with_reducible exact LeO.refl _)
   | (with_reducible exact LeO.none _)
   | (with_reducible refine LeO.ite ?_ ?_)
   | (with_reducible refine LeO.bind ?_ (fun _ => ?_))
   | exact ih0 _ _ _ _
   | exact ih1 _ _ _ _ _ _ _ _
   | exact ih2 _ _ _ _ _ _ _ _ _ _ _
   | exact ih3 _ _ _ _ _ _ _ _ _ _ _ _ _ _ _
   | exact LeO.none _
   | refine LeO.ite ?_ ?_
   | refine LeO.bind ?_ (fun _ => ?_)
  ·intro y0 y1 y2 y3 y4 y5 y6 y7
   unfold gram_items.l1
   repeat' first
   | (with_reducible exact ih0 _ _ _ _)
   | (with_reducible exact ih1 _ _ _ _ _ _ _ _)
   | (with_reducible exact ih2 _ _ _ _ _ _ _ _ _ _ _)
   | (with_reducible exact ih3 _ _ _ _ _ _ _ _ _ _ _ _ _ _ _)
   | (with_reducible exact LeO.refl _)
   | (with_reducible exact LeO.none _)
   | (with_reducible refine LeO.ite ?_ ?_)
   | (with_reducible refine LeO.bind ?_ (fun _ => ?_))
   | exact ih0 _ _ _ _
   | exact ih1 _ _ _ _ _ _ _ _
   | exact ih2 _ _ _ _ _ _ _ _ _ _ _
   | exact ih3 _ _ _ _ _ _ _ _ _ _ _ _ _ _ _
   | exact LeO.none _
   | refine LeO.ite ?_ ?_
   | refine LeO.bind ?_ (fun _ => ?_)
  ·intro y0 y1 y2 y3 y4 y5 y6 y7 y8 y9 y10
   unfold gram_items.l2
   repeat' first
   | (with_reducible exact ih0 _ _ _ _)
   | (with_reducible exact ih1 _ _ _ _ _ _ _ _)
   | (with_reducible exact ih2 _ _ _ _ _ _ _ _ _ _ _)
   | (with_reducible exact ih3 _ _ _ _ _ _ _ _ _ _ _ _ _ _ _)
   | (with_reducible exact LeO.refl _)
   | (with_reducible exact LeO.none _)
   | (with_reducible refine LeO.ite ?_ ?_)
   | (with_reducible refine LeO.bind ?_ (fun _ => ?_))
   | exact ih0 _ _ _ _
   | exact ih1 _ _ _ _ _ _ _ _
   | exact ih2 _ _ _ _ _ _ _ _ _ _ _
   | exact ih3 _ _ _ _ _ _ _ _ _ _ _ _ _ _ _
   | exact LeO.none _
   | refine LeO.ite ?_ ?_
   | refine LeO.bind ?_ (fun _ => ?_)
  ·intro y0 y1 y2 y3 y4 y5 y6 y7 y8 y9 y10 y11 y12 y13 y14
   unfold gram_items.l3
   repeat' first
   | (with_reducible exact ih0 _ _ _ _)
   | (with_reducible exact ih1 _ _ _ _ _ _ _ _)
   | (with_reducible exact ih2 _ _ _ _ _ _ _ _ _ _ _)
   | (with_reducible exact ih3 _ _ _ _ _ _ _ _ _ _ _ _ _ _ _)
   | (with_reducible exact LeO.refl _)
   | (with_reducible exact LeO.none _)
   | (with_reducible refine LeO.ite ?_ ?_)
   | (with_reducible refine LeO.bind ?_ (fun _ => ?_))
   | exact ih0 _ _ _ _
   | exact ih1 _ _ _ _ _ _ _ _
   | exact ih2 _ _ _ _ _ _ _ _ _ _ _
   | exact ih3 _ _ _ _ _ _ _ _ _ _ _ _ _ _ _
   | exact LeO.none _
   | refine LeO.ite ?_ ?_
   | refine LeO.bind ?_ (fun _ => ?_)
theorem gram_items.mono : ∀ a0 a1 k, LeO (gram_items.f k a0 a1) (gram_items.f (k + 1) a0 a1) := by
 intro a0 a1 k
 obtain ⟨ih0, ih1, ih2, ih3⟩ := gram_items.mono_l k
 unfold gram_items.f
 repeat' first
   | (with_reducible exact ih0 _ _ _ _)
   | (with_reducible exact ih1 _ _ _ _ _ _ _ _)
   | (with_reducible exact ih2 _ _ _ _ _ _ _ _ _ _ _)
   | (with_reducible exact ih3 _ _ _ _ _ _ _ _ _ _ _ _ _ _ _)
   | (with_reducible exact LeO.refl _)
   | (with_reducible exact LeO.none _)
   | (with_reducible refine LeO.ite ?_ ?_)
   | (with_reducible refine LeO.bind ?_ (fun _ => ?_))
   | exact ih0 _ _ _ _
   | exact ih1 _ _ _ _ _ _ _ _
   | exact ih2 _ _ _ _ _ _ _ _ _ _ _
   | exact ih3 _ _ _ _ _ _ _ _ _ _ _ _ _ _ _
   | exact LeO.none _
   | refine LeO.ite ?_ ?_
   | refine LeO.bind ?_ (fun _ => ?_)
set_option maxHeartbeats 8000000 in
set_option maxRecDepth 100000 in
theorem gram_items.calls (k : Nat) (gm gb : Nat) (A0 : Option Addr) (c0 : Nat) (l0 : List (S45)) (a1 : MapP) (r1 : Int) (r2 : ByteArray) (r3 : Bool) (w : World) (hr0 : Kd.C k45 w A0 l0.length l0) (hc0 : l0.length ≤ c0) (hM : MapIs w gm (mapVals a1)) (hG : w.cell? ⟨gb, 0, none⟩ = some (.map (some gm))) (h : gram_items.f k l0 a1 = some (r1, r2, r3)) :
  Calls Try.prog 25 #[.slice A0 l0.length c0, .func (.func 24) #[] #[.pointer (some ⟨gb, 0, none⟩)]] w fun e w' => ∃ v2_ : Value, e = .returned (.tuple #[.int .i64 r1, v2_, .bool r3]) ∧ (r3 = false → ∃ p_ : Addr, v2_ = .pointer (some p_) ∧ w'.cell? ⟨p_.block, p_.off + 1, none⟩ = some (.string r2)) ∧ Below w.heap.size w w' := by
 have hu64 := Try.underlying64
 have HM := Aside0.mk hM
 have HG := Aside0.mk hG
 clear hM hG
 have HR0 := Aside0.mk hr0
 have HC0 := Aside0.mk hc0
 clear hr0 hc0
 have HB := Aside0.mk (Below.refl w.heap.size w)
 have H : (gram_items.l0 k l0 a1 (l0.length : Int) 0) = some (r1, r2, r3) := h
 clear h
 have H' := Aside0.mk H
 clear H
 go_enter Try.func25, Try.ntmps25
 go_wp2
 repeat (go_quiet (fail); try go_wp2)
 go_loopg [15] k (fun kq v15 w' => ∃ (x15_1 : Int), v15 = .int .i64 x15_1 ∧ Aside0 (gram_items.l0 kq l0 a1 (l0.length : Int) x15_1 = some (r1, r2, r3)) ∧ Aside0 (kq ≤ k) ∧ Aside0 (Below w.heap.size w w'))
 case atStart => exact ⟨(0), (by first | rfl | (simp; done) | (simp [i64_w]; done) | (simp [*]; done) | (simp [*, i64_w]; done) | (simp [*]; unfold wrap64; omega)), H', ⟨Nat.le_refl _⟩, ⟨by repeat (first | (with_reducible first | exact HB.out | apply below_alloc | apply pw_below_drewN | apply below_drew1) | exact HB.out)⟩⟩
 case round =>
  clear H'
  try clear c2
  try clear p2
  obtain ⟨x15_1, rfl, HA, HK1, HB⟩ := hrel
  cases gk with
  | zero => exact absurd HA.out (by simp [gram_items.l0])
  | succ k1 =>
   have H := HA.out
   clear HA
   simp only [gram_items.l0] at H
   by_cases c3 : x15_1 < (l0.length : Int)
   ·rw [if_pos c3] at H
    have c3b0 : decide (x15_1 < (l0.length : Int)) = true := decide_eq_true c3
    clear c3
    by_cases c4 : 0 ≤ x15_1
    ·rw [if_pos c4] at H
     have c4b0 : decide (0 ≤ x15_1) = true := decide_eq_true c4
     clear c4
     by_cases c5 : x15_1 < (l0.length : Int)
     ·rw [if_pos c5] at H
      have c5b0 : decide (x15_1 < (l0.length : Int)) = true := decide_eq_true c5
      clear c5
      have H' := Aside0.mk H
      clear H
      have p110 : 0 ≤ (x15_1 : Int) := of_decide_eq_true (by first | (with_reducible assumption) | assumption)
      have q110 : x15_1 < (l0.length : Int) := of_decide_eq_true (by first | (with_reducible assumption) | assumption)
      obtain ⟨ad110, A110_1, c110_1, e110, hx110_0, hx110_1, hl110_1, hi110_1⟩ := at_T45 HR0.out x15_1 p110 q110
      cases e110
      replace hx110_0 := (HB.out.cell (World.block_lt_of_cell? w _ hx110_0)).trans hx110_0
      replace hx110_1 := (HB.out.cell (World.block_lt_of_cell? w _ hx110_1)).trans hx110_1
      have HR110_1 := Aside0.mk hi110_1
      have HC110_1 := Aside0.mk hl110_1
      clear hi110_1 hl110_1
      replace p110 := eq_true p110
      replace q110 := eq_true q110
      go_wp2
      repeat (go_quiet (fail); try go_wp2)
      go_loopg [24] k1 (fun kq v24 w' => ∃ (x24_2 : Int), v24 = .int .i64 x24_2 ∧ Aside0 (gram_items.l1 kq l0 a1 x15_1 (l0.length : Int) x15_1 ((rd_T45 l0 x15_1).f1) (((rd_T45 l0 x15_1).f1).length : Int) x24_2 = some (r1, r2, r3)) ∧ Aside0 (kq ≤ k1) ∧ Aside0 (Below w.heap.size w w'))
      case atStart => exact ⟨(0), (by first | rfl | (simp; done) | (simp [i64_w]; done) | (simp [*]; done) | (simp [*, i64_w]; done) | (simp [*]; unfold wrap64; omega)), H', ⟨Nat.le_refl _⟩, ⟨by repeat (first | (with_reducible first | exact HB.out | apply below_alloc | apply pw_below_drewN | apply below_drew1) | exact HB.out)⟩⟩
      case round =>
       clear H'
       try clear c1
       try clear p1
       try clear q1
       try clear hx1
       try clear c2
       try clear p2
       try clear c3
       try clear c3b0
       try clear c4
       try clear c4b0
       try clear c5
       try clear c5b0
       try clear hx110_0
       try clear hx110_1
       try clear p110
       try clear p2
       try clear q110
       obtain ⟨x24_2, rfl, HA, HK2, HB⟩ := hrel
       cases gk with
       | zero => exact absurd HA.out (by simp [gram_items.l1])
       | succ k2 =>
        have H := HA.out
        clear HA
        simp only [gram_items.l1] at H
        by_cases c6 : x24_2 < (((rd_T45 l0 x15_1).f1).length : Int)
        ·rw [if_pos c6] at H
         have c6b0 : decide (x24_2 < (((rd_T45 l0 x15_1).f1).length : Int)) = true := decide_eq_true c6
         clear c6
         by_cases c7 : 0 ≤ x24_2
         ·rw [if_pos c7] at H
          have c7b0 : decide (0 ≤ x24_2) = true := decide_eq_true c7
          clear c7
          by_cases c8 : x24_2 < (((rd_T45 l0 x15_1).f1).length : Int)
          ·rw [if_pos c8] at H
           have c8b0 : decide (x24_2 < (((rd_T45 l0 x15_1).f1).length : Int)) = true := decide_eq_true c8
           clear c8
           have H' := Aside0.mk H
           clear H
           have p111 : 0 ≤ (x24_2 : Int) := of_decide_eq_true (by first | (with_reducible assumption) | assumption)
           have q111 : x24_2 < (((rd_T45 l0 x15_1).f1).length : Int) := of_decide_eq_true (by first | (with_reducible assumption) | assumption)
           obtain ⟨ad111, A111_0, c111_0, e111, hx111_0, hl111_0, hi111_0⟩ := at_L11 HR110_1.out x24_2 p111 q111
           cases e111
           replace hx111_0 := (HB.out.cell (World.block_lt_of_cell? w _ hx111_0)).trans hx111_0
           have HR111_0 := Aside0.mk hi111_0
           have HC111_0 := Aside0.mk hl111_0
           clear hi111_0 hl111_0
           replace p111 := eq_true p111
           replace q111 := eq_true q111
           go_wp2
           repeat (go_quiet (fail); try go_wp2)
           go_loopg [30] k2 (fun kq v30 w' => ∃ (x30_3 : Int), v30 = .int .i64 x30_3 ∧ Aside0 (gram_items.l2 kq l0 a1 x15_1 (l0.length : Int) x15_1 ((rd_T45 l0 x15_1).f1) (((rd_T45 l0 x15_1).f1).length : Int) x24_2 (rd_L11 ((rd_T45 l0 x15_1).f1) x24_2) ((rd_L11 ((rd_T45 l0 x15_1).f1) x24_2).length : Int) x30_3 = some (r1, r2, r3)) ∧ Aside0 (kq ≤ k2) ∧ Aside0 (Below w.heap.size w w'))
           case atStart => exact ⟨(0), (by first | rfl | (simp; done) | (simp [i64_w]; done) | (simp [*]; done) | (simp [*, i64_w]; done) | (simp [*]; unfold wrap64; omega)), H', ⟨Nat.le_refl _⟩, ⟨by repeat (first | (with_reducible first | exact HB.out | apply below_alloc | apply pw_below_drewN | apply below_drew1) | exact HB.out)⟩⟩
           case round =>
            clear H'
            try clear c1
            try clear p1
            try clear q1
            try clear hx1
            try clear c2
            try clear p2
            try clear c3
            try clear c3b0
            try clear c4
            try clear c4b0
            try clear c5
            try clear c5b0
            try clear c6
            try clear c6b0
            try clear c7
            try clear c7b0
            try clear c8
            try clear c8b0
            try clear hx110_0
            try clear hx110_1
            try clear hx111_0
            try clear p1
            try clear p110
            try clear p111
            try clear p2
            try clear q1
            try clear q110
            try clear q111
            obtain ⟨x30_3, rfl, HA, HK3, HB⟩ := hrel
            cases gk with
            | zero => exact absurd HA.out (by simp [gram_items.l2])
            | succ k3 =>
             have H := HA.out
             clear HA
             simp only [gram_items.l2] at H
             by_cases c9 : x30_3 < ((rd_L11 ((rd_T45 l0 x15_1).f1) x24_2).length : Int)
             ·rw [if_pos c9] at H
              have c9b0 : decide (x30_3 < ((rd_L11 ((rd_T45 l0 x15_1).f1) x24_2).length : Int)) = true := decide_eq_true c9
              clear c9
              by_cases c10 : 0 ≤ x30_3
              ·rw [if_pos c10] at H
               have c10b0 : decide (0 ≤ x30_3) = true := decide_eq_true c10
               clear c10
               by_cases c11 : x30_3 < ((rd_L11 ((rd_T45 l0 x15_1).f1) x24_2).length : Int)
               ·rw [if_pos c11] at H
                have c11b0 : decide (x30_3 < ((rd_L11 ((rd_T45 l0 x15_1).f1) x24_2).length : Int)) = true := decide_eq_true c11
                clear c11
                have H' := Aside0.mk H
                clear H
                have p112 : 0 ≤ (x30_3 : Int) := of_decide_eq_true (by first | (with_reducible assumption) | assumption)
                have q112 : x30_3 < ((rd_L11 ((rd_T45 l0 x15_1).f1) x24_2).length : Int) := of_decide_eq_true (by first | (with_reducible assumption) | assumption)
                obtain ⟨ad112, A112_1, c112_1, e112, hx112_0, hx112_1, hl112_1, hi112_1⟩ := at_T64 HR111_0.out x30_3 p112 q112
                cases e112
                replace hx112_0 := (HB.out.cell (World.block_lt_of_cell? w _ hx112_0)).trans hx112_0
                replace hx112_1 := (HB.out.cell (World.block_lt_of_cell? w _ hx112_1)).trans hx112_1
                have HR112_1 := Aside0.mk hi112_1
                have HC112_1 := Aside0.mk hl112_1
                clear hi112_1 hl112_1
                replace p112 := eq_true p112
                replace q112 := eq_true q112
                go_wp2_with (first | ((with_reducible refine gate_dst (N := 11) rfl ?_); refine box_event ?hg (N := 11) ?hd (cs := #[.bool false, .slice none 0 0]) (t := 64) ?hr ?_; (case hd => rfl); (case hg => rfl); (case hr => first | (go_simp; done) | (go_simp; rfl)); intro gb113 hg w12 hbox hb; have n0_ := Aside0.mk (below_step (by repeat (first | (with_reducible first | exact HB.out | apply below_alloc | apply pw_below_drewN | apply below_drew1) | exact HB.out)) hb); have n1_ := Aside0.mk (hbox); have n2_ := Aside0.mk ((by rw [hg]; exact (below_size (by repeat (first | (with_reducible first | exact HB.out | apply below_alloc | apply pw_below_drewN | apply below_drew1) | exact HB.out))) : w.heap.size ≤ gb113)); have n3_ := Aside0.mk ((by rw [hg]; exact (below_size (by repeat (first | (with_reducible first | exact HB.out | apply below_alloc | apply pw_below_drewN | apply below_drew1) | exact HB.out))) : w.heap.size ≤ gb113)); clear HB; have HB := n0_; have BK113 := n1_; have GW113 := n2_; have GE113 := n3_; clear n0_ n1_ n2_ n3_; clear hb hbox hg; have hcz13_0 : w12.cell? ⟨gb113, 0, none⟩ = some (.bool false) := (blk_cell BK113.out 0).trans rfl; have hcz13_1 : w12.cell? ⟨gb113, 1, none⟩ = some (.slice none 0 0) := (blk_cell BK113.out 1).trans rfl; have hfz13_0 := blk_frozen BK113.out 0; have hfz13_1 := blk_frozen BK113.out 1))
                repeat (go_quiet (first | ((with_reducible refine gate_dst (N := 11) rfl ?_); refine box_event ?hg (N := 11) ?hd (cs := #[.bool false, .slice none 0 0]) (t := 64) ?hr ?_; (case hd => rfl); (case hg => rfl); (case hr => first | (go_simp; done) | (go_simp; rfl)); intro gb113 hg w12 hbox hb; have n0_ := Aside0.mk (below_step (by repeat (first | (with_reducible first | exact HB.out | apply below_alloc | apply pw_below_drewN | apply below_drew1) | exact HB.out)) hb); have n1_ := Aside0.mk (hbox); have n2_ := Aside0.mk ((by rw [hg]; exact (below_size (by repeat (first | (with_reducible first | exact HB.out | apply below_alloc | apply pw_below_drewN | apply below_drew1) | exact HB.out))) : w.heap.size ≤ gb113)); have n3_ := Aside0.mk ((by rw [hg]; exact (below_size (by repeat (first | (with_reducible first | exact HB.out | apply below_alloc | apply pw_below_drewN | apply below_drew1) | exact HB.out))) : w.heap.size ≤ gb113)); clear HB; have HB := n0_; have BK113 := n1_; have GW113 := n2_; have GE113 := n3_; clear n0_ n1_ n2_ n3_; clear hb hbox hg; have hcz13_0 : w12.cell? ⟨gb113, 0, none⟩ = some (.bool false) := (blk_cell BK113.out 0).trans rfl; have hcz13_1 : w12.cell? ⟨gb113, 1, none⟩ = some (.slice none 0 0) := (blk_cell BK113.out 1).trans rfl; have hfz13_0 := blk_frozen BK113.out 0; have hfz13_1 := blk_frozen BK113.out 1)); try go_wp2_with (first | ((with_reducible refine gate_dst (N := 11) rfl ?_); refine box_event ?hg (N := 11) ?hd (cs := #[.bool false, .slice none 0 0]) (t := 64) ?hr ?_; (case hd => rfl); (case hg => rfl); (case hr => first | (go_simp; done) | (go_simp; rfl)); intro gb113 hg w12 hbox hb; have n0_ := Aside0.mk (below_step (by repeat (first | (with_reducible first | exact HB.out | apply below_alloc | apply pw_below_drewN | apply below_drew1) | exact HB.out)) hb); have n1_ := Aside0.mk (hbox); have n2_ := Aside0.mk ((by rw [hg]; exact (below_size (by repeat (first | (with_reducible first | exact HB.out | apply below_alloc | apply pw_below_drewN | apply below_drew1) | exact HB.out))) : w.heap.size ≤ gb113)); have n3_ := Aside0.mk ((by rw [hg]; exact (below_size (by repeat (first | (with_reducible first | exact HB.out | apply below_alloc | apply pw_below_drewN | apply below_drew1) | exact HB.out))) : w.heap.size ≤ gb113)); clear HB; have HB := n0_; have BK113 := n1_; have GW113 := n2_; have GE113 := n3_; clear n0_ n1_ n2_ n3_; clear hb hbox hg; have hcz13_0 : w12.cell? ⟨gb113, 0, none⟩ = some (.bool false) := (blk_cell BK113.out 0).trans rfl; have hcz13_1 : w12.cell? ⟨gb113, 1, none⟩ = some (.slice none 0 0) := (blk_cell BK113.out 1).trans rfl; have hfz13_0 := blk_frozen BK113.out 0; have hfz13_1 := blk_frozen BK113.out 1)))
                go_loopg [37] k3 (fun kq v37 w' => ∃ (x37_4 : Int), v37 = .int .i64 x37_4 ∧ Aside0 (gram_items.l3 kq l0 a1 x15_1 (l0.length : Int) x15_1 ((rd_T45 l0 x15_1).f1) (((rd_T45 l0 x15_1).f1).length : Int) x24_2 (rd_L11 ((rd_T45 l0 x15_1).f1) x24_2) ((rd_L11 ((rd_T45 l0 x15_1).f1) x24_2).length : Int) x30_3 (((rd_T64 (rd_L11 ((rd_T45 l0 x15_1).f1) x24_2) x30_3).f1).length : Int) x37_4 ((rd_T64 (rd_L11 ((rd_T45 l0 x15_1).f1) x24_2) x30_3).f0) ((rd_T64 (rd_L11 ((rd_T45 l0 x15_1).f1) x24_2) x30_3).f1) = some (r1, r2, r3)) ∧ Aside0 (kq ≤ k3) ∧ Aside0 (w'.heap[gb113]? = some (.cells #[.bool ((rd_T64 (rd_L11 ((rd_T45 l0 x15_1).f1) x24_2) x30_3).f0), (.slice A112_1 ((rd_T64 (rd_L11 ((rd_T45 l0 x15_1).f1) x24_2) x30_3).f1).length c112_1)] 64 (0, 0))) ∧ Aside0 (Below w.heap.size w w'))
                case atStart => exact ⟨(0), (by first | rfl | (simp; done) | (simp [i64_w]; done) | (simp [*]; done) | (simp [*, i64_w]; done) | (simp [*]; unfold wrap64; omega)), H', ⟨Nat.le_refl _⟩, ⟨by (with_reducible repeat (first | refine blk_drewN ?_ _ | refine blk_drew ?_ | refine blk_alloc ?_ _)); refine blk_put (cs := #[.bool ((rd_T64 (rd_L11 ((rd_T45 l0 x15_1).f1) x24_2) x30_3).f0), .slice none 0 0]) ?_ 1 _ rfl; (with_reducible repeat (first | refine blk_drewN ?_ _ | refine blk_drew ?_ | refine blk_alloc ?_ _)); refine blk_put (cs := #[.bool false, .slice none 0 0]) ?_ 0 _ rfl; (with_reducible repeat (first | refine blk_drewN ?_ _ | refine blk_drew ?_ | refine blk_alloc ?_ _)); exact BK113.out⟩, ⟨by repeat (first | (with_reducible first | exact HB.out | apply below_alloc | apply pw_below_drewN | apply below_drew1 | refine below_set ?_ GE113.out) | exact HB.out)⟩⟩
                case round =>
                 clear H'
                 try clear c1
                 try clear p1
                 try clear q1
                 try clear hx1
                 try clear c2
                 try clear p2
                 try clear c3
                 try clear c3b0
                 try clear c4
                 try clear c4b0
                 try clear c5
                 try clear c5b0
                 try clear c6
                 try clear c6b0
                 try clear c7
                 try clear c7b0
                 try clear c8
                 try clear c8b0
                 try clear c9
                 try clear c9b0
                 try clear c10
                 try clear c10b0
                 try clear c11
                 try clear c11b0
                 try clear p11
                 try clear q11
                 try clear hx11
                 try clear hcz13_0
                 try clear hcz13_1
                 try clear hfz13_0
                 try clear hfz13_1
                 try clear hx110_0
                 try clear hx110_1
                 try clear hx111_0
                 try clear hx112_0
                 try clear hx112_1
                 try clear p1
                 try clear p110
                 try clear p111
                 try clear p112
                 try clear p2
                 try clear q1
                 try clear q110
                 try clear q111
                 try clear q112
                 obtain ⟨x37_4, rfl, HA, HK4, BK113, HB⟩ := hrel
                 cases gk with
                 | zero => exact absurd HA.out (by simp [gram_items.l3])
                 | succ k4 =>
                  have H := HA.out
                  clear HA
                  simp only [gram_items.l3] at H
                  by_cases c14 : x37_4 < (((rd_T64 (rd_L11 ((rd_T45 l0 x15_1).f1) x24_2) x30_3).f1).length : Int)
                  ·rw [if_pos c14] at H
                   have c14b0 : decide (x37_4 < (((rd_T64 (rd_L11 ((rd_T45 l0 x15_1).f1) x24_2) x30_3).f1).length : Int)) = true := decide_eq_true c14
                   clear c14
                   by_cases c15 : 0 ≤ x37_4
                   ·rw [if_pos c15] at H
                    have c15b0 : decide (0 ≤ x37_4) = true := decide_eq_true c15
                    clear c15
                    by_cases c16 : x37_4 < (((rd_T64 (rd_L11 ((rd_T45 l0 x15_1).f1) x24_2) x30_3).f1).length : Int)
                    ·rw [if_pos c16] at H
                     have c16b0 : decide (x37_4 < (((rd_T64 (rd_L11 ((rd_T45 l0 x15_1).f1) x24_2) x30_3).f1).length : Int)) = true := decide_eq_true c16
                     clear c16
                     replace H := Option.bind_eq_some_iff.mp H
                     obtain ⟨t115, A170, H⟩ := H
                     try dsimp only at H
                     have A17 := Aside0.mk A170
                     clear A170
                     by_cases c18 : t115 = true
                     ·subst c18
                      have H1 := H
                      rw [if_pos rfl] at H1
                      clear H
                      have H := H1
                      clear H1
                      have H' := Aside0.mk H
                      clear H
                      have hcz19_0 : wr.cell? ⟨gb113, 0, none⟩ = some (.bool ((rd_T64 (rd_L11 ((rd_T45 l0 x15_1).f1) x24_2) x30_3).f0)) := (blk_cell BK113.out 0).trans rfl
                      have hcz19_1 : wr.cell? ⟨gb113, 1, none⟩ = some (.slice A112_1 ((rd_T64 (rd_L11 ((rd_T45 l0 x15_1).f1) x24_2) x30_3).f1).length c112_1) := (blk_cell BK113.out 1).trans rfl
                      have hfz19_0 := blk_frozen BK113.out 0
                      have hfz19_1 := blk_frozen BK113.out 1
                      have p114 : 0 ≤ (x37_4 : Int) := of_decide_eq_true (by first | (with_reducible assumption) | assumption)
                      have q114 : x37_4 < (((rd_T64 (rd_L11 ((rd_T45 l0 x15_1).f1) x24_2) x30_3).f1).length : Int) := of_decide_eq_true (by first | (with_reducible assumption) | assumption)
                      obtain ⟨ad114, e114, hx114_0, hx114_1, hx114_2, hx114_3⟩ := at_T61 HR112_1.out x37_4 p114 q114
                      cases e114
                      replace hx114_0 := (HB.out.cell (World.block_lt_of_cell? w _ hx114_0)).trans hx114_0
                      replace hx114_1 := (HB.out.cell (World.block_lt_of_cell? w _ hx114_1)).trans hx114_1
                      replace hx114_2 := (HB.out.cell (World.block_lt_of_cell? w _ hx114_2)).trans hx114_2
                      replace hx114_3 := (HB.out.cell (World.block_lt_of_cell? w _ hx114_3)).trans hx114_3
                      replace p114 := eq_true p114
                      replace q114 := eq_true q114
                      go_wp2_with (first | (go_at_call 24; (with_reducible refine (gram_Build_1.calls gm gb ad114 c112_1 ((rd_T64 (rd_L11 ((rd_T45 l0 x15_1).f1) x24_2) x30_3).f1) x37_4 a1 true _ ?side1 ?side2 (mapIs_step HM.out HB.out) (pw_cell_below HB.out HG.out) A17.out).mono ?_); (case side1 => repeat (first | exact (Kd.C_below HR112_1.out HB.out) | (with_reducible refine Kd.C_alloc ?_ _) | (with_reducible refine Kd.C_drewN ?_ _) | (with_reducible refine Kd.C_drew ?_))); (case side2 => exact HC112_1.out); rintro e w' ⟨rfl, ⟨nd, rfl⟩⟩; (try first | exact ⟨rfl, _, World.drewN_drewN _ _ _⟩ | exact ⟨rfl, _, Eq.trans (World.drewN_drewN _ _ _) (congrArg (World.drewN _) (Nat.add_assoc _ _ _))⟩)))
                      repeat (go_quiet (first | (go_at_call 24; (with_reducible refine (gram_Build_1.calls gm gb ad114 c112_1 ((rd_T64 (rd_L11 ((rd_T45 l0 x15_1).f1) x24_2) x30_3).f1) x37_4 a1 true _ ?side1 ?side2 (mapIs_step HM.out HB.out) (pw_cell_below HB.out HG.out) A17.out).mono ?_); (case side1 => repeat (first | exact (Kd.C_below HR112_1.out HB.out) | (with_reducible refine Kd.C_alloc ?_ _) | (with_reducible refine Kd.C_drewN ?_ _) | (with_reducible refine Kd.C_drew ?_))); (case side2 => exact HC112_1.out); rintro e w' ⟨rfl, ⟨nd, rfl⟩⟩; (try first | exact ⟨rfl, _, World.drewN_drewN _ _ _⟩ | exact ⟨rfl, _, Eq.trans (World.drewN_drewN _ _ _) (congrArg (World.drewN _) (Nat.add_assoc _ _ _))⟩))); try go_wp2_with (first | (go_at_call 24; (with_reducible refine (gram_Build_1.calls gm gb ad114 c112_1 ((rd_T64 (rd_L11 ((rd_T45 l0 x15_1).f1) x24_2) x30_3).f1) x37_4 a1 true _ ?side1 ?side2 (mapIs_step HM.out HB.out) (pw_cell_below HB.out HG.out) A17.out).mono ?_); (case side1 => repeat (first | exact (Kd.C_below HR112_1.out HB.out) | (with_reducible refine Kd.C_alloc ?_ _) | (with_reducible refine Kd.C_drewN ?_ _) | (with_reducible refine Kd.C_drew ?_))); (case side2 => exact HC112_1.out); rintro e w' ⟨rfl, ⟨nd, rfl⟩⟩; (try first | exact ⟨rfl, _, World.drewN_drewN _ _ _⟩ | exact ⟨rfl, _, Eq.trans (World.drewN_drewN _ _ _) (congrArg (World.drewN _) (Nat.add_assoc _ _ _))⟩))))
                      go_roundg k4
                      case measure => have := HK1.out; have := HK2.out; have := HK3.out; have := HK4.out; omega
                      case rel => exact ⟨(wrap64 (x37_4 + 1)), (by first | rfl | (simp; done) | (simp [i64_w]; done) | (simp [*]; done) | (simp [*, i64_w]; done) | (simp [*]; unfold wrap64; omega)), H', ⟨by have := HK1.out; have := HK2.out; have := HK3.out; have := HK4.out; omega⟩, ⟨by (with_reducible repeat (first | refine blk_drewN ?_ _ | refine blk_drew ?_ | refine blk_alloc ?_ _)); exact BK113.out⟩, ⟨by repeat (first | (with_reducible first | exact HB.out | apply below_alloc | apply pw_below_drewN | apply below_drew1 | refine below_set ?_ GE113.out) | exact HB.out)⟩⟩
                     ·replace c18 := Bool.eq_false_iff.mpr c18
                      subst c18
                      have H1 : (some (x15_1, (rd_T61 ((rd_T64 (rd_L11 ((rd_T45 l0 x15_1).f1) x24_2) x30_3).f1) x37_4).f1, false)) = some (r1, r2, r3) := by rw [if_neg (show ¬ (false = true) by decide)] at H; exact H
                      clear H
                      have H := H1
                      clear H1
                      simp only [Option.some.injEq, Prod.mk.injEq] at H
                      obtain ⟨rfl, rfl, rfl⟩ := H
                      have hcz20_0 : wr.cell? ⟨gb113, 0, none⟩ = some (.bool ((rd_T64 (rd_L11 ((rd_T45 l0 x15_1).f1) x24_2) x30_3).f0)) := (blk_cell BK113.out 0).trans rfl
                      have hcz20_1 : wr.cell? ⟨gb113, 1, none⟩ = some (.slice A112_1 ((rd_T64 (rd_L11 ((rd_T45 l0 x15_1).f1) x24_2) x30_3).f1).length c112_1) := (blk_cell BK113.out 1).trans rfl
                      have hfz20_0 := blk_frozen BK113.out 0
                      have hfz20_1 := blk_frozen BK113.out 1
                      have p114 : 0 ≤ (x37_4 : Int) := of_decide_eq_true (by first | (with_reducible assumption) | assumption)
                      have q114 : x37_4 < (((rd_T64 (rd_L11 ((rd_T45 l0 x15_1).f1) x24_2) x30_3).f1).length : Int) := of_decide_eq_true (by first | (with_reducible assumption) | assumption)
                      obtain ⟨ad114, e114, hx114_0, hx114_1, hx114_2, hx114_3⟩ := at_T61 HR112_1.out x37_4 p114 q114
                      cases e114
                      replace hx114_0 := (HB.out.cell (World.block_lt_of_cell? w _ hx114_0)).trans hx114_0
                      replace hx114_1 := (HB.out.cell (World.block_lt_of_cell? w _ hx114_1)).trans hx114_1
                      replace hx114_2 := (HB.out.cell (World.block_lt_of_cell? w _ hx114_2)).trans hx114_2
                      replace hx114_3 := (HB.out.cell (World.block_lt_of_cell? w _ hx114_3)).trans hx114_3
                      replace p114 := eq_true p114
                      replace q114 := eq_true q114
                      go_wp2_with (first | (go_at_call 24; (with_reducible refine (gram_Build_1.calls gm gb ad114 c112_1 ((rd_T64 (rd_L11 ((rd_T45 l0 x15_1).f1) x24_2) x30_3).f1) x37_4 a1 false _ ?side1 ?side2 (mapIs_step HM.out HB.out) (pw_cell_below HB.out HG.out) A17.out).mono ?_); (case side1 => repeat (first | exact (Kd.C_below HR112_1.out HB.out) | (with_reducible refine Kd.C_alloc ?_ _) | (with_reducible refine Kd.C_drewN ?_ _) | (with_reducible refine Kd.C_drew ?_))); (case side2 => exact HC112_1.out); rintro e w' ⟨rfl, ⟨nd, rfl⟩⟩; (try first | exact ⟨rfl, _, World.drewN_drewN _ _ _⟩ | exact ⟨rfl, _, Eq.trans (World.drewN_drewN _ _ _) (congrArg (World.drewN _) (Nat.add_assoc _ _ _))⟩)))
                      repeat (go_quiet (first | (go_at_call 24; (with_reducible refine (gram_Build_1.calls gm gb ad114 c112_1 ((rd_T64 (rd_L11 ((rd_T45 l0 x15_1).f1) x24_2) x30_3).f1) x37_4 a1 false _ ?side1 ?side2 (mapIs_step HM.out HB.out) (pw_cell_below HB.out HG.out) A17.out).mono ?_); (case side1 => repeat (first | exact (Kd.C_below HR112_1.out HB.out) | (with_reducible refine Kd.C_alloc ?_ _) | (with_reducible refine Kd.C_drewN ?_ _) | (with_reducible refine Kd.C_drew ?_))); (case side2 => exact HC112_1.out); rintro e w' ⟨rfl, ⟨nd, rfl⟩⟩; (try first | exact ⟨rfl, _, World.drewN_drewN _ _ _⟩ | exact ⟨rfl, _, Eq.trans (World.drewN_drewN _ _ _) (congrArg (World.drewN _) (Nat.add_assoc _ _ _))⟩))); try go_wp2_with (first | (go_at_call 24; (with_reducible refine (gram_Build_1.calls gm gb ad114 c112_1 ((rd_T64 (rd_L11 ((rd_T45 l0 x15_1).f1) x24_2) x30_3).f1) x37_4 a1 false _ ?side1 ?side2 (mapIs_step HM.out HB.out) (pw_cell_below HB.out HG.out) A17.out).mono ?_); (case side1 => repeat (first | exact (Kd.C_below HR112_1.out HB.out) | (with_reducible refine Kd.C_alloc ?_ _) | (with_reducible refine Kd.C_drewN ?_ _) | (with_reducible refine Kd.C_drew ?_))); (case side2 => exact HC112_1.out); rintro e w' ⟨rfl, ⟨nd, rfl⟩⟩; (try first | exact ⟨rfl, _, World.drewN_drewN _ _ _⟩ | exact ⟨rfl, _, Eq.trans (World.drewN_drewN _ _ _) (congrArg (World.drewN _) (Nat.add_assoc _ _ _))⟩))))
                      go_ret3
                      exact ⟨_, by first | rfl | (simp [errW_none, errW_some] <;> rfl) | (simp [*, errW_none, errW_some] <;> rfl), ⟨_, rfl, hx114_1⟩, by repeat (first | (with_reducible first | exact HB.out | apply below_alloc | apply pw_below_drewN | apply below_drew1 | refine below_set ?_ GE113.out) | exact HB.out)⟩
                    ·rw [if_neg c16] at H
                     exact absurd H (by simp)
                   ·rw [if_neg c15] at H
                    exact absurd H (by simp)
                  ·rw [if_neg c14] at H
                   have c14b0 : decide (x37_4 < (((rd_T64 (rd_L11 ((rd_T45 l0 x15_1).f1) x24_2) x30_3).f1).length : Int)) = false := decide_eq_false c14
                   clear c14
                   have H' := Aside0.mk H
                   clear H
                   go_wp2
                   repeat (go_quiet (fail); try go_wp2)
                   go_roundg k4
                   case measure => have := HK1.out; have := HK2.out; have := HK3.out; have := HK4.out; omega
                   case rel => exact ⟨(wrap64 (x30_3 + 1)), (by first | rfl | (simp; done) | (simp [i64_w]; done) | (simp [*]; done) | (simp [*, i64_w]; done) | (simp [*]; unfold wrap64; omega)), H', ⟨by have := HK1.out; have := HK2.out; have := HK3.out; have := HK4.out; omega⟩, ⟨by repeat (first | (with_reducible first | exact HB.out | apply below_alloc | apply pw_below_drewN | apply below_drew1 | refine below_set ?_ GE113.out) | exact HB.out)⟩⟩
               ·rw [if_neg c11] at H
                exact absurd H (by simp)
              ·rw [if_neg c10] at H
               exact absurd H (by simp)
             ·rw [if_neg c9] at H
              have c9b0 : decide (x30_3 < ((rd_L11 ((rd_T45 l0 x15_1).f1) x24_2).length : Int)) = false := decide_eq_false c9
              clear c9
              have H' := Aside0.mk H
              clear H
              go_wp2
              repeat (go_quiet (fail); try go_wp2)
              go_roundg k3
              case measure => have := HK1.out; have := HK2.out; have := HK3.out; omega
              case rel => exact ⟨(wrap64 (x24_2 + 1)), (by first | rfl | (simp; done) | (simp [i64_w]; done) | (simp [*]; done) | (simp [*, i64_w]; done) | (simp [*]; unfold wrap64; omega)), H', ⟨by have := HK1.out; have := HK2.out; have := HK3.out; omega⟩, ⟨by repeat (first | (with_reducible first | exact HB.out | apply below_alloc | apply pw_below_drewN | apply below_drew1) | exact HB.out)⟩⟩
          ·rw [if_neg c8] at H
           exact absurd H (by simp)
         ·rw [if_neg c7] at H
          exact absurd H (by simp)
        ·rw [if_neg c6] at H
         have c6b0 : decide (x24_2 < (((rd_T45 l0 x15_1).f1).length : Int)) = false := decide_eq_false c6
         clear c6
         have H' := Aside0.mk H
         clear H
         go_wp2
         repeat (go_quiet (fail); try go_wp2)
         go_roundg k2
         case measure => have := HK1.out; have := HK2.out; omega
         case rel => exact ⟨(wrap64 (x15_1 + 1)), (by first | rfl | (simp; done) | (simp [i64_w]; done) | (simp [*]; done) | (simp [*, i64_w]; done) | (simp [*]; unfold wrap64; omega)), H', ⟨by have := HK1.out; have := HK2.out; omega⟩, ⟨by repeat (first | (with_reducible first | exact HB.out | apply below_alloc | apply pw_below_drewN | apply below_drew1) | exact HB.out)⟩⟩
     ·rw [if_neg c5] at H
      exact absurd H (by simp)
    ·rw [if_neg c4] at H
     exact absurd H (by simp)
   ·rw [if_neg c3] at H
    have c3b0 : decide (x15_1 < (l0.length : Int)) = false := decide_eq_false c3
    clear c3
    simp only [Option.some.injEq, Prod.mk.injEq] at H
    obtain ⟨rfl, rfl, rfl⟩ := H
    go_wp2
    repeat (go_quiet (fail); try go_wp2)
    go_ret3
    exact ⟨_, by first | rfl | (simp [errW_none, errW_some] <;> rfl) | (simp [*, errW_none, errW_some] <;> rfl), fun h_ => absurd h_ (by decide), by repeat (first | (with_reducible first | exact HB.out | apply below_alloc | apply pw_below_drewN | apply below_drew1) | exact HB.out)⟩

def gram_Build_2.f (l0 : List (S61)) (a1 : Int) (a2 : MapP) : Option Bool := if 0 ≤ a1 ∧ a1 < (l0.length : Int) then some (decide ((rd_T61 l0 a1).f0 ≠ 2) || decide ((rd_T61 l0 a1).f2 ≤ (rd_T61 l0 a1).f3)) else none
set_option maxHeartbeats 8000000 in
set_option maxRecDepth 100000 in
theorem gram_Build_2.calls (gm gb : Nat) (ad : Addr) (c0 : Nat) (l0 : List (S61)) (a1 : Int) (a2 : MapP) (r : Bool) (w : World) (hr0 : Kd.C k61 w (some ad) l0.length l0) (hc0 : l0.length ≤ c0) (hM : MapIs w gm (mapVals a2)) (hG : w.cell? ⟨gb, 0, none⟩ = some (.map (some gm))) (h : gram_Build_2.f l0 a1 a2 = some r) :
  Calls Try.prog 26 #[.pointer (some (ad.add (a1.toNat * 4)))] w fun e w' => e = .returned (.bool r) ∧ Drawn0 w w' := by
 unfold gram_Build_2.f at h
 by_cases hk : 0 ≤ a1 ∧ a1 < (l0.length : Int)
 ·rw [if_pos hk] at h
  have hr := Option.some.inj h
  clear h
  obtain ⟨ad1, e1, hx0, hx1, hx2, hx3⟩ := at_T61 hr0 a1 hk.1 hk.2
  cases e1
  have HH := Aside0.mk hr
  clear hr hr0 hc0 hM hG
  by_cases h0 : (rd_T61 l0 a1).f0 = 2
  ·have c0b0 : ((rd_T61 l0 a1).f0 != 2) = false := by rw [h0]; rfl
   go_enter Try.func26, Try.ntmps26
   go_wp2
   go_region
   all_goals (try go_wp2)
   all_goals go_ret
   all_goals exact ⟨by rw [← HH.out]; simp [h0], ⟨_, rfl⟩⟩
  ·have c0b0 : ((rd_T61 l0 a1).f0 != 2) = true := by simp [h0]
   go_enter Try.func26, Try.ntmps26
   go_wp2
   go_region
   all_goals (try go_wp2)
   all_goals go_ret
   all_goals exact ⟨by rw [← HH.out]; simp [h0], ⟨_, rfl⟩⟩
 ·rw [if_neg hk] at h
  cases h
/-! ### gram_items2: function 25 -/
mutual
def gram_items2.l0 : Nat → List (S45) → MapP → Int → Int → Option (Int × ByteArray × Bool)
 | 0, _, _, _, _ => none
 | k + 1, x0, x1, x14, x15 => if x15 < x14 then (if 0 ≤ x15 then (if x15 < (x0.length : Int) then (gram_items2.l1 k x0 x1 x15 x14 x15 ((rd_T45 x0 x15).f1) (((rd_T45 x0 x15).f1).length : Int) 0) else (none)) else (none)) else (some (0, (⟨#[]⟩ : ByteArray), true))
def gram_items2.l1 : Nat → List (S45) → MapP → Int → Int → Int → List (List (S64)) → Int → Int → Option (Int × ByteArray × Bool)
 | 0, _, _, _, _, _, _, _, _ => none
 | k + 1, x0, x1, x7, x14, x15, x22, x23, x24 => if x24 < x23 then (if 0 ≤ x24 then (if x24 < (x22.length : Int) then (gram_items2.l2 k x0 x1 x7 x14 x15 x22 x23 x24 (rd_L11 x22 x24) ((rd_L11 x22 x24).length : Int) 0) else (none)) else (none)) else (gram_items2.l0 k x0 x1 x14 (wrap64 (x15 + 1)))
def gram_items2.l2 : Nat → List (S45) → MapP → Int → Int → Int → List (List (S64)) → Int → Int → List (S64) → Int → Int → Option (Int × ByteArray × Bool)
 | 0, _, _, _, _, _, _, _, _, _, _, _ => none
 | k + 1, x0, x1, x7, x14, x15, x22, x23, x24, x28, x29, x30 => if x30 < x29 then (if 0 ≤ x30 then (if x30 < (x28.length : Int) then (gram_items2.l3 k x0 x1 x7 x14 x15 x22 x23 x24 x28 x29 x30 (((rd_T64 x28 x30).f1).length : Int) 0 ((rd_T64 x28 x30).f0) ((rd_T64 x28 x30).f1)) else (none)) else (none)) else (gram_items2.l1 k x0 x1 x7 x14 x15 x22 x23 (wrap64 (x24 + 1)))
def gram_items2.l3 : Nat → List (S45) → MapP → Int → Int → Int → List (List (S64)) → Int → Int → List (S64) → Int → Int → Int → Int → Bool → List (S61) → Option (Int × ByteArray × Bool)
 | 0, _, _, _, _, _, _, _, _, _, _, _, _, _, _, _ => none
 | k + 1, x0, x1, x7, x14, x15, x22, x23, x24, x28, x29, x30, x36, x37, x114000, x114001 => if x37 < x36 then (if 0 ≤ x37 then (if x37 < (x114001.length : Int) then ((gram_Build_2.f x114001 x37 x1).bind fun t115 => (if t115 = true then (gram_items2.l3 k x0 x1 x7 x14 x15 x22 x23 x24 x28 x29 x30 x36 (wrap64 (x37 + 1)) x114000 x114001) else (some (x7, (rd_T61 x114001 x37).f1, false)))) else (none)) else (none)) else (gram_items2.l2 k x0 x1 x7 x14 x15 x22 x23 x24 x28 x29 (wrap64 (x30 + 1)))
end
def gram_items2.f (k : Nat) (l0 : List (S45)) (a1 : MapP) : Option (Int × ByteArray × Bool) := gram_items2.l0 k l0 a1 (l0.length : Int) 0
theorem gram_items2.mono_l : ∀ k, (∀ y0 y1 y2 y3, LeO (gram_items2.l0 k y0 y1 y2 y3) (gram_items2.l0 (k + 1) y0 y1 y2 y3)) ∧ (∀ y0 y1 y2 y3 y4 y5 y6 y7, LeO (gram_items2.l1 k y0 y1 y2 y3 y4 y5 y6 y7) (gram_items2.l1 (k + 1) y0 y1 y2 y3 y4 y5 y6 y7)) ∧ (∀ y0 y1 y2 y3 y4 y5 y6 y7 y8 y9 y10, LeO (gram_items2.l2 k y0 y1 y2 y3 y4 y5 y6 y7 y8 y9 y10) (gram_items2.l2 (k + 1) y0 y1 y2 y3 y4 y5 y6 y7 y8 y9 y10)) ∧ (∀ y0 y1 y2 y3 y4 y5 y6 y7 y8 y9 y10 y11 y12 y13 y14, LeO (gram_items2.l3 k y0 y1 y2 y3 y4 y5 y6 y7 y8 y9 y10 y11 y12 y13 y14) (gram_items2.l3 (k + 1) y0 y1 y2 y3 y4 y5 y6 y7 y8 y9 y10 y11 y12 y13 y14))
 | 0 => ⟨fun _ _ _ _ r h => by simp [gram_items2.l0] at h, fun _ _ _ _ _ _ _ _ r h => by simp [gram_items2.l1] at h, fun _ _ _ _ _ _ _ _ _ _ _ r h => by simp [gram_items2.l2] at h, fun _ _ _ _ _ _ _ _ _ _ _ _ _ _ _ r h => by simp [gram_items2.l3] at h⟩
 | k + 1 => by
  obtain ⟨ih0, ih1, ih2, ih3⟩ := gram_items2.mono_l k
  refine ⟨?_, ?_, ?_, ?_⟩
  ·intro y0 y1 y2 y3
   unfold gram_items2.l0
   repeat' first
   | (with_reducible exact ih0 _ _ _ _)
   | (with_reducible exact ih1 _ _ _ _ _ _ _ _)
   | (with_reducible exact ih2 _ _ _ _ _ _ _ _ _ _ _)
   | (with_reducible exact ih3 _ _ _ _ _ _ _ _ _ _ _ _ _ _ _)
   | (with_reducible exact LeO.refl _)
   | (with_reducible exact LeO.none _)
   | (with_reducible refine LeO.ite ?_ ?_)
   | (with_reducible refine LeO.bind ?_ (fun _ => ?_))
   | exact ih0 _ _ _ _
   | exact ih1 _ _ _ _ _ _ _ _
   | exact ih2 _ _ _ _ _ _ _ _ _ _ _
   | exact ih3 _ _ _ _ _ _ _ _ _ _ _ _ _ _ _
   | exact LeO.none _
   | refine LeO.ite ?_ ?_
   | refine LeO.bind ?_ (fun _ => ?_)
  ·intro y0 y1 y2 y3 y4 y5 y6 y7
   unfold gram_items2.l1
   repeat' first
   | (with_reducible exact ih0 _ _ _ _)
   | (with_reducible exact ih1 _ _ _ _ _ _ _ _)
   | (with_reducible exact ih2 _ _ _ _ _ _ _ _ _ _ _)
   | (with_reducible exact ih3 _ _ _ _ _ _ _ _ _ _ _ _ _ _ _)
   | (with_reducible exact LeO.refl _)
   | (with_reducible exact LeO.none _)
   | (with_reducible refine LeO.ite ?_ ?_)
   | (with_reducible refine LeO.bind ?_ (fun _ => ?_))
   | exact ih0 _ _ _ _
   | exact ih1 _ _ _ _ _ _ _ _
   | exact ih2 _ _ _ _ _ _ _ _ _ _ _
   | exact ih3 _ _ _ _ _ _ _ _ _ _ _ _ _ _ _
   | exact LeO.none _
   | refine LeO.ite ?_ ?_
   | refine LeO.bind ?_ (fun _ => ?_)
  ·intro y0 y1 y2 y3 y4 y5 y6 y7 y8 y9 y10
   unfold gram_items2.l2
   repeat' first
   | (with_reducible exact ih0 _ _ _ _)
   | (with_reducible exact ih1 _ _ _ _ _ _ _ _)
   | (with_reducible exact ih2 _ _ _ _ _ _ _ _ _ _ _)
   | (with_reducible exact ih3 _ _ _ _ _ _ _ _ _ _ _ _ _ _ _)
   | (with_reducible exact LeO.refl _)
   | (with_reducible exact LeO.none _)
   | (with_reducible refine LeO.ite ?_ ?_)
   | (with_reducible refine LeO.bind ?_ (fun _ => ?_))
   | exact ih0 _ _ _ _
   | exact ih1 _ _ _ _ _ _ _ _
   | exact ih2 _ _ _ _ _ _ _ _ _ _ _
   | exact ih3 _ _ _ _ _ _ _ _ _ _ _ _ _ _ _
   | exact LeO.none _
   | refine LeO.ite ?_ ?_
   | refine LeO.bind ?_ (fun _ => ?_)
  ·intro y0 y1 y2 y3 y4 y5 y6 y7 y8 y9 y10 y11 y12 y13 y14
   unfold gram_items2.l3
   repeat' first
   | (with_reducible exact ih0 _ _ _ _)
   | (with_reducible exact ih1 _ _ _ _ _ _ _ _)
   | (with_reducible exact ih2 _ _ _ _ _ _ _ _ _ _ _)
   | (with_reducible exact ih3 _ _ _ _ _ _ _ _ _ _ _ _ _ _ _)
   | (with_reducible exact LeO.refl _)
   | (with_reducible exact LeO.none _)
   | (with_reducible refine LeO.ite ?_ ?_)
   | (with_reducible refine LeO.bind ?_ (fun _ => ?_))
   | exact ih0 _ _ _ _
   | exact ih1 _ _ _ _ _ _ _ _
   | exact ih2 _ _ _ _ _ _ _ _ _ _ _
   | exact ih3 _ _ _ _ _ _ _ _ _ _ _ _ _ _ _
   | exact LeO.none _
   | refine LeO.ite ?_ ?_
   | refine LeO.bind ?_ (fun _ => ?_)
theorem gram_items2.mono : ∀ a0 a1 k, LeO (gram_items2.f k a0 a1) (gram_items2.f (k + 1) a0 a1) := by
 intro a0 a1 k
 obtain ⟨ih0, ih1, ih2, ih3⟩ := gram_items2.mono_l k
 unfold gram_items2.f
 repeat' first
   | (with_reducible exact ih0 _ _ _ _)
   | (with_reducible exact ih1 _ _ _ _ _ _ _ _)
   | (with_reducible exact ih2 _ _ _ _ _ _ _ _ _ _ _)
   | (with_reducible exact ih3 _ _ _ _ _ _ _ _ _ _ _ _ _ _ _)
   | (with_reducible exact LeO.refl _)
   | (with_reducible exact LeO.none _)
   | (with_reducible refine LeO.ite ?_ ?_)
   | (with_reducible refine LeO.bind ?_ (fun _ => ?_))
   | exact ih0 _ _ _ _
   | exact ih1 _ _ _ _ _ _ _ _
   | exact ih2 _ _ _ _ _ _ _ _ _ _ _
   | exact ih3 _ _ _ _ _ _ _ _ _ _ _ _ _ _ _
   | exact LeO.none _
   | refine LeO.ite ?_ ?_
   | refine LeO.bind ?_ (fun _ => ?_)
set_option maxHeartbeats 8000000 in
set_option maxRecDepth 100000 in
theorem gram_items2.calls (k : Nat) (gm gb : Nat) (A0 : Option Addr) (c0 : Nat) (l0 : List (S45)) (a1 : MapP) (r1 : Int) (r2 : ByteArray) (r3 : Bool) (w : World) (hr0 : Kd.C k45 w A0 l0.length l0) (hc0 : l0.length ≤ c0) (hM : MapIs w gm (mapVals a1)) (hG : w.cell? ⟨gb, 0, none⟩ = some (.map (some gm))) (h : gram_items2.f k l0 a1 = some (r1, r2, r3)) :
  Calls Try.prog 25 #[.slice A0 l0.length c0, .func (.func 26) #[] #[]] w fun e w' => ∃ v2_ : Value, e = .returned (.tuple #[.int .i64 r1, v2_, .bool r3]) ∧ (r3 = false → ∃ p_ : Addr, v2_ = .pointer (some p_) ∧ w'.cell? ⟨p_.block, p_.off + 1, none⟩ = some (.string r2)) ∧ Below w.heap.size w w' := by
 have hu64 := Try.underlying64
 have HM := Aside0.mk hM
 have HG := Aside0.mk hG
 clear hM hG
 have HR0 := Aside0.mk hr0
 have HC0 := Aside0.mk hc0
 clear hr0 hc0
 have HB := Aside0.mk (Below.refl w.heap.size w)
 have H : (gram_items2.l0 k l0 a1 (l0.length : Int) 0) = some (r1, r2, r3) := h
 clear h
 have H' := Aside0.mk H
 clear H
 go_enter Try.func25, Try.ntmps25
 go_wp2
 repeat (go_quiet (fail); try go_wp2)
 go_loopg [15] k (fun kq v15 w' => ∃ (x15_1 : Int), v15 = .int .i64 x15_1 ∧ Aside0 (gram_items2.l0 kq l0 a1 (l0.length : Int) x15_1 = some (r1, r2, r3)) ∧ Aside0 (kq ≤ k) ∧ Aside0 (Below w.heap.size w w'))
 case atStart => exact ⟨(0), (by first | rfl | (simp; done) | (simp [i64_w]; done) | (simp [*]; done) | (simp [*, i64_w]; done) | (simp [*]; unfold wrap64; omega)), H', ⟨Nat.le_refl _⟩, ⟨by repeat (first | (with_reducible first | exact HB.out | apply below_alloc | apply pw_below_drewN | apply below_drew1) | exact HB.out)⟩⟩
 case round =>
  clear H'
  try clear c2
  try clear p2
  obtain ⟨x15_1, rfl, HA, HK1, HB⟩ := hrel
  cases gk with
  | zero => exact absurd HA.out (by simp [gram_items2.l0])
  | succ k1 =>
   have H := HA.out
   clear HA
   simp only [gram_items2.l0] at H
   by_cases c3 : x15_1 < (l0.length : Int)
   ·rw [if_pos c3] at H
    have c3b0 : decide (x15_1 < (l0.length : Int)) = true := decide_eq_true c3
    clear c3
    by_cases c4 : 0 ≤ x15_1
    ·rw [if_pos c4] at H
     have c4b0 : decide (0 ≤ x15_1) = true := decide_eq_true c4
     clear c4
     by_cases c5 : x15_1 < (l0.length : Int)
     ·rw [if_pos c5] at H
      have c5b0 : decide (x15_1 < (l0.length : Int)) = true := decide_eq_true c5
      clear c5
      have H' := Aside0.mk H
      clear H
      have p110 : 0 ≤ (x15_1 : Int) := of_decide_eq_true (by first | (with_reducible assumption) | assumption)
      have q110 : x15_1 < (l0.length : Int) := of_decide_eq_true (by first | (with_reducible assumption) | assumption)
      obtain ⟨ad110, A110_1, c110_1, e110, hx110_0, hx110_1, hl110_1, hi110_1⟩ := at_T45 HR0.out x15_1 p110 q110
      cases e110
      replace hx110_0 := (HB.out.cell (World.block_lt_of_cell? w _ hx110_0)).trans hx110_0
      replace hx110_1 := (HB.out.cell (World.block_lt_of_cell? w _ hx110_1)).trans hx110_1
      have HR110_1 := Aside0.mk hi110_1
      have HC110_1 := Aside0.mk hl110_1
      clear hi110_1 hl110_1
      replace p110 := eq_true p110
      replace q110 := eq_true q110
      go_wp2
      repeat (go_quiet (fail); try go_wp2)
      go_loopg [24] k1 (fun kq v24 w' => ∃ (x24_2 : Int), v24 = .int .i64 x24_2 ∧ Aside0 (gram_items2.l1 kq l0 a1 x15_1 (l0.length : Int) x15_1 ((rd_T45 l0 x15_1).f1) (((rd_T45 l0 x15_1).f1).length : Int) x24_2 = some (r1, r2, r3)) ∧ Aside0 (kq ≤ k1) ∧ Aside0 (Below w.heap.size w w'))
      case atStart => exact ⟨(0), (by first | rfl | (simp; done) | (simp [i64_w]; done) | (simp [*]; done) | (simp [*, i64_w]; done) | (simp [*]; unfold wrap64; omega)), H', ⟨Nat.le_refl _⟩, ⟨by repeat (first | (with_reducible first | exact HB.out | apply below_alloc | apply pw_below_drewN | apply below_drew1) | exact HB.out)⟩⟩
      case round =>
       clear H'
       try clear c1
       try clear p1
       try clear q1
       try clear hx1
       try clear c2
       try clear p2
       try clear c3
       try clear c3b0
       try clear c4
       try clear c4b0
       try clear c5
       try clear c5b0
       try clear hx110_0
       try clear hx110_1
       try clear p110
       try clear p2
       try clear q110
       obtain ⟨x24_2, rfl, HA, HK2, HB⟩ := hrel
       cases gk with
       | zero => exact absurd HA.out (by simp [gram_items2.l1])
       | succ k2 =>
        have H := HA.out
        clear HA
        simp only [gram_items2.l1] at H
        by_cases c6 : x24_2 < (((rd_T45 l0 x15_1).f1).length : Int)
        ·rw [if_pos c6] at H
         have c6b0 : decide (x24_2 < (((rd_T45 l0 x15_1).f1).length : Int)) = true := decide_eq_true c6
         clear c6
         by_cases c7 : 0 ≤ x24_2
         ·rw [if_pos c7] at H
          have c7b0 : decide (0 ≤ x24_2) = true := decide_eq_true c7
          clear c7
          by_cases c8 : x24_2 < (((rd_T45 l0 x15_1).f1).length : Int)
          ·rw [if_pos c8] at H
           have c8b0 : decide (x24_2 < (((rd_T45 l0 x15_1).f1).length : Int)) = true := decide_eq_true c8
           clear c8
           have H' := Aside0.mk H
           clear H
           have p111 : 0 ≤ (x24_2 : Int) := of_decide_eq_true (by first | (with_reducible assumption) | assumption)
           have q111 : x24_2 < (((rd_T45 l0 x15_1).f1).length : Int) := of_decide_eq_true (by first | (with_reducible assumption) | assumption)
           obtain ⟨ad111, A111_0, c111_0, e111, hx111_0, hl111_0, hi111_0⟩ := at_L11 HR110_1.out x24_2 p111 q111
           cases e111
           replace hx111_0 := (HB.out.cell (World.block_lt_of_cell? w _ hx111_0)).trans hx111_0
           have HR111_0 := Aside0.mk hi111_0
           have HC111_0 := Aside0.mk hl111_0
           clear hi111_0 hl111_0
           replace p111 := eq_true p111
           replace q111 := eq_true q111
           go_wp2
           repeat (go_quiet (fail); try go_wp2)
           go_loopg [30] k2 (fun kq v30 w' => ∃ (x30_3 : Int), v30 = .int .i64 x30_3 ∧ Aside0 (gram_items2.l2 kq l0 a1 x15_1 (l0.length : Int) x15_1 ((rd_T45 l0 x15_1).f1) (((rd_T45 l0 x15_1).f1).length : Int) x24_2 (rd_L11 ((rd_T45 l0 x15_1).f1) x24_2) ((rd_L11 ((rd_T45 l0 x15_1).f1) x24_2).length : Int) x30_3 = some (r1, r2, r3)) ∧ Aside0 (kq ≤ k2) ∧ Aside0 (Below w.heap.size w w'))
           case atStart => exact ⟨(0), (by first | rfl | (simp; done) | (simp [i64_w]; done) | (simp [*]; done) | (simp [*, i64_w]; done) | (simp [*]; unfold wrap64; omega)), H', ⟨Nat.le_refl _⟩, ⟨by repeat (first | (with_reducible first | exact HB.out | apply below_alloc | apply pw_below_drewN | apply below_drew1) | exact HB.out)⟩⟩
           case round =>
            clear H'
            try clear c1
            try clear p1
            try clear q1
            try clear hx1
            try clear c2
            try clear p2
            try clear c3
            try clear c3b0
            try clear c4
            try clear c4b0
            try clear c5
            try clear c5b0
            try clear c6
            try clear c6b0
            try clear c7
            try clear c7b0
            try clear c8
            try clear c8b0
            try clear hx110_0
            try clear hx110_1
            try clear hx111_0
            try clear p1
            try clear p110
            try clear p111
            try clear p2
            try clear q1
            try clear q110
            try clear q111
            obtain ⟨x30_3, rfl, HA, HK3, HB⟩ := hrel
            cases gk with
            | zero => exact absurd HA.out (by simp [gram_items2.l2])
            | succ k3 =>
             have H := HA.out
             clear HA
             simp only [gram_items2.l2] at H
             by_cases c9 : x30_3 < ((rd_L11 ((rd_T45 l0 x15_1).f1) x24_2).length : Int)
             ·rw [if_pos c9] at H
              have c9b0 : decide (x30_3 < ((rd_L11 ((rd_T45 l0 x15_1).f1) x24_2).length : Int)) = true := decide_eq_true c9
              clear c9
              by_cases c10 : 0 ≤ x30_3
              ·rw [if_pos c10] at H
               have c10b0 : decide (0 ≤ x30_3) = true := decide_eq_true c10
               clear c10
               by_cases c11 : x30_3 < ((rd_L11 ((rd_T45 l0 x15_1).f1) x24_2).length : Int)
               ·rw [if_pos c11] at H
                have c11b0 : decide (x30_3 < ((rd_L11 ((rd_T45 l0 x15_1).f1) x24_2).length : Int)) = true := decide_eq_true c11
                clear c11
                have H' := Aside0.mk H
                clear H
                have p112 : 0 ≤ (x30_3 : Int) := of_decide_eq_true (by first | (with_reducible assumption) | assumption)
                have q112 : x30_3 < ((rd_L11 ((rd_T45 l0 x15_1).f1) x24_2).length : Int) := of_decide_eq_true (by first | (with_reducible assumption) | assumption)
                obtain ⟨ad112, A112_1, c112_1, e112, hx112_0, hx112_1, hl112_1, hi112_1⟩ := at_T64 HR111_0.out x30_3 p112 q112
                cases e112
                replace hx112_0 := (HB.out.cell (World.block_lt_of_cell? w _ hx112_0)).trans hx112_0
                replace hx112_1 := (HB.out.cell (World.block_lt_of_cell? w _ hx112_1)).trans hx112_1
                have HR112_1 := Aside0.mk hi112_1
                have HC112_1 := Aside0.mk hl112_1
                clear hi112_1 hl112_1
                replace p112 := eq_true p112
                replace q112 := eq_true q112
                go_wp2_with (first | ((with_reducible refine gate_dst (N := 11) rfl ?_); refine box_event ?hg (N := 11) ?hd (cs := #[.bool false, .slice none 0 0]) (t := 64) ?hr ?_; (case hd => rfl); (case hg => rfl); (case hr => first | (go_simp; done) | (go_simp; rfl)); intro gb113 hg w12 hbox hb; have n0_ := Aside0.mk (below_step (by repeat (first | (with_reducible first | exact HB.out | apply below_alloc | apply pw_below_drewN | apply below_drew1) | exact HB.out)) hb); have n1_ := Aside0.mk (hbox); have n2_ := Aside0.mk ((by rw [hg]; exact (below_size (by repeat (first | (with_reducible first | exact HB.out | apply below_alloc | apply pw_below_drewN | apply below_drew1) | exact HB.out))) : w.heap.size ≤ gb113)); have n3_ := Aside0.mk ((by rw [hg]; exact (below_size (by repeat (first | (with_reducible first | exact HB.out | apply below_alloc | apply pw_below_drewN | apply below_drew1) | exact HB.out))) : w.heap.size ≤ gb113)); clear HB; have HB := n0_; have BK113 := n1_; have GW113 := n2_; have GE113 := n3_; clear n0_ n1_ n2_ n3_; clear hb hbox hg; have hcz13_0 : w12.cell? ⟨gb113, 0, none⟩ = some (.bool false) := (blk_cell BK113.out 0).trans rfl; have hcz13_1 : w12.cell? ⟨gb113, 1, none⟩ = some (.slice none 0 0) := (blk_cell BK113.out 1).trans rfl; have hfz13_0 := blk_frozen BK113.out 0; have hfz13_1 := blk_frozen BK113.out 1))
                repeat (go_quiet (first | ((with_reducible refine gate_dst (N := 11) rfl ?_); refine box_event ?hg (N := 11) ?hd (cs := #[.bool false, .slice none 0 0]) (t := 64) ?hr ?_; (case hd => rfl); (case hg => rfl); (case hr => first | (go_simp; done) | (go_simp; rfl)); intro gb113 hg w12 hbox hb; have n0_ := Aside0.mk (below_step (by repeat (first | (with_reducible first | exact HB.out | apply below_alloc | apply pw_below_drewN | apply below_drew1) | exact HB.out)) hb); have n1_ := Aside0.mk (hbox); have n2_ := Aside0.mk ((by rw [hg]; exact (below_size (by repeat (first | (with_reducible first | exact HB.out | apply below_alloc | apply pw_below_drewN | apply below_drew1) | exact HB.out))) : w.heap.size ≤ gb113)); have n3_ := Aside0.mk ((by rw [hg]; exact (below_size (by repeat (first | (with_reducible first | exact HB.out | apply below_alloc | apply pw_below_drewN | apply below_drew1) | exact HB.out))) : w.heap.size ≤ gb113)); clear HB; have HB := n0_; have BK113 := n1_; have GW113 := n2_; have GE113 := n3_; clear n0_ n1_ n2_ n3_; clear hb hbox hg; have hcz13_0 : w12.cell? ⟨gb113, 0, none⟩ = some (.bool false) := (blk_cell BK113.out 0).trans rfl; have hcz13_1 : w12.cell? ⟨gb113, 1, none⟩ = some (.slice none 0 0) := (blk_cell BK113.out 1).trans rfl; have hfz13_0 := blk_frozen BK113.out 0; have hfz13_1 := blk_frozen BK113.out 1)); try go_wp2_with (first | ((with_reducible refine gate_dst (N := 11) rfl ?_); refine box_event ?hg (N := 11) ?hd (cs := #[.bool false, .slice none 0 0]) (t := 64) ?hr ?_; (case hd => rfl); (case hg => rfl); (case hr => first | (go_simp; done) | (go_simp; rfl)); intro gb113 hg w12 hbox hb; have n0_ := Aside0.mk (below_step (by repeat (first | (with_reducible first | exact HB.out | apply below_alloc | apply pw_below_drewN | apply below_drew1) | exact HB.out)) hb); have n1_ := Aside0.mk (hbox); have n2_ := Aside0.mk ((by rw [hg]; exact (below_size (by repeat (first | (with_reducible first | exact HB.out | apply below_alloc | apply pw_below_drewN | apply below_drew1) | exact HB.out))) : w.heap.size ≤ gb113)); have n3_ := Aside0.mk ((by rw [hg]; exact (below_size (by repeat (first | (with_reducible first | exact HB.out | apply below_alloc | apply pw_below_drewN | apply below_drew1) | exact HB.out))) : w.heap.size ≤ gb113)); clear HB; have HB := n0_; have BK113 := n1_; have GW113 := n2_; have GE113 := n3_; clear n0_ n1_ n2_ n3_; clear hb hbox hg; have hcz13_0 : w12.cell? ⟨gb113, 0, none⟩ = some (.bool false) := (blk_cell BK113.out 0).trans rfl; have hcz13_1 : w12.cell? ⟨gb113, 1, none⟩ = some (.slice none 0 0) := (blk_cell BK113.out 1).trans rfl; have hfz13_0 := blk_frozen BK113.out 0; have hfz13_1 := blk_frozen BK113.out 1)))
                go_loopg [37] k3 (fun kq v37 w' => ∃ (x37_4 : Int), v37 = .int .i64 x37_4 ∧ Aside0 (gram_items2.l3 kq l0 a1 x15_1 (l0.length : Int) x15_1 ((rd_T45 l0 x15_1).f1) (((rd_T45 l0 x15_1).f1).length : Int) x24_2 (rd_L11 ((rd_T45 l0 x15_1).f1) x24_2) ((rd_L11 ((rd_T45 l0 x15_1).f1) x24_2).length : Int) x30_3 (((rd_T64 (rd_L11 ((rd_T45 l0 x15_1).f1) x24_2) x30_3).f1).length : Int) x37_4 ((rd_T64 (rd_L11 ((rd_T45 l0 x15_1).f1) x24_2) x30_3).f0) ((rd_T64 (rd_L11 ((rd_T45 l0 x15_1).f1) x24_2) x30_3).f1) = some (r1, r2, r3)) ∧ Aside0 (kq ≤ k3) ∧ Aside0 (w'.heap[gb113]? = some (.cells #[.bool ((rd_T64 (rd_L11 ((rd_T45 l0 x15_1).f1) x24_2) x30_3).f0), (.slice A112_1 ((rd_T64 (rd_L11 ((rd_T45 l0 x15_1).f1) x24_2) x30_3).f1).length c112_1)] 64 (0, 0))) ∧ Aside0 (Below w.heap.size w w'))
                case atStart => exact ⟨(0), (by first | rfl | (simp; done) | (simp [i64_w]; done) | (simp [*]; done) | (simp [*, i64_w]; done) | (simp [*]; unfold wrap64; omega)), H', ⟨Nat.le_refl _⟩, ⟨by (with_reducible repeat (first | refine blk_drewN ?_ _ | refine blk_drew ?_ | refine blk_alloc ?_ _)); refine blk_put (cs := #[.bool ((rd_T64 (rd_L11 ((rd_T45 l0 x15_1).f1) x24_2) x30_3).f0), .slice none 0 0]) ?_ 1 _ rfl; (with_reducible repeat (first | refine blk_drewN ?_ _ | refine blk_drew ?_ | refine blk_alloc ?_ _)); refine blk_put (cs := #[.bool false, .slice none 0 0]) ?_ 0 _ rfl; (with_reducible repeat (first | refine blk_drewN ?_ _ | refine blk_drew ?_ | refine blk_alloc ?_ _)); exact BK113.out⟩, ⟨by repeat (first | (with_reducible first | exact HB.out | apply below_alloc | apply pw_below_drewN | apply below_drew1 | refine below_set ?_ GE113.out) | exact HB.out)⟩⟩
                case round =>
                 clear H'
                 try clear c1
                 try clear p1
                 try clear q1
                 try clear hx1
                 try clear c2
                 try clear p2
                 try clear c3
                 try clear c3b0
                 try clear c4
                 try clear c4b0
                 try clear c5
                 try clear c5b0
                 try clear c6
                 try clear c6b0
                 try clear c7
                 try clear c7b0
                 try clear c8
                 try clear c8b0
                 try clear c9
                 try clear c9b0
                 try clear c10
                 try clear c10b0
                 try clear c11
                 try clear c11b0
                 try clear p11
                 try clear q11
                 try clear hx11
                 try clear hcz13_0
                 try clear hcz13_1
                 try clear hfz13_0
                 try clear hfz13_1
                 try clear hx110_0
                 try clear hx110_1
                 try clear hx111_0
                 try clear hx112_0
                 try clear hx112_1
                 try clear p1
                 try clear p110
                 try clear p111
                 try clear p112
                 try clear p2
                 try clear q1
                 try clear q110
                 try clear q111
                 try clear q112
                 obtain ⟨x37_4, rfl, HA, HK4, BK113, HB⟩ := hrel
                 cases gk with
                 | zero => exact absurd HA.out (by simp [gram_items2.l3])
                 | succ k4 =>
                  have H := HA.out
                  clear HA
                  simp only [gram_items2.l3] at H
                  by_cases c14 : x37_4 < (((rd_T64 (rd_L11 ((rd_T45 l0 x15_1).f1) x24_2) x30_3).f1).length : Int)
                  ·rw [if_pos c14] at H
                   have c14b0 : decide (x37_4 < (((rd_T64 (rd_L11 ((rd_T45 l0 x15_1).f1) x24_2) x30_3).f1).length : Int)) = true := decide_eq_true c14
                   clear c14
                   by_cases c15 : 0 ≤ x37_4
                   ·rw [if_pos c15] at H
                    have c15b0 : decide (0 ≤ x37_4) = true := decide_eq_true c15
                    clear c15
                    by_cases c16 : x37_4 < (((rd_T64 (rd_L11 ((rd_T45 l0 x15_1).f1) x24_2) x30_3).f1).length : Int)
                    ·rw [if_pos c16] at H
                     have c16b0 : decide (x37_4 < (((rd_T64 (rd_L11 ((rd_T45 l0 x15_1).f1) x24_2) x30_3).f1).length : Int)) = true := decide_eq_true c16
                     clear c16
                     replace H := Option.bind_eq_some_iff.mp H
                     obtain ⟨t115, A170, H⟩ := H
                     try dsimp only at H
                     have A17 := Aside0.mk A170
                     clear A170
                     by_cases c18 : t115 = true
                     ·subst c18
                      have H1 := H
                      rw [if_pos rfl] at H1
                      clear H
                      have H := H1
                      clear H1
                      have H' := Aside0.mk H
                      clear H
                      have hcz19_0 : wr.cell? ⟨gb113, 0, none⟩ = some (.bool ((rd_T64 (rd_L11 ((rd_T45 l0 x15_1).f1) x24_2) x30_3).f0)) := (blk_cell BK113.out 0).trans rfl
                      have hcz19_1 : wr.cell? ⟨gb113, 1, none⟩ = some (.slice A112_1 ((rd_T64 (rd_L11 ((rd_T45 l0 x15_1).f1) x24_2) x30_3).f1).length c112_1) := (blk_cell BK113.out 1).trans rfl
                      have hfz19_0 := blk_frozen BK113.out 0
                      have hfz19_1 := blk_frozen BK113.out 1
                      have p114 : 0 ≤ (x37_4 : Int) := of_decide_eq_true (by first | (with_reducible assumption) | assumption)
                      have q114 : x37_4 < (((rd_T64 (rd_L11 ((rd_T45 l0 x15_1).f1) x24_2) x30_3).f1).length : Int) := of_decide_eq_true (by first | (with_reducible assumption) | assumption)
                      obtain ⟨ad114, e114, hx114_0, hx114_1, hx114_2, hx114_3⟩ := at_T61 HR112_1.out x37_4 p114 q114
                      cases e114
                      replace hx114_0 := (HB.out.cell (World.block_lt_of_cell? w _ hx114_0)).trans hx114_0
                      replace hx114_1 := (HB.out.cell (World.block_lt_of_cell? w _ hx114_1)).trans hx114_1
                      replace hx114_2 := (HB.out.cell (World.block_lt_of_cell? w _ hx114_2)).trans hx114_2
                      replace hx114_3 := (HB.out.cell (World.block_lt_of_cell? w _ hx114_3)).trans hx114_3
                      replace p114 := eq_true p114
                      replace q114 := eq_true q114
                      go_wp2_with (first | (go_at_call 26; (with_reducible refine (gram_Build_2.calls gm gb ad114 c112_1 ((rd_T64 (rd_L11 ((rd_T45 l0 x15_1).f1) x24_2) x30_3).f1) x37_4 a1 true _ ?side1 ?side2 (mapIs_step HM.out HB.out) (pw_cell_below HB.out HG.out) A17.out).mono ?_); (case side1 => repeat (first | exact (Kd.C_below HR112_1.out HB.out) | (with_reducible refine Kd.C_alloc ?_ _) | (with_reducible refine Kd.C_drewN ?_ _) | (with_reducible refine Kd.C_drew ?_))); (case side2 => exact HC112_1.out); rintro e w' ⟨rfl, ⟨nd, rfl⟩⟩; (try first | exact ⟨rfl, _, World.drewN_drewN _ _ _⟩ | exact ⟨rfl, _, Eq.trans (World.drewN_drewN _ _ _) (congrArg (World.drewN _) (Nat.add_assoc _ _ _))⟩)))
                      repeat (go_quiet (first | (go_at_call 26; (with_reducible refine (gram_Build_2.calls gm gb ad114 c112_1 ((rd_T64 (rd_L11 ((rd_T45 l0 x15_1).f1) x24_2) x30_3).f1) x37_4 a1 true _ ?side1 ?side2 (mapIs_step HM.out HB.out) (pw_cell_below HB.out HG.out) A17.out).mono ?_); (case side1 => repeat (first | exact (Kd.C_below HR112_1.out HB.out) | (with_reducible refine Kd.C_alloc ?_ _) | (with_reducible refine Kd.C_drewN ?_ _) | (with_reducible refine Kd.C_drew ?_))); (case side2 => exact HC112_1.out); rintro e w' ⟨rfl, ⟨nd, rfl⟩⟩; (try first | exact ⟨rfl, _, World.drewN_drewN _ _ _⟩ | exact ⟨rfl, _, Eq.trans (World.drewN_drewN _ _ _) (congrArg (World.drewN _) (Nat.add_assoc _ _ _))⟩))); try go_wp2_with (first | (go_at_call 26; (with_reducible refine (gram_Build_2.calls gm gb ad114 c112_1 ((rd_T64 (rd_L11 ((rd_T45 l0 x15_1).f1) x24_2) x30_3).f1) x37_4 a1 true _ ?side1 ?side2 (mapIs_step HM.out HB.out) (pw_cell_below HB.out HG.out) A17.out).mono ?_); (case side1 => repeat (first | exact (Kd.C_below HR112_1.out HB.out) | (with_reducible refine Kd.C_alloc ?_ _) | (with_reducible refine Kd.C_drewN ?_ _) | (with_reducible refine Kd.C_drew ?_))); (case side2 => exact HC112_1.out); rintro e w' ⟨rfl, ⟨nd, rfl⟩⟩; (try first | exact ⟨rfl, _, World.drewN_drewN _ _ _⟩ | exact ⟨rfl, _, Eq.trans (World.drewN_drewN _ _ _) (congrArg (World.drewN _) (Nat.add_assoc _ _ _))⟩))))
                      go_roundg k4
                      case measure => have := HK1.out; have := HK2.out; have := HK3.out; have := HK4.out; omega
                      case rel => exact ⟨(wrap64 (x37_4 + 1)), (by first | rfl | (simp; done) | (simp [i64_w]; done) | (simp [*]; done) | (simp [*, i64_w]; done) | (simp [*]; unfold wrap64; omega)), H', ⟨by have := HK1.out; have := HK2.out; have := HK3.out; have := HK4.out; omega⟩, ⟨by (with_reducible repeat (first | refine blk_drewN ?_ _ | refine blk_drew ?_ | refine blk_alloc ?_ _)); exact BK113.out⟩, ⟨by repeat (first | (with_reducible first | exact HB.out | apply below_alloc | apply pw_below_drewN | apply below_drew1 | refine below_set ?_ GE113.out) | exact HB.out)⟩⟩
                     ·replace c18 := Bool.eq_false_iff.mpr c18
                      subst c18
                      have H1 : (some (x15_1, (rd_T61 ((rd_T64 (rd_L11 ((rd_T45 l0 x15_1).f1) x24_2) x30_3).f1) x37_4).f1, false)) = some (r1, r2, r3) := by rw [if_neg (show ¬ (false = true) by decide)] at H; exact H
                      clear H
                      have H := H1
                      clear H1
                      simp only [Option.some.injEq, Prod.mk.injEq] at H
                      obtain ⟨rfl, rfl, rfl⟩ := H
                      have hcz20_0 : wr.cell? ⟨gb113, 0, none⟩ = some (.bool ((rd_T64 (rd_L11 ((rd_T45 l0 x15_1).f1) x24_2) x30_3).f0)) := (blk_cell BK113.out 0).trans rfl
                      have hcz20_1 : wr.cell? ⟨gb113, 1, none⟩ = some (.slice A112_1 ((rd_T64 (rd_L11 ((rd_T45 l0 x15_1).f1) x24_2) x30_3).f1).length c112_1) := (blk_cell BK113.out 1).trans rfl
                      have hfz20_0 := blk_frozen BK113.out 0
                      have hfz20_1 := blk_frozen BK113.out 1
                      have p114 : 0 ≤ (x37_4 : Int) := of_decide_eq_true (by first | (with_reducible assumption) | assumption)
                      have q114 : x37_4 < (((rd_T64 (rd_L11 ((rd_T45 l0 x15_1).f1) x24_2) x30_3).f1).length : Int) := of_decide_eq_true (by first | (with_reducible assumption) | assumption)
                      obtain ⟨ad114, e114, hx114_0, hx114_1, hx114_2, hx114_3⟩ := at_T61 HR112_1.out x37_4 p114 q114
                      cases e114
                      replace hx114_0 := (HB.out.cell (World.block_lt_of_cell? w _ hx114_0)).trans hx114_0
                      replace hx114_1 := (HB.out.cell (World.block_lt_of_cell? w _ hx114_1)).trans hx114_1
                      replace hx114_2 := (HB.out.cell (World.block_lt_of_cell? w _ hx114_2)).trans hx114_2
                      replace hx114_3 := (HB.out.cell (World.block_lt_of_cell? w _ hx114_3)).trans hx114_3
                      replace p114 := eq_true p114
                      replace q114 := eq_true q114
                      go_wp2_with (first | (go_at_call 26; (with_reducible refine (gram_Build_2.calls gm gb ad114 c112_1 ((rd_T64 (rd_L11 ((rd_T45 l0 x15_1).f1) x24_2) x30_3).f1) x37_4 a1 false _ ?side1 ?side2 (mapIs_step HM.out HB.out) (pw_cell_below HB.out HG.out) A17.out).mono ?_); (case side1 => repeat (first | exact (Kd.C_below HR112_1.out HB.out) | (with_reducible refine Kd.C_alloc ?_ _) | (with_reducible refine Kd.C_drewN ?_ _) | (with_reducible refine Kd.C_drew ?_))); (case side2 => exact HC112_1.out); rintro e w' ⟨rfl, ⟨nd, rfl⟩⟩; (try first | exact ⟨rfl, _, World.drewN_drewN _ _ _⟩ | exact ⟨rfl, _, Eq.trans (World.drewN_drewN _ _ _) (congrArg (World.drewN _) (Nat.add_assoc _ _ _))⟩)))
                      repeat (go_quiet (first | (go_at_call 26; (with_reducible refine (gram_Build_2.calls gm gb ad114 c112_1 ((rd_T64 (rd_L11 ((rd_T45 l0 x15_1).f1) x24_2) x30_3).f1) x37_4 a1 false _ ?side1 ?side2 (mapIs_step HM.out HB.out) (pw_cell_below HB.out HG.out) A17.out).mono ?_); (case side1 => repeat (first | exact (Kd.C_below HR112_1.out HB.out) | (with_reducible refine Kd.C_alloc ?_ _) | (with_reducible refine Kd.C_drewN ?_ _) | (with_reducible refine Kd.C_drew ?_))); (case side2 => exact HC112_1.out); rintro e w' ⟨rfl, ⟨nd, rfl⟩⟩; (try first | exact ⟨rfl, _, World.drewN_drewN _ _ _⟩ | exact ⟨rfl, _, Eq.trans (World.drewN_drewN _ _ _) (congrArg (World.drewN _) (Nat.add_assoc _ _ _))⟩))); try go_wp2_with (first | (go_at_call 26; (with_reducible refine (gram_Build_2.calls gm gb ad114 c112_1 ((rd_T64 (rd_L11 ((rd_T45 l0 x15_1).f1) x24_2) x30_3).f1) x37_4 a1 false _ ?side1 ?side2 (mapIs_step HM.out HB.out) (pw_cell_below HB.out HG.out) A17.out).mono ?_); (case side1 => repeat (first | exact (Kd.C_below HR112_1.out HB.out) | (with_reducible refine Kd.C_alloc ?_ _) | (with_reducible refine Kd.C_drewN ?_ _) | (with_reducible refine Kd.C_drew ?_))); (case side2 => exact HC112_1.out); rintro e w' ⟨rfl, ⟨nd, rfl⟩⟩; (try first | exact ⟨rfl, _, World.drewN_drewN _ _ _⟩ | exact ⟨rfl, _, Eq.trans (World.drewN_drewN _ _ _) (congrArg (World.drewN _) (Nat.add_assoc _ _ _))⟩))))
                      go_ret3
                      exact ⟨_, by first | rfl | (simp [errW_none, errW_some] <;> rfl) | (simp [*, errW_none, errW_some] <;> rfl), ⟨_, rfl, hx114_1⟩, by repeat (first | (with_reducible first | exact HB.out | apply below_alloc | apply pw_below_drewN | apply below_drew1 | refine below_set ?_ GE113.out) | exact HB.out)⟩
                    ·rw [if_neg c16] at H
                     exact absurd H (by simp)
                   ·rw [if_neg c15] at H
                    exact absurd H (by simp)
                  ·rw [if_neg c14] at H
                   have c14b0 : decide (x37_4 < (((rd_T64 (rd_L11 ((rd_T45 l0 x15_1).f1) x24_2) x30_3).f1).length : Int)) = false := decide_eq_false c14
                   clear c14
                   have H' := Aside0.mk H
                   clear H
                   go_wp2
                   repeat (go_quiet (fail); try go_wp2)
                   go_roundg k4
                   case measure => have := HK1.out; have := HK2.out; have := HK3.out; have := HK4.out; omega
                   case rel => exact ⟨(wrap64 (x30_3 + 1)), (by first | rfl | (simp; done) | (simp [i64_w]; done) | (simp [*]; done) | (simp [*, i64_w]; done) | (simp [*]; unfold wrap64; omega)), H', ⟨by have := HK1.out; have := HK2.out; have := HK3.out; have := HK4.out; omega⟩, ⟨by repeat (first | (with_reducible first | exact HB.out | apply below_alloc | apply pw_below_drewN | apply below_drew1 | refine below_set ?_ GE113.out) | exact HB.out)⟩⟩
               ·rw [if_neg c11] at H
                exact absurd H (by simp)
              ·rw [if_neg c10] at H
               exact absurd H (by simp)
             ·rw [if_neg c9] at H
              have c9b0 : decide (x30_3 < ((rd_L11 ((rd_T45 l0 x15_1).f1) x24_2).length : Int)) = false := decide_eq_false c9
              clear c9
              have H' := Aside0.mk H
              clear H
              go_wp2
              repeat (go_quiet (fail); try go_wp2)
              go_roundg k3
              case measure => have := HK1.out; have := HK2.out; have := HK3.out; omega
              case rel => exact ⟨(wrap64 (x24_2 + 1)), (by first | rfl | (simp; done) | (simp [i64_w]; done) | (simp [*]; done) | (simp [*, i64_w]; done) | (simp [*]; unfold wrap64; omega)), H', ⟨by have := HK1.out; have := HK2.out; have := HK3.out; omega⟩, ⟨by repeat (first | (with_reducible first | exact HB.out | apply below_alloc | apply pw_below_drewN | apply below_drew1) | exact HB.out)⟩⟩
          ·rw [if_neg c8] at H
           exact absurd H (by simp)
         ·rw [if_neg c7] at H
          exact absurd H (by simp)
        ·rw [if_neg c6] at H
         have c6b0 : decide (x24_2 < (((rd_T45 l0 x15_1).f1).length : Int)) = false := decide_eq_false c6
         clear c6
         have H' := Aside0.mk H
         clear H
         go_wp2
         repeat (go_quiet (fail); try go_wp2)
         go_roundg k2
         case measure => have := HK1.out; have := HK2.out; omega
         case rel => exact ⟨(wrap64 (x15_1 + 1)), (by first | rfl | (simp; done) | (simp [i64_w]; done) | (simp [*]; done) | (simp [*, i64_w]; done) | (simp [*]; unfold wrap64; omega)), H', ⟨by have := HK1.out; have := HK2.out; omega⟩, ⟨by repeat (first | (with_reducible first | exact HB.out | apply below_alloc | apply pw_below_drewN | apply below_drew1) | exact HB.out)⟩⟩
     ·rw [if_neg c5] at H
      exact absurd H (by simp)
    ·rw [if_neg c4] at H
     exact absurd H (by simp)
   ·rw [if_neg c3] at H
    have c3b0 : decide (x15_1 < (l0.length : Int)) = false := decide_eq_false c3
    clear c3
    simp only [Option.some.injEq, Prod.mk.injEq] at H
    obtain ⟨rfl, rfl, rfl⟩ := H
    go_wp2
    repeat (go_quiet (fail); try go_wp2)
    go_ret3
    exact ⟨_, by first | rfl | (simp [errW_none, errW_some] <;> rfl) | (simp [*, errW_none, errW_some] <;> rfl), fun h_ => absurd h_ (by decide), by repeat (first | (with_reducible first | exact HB.out | apply below_alloc | apply pw_below_drewN | apply below_drew1) | exact HB.out)⟩

end Go.Proofs.Ytdjnpgigdchfkaa.PBR
