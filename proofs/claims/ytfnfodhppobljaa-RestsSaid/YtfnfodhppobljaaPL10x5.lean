-- written by a program of the session's (wip/myprint.py) out of the translation
import Derived.Test.YtfnfodhppobljaaPL10x0
import Derived.Test.YtfnfodhppobljaaPL10x4
namespace Go.Proofs.Ytfnfodhppobljaa.PL10
open Go.RowKit Go.Proofs.YtfnfodhppobljaaW.PrintWords Go.Proofs.YtfnfodhppobljaaW.PrintLast Go.Proofs.YtfnfodhppobljaaW.PrintMore
attribute [local go_sem] max2_int min2_int max_two min_two max_three min_three max_four min_four   -- for this text's walks alone
set_option linter.unusedVariables false
set_option linter.unusedSimpArgs false

/-! ### gram_May: function 15 -/
def symB (n : Int) (s : S51) : Bool := if s.f0 = -1 then decide (0 ≤ s.f1 ∧ s.f1 ≤ s.f2 ∧ s.f2 ≤ 255) else decide (0 ≤ s.f0 ∧ s.f0 < n ∧ s.f1 = 0 ∧ s.f2 = 0)
def conjB (n : Int) (c : S45) : Bool := decide (c.f1.length ≤ 64) && c.f1.all (symB n)
def ruleB (n : Int) (r : S42) : Bool := decide (1 ≤ r.f1.length ∧ r.f1.length ≤ 8) && r.f1.all (conjB n)
def cntR (cs : List S45) : Nat := (cs.map (fun c => c.f1.length)).sum
theorem symbol_eq (n : Int) (s : S51) : gram_symbol.f s.f0 s.f1 s.f2 n = some (symB n s) := by
  unfold gram_symbol.f symB
  repeat' split
  all_goals (congr 1; first | (rw [Bool.eq_iff_iff]; simp; omega) | (rw [eq_comm, decide_eq_false_iff_not]; omega))
theorem cntR_take (cs : List S45) (i : Nat) (h : i < cs.length) : cntR (cs.take (i + 1)) = cntR (cs.take i) + cs[i].f1.length := by
  unfold cntR
  rw [List.take_succ_eq_append_getElem h, List.map_append, List.sum_append]
  simp
theorem cntR_le (n : Int) : ∀ (cs : List S45), cs.all (conjB n) = true → cntR cs ≤ 64 * cs.length
  | [], _ => by simp [cntR]
  | c :: cs, h => by
    rw [List.all_cons, Bool.and_eq_true] at h
    have ih := cntR_le n cs h.2
    have h1 : c.f1.length ≤ 64 := by
      have := h.1
      unfold conjB at this
      rw [Bool.and_eq_true] at this
      simpa using this.1
    unfold cntR at ih ⊢
    simp only [List.map_cons, List.sum_cons, List.length_cons]
    omega
theorem all_take {α : Type} (p : α → Bool) (l : List α) (i : Nat) (h : i < l.length) : (l.take (i + 1)).all p = ((l.take i).all p && p l[i]) := by
  rw [List.take_succ_eq_append_getElem h, List.all_append]
  simp
theorem all_bad {α : Type} (p : α → Bool) (l : List α) (i : Nat) (h : i < l.length) (hb : p l[i] = false) : l.all p = false := by
  rw [List.all_eq_false]
  exact ⟨l[i], List.getElem_mem h, by simp [hb]⟩
theorem rd_sym (l : List S51) (i : Nat) (h : i < l.length) : rd_T51 l (i : Int) = l[i] := by
  unfold rd_T51
  rw [Int.toNat_natCast, List.getD_eq_getElem?_getD, List.getElem?_eq_getElem h]
  rfl
theorem rd_conj (l : List S45) (i : Nat) (h : i < l.length) : rd_T45 l (i : Int) = l[i] := by
  unfold rd_T45
  rw [Int.toNat_natCast, List.getD_eq_getElem?_getD, List.getElem?_eq_getElem h]
  rfl
theorem rd_rule (l : List S42) (i : Nat) (h : i < l.length) : rd_T42 l (i : Int) = l[i] := by
  unfold rd_T42
  rw [Int.toNat_natCast, List.getD_eq_getElem?_getD, List.getElem?_eq_getElem h]
  rfl
set_option maxHeartbeats 4000000 in
theorem rule_calls (p : Addr) (x : S42) (n : Int) (A : Option Addr) (c : Nat) (r1 : Int) (r2 : Bool) (w : World) (hp : w.cell? ⟨p.block, p.off + 1, none⟩ = some (.slice A x.f1.length c)) (hr : Kd.C k45 w A x.f1.length x.f1) (hres : (if ruleB n x then (cntR x.f1 : Int) else 0) = r1 ∧ ruleB n x = r2) :
    Calls Try.prog 22 #[.pointer (some p), .int .i64 n] w fun e w' => e = .returned (.tuple #[.int .i64 r1, .bool r2]) ∧ Below w.heap.size w w' := by
  have HR := Aside0.mk hr
  clear hr
  have H := Aside0.mk hres
  clear hres
  have bad : ruleB n x = false → r1 = 0 ∧ r2 = false := by
    intro h
    have := H.out
    rw [h] at this
    exact ⟨this.1.symm, this.2.symm⟩
  by_cases h1 : x.f1.length < 1
  · obtain ⟨rfl, rfl⟩ := bad (by unfold ruleB; rw [show decide (1 ≤ x.f1.length ∧ x.f1.length ≤ 8) = false from by simp; omega, Bool.false_and])
    clear bad
    go_enter Try.func22, Try.ntmps22
    go_wp2
    go_ret2
    exact ⟨rfl, Below.refl _ _⟩
  by_cases h2 : 8 < x.f1.length
  · obtain ⟨rfl, rfl⟩ := bad (by unfold ruleB; rw [show decide (1 ≤ x.f1.length ∧ x.f1.length ≤ 8) = false from by simp; omega, Bool.false_and])
    clear bad
    go_enter Try.func22, Try.ntmps22
    go_wp2
    go_ret2
    exact ⟨rfl, Below.refl _ _⟩
  have e : ruleB n x = x.f1.all (conjB n) := by unfold ruleB; rw [show decide (1 ≤ x.f1.length ∧ x.f1.length ≤ 8) = true from by simp; omega, Bool.true_and]
  rw [e] at H bad
  clear e
  have BAD := Aside0.mk bad
  clear bad
  have hl8 : x.f1.length ≤ 8 := by omega
  go_enter Try.func22, Try.ntmps22
  go_wp2
  go_loopw [6, 30] (fun m v wr => ∃ i : Nat, i ≤ x.f1.length ∧ v = .int .i64 i ∧ m = .int .i64 (cntR (x.f1.take i) : Nat) ∧ Aside0 ((x.f1.take i).all (conjB n) = true) ∧ Aside0 (Below w.heap.size w wr)) (fun _ v _ => x.f1.length - (intOf v).toNat)
  case atStart => exact ⟨0, by omega, rfl, rfl, ⟨rfl⟩, ⟨Below.refl _ _⟩⟩
  case round =>
    obtain ⟨i, hi, rfl, rfl, hall, hb⟩ := hrel
    by_cases hlt : i < x.f1.length
    · obtain ⟨ad, A1, c1, eA, g0, g1, hc1, hC⟩ := at_T45 (Kd.C_below HR.out hb.out) (i : Int) (by omega) (by omega)
      rw [rd_conj _ _ hlt] at g0 g1 hc1 hC
      rw [Int.toNat_natCast] at g0 g1
      subst eA
      have hcl : cntR (x.f1.take i) ≤ 64 * i := by
        have := cntR_le n _ hall.out
        rw [List.length_take] at this
        omega
      have HT := Aside0.mk (cntR_take x.f1 i hlt)
      have HAT := Aside0.mk (all_take (conjB n) x.f1 i hlt)
      have HAB := Aside0.mk (fun hb => all_bad (conjB n) x.f1 i hlt hb)
      generalize x.f1[i] = y at *
      have HC := Aside0.mk hC
      clear hC
      by_cases h64 : 64 < y.f1.length
      · obtain ⟨rfl, rfl⟩ := BAD.out (HAB.out (by unfold conjB; rw [show decide (y.f1.length ≤ 64) = false from by simp; omega, Bool.false_and]))
        go_wp2
        go_ret2
        exact ⟨rfl, (hb.out.alloc hb.out.size _)⟩
      · have hle : y.f1.length ≤ 64 := by omega
        obtain ⟨wo, rfl⟩ : ∃ wo : World, wo = wr := ⟨_, rfl⟩
        go_wp2
        go_loopw [41] (fun v wi => ∃ j : Nat, j ≤ y.f1.length ∧ v = .int .i64 j ∧ Aside0 ((y.f1.take j).all (symB n) = true) ∧ Aside0 (wi.heap[wo.heap.size]? = some (.cells #[.bool y.f0, .slice A1 y.f1.length c1] 45 (0, 0))) ∧ Aside0 (Below wo.heap.size wo wi)) (fun v _ => y.f1.length - (intOf v).toNat)
        case atStart => exact ⟨0, by omega, rfl, ⟨rfl⟩, ⟨blk_new _ _⟩, ⟨(Below.refl _ _).alloc (Nat.le_refl _) _⟩⟩
        case round =>
          obtain ⟨j, hj, rfl, hsy, hbk, hb2⟩ := hrel
          by_cases hjl : j < y.f1.length
          · obtain ⟨ad2, eA2, s0, s1, s2⟩ := at_T51 (Kd.C_below HC.out hb2.out) (j : Int) (by omega) (by omega)
            rw [rd_sym _ _ hjl] at s0 s1 s2
            rw [Int.toNat_natCast] at s0 s1 s2
            subst eA2
            have HST := Aside0.mk (all_take (symB n) y.f1 j hjl)
            have HSB := Aside0.mk (fun hb => all_bad (symB n) y.f1 j hjl hb)
            generalize y.f1[j] = z at *
            have HZ := Aside0.mk (symbol_eq n z)
            cases hz : symB n z with
            | false =>
              rw [hz] at HZ
              obtain ⟨rfl, rfl⟩ := BAD.out (HAB.out (by unfold conjB; rw [HSB.out hz, Bool.and_false]))
              clear hz
              go_wp2_with (first | (go_at_call 28; refine (gram_symbol.calls _ _ _ _ _ _ HZ.out).mono ?_; rintro e w1 ⟨rfl, hb3⟩))
              go_ret2
              exact ⟨rfl, below_step (below_step hb.out hb2.out |>.alloc (below_step hb.out hb2.out).size _) hb3⟩
            | true =>
              rw [hz] at HZ HST
              clear hz
              go_wp2_with (first | (go_at_call 28; refine (gram_symbol.calls _ _ _ _ _ _ HZ.out).mono ?_; rintro e w1 ⟨rfl, hb3⟩; have HB3 := Aside0.mk hb3; clear hb3))
              go_roundw
              case rel => exact ⟨j + 1, by omega, by go_num, ⟨by rw [HST.out, hsy.out]; rfl⟩, ⟨blk_below (blk_alloc hbk.out _) HB3.out⟩, ⟨below_step (hb2.out.alloc hb2.out.size _) HB3.out⟩⟩
              case measure => simp [intOf]; omega
          · obtain rfl : j = y.f1.length := by omega
            rw [List.take_length] at hsy
            have k1 : wr.cell? ⟨wo.heap.size, 1, none⟩ = some (.slice A1 y.f1.length c1) := (blk_cell hbk.out 1).trans rfl
            go_wp2
            go_roundw
            case rel => exact ⟨i + 1, by omega, by go_num, by rw [HT.out]; go_num, ⟨by rw [HAT.out, hall.out, Bool.true_and]; unfold conjB; rw [hsy.out, Bool.and_true, decide_eq_true_eq]; exact hle⟩, ⟨below_step hb.out hb2.out⟩⟩
            case measure => simp [intOf]; omega
    · obtain rfl : i = x.f1.length := by omega
      rw [List.take_length] at hall
      have hres := H.out
      rw [hall.out] at hres
      obtain ⟨rfl, rfl⟩ := hres
      clear H BAD
      go_wp2
      go_ret2
      exact ⟨rfl, hb.out⟩
/-- From the i-th rule on: heads don't fall and leave none out, no more than 1024 symbols. -/
def rulesFrom (n head all : Int) : List S42 → Bool
  | [] => head == n - 1
  | x :: xs => ruleB n x && decide (head ≤ x.f0 ∧ x.f0 ≤ head + 1 ∧ all + cntR x.f1 ≤ 1024) && rulesFrom n x.f0 (all + cntR x.f1) xs
def mayB (start : Int) (names : List ByteArray) (rules : List S42) : Bool :=
  namesOk names && decide (0 ≤ start ∧ start < names.length ∧ 1 ≤ rules.length ∧ rules.length ≤ 256) && rulesFrom names.length (-1) 0 rules && decide ((rules.headD z42).f0 = 0)
def gram_May.f (a0_0 : Int) (l0_1 : List ByteArray) (l0_2 : List (S42)) : Option (Bool) := some (mayB a0_0 l0_1 l0_2)
set_option maxHeartbeats 8000000 in
set_option maxRecDepth 100000 in
theorem gram_May.calls (a0_0 : Int) (A0_1 : Option Addr) (c0_1 : Nat) (l0_1 : List ByteArray) (A0_2 : Option Addr) (c0_2 : Nat) (l0_2 : List (S42)) (r : Bool) (w : World) (hr0_1 : Kd.C Kd.string w A0_1 l0_1.length l0_1) (hc0_1 : l0_1.length ≤ c0_1) (hr0_2 : Kd.C k42 w A0_2 l0_2.length l0_2) (hc0_2 : l0_2.length ≤ c0_2) (h : gram_May.f a0_0 l0_1 l0_2 = some r) :
    Calls Try.prog 15 #[.agg #[.int .i64 a0_0, .slice A0_1 l0_1.length c0_1, .slice A0_2 l0_2.length c0_2]] w fun e w' => e = .returned (.bool r) ∧ Below w.heap.size w w' := by
  unfold gram_May.f at h
  have Hr := Aside0.mk (Option.some.inj h)
  clear h
  unfold mayB at Hr
  have HR1 := Aside0.mk hr0_1
  have HR2 := Aside0.mk hr0_2
  clear hr0_1 hr0_2
  cases hn : namesOk l0_1 with
  | false =>
    rw [hn] at Hr
    simp only [Bool.false_and] at Hr
    have Hn := Aside0.mk (show gram_names.f l0_1 = some false by unfold gram_names.f; rw [hn])
    clear hn
    go_enter Try.func15, Try.ntmps15
    go_wp2_with (first | (go_at_call 21; refine (gram_names.calls _ _ _ _ _ (Kd.C_alloc HR1.out _) hc0_1 Hn.out).mono ?_; rintro e w1 ⟨rfl, hb⟩; have HB := Aside0.mk hb; clear hb))
    go_ret
    exact ⟨by rw [← Hr.out]; rfl, below_step ((Below.refl _ _).alloc (Nat.le_refl _) _) HB.out⟩
  | true =>
    rw [hn, Bool.true_and] at Hr
    have Hn := Aside0.mk (show gram_names.f l0_1 = some true by unfold gram_names.f; rw [hn])
    have hL : l0_1.length ≤ 64 := by
      unfold namesOk at hn
      rw [Bool.and_eq_true, decide_eq_true_eq] at hn
      exact hn.1.2
    clear hn
    by_cases q1 : a0_0 < 0
    · have HF := Aside0.mk (show false = r by rw [← Hr.out]; rw [show decide (0 ≤ a0_0 ∧ a0_0 < l0_1.length ∧ 1 ≤ l0_2.length ∧ l0_2.length ≤ 256) = false from by simp only [decide_eq_false_iff_not]; omega]; simp)
      clear Hr
      go_enter Try.func15, Try.ntmps15
      go_wp2_with (first | (go_at_call 21; refine (gram_names.calls _ _ _ _ _ (Kd.C_alloc HR1.out _) hc0_1 Hn.out).mono ?_; rintro e w1 ⟨rfl, hb⟩; have HB : Aside0 (Below w.heap.size w w1) := ⟨below_step ((Below.refl _ _).alloc (Nat.le_refl _) _) hb⟩; have HK : Aside0 (w1.heap[w.heap.size]? = some (.cells #[.int .i64 a0_0, .slice A0_1 l0_1.length c0_1, .slice A0_2 l0_2.length c0_2] 25 (0, 0))) := ⟨(hb.block _ (by simp)).trans (blk_new _ _)⟩; clear hb; have k0 : w1.cell? ⟨w.heap.size, 0, none⟩ = some (.int .i64 a0_0) := (blk_cell HK.out 0).trans rfl; have k1 : w1.cell? ⟨w.heap.size, 1, none⟩ = some (.slice A0_1 l0_1.length c0_1) := (blk_cell HK.out 1).trans rfl; have k2 : w1.cell? ⟨w.heap.size, 2, none⟩ = some (.slice A0_2 l0_2.length c0_2) := (blk_cell HK.out 2).trans rfl))
      go_ret
      exact ⟨by rw [← HF.out]; rfl, HB.out⟩
    by_cases q2 : (l0_1.length : Int) ≤ a0_0
    · have HF := Aside0.mk (show false = r by rw [← Hr.out]; rw [show decide (0 ≤ a0_0 ∧ a0_0 < l0_1.length ∧ 1 ≤ l0_2.length ∧ l0_2.length ≤ 256) = false from by simp only [decide_eq_false_iff_not]; omega]; simp)
      clear Hr
      go_enter Try.func15, Try.ntmps15
      go_wp2_with (first | (go_at_call 21; refine (gram_names.calls _ _ _ _ _ (Kd.C_alloc HR1.out _) hc0_1 Hn.out).mono ?_; rintro e w1 ⟨rfl, hb⟩; have HB : Aside0 (Below w.heap.size w w1) := ⟨below_step ((Below.refl _ _).alloc (Nat.le_refl _) _) hb⟩; have HK : Aside0 (w1.heap[w.heap.size]? = some (.cells #[.int .i64 a0_0, .slice A0_1 l0_1.length c0_1, .slice A0_2 l0_2.length c0_2] 25 (0, 0))) := ⟨(hb.block _ (by simp)).trans (blk_new _ _)⟩; clear hb; have k0 : w1.cell? ⟨w.heap.size, 0, none⟩ = some (.int .i64 a0_0) := (blk_cell HK.out 0).trans rfl; have k1 : w1.cell? ⟨w.heap.size, 1, none⟩ = some (.slice A0_1 l0_1.length c0_1) := (blk_cell HK.out 1).trans rfl; have k2 : w1.cell? ⟨w.heap.size, 2, none⟩ = some (.slice A0_2 l0_2.length c0_2) := (blk_cell HK.out 2).trans rfl))
      go_ret
      exact ⟨by rw [← HF.out]; rfl, HB.out⟩
    by_cases q3 : l0_2.length < 1
    · have HF := Aside0.mk (show false = r by rw [← Hr.out]; rw [show decide (0 ≤ a0_0 ∧ a0_0 < l0_1.length ∧ 1 ≤ l0_2.length ∧ l0_2.length ≤ 256) = false from by simp only [decide_eq_false_iff_not]; omega]; simp)
      clear Hr
      go_enter Try.func15, Try.ntmps15
      go_wp2_with (first | (go_at_call 21; refine (gram_names.calls _ _ _ _ _ (Kd.C_alloc HR1.out _) hc0_1 Hn.out).mono ?_; rintro e w1 ⟨rfl, hb⟩; have HB : Aside0 (Below w.heap.size w w1) := ⟨below_step ((Below.refl _ _).alloc (Nat.le_refl _) _) hb⟩; have HK : Aside0 (w1.heap[w.heap.size]? = some (.cells #[.int .i64 a0_0, .slice A0_1 l0_1.length c0_1, .slice A0_2 l0_2.length c0_2] 25 (0, 0))) := ⟨(hb.block _ (by simp)).trans (blk_new _ _)⟩; clear hb; have k0 : w1.cell? ⟨w.heap.size, 0, none⟩ = some (.int .i64 a0_0) := (blk_cell HK.out 0).trans rfl; have k1 : w1.cell? ⟨w.heap.size, 1, none⟩ = some (.slice A0_1 l0_1.length c0_1) := (blk_cell HK.out 1).trans rfl; have k2 : w1.cell? ⟨w.heap.size, 2, none⟩ = some (.slice A0_2 l0_2.length c0_2) := (blk_cell HK.out 2).trans rfl))
      go_ret
      exact ⟨by rw [← HF.out]; rfl, HB.out⟩
    by_cases q4 : 256 < l0_2.length
    · have HF := Aside0.mk (show false = r by rw [← Hr.out]; rw [show decide (0 ≤ a0_0 ∧ a0_0 < l0_1.length ∧ 1 ≤ l0_2.length ∧ l0_2.length ≤ 256) = false from by simp only [decide_eq_false_iff_not]; omega]; simp)
      clear Hr
      go_enter Try.func15, Try.ntmps15
      go_wp2_with (first | (go_at_call 21; refine (gram_names.calls _ _ _ _ _ (Kd.C_alloc HR1.out _) hc0_1 Hn.out).mono ?_; rintro e w1 ⟨rfl, hb⟩; have HB : Aside0 (Below w.heap.size w w1) := ⟨below_step ((Below.refl _ _).alloc (Nat.le_refl _) _) hb⟩; have HK : Aside0 (w1.heap[w.heap.size]? = some (.cells #[.int .i64 a0_0, .slice A0_1 l0_1.length c0_1, .slice A0_2 l0_2.length c0_2] 25 (0, 0))) := ⟨(hb.block _ (by simp)).trans (blk_new _ _)⟩; clear hb; have k0 : w1.cell? ⟨w.heap.size, 0, none⟩ = some (.int .i64 a0_0) := (blk_cell HK.out 0).trans rfl; have k1 : w1.cell? ⟨w.heap.size, 1, none⟩ = some (.slice A0_1 l0_1.length c0_1) := (blk_cell HK.out 1).trans rfl; have k2 : w1.cell? ⟨w.heap.size, 2, none⟩ = some (.slice A0_2 l0_2.length c0_2) := (blk_cell HK.out 2).trans rfl))
      go_ret
      exact ⟨by rw [← HF.out]; rfl, HB.out⟩
    rw [show decide (0 ≤ a0_0 ∧ a0_0 < l0_1.length ∧ 1 ≤ l0_2.length ∧ l0_2.length ≤ 256) = true from by simp only [decide_eq_true_eq]; omega, Bool.true_and] at Hr
    have hb1 : l0_2.length ≤ 256 := by omega
    obtain ⟨T, hT⟩ : ∃ T, rulesFrom l0_1.length (-1) 0 l0_2 = T := ⟨_, rfl⟩
    rw [hT] at Hr
    have HT := Aside0.mk hT
    clear hT
    go_enter Try.func15, Try.ntmps15
    go_wp2_with (first | (go_at_call 21; refine (gram_names.calls _ _ _ _ _ (Kd.C_alloc HR1.out _) hc0_1 Hn.out).mono ?_; rintro e w1 ⟨rfl, hb⟩; have HB : Aside0 (Below w.heap.size w w1) := ⟨below_step ((Below.refl _ _).alloc (Nat.le_refl _) _) hb⟩; have HK : Aside0 (w1.heap[w.heap.size]? = some (.cells #[.int .i64 a0_0, .slice A0_1 l0_1.length c0_1, .slice A0_2 l0_2.length c0_2] 25 (0, 0))) := ⟨(hb.block _ (by simp)).trans (blk_new _ _)⟩; clear hb; have k0 : w1.cell? ⟨w.heap.size, 0, none⟩ = some (.int .i64 a0_0) := (blk_cell HK.out 0).trans rfl; have k1 : w1.cell? ⟨w.heap.size, 1, none⟩ = some (.slice A0_1 l0_1.length c0_1) := (blk_cell HK.out 1).trans rfl; have k2 : w1.cell? ⟨w.heap.size, 2, none⟩ = some (.slice A0_2 l0_2.length c0_2) := (blk_cell HK.out 2).trans rfl))
    go_loopw [3, 4, 41] (fun hd al v wr => ∃ (i : Nat) (head all : Int), i ≤ l0_2.length ∧ v = .int .i64 i ∧ hd = .int .i64 head ∧ al = .int .i64 all ∧ -1 ≤ head ∧ head ≤ (i : Int) - 1 ∧ 0 ≤ all ∧ all ≤ 1024 ∧ Aside0 (rulesFrom l0_1.length head all (l0_2.drop i) = T) ∧ Aside0 (wr.heap[w.heap.size]? = some (.cells #[.int .i64 a0_0, .slice A0_1 l0_1.length c0_1, .slice A0_2 l0_2.length c0_2] 25 (0, 0))) ∧ Aside0 (Below w.heap.size w wr)) (fun _ _ v _ => l0_2.length - (intOf v).toNat)
    case atStart => exact ⟨0, -1, 0, by omega, rfl, rfl, rfl, by omega, by omega, by omega, by omega, HT, HK, HB⟩
    case round =>
      clear k0 k1 k2 HB HK
      obtain ⟨i, head, all, hi, rfl, rfl, rfl, hh1, hh2, ha1, ha2, hrf, hbk, hb⟩ := hrel
      have k1 : wr.cell? ⟨w.heap.size, 1, none⟩ = some (.slice A0_1 l0_1.length c0_1) := (blk_cell hbk.out 1).trans rfl
      have k2 : wr.cell? ⟨w.heap.size, 2, none⟩ = some (.slice A0_2 l0_2.length c0_2) := (blk_cell hbk.out 2).trans rfl
      by_cases hlt : i < l0_2.length
      · obtain ⟨ad, A1, c1, eA, g0, g1, hc1, hC⟩ := at_T42 (Kd.C_below HR2.out hb.out) (i : Int) (by omega) (by omega)
        rw [rd_rule _ _ hlt] at g0 g1 hc1 hC
        rw [Int.toNat_natCast] at g0 g1
        have hds := hrf.out
        rw [List.drop_eq_getElem_cons hlt] at hds
        unfold rulesFrom at hds
        subst eA
        generalize l0_2[i] = x at *
        have HC := Aside0.mk hC
        have HD := Aside0.mk hds
        clear hC hds hrf
        cases hrb : ruleB l0_1.length x with
        | false =>
          have HRC := Aside0.mk (fun W h1 h2 => rule_calls (ad.add (i * 2)) x l0_1.length A1 c1 0 false W h1 h2 ⟨by rw [hrb]; rfl, hrb⟩)
          rw [hrb] at HD
          simp only [Bool.false_and] at HD
          have HF := Aside0.mk (show false = r by rw [← Hr.out, ← HD.out, Bool.false_and])
          clear Hr HD hrb
          go_wp2_with (first | (go_at_call 22; refine (HRC.out _ g1 HC.out).mono ?_; rintro e w2 ⟨rfl, hb2⟩; have HB2 := Aside0.mk hb2; clear hb2))
          go_ret
          exact ⟨by rw [← HF.out]; rfl, below_step hb.out HB2.out⟩
        | true =>
          have HRC := Aside0.mk (fun W h1 h2 => rule_calls (ad.add (i * 2)) x l0_1.length A1 c1 (cntR x.f1) true W h1 h2 ⟨by rw [hrb]; rfl, hrb⟩)
          rw [hrb, Bool.true_and] at HD
          have hcn : (cntR x.f1 : Int) ≤ 512 := by
            have hq := hrb
            unfold ruleB at hq
            rw [Bool.and_eq_true, decide_eq_true_eq] at hq
            have := cntR_le _ _ hq.2
            omega
          clear hrb
          by_cases p1 : x.f0 < head
          · have HF := Aside0.mk (show false = r by rw [← Hr.out, ← HD.out, show decide (head ≤ x.f0 ∧ x.f0 ≤ head + 1 ∧ all + cntR x.f1 ≤ 1024) = false from by simp only [decide_eq_false_iff_not]; omega, Bool.false_and, Bool.false_and])
            clear Hr HD
            go_wp2_with (first | (go_at_call 22; refine (HRC.out _ g1 HC.out).mono ?_; rintro e w2 ⟨rfl, hb2⟩; have HB2 := Aside0.mk hb2; clear hb2; have g2 : w2.cell? (ad.add (i * 2)) = some (.int .i64 x.f0) := pw_cell_below HB2.out g0; clear g0))
            go_ret
            exact ⟨by rw [← HF.out]; rfl, below_step hb.out HB2.out⟩
          by_cases p2 : head + 1 < x.f0
          · have HF := Aside0.mk (show false = r by rw [← Hr.out, ← HD.out, show decide (head ≤ x.f0 ∧ x.f0 ≤ head + 1 ∧ all + cntR x.f1 ≤ 1024) = false from by simp only [decide_eq_false_iff_not]; omega, Bool.false_and, Bool.false_and])
            clear Hr HD
            go_wp2_with (first | (go_at_call 22; refine (HRC.out _ g1 HC.out).mono ?_; rintro e w2 ⟨rfl, hb2⟩; have HB2 := Aside0.mk hb2; clear hb2; have g2 : w2.cell? (ad.add (i * 2)) = some (.int .i64 x.f0) := pw_cell_below HB2.out g0; clear g0))
            go_ret
            exact ⟨by rw [← HF.out]; rfl, below_step hb.out HB2.out⟩
          by_cases p3 : 1024 < all + (cntR x.f1 : Int)
          · have HF := Aside0.mk (show false = r by rw [← Hr.out, ← HD.out, show decide (head ≤ x.f0 ∧ x.f0 ≤ head + 1 ∧ all + cntR x.f1 ≤ 1024) = false from by simp only [decide_eq_false_iff_not]; omega, Bool.false_and, Bool.false_and])
            clear Hr HD
            go_wp2_with (first | (go_at_call 22; refine (HRC.out _ g1 HC.out).mono ?_; rintro e w2 ⟨rfl, hb2⟩; have HB2 := Aside0.mk hb2; clear hb2; have g2 : w2.cell? (ad.add (i * 2)) = some (.int .i64 x.f0) := pw_cell_below HB2.out g0; clear g0))
            go_ret
            exact ⟨by rw [← HF.out]; rfl, below_step hb.out HB2.out⟩
          rw [show decide (head ≤ x.f0 ∧ x.f0 ≤ head + 1 ∧ all + cntR x.f1 ≤ 1024) = true from by simp only [decide_eq_true_eq]; omega, Bool.true_and] at HD
          have p1' : head ≤ x.f0 := by omega
          have p2' : x.f0 ≤ head + 1 := by omega
          have p3' : all + (cntR x.f1 : Int) ≤ 1024 := by omega
          clear p1 p2 p3
          go_wp2_with (first | (go_at_call 22; refine (HRC.out _ g1 HC.out).mono ?_; rintro e w2 ⟨rfl, hb2⟩; have HB2 := Aside0.mk hb2; clear hb2; have g2 : w2.cell? (ad.add (i * 2)) = some (.int .i64 x.f0) := pw_cell_below HB2.out g0; clear g0))
          go_roundw
          case rel => exact ⟨i + 1, x.f0, all + cntR x.f1, by omega, by go_num, rfl, rfl, by omega, by omega, by omega, by omega, HD, ⟨blk_below hbk.out HB2.out⟩, ⟨below_step hb.out HB2.out⟩⟩
          case measure => simp [intOf]; omega
      · obtain rfl : i = l0_2.length := by omega
        rw [List.drop_length] at hrf
        obtain ⟨ad, A1, c1, eA, g0, g1, hc1, hC⟩ := at_T42 (Kd.C_below HR2.out hb.out) 0 (by omega) (by omega)
        have hrd : rd_T42 l0_2 0 = l0_2.headD z42 := by
          cases l0_2 with
          | nil => rfl
          | cons _ _ => rfl
        rw [hrd] at g0
        simp only [Int.toNat_zero, Nat.zero_mul] at g0
        subst eA
        have gz : wr.cell? ad = some (.int .i64 (l0_2.headD z42).f0) := g0
        have HF := Aside0.mk (show ((head == (l0_1.length : Int) - 1) && decide ((l0_2.headD z42).f0 = 0)) = r by rw [← Hr.out, ← hrf.out]; rfl)
        clear Hr hrf hrd g1 hc1 hC
        generalize l0_2.headD z42 = x at *
        by_cases s1 : x.f0 = 0
        · have t0 : (x.f0 == 0) = true := beq_iff_eq.2 s1
          rw [show decide (x.f0 = 0) = true from by simpa using s1, Bool.and_true] at HF
          clear s1
          go_wp2
          go_ret
          exact ⟨by rw [← HF.out]; rfl, hb.out⟩
        · have t0 : (x.f0 == 0) = false := beq_eq_false_iff_ne.2 s1
          rw [show decide (x.f0 = 0) = false from by simpa using s1, Bool.and_false] at HF
          clear s1
          go_wp2
          go_ret
          exact ⟨by have := HF.out; rw [← this] <;> rfl, hb.out⟩


/-! ### seqs_Places: function 6 -/
mutual
def seqs_Places.l0 : Nat → List (S47) → Int → Int → Int → List ByteArray → List (S42) → Option ((List (S47)) × Int)
  | 0, _, _, _, _, _, _ => none
  | k + 1, x4, x13, x14, x138000, x138001, x138002 => if x14 < x13 then (if 0 ≤ x14 then (if x14 < (x138002.length : Int) then (seqs_Places.l1 k x4 x14 x13 x14 (((rd_T42 x138002 x14).f1).length : Int) 0 x138000 x138001 x138002) else (none)) else (none)) else (some (x4, 0))
def seqs_Places.l1 : Nat → List (S47) → Int → Int → Int → Int → Int → Int → List ByteArray → List (S42) → Option ((List (S47)) × Int)
  | 0, _, _, _, _, _, _, _, _, _ => none
  | k + 1, x4, x5, x13, x14, x23, x24, x138000, x138001, x138002 => if x24 < x23 then (if 0 ≤ x5 then (if x5 < (x138002.length : Int) then (if 0 ≤ x24 then (if x24 < (((rd_T42 x138002 x5).f1).length : Int) then (seqs_Places.l2 k x4 x5 x24 x13 x14 x23 x24 (wrap64 ((((rd_T45 ((rd_T42 x138002 x5).f1) x24).f1).length : Int) + 1)) 0 x138000 x138001 x138002) else (none)) else (none)) else (none)) else (none)) else (seqs_Places.l0 k x4 x13 (wrap64 (x14 + 1)) x138000 x138001 x138002)
def seqs_Places.l2 : Nat → List (S47) → Int → Int → Int → Int → Int → Int → Int → Int → Int → List ByteArray → List (S42) → Option ((List (S47)) × Int)
  | 0, _, _, _, _, _, _, _, _, _, _, _, _ => none
  | k + 1, x4, x5, x6, x13, x14, x23, x24, x38, x39, x138000, x138001, x138002 => if x39 < x38 then (if x4.length < 5864062014805 then (seqs_Places.l2 k (x4 ++ [(⟨x5, x6, x39⟩ : S47)]) x5 x6 x13 x14 x23 x24 x38 (wrap64 (x39 + 1)) x138000 x138001 x138002) else (none)) else (seqs_Places.l1 k x4 x5 x13 x14 x23 (wrap64 (x24 + 1)) x138000 x138001 x138002)
end
def seqs_Places.f (k : Nat) (a0_0 : Int) (l0_1 : List ByteArray) (l0_2 : List (S42)) : Option ((List (S47)) × Int) := (gram_May.f a0_0 l0_1 l0_2).bind fun t138 => (if t138 = true then (seqs_Places.l0 k ([] : List (S47)) (l0_2.length : Int) 0 a0_0 l0_1 l0_2) else (some (([] : List (S47)), 1000)))
theorem seqs_Places.mono_l : ∀ k, (∀ y0 y1 y2 y3 y4 y5, LeO (seqs_Places.l0 k y0 y1 y2 y3 y4 y5) (seqs_Places.l0 (k + 1) y0 y1 y2 y3 y4 y5)) ∧ (∀ y0 y1 y2 y3 y4 y5 y6 y7 y8, LeO (seqs_Places.l1 k y0 y1 y2 y3 y4 y5 y6 y7 y8) (seqs_Places.l1 (k + 1) y0 y1 y2 y3 y4 y5 y6 y7 y8)) ∧ (∀ y0 y1 y2 y3 y4 y5 y6 y7 y8 y9 y10 y11, LeO (seqs_Places.l2 k y0 y1 y2 y3 y4 y5 y6 y7 y8 y9 y10 y11) (seqs_Places.l2 (k + 1) y0 y1 y2 y3 y4 y5 y6 y7 y8 y9 y10 y11))
  | 0 => ⟨fun _ _ _ _ _ _ r h => by simp [seqs_Places.l0] at h, fun _ _ _ _ _ _ _ _ _ r h => by simp [seqs_Places.l1] at h, fun _ _ _ _ _ _ _ _ _ _ _ _ r h => by simp [seqs_Places.l2] at h⟩
  | k + 1 => by
    obtain ⟨ih0, ih1, ih2⟩ := seqs_Places.mono_l k
    refine ⟨?_, ?_, ?_⟩
    · intro y0 y1 y2 y3 y4 y5
      unfold seqs_Places.l0
      repeat' first
      | (with_reducible exact ih0 _ _ _ _ _ _)
      | (with_reducible exact ih1 _ _ _ _ _ _ _ _ _)
      | (with_reducible exact ih2 _ _ _ _ _ _ _ _ _ _ _ _)
      | (with_reducible exact LeO.refl _)
      | (with_reducible exact LeO.none _)
      | (with_reducible refine LeO.ite ?_ ?_)
      | (with_reducible refine LeO.bind ?_ (fun _ => ?_))
      | exact ih0 _ _ _ _ _ _
      | exact ih1 _ _ _ _ _ _ _ _ _
      | exact ih2 _ _ _ _ _ _ _ _ _ _ _ _
      | exact LeO.none _
      | refine LeO.ite ?_ ?_
      | refine LeO.bind ?_ (fun _ => ?_)
    · intro y0 y1 y2 y3 y4 y5 y6 y7 y8
      unfold seqs_Places.l1
      repeat' first
      | (with_reducible exact ih0 _ _ _ _ _ _)
      | (with_reducible exact ih1 _ _ _ _ _ _ _ _ _)
      | (with_reducible exact ih2 _ _ _ _ _ _ _ _ _ _ _ _)
      | (with_reducible exact LeO.refl _)
      | (with_reducible exact LeO.none _)
      | (with_reducible refine LeO.ite ?_ ?_)
      | (with_reducible refine LeO.bind ?_ (fun _ => ?_))
      | exact ih0 _ _ _ _ _ _
      | exact ih1 _ _ _ _ _ _ _ _ _
      | exact ih2 _ _ _ _ _ _ _ _ _ _ _ _
      | exact LeO.none _
      | refine LeO.ite ?_ ?_
      | refine LeO.bind ?_ (fun _ => ?_)
    · intro y0 y1 y2 y3 y4 y5 y6 y7 y8 y9 y10 y11
      unfold seqs_Places.l2
      repeat' first
      | (with_reducible exact ih0 _ _ _ _ _ _)
      | (with_reducible exact ih1 _ _ _ _ _ _ _ _ _)
      | (with_reducible exact ih2 _ _ _ _ _ _ _ _ _ _ _ _)
      | (with_reducible exact LeO.refl _)
      | (with_reducible exact LeO.none _)
      | (with_reducible refine LeO.ite ?_ ?_)
      | (with_reducible refine LeO.bind ?_ (fun _ => ?_))
      | exact ih0 _ _ _ _ _ _
      | exact ih1 _ _ _ _ _ _ _ _ _
      | exact ih2 _ _ _ _ _ _ _ _ _ _ _ _
      | exact LeO.none _
      | refine LeO.ite ?_ ?_
      | refine LeO.bind ?_ (fun _ => ?_)
theorem seqs_Places.mono : ∀ a0 a1 a2 k, LeO (seqs_Places.f k a0 a1 a2) (seqs_Places.f (k + 1) a0 a1 a2) := by
  intro a0 a1 a2 k
  obtain ⟨ih0, ih1, ih2⟩ := seqs_Places.mono_l k
  unfold seqs_Places.f
  repeat' first
      | (with_reducible exact ih0 _ _ _ _ _ _)
      | (with_reducible exact ih1 _ _ _ _ _ _ _ _ _)
      | (with_reducible exact ih2 _ _ _ _ _ _ _ _ _ _ _ _)
      | (with_reducible exact LeO.refl _)
      | (with_reducible exact LeO.none _)
      | (with_reducible refine LeO.ite ?_ ?_)
      | (with_reducible refine LeO.bind ?_ (fun _ => ?_))
      | exact ih0 _ _ _ _ _ _
      | exact ih1 _ _ _ _ _ _ _ _ _
      | exact ih2 _ _ _ _ _ _ _ _ _ _ _ _
      | exact LeO.none _
      | refine LeO.ite ?_ ?_
      | refine LeO.bind ?_ (fun _ => ?_)
set_option maxHeartbeats 8000000 in
set_option maxRecDepth 100000 in
theorem seqs_Places.calls (k : Nat) (a0_0 : Int) (A0_1 : Option Addr) (c0_1 : Nat) (l0_1 : List ByteArray) (A0_2 : Option Addr) (c0_2 : Nat) (l0_2 : List (S42)) (r1 : List (S47)) (r2 : Int) (w : World) (hr0_1 : Kd.C Kd.string w A0_1 l0_1.length l0_1) (hc0_1 : l0_1.length ≤ c0_1) (hr0_2 : Kd.C k42 w A0_2 l0_2.length l0_2) (hc0_2 : l0_2.length ≤ c0_2) (h : seqs_Places.f k a0_0 l0_1 l0_2 = some (r1, r2)) :
    Calls Try.prog 6 #[.agg #[.int .i64 a0_0, .slice A0_1 l0_1.length c0_1, .slice A0_2 l0_2.length c0_2]] w fun e w' => ∃ v0_ : Value, e = .returned (.tuple #[v0_, .int .i64 r2]) ∧ Kd.R k47 47 w' w.heap.size (fun _ => True) v0_ r1 ∧ Below w.heap.size w w' := by
  have hu25 := Try.underlying25
  have hu47 := Try.underlying47
  have HR0_1 := Aside0.mk hr0_1
  have HC0_1 := Aside0.mk hc0_1
  clear hr0_1 hc0_1
  have HR0_2 := Aside0.mk hr0_2
  have HC0_2 := Aside0.mk hc0_2
  clear hr0_2 hc0_2
  have HB := Aside0.mk (Below.refl w.heap.size w)
  have H : ((gram_May.f a0_0 l0_1 l0_2).bind fun t138 => (if t138 = true then (seqs_Places.l0 k ([] : List (S47)) (l0_2.length : Int) 0 a0_0 l0_1 l0_2) else (some (([] : List (S47)), 1000)))) = some (r1, r2) := h
  clear h
  replace H := Option.bind_eq_some_iff.mp H
  obtain ⟨t138, A20, H⟩ := H
  replace H : (if t138 = true then (seqs_Places.l0 k ([] : List (S47)) (l0_2.length : Int) 0 a0_0 l0_1 l0_2) else (some (([] : List (S47)), 1000))) = some (r1, r2) := H
  have A2 := Aside0.mk A20
  clear A20
  by_cases c3 : t138 = true
  · subst c3
    have H1 : (seqs_Places.l0 k ([] : List (S47)) (l0_2.length : Int) 0 a0_0 l0_1 l0_2) = some (r1, r2) := by rw [if_pos rfl] at H; exact H
    clear H
    have H := H1
    clear H1
    have H' := Aside0.mk H
    clear H
    go_enter Try.func6, Try.ntmps6
    go_wp2_with (first | ((with_reducible refine gate_dst (N := 1) rfl ?_); refine box_event ?hg (N := 1) ?hd (cs := #[.int .i64 a0_0, .slice A0_1 l0_1.length c0_1, .slice A0_2 l0_2.length c0_2]) (t := 25) ?hr ?_; (case hd => rfl); (case hg => rfl); (case hr => first | (go_simp; done) | (go_simp; rfl)); intro gb137 hg w4 hbox hb; have n0_ := Aside0.mk (below_step (by repeat (first | (with_reducible first | exact HB.out | apply below_alloc | apply pw_below_drewN | apply below_drew1) | exact HB.out)) hb); have n1_ := Aside0.mk (hbox); have n2_ := Aside0.mk ((by rw [hg]; exact (below_size (by repeat (first | (with_reducible first | exact HB.out | apply below_alloc | apply pw_below_drewN | apply below_drew1) | exact HB.out))) : w.heap.size ≤ gb137)); have n3_ := Aside0.mk ((by rw [hg]; exact (below_size (by repeat (first | (with_reducible first | exact HB.out | apply below_alloc | apply pw_below_drewN | apply below_drew1) | exact HB.out))) : w.heap.size ≤ gb137)); clear HB; have HB := n0_; have BK137 := n1_; have GW137 := n2_; have GE137 := n3_; clear n0_ n1_ n2_ n3_; clear hb hbox hg; have hcz5_0 : w4.cell? ⟨gb137, 0, none⟩ = some (.int .i64 a0_0) := (blk_cell BK137.out 0).trans rfl; have hcz5_1 : w4.cell? ⟨gb137, 1, none⟩ = some (.slice A0_1 l0_1.length c0_1) := (blk_cell BK137.out 1).trans rfl; have hcz5_2 : w4.cell? ⟨gb137, 2, none⟩ = some (.slice A0_2 l0_2.length c0_2) := (blk_cell BK137.out 2).trans rfl; have hfz5_0 := blk_frozen BK137.out 0; have hfz5_1 := blk_frozen BK137.out 1; have hfz5_2 := blk_frozen BK137.out 2) | ((with_reducible refine gate_callee (f := 15) rfl ?_); refine goesL_ (some 9) rfl rfl Try.func15 (by kernel_rfl) rfl #[.agg #[.int .i64 a0_0, .slice A0_1 l0_1.length c0_1, .slice A0_2 l0_2.length c0_2]] rfl (by (try simp only [List.map_toArray, List.map_cons, List.map_nil]); first | done | rfl | (simp only [List.length_drop, List.length_take]; rfl)) ?_; (with_reducible refine (gram_May.calls a0_0 _ _ l0_1 _ _ l0_2 true _ ?side1 ?side2 ?side3 ?side4 A2.out).mono ?_); (case side1 => repeat (first | exact (Kd.C_below HR0_1.out HB.out) | (with_reducible refine Kd.C_alloc ?_ _) | (with_reducible refine Kd.C_drewN ?_ _) | (with_reducible refine Kd.C_drew ?_))); (case side2 => exact HC0_1.out); (case side3 => repeat (first | exact (Kd.C_below HR0_2.out HB.out) | (with_reducible refine Kd.C_alloc ?_ _) | (with_reducible refine Kd.C_drewN ?_ _) | (with_reducible refine Kd.C_drew ?_))); (case side4 => exact HC0_2.out); rintro e w6 ⟨rfl, hb⟩; refine ⟨_, rfl, ?_⟩; have n0_ := Aside0.mk (blk_below (g := gb137) (o := .cells #[.int .i64 a0_0, .slice A0_1 l0_1.length c0_1, .slice A0_2 l0_2.length c0_2] 25 (0, 0)) (by (with_reducible repeat (first | refine blk_drewN ?_ _ | refine blk_drew ?_ | refine blk_alloc ?_ _)); exact BK137.out) hb); have n1_ := Aside0.mk (below_step (by repeat (first | (with_reducible first | exact HB.out | apply below_alloc | apply pw_below_drewN | apply below_drew1 | refine below_set ?_ GE137.out) | exact HB.out)) hb); clear BK137; clear HB; have BK137 := n0_; have HB := n1_; clear n0_ n1_; (try clear hb); (try clear hb2); (try clear hk); (try clear hi); have hcz7_0 : w6.cell? ⟨gb137, 0, none⟩ = some (.int .i64 a0_0) := (blk_cell BK137.out 0).trans rfl; have hcz7_1 : w6.cell? ⟨gb137, 1, none⟩ = some (.slice A0_1 l0_1.length c0_1) := (blk_cell BK137.out 1).trans rfl; have hcz7_2 : w6.cell? ⟨gb137, 2, none⟩ = some (.slice A0_2 l0_2.length c0_2) := (blk_cell BK137.out 2).trans rfl; have hfz7_0 := blk_frozen BK137.out 0; have hfz7_1 := blk_frozen BK137.out 1; have hfz7_2 := blk_frozen BK137.out 2))
    go_loopg [4, 14] k (fun kq v4 v14 w' => ∃ (x4_1 : List (S47)) (x14_1 : Int), v14 = .int .i64 x14_1 ∧ Aside0 (seqs_Places.l0 kq x4_1 (l0_2.length : Int) x14_1 a0_0 l0_1 l0_2 = some (r1, r2)) ∧ Aside0 (kq ≤ k) ∧ Aside0 (Kd.R k47 47 w' w.heap.size (fun _ => True) v4 x4_1) ∧ Aside0 (w'.heap[gb137]? = some (.cells #[.int .i64 a0_0, (.slice A0_1 l0_1.length c0_1), (.slice A0_2 l0_2.length c0_2)] 25 (0, 0))) ∧ Aside0 (Below w.heap.size w w'))
    case atStart => exact ⟨(([] : List (S47))), (0), (by first | rfl | (simp; done) | (simp [*]; done)), H', ⟨Nat.le_refl _⟩, ⟨by first | exact Kd.R_nil _ _ _ _ _ | exact Kd.N_nil _ _ _ _ _ | exact Kd.V_nil _ _ _ _ _ | exact Kd.Q_nil _ _ _ _ _ | exact Kd.S_nil _ _ _ _ _⟩, ⟨by (with_reducible repeat (first | refine blk_drewN ?_ _ | refine blk_drew ?_ | refine blk_alloc ?_ _)); exact BK137.out⟩, ⟨by repeat (first | (with_reducible first | exact HB.out | apply below_alloc | apply pw_below_drewN | apply below_drew1 | refine below_set ?_ GE137.out) | exact HB.out)⟩⟩
    case round =>
      clear H'
      try clear c1
      try clear p2
      try clear c3
      try clear c6
      try clear hcz5_0
      try clear hcz5_1
      try clear hcz5_2
      try clear hcz7_0
      try clear hcz7_1
      try clear hcz7_2
      try clear hfz5_0
      try clear hfz5_1
      try clear hfz5_2
      try clear hfz7_0
      try clear hfz7_1
      try clear hfz7_2
      obtain ⟨x4_1, x14_1, rfl, HA, HK1, HO_4, BK137, HB⟩ := hrel
      cases gk with
      | zero => exact absurd HA.out (by simp [seqs_Places.l0])
      | succ k1 =>
        have H := HA.out
        clear HA
        simp only [seqs_Places.l0] at H
        by_cases c8 : x14_1 < (l0_2.length : Int)
        · rw [if_pos c8] at H
          have c8b0 : decide (x14_1 < (l0_2.length : Int)) = true := decide_eq_true c8
          clear c8
          by_cases c9 : 0 ≤ x14_1
          · rw [if_pos c9] at H
            have c9b0 : decide (0 ≤ x14_1) = true := decide_eq_true c9
            clear c9
            by_cases c10 : x14_1 < (l0_2.length : Int)
            · rw [if_pos c10] at H
              have c10b0 : decide (x14_1 < (l0_2.length : Int)) = true := decide_eq_true c10
              clear c10
              have H' := Aside0.mk H
              clear H
              have hcz11_0 : wr.cell? ⟨gb137, 0, none⟩ = some (.int .i64 a0_0) := (blk_cell BK137.out 0).trans rfl
              have hcz11_1 : wr.cell? ⟨gb137, 1, none⟩ = some (.slice A0_1 l0_1.length c0_1) := (blk_cell BK137.out 1).trans rfl
              have hcz11_2 : wr.cell? ⟨gb137, 2, none⟩ = some (.slice A0_2 l0_2.length c0_2) := (blk_cell BK137.out 2).trans rfl
              have hfz11_0 := blk_frozen BK137.out 0
              have hfz11_1 := blk_frozen BK137.out 1
              have hfz11_2 := blk_frozen BK137.out 2
              have p139 : 0 ≤ (x14_1 : Int) := of_decide_eq_true (by first | (with_reducible assumption) | assumption)
              have q139 : x14_1 < (l0_2.length : Int) := of_decide_eq_true (by first | (with_reducible assumption) | assumption)
              obtain ⟨ad139, A139_1, c139_1, e139, hx139_0, hx139_1, hl139_1, hi139_1⟩ := at_T42 HR0_2.out x14_1 p139 q139
              cases e139
              replace hx139_0 := (HB.out.cell (World.block_lt_of_cell? w _ hx139_0)).trans hx139_0
              replace hx139_1 := (HB.out.cell (World.block_lt_of_cell? w _ hx139_1)).trans hx139_1
              have HR139_1 := Aside0.mk hi139_1
              have HC139_1 := Aside0.mk hl139_1
              clear hi139_1 hl139_1
              replace p139 := eq_true p139
              replace q139 := eq_true q139
              go_wp2
              go_loopg [4, 24] k1 (fun kq v4 v24 w' => ∃ (x4_2 : List (S47)) (x24_2 : Int), v24 = .int .i64 x24_2 ∧ Aside0 (seqs_Places.l1 kq x4_2 x14_1 (l0_2.length : Int) x14_1 (((rd_T42 l0_2 x14_1).f1).length : Int) x24_2 a0_0 l0_1 l0_2 = some (r1, r2)) ∧ Aside0 (kq ≤ k1) ∧ Aside0 (Kd.R k47 47 w' w.heap.size (fun _ => True) v4 x4_2) ∧ Aside0 (w'.heap[gb137]? = some (.cells #[.int .i64 a0_0, (.slice A0_1 l0_1.length c0_1), (.slice (some ad139) l0_2.length c0_2)] 25 (0, 0))) ∧ Aside0 (Below w.heap.size w w'))
              case atStart => exact ⟨(x4_1), (0), (by first | rfl | (simp; done) | (simp [*]; done)), H', ⟨Nat.le_refl _⟩, ⟨by (with_reducible repeat (first | apply Kd.R_alloc | apply Kd.R_drewN | apply Kd.R_drew)); exact HO_4.out⟩, ⟨by (with_reducible repeat (first | refine blk_drewN ?_ _ | refine blk_drew ?_ | refine blk_alloc ?_ _)); exact BK137.out⟩, ⟨by repeat (first | (with_reducible first | exact HB.out | apply below_alloc | apply pw_below_drewN | apply below_drew1 | refine below_set ?_ GE137.out) | exact HB.out)⟩⟩
              case round =>
                clear H'
                try clear c1
                try clear p1
                try clear q1
                try clear hx1
                try clear p2
                try clear c3
                try clear c6
                try clear c8
                try clear c8b0
                try clear c9
                try clear c9b0
                try clear c10
                try clear c10b0
                try clear hcz11_0
                try clear hcz11_1
                try clear hcz11_2
                try clear hcz5_0
                try clear hcz5_1
                try clear hcz5_2
                try clear hcz7_0
                try clear hcz7_1
                try clear hcz7_2
                try clear hfz11_0
                try clear hfz11_1
                try clear hfz11_2
                try clear hfz5_0
                try clear hfz5_1
                try clear hfz5_2
                try clear hfz7_0
                try clear hfz7_1
                try clear hfz7_2
                try clear hx139_0
                try clear hx139_1
                try clear p139
                try clear p2
                try clear q139
                obtain ⟨x4_2, x24_2, rfl, HA, HK2, HO_4, BK137, HB⟩ := hrel
                cases gk with
                | zero => exact absurd HA.out (by simp [seqs_Places.l1])
                | succ k2 =>
                  have H := HA.out
                  clear HA
                  simp only [seqs_Places.l1] at H
                  by_cases c12 : x24_2 < (((rd_T42 l0_2 x14_1).f1).length : Int)
                  · rw [if_pos c12] at H
                    have c12b0 : decide (x24_2 < (((rd_T42 l0_2 x14_1).f1).length : Int)) = true := decide_eq_true c12
                    clear c12
                    by_cases c13 : 0 ≤ x14_1
                    · rw [if_pos c13] at H
                      have c13b0 : decide (0 ≤ x14_1) = true := decide_eq_true c13
                      clear c13
                      by_cases c14 : x14_1 < (l0_2.length : Int)
                      · rw [if_pos c14] at H
                        have c14b0 : decide (x14_1 < (l0_2.length : Int)) = true := decide_eq_true c14
                        clear c14
                        by_cases c15 : 0 ≤ x24_2
                        · rw [if_pos c15] at H
                          have c15b0 : decide (0 ≤ x24_2) = true := decide_eq_true c15
                          clear c15
                          by_cases c16 : x24_2 < (((rd_T42 l0_2 x14_1).f1).length : Int)
                          · rw [if_pos c16] at H
                            have c16b0 : decide (x24_2 < (((rd_T42 l0_2 x14_1).f1).length : Int)) = true := decide_eq_true c16
                            clear c16
                            have H' := Aside0.mk H
                            clear H
                            have hcz17_0 : wr.cell? ⟨gb137, 0, none⟩ = some (.int .i64 a0_0) := (blk_cell BK137.out 0).trans rfl
                            have hcz17_1 : wr.cell? ⟨gb137, 1, none⟩ = some (.slice A0_1 l0_1.length c0_1) := (blk_cell BK137.out 1).trans rfl
                            have hcz17_2 : wr.cell? ⟨gb137, 2, none⟩ = some (.slice (some ad139) l0_2.length c0_2) := (blk_cell BK137.out 2).trans rfl
                            have hfz17_0 := blk_frozen BK137.out 0
                            have hfz17_1 := blk_frozen BK137.out 1
                            have hfz17_2 := blk_frozen BK137.out 2
                            have p140 : 0 ≤ (x14_1 : Int) := of_decide_eq_true (by first | (with_reducible assumption) | assumption)
                            have q140 : x14_1 < (l0_2.length : Int) := of_decide_eq_true (by first | (with_reducible assumption) | assumption)
                            obtain ⟨ad140, A140_1, c140_1, e140, hx140_0, hx140_1, hl140_1, hi140_1⟩ := at_T42 HR0_2.out x14_1 p140 q140
                            obtain rfl : ad139 = ad140 := (by injection e140)
                            replace hx140_0 := (HB.out.cell (World.block_lt_of_cell? w _ hx140_0)).trans hx140_0
                            replace hx140_1 := (HB.out.cell (World.block_lt_of_cell? w _ hx140_1)).trans hx140_1
                            have HR140_1 := Aside0.mk hi140_1
                            have HC140_1 := Aside0.mk hl140_1
                            clear hi140_1 hl140_1
                            replace p140 := eq_true p140
                            replace q140 := eq_true q140
                            have p141 : 0 ≤ (x24_2 : Int) := of_decide_eq_true (by first | (with_reducible assumption) | assumption)
                            have q141 : x24_2 < (((rd_T42 l0_2 x14_1).f1).length : Int) := of_decide_eq_true (by first | (with_reducible assumption) | assumption)
                            obtain ⟨ad141, A141_1, c141_1, e141, hx141_0, hx141_1, hl141_1, hi141_1⟩ := at_T45 HR140_1.out x24_2 p141 q141
                            cases e141
                            replace hx141_0 := (HB.out.cell (World.block_lt_of_cell? w _ hx141_0)).trans hx141_0
                            replace hx141_1 := (HB.out.cell (World.block_lt_of_cell? w _ hx141_1)).trans hx141_1
                            have HR141_1 := Aside0.mk hi141_1
                            have HC141_1 := Aside0.mk hl141_1
                            clear hi141_1 hl141_1
                            replace p141 := eq_true p141
                            replace q141 := eq_true q141
                            go_wp2
                            go_loopg [4, 39] k2 (fun kq v4 v39 w' => ∃ (x4_3 : List (S47)) (x39_3 : Int), v39 = .int .i64 x39_3 ∧ Aside0 (seqs_Places.l2 kq x4_3 x14_1 x24_2 (l0_2.length : Int) x14_1 (((rd_T42 l0_2 x14_1).f1).length : Int) x24_2 (wrap64 ((((rd_T45 ((rd_T42 l0_2 x14_1).f1) x24_2).f1).length : Int) + 1)) x39_3 a0_0 l0_1 l0_2 = some (r1, r2)) ∧ Aside0 (kq ≤ k2) ∧ Aside0 (Kd.R k47 47 w' w.heap.size (fun _ => True) v4 x4_3) ∧ Aside0 (w'.heap[gb137]? = some (.cells #[.int .i64 a0_0, (.slice A0_1 l0_1.length c0_1), (.slice (some ad139) l0_2.length c0_2)] 25 (0, 0))) ∧ Aside0 (Below w.heap.size w w'))
                            case atStart => exact ⟨(x4_2), (0), (by first | rfl | (simp; done) | (simp [*]; done)), H', ⟨Nat.le_refl _⟩, ⟨by (with_reducible repeat (first | apply Kd.R_alloc | apply Kd.R_drewN | apply Kd.R_drew)); exact HO_4.out⟩, ⟨by (with_reducible repeat (first | refine blk_drewN ?_ _ | refine blk_drew ?_ | refine blk_alloc ?_ _)); exact BK137.out⟩, ⟨by repeat (first | (with_reducible first | exact HB.out | apply below_alloc | apply pw_below_drewN | apply below_drew1 | refine below_set ?_ GE137.out) | exact HB.out)⟩⟩
                            case round =>
                              clear H'
                              try clear c1
                              try clear p1
                              try clear q1
                              try clear hx1
                              try clear p2
                              try clear c3
                              try clear c6
                              try clear p6
                              try clear c8
                              try clear c8b0
                              try clear c9
                              try clear c9b0
                              try clear c10
                              try clear c10b0
                              try clear c12
                              try clear c12b0
                              try clear c13
                              try clear c13b0
                              try clear p13
                              try clear q13
                              try clear hx13
                              try clear c14
                              try clear c14b0
                              try clear p14
                              try clear q14
                              try clear hx14
                              try clear c15
                              try clear c15b0
                              try clear c16
                              try clear c16b0
                              try clear hcz11_0
                              try clear hcz11_1
                              try clear hcz11_2
                              try clear hcz17_0
                              try clear hcz17_1
                              try clear hcz17_2
                              try clear hcz5_0
                              try clear hcz5_1
                              try clear hcz5_2
                              try clear hcz7_0
                              try clear hcz7_1
                              try clear hcz7_2
                              try clear hfz11_0
                              try clear hfz11_1
                              try clear hfz11_2
                              try clear hfz17_0
                              try clear hfz17_1
                              try clear hfz17_2
                              try clear hfz5_0
                              try clear hfz5_1
                              try clear hfz5_2
                              try clear hfz7_0
                              try clear hfz7_1
                              try clear hfz7_2
                              try clear hx139_0
                              try clear hx139_1
                              try clear hx140_0
                              try clear hx140_1
                              try clear hx141_0
                              try clear hx141_1
                              try clear p1
                              try clear p139
                              try clear p140
                              try clear p141
                              try clear p2
                              try clear q1
                              try clear q139
                              try clear q140
                              try clear q141
                              obtain ⟨x4_3, x39_3, rfl, HA, HK3, HO_4, BK137, HB⟩ := hrel
                              cases gk with
                              | zero => exact absurd HA.out (by simp [seqs_Places.l2])
                              | succ k3 =>
                                have H := HA.out
                                clear HA
                                simp only [seqs_Places.l2] at H
                                by_cases c18 : x39_3 < (wrap64 ((((rd_T45 ((rd_T42 l0_2 x14_1).f1) x24_2).f1).length : Int) + 1))
                                · rw [if_pos c18] at H
                                  have c18b0 : decide (x39_3 < (wrap64 ((((rd_T45 ((rd_T42 l0_2 x14_1).f1) x24_2).f1).length : Int) + 1))) = true := decide_eq_true c18
                                  clear c18
                                  by_cases c19 : x4_3.length < 5864062014805
                                  · rw [if_pos c19] at H
                                    have LMc19 := Aside0.mk c19
                                    clear c19
                                    obtain ⟨y142, hy142⟩ : ∃ y_ : List (S47), y_ = (x4_3 ++ [(⟨x14_1, x24_2, x39_3⟩ : S47)]) := ⟨_, rfl⟩
                                    replace H : (seqs_Places.l2 k3 y142 x14_1 x24_2 (l0_2.length : Int) x14_1 (((rd_T42 l0_2 x14_1).f1).length : Int) x24_2 (wrap64 ((((rd_T45 ((rd_T42 l0_2 x14_1).f1) x24_2).f1).length : Int) + 1)) (wrap64 (x39_3 + 1)) a0_0 l0_1 l0_2) = some (r1, r2) := by first | (rw [hy142]; with_reducible exact H) | (have H2_ := (Option.bind_some _ _).symm.trans H; rw [hy142]; with_reducible exact H2_) | (have H2_ := (Option.bind_some _ _).symm.trans H; with_reducible exact H2_) | with_reducible exact H | (rw [hy142]; exact H) | exact H
                                    have Ny142 := Aside0.mk hy142
                                    clear hy142
                                    have H' := Aside0.mk H
                                    clear H
                                    go_wp2_with (first | ((with_reducible refine gate_builtin (b := .append) (xs := #[.tmp 42, .tmp 47]) rfl ?_); at_builtin; refine Kd.R_append k47 (w0 := w) w.heap.size rfl (.tmp 42) (.tmp 47) 27 47 (.agg #[(.int .i64 0), (.int .i64 0), (.int .i64 0)]) 24 rfl Try.underlying27 info47 rfl (by decide) (by omega) u4 x4_3 (⟨x14_1, x24_2, x39_3⟩ : S47) [.int .i64 x14_1, .int .i64 x24_2, .int .i64 x39_3] (fun _ => True) (fun _ => False) rfl rfl ?aP (fun _ hk => hk.elim) ?aF ?aO ?aB ?aS ?aL ?_; (case aP => exact k47_mkM _ _ _ (⟨x14_1, x24_2, x39_3⟩ : S47)); (case aB => exact (by repeat (first | (with_reducible first | exact HB.out | apply below_alloc | apply pw_below_drewN | apply below_drew1 | refine below_set ?_ GE137.out) | exact HB.out))); (case aF => exact (fun _ _ => trivial)); (case aO => exact (by (with_reducible repeat (first | apply Kd.R_alloc | apply Kd.R_drewN | apply Kd.R_drew)); exact HO_4.out)); (case aS => exact (below_size (by repeat (first | (with_reducible first | exact HB.out | apply below_alloc | apply pw_below_drewN | apply below_drew1 | refine below_set ?_ GE137.out) | exact HB.out)))); (case aL => have := LMc19.out; omega); intro v143 w20 ho hb hg hat; rw [← Ny142.out] at ho; have n0_ := Aside0.mk (blk_grown (g := gb137) (o := .cells #[.int .i64 a0_0, .slice A0_1 l0_1.length c0_1, .slice (some ad139) l0_2.length c0_2] 25 (0, 0)) (by (with_reducible repeat (first | refine blk_drewN ?_ _ | refine blk_drew ?_ | refine blk_alloc ?_ _)); exact BK137.out) hg (Kd.R_ne HO_4.out BK137.out (by decide))); have n1_ := Aside0.mk (hb); have n2_ := Aside0.mk (ho); clear BK137; clear HB; clear HO_4; have BK137 := n0_; have HB := n1_; have HO144 := n2_; clear n0_ n1_ n2_; clear ho hb hg hat))
                                    go_roundg k3
                                    case measure => have := HK1.out; have := HK2.out; have := HK3.out; omega
                                    case rel => exact ⟨(y142), (wrap64 (x39_3 + 1)), (by first | rfl | (simp; done) | (simp [*]; done)), H', ⟨by have := HK1.out; have := HK2.out; have := HK3.out; omega⟩, ⟨by (with_reducible repeat (first | apply Kd.R_alloc | apply Kd.R_drewN | apply Kd.R_drew)); exact HO144.out⟩, ⟨by (with_reducible repeat (first | refine blk_drewN ?_ _ | refine blk_drew ?_ | refine blk_alloc ?_ _)); exact BK137.out⟩, ⟨by repeat (first | (with_reducible first | exact HB.out | apply below_alloc | apply pw_below_drewN | apply below_drew1 | refine below_set ?_ GE137.out) | exact HB.out)⟩⟩
                                  · rw [if_neg c19] at H
                                    exact absurd H (by simp)
                                · rw [if_neg c18] at H
                                  have c18b0 : decide (x39_3 < (wrap64 ((((rd_T45 ((rd_T42 l0_2 x14_1).f1) x24_2).f1).length : Int) + 1))) = false := decide_eq_false c18
                                  clear c18
                                  have H' := Aside0.mk H
                                  clear H
                                  go_wp2
                                  go_roundg k3
                                  case measure => have := HK1.out; have := HK2.out; have := HK3.out; omega
                                  case rel => exact ⟨(x4_3), (wrap64 (x24_2 + 1)), (by first | rfl | (simp; done) | (simp [*]; done)), H', ⟨by have := HK1.out; have := HK2.out; have := HK3.out; omega⟩, ⟨by (with_reducible repeat (first | apply Kd.R_alloc | apply Kd.R_drewN | apply Kd.R_drew)); exact HO_4.out⟩, ⟨by (with_reducible repeat (first | refine blk_drewN ?_ _ | refine blk_drew ?_ | refine blk_alloc ?_ _)); exact BK137.out⟩, ⟨by repeat (first | (with_reducible first | exact HB.out | apply below_alloc | apply pw_below_drewN | apply below_drew1 | refine below_set ?_ GE137.out) | exact HB.out)⟩⟩
                          · rw [if_neg c16] at H
                            exact absurd H (by simp)
                        · rw [if_neg c15] at H
                          exact absurd H (by simp)
                      · rw [if_neg c14] at H
                        exact absurd H (by simp)
                    · rw [if_neg c13] at H
                      exact absurd H (by simp)
                  · rw [if_neg c12] at H
                    have c12b0 : decide (x24_2 < (((rd_T42 l0_2 x14_1).f1).length : Int)) = false := decide_eq_false c12
                    clear c12
                    have H' := Aside0.mk H
                    clear H
                    go_wp2
                    go_roundg k2
                    case measure => have := HK1.out; have := HK2.out; omega
                    case rel => exact ⟨(x4_2), (wrap64 (x14_1 + 1)), (by first | rfl | (simp; done) | (simp [*]; done)), H', ⟨by have := HK1.out; have := HK2.out; omega⟩, ⟨by (with_reducible repeat (first | apply Kd.R_alloc | apply Kd.R_drewN | apply Kd.R_drew)); exact HO_4.out⟩, ⟨by (with_reducible repeat (first | refine blk_drewN ?_ _ | refine blk_drew ?_ | refine blk_alloc ?_ _)); exact BK137.out⟩, ⟨by repeat (first | (with_reducible first | exact HB.out | apply below_alloc | apply pw_below_drewN | apply below_drew1 | refine below_set ?_ GE137.out) | exact HB.out)⟩⟩
            · rw [if_neg c10] at H
              exact absurd H (by simp)
          · rw [if_neg c9] at H
            exact absurd H (by simp)
        · rw [if_neg c8] at H
          have c8b0 : decide (x14_1 < (l0_2.length : Int)) = false := decide_eq_false c8
          clear c8
          simp only [Option.some.injEq, Prod.mk.injEq] at H
          obtain ⟨rfl, rfl⟩ := H
          go_wp2
          go_ret2
          exact ⟨_, by first | rfl | (simp [errW_none, errW_some] <;> rfl) | (simp [*, errW_none, errW_some] <;> rfl), by (with_reducible repeat (first | apply Kd.R_alloc | apply Kd.R_drewN | apply Kd.R_drew)); exact HO_4.out, by repeat (first | (with_reducible first | exact HB.out | apply below_alloc | apply pw_below_drewN | apply below_drew1 | refine below_set ?_ GE137.out) | exact HB.out)⟩
  · replace c3 := Bool.eq_false_iff.mpr c3
    subst c3
    have H1 : (some (([] : List (S47)), 1000)) = some (r1, r2) := by rw [if_neg (show ¬ (false = true) by decide)] at H; exact H
    clear H
    have H := H1
    clear H1
    simp only [Option.some.injEq, Prod.mk.injEq] at H
    obtain ⟨rfl, rfl⟩ := H
    go_enter Try.func6, Try.ntmps6
    go_wp2_with (first | ((with_reducible refine gate_dst (N := 1) rfl ?_); refine box_event ?hg (N := 1) ?hd (cs := #[.int .i64 a0_0, .slice A0_1 l0_1.length c0_1, .slice A0_2 l0_2.length c0_2]) (t := 25) ?hr ?_; (case hd => rfl); (case hg => rfl); (case hr => first | (go_simp; done) | (go_simp; rfl)); intro gb137 hg w21 hbox hb; have n0_ := Aside0.mk (below_step (by repeat (first | (with_reducible first | exact HB.out | apply below_alloc | apply pw_below_drewN | apply below_drew1) | exact HB.out)) hb); have n1_ := Aside0.mk (hbox); have n2_ := Aside0.mk ((by rw [hg]; exact (below_size (by repeat (first | (with_reducible first | exact HB.out | apply below_alloc | apply pw_below_drewN | apply below_drew1) | exact HB.out))) : w.heap.size ≤ gb137)); have n3_ := Aside0.mk ((by rw [hg]; exact (below_size (by repeat (first | (with_reducible first | exact HB.out | apply below_alloc | apply pw_below_drewN | apply below_drew1) | exact HB.out))) : w.heap.size ≤ gb137)); clear HB; have HB := n0_; have BK137 := n1_; have GW137 := n2_; have GE137 := n3_; clear n0_ n1_ n2_ n3_; clear hb hbox hg; have hcz22_0 : w21.cell? ⟨gb137, 0, none⟩ = some (.int .i64 a0_0) := (blk_cell BK137.out 0).trans rfl; have hcz22_1 : w21.cell? ⟨gb137, 1, none⟩ = some (.slice A0_1 l0_1.length c0_1) := (blk_cell BK137.out 1).trans rfl; have hcz22_2 : w21.cell? ⟨gb137, 2, none⟩ = some (.slice A0_2 l0_2.length c0_2) := (blk_cell BK137.out 2).trans rfl; have hfz22_0 := blk_frozen BK137.out 0; have hfz22_1 := blk_frozen BK137.out 1; have hfz22_2 := blk_frozen BK137.out 2) | ((with_reducible refine gate_callee (f := 15) rfl ?_); refine goesL_ (some 9) rfl rfl Try.func15 (by kernel_rfl) rfl #[.agg #[.int .i64 a0_0, .slice A0_1 l0_1.length c0_1, .slice A0_2 l0_2.length c0_2]] rfl (by (try simp only [List.map_toArray, List.map_cons, List.map_nil]); first | done | rfl | (simp only [List.length_drop, List.length_take]; rfl)) ?_; (with_reducible refine (gram_May.calls a0_0 _ _ l0_1 _ _ l0_2 false _ ?side1 ?side2 ?side3 ?side4 A2.out).mono ?_); (case side1 => repeat (first | exact (Kd.C_below HR0_1.out HB.out) | (with_reducible refine Kd.C_alloc ?_ _) | (with_reducible refine Kd.C_drewN ?_ _) | (with_reducible refine Kd.C_drew ?_))); (case side2 => exact HC0_1.out); (case side3 => repeat (first | exact (Kd.C_below HR0_2.out HB.out) | (with_reducible refine Kd.C_alloc ?_ _) | (with_reducible refine Kd.C_drewN ?_ _) | (with_reducible refine Kd.C_drew ?_))); (case side4 => exact HC0_2.out); rintro e w23 ⟨rfl, hb⟩; refine ⟨_, rfl, ?_⟩; have n0_ := Aside0.mk (blk_below (g := gb137) (o := .cells #[.int .i64 a0_0, .slice A0_1 l0_1.length c0_1, .slice A0_2 l0_2.length c0_2] 25 (0, 0)) (by (with_reducible repeat (first | refine blk_drewN ?_ _ | refine blk_drew ?_ | refine blk_alloc ?_ _)); exact BK137.out) hb); have n1_ := Aside0.mk (below_step (by repeat (first | (with_reducible first | exact HB.out | apply below_alloc | apply pw_below_drewN | apply below_drew1 | refine below_set ?_ GE137.out) | exact HB.out)) hb); clear BK137; clear HB; have BK137 := n0_; have HB := n1_; clear n0_ n1_; (try clear hb); (try clear hb2); (try clear hk); (try clear hi)))
    go_ret2
    exact ⟨_, by first | rfl | (simp [errW_none, errW_some] <;> rfl) | (simp [*, errW_none, errW_some] <;> rfl), by first | exact Kd.R_nil _ _ _ _ _ | exact Kd.N_nil _ _ _ _ _ | exact Kd.V_nil _ _ _ _ _ | exact Kd.Q_nil _ _ _ _ _ | exact Kd.S_nil _ _ _ _ _, by repeat (first | (with_reducible first | exact HB.out | apply below_alloc | apply pw_below_drewN | apply below_drew1 | refine below_set ?_ GE137.out) | exact HB.out)⟩

/-! ### templeref1_letter: function 24 -/
def templeref1_letter.f (a0 : Int) : Option (Bool) := if a0 ≥ 97 then (if a0 ≤ 122 then (some true) else (if a0 ≥ 65 then (if a0 ≤ 90 then (some true) else (some (a0 == 95))) else (some (a0 == 95)))) else (if a0 ≥ 65 then (if a0 ≤ 90 then (some true) else (some (a0 == 95))) else (some (a0 == 95)))
set_option maxHeartbeats 8000000 in
set_option maxRecDepth 100000 in
theorem templeref1_letter.calls (a0 : Int) (r : Bool) (w : World) (h : templeref1_letter.f a0 = some r) :
    Calls Try.prog 24 #[.int .u8 a0] w fun e w' => e = .returned (.bool r) ∧ Drawn0 w w' := by
  have H : (if a0 ≥ 97 then (if a0 ≤ 122 then (some true) else (if a0 ≥ 65 then (if a0 ≤ 90 then (some true) else (some (a0 == 95))) else (some (a0 == 95)))) else (if a0 ≥ 65 then (if a0 ≤ 90 then (some true) else (some (a0 == 95))) else (some (a0 == 95)))) = some r := h
  clear h
  by_cases c2 : a0 ≥ 97
  · rw [if_pos c2] at H
    have c2b0 : decide (97 ≤ a0) = true := decide_eq_true c2
    clear c2
    by_cases c3 : a0 ≤ 122
    · rw [if_pos c3] at H
      have c3b0 : decide (a0 ≤ 122) = true := decide_eq_true c3
      clear c3
      obtain rfl := Option.some.inj H
      go_enter Try.func24, Try.ntmps24
      go_wp2
      go_ret
      exact ⟨by first | rfl | (simp; done) | (simp [*]; done), by repeat (first | exact Drawn0.refl _ | apply Drawn0.step)⟩
    · rw [if_neg c3] at H
      have c3b0 : decide (a0 ≤ 122) = false := decide_eq_false c3
      clear c3
      by_cases c4 : a0 ≥ 65
      · rw [if_pos c4] at H
        have c4b0 : decide (65 ≤ a0) = true := decide_eq_true c4
        clear c4
        by_cases c5 : a0 ≤ 90
        · rw [if_pos c5] at H
          have c5b0 : decide (a0 ≤ 90) = true := decide_eq_true c5
          clear c5
          obtain rfl := Option.some.inj H
          go_enter Try.func24, Try.ntmps24
          go_wp2
          go_ret
          exact ⟨by first | rfl | (simp; done) | (simp [*]; done), by repeat (first | exact Drawn0.refl _ | apply Drawn0.step)⟩
        · rw [if_neg c5] at H
          have c5b0 : decide (a0 ≤ 90) = false := decide_eq_false c5
          clear c5
          obtain rfl := Option.some.inj H
          go_enter Try.func24, Try.ntmps24
          go_wp2
          go_ret
          exact ⟨by first | rfl | (simp; done) | (simp [*]; done), by repeat (first | exact Drawn0.refl _ | apply Drawn0.step)⟩
      · rw [if_neg c4] at H
        have c4b0 : decide (65 ≤ a0) = false := decide_eq_false c4
        clear c4
        obtain rfl := Option.some.inj H
        go_enter Try.func24, Try.ntmps24
        go_wp2
        go_ret
        exact ⟨by first | rfl | (simp; done) | (simp [*]; done), by repeat (first | exact Drawn0.refl _ | apply Drawn0.step)⟩
  · rw [if_neg c2] at H
    have c2b0 : decide (97 ≤ a0) = false := decide_eq_false c2
    clear c2
    by_cases c6 : a0 ≥ 65
    · rw [if_pos c6] at H
      have c6b0 : decide (65 ≤ a0) = true := decide_eq_true c6
      clear c6
      by_cases c7 : a0 ≤ 90
      · rw [if_pos c7] at H
        have c7b0 : decide (a0 ≤ 90) = true := decide_eq_true c7
        clear c7
        obtain rfl := Option.some.inj H
        go_enter Try.func24, Try.ntmps24
        go_wp2
        go_ret
        exact ⟨by first | rfl | (simp; done) | (simp [*]; done), by repeat (first | exact Drawn0.refl _ | apply Drawn0.step)⟩
      · rw [if_neg c7] at H
        have c7b0 : decide (a0 ≤ 90) = false := decide_eq_false c7
        clear c7
        obtain rfl := Option.some.inj H
        go_enter Try.func24, Try.ntmps24
        go_wp2
        go_ret
        exact ⟨by first | rfl | (simp; done) | (simp [*]; done), by repeat (first | exact Drawn0.refl _ | apply Drawn0.step)⟩
    · rw [if_neg c6] at H
      have c6b0 : decide (65 ≤ a0) = false := decide_eq_false c6
      clear c6
      obtain rfl := Option.some.inj H
      go_enter Try.func24, Try.ntmps24
      go_wp2
      go_ret
      exact ⟨by first | rfl | (simp; done) | (simp [*]; done), by repeat (first | exact Drawn0.refl _ | apply Drawn0.step)⟩

/-! ### templeref1_digit: function 25 -/
def templeref1_digit.f (a0 : Int) : Option (Bool) := if a0 ≥ 48 then (some (decide (a0 ≤ 57))) else (some false)
set_option maxHeartbeats 8000000 in
set_option maxRecDepth 100000 in
theorem templeref1_digit.calls (a0 : Int) (r : Bool) (w : World) (h : templeref1_digit.f a0 = some r) :
    Calls Try.prog 25 #[.int .u8 a0] w fun e w' => e = .returned (.bool r) ∧ Drawn0 w w' := by
  have H : (if a0 ≥ 48 then (some (decide (a0 ≤ 57))) else (some false)) = some r := h
  clear h
  by_cases c2 : a0 ≥ 48
  · rw [if_pos c2] at H
    have c2b0 : decide (48 ≤ a0) = true := decide_eq_true c2
    clear c2
    obtain rfl := Option.some.inj H
    go_enter Try.func25, Try.ntmps25
    go_wp2
    go_ret
    exact ⟨by first | rfl | (simp; done) | (simp [*]; done), by repeat (first | exact Drawn0.refl _ | apply Drawn0.step)⟩
  · rw [if_neg c2] at H
    have c2b0 : decide (48 ≤ a0) = false := decide_eq_false c2
    clear c2
    obtain rfl := Option.some.inj H
    go_enter Try.func25, Try.ntmps25
    go_wp2
    go_ret
    exact ⟨by first | rfl | (simp; done) | (simp [*]; done), by repeat (first | exact Drawn0.refl _ | apply Drawn0.step)⟩

end Go.Proofs.Ytfnfodhppobljaa.PL10
