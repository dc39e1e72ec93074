/- Layer 12, plain: the law FirstsRows answers true: a row of names begins with the bytes of those up to the first one that may not come to nothing. -/
import Derived.Test.YtpilkfodlhhjpaaL12Fol
import Derived.Test.YtpilkfodlhhjpaaPFRx7
import Derived.Test.YtpilkfodlhhjpaaOFR
namespace Go.Proofs.Ytpilkfodlhhjpaa.PFR
open Go.RowKit Go.Proofs.YtpilkfodlhhjpaaW.PrintWords Go.Proofs.YtpilkfodlhhjpaaW.PrintLast
set_option linter.unusedVariables false
set_option linter.unusedSectionVars false
set_option maxRecDepth 100000 in
theorem fr_names : ∀ m, m < 21 → namesOk (frNm m) = true := by decide +kernel
/-- The rules are passed, up to a head and a count of symbols. -/
def fr_pass (n : Int) : List Ru → Int → Int → Int → Int → Prop
  | [], h, a, h', a' => h = h' ∧ a = a'
  | r :: rs, h, a, h', a' => (ruleB n r && decide (h ≤ r.f0 ∧ r.f0 ≤ h + 1 ∧ a + cntR r.f1 ≤ 1024)) = true ∧ fr_pass n rs r.f0 (a + cntR r.f1) h' a'
theorem fr_pass_append (n : Int) : ∀ (xs ys : List Ru) (h a h1 a1 h2 a2 : Int), fr_pass n xs h a h1 a1 → fr_pass n ys h1 a1 h2 a2 → fr_pass n (xs ++ ys) h a h2 a2
  | [], ys, h, a, h1, a1, h2, a2, p, q => by obtain ⟨rfl, rfl⟩ := p; exact q
  | r :: xs, ys, h, a, h1, a1, h2, a2, p, q => ⟨p.1, fr_pass_append n xs ys _ _ _ _ _ _ p.2 q⟩
theorem fr_pass_from (n : Int) : ∀ (xs : List Ru) (h a h1 a1 : Int), fr_pass n xs h a h1 a1 → rulesFrom n h a xs = (h1 == n - 1)
  | [], h, a, h1, a1, p => by obtain ⟨rfl, rfl⟩ := p; rfl
  | r :: xs, h, a, h1, a1, p => by
    unfold rulesFrom
    rw [p.1, Bool.true_and]
    exact fr_pass_from n xs _ _ _ _ p.2
theorem fr_r1 (n : Int) (i : Nat) (hi : i < 20) : ruleB n (frR1 i) = true ∧ cntR (frR1 i).f1 = 1 := by
  refine ⟨?_, rfl⟩
  have hs : symB n (⟨-1, 97 + (i : Int), 97 + (i : Int)⟩ : Sym) = true := by
    unfold symB
    rw [if_pos rfl, decide_eq_true_eq]
    exact ⟨by show (0 : Int) ≤ 97 + (i : Int); omega, Int.le_refl _, by show 97 + (i : Int) ≤ 255; omega⟩
  unfold ruleB conjB frR1
  simp only [List.length_singleton, List.all_cons, List.all_nil, Bool.and_true, hs]
  rfl
theorem fr_r2 (n : Int) (i : Nat) : ruleB n (frR2 i) = true ∧ cntR (frR2 i).f1 = 0 := by
  refine ⟨?_, rfl⟩
  unfold ruleB conjB frR2
  simp only [List.length_singleton, List.length_nil, List.all_cons, List.all_nil, Bool.and_true]
  rfl
theorem fr_r0 (k : Nat) (hk : k ≤ 20) : ruleB ((k + 1 : Nat) : Int) (⟨0, [⟨false, frSq k⟩]⟩ : Ru) = true ∧ cntR (⟨0, [⟨false, frSq k⟩]⟩ : Ru).f1 = k := by
  constructor
  · have hc : conjB ((k + 1 : Nat) : Int) (⟨false, frSq k⟩ : Cj) = true := by
      unfold conjB
      rw [Bool.and_eq_true, List.all_eq_true]
      refine ⟨by simp only [frSq_len, decide_eq_true_eq]; omega, fun s hs => ?_⟩
      obtain ⟨q, hq, rfl⟩ := List.mem_map.1 hs
      have := List.mem_range.1 hq
      unfold symB
      rw [if_neg (by show ¬ ((q + 1 : Nat) : Int) = -1; omega), decide_eq_true_eq]
      exact ⟨by show (0 : Int) ≤ ((q + 1 : Nat) : Int); omega, by show ((q + 1 : Nat) : Int) < ((k + 1 : Nat) : Int); omega, rfl, rfl⟩
    unfold ruleB
    simp only [List.length_singleton, List.all_cons, List.all_nil, Bool.and_true, hc]
    rfl
  · unfold cntR
    simp only [List.map_cons, List.map_nil, List.sum_cons, List.sum_nil, frSq_len]
    omega
theorem fr_pass_rs (l : List Int) (k : Nat) (hk : k ≤ 20) : ∀ m, m ≤ k → fr_pass ((k + 1 : Nat) : Int) (frRs l k m) (-1) 0 (m : Int) ((k + m : Nat) : Int)
  | 0, _ => by
    obtain ⟨h1, h2⟩ := fr_r0 k hk
    refine ⟨?_, rfl, by rw [h2]; omega⟩
    rw [h1, h2, Bool.true_and, decide_eq_true_eq]
    exact ⟨by show (-1 : Int) ≤ 0; omega, by show (0 : Int) ≤ -1 + 1; omega, by omega⟩
  | m + 1, hm => by
    have ih := fr_pass_rs l k hk m (by omega)
    obtain ⟨h1, h2⟩ := fr_r1 ((k + 1 : Nat) : Int) m (by omega)
    have e1 : fr_pass ((k + 1 : Nat) : Int) (frRs l k m ++ [frR1 m]) (-1) 0 ((m + 1 : Nat) : Int) ((k + (m + 1) : Nat) : Int) := by
      refine fr_pass_append _ _ _ _ _ _ _ _ _ ih ⟨?_, by show (m : Int) + 1 = ((m + 1 : Nat) : Int); omega, by rw [h2]; omega⟩
      rw [h1, h2, Bool.true_and, decide_eq_true_eq]
      exact ⟨by show (m : Int) ≤ (m : Int) + 1; omega, by show (m : Int) + 1 ≤ (m : Int) + 1; omega, by omega⟩
    show fr_pass _ ((frRs l k m ++ [frR1 m]) ++ (if frBit l m = true then [frR2 m] else [])) _ _ _ _
    refine fr_pass_append _ _ _ _ _ _ _ _ _ e1 ?_
    split
    · obtain ⟨h3, h4⟩ := fr_r2 ((k + 1 : Nat) : Int) m
      refine ⟨?_, by show (m : Int) + 1 = ((m + 1 : Nat) : Int); omega, by rw [h4]; omega⟩
      rw [h3, h4, Bool.true_and, decide_eq_true_eq]
      exact ⟨by show ((m + 1 : Nat) : Int) ≤ (m : Int) + 1; omega, by show (m : Int) + 1 ≤ ((m + 1 : Nat) : Int) + 1; omega, by omega⟩
    · exact ⟨rfl, rfl⟩
theorem frRs_ne (l : List Int) (k : Nat) : ∀ m, ∃ ys, frRs l k m = ⟨0, [⟨false, frSq k⟩]⟩ :: ys
  | 0 => ⟨[], rfl⟩
  | m + 1 => by
    obtain ⟨ys, h⟩ := frRs_ne l k m
    refine ⟨(ys ++ [frR1 m]) ++ (if frBit l m = true then [frR2 m] else []), ?_⟩
    show (frRs l k m ++ [frR1 m]) ++ (if frBit l m = true then [frR2 m] else []) = _
    rw [h]
    rfl
theorem fr_may (l : List Int) (k : Nat) (hk : k ≤ 20) : mayB 0 (frNm k) (frRs l k k) = true := by
  have h1 := fr_pass_from _ _ _ _ _ _ (fr_pass_rs l k hk k (Nat.le_refl _))
  have hl := frRs_len l k k
  obtain ⟨ys, hy⟩ := frRs_ne l k k
  unfold mayB
  rw [Bool.and_eq_true, Bool.and_eq_true, Bool.and_eq_true, frNm_len, decide_eq_true_eq, decide_eq_true_eq]
  refine ⟨⟨⟨fr_names k (by omega), by omega, by omega, by rw [hy]; simp, by omega⟩, ?_⟩, by rw [hy]; rfl⟩
  rw [h1, beq_iff_eq]
  omega
theorem frRs_mem (l : List Int) (k : Nat) : ∀ m (r : Ru), r ∈ frRs l k m ↔ r = ⟨0, [⟨false, frSq k⟩]⟩ ∨ ∃ i, i < m ∧ (r = frR1 i ∨ (frBit l i = true ∧ r = frR2 i))
  | 0, r => by
    unfold frRs
    rw [List.mem_singleton]
    exact ⟨.inl, fun h => h.elim id (fun ⟨i, hi, _⟩ => absurd hi (Nat.not_lt_zero i))⟩
  | m + 1, r => by
    have ih := frRs_mem l k m r
    show r ∈ (frRs l k m ++ [frR1 m]) ++ (if frBit l m = true then [frR2 m] else []) ↔ _
    rw [List.mem_append, List.mem_append, List.mem_singleton, ih]
    constructor
    · intro h
      by_cases hb : frBit l m = true
      · rw [if_pos hb, List.mem_singleton] at h
        rcases h with h | h
        · rcases h with h | h
          · rcases h with h | h
            · exact .inl h
            · obtain ⟨i, hi, h⟩ := h
              exact .inr ⟨i, Nat.lt_succ_of_lt hi, h⟩
          · exact .inr ⟨m, Nat.lt_succ_self m, .inl h⟩
        · exact .inr ⟨m, Nat.lt_succ_self m, .inr ⟨hb, h⟩⟩
      · rw [if_neg hb] at h
        rcases h with h | h
        · rcases h with h | h
          · rcases h with h | h
            · exact .inl h
            · obtain ⟨i, hi, h⟩ := h
              exact .inr ⟨i, Nat.lt_succ_of_lt hi, h⟩
          · exact .inr ⟨m, Nat.lt_succ_self m, .inl h⟩
        · cases h
    · rintro (h | ⟨i, hi, h⟩)
      · exact .inl (.inl (.inl h))
      · by_cases e : i = m
        · subst e
          rcases h with h | ⟨hb, h⟩
          · exact .inl (.inr h)
          · exact .inr (by rw [if_pos hb]; exact List.mem_singleton.2 h)
        · exact .inl (.inl (.inr ⟨i, by omega, h⟩))
section
variable {l : List Int} {k : Nat} (hk : k ≤ 20)
include hk
theorem fr_e1 (i : Nat) (hi : i < k) : at_ (emptyL (frNm k) (frRs l k k)) (i + 1) = frBit l i := by
  have hm := fr_may l k hk
  rw [Bool.eq_iff_iff]
  constructor
  · intro h
    obtain ⟨r, hr, c, hc, h1, h2⟩ := emptyL_sup hm _ h
    rcases (frRs_mem l k k r).1 hr with rfl | ⟨j, hj, rfl | ⟨hb, rfl⟩⟩
    · exact absurd h1 (by show ¬ (0 : Int).toNat = i + 1; omega)
    · obtain rfl := List.mem_singleton.1 hc
      unfold nothB at h2
      simp at h2
    · have : ((j : Int) + 1).toNat = i + 1 := h1
      obtain rfl : j = i := by omega
      exact hb
  · intro hb
    have := emptyL_closed hm (frR2 i) ((frRs_mem l k k _).2 (.inr ⟨i, hi, .inr ⟨hb, rfl⟩⟩)) ⟨false, []⟩ (List.mem_singleton.2 rfl) rfl
    rwa [show (frR2 i).f0.toNat = i + 1 from by show ((i : Int) + 1).toNat = i + 1; omega] at this
theorem fr_openB : ∀ m, frOpen l m = (List.range m).all (frBit l)
  | 0 => rfl
  | m + 1 => by
    rw [List.range_succ, List.all_append]
    show (frOpen l m && frBit l m) = _
    rw [fr_openB m]
    simp
theorem fr_e0 : at_ (emptyL (frNm k) (frRs l k k)) 0 = frOpen l k := by
  have hm := fr_may l k hk
  have key : nothB (emptyL (frNm k) (frRs l k k)) (frSq k) = frOpen l k := by
    rw [fr_openB hk, Bool.eq_iff_iff]
    unfold nothB frSq
    rw [List.all_eq_true, List.all_eq_true]
    constructor
    · intro h q hq
      have := h _ (List.mem_map_of_mem (f := fun q : Nat => (⟨((q + 1 : Nat) : Int), 0, 0⟩ : Sym)) hq)
      rw [Bool.and_eq_true] at this
      rw [← fr_e1 hk q (List.mem_range.1 hq)]
      exact this.2
    · intro h s hs
      obtain ⟨q, hq, rfl⟩ := List.mem_map.1 hs
      rw [Bool.and_eq_true]
      refine ⟨by simp; omega, ?_⟩
      have := h q hq
      rw [← fr_e1 hk q (List.mem_range.1 hq)] at this
      exact this
  rw [← key, Bool.eq_iff_iff]
  constructor
  · intro h
    obtain ⟨r, hr, c, hc, h1, h2⟩ := emptyL_sup hm _ h
    rcases (frRs_mem l k k r).1 hr with rfl | ⟨j, hj, rfl | ⟨hb, rfl⟩⟩
    · obtain rfl := List.mem_singleton.1 hc
      exact h2
    · exact absurd h1 (by show ¬ ((j : Int) + 1).toNat = 0; omega)
    · exact absurd h1 (by show ¬ ((j : Int) + 1).toNat = 0; omega)
  · intro h
    exact emptyL_closed hm _ ((frRs_mem l k k _).2 (.inl rfl)) ⟨false, frSq k⟩ (List.mem_singleton.2 rfl) h
theorem fr_f1 (b : Nat) (hb : b < 256) (i : Nat) (hi : i < k) : at_ (bitL b (firstL (frNm k) (frRs l k k))) (i + 1) = decide (b = 97 + i) := by
  have hm := fr_may l k hk
  have hr : ∀ j : Nat, rangeP (97 + (j : Int)) (97 + (j : Int)) b = decide (b = 97 + j) := by
    intro j
    unfold rangeP
    rw [Bool.eq_iff_iff, decide_eq_true_eq, decide_eq_true_eq]
    omega
  have hbeg : ∀ j : Nat, begB b (emptyL (frNm k) (frRs l k k)) (bitL b (firstL (frNm k) (frRs l k k))) [⟨-1, 97 + (j : Int), 97 + (j : Int)⟩] = decide (b = 97 + j) := by
    intro j
    rw [← hr j]
    unfold begB
    rw [if_pos (show (-1 : Int) < 0 by decide)]
  rw [Bool.eq_iff_iff]
  constructor
  · intro h
    obtain ⟨r, hr, c, hc, h1, h2⟩ := firstL_sup hm b hb _ h
    rcases (frRs_mem l k k r).1 hr with rfl | ⟨j, hj, rfl | ⟨hb, rfl⟩⟩
    · exact absurd h1 (by show ¬ (0 : Int).toNat = i + 1; omega)
    · obtain rfl := List.mem_singleton.1 hc
      have : ((j : Int) + 1).toNat = i + 1 := h1
      obtain rfl : j = i := by omega
      rwa [hbeg] at h2
    · obtain rfl := List.mem_singleton.1 hc
      cases h2
  · intro h
    have := firstL_closed hm b hb (frR1 i) ((frRs_mem l k k _).2 (.inr ⟨i, hi, .inl rfl⟩)) _ (List.mem_singleton.2 rfl) (by rw [hbeg]; exact h)
    rwa [show (frR1 i).f0.toNat = i + 1 from by show ((i : Int) + 1).toNat = i + 1; omega] at this
theorem fr_want (b : Nat) (hb : b < 256) : ∀ m, WfS (frWant l m) ∧ bitS (frWant l m) b = (List.range m).any (fun j => frOpen l j && decide (b = 97 + j))
  | 0 => ⟨z63_wf, by rw [show frWant l 0 = z63 from rfl, z63_bit b hb]; rfl⟩
  | m + 1 => by
    obtain ⟨h1, h2⟩ := fr_want b hb m
    have hr : rangeP (97 + (m : Int)) (97 + (m : Int)) b = decide (b = 97 + m) := by
      unfold rangeP
      rw [Bool.eq_iff_iff, decide_eq_true_eq, decide_eq_true_eq]
      omega
    rw [List.range_succ, List.any_append]
    show WfS (if frOpen l m = true then orS (frWant l m) (rangeS (97 + (m : Int)) (97 + (m : Int))) else frWant l m) ∧ bitS (if frOpen l m = true then orS (frWant l m) (rangeS (97 + (m : Int)) (97 + (m : Int))) else frWant l m) b = _
    by_cases ho : frOpen l m = true
    · obtain ⟨h3, h4⟩ := orS_bit h1 (rangeS_wf (97 + (m : Int)) (97 + (m : Int)))
      rw [if_pos ho]
      refine ⟨h3, ?_⟩
      rw [h4 b hb, h2, rangeS_bit _ _ b hb, hr]
      simp [ho]
    · rw [if_neg ho]
      refine ⟨h1, ?_⟩
      rw [h2]
      have ho' : frOpen l m = false := by simpa using ho
      simp [ho']
theorem fr_beg (b : Nat) (hb : b < 256) : ∀ d m, m + d = k → begB b (emptyL (frNm k) (frRs l k k)) (bitL b (firstL (frNm k) (frRs l k k))) ((frSq k).drop m) = (List.range d).any (fun j => (List.range j).all (fun q => frBit l (m + q)) && decide (b = 97 + (m + j)))
  | 0, m, h => by
    rw [List.drop_of_length_le (by rw [frSq_len]; omega)]
    rfl
  | d + 1, m, h => by
    have hlt : m < (frSq k).length := by rw [frSq_len]; omega
    have e : (frSq k)[m] = ⟨((m + 1 : Nat) : Int), 0, 0⟩ := by
      unfold frSq
      simp
    rw [List.drop_eq_getElem_cons hlt, e]
    have ih := fr_beg b hb d (m + 1) (by omega)
    unfold begB
    rw [if_neg (by show ¬ ((m + 1 : Nat) : Int) < 0; omega), ih]
    rw [show ((m + 1 : Nat) : Int).toNat = m + 1 from rfl]
    have a1 := fr_f1 (l := l) hk b hb m (by omega)
    have a2 := fr_e1 (l := l) hk m (by omega)
    unfold at_ at a1 a2
    rw [a1, a2, List.range_succ_eq_map, List.any_cons, List.any_map]
    congr 1
    by_cases hbit : frBit l m = true
    · rw [if_pos hbit]
      congr 1
      funext j
      show _ = ((List.range (j + 1)).all (fun q => frBit l (m + q)) && decide (b = 97 + (m + (j + 1))))
      rw [List.range_succ_eq_map, List.all_cons, List.all_map]
      have e1 : frBit l (m + 0) = true := hbit
      rw [e1, Bool.true_and]
      congr 1
      · congr 1
        funext q
        show frBit l (m + 1 + q) = frBit l (m + (q + 1))
        rw [show m + 1 + q = m + (q + 1) from by omega]
      · rw [show m + 1 + j = m + (j + 1) from by omega]
    · rw [if_neg hbit]
      symm
      rw [List.any_eq_false]
      intro j hj
      have hb' : frBit l m = false := by simpa using hbit
      show ¬ ((List.range (j + 1)).all (fun q => frBit l (m + q)) && _) = true
      rw [List.range_succ_eq_map, List.all_cons]
      have e1 : frBit l (m + 0) = false := hb'
      rw [e1]
      simp
theorem fr_f0 (b : Nat) (hb : b < 256) : at_ (bitL b (firstL (frNm k) (frRs l k k))) 0 = bitS (frWant l k) b := by
  have hm := fr_may l k hk
  have key : begB b (emptyL (frNm k) (frRs l k k)) (bitL b (firstL (frNm k) (frRs l k k))) (frSq k) = bitS (frWant l k) b := by
    have := fr_beg (l := l) hk b hb k 0 (by omega)
    rw [List.drop_zero] at this
    rw [this, (fr_want (l := l) hk b hb k).2]
    congr 1
    funext j
    rw [fr_openB hk j]
    simp only [Nat.zero_add]
  rw [← key, Bool.eq_iff_iff]
  constructor
  · intro h
    obtain ⟨r, hr, c, hc, h1, h2⟩ := firstL_sup hm b hb _ h
    rcases (frRs_mem l k k r).1 hr with rfl | ⟨j, hj, rfl | ⟨_, rfl⟩⟩
    · obtain rfl := List.mem_singleton.1 hc
      exact h2
    · exact absurd h1 (by show ¬ ((j : Int) + 1).toNat = 0; omega)
    · exact absurd h1 (by show ¬ ((j : Int) + 1).toNat = 0; omega)
  · intro h
    exact firstL_closed hm b hb _ ((frRs_mem l k k _).2 (.inl rfl)) ⟨false, frSq k⟩ (List.mem_singleton.2 rfl) h
theorem fr_good : frGood k (frOpen l k) (frWant l k) (emptyL (frNm k) (frRs l k k)) (firstL (frNm k) (frRs l k k)) (followL 0 (frNm k) (frRs l k k)) := by
  have hm := fr_may l k hk
  have hF := firstL_in (frNm k) (frRs l k k)
  have hW := followL_in 0 (frNm k) (frRs l k k)
  have e0 : rdOf false (emptyL (frNm k) (frRs l k k)) 0 = frOpen l k := fr_e0 hk
  have f0 : rd_T63 (firstL (frNm k) (frRs l k k)) 0 = frWant l k := by
    refine S_ext (wfL_get hF.2 0) (fr_want (l := l) hk 0 (by decide) k).1 (fun b hb => ?_)
    rw [← fr_f0 hk b hb, at_, bitL_get b hb]
    rfl
  have wk : k = 0 ∨ (rd_T66 (followL 0 (frNm k) (frRs l k k)) (k : Int)).f1 = true := by
    by_cases h0 : k = 0
    · exact .inl h0
    right
    have hlen : (⟨false, frSq k⟩ : Cj).f1.length = k := frSq_len k
    have h := followL_closed hm 256 (by omega) _ ((frRs_mem l k k _).2 (.inl rfl)) ⟨false, frSq k⟩ (List.mem_singleton.2 rfl) (k - 1) (by omega)
    have e : (frSq k)[k - 1]'(by rw [frSq_len]; omega) = ⟨((k : Nat) : Int), 0, 0⟩ := by
      unfold frSq
      simp
      omega
    have h2 := h (by show ¬ ((frSq k)[k - 1]'(by rw [frSq_len]; omega)).f0 < 0; rw [e]; show ¬ (k : Int) < 0; omega) (by
      show addW 256 _ _ 0 ((frSq k).drop (k - 1 + 1)) _ = true
      rw [show k - 1 + 1 = k from by omega, List.drop_of_length_le (by rw [frSq_len]; omega)]
      unfold addW
      rw [if_neg (by decide), Bool.false_or, Bool.and_eq_true]
      exact ⟨rfl, followL_end hm⟩)
    rw [show (⟨false, frSq k⟩ : Cj).f1[k - 1] = (frSq k)[k - 1]'(by rw [frSq_len]; omega) from rfl, e, at_, bitsW_get] at h2
    exact h2
  have we : (rd_T66 (followL 0 (frNm k) (frRs l k k)) 0).f1 = true := by
    have h := followL_end hm
    rw [at_, bitsW_get] at h
    exact h
  have w0 : (rd_T66 (followL 0 (frNm k) (frRs l k k)) 0).f0 = z63 := by
    refine S_ext (inW_get hW 0) z63_wf (fun b hb => ?_)
    rw [z63_bit b hb]
    show bitS ((followL 0 (frNm k) (frRs l k k)).getD 0 z66).f0 b = false
    cases hv : bitS ((followL 0 (frNm k) (frRs l k k)).getD 0 z66).f0 b with
    | false => rfl
    | true =>
      exfalso
      have hat : at_ (bitsW b (followL 0 (frNm k) (frRs l k k))) 0 = true := by
        rw [at_, bitsW_get]
        unfold bitW
        rw [if_pos hb]
        exact hv
      rcases followL_sup hm b (by omega) 0 hat with ⟨h1, _⟩ | ⟨r, hr, c, hc, x, hx, hn, h0⟩
      · exact h1 hb
      · rcases (frRs_mem l k k r).1 hr with rfl | ⟨j, hj, rfl | ⟨_, rfl⟩⟩
        · obtain rfl := List.mem_singleton.1 hc
          obtain ⟨q, _, rfl⟩ := List.mem_map.1 hx
          exact absurd h0 (by show ¬ 0 = ((q + 1 : Nat) : Int).toNat; omega)
        · obtain rfl := List.mem_singleton.1 hc
          obtain rfl := List.mem_singleton.1 hx
          exact hn (by show (-1 : Int) < 0; decide)
        · obtain rfl := List.mem_singleton.1 hc
          cases hx
  exact ⟨by rw [emptyL_len, frNm_len], by rw [hF.1, frNm_len], by rw [hW.1, frNm_len], e0, ⟨by rw [f0], by rw [f0], by rw [f0], by rw [f0]⟩, wk, we, by rw [w0]; rfl, by rw [w0]; rfl, by rw [w0]; rfl, by rw [w0]; rfl⟩
end
theorem firstsRows_row (l0 : List Int) (hG : l0.length * 8 ≤ 140737488351232 ∧ ∀ y ∈ l0, (Lit.int .i64 y).wf = true) : ∃ k, templelaw12_FirstsRows.f k l0 = some true := by
  have hk : frK l0 ≤ 20 := Nat.min_le_right _ _
  obtain ⟨K1, e1⟩ := awake12
  refine ⟨K1, ?_⟩
  unfold templelaw12_FirstsRows.f
  rw [show templelaw12_awake.f K1 = some true from e1 K1 (Nat.le_refl _), Option.bind_some, if_pos rfl]
  exact if_pos ⟨fr_may l0 (frK l0) hk, fr_good hk⟩
end Go.Proofs.Ytpilkfodlhhjpaa.PFR
