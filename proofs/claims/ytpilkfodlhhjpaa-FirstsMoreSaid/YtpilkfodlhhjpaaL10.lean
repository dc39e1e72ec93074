/- Grammars, the plain side: the document's 'May' answers as the program's. -/
import Derived.Test.YtpilkfodlhhjpaaPFMx3
import Derived.Test.YtpilkfodlhhjpaaPFMx8
namespace Go.Proofs.Ytpilkfodlhhjpaa.PFM
open Go.RowKit Go.Proofs.YtpilkfodlhhjpaaW.PrintWords Go.Proofs.YtpilkfodlhhjpaaW.PrintLast
set_option linter.unusedVariables false
set_option linter.unusedSimpArgs false
theorem contains_mem (l : List ByteArray) (x : ByteArray) : l.contains x = true ↔ x ∈ l := by
  have h1 : ∀ a : ByteArray, (a == a) = true := fun a => by
    cases a
    exact BEq.rfl (α := Array UInt8)
  have h2 : ∀ a b : ByteArray, (a == b) = true → a = b := fun a b h => by
    cases a
    cases b
    congr 1
    exact eq_of_beq (α := Array UInt8) h
  have : ReflBEq ByteArray := ⟨h1 _⟩
  have : LawfulBEq ByteArray := { eq_of_beq := h2 _ _ }
  exact List.contains_iff_mem
theorem wrap_nat (i : Nat) (h : i < 9223372036854775807) : wrap64 ((i : Int) + 1) = ((i + 1 : Nat) : Int) := by unfold wrap64; omega
theorem ref_letter (c : Int) : templeref1_letter.f c = some (letterI c) := by
  unfold templeref1_letter.f letterI
  repeat' split
  all_goals (congr 1; rw [Bool.eq_iff_iff]; simp; omega)
theorem ref_digit (c : Int) : templeref1_digit.f c = some (digitI c) := by
  unfold templeref1_digit.f digitI
  repeat' split
  all_goals (congr 1; rw [Bool.eq_iff_iff]; simp; omega)
theorem ref_nameMay (s : ByteArray) : Ev (fun k => templeref1_nameMay.f k s) (nameOk s) := by
  have loop : s.size ≤ 32 → ∀ d i : Nat, i + d = s.size → (∀ j, j < i → moreI (bt s (j : Int)) = true) → Ev (fun k => templeref1_nameMay.l0 k s (i : Int)) ((List.range s.size).all (fun i => moreI (bt s (i : Int)))) := by
    intro h32 d
    induction d with
    | zero =>
      intro i hi hall
      have e : (List.range s.size).all (fun i => moreI (bt s (i : Int))) = true := by
        rw [List.all_eq_true]
        intro j hj
        exact hall j (by have := List.mem_range.1 hj; omega)
      rw [e]
      refine Ev.step (f := fun _ => some true) (fun k => ?_) (Ev.now _)
      simp only [templeref1_nameMay.l0]
      rw [if_neg (by omega)]
    | succ d ih =>
      intro i hi hall
      by_cases hm : moreI (bt s (i : Int)) = true
      · refine Ev.step (f := fun k => templeref1_nameMay.l0 k s ((i + 1 : Nat) : Int)) (fun k => ?_) (ih (i + 1) (by omega) (fun j hj => ?_))
        · simp only [templeref1_nameMay.l0]
          rw [if_pos (by omega), if_pos (by omega), ref_letter, Option.bind_some, ref_digit, wrap_nat i (by omega)]
          unfold moreI at hm
          cases hl : letterI (bt s (i : Int)) with
          | true => rw [if_pos rfl]
          | false =>
            rw [hl, Bool.false_or] at hm
            rw [if_neg (by simp), Option.bind_some, hm, if_pos rfl]
        · by_cases hji : j < i
          · exact hall j hji
          · rwa [show j = i from by omega]
      · have e : (List.range s.size).all (fun i => moreI (bt s (i : Int))) = false := by
          rw [List.all_eq_false]
          exact ⟨i, List.mem_range.2 (by omega), by simpa using hm⟩
        rw [e]
        refine Ev.step (f := fun _ => some false) (fun k => ?_) (Ev.now _)
        simp only [templeref1_nameMay.l0]
        rw [if_pos (by omega), if_pos (by omega), ref_letter, Option.bind_some, ref_digit]
        unfold moreI at hm
        rw [Bool.or_eq_true, not_or] at hm
        rw [if_neg hm.1, Option.bind_some, if_neg hm.2]
  have bad : ∀ b : Bool, b = false → Ev (fun k => templeref1_nameMay.j0 k s true) b := by
    intro b hb
    subst hb
    refine Ev.step (f := fun _ => some false) (fun k => ?_) (Ev.now _)
    simp only [templeref1_nameMay.j0, if_true]
  unfold templeref1_nameMay.f
  by_cases h0 : s.size < 1
  · refine Ev.congr (fun k => by rw [if_pos (by omega)]) (bad _ ?_)
    unfold nameOk
    rw [show decide (1 ≤ s.size ∧ s.size ≤ 32 ∧ s.toList ≠ [115, 116, 97, 114, 116]) = false from by simp; omega, Bool.false_and]
  by_cases h1 : 32 < s.size
  · refine Ev.congr (fun k => by rw [if_neg (by omega), if_pos (by omega)]) (bad _ ?_)
    unfold nameOk
    rw [show decide (1 ≤ s.size ∧ s.size ≤ 32 ∧ s.toList ≠ [115, 116, 97, 114, 116]) = false from by simp; omega, Bool.false_and]
  by_cases h2 : s.toList = [115, 116, 97, 114, 116]
  · refine Ev.congr (fun k => by rw [if_neg (by omega), if_neg (by omega), if_pos h2]) (bad _ ?_)
    unfold nameOk
    rw [show decide (1 ≤ s.size ∧ s.size ≤ 32 ∧ s.toList ≠ [115, 116, 97, 114, 116]) = false from by simp [h2], Bool.false_and]
  refine Ev.congr (f := fun k => templeref1_nameMay.j0 k s (!letterI (bt s 0))) (fun k => by rw [if_neg (by omega), if_neg (by omega), if_neg h2, if_pos (by omega), ref_letter, Option.bind_some]) ?_
  unfold nameOk
  rw [show decide (1 ≤ s.size ∧ s.size ≤ 32 ∧ s.toList ≠ [115, 116, 97, 114, 116]) = true from by rw [decide_eq_true_eq]; exact ⟨by omega, by omega, h2⟩, Bool.true_and]
  cases hl : letterI (bt s 0) with
  | false => exact bad _ rfl
  | true =>
    rw [Bool.true_and]
    refine Ev.step (f := fun k => templeref1_nameMay.l0 k s ((0 : Nat) : Int)) (fun k => ?_) (loop (by omega) s.size 0 (by omega) (fun j hj => by omega))
    simp only [templeref1_nameMay.j0]
    rw [if_neg (by simp)]
    rfl
/-- The first place that holds it. -/
def findB (s : ByteArray) : List ByteArray → Nat → Int
  | [], _ => -1
  | x :: xs, i => if x = s then (i : Int) else findB s xs (i + 1)
theorem rd_str (l : List ByteArray) (i : Nat) (h : i < l.length) : rdOf ByteArray.empty l (i : Int) = l[i] := by
  unfold rdOf
  rw [Int.toNat_natCast, List.getD_eq_getElem?_getD, List.getElem?_eq_getElem h]
  rfl
theorem ref_find (l : List ByteArray) (hl : l.length ≤ 4611686018427387904) (s : ByteArray) : Ev (fun k => templeref1_find.f k l s) (findB s l 0) := by
  have key : ∀ d i : Nat, i + d = l.length → Ev (fun k => templeref1_find.l0 k l s (i : Int)) (findB s (l.drop i) i) := by
    intro d
    induction d with
    | zero =>
      intro i hi
      rw [show l.drop i = [] from List.drop_eq_nil_iff.2 (by omega)]
      refine Ev.step (f := fun _ => some (-1)) (fun k => ?_) (Ev.now _)
      simp only [templeref1_find.l0]
      rw [if_neg (by omega)]
    | succ d ih =>
      intro i hi
      have hlt : i < l.length := by omega
      rw [List.drop_eq_getElem_cons hlt]
      unfold findB
      by_cases h : l[i] = s
      · rw [if_pos h]
        refine Ev.step (f := fun _ => some (i : Int)) (fun k => ?_) (Ev.now _)
        simp only [templeref1_find.l0]
        rw [if_pos (by omega), if_pos (by omega), rd_str l i hlt, if_pos (toList_inj.2 h)]
      · rw [if_neg h]
        refine Ev.step (f := fun k => templeref1_find.l0 k l s ((i + 1 : Nat) : Int)) (fun k => ?_) (ih (i + 1) (by omega))
        simp only [templeref1_find.l0]
        rw [if_pos (by omega), if_pos (by omega), rd_str l i hlt, if_neg (fun e => h (toList_inj.1 e)), wrap_nat i (by omega)]
  exact Ev.congr (fun k => rfl) (key l.length 0 (by omega))
theorem findB_ge (s : ByteArray) : ∀ (l : List ByteArray) (i : Nat), findB s l i = -1 ∨ (i : Int) ≤ findB s l i
  | [], i => .inl rfl
  | x :: xs, i => by
    unfold findB
    by_cases h : x = s
    · rw [if_pos h]; exact .inr (Int.le_refl _)
    · rw [if_neg h]
      rcases findB_ge s xs (i + 1) with h | h
      · exact .inl h
      · exact .inr (by omega)
theorem findB_own (l : List ByteArray) : ∀ (i n : Nat) (h : i < l.length), (findB l[i] l n = ((n + i : Nat) : Int)) ↔ l[i] ∉ l.take i := by
  induction l with
  | nil => intro i n h; simp at h
  | cons x xs ih =>
    intro i n h
    cases i with
    | zero => simp [findB]
    | succ i =>
      have h' : i < xs.length := by simpa using h
      simp only [List.getElem_cons_succ, List.take_succ_cons, List.mem_cons, not_or]
      unfold findB
      by_cases hx : x = xs[i]
      · rw [if_pos hx]
        constructor
        · intro e; omega
        · intro e; exact absurd hx.symm e.1
      · rw [if_neg hx, show n + (i + 1) = (n + 1) + i from by omega, ih i (n + 1) h']
        exact ⟨fun e => ⟨fun e2 => hx e2.symm, e⟩, fun e => e.2⟩
theorem ref_symbol (n : Int) (s : S68) : templeref1_symbolMay.f s.f0 s.f1 s.f2 n = some (symB n s) := by
  unfold templeref1_symbolMay.f symB
  repeat' split
  all_goals (congr 1; first | (rw [Bool.eq_iff_iff]; simp; omega) | (rw [eq_comm, decide_eq_false_iff_not]; omega))
theorem ref_ruleMay (x : S55) (n : Int) : Ev (fun k => templeref1_ruleMay.f k x.f0 x.f1 n) ((if ruleB n x then (cntR x.f1 : Int) else 0), ruleB n x) := by
  have bad : ruleB n x = false → Ev (fun _ : Nat => some ((0 : Int), false)) ((if ruleB n x then (cntR x.f1 : Int) else 0), ruleB n x) := by
    intro h
    rw [h]
    exact Ev.now _
  have badj : ruleB n x = false → Ev (fun k => templeref1_ruleMay.j0 k n 0 true x.f0 x.f1) ((if ruleB n x then (cntR x.f1 : Int) else 0), ruleB n x) := by
    intro h
    exact Ev.step (fun k => by simp only [templeref1_ruleMay.j0, if_true]) (bad h)
  unfold templeref1_ruleMay.f
  by_cases h1 : x.f1.length < 1
  · exact Ev.congr (fun k => by rw [if_pos (by omega)]) (badj (by unfold ruleB; rw [show decide (1 ≤ x.f1.length ∧ x.f1.length ≤ 8) = false from by simp; omega, Bool.false_and]))
  by_cases h8 : 8 < x.f1.length
  · refine Ev.congr (fun k => by rw [if_neg (by omega), show decide ((x.f1.length : Int) > 8) = true from by rw [decide_eq_true_eq]; omega]) (badj (by unfold ruleB; rw [show decide (1 ≤ x.f1.length ∧ x.f1.length ≤ 8) = false from by simp; omega, Bool.false_and]))
  refine Ev.congr (f := fun k => templeref1_ruleMay.j0 k n 0 false x.f0 x.f1) (fun k => by rw [if_neg (by omega), show decide ((x.f1.length : Int) > 8) = false from by rw [decide_eq_false_iff_not]; omega]) ?_
  refine Ev.step (f := fun k => templeref1_ruleMay.l0 k n 0 ((0 : Nat) : Int) x.f0 x.f1) (fun k => by simp only [templeref1_ruleMay.j0]; rw [if_neg (by simp)]; rfl) ?_
  have hrb : ruleB n x = x.f1.all (conjB n) := by unfold ruleB; rw [show decide (1 ≤ x.f1.length ∧ x.f1.length ≤ 8) = true from by rw [decide_eq_true_eq]; omega, Bool.true_and]
  have key : ∀ d i : Nat, i + d = x.f1.length → (x.f1.take i).all (conjB n) = true → Ev (fun k => templeref1_ruleMay.l0 k n (cntR (x.f1.take i) : Int) (i : Int) x.f0 x.f1) ((if ruleB n x then (cntR x.f1 : Int) else 0), ruleB n x) := by
    intro d
    induction d with
    | zero =>
      intro i hi hall
      obtain rfl : i = x.f1.length := by omega
      rw [List.take_length] at hall ⊢
      rw [hrb, hall, if_pos rfl]
      refine Ev.step (f := fun _ => some ((cntR x.f1 : Int), true)) (fun k => ?_) (Ev.now _)
      simp only [templeref1_ruleMay.l0]
      rw [if_neg (by omega)]
    | succ d ih =>
      intro i hi hall
      have hlt : i < x.f1.length := by omega
      by_cases h64 : 64 < x.f1[i].f1.length
      · refine Ev.step (f := fun _ => some (0, false)) (fun k => ?_) (bad (by rw [hrb]; exact all_bad _ _ i hlt (by unfold conjB; rw [show decide (x.f1[i].f1.length ≤ 64) = false from by simp; omega, Bool.false_and])))
        simp only [templeref1_ruleMay.l0]
        rw [if_pos (by omega), if_pos (by omega), rd_conj _ i hlt, if_pos (by omega)]
      · refine Ev.step (f := fun k => templeref1_ruleMay.l1 k n (cntR (x.f1.take i) : Int) (i : Int) x.f1[i].f1 ((0 : Nat) : Int) x.f0 x.f1) (fun k => ?_) ?_
        · simp only [templeref1_ruleMay.l0]
          rw [if_pos (by omega), if_pos (by omega), rd_conj _ i hlt, if_neg (by omega)]
          rfl
        · have inner : ∀ e j : Nat, j + e = x.f1[i].f1.length → (x.f1[i].f1.take j).all (symB n) = true → Ev (fun k => templeref1_ruleMay.l1 k n (cntR (x.f1.take i) : Int) (i : Int) x.f1[i].f1 (j : Int) x.f0 x.f1) ((if ruleB n x then (cntR x.f1 : Int) else 0), ruleB n x) := by
            intro e
            induction e with
            | zero =>
              intro j hj hs
              obtain rfl : j = x.f1[i].f1.length := by omega
              rw [List.take_length] at hs
              have hc : cntR (x.f1.take i) ≤ 64 * (x.f1.take i).length := cntR_le n _ hall
              rw [List.length_take] at hc
              refine Ev.step (f := fun k => templeref1_ruleMay.l0 k n (cntR (x.f1.take (i + 1)) : Int) ((i + 1 : Nat) : Int) x.f0 x.f1) (fun k => ?_) (ih (i + 1) (by omega) (by rw [all_take _ _ _ hlt, hall, Bool.true_and]; unfold conjB; rw [hs, Bool.and_true, decide_eq_true_eq]; omega))
              simp only [templeref1_ruleMay.l1]
              rw [if_neg (by omega), wrap_nat i (by omega), cntR_take _ _ hlt]
              congr 1
              unfold wrap64
              omega
            | succ e ihe =>
              intro j hj hs
              have hjl : j < x.f1[i].f1.length := by omega
              cases hy : symB n x.f1[i].f1[j] with
              | true =>
                refine Ev.step (f := fun k => templeref1_ruleMay.l1 k n (cntR (x.f1.take i) : Int) (i : Int) x.f1[i].f1 ((j + 1 : Nat) : Int) x.f0 x.f1) (fun k => ?_) (ihe (j + 1) (by omega) (by rw [all_take _ _ _ hjl, hs, hy]; rfl))
                simp only [templeref1_ruleMay.l1]
                rw [if_pos (by omega), if_pos (by omega), rd_sym _ j hjl, ref_symbol, hy, Option.bind_some, if_pos rfl, wrap_nat j (by omega)]
              | false =>
                refine Ev.step (f := fun _ => some (0, false)) (fun k => ?_) (bad (by rw [hrb]; exact all_bad _ _ i hlt (by unfold conjB; rw [all_bad _ _ j hjl hy, Bool.and_false])))
                simp only [templeref1_ruleMay.l1]
                rw [if_pos (by omega), if_pos (by omega), rd_sym _ j hjl, ref_symbol, hy, Option.bind_some, if_neg (by simp)]
          exact inner x.f1[i].f1.length 0 (by omega) (by simp)
  exact key x.f1.length 0 (by omega) (by simp)
/-- The rules from one on, as the document has it. -/
def refRules (n head all : Int) : List S55 → Bool
  | [] => head == n - 1 && decide (all ≤ 1024)
  | x :: xs => decide (0 ≤ x.f0 ∧ (x.f0 = head ∨ x.f0 = head + 1) ∧ x.f0 < n) && (ruleB n x && refRules n x.f0 (all + cntR x.f1) xs)
theorem rulesFromA_head (n : Int) : ∀ (l : List S55) (h a : Int), rulesFrom n h a l = true → h ≤ n - 1
  | [], h, a, e => by unfold rulesFrom at e; rw [beq_iff_eq] at e; omega
  | x :: xs, h, a, e => by
    unfold rulesFrom at e
    simp only [Bool.and_eq_true, decide_eq_true_eq] at e
    have := rulesFromA_head n xs _ _ e.2
    omega
theorem refRules_all (n : Int) : ∀ (l : List S55) (h a : Int), refRules n h a l = true → a ≤ 1024
  | [], h, a, e => by unfold refRules at e; simp only [Bool.and_eq_true, decide_eq_true_eq] at e; exact e.2
  | x :: xs, h, a, e => by
    unfold refRules at e
    simp only [Bool.and_eq_true] at e
    have := refRules_all n xs _ _ e.2.2
    omega
theorem refRules_eq (n : Int) : ∀ (l : List S55) (h a : Int), 0 ≤ h → a ≤ 1024 → rulesFrom n h a l = refRules n h a l
  | [], h, a, h0, ha => by unfold rulesFrom refRules; rw [show decide (a ≤ 1024) = true from by rw [decide_eq_true_eq]; exact ha, Bool.and_true]
  | x :: xs, h, a, h0, ha => by
    unfold rulesFrom refRules
    rw [Bool.eq_iff_iff]
    simp only [Bool.and_eq_true, decide_eq_true_eq]
    constructor
    · rintro ⟨⟨h1, h2, h3, h4⟩, h5⟩
      have hx := rulesFromA_head n xs _ _ h5
      rw [refRules_eq n xs _ _ (by omega) h4] at h5
      exact ⟨⟨by omega, by omega, by omega⟩, h1, h5⟩
    · rintro ⟨⟨h1, h2, h3⟩, h4, h5⟩
      have hx := refRules_all n xs _ _ h5
      rw [← refRules_eq n xs _ _ (by omega) hx] at h5
      exact ⟨⟨h4, by omega, by omega, hx⟩, h5⟩
theorem refRules_first (n : Int) (l : List S55) (hl : 1 ≤ l.length) : (rulesFrom n (-1) 0 l && decide ((l.headD z55).f0 = 0)) = refRules n (-1) 0 l := by
  cases l with
  | nil => simp at hl
  | cons x xs =>
    unfold rulesFrom refRules
    rw [List.headD_cons, Bool.eq_iff_iff]
    simp only [Bool.and_eq_true, decide_eq_true_eq]
    constructor
    · rintro ⟨⟨⟨h1, h2, h3, h4⟩, h5⟩, h6⟩
      have hx := rulesFromA_head n xs _ _ h5
      rw [refRules_eq n xs _ _ (by omega) h4] at h5
      exact ⟨⟨by omega, by omega, by omega⟩, h1, h5⟩
    · rintro ⟨⟨h1, h2, h3⟩, h4, h5⟩
      have hx := refRules_all n xs _ _ h5
      rw [← refRules_eq n xs _ _ (by omega) hx] at h5
      exact ⟨⟨⟨h4, by omega, by omega, hx⟩, h5⟩, by omega⟩
theorem ref_May_rules (a : Int) (names : List ByteArray) (l : List S55) (hn : names.length ≤ 64) (hl : l.length ≤ 256) (R : Bool) :
    ∀ (d i : Nat) (h s : Int), i + d = l.length → -1 ≤ h → h ≤ 64 → 0 ≤ s → s ≤ 512 * i → refRules names.length h s (l.drop i) = R → Ev (fun k => templeref1_May.l1 k h s (i : Int) a names l) R := by
  intro d
  induction d with
  | zero =>
    intro i h s hi h0 h1 h2 h3 hR
    rw [show l.drop i = [] from List.drop_eq_nil_iff.2 (by omega)] at hR
    subst hR
    unfold refRules
    have e : wrap64 ((names.length : Int) - 1) = (names.length : Int) - 1 := by unfold wrap64; omega
    by_cases hh : h = (names.length : Int) - 1
    · refine Ev.step (f := fun _ => some (decide (s ≤ 1024))) (fun k => ?_) ?_
      · simp only [templeref1_May.l1]
        rw [if_neg (by omega), e, if_pos hh]
      · rw [show (h == (names.length : Int) - 1) = true from by rw [beq_iff_eq]; exact hh, Bool.true_and]
        exact Ev.now _
    · refine Ev.step (f := fun _ => some false) (fun k => ?_) ?_
      · simp only [templeref1_May.l1]
        rw [if_neg (by omega), e, if_neg hh]
      · rw [show (h == (names.length : Int) - 1) = false from by rw [beq_eq_false_iff_ne]; exact hh, Bool.false_and]
        exact Ev.now _
  | succ d ih =>
    intro i h s hi h0 h1 h2 h3 hR
    have hlt : i < l.length := by omega
    rw [List.drop_eq_getElem_cons hlt] at hR
    unfold refRules at hR
    generalize hx : l[i] = x at hR
    have hrd : rd_T55 l (i : Int) = x := by rw [rd_rule l i hlt, hx]
    have ew : wrap64 (h + 1) = h + 1 := by unfold wrap64; omega
    have badj : R = false → Ev (fun k => templeref1_May.j3 k s (i : Int) x.f0 true a names l) R := by
      rintro rfl
      refine Ev.step (f := fun _ => some false) (fun k => ?_) (Ev.now _)
      simp only [templeref1_May.j3, if_true]
    by_cases hg : 0 ≤ x.f0 ∧ (x.f0 = h ∨ x.f0 = h + 1) ∧ x.f0 < names.length
    · rw [show decide (0 ≤ x.f0 ∧ (x.f0 = h ∨ x.f0 = h + 1) ∧ x.f0 < names.length) = true from by rw [decide_eq_true_eq]; exact hg, Bool.true_and] at hR
      refine Ev.step (f := fun k => templeref1_May.j3 k s (i : Int) x.f0 false a names l) (fun k => ?_) ?_
      · simp only [templeref1_May.l1]
        rw [if_pos (by omega), if_pos (by omega), hrd, if_neg (by omega), ew, show decide (x.f0 ≥ (names.length : Int)) = false from by rw [decide_eq_false_iff_not]; omega]
        rcases hg.2.1 with e | e
        · rw [if_pos e]
        · rw [if_neg (by omega), if_pos e]
      · obtain ⟨K1, e1⟩ := ref_ruleMay x names.length
        dsimp only at e1
        cases hrb : ruleB names.length x with
        | false =>
          rw [hrb, Bool.false_and] at hR
          subst hR
          refine ⟨K1 + 1, fun k hk => ?_⟩
          obtain ⟨k, rfl⟩ : ∃ j, k = j + 1 := ⟨k - 1, by omega⟩
          simp only [templeref1_May.j3]
          rw [if_neg (by simp), if_pos (by omega), if_pos (by omega), hrd, e1 k (by omega), hrb, Option.bind_some, if_neg (by simp)]
        | true =>
          rw [hrb, Bool.true_and] at hR
          have hc : cntR x.f1 ≤ 64 * x.f1.length ∧ x.f1.length ≤ 8 := by
            unfold ruleB at hrb
            simp only [Bool.and_eq_true, decide_eq_true_eq] at hrb
            exact ⟨cntR_le _ _ hrb.2, hrb.1.2⟩
          obtain ⟨K2, e2⟩ := ih (i + 1) x.f0 (s + cntR x.f1) (by omega) (by omega) (by omega) (by omega) (by omega) hR
          dsimp only at e2
          refine ⟨K1 + K2 + 1, fun k hk => ?_⟩
          obtain ⟨k, rfl⟩ : ∃ j, k = j + 1 := ⟨k - 1, by omega⟩
          simp only [templeref1_May.j3]
          rw [if_neg (by simp), if_pos (by omega), if_pos (by omega), hrd, e1 k (by omega), hrb, Option.bind_some, if_pos rfl, if_pos rfl, wrap_nat i (by omega), show wrap64 (s + (cntR x.f1 : Int)) = s + cntR x.f1 from by unfold wrap64; omega, e2 k (by omega)]
    · rw [show decide (0 ≤ x.f0 ∧ (x.f0 = h ∨ x.f0 = h + 1) ∧ x.f0 < names.length) = false from by rw [decide_eq_false_iff_not]; exact hg, Bool.false_and] at hR
      refine Ev.step (fun k => ?_) (badj hR.symm)
      simp only [templeref1_May.l1]
      rw [if_pos (by omega), if_pos (by omega), hrd, ew]
      by_cases q0 : x.f0 < 0
      · rw [if_pos q0]
      rw [if_neg q0]
      by_cases q1 : x.f0 = h
      · rw [if_pos q1, show decide (x.f0 ≥ (names.length : Int)) = true from by rw [decide_eq_true_eq]; omega]
      rw [if_neg q1]
      by_cases q2 : x.f0 = h + 1
      · rw [if_pos q2, show decide (x.f0 ≥ (names.length : Int)) = true from by rw [decide_eq_true_eq]; omega]
      rw [if_neg q2]
theorem ref_May (a : Int) (names : List ByteArray) (l : List S55) : Ev (fun k => templeref1_May.f k a names l) (mayB a names l) := by
  have bad : mayB a names l = false → Ev (fun k => templeref1_May.j0 k true a names l) (mayB a names l) := by
    intro h
    rw [h]
    refine Ev.step (f := fun _ => some false) (fun k => ?_) (Ev.now _)
    simp only [templeref1_May.j0, if_true]
  have n1 : ¬ (1 ≤ names.length ∧ names.length ≤ 64) → mayB a names l = false := by
    intro h
    unfold mayB namesOk
    rw [show decide (1 ≤ names.length ∧ names.length ≤ 64) = false from by rw [decide_eq_false_iff_not]; exact h]
    simp
  have n2 : ¬ (0 ≤ a ∧ a < names.length ∧ 1 ≤ l.length ∧ l.length ≤ 256) → mayB a names l = false := by
    intro h
    unfold mayB
    rw [show decide (0 ≤ a ∧ a < names.length ∧ 1 ≤ l.length ∧ l.length ≤ 256) = false from by rw [decide_eq_false_iff_not]; exact h]
    simp
  unfold templeref1_May.f
  by_cases c1 : names.length < 1
  · exact Ev.congr (fun k => by rw [if_pos (by omega)]) (bad (n1 (by omega)))
  by_cases c2 : 64 < names.length
  · exact Ev.congr (fun k => by rw [if_neg (by omega), if_pos (by omega)]) (bad (n1 (by omega)))
  by_cases c3 : a < 0
  · exact Ev.congr (fun k => by rw [if_neg (by omega), if_neg (by omega), if_pos c3]) (bad (n2 (by omega)))
  by_cases c4 : (names.length : Int) ≤ a
  · exact Ev.congr (fun k => by rw [if_neg (by omega), if_neg (by omega), if_neg c3, if_pos c4]) (bad (n2 (by omega)))
  by_cases c5 : l.length < 1
  · exact Ev.congr (fun k => by rw [if_neg (by omega), if_neg (by omega), if_neg c3, if_neg (by omega), if_pos (by omega)]) (bad (n2 (by omega)))
  by_cases c6 : 256 < l.length
  · exact Ev.congr (fun k => by rw [if_neg (by omega), if_neg (by omega), if_neg c3, if_neg (by omega), if_neg (by omega), show decide ((l.length : Int) > 256) = true from by rw [decide_eq_true_eq]; omega]) (bad (n2 (by omega)))
  refine Ev.congr (f := fun k => templeref1_May.j0 k false a names l) (fun k => by rw [if_neg (by omega), if_neg (by omega), if_neg c3, if_neg (by omega), if_neg (by omega), show decide ((l.length : Int) > 256) = false from by rw [decide_eq_false_iff_not]; omega]) ?_
  refine Ev.step (f := fun k => templeref1_May.l0 k ((0 : Nat) : Int) a names l) (fun k => by simp only [templeref1_May.j0]; rw [if_neg (by simp)]; rfl) ?_
  have hm : mayB a names l = (namesFrom [] names && refRules names.length (-1) 0 l) := by
    unfold mayB namesOk
    rw [show decide (1 ≤ names.length ∧ names.length ≤ 64) = true from by rw [decide_eq_true_eq]; omega, show decide (0 ≤ a ∧ a < names.length ∧ 1 ≤ l.length ∧ l.length ≤ 256) = true from by rw [decide_eq_true_eq]; omega, Bool.true_and, Bool.and_true, Bool.and_assoc, refRules_first _ l (by omega)]
  rw [hm]
  have key : ∀ d i : Nat, i + d = names.length → Ev (fun k => templeref1_May.l0 k (i : Int) a names l) (namesFrom (names.take i) (names.drop i) && refRules names.length (-1) 0 l) := by
    intro d
    induction d with
    | zero =>
      intro i hi
      rw [show names.drop i = [] from List.drop_eq_nil_iff.2 (by omega)]
      refine Ev.step (f := fun k => templeref1_May.l1 k (-1) 0 ((0 : Nat) : Int) a names l) (fun k => ?_) ?_
      · simp only [templeref1_May.l0]
        rw [if_neg (by omega)]
        rfl
      · exact ref_May_rules a names l (by omega) (by omega) _ l.length 0 (-1) 0 (by omega) (by omega) (by omega) (by omega) (by omega) (by unfold namesFrom; rw [Bool.true_and]; rfl)
    | succ d ih =>
      intro i hi
      have hlt : i < names.length := by omega
      obtain ⟨K1, e1⟩ := ref_nameMay names[i]
      obtain ⟨K2, e2⟩ := ref_find names (by omega) names[i]
      obtain ⟨K3, e3⟩ := ih (i + 1) (by omega)
      dsimp only at e1 e2 e3
      have hrd := rd_str names i hlt
      have hown := findB_own names i 0 hlt
      rw [Nat.zero_add] at hown
      refine ⟨K1 + K2 + K3 + 1, fun k hk => ?_⟩
      obtain ⟨k, rfl⟩ : ∃ j, k = j + 1 := ⟨k - 1, by omega⟩
      rw [List.drop_eq_getElem_cons hlt]
      unfold namesFrom
      simp only [templeref1_May.l0]
      rw [if_pos (by omega), if_pos (by omega), hrd, e1 k (by omega), Option.bind_some, e2 k (by omega), Option.bind_some]
      cases hn : nameOk names[i] with
      | false => rw [if_neg (by simp), Bool.false_and, Bool.false_and, Bool.false_and]
      | true =>
        rw [if_pos rfl, Bool.true_and]
        by_cases hf : names[i] ∈ names.take i
        · rw [if_neg (fun e => (hown.1 e) hf), show (names.take i).contains names[i] = true from (contains_mem _ _).2 hf]
          simp
        · rw [if_pos (hown.2 hf), show (names.take i).contains names[i] = false from by rw [Bool.eq_false_iff]; intro e; exact hf ((contains_mem _ _).1 e), wrap_nat i (by omega), e3 k (by omega), List.take_succ_eq_append_getElem hlt]
          simp
  have := key names.length 0 (by omega)
  simpa using this
end Go.Proofs.Ytpilkfodlhhjpaa.PFM
