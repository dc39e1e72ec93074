/- What stands behind a token turns nothing of it: texts put together. -/
import Derived.Test.YtmpilejhnolafaaL2Lex2
namespace Go.Proofs.Ytmpilejhnolafaa.PPJ
open Go.RowKit Go.Proofs.YtmpilejhnolafaaW.PrintWords Go.Proofs.YtmpilejhnolafaaW.PrintLast
set_option linter.unusedVariables false
set_option linter.unusedSimpArgs false
theorem escL_app {l r : BL} {c : Int} (w : BL) (h : escL l = some (c, r)) : escL (l ++ w) = some (c, r ++ w) := by
  cases l with
  | nil => simp [escL] at h
  | cons x xs =>
    rw [List.cons_append]
    dsimp only [escL] at h ⊢
    by_cases h1 : x = 92 ∨ x = 34 ∨ x = 39
    · rw [if_pos h1] at h ⊢
      simp only [Option.some.injEq, Prod.mk.injEq] at h
      rw [h.1, h.2]
    · rw [if_neg h1] at h ⊢
      by_cases h2 : x = 120
      · rw [if_pos h2] at h ⊢
        cases xs with
        | nil => simp at h
        | cons a xs =>
          cases xs with
          | nil => simp at h
          | cons b xs =>
            rw [List.cons_append, List.cons_append]
            dsimp only at h ⊢
            by_cases h3 : 0 ≤ hexv a ∧ 0 ≤ hexv b
            · rw [if_pos h3] at h ⊢
              simp only [Option.some.injEq, Prod.mk.injEq] at h
              rw [h.1, h.2]
            · rw [if_neg h3] at h
              cases h
      · rw [if_neg h2] at h
        cases h
theorem chrL_app {q : Int} {l r : BL} {c : Int} (w : BL) (h : chrL q l = some (c, r)) : chrL q (l ++ w) = some (c, r ++ w) := by
  cases l with
  | nil => simp [chrL] at h
  | cons x xs =>
    rw [List.cons_append]
    dsimp only [chrL] at h ⊢
    by_cases h1 : x = 92
    · rw [if_pos h1] at h ⊢
      exact escL_app w h
    · rw [if_neg h1] at h ⊢
      by_cases h2 : x < 32 ∨ 126 < x ∨ x = q
      · rw [if_pos h2] at h
        cases h
      · rw [if_neg h2] at h ⊢
        simp only [Option.some.injEq, Prod.mk.injEq] at h
        rw [h.1, h.2]
theorem head_app {l : BL} {c : Int} (w : BL) (h : l.head? = some c) : (l ++ w).head? = some c ∧ (l ++ w).tail = l.tail ++ w := by
  cases l with
  | nil => simp at h
  | cons x xs => exact ⟨h, rfl⟩
theorem head_napp {l : BL} {c : Int} (w : BL) (h : ¬ l.head? = some c) (h0 : l ≠ []) : ¬ (l ++ w).head? = some c := by
  cases l with
  | nil => exact absurd rfl h0
  | cons x xs => exact h
theorem txtL_app (w : BL) : ∀ (n : Nat) (l : BL) (x : List Int × BL), l.length ≤ n → txtL l = some x → txtL (l ++ w) = some (x.1, x.2 ++ w) := by
  intro n
  induction n with
  | zero =>
    intro l x hn h
    obtain rfl : l = [] := List.length_eq_zero_iff.1 (by omega)
    rw [txtL_none (by simp) rfl] at h
    cases h
  | succ n ih =>
    intro l x hn h
    by_cases h1 : l.head? = some 34
    · rw [txtL_end h1] at h
      obtain rfl := Option.some.inj h
      obtain ⟨g1, g2⟩ := head_app w h1
      rw [txtL_end g1, g2]
    · cases hc : chrL 34 l with
      | none =>
        rw [txtL_none h1 hc] at h
        cases h
      | some y =>
        rw [txtL_some h1 hc] at h
        have hlt := chrL_lt (c := y.1) (r := y.2) hc
        have h0 : l ≠ [] := by
          rintro rfl
          simp [chrL] at hc
        cases hz : txtL y.2 with
        | none =>
          rw [hz] at h
          cases h
        | some z =>
          rw [hz] at h
          obtain rfl := Option.some.inj h
          have e := ih y.2 z (by omega) hz
          rw [txtL_some (x := (y.1, y.2 ++ w)) (head_napp w h1 h0) (chrL_app (c := y.1) (r := y.2) w hc), e]
          rfl
theorem endL_app {l : BL} {x : Int × BL} (w : BL) (h : endL l = some x) : endL (l ++ w) = some (x.1, x.2 ++ w) := by
  unfold endL at h
  by_cases h1 : l.head? = some 39
  · rw [if_pos h1] at h
    obtain ⟨g1, g2⟩ := head_app w h1
    unfold endL
    rw [if_pos g1, g2]
    cases hc : chrL 39 l.tail with
    | none =>
      rw [hc] at h
      cases h
    | some y =>
      rw [hc] at h
      dsimp only at h
      rw [chrL_app (c := y.1) (r := y.2) w hc]
      dsimp only
      by_cases h2 : y.2.head? = some 39
      · rw [if_pos h2] at h
        obtain rfl := Option.some.inj h
        obtain ⟨f1, f2⟩ := head_app w h2
        rw [if_pos f1, f2]
      · rw [if_neg h2] at h
        cases h
  · rw [if_neg h1] at h
    cases h
theorem rngL_app {l : BL} {x : Int × Int × BL} (w : BL) (hw : ¬ w.head? = some 46) (h : rngL l = some x) : rngL (l ++ w) = some (x.1, x.2.1, x.2.2 ++ w) := by
  unfold rngL at h
  cases he : endL l with
  | none =>
    rw [he] at h
    cases h
  | some y =>
    rw [he] at h
    dsimp only at h
    unfold rngL
    rw [endL_app w he]
    dsimp only
    by_cases h1 : y.2.head? = some 46 ∧ y.2.tail.head? = some 46
    · rw [if_pos h1] at h
      obtain ⟨f1, f2⟩ := head_app w h1.1
      obtain ⟨f3, f4⟩ := head_app w h1.2
      rw [if_pos ⟨f1, by rw [f2]; exact f3⟩, f2, f4]
      cases hz : endL y.2.tail.tail with
      | none =>
        rw [hz] at h
        cases h
      | some z =>
        rw [hz] at h
        obtain rfl := Option.some.inj h
        rw [endL_app w hz]
        rfl
    · rw [if_neg h1] at h
      obtain rfl := Option.some.inj h
      dsimp only
      rw [if_neg]
      intro q
      apply h1
      obtain ⟨q1, q2⟩ := q
      generalize y.2 = m at *
      cases m with
      | nil => exact absurd q1 hw
      | cons a m =>
        cases m with
        | nil => exact absurd q2 hw
        | cons b m => exact ⟨q1, q2⟩
theorem takeWhile_app (p : Int → Bool) (w : BL) (hw : ∀ c, w.head? = some c → p c = false) : ∀ l : BL, (l ++ w).takeWhile p = l.takeWhile p ∧ (l ++ w).dropWhile p = l.dropWhile p ++ w
  | [] => by
    cases w with
    | nil => exact ⟨rfl, rfl⟩
    | cons c w =>
      have := hw c rfl
      simp [List.takeWhile_cons, List.dropWhile_cons, this]
  | x :: l => by
    obtain ⟨h1, h2⟩ := takeWhile_app p w hw l
    rw [List.cons_append, List.takeWhile_cons, List.dropWhile_cons, List.takeWhile_cons, List.dropWhile_cons, h1, h2]
    cases p x <;> exact ⟨rfl, rfl⟩
theorem tokL_app {l : BL} {x : Int × ByteArray × Int × Int × BL} (w : BL) (hw : ∀ c, w.head? = some c → moreI c = false ∧ c ≠ 46) (h : tokL l = .inl x) : tokL (l ++ w) = .inl (x.1, x.2.1, x.2.2.1, x.2.2.2.1, x.2.2.2.2 ++ w) := by
  cases l with
  | nil => simp [tokL] at h
  | cons c r =>
    have tw := takeWhile_app moreI w (fun c hc => (hw c hc).1) (c :: r)
    rw [List.cons_append] at tw ⊢
    dsimp only [tokL] at h ⊢
    rw [tw.1, tw.2]
    by_cases h0 : 0 ≤ signI c
    · rw [if_pos h0] at h ⊢
      obtain rfl := Sum.inl.inj h
      rfl
    rw [if_neg h0] at h ⊢
    by_cases h1 : c = 34
    · rw [if_pos h1] at h ⊢
      cases ht : txtL r with
      | none =>
        rw [ht] at h
        cases h
      | some y =>
        rw [ht] at h
        obtain rfl := Sum.inl.inj h
        rw [txtL_app w r.length r y (Nat.le_refl _) ht]
    rw [if_neg h1] at h ⊢
    by_cases h2 : c = 39
    · rw [if_pos h2] at h ⊢
      cases ht : rngL (c :: r) with
      | none =>
        rw [ht] at h
        cases h
      | some y =>
        rw [ht] at h
        obtain rfl := Sum.inl.inj h
        have := rngL_app w (fun q => (hw _ q).2 rfl) ht
        rw [List.cons_append] at this
        rw [this]
    rw [if_neg h2] at h ⊢
    by_cases h3 : letterI c = true
    · rw [if_pos h3] at h ⊢
      by_cases h4 : 32 < ((c :: r).takeWhile moreI).length
      · rw [if_pos h4] at h
        cases h
      rw [if_neg h4] at h ⊢
      by_cases h5 : strOfNums ((c :: r).takeWhile moreI) = ⟨#[115, 116, 97, 114, 116]⟩
      · rw [if_pos h5] at h ⊢
        obtain rfl := Sum.inl.inj h
        rfl
      · rw [if_neg h5] at h ⊢
        obtain rfl := Sum.inl.inj h
        rfl
    · rw [if_neg h3] at h
      cases h
theorem skipL_nil : skipL [] = [] := by rw [skipL]
theorem skipL_blank {c : Int} {r : BL} (h : blankI c = true) : skipL (c :: r) = skipL r := by rw [skipL, if_pos h]
theorem skipL_note {c : Int} {r : BL} (h : c = 35) : skipL (c :: r) = skipL (r.dropWhile fun x => !(x == 10)) := by rw [skipL, if_neg (by rw [h]; decide), if_pos h]
theorem skipL_stop {c : Int} {r : BL} (h : ¬ blankI c = true) (h2 : ¬ c = 35) : skipL (c :: r) = c :: r := by rw [skipL, if_neg h, if_neg h2]
/-- A line's end, and what stands behind it. -/
theorem skipL_join (y : BL) : ∀ (n : Nat) (l : BL), l.length ≤ n → skipL (l ++ 10 :: y) = if skipL l = [] then skipL y else skipL l ++ 10 :: y := by
  intro n
  have nil : skipL ([] ++ 10 :: y) = if skipL [] = [] then skipL y else skipL [] ++ 10 :: y := by
    rw [if_pos skipL_nil, List.nil_append, skipL_blank (by decide)]
  induction n with
  | zero =>
    intro l hn
    obtain rfl : l = [] := List.length_eq_zero_iff.1 (by omega)
    exact nil
  | succ n ih =>
    intro l hn
    cases l with
    | nil => exact nil
    | cons c r =>
      rw [List.length_cons] at hn
      rw [List.cons_append]
      by_cases h1 : blankI c = true
      · rw [skipL_blank h1, skipL_blank h1]
        exact ih r (by omega)
      · by_cases h2 : c = 35
        · rw [skipL_note h2, skipL_note h2]
          have := dropWhile_le (fun x => !(x == 10)) r
          rw [(takeWhile_app (fun x => !(x == 10)) (10 :: y) (by intro c hc; cases hc; rfl) r).2]
          exact ih _ (by omega)
        · rw [skipL_stop h1 h2, skipL_stop h1 h2, if_neg (by simp)]
          rfl
/-- Tokens, with more behind a line's end. -/
theorem lexL_eq {n : Nat} {l l2 : BL} (h : skipL l = skipL l2) : lexL n l = lexL n l2 := by
  by_cases h0 : skipL l = []
  · rw [lexL_end h0, lexL_end (by rw [← h]; exact h0)]
  · have h0' : skipL l2 ≠ [] := by rw [← h]; exact h0
    cases hx : tokL (skipL l) with
    | inr e => rw [lexL_bad h0 hx, lexL_bad h0' (by rw [← h]; exact hx), h]
    | inl x => rw [lexL_tok h0 hx, lexL_tok h0' (by rw [← h]; exact hx), h]
def joinR {α β : Type} (ts : List α) : List α ⊕ β → List α ⊕ β
  | .inl us => .inl (ts ++ us)
  | .inr e => .inr e
theorem lexL_join (y : BL) : ∀ (n : Nat) (l : BL) (M N : Nat) (ts : List (Int × Int × ByteArray × Int × Int)), l.length ≤ n → M = N + 1 + y.length → lexL N l = .inl ts → lexL M (l ++ 10 :: y) = joinR ts (lexL M y) := by
  intro n
  have stop : ∀ (l : BL) (M N : Nat) (ts : List (Int × Int × ByteArray × Int × Int)), skipL l = [] → lexL N l = .inl ts → lexL M (l ++ 10 :: y) = joinR ts (lexL M y) := by
    intro l M N ts h0 h
    rw [lexL_end h0] at h
    obtain rfl := Sum.inl.inj h
    rw [lexL_eq (l := l ++ 10 :: y) (l2 := y) (by rw [skipL_join y l.length l (Nat.le_refl _), if_pos h0])]
    cases lexL M y <;> rfl
  induction n with
  | zero =>
    intro l M N ts hn hM h
    obtain rfl : l = [] := List.length_eq_zero_iff.1 (by omega)
    exact stop [] M N ts skipL_nil h
  | succ n ih =>
    intro l M N ts hn hM h
    by_cases h0 : skipL l = []
    · exact stop l M N ts h0 h
    · have hle := skipL_le l.length l (Nat.le_refl _)
      have hj : skipL (l ++ 10 :: y) = skipL l ++ 10 :: y := by rw [skipL_join y l.length l (Nat.le_refl _), if_neg h0]
      cases hx : tokL (skipL l) with
      | inr e =>
        rw [lexL_bad h0 hx] at h
        cases h
      | inl x =>
        have hlt := tokL_lt (k := x.1) (t := x.2.1) (lo := x.2.2.1) (hi := x.2.2.2.1) (r := x.2.2.2.2) hx
        rw [lexL_tok h0 hx] at h
        cases hy : lexL N x.2.2.2.2 with
        | inr e =>
          rw [hy] at h
          cases h
        | inl ys =>
          rw [hy] at h
          obtain rfl := Sum.inl.inj h
          have e := ih x.2.2.2.2 M N ys (by omega) hM hy
          have ht := tokL_app (10 :: y) (by intro c hc; cases hc; exact ⟨by decide, by decide⟩) hx
          have hj0 : skipL (l ++ 10 :: y) ≠ [] := by rw [hj]; simp
          rw [← hj] at ht
          rw [lexL_tok hj0 ht]
          dsimp only
          rw [e, hj]
          have : (M : Int) - ((skipL l ++ 10 :: y).length : Int) = (N : Int) - ((skipL l).length : Int) := by
            rw [List.length_append, List.length_cons]
            omega
          rw [this]
          cases lexL M y <;> rfl
/-- Places so many on. -/
def movT (d : Int) (x : Int × Int × ByteArray × Int × Int) : Int × Int × ByteArray × Int × Int := (x.1, x.2.1 + d, x.2.2)
def movR (d : Int) : List (Int × Int × ByteArray × Int × Int) ⊕ (Int × Int) → List (Int × Int × ByteArray × Int × Int) ⊕ (Int × Int)
  | .inl ts => .inl (ts.map (movT d))
  | .inr e => .inr (e.1 + d, e.2)
theorem lexL_mov (d : Nat) : ∀ (n : Nat) (l : BL) (M N : Nat), l.length ≤ n → M = N + d → lexL M l = movR d (lexL N l) := by
  intro n
  induction n with
  | zero =>
    intro l M N hn hM
    obtain rfl : l = [] := List.length_eq_zero_iff.1 (by omega)
    rw [lexL_end skipL_nil, lexL_end skipL_nil]
    rfl
  | succ n ih =>
    intro l M N hn hM
    by_cases h0 : skipL l = []
    · rw [lexL_end h0, lexL_end h0]
      rfl
    · have hle := skipL_le l.length l (Nat.le_refl _)
      have hpos : (M : Int) - ((skipL l).length : Int) = ((N : Int) - ((skipL l).length : Int)) + (d : Int) := by omega
      cases hx : tokL (skipL l) with
      | inr e =>
        rw [lexL_bad h0 hx, lexL_bad h0 hx, hpos]
        rfl
      | inl x =>
        have hlt := tokL_lt (k := x.1) (t := x.2.1) (lo := x.2.2.1) (hi := x.2.2.2.1) (r := x.2.2.2.2) hx
        rw [lexL_tok h0 hx, lexL_tok h0 hx, ih x.2.2.2.2 M N (by omega) hM, hpos]
        cases lexL N x.2.2.2.2 <;> rfl
theorem bl_app (s t : ByteArray) : bl (s ++ t) = bl s ++ bl t := by
  rw [bl_data, bl_data, bl_data, ByteArray.data_append, Array.toList_append, List.map_append]
end Go.Proofs.Ytmpilejhnolafaa.PPJ
