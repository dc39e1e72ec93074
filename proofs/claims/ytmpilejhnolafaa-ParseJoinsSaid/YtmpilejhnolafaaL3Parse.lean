/- Layer 3, plain: what note.Parse answers, told of the text. -/
import Derived.Test.YtmpilejhnolafaaL3App
import Derived.Test.YtmpilejhnolafaaPPJx5
namespace Go.Proofs.Ytmpilejhnolafaa.PPJ
open Go.RowKit Go.Proofs.YtmpilejhnolafaaW.PrintWords Go.Proofs.YtmpilejhnolafaaW.PrintLast
set_option linter.unusedVariables false
set_option linter.unusedSimpArgs false
abbrev TokN := Int × Int × ByteArray × Int × Int
theorem tokL_err {l : BL} {e : Int} (h : tokL l = .inr e) : e = 200 ∨ e = 201 := by
  cases l with
  | nil =>
    simp only [tokL] at h
    exact .inl (Sum.inr.inj h).symm
  | cons c r =>
    simp only [tokL] at h
    split at h
    · cases h
    split at h
    · split at h
      · exact .inr (Sum.inr.inj h).symm
      · cases h
    split at h
    · split at h
      · exact .inr (Sum.inr.inj h).symm
      · cases h
    split at h
    · split at h
      · exact .inr (Sum.inr.inj h).symm
      split at h
      · cases h
      · cases h
    · exact .inl (Sum.inr.inj h).symm
/-- Where tokens and faults lie, how many there are. -/
theorem lexL_facts : ∀ (n : Nat) (l : BL) (N : Nat), l.length ≤ n → l.length ≤ N →
    (∀ ts, lexL N l = .inl ts → ts.length ≤ l.length ∧ ∀ x ∈ ts, 0 ≤ x.2.1 ∧ x.2.1 ≤ (N : Int)) ∧ (∀ e, lexL N l = .inr e → (e.2 = 200 ∨ e.2 = 201) ∧ 0 ≤ e.1 ∧ e.1 ≤ (N : Int)) := by
  intro n
  have none_ : ∀ (l : BL) (N : Nat), skipL l = [] → (∀ ts, lexL N l = .inl ts → ts.length ≤ l.length ∧ ∀ x ∈ ts, 0 ≤ x.2.1 ∧ x.2.1 ≤ (N : Int)) ∧ (∀ e, lexL N l = .inr e → (e.2 = 200 ∨ e.2 = 201) ∧ 0 ≤ e.1 ∧ e.1 ≤ (N : Int)) := fun l N h0 => by
    rw [lexL_end h0]
    refine ⟨fun ts h => ?_, fun e h => (by cases h)⟩
    obtain rfl := Sum.inl.inj h
    exact ⟨Nat.zero_le _, fun x hx => by cases hx⟩
  induction n with
  | zero =>
    intro l N hn hN
    obtain rfl : l = [] := List.length_eq_zero_iff.1 (by omega)
    exact none_ [] N skipL_nil
  | succ n ih =>
    intro l N hn hN
    by_cases h0 : skipL l = []
    · exact none_ l N h0
    have hle := skipL_le l.length l (Nat.le_refl _)
    cases hx : tokL (skipL l) with
    | inr e =>
      rw [lexL_bad h0 hx]
      refine ⟨fun ts h => (by cases h), fun e' h => ?_⟩
      obtain rfl := Sum.inr.inj h
      exact ⟨tokL_err hx, by dsimp only; omega, by dsimp only; omega⟩
    | inl x =>
      have hlt := tokL_lt (k := x.1) (t := x.2.1) (lo := x.2.2.1) (hi := x.2.2.2.1) (r := x.2.2.2.2) hx
      rw [lexL_tok h0 hx]
      obtain ⟨i1, i2⟩ := ih x.2.2.2.2 N (by omega) (by omega)
      cases hy : lexL N x.2.2.2.2 with
      | inr e =>
        refine ⟨fun ts h => (by cases h), fun e' h => ?_⟩
        obtain rfl := Sum.inr.inj h
        exact i2 _ hy
      | inl ys =>
        refine ⟨fun ts h => ?_, fun e' h => (by cases h)⟩
        obtain rfl := Sum.inl.inj h
        obtain ⟨j1, j2⟩ := i1 _ hy
        refine ⟨by rw [List.length_cons]; omega, fun y hy => ?_⟩
        rcases List.mem_cons.1 hy with rfl | hy
        · exact ⟨by dsimp only; omega, by dsimp only; omega⟩
        · exact j2 y hy
/-- What Parse answers. -/
def parseB (s : ByteArray) : List ByteArray × List S42 × Int × Int :=
  if 65536 < s.size then ([], [], 0, 301) else match lexL s.size (bl s) with
    | .inr e => ([], [], e.1, 300)
    | .inl ts => parseL (s.size : Int) (ts.map toTok)
theorem parse_ev (s : ByteArray) : Ev (fun k => note_Parse.f k s) (parseB s) := by
  unfold parseB
  by_cases h : 65536 < s.size
  · rw [if_pos h]
    refine ⟨0, fun k _ => ?_⟩
    show note_Parse.f k s = _
    unfold note_Parse.f
    rw [if_pos (by omega)]
  rw [if_neg h]
  obtain ⟨K, hK⟩ := lex_ev s
  refine ⟨K, fun k hk => ?_⟩
  have e := hK k hk
  dsimp only at e
  show note_Parse.f k s = _
  unfold note_Parse.f
  rw [if_neg (by omega), e, Option.bind_some]
  unfold lexB
  rw [if_neg h]
  obtain ⟨f1, f2⟩ := lexL_facts (bl s).length (bl s) s.size (Nat.le_refl _) (by rw [bl_length]; exact Nat.le_refl _)
  cases hx : lexL s.size (bl s) with
  | inr e =>
    have := (f2 e hx).1
    show (if e.2 = 0 then _ else some ([], [], e.1, 300)) = _
    rw [if_neg (by omega)]
  | inl ts =>
    have := (f1 ts hx).1
    rw [bl_length] at this
    show (if (0 : Int) = 0 then (if (ts.map toTok).length ≤ 800000 then some (parseL (s.size : Int) (ts.map toTok)) else none) else _) = _
    rw [if_pos rfl, if_pos (by rw [List.length_map]; omega)]
/-! The automaton goes on behind what stands -/
theorem runP_app : ∀ (us vs : List S60) (st : Int) (S : List ByteArray) (D : List S42), runP (us ++ vs) st S D = match runP us st S D with | .inl q => runP vs q.1 q.2.1 q.2.2 | .inr e => .inr e
  | [], vs, st, S, D => rfl
  | t :: us, vs, st, S, D => by
    show runP (t :: (us ++ vs)) st S D = _
    rw [runP_cons, runP_cons]
    cases takeP st S D t with
    | none => rfl
    | some q => exact runP_app us vs q.1 q.2.1 q.2.2
/-- What lies ahead of what is declared stays. -/
theorem onLast_front {α : Type} (f : α → α) (D : List α) {d : List α} (h : d ≠ []) : onLast f (D ++ d) = D ++ onLast f d := by
  have e : d = d.dropLast ++ [d.getLast h] := (List.dropLast_concat_getLast h).symm
  rw [e, ← List.append_assoc, onLast_snoc, onLast_snoc, List.append_assoc]
theorem onLast_ne {α : Type} (f : α → α) {d : List α} (h : d ≠ []) : onLast f d ≠ [] := by
  have e : d = d.dropLast ++ [d.getLast h] := (List.dropLast_concat_getLast h).symm
  rw [e, onLast_snoc]
  simp
theorem takeP_front (S : List ByteArray) (D : List S42) (st : Int) (s : List ByteArray) (d : List S42) (t : S60) (hd : 0 ≤ st) (h : 3 ≤ st → d ≠ []) :
    takeP st (S ++ s) (D ++ d) t = (takeP st s d t).map (fun q => (q.1, S ++ q.2.1, D ++ q.2.2)) ∧ ∀ q, takeP st s d t = some q → 0 ≤ q.1 ∧ (3 ≤ q.1 → q.2.2 ≠ []) := by
  have hI : ∀ x : List S42, x ≠ [] → addItem t (D ++ x) = D ++ addItem t x ∧ addItem t x ≠ [] := fun x hx => ⟨onLast_front _ D hx, onLast_ne _ hx⟩
  have hC : ∀ (b : Bool) (x : List S42), x ≠ [] → addConj b (D ++ x) = D ++ addConj b x ∧ addConj b x ≠ [] := fun b x hx => ⟨onLast_front _ D hx, onLast_ne _ hx⟩
  have hA : ∀ x : List S42, x ≠ [] → addAlt (D ++ x) = D ++ addAlt x ∧ addAlt x ≠ [] := fun x hx => ⟨onLast_front _ D hx, onLast_ne _ hx⟩
  unfold takeP
  by_cases c0 : st = 0
  · rw [if_pos c0, if_pos c0]
    by_cases k3 : t.f0 = 3
    · rw [if_pos k3, if_pos k3]
      exact ⟨rfl, fun q hq => by obtain rfl := Option.some.inj hq; exact ⟨by dsimp only; omega, fun h => absurd h (by dsimp only; omega)⟩⟩
    · rw [if_neg k3, if_neg k3]
      by_cases k0 : t.f0 = 0
      · rw [if_pos k0, if_pos k0]
        refine ⟨by rw [List.append_assoc]; rfl, fun q hq => by obtain rfl := Option.some.inj hq; exact ⟨by dsimp only; omega, fun _ => by simp⟩⟩
      · rw [if_neg k0, if_neg k0]
        exact ⟨rfl, fun q hq => by cases hq⟩
  rw [if_neg c0, if_neg c0]
  by_cases c1 : st = 1
  · rw [if_pos c1, if_pos c1]
    by_cases k0 : t.f0 = 0
    · rw [if_pos k0, if_pos k0]
      refine ⟨by rw [List.append_assoc]; rfl, fun q hq => by obtain rfl := Option.some.inj hq; exact ⟨by dsimp only; omega, fun h => absurd h (by dsimp only; omega)⟩⟩
    · rw [if_neg k0, if_neg k0]
      exact ⟨rfl, fun q hq => by cases hq⟩
  rw [if_neg c1, if_neg c1]
  by_cases c2 : st = 2
  · rw [if_pos c2, if_pos c2]
    by_cases k0 : t.f0 = 8
    · rw [if_pos k0, if_pos k0]
      exact ⟨rfl, fun q hq => by obtain rfl := Option.some.inj hq; exact ⟨by dsimp only; omega, fun h => absurd h (by dsimp only; omega)⟩⟩
    · rw [if_neg k0, if_neg k0]
      exact ⟨rfl, fun q hq => by cases hq⟩
  rw [if_neg c2, if_neg c2]
  have hne := h (by omega)
  by_cases c3 : st = 3
  · rw [if_pos c3, if_pos c3]
    by_cases k0 : t.f0 = 4
    · rw [if_pos k0, if_pos k0]
      exact ⟨rfl, fun q hq => by obtain rfl := Option.some.inj hq; exact ⟨by dsimp only; omega, fun _ => hne⟩⟩
    · rw [if_neg k0, if_neg k0]
      exact ⟨rfl, fun q hq => by cases hq⟩
  rw [if_neg c3, if_neg c3]
  by_cases c4 : st = 4
  · rw [if_pos c4, if_pos c4]
    by_cases k7 : t.f0 = 7
    · rw [if_pos k7, if_pos k7, (hC true d hne).1]
      exact ⟨rfl, fun q hq => by obtain rfl := Option.some.inj hq; exact ⟨by dsimp only; omega, fun _ => (hC true d hne).2⟩⟩
    · rw [if_neg k7, if_neg k7]
      by_cases ki : isItemB t.f0 = true
      · rw [if_pos ki, if_pos ki, (hC false d hne).1, (hI _ (hC false d hne).2).1]
        exact ⟨rfl, fun q hq => by obtain rfl := Option.some.inj hq; exact ⟨by dsimp only; omega, fun _ => (hI _ (hC false d hne).2).2⟩⟩
      · rw [if_neg ki, if_neg ki]
        exact ⟨rfl, fun q hq => by cases hq⟩
  rw [if_neg c4, if_neg c4]
  by_cases c5 : st = 5
  · rw [if_pos c5, if_pos c5]
    by_cases ki : isItemB t.f0 = true
    · rw [if_pos ki, if_pos ki, (hI _ hne).1]
      exact ⟨rfl, fun q hq => by obtain rfl := Option.some.inj hq; exact ⟨by dsimp only; omega, fun _ => (hI _ hne).2⟩⟩
    · rw [if_neg ki, if_neg ki]
      exact ⟨rfl, fun q hq => by cases hq⟩
  rw [if_neg c5, if_neg c5]
  by_cases k5 : t.f0 = 5
  · rw [if_pos k5, if_pos k5, (hA _ hne).1]
    exact ⟨rfl, fun q hq => by obtain rfl := Option.some.inj hq; exact ⟨by dsimp only; omega, fun _ => (hA _ hne).2⟩⟩
  rw [if_neg k5, if_neg k5]
  by_cases k6 : t.f0 = 6
  · rw [if_pos k6, if_pos k6]
    exact ⟨rfl, fun q hq => by obtain rfl := Option.some.inj hq; exact ⟨by dsimp only; omega, fun _ => hne⟩⟩
  rw [if_neg k6, if_neg k6]
  by_cases k8 : t.f0 = 8
  · rw [if_pos k8, if_pos k8]
    exact ⟨rfl, fun q hq => by obtain rfl := Option.some.inj hq; exact ⟨by dsimp only; omega, fun h => absurd h (by dsimp only; omega)⟩⟩
  rw [if_neg k8, if_neg k8]
  by_cases ki : isItemB t.f0 = true
  · rw [if_pos ki, if_pos ki, (hI _ hne).1]
    exact ⟨rfl, fun q hq => by obtain rfl := Option.some.inj hq; exact ⟨by dsimp only; omega, fun _ => (hI _ hne).2⟩⟩
  · rw [if_neg ki, if_neg ki]
    exact ⟨rfl, fun q hq => by cases hq⟩
theorem runP_front (S : List ByteArray) (D : List S42) : ∀ (ts : List S60) (st : Int) (s : List ByteArray) (d : List S42), 0 ≤ st → (3 ≤ st → d ≠ []) →
    runP ts st (S ++ s) (D ++ d) = match runP ts st s d with | .inl q => .inl (q.1, S ++ q.2.1, D ++ q.2.2) | .inr e => .inr e
  | [], st, s, d, _, _ => rfl
  | t :: ts, st, s, d, h0, h => by
    obtain ⟨e1, e2⟩ := takeP_front S D st s d t h0 h
    rw [runP_cons, runP_cons, e1]
    cases hq : takeP st s d t with
    | none => rfl
    | some q =>
      obtain ⟨g1, g2⟩ := e2 q hq
      exact runP_front S D ts q.1 q.2.1 q.2.2 g1 g2
/-- How large what is declared may be. -/
theorem runP_shape : ∀ (ts : List S60) (n : Nat) (st : Int) (s : List ByteArray) (d : List S42) (q : Int × List ByteArray × List S42), Shp n st s d → runP ts st s d = .inl q → Shp (n + ts.length) q.1 q.2.1 q.2.2
  | [], n, st, s, d, q, h, e => by
    obtain rfl := Sum.inl.inj e
    exact h
  | t :: ts, n, st, s, d, q, h, e => by
    rw [runP_cons] at e
    cases hq : takeP st s d t with
    | none => rw [hq] at e; cases e
    | some r =>
      rw [hq] at e
      have := runP_shape ts (n + 1) r.1 r.2.1 r.2.2 q (takeP_shape h hq) e
      rwa [Nat.add_assoc, Nat.add_comm 1] at this
theorem shp0 : Shp 0 0 [] [] := ⟨by omega, by simp, by simp, by simp, by simp, by simp, fun h => absurd h (by omega)⟩
end Go.Proofs.Ytmpilejhnolafaa.PPJ
