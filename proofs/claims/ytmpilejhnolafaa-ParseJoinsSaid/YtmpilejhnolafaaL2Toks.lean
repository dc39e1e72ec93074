/- The lexer's tokens against the plain ones: texts, ends, ranges, names, what stands between. -/
import Derived.Test.YtmpilejhnolafaaLexSuf
import Derived.Test.YtmpilejhnolafaaL2Base
import Derived.Test.YtmpilejhnolafaaPPJx2
import Derived.Test.YtmpilejhnolafaaPPJx2
import Derived.Test.YtmpilejhnolafaaPPJx3
import Derived.Test.YtmpilejhnolafaaPPJx3
import Derived.Test.YtmpilejhnolafaaPPJx2
namespace Go.Proofs.Ytmpilejhnolafaa.PPJ
open Go.RowKit Go.Proofs.YtmpilejhnolafaaW.PrintWords Go.Proofs.YtmpilejhnolafaaW.PrintLast
set_option linter.unusedVariables false
set_option linter.unusedSimpArgs false
/-- Where an end of a text begins. -/
def ps (s : ByteArray) (r : BL) : Nat := s.size - r.length
theorem suf_drop {s : ByteArray} {r : BL} (h : r <:+ bl s) : r = (bl s).drop (ps s r) ∧ ps s r ≤ s.size ∧ at_ s r = (ps s r : Int) ∧ r.length = s.size - ps s r := by
  obtain ⟨t, ht⟩ := h
  have hl : t.length + r.length = s.size := by rw [← List.length_append, ht, bl_length]
  have e : ps s r = t.length := by unfold ps; omega
  refine ⟨?_, by omega, ?_, by omega⟩
  · rw [e, ← ht, List.drop_left]
  · unfold at_
    omega
theorem drop_suf (s : ByteArray) (p : Nat) : (bl s).drop p <:+ bl s := List.drop_suffix p (bl s)
theorem head_eq (s : ByteArray) (p : Nat) (c : Int) (hc : c ≠ 0) : (((bl s).drop p).headD 0 = c) ↔ ((bl s).drop p).head? = some c := by
  by_cases h : p < s.size
  · rw [bl_cons s p h]
    simp
  · rw [bl_nil s p (by omega)]
    simp
    exact fun e => hc e.symm
theorem head_lt {s : ByteArray} {p : Nat} {c : Int} (h : ((bl s).drop p).head? = some c) : p < s.size ∧ bt s (p : Int) = c ∧ ((bl s).drop p).tail = (bl s).drop (p + 1) := by
  by_cases h1 : p < s.size
  · rw [bl_cons s p h1] at h ⊢
    exact ⟨h1, by simpa using h, rfl⟩
  · rw [bl_nil s p (by omega)] at h
    simp at h
theorem text_l0 (s : ByteArray) (hs : s.size ≤ 70000) : ∀ (n p : Nat) (acc : List Int), s.size - p ≤ n → p ≤ s.size → acc.length + (s.size - p) ≤ 100000 →
    match txtL ((bl s).drop p) with
    | some x => Ev (fun k => lex_scanner_text.l0 k acc s (p : Int)) (strOfNums (acc ++ x.1), true, s, at_ s x.2)
    | none => ∃ q, Ev (fun k => lex_scanner_text.l0 k acc s (p : Int)) (⟨#[]⟩, false, s, q) := by
  intro n
  induction n with
  | zero =>
    intro p acc hn hp ha
    obtain rfl : p = s.size := by omega
    have pk0 := peek_eq s s.size 0 hs (by omega) (by omega)
    have hx : txtL ((bl s).drop s.size) = none := by
      rw [bl_nil s _ (Nat.le_refl _), txtL]
      simp [chrL]
    rw [hx]
    dsimp only
    have hc := char_ev s s.size hs (by omega) 34
    rw [bl_nil s _ (Nat.le_refl _)] at hc
    rw [bl_nil s (s.size + 0) (Nat.le_refl _)] at pk0
    dsimp only [chrL, oneR] at hc
    obtain ⟨K, e⟩ := hc
    refine ⟨(s.size : Int), K + 1, fun k hk => ?_⟩
    obtain ⟨k, rfl⟩ : ∃ j, k = j + 1 := ⟨k - 1, by omega⟩
    have e1 := e k (by omega)
    dsimp only at e1 ⊢
    simp only [lex_scanner_text.l0]
    exact st_bind pk0 (st_neg (show ¬ (0 : Int) = 34 by decide) (st_bind e1 (st_neg (by simp) rfl)))
  | succ n ih =>
    intro p acc hn hp ha
    have pk0 := peek_eq s p 0 hs hp (by omega)
    by_cases h34 : ((bl s).drop p).head? = some 34
    · rw [txtL_end h34]
      dsimp only
      obtain ⟨g1, g2, g3⟩ := head_lt h34
      refine Ev.step (f := fun _ => some (strOfNums (acc ++ []), true, s, at_ s ((bl s).drop p).tail)) (fun k => ?_) (Ev.now _)
      simp only [lex_scanner_text.l0]
      refine st_bind pk0 (st_pos ((head_eq s p 34 (by decide)).2 h34) ?_)
      dsimp only
      rw [g3, at_drop s (p + 1) (by omega), List.append_nil, wrap_ok _ (by omega) (by omega)]
      rfl
    · have hne : ¬ ((bl s).drop (p + 0)).headD 0 = 34 := fun e => h34 ((head_eq s p 34 (by decide)).1 e)
      obtain ⟨K, e⟩ := char_ev s p hs hp 34
      cases hc : chrL 34 ((bl s).drop p) with
      | none =>
        rw [hc] at e
        rw [txtL_none h34 hc]
        dsimp only
        refine ⟨(p : Int), K + 1, fun k hk => ?_⟩
        obtain ⟨k, rfl⟩ : ∃ j, k = j + 1 := ⟨k - 1, by omega⟩
        have e1 := e k (by omega)
        dsimp only [oneR] at e1 ⊢
        simp only [lex_scanner_text.l0]
        exact st_bind pk0 (st_neg hne (st_bind e1 (st_neg (by simp) rfl)))
      | some x =>
        rw [hc] at e
        have hlt := chrL_lt (c := x.1) (r := x.2) hc
        have hsf := (chrL_suf (c := x.1) (r := x.2) hc).trans (drop_suf s p)
        obtain ⟨d1, d2, d3, d4⟩ := suf_drop hsf
        rw [bl_len] at hlt
        have := ih (ps s x.2) (acc ++ [x.1]) (by omega) d2 (by simp; omega)
        rw [← d1] at this
        have go : ∀ R, Ev (fun k => lex_scanner_text.l0 k (acc ++ [x.1]) s (ps s x.2 : Int)) R → Ev (fun k => lex_scanner_text.l0 k acc s (p : Int)) R := by
          rintro R ⟨K2, e2⟩
          refine ⟨K + K2 + 1, fun k hk => ?_⟩
          obtain ⟨k, rfl⟩ : ∃ j, k = j + 1 := ⟨k - 1, by omega⟩
          have e1 := e k (by omega)
          have e3 := e2 k (by omega)
          dsimp only [oneR] at e1 e3 ⊢
          simp only [lex_scanner_text.l0]
          refine st_bind pk0 (st_neg hne (st_bind e1 (st_pos rfl (st_pos (by omega) ?_))))
          dsimp only
          rw [d3]
          exact e3
        rw [txtL_some h34 hc]
        cases ht : txtL x.2 with
        | none =>
          rw [ht] at this
          obtain ⟨q, hq⟩ := this
          exact ⟨q, go _ hq⟩
        | some y =>
          rw [ht] at this
          dsimp only [Option.map_some] at this ⊢
          have := go _ this
          rw [List.append_assoc] at this
          exact this
end Go.Proofs.Ytmpilejhnolafaa.PPJ
