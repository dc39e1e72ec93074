/- The program's lexer answers the plain tokens. -/
import Derived.Test.YtmpilejhnolafaaL2Lex
namespace Go.Proofs.Ytmpilejhnolafaa.PPJ
open Go.RowKit Go.Proofs.YtmpilejhnolafaaW.PrintWords Go.Proofs.YtmpilejhnolafaaW.PrintLast
set_option linter.unusedVariables false
set_option linter.unusedSimpArgs false
abbrev Tok := S60
theorem start_iff (s : ByteArray) : s.toList = [115, 116, 97, 114, 116] ↔ s = ⟨#[115, 116, 97, 114, 116]⟩ := by
  rw [← toList_inj, show (⟨#[115, 116, 97, 114, 116]⟩ : ByteArray).toList = [115, 116, 97, 114, 116] from by rw [ByteArray.toList_eq]]
theorem sign_range (c : Int) : signI c = -1 ∨ 0 ≤ signI c ∧ signI c ≤ 4 := by
  unfold signI
  repeat' split
  all_goals omega
theorem tok_ev (s : ByteArray) (hs : s.size ≤ 70000) (p : Nat) (hp : p < s.size) :
    match tokL ((bl s).drop p) with
    | .inl x => ∃ P : Int × ByteArray × Int × Int × Int, Ev (fun k => lex_scanner_payload.f k s (p : Int)) (P.1, P.2.1, P.2.2.1, P.2.2.2.1, P.2.2.2.2, true, s, at_ s x.2.2.2.2) ∧ 0 ≤ P.2.2.2.2 ∧
        lex_filled.f P.2.2.2.2 (p : Int) ⟨#[]⟩ 0 0 P.1 P.2.1 P.2.2.1 P.2.2.2.1 = some (x.1, (p : Int), x.2.1, x.2.2.1, x.2.2.2.1)
    | .inr e => ∃ (a : Int) (b : ByteArray) (c d kind : Int) (is : Bool) (s' : ByteArray) (q : Int), Ev (fun k => lex_scanner_payload.f k s (p : Int)) (a, b, c, d, kind, is, s', q) ∧ (e = 200 ∧ kind < 0 ∨ e = 201 ∧ 0 ≤ kind ∧ is = false) := by
  have pk0 := peek_eq s p 0 hs (by omega) (by omega)
  have hr := bt_range s (p : Int)
  have hix := idx_sign (bt s (p : Int)) hr.1 hr.2
  have pk : lex_scanner_peek.f s (p : Int) 0 = some (bt s (p : Int), s, (p : Int)) := by
    rw [show p + 0 = p from rfl, bl_cons s p hp] at pk0
    exact pk0
  have ix : strings_IndexByte.f ⟨#[61, 124, 38, 126, 59]⟩ (bt s (p : Int)) = some (signI (bt s (p : Int))) := by rw [IndexByte_eq, hix]
  rw [bl_cons s p hp]
  dsimp only [tokL]
  by_cases h0 : 0 ≤ signI (bt s (p : Int))
  · rw [if_pos h0]
    dsimp only
    have hs4 := sign_range (bt s (p : Int))
    refine ⟨(0, ⟨#[]⟩, 0, 0, 4 + signI (bt s (p : Int))), Ev.congr (f := fun _ => some (0, ⟨#[]⟩, 0, 0, 4 + signI (bt s (p : Int)), true, s, at_ s ((bl s).drop (p + 1)))) (fun k => ?_) (Ev.now _), by dsimp only; omega, ?_⟩
    · unfold lex_scanner_payload.f
      refine st_bind pk (st_bind ix (st_pos h0 ?_))
      dsimp only
      rw [at_drop s (p + 1) (by omega), wrap_ok _ (by omega) (by omega), wrap_ok _ (by omega) (by omega)]
      rfl
    · dsimp only
      unfold lex_filled.f
      exact st_neg (by omega) (st_neg (by decide) (st_pos rfl (st_neg (by omega) rfl)))
  rw [if_neg h0]
  by_cases h1 : bt s (p : Int) = 34
  · rw [if_pos h1]
    have ht := text_ev s hs p hp
    cases hx : txtL ((bl s).drop (p + 1)) with
    | none =>
      rw [hx] at ht
      obtain ⟨q, K, e⟩ := ht
      refine ⟨0, ⟨#[]⟩, 0, 0, 1, false, s, q, ⟨K, fun k hk => ?_⟩, .inr ⟨rfl, by omega, rfl⟩⟩
      have e1 := e k hk
      dsimp only at e1 ⊢
      unfold lex_scanner_payload.f
      exact st_bind pk (st_bind ix (st_neg h0 (st_pos h1 (st_bind e1 rfl))))
    | some x =>
      rw [hx] at ht
      dsimp only at ht ⊢
      obtain ⟨K, e⟩ := ht
      refine ⟨(1, strOfNums x.1, 0, 0, 1), ⟨K, fun k hk => ?_⟩, by dsimp only; omega, ?_⟩
      · have e1 := e k hk
        dsimp only at e1 ⊢
        unfold lex_scanner_payload.f
        exact st_bind pk (st_bind ix (st_neg h0 (st_pos h1 (st_bind e1 rfl))))
      · dsimp only
        unfold lex_filled.f
        exact st_neg (by decide) (st_pos rfl (st_neg (fun q => absurd q.1 (by decide)) rfl))
  rw [if_neg h1]
  by_cases h2 : bt s (p : Int) = 39
  · rw [if_pos h2, ← bl_cons s p hp]
    have ht := ends_ev s hs p (by omega)
    cases hx : rngL ((bl s).drop p) with
    | none =>
      rw [hx] at ht
      obtain ⟨a, b, q, K, e⟩ := ht
      refine ⟨2, ⟨#[]⟩, a, b, 2, false, s, q, ⟨K, fun k hk => ?_⟩, .inr ⟨rfl, by omega, rfl⟩⟩
      have e1 := e k hk
      dsimp only at e1 ⊢
      unfold lex_scanner_payload.f
      exact st_bind pk (st_bind ix (st_neg h0 (st_neg h1 (st_pos h2 (st_bind e1 rfl)))))
    | some x =>
      rw [hx] at ht
      dsimp only at ht ⊢
      obtain ⟨K, e⟩ := ht
      refine ⟨(2, ⟨#[]⟩, x.1, x.2.1, 2), ⟨K, fun k hk => ?_⟩, by dsimp only; omega, ?_⟩
      · have e1 := e k hk
        dsimp only at e1 ⊢
        unfold lex_scanner_payload.f
        exact st_bind pk (st_bind ix (st_neg h0 (st_neg h1 (st_pos h2 (st_bind e1 rfl)))))
      · rfl
  rw [if_neg h2]
  cases hl : letterI (bt s (p : Int)) with
  | false =>
    rw [if_neg (by simp)]
    dsimp only
    refine ⟨0, ⟨#[]⟩, 0, 0, -1, false, s, (p : Int), Ev.congr (f := fun _ => some (0, ⟨#[]⟩, 0, 0, -1, false, s, (p : Int))) (fun k => ?_) (Ev.now _), .inl ⟨rfl, by omega⟩⟩
    unfold lex_scanner_payload.f
    exact st_bind pk (st_bind ix (st_neg h0 (st_neg h1 (st_neg h2 (st_bind ((letter_eq _).trans (by rw [hl])) (st_neg (by simp) rfl))))))
  | true =>
    rw [if_pos rfl, ← bl_cons s p hp]
    have hn := name_ev s hs p (by omega)
    generalize ((bl s).drop p).takeWhile moreI = m at *
    generalize ((bl s).drop p).dropWhile moreI = r at *
    obtain ⟨K, e⟩ := hn
    have go : ∀ b : Bool, decide (m.length ≤ 32) = b → Ev (fun k => lex_scanner_payload.f k s (p : Int)) (1, strOfNums m, 0, 0, 0, b, s, at_ s r) := by
      rintro b rfl
      refine ⟨K, fun k hk => ?_⟩
      have e1 := e k hk
      dsimp only at e1 ⊢
      unfold lex_scanner_payload.f
      exact st_bind pk (st_bind ix (st_neg h0 (st_neg h1 (st_neg h2 (st_bind ((letter_eq _).trans (by rw [hl])) (st_pos rfl (st_bind e1 rfl)))))))
    by_cases h32 : 32 < m.length
    · rw [if_pos h32]
      exact ⟨1, strOfNums m, 0, 0, 0, false, s, at_ s r, go false (decide_eq_false (by omega)), .inr ⟨rfl, by omega, rfl⟩⟩
    · rw [if_neg h32]
      by_cases hst : strOfNums m = ⟨#[115, 116, 97, 114, 116]⟩
      · rw [if_pos hst]
        refine ⟨(1, strOfNums m, 0, 0, 0), go true (decide_eq_true (by omega)), by dsimp only; omega, ?_⟩
        dsimp only
        unfold lex_filled.f
        exact st_neg (by decide) (st_pos rfl (st_pos ⟨rfl, (start_iff _).2 hst⟩ rfl))
      · rw [if_neg hst]
        refine ⟨(1, strOfNums m, 0, 0, 0), go true (decide_eq_true (by omega)), by dsimp only; omega, ?_⟩
        dsimp only
        unfold lex_filled.f
        exact st_neg (by decide) (st_pos rfl (st_neg (fun q => hst ((start_iff _).1 q.2)) rfl))
def toTok (x : Int × Int × ByteArray × Int × Int) : Tok := ⟨x.1, x.2.1, x.2.2.1, x.2.2.2.1, x.2.2.2.2⟩
/-- What the lexer answers. -/
def lexR : List (Int × Int × ByteArray × Int × Int) ⊕ (Int × Int) → List Tok × Int × Int
  | .inl ts => (ts.map toTok, 0, 0)
  | .inr e => ([], e.1, e.2)
def lexB (s : ByteArray) : List Tok × Int × Int := if 65536 < s.size then ([], 0, 201) else lexR (lexL s.size (bl s))
def lexA (acc : List Tok) : List (Int × Int × ByteArray × Int × Int) ⊕ (Int × Int) → List Tok × Int × Int
  | .inl ts => (acc ++ ts.map toTok, 0, 0)
  | .inr e => ([], e.1, e.2)
theorem lexL_end {n : Nat} {l : BL} (h : skipL l = []) : lexL n l = .inl [] := by rw [lexL, if_pos h]
theorem lexL_bad {n : Nat} {l : BL} {e : Int} (h : skipL l ≠ []) (ht : tokL (skipL l) = .inr e) : lexL n l = .inr ((n : Int) - ((skipL l).length : Int), e) := by
  rw [lexL, if_neg h]
  split
  · rename_i e' he
    rw [ht] at he
    obtain rfl := Sum.inr.inj he
    rfl
  · rename_i x hx
    rw [ht] at hx
    cases hx
theorem lexL_tok {n : Nat} {l : BL} {x : Int × ByteArray × Int × Int × BL} (h : skipL l ≠ []) (ht : tokL (skipL l) = .inl x) :
    lexL n l = (match lexL n x.2.2.2.2 with | .inr e => .inr e | .inl ts => .inl ((x.1, (n : Int) - ((skipL l).length : Int), x.2.1, x.2.2.1, x.2.2.2.1) :: ts)) := by
  rw [lexL, if_neg h]
  split
  · rename_i e' he
    rw [ht] at he
    cases he
  · rename_i y hy
    rw [ht] at hy
    obtain rfl := Sum.inl.inj hy
    rfl
theorem lex_l0 (s : ByteArray) (hs : s.size ≤ 65536) : ∀ (n : Nat) (l : BL) (acc : List Tok), l <:+ bl s → l.length ≤ n → acc.length + l.length ≤ 70000 →
    Ev (fun k => lex_Lex.l0 k s acc s (at_ s (skipL l))) (lexA acc (lexL s.size l)) := by
  intro n
  induction n with
  | zero =>
    intro l acc hl hn ha
    obtain rfl : l = [] := List.length_eq_zero_iff.1 (by omega)
    have h0 : skipL [] = [] := by rw [skipL]
    rw [lexL_end h0, h0]
    refine Ev.step (f := fun _ => some (acc, 0, 0)) (fun k => ?_) ?_
    · simp only [lex_Lex.l0]
      exact st_neg (by unfold at_; simp) rfl
    · dsimp only [lexA]
      rw [List.map_nil, List.append_nil]
      exact Ev.now _
  | succ n ih =>
    intro l acc hl hn ha
    by_cases h0 : skipL l = []
    · rw [lexL_end h0, h0]
      refine Ev.step (f := fun _ => some (acc, 0, 0)) (fun k => ?_) ?_
      · simp only [lex_Lex.l0]
        exact st_neg (by unfold at_; simp) rfl
      · dsimp only [lexA]
        rw [List.map_nil, List.append_nil]
        exact Ev.now _
    · have hsk := (skipL_suf l.length l (Nat.le_refl _)).trans hl
      have hle := skipL_le l.length l (Nat.le_refl _)
      obtain ⟨d1, d2, d3, d4⟩ := suf_drop hsk
      have hlen : 0 < (skipL l).length := List.length_pos_iff.2 h0
      have hp : ps s (skipL l) < s.size := by omega
      have ht := tok_ev s (by omega) (ps s (skipL l)) hp
      rw [← d1] at ht
      have hat : (s.size : Int) - ((skipL l).length : Int) = (ps s (skipL l) : Int) := by omega
      cases hx : tokL (skipL l) with
      | inr e =>
        rw [hx] at ht
        obtain ⟨a, b, c, d, kind, is, s', q, ⟨K, hv⟩, hc⟩ := ht
        rw [lexL_bad h0 hx, d3, hat]
        refine ⟨K + 1, fun k hk => ?_⟩
        obtain ⟨k, rfl⟩ : ∃ j, k = j + 1 := ⟨k - 1, by omega⟩
        have e1 := hv k (by omega)
        dsimp only [lexA] at e1 ⊢
        simp only [lex_Lex.l0]
        refine st_pos (by omega) (st_bind e1 ?_)
        rcases hc with ⟨rfl, hk2⟩ | ⟨rfl, hk2, rfl⟩
        · exact st_pos hk2 rfl
        · exact st_neg (by dsimp only; omega) (st_neg (by simp) rfl)
      | inl x =>
        rw [hx] at ht
        dsimp only at ht
        obtain ⟨P, ⟨K, hv⟩, hk0, hf⟩ := ht
        have hlt := tokL_lt (k := x.1) (t := x.2.1) (lo := x.2.2.1) (hi := x.2.2.2.1) (r := x.2.2.2.2) hx
        have hsf := (tokL_suf (k := x.1) (t := x.2.1) (lo := x.2.2.1) (hi := x.2.2.2.1) (r := x.2.2.2.2) hx).trans hsk
        obtain ⟨f1, f2, f3, f4⟩ := suf_drop hsf
        obtain ⟨K2, e2⟩ := skip_l0 s (by omega) s.size (ps s x.2.2.2.2) (by omega) f2
        rw [← f1] at e2
        obtain ⟨K3, e3⟩ := ih x.2.2.2.2 (acc ++ [⟨x.1, (ps s (skipL l) : Int), x.2.1, x.2.2.1, x.2.2.2.1⟩]) hsf (by omega) (by simp; omega)
        rw [lexL_tok h0 hx, d3, hat]
        refine ⟨K + K2 + K3 + 1, fun k hk => ?_⟩
        obtain ⟨k, rfl⟩ : ∃ j, k = j + 1 := ⟨k - 1, by omega⟩
        have g1 := hv k (by omega)
        have g2 := e2 k (by omega)
        have g3 := e3 k (by omega)
        dsimp only at g1 g2 g3 ⊢
        simp only [lex_Lex.l0]
        refine st_pos (by omega) (st_bind g1 (st_neg (by dsimp only; omega) (st_pos rfl (st_bind hf (st_pos (by omega) (st_bind (a := (s, at_ s (skipL x.2.2.2.2))) (by unfold lex_scanner_skip.f; dsimp only; rw [f3]; exact g2) ?_))))))
        refine g3.trans ?_
        cases lexL s.size x.2.2.2.2 with
        | inl ts =>
          dsimp only [lexA]
          rw [List.map_cons, List.append_assoc]
          rfl
        | inr e => rfl
theorem lex_ev (s : ByteArray) : Ev (fun k => lex_Lex.f k s) (lexB s) := by
  unfold lexB
  by_cases h : 65536 < s.size
  · rw [if_pos h]
    refine Ev.congr (f := fun _ => some ([], 0, 201)) (fun k => ?_) (Ev.now _)
    unfold lex_Lex.f
    exact st_pos (by omega) rfl
  · rw [if_neg h]
    obtain ⟨K, e⟩ := skip_l0 s (by omega) s.size 0 (by omega) (by omega)
    rw [List.drop_zero] at e
    obtain ⟨K2, e2⟩ := lex_l0 s (by omega) s.size (bl s) [] (List.suffix_refl _) (by rw [bl_length]; exact Nat.le_refl _) (by rw [bl_length]; simp; omega)
    refine ⟨K + K2, fun k hk => ?_⟩
    have g1 := e k (by omega)
    have g2 := e2 k (by omega)
    dsimp only at g1 g2 ⊢
    unfold lex_Lex.f
    refine st_neg (by omega) (st_bind (a := (s, at_ s (skipL (bl s)))) (by unfold lex_scanner_skip.f; exact g1) ?_)
    refine g2.trans ?_
    cases lexL s.size (bl s) with
    | inl ts => rfl
    | inr e => rfl
end Go.Proofs.Ytmpilejhnolafaa.PPJ
