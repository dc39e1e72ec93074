/- The document's lexer against the plain tokens: ranges, names, the whole. -/
import Derived.Test.YtjjccngjcamgjaaL2Ref2
import Derived.Test.YtjjccngjcamgjaaL2Lex2
import Derived.Test.YtjjccngjcamgjaaPLAx6
import Derived.Test.YtjjccngjcamgjaaPLAx4
import Derived.Test.YtjjccngjcamgjaaPLAx6
import Derived.Test.YtjjccngjcamgjaaPLAx7
namespace Go.Proofs.Ytjjccngjcamgjaa.PLA
open Go.RowKit Go.Proofs.YtjjccngjcamgjaaW.PrintWords Go.Proofs.YtjjccngjcamgjaaW.PrintLast
set_option linter.unusedVariables false
set_option linter.unusedSimpArgs false
theorem rquoted_ev (s : ByteArray) (hs : s.size ≤ 70000) (p : Nat) (hp : p < s.size) :
    Ev (fun k => templeref1_quoted.f k s (p : Int)) (match txtL ((bl s).drop (p + 1)) with | some x => (1, (p : Int), strOfNums x.1, 0, 0, at_ s x.2) | none => noTok) := by
  have h := quoted_l0 s hs (p : Int) s.size (p + 1) [] (by omega) (by omega) (by simp; omega)
  refine Ev.congr (fun k => ?_) h
  unfold templeref1_quoted.f
  have w : wrap64 ((p : Int) + 1) = ((p + 1 : Nat) : Int) := wnat p 1 (by omega) (by omega)
  rw [w]
theorem ranged_ev (s : ByteArray) (hs : s.size ≤ 70000) (p : Nat) (hp : p < s.size) :
    Ev (fun k => templeref1_ranged.f k s (p : Int)) (match rngL ((bl s).drop p) with | some x => (2, (p : Int), ⟨#[]⟩, x.1, x.2.1, at_ s x.2.2) | none => noTok) := by
  obtain ⟨K, e⟩ := one_ev s hs p (by omega)
  unfold rngL
  cases he : endL ((bl s).drop p) with
  | none =>
    rw [he] at e
    refine ⟨K, fun k hk => ?_⟩
    have e1 := e k hk
    dsimp only [oneE] at e1 ⊢
    unfold templeref1_ranged.f
    exact st_bind e1 (st_pos (by decide) rfl)
  | some x =>
    rw [he] at e
    have hsf := (endL_suf (c := x.1) (r := x.2) he).trans (drop_suf s p)
    obtain ⟨d1, d2, d3, d4⟩ := suf_drop hsf
    dsimp only [oneE] at e ⊢
    rw [d3] at e
    have w1 : wrap64 ((ps s x.2 : Int) + 1) = ((ps s x.2 + 1 : Nat) : Int) := wnat _ 1 (by omega) (by omega)
    have w2 : wrap64 ((ps s x.2 : Int) + 2) = ((ps s x.2 + 1 + 1 : Nat) : Int) := wnat _ 2 (by omega) (by omega)
    have no : ∀ R, R = some ((2, (p : Int), (⟨#[]⟩ : ByteArray), x.1, x.1, at_ s x.2) : Int × Int × ByteArray × Int × Int × Int) → ∀ k, templeref1_ranged.j0 (k + 1) s (p : Int) x.1 (ps s x.2 : Int) false = R := by
      rintro R rfl k
      simp only [templeref1_ranged.j0]
      refine st_neg (by simp) ?_
      rw [d3]
    have fin : templeref1_ranged.f = templeref1_ranged.f := rfl
    by_cases h46 : x.2.head? = some 46
    · have h46' := h46
      rw [d1] at h46'
      obtain ⟨f1, f2, f3⟩ := head_lt h46'
      have ht : x.2.tail = (bl s).drop (ps s x.2 + 1) := by rw [← f3, ← d1]
      by_cases h46b : x.2.tail.head? = some 46
      · rw [if_pos ⟨h46, h46b⟩]
        have h46b' := h46b
        rw [ht] at h46b'
        obtain ⟨k1, k2, k3⟩ := head_lt h46b'
        obtain ⟨K2, e2⟩ := one_ev s hs (ps s x.2 + 1 + 1) (by omega)
        rw [ht, k3]
        have top : ∀ k, (templeref1_one.f k s (p : Int) = some (x.1, (ps s x.2 : Int))) → ∀ R, templeref1_ranged.j0 k s (p : Int) x.1 (ps s x.2 : Int) true = R → templeref1_ranged.f k s (p : Int) = R := by
          intro k e1 R hR
          unfold templeref1_ranged.f
          refine st_bind e1 (st_neg (by dsimp only; omega) (st_pos (by dsimp only; rw [w1]; omega) (st_pos (by dsimp only; omega) (st_pos (by dsimp only; omega) (st_pos f2 (st_pos (by dsimp only; rw [w1]; omega) ?_))))))
          dsimp only
          rw [w1, k2]
          exact hR
        cases h3 : endL ((bl s).drop (ps s x.2 + 1 + 1)) with
        | none =>
          rw [h3] at e2
          refine ⟨K + K2 + 1, fun k hk => ?_⟩
          obtain ⟨k, rfl⟩ : ∃ j, k = j + 1 := ⟨k - 1, by omega⟩
          have e1 := e (k + 1) (by omega)
          have e3 := e2 k (by omega)
          dsimp only [oneE, Option.map_none] at e1 e3 ⊢
          refine top _ e1 _ ?_
          simp only [templeref1_ranged.j0]
          exact st_pos trivial (st_bind (by rw [w2]; exact e3) (st_pos (by decide) rfl))
        | some y =>
          rw [h3] at e2
          have hsf2 := (endL_suf (c := y.1) (r := y.2) h3).trans (drop_suf s _)
          obtain ⟨g1, g2, g3, g4⟩ := suf_drop hsf2
          refine ⟨K + K2 + 1, fun k hk => ?_⟩
          obtain ⟨k, rfl⟩ : ∃ j, k = j + 1 := ⟨k - 1, by omega⟩
          have e1 := e (k + 1) (by omega)
          have e3 := e2 k (by omega)
          dsimp only [oneE, Option.map_some] at e1 e3 ⊢
          refine top _ e1 _ ?_
          simp only [templeref1_ranged.j0]
          exact st_pos trivial (st_bind (by rw [w2]; exact e3) (st_neg (by dsimp only; omega) rfl))
      · rw [if_neg (fun q => h46b q.2)]
        have h46b' := h46b
        rw [ht] at h46b'
        refine ⟨K + 1, fun k hk => ?_⟩
        obtain ⟨k, rfl⟩ : ∃ j, k = j + 1 := ⟨k - 1, by omega⟩
        have e1 := e (k + 1) (by omega)
        dsimp only at e1 ⊢
        unfold templeref1_ranged.f
        refine st_bind e1 (st_neg (by dsimp only; omega) ?_)
        dsimp only
        rw [w1]
        by_cases hz : ps s x.2 + 1 < s.size
        · refine st_pos (by omega) (st_pos (by omega) (st_pos (by omega) (st_pos f2 (st_pos (by omega) ?_))))
          have : (bt s ((ps s x.2 + 1 : Nat) : Int) == 46) = false := by
            rw [beq_eq_false_iff_ne]
            intro q
            apply h46b'
            rw [bl_cons s _ hz, q]
            rfl
          rw [this]
          exact no _ rfl k
        · exact st_neg (by omega) (no _ rfl k)
    · rw [if_neg (fun q => h46 q.1)]
      have h46' := h46
      rw [d1] at h46'
      refine ⟨K + 1, fun k hk => ?_⟩
      obtain ⟨k, rfl⟩ : ∃ j, k = j + 1 := ⟨k - 1, by omega⟩
      have e1 := e (k + 1) (by omega)
      dsimp only at e1 ⊢
      unfold templeref1_ranged.f
      refine st_bind e1 (st_neg (by dsimp only; omega) ?_)
      dsimp only
      rw [w1]
      by_cases hz : ps s x.2 + 1 < s.size
      · refine st_pos (by omega) (st_pos (by omega) (st_pos (by omega) (st_neg (fun q => ?_) (no _ rfl k))))
        apply h46'
        rw [bl_cons s _ (by omega), q]
        rfl
      · exact st_neg (by omega) (no _ rfl k)
/-- What the document's reader of a name answers. -/
def namR (s : ByteArray) (p : Int) (m r : BL) : Int × Int × ByteArray × Int × Int × Int :=
  if 32 < m.length then noTok else if strOfNums m = ⟨#[115, 116, 97, 114, 116]⟩ then (3, p, ⟨#[]⟩, 0, 0, at_ s r) else (0, p, strOfNums m, 0, 0, at_ s r)
theorem named_l0 (s : ByteArray) (hs : s.size ≤ 70000) (p : Nat) : ∀ (n m : Nat), s.size - (p + m) ≤ n → p + m ≤ s.size → ((bl s).drop p).takeWhile moreI = ((bl s).drop p).take m ++ ((bl s).drop (p + m)).takeWhile moreI →
    Ev (fun k => templeref1_named.l0 k s (p : Int) ((p + m : Nat) : Int)) (namR s (p : Int) (((bl s).drop p).takeWhile moreI) (((bl s).drop p).dropWhile moreI)) := by
  intro n
  have stop : ∀ m, p + m ≤ s.size → ((bl s).drop p).takeWhile moreI = ((bl s).drop p).take m → Ev (fun k => templeref1_named.j1 k s (p : Int) ((p + m : Nat) : Int)) (namR s (p : Int) (((bl s).drop p).takeWhile moreI) (((bl s).drop p).dropWhile moreI)) := by
    intro m hm ht
    have hlen : (((bl s).drop p).takeWhile moreI).length = m := by rw [ht, List.length_take, bl_len]; omega
    have hdw : ((bl s).drop p).dropWhile moreI = (bl s).drop (p + m) := by
      have h := List.takeWhile_append_dropWhile (p := moreI) (l := (bl s).drop p)
      rw [ht] at h
      have h2 := List.take_append_drop m ((bl s).drop p)
      rw [List.drop_drop] at h2
      exact List.append_cancel_left (h.trans h2.symm)
    refine Ev.step (f := fun _ => some _) (fun k => ?_) (Ev.now _)
    simp only [templeref1_named.j1]
    unfold namR
    rw [hlen, hdw, at_drop s _ hm, ht, wrap_ok _ (by omega) (by omega)]
    by_cases h32 : 32 < m
    · rw [if_pos h32]
      exact st_pos (by omega) rfl
    · rw [if_neg h32]
      refine st_neg (by omega) (st_pos (by omega) (st_pos (by omega) (st_pos (by omega) ?_)))
      rw [Int.toNat_natCast, Int.toNat_natCast, ext_str]
      by_cases hst : strOfNums (((bl s).drop p).take m) = ⟨#[115, 116, 97, 114, 116]⟩
      · rw [if_pos hst]
        exact st_pos ((start_iff _).2 hst) rfl
      · rw [if_neg hst]
        exact st_neg (fun q => hst ((start_iff _).1 q)) rfl
  induction n with
  | zero =>
    intro m hn hm ht
    rw [bl_nil s (p + m) (by omega), List.takeWhile_nil, List.append_nil] at ht
    refine Ev.step (fun k => ?_) (stop m hm ht)
    simp only [templeref1_named.l0]
    exact st_neg (by omega) rfl
  | succ n ih =>
    intro m hn hm ht
    by_cases h : p + m < s.size
    · rw [bl_cons s (p + m) h, List.takeWhile_cons] at ht
      cases hmo : moreI (bt s ((p + m : Nat) : Int)) with
      | true =>
        rw [hmo] at ht
        simp only [if_true] at ht
        have h2 := ih (m + 1) (by omega) (by omega) (by
          rw [ht]
          have : ((bl s).drop p).take (m + 1) = ((bl s).drop p).take m ++ [bt s ((p + m : Nat) : Int)] := by
            rw [List.take_succ_eq_append_getElem (by rw [bl_len]; omega)]
            congr 2
            rw [List.getElem_drop, bl_get s (p + m) h]
          rw [this, List.append_assoc]
          rfl)
        refine Ev.step (fun k => ?_) h2
        simp only [templeref1_named.l0]
        have w : wrap64 (((p + m : Nat) : Int) + 1) = ((p + (m + 1) : Nat) : Int) := wnat (p + m) 1 (by omega) (by omega)
        refine st_pos (by omega) (st_pos (by omega) (st_bind (rletter_eq _) ?_))
        have hmo' : (letterI (bt s ((p + m : Nat) : Int)) || digitI (bt s ((p + m : Nat) : Int))) = true := hmo
        rw [w]
        cases hl : letterI (bt s ((p + m : Nat) : Int)) with
        | true => exact st_pos rfl rfl
        | false =>
          rw [hl, Bool.false_or] at hmo'
          exact st_neg (by simp) (st_bind (rdigit_eq _) (st_pos hmo' rfl))
      | false =>
        rw [hmo] at ht
        simp only [Bool.false_eq_true, if_false, List.append_nil] at ht
        have hmo' : (letterI (bt s ((p + m : Nat) : Int)) || digitI (bt s ((p + m : Nat) : Int))) = false := hmo
        rw [Bool.or_eq_false_iff] at hmo'
        refine Ev.step (fun k => ?_) (stop m hm ht)
        simp only [templeref1_named.l0]
        exact st_pos (by omega) (st_pos (by omega) (st_bind (rletter_eq _) (st_neg (by rw [hmo'.1]; simp) (st_bind (rdigit_eq _) (st_neg (by rw [hmo'.2]; simp) rfl)))))
    · rw [bl_nil s (p + m) (by omega), List.takeWhile_nil, List.append_nil] at ht
      refine Ev.step (fun k => ?_) (stop m hm ht)
      simp only [templeref1_named.l0]
      exact st_neg (by omega) rfl
theorem named_ev (s : ByteArray) (hs : s.size ≤ 70000) (p : Nat) (hp : p ≤ s.size) :
    Ev (fun k => templeref1_named.f k s (p : Int)) (namR s (p : Int) (((bl s).drop p).takeWhile moreI) (((bl s).drop p).dropWhile moreI)) :=
  named_l0 s hs p s.size 0 (by omega) (by omega) (by simp)
theorem four_pos {x : Int} (h : 0 ≤ x) : 4 + x > 0 := by omega
theorem nat_not_neg (x : Nat) : ¬ (x : Int) < 0 := by omega
theorem mark_eq (c : Int) : templeref1_mark.f c = some (if 0 ≤ signI c then 4 + signI c else 0) := by
  unfold templeref1_mark.f signI
  repeat' split
  all_goals first | rfl | omega
theorem not_letter {c : Int} (h : letterI c = true) : ¬ c = 34 ∧ ¬ c = 39 ∧ signI c = -1 := by
  unfold letterI at h
  unfold signI
  simp at h
  refine ⟨by omega, by omega, ?_⟩
  repeat' split
  all_goals omega
theorem rlex_l0 (s : ByteArray) (hs : s.size ≤ 65536) : ∀ (n : Nat) (l : BL) (acc : List Tok), l <:+ bl s → l.length ≤ n → acc.length + l.length ≤ 70000 →
    Ev (fun k => templeref1_Lex.l0 k s acc (at_ s (skipL l))) (lexA acc (lexL s.size l)) := by
  intro n
  have stop : ∀ (l : BL) (acc : List Tok), skipL l = [] → Ev (fun k => templeref1_Lex.l0 k s acc (at_ s (skipL l))) (lexA acc (lexL s.size l)) := by
    intro l acc h0
    rw [lexL_end h0, h0]
    refine Ev.step (f := fun _ => some (acc, 0, 0)) (fun k => ?_) ?_
    · simp only [templeref1_Lex.l0]
      exact st_neg (by unfold at_; simp) rfl
    · dsimp only [lexA]
      rw [List.map_nil, List.append_nil]
      exact Ev.now _
  induction n with
  | zero =>
    intro l acc hl hn ha
    obtain rfl : l = [] := List.length_eq_zero_iff.1 (by omega)
    exact stop [] acc (by rw [skipL])
  | succ n ih =>
    intro l acc hl hn ha
    by_cases h0 : skipL l = []
    · exact stop l acc h0
    · have hsk := (skipL_suf l.length l (Nat.le_refl _)).trans hl
      have hle := skipL_le l.length l (Nat.le_refl _)
      obtain ⟨d1, d2, d3, d4⟩ := suf_drop hsk
      have hlen : 0 < (skipL l).length := List.length_pos_iff.2 h0
      have hp : ps s (skipL l) < s.size := by omega
      have hat : (s.size : Int) - ((skipL l).length : Int) = (ps s (skipL l) : Int) := by omega
      -- what is told of a token that is one, or of one that is none
      have good : ∀ x, tokL (skipL l) = .inl x → Ev (fun k => (templeref1_skip.f k s (at_ s x.2.2.2.2)).bind fun t => templeref1_Lex.l0 k s (acc ++ [⟨x.1, (ps s (skipL l) : Int), x.2.1, x.2.2.1, x.2.2.2.1⟩]) t) (lexA acc (lexL s.size l)) := by
        intro x hx
        have hlt := tokL_lt (k := x.1) (t := x.2.1) (lo := x.2.2.1) (hi := x.2.2.2.1) (r := x.2.2.2.2) hx
        have hsf := (tokL_suf (k := x.1) (t := x.2.1) (lo := x.2.2.1) (hi := x.2.2.2.1) (r := x.2.2.2.2) hx).trans hsk
        obtain ⟨f1, f2, f3, f4⟩ := suf_drop hsf
        obtain ⟨K2, e2⟩ := rskip_l0 s (by omega) s.size (ps s x.2.2.2.2) (by omega) f2
        rw [← f1, ← f3] at e2
        obtain ⟨K3, e3⟩ := ih x.2.2.2.2 (acc ++ [⟨x.1, (ps s (skipL l) : Int), x.2.1, x.2.2.1, x.2.2.2.1⟩]) hsf (by omega) (by simp; omega)
        rw [lexL_tok h0 hx, hat]
        refine ⟨K2 + K3, fun k hk => ?_⟩
        have g2 := e2 k (by omega)
        have g3 := e3 k (by omega)
        dsimp only at g2 g3 ⊢
        refine st_bind (a := at_ s (skipL x.2.2.2.2)) (by unfold templeref1_skip.f; exact g2) ?_
        refine g3.trans ?_
        cases lexL s.size x.2.2.2.2 with
        | inl ts =>
          dsimp only [lexA]
          rw [List.map_cons, List.append_assoc]
          rfl
        | inr e => rfl
      have atpos : ∀ x, tokL (skipL l) = .inl x → 0 ≤ at_ s x.2.2.2.2 := by
        intro x hx
        have hsf := (tokL_suf (k := x.1) (t := x.2.1) (lo := x.2.2.1) (hi := x.2.2.2.1) (r := x.2.2.2.2) hx).trans hsk
        obtain ⟨f1, f2, f3, f4⟩ := suf_drop hsf
        omega
      have bad : ∀ e, tokL (skipL l) = .inr e → lexA acc (lexL s.size l) = ([], (ps s (skipL l) : Int), e) := by
        intro e he
        rw [lexL_bad h0 he, hat]
        rfl
      rw [d3]
      have hskl : skipL l = bt s (ps s (skipL l) : Int) :: (bl s).drop (ps s (skipL l) + 1) := by rw [← bl_cons s _ hp]; exact d1
      have htok := congrArg tokL hskl
      dsimp only [tokL] at htok
      generalize hq : ps s (skipL l) = q at *
      rw [← bl_cons s q hp] at htok
      clear hskl
      have A1 : (q : Int) < (s.size : Int) := by omega
      have A2 : (0 : Int) ≤ (q : Int) := by omega
      have A3 : acc.length < 2932031007402 := by omega
      by_cases hl2 : letterI (bt s (q : Int)) = true
      · obtain ⟨n34, n39, ns⟩ := not_letter hl2
        rw [if_neg (by omega), if_neg n34, if_neg n39, if_pos hl2] at htok
        obtain ⟨K, e⟩ := named_ev s (by omega) q (by omega)
        generalize ((bl s).drop q).takeWhile moreI = m at *
        generalize ((bl s).drop q).dropWhile moreI = r at *
        unfold namR at e
        by_cases h32 : 32 < m.length
        · rw [if_pos h32] at htok e
          rw [bad _ htok]
          refine ⟨K + 1, fun k hk => ?_⟩
          obtain ⟨k, rfl⟩ : ∃ j, k = j + 1 := ⟨k - 1, by omega⟩
          have g1 := e k (by omega)
          dsimp only [noTok] at g1 ⊢
          simp only [templeref1_Lex.l0]
          exact st_pos A1 (st_pos A2 (st_bind ((rletter_eq _).trans (by rw [hl2])) (st_pos rfl (st_bind g1 (st_pos (by decide) rfl)))))
        · rw [if_neg h32] at htok e
          have go : ∀ x, tokL (skipL l) = .inl x → (∃ K, ∀ k, K ≤ k → templeref1_named.f k s (q : Int) = some (x.1, (q : Int), x.2.1, x.2.2.1, x.2.2.2.1, at_ s x.2.2.2.2)) → Ev (fun k => templeref1_Lex.l0 k s acc (q : Int)) (lexA acc (lexL s.size l)) := by
            rintro x hx ⟨K, e⟩
            obtain ⟨K2, e2⟩ := good x hx
            have := atpos x hx
            refine ⟨K + K2 + 1, fun k hk => ?_⟩
            obtain ⟨k, rfl⟩ : ∃ j, k = j + 1 := ⟨k - 1, by omega⟩
            have g1 := e k (by omega)
            have g2 := e2 k (by omega)
            dsimp only at g1 g2 ⊢
            simp only [templeref1_Lex.l0]
            exact st_pos A1 (st_pos A2 (st_bind ((rletter_eq _).trans (by rw [hl2])) (st_pos rfl (st_bind g1 (st_neg (by dsimp only; omega) (st_pos A3 g2))))))
          by_cases hst : strOfNums m = ⟨#[115, 116, 97, 114, 116]⟩
          · rw [if_pos hst] at htok e
            exact go _ htok ⟨K, e⟩
          · rw [if_neg hst] at htok e
            exact go _ htok ⟨K, e⟩
      · have hl3 : letterI (bt s (q : Int)) = false := by simpa using hl2
        by_cases h34 : bt s (q : Int) = 34
        · rw [if_neg (by rw [h34]; decide), if_pos h34] at htok
          obtain ⟨K, e⟩ := rquoted_ev s (by omega) q hp
          cases hx : txtL ((bl s).drop (q + 1)) with
          | none =>
            rw [hx] at htok e
            rw [bad _ htok]
            refine ⟨K + 1, fun k hk => ?_⟩
            obtain ⟨k, rfl⟩ : ∃ j, k = j + 1 := ⟨k - 1, by omega⟩
            have g1 := e k (by omega)
            dsimp only [noTok] at g1 ⊢
            simp only [templeref1_Lex.l0]
            exact st_pos A1 (st_pos A2 (st_bind ((rletter_eq _).trans (by rw [hl3])) (st_neg (by simp) (st_pos h34 (st_bind g1 (st_pos (by decide) rfl))))))
          | some y =>
            rw [hx] at htok e
            dsimp only at htok e
            obtain ⟨K2, e2⟩ := good _ htok
            have := atpos _ htok
            refine ⟨K + K2 + 1, fun k hk => ?_⟩
            obtain ⟨k, rfl⟩ : ∃ j, k = j + 1 := ⟨k - 1, by omega⟩
            have g1 := e k (by omega)
            have g2 := e2 k (by omega)
            dsimp only at g1 g2 this ⊢
            simp only [templeref1_Lex.l0]
            exact st_pos A1 (st_pos A2 (st_bind ((rletter_eq _).trans (by rw [hl3])) (st_neg (by simp) (st_pos h34 (st_bind g1 (st_neg (by dsimp only; omega) (st_pos A3 g2)))))))
        · by_cases h39 : bt s (q : Int) = 39
          · rw [if_neg (by rw [h39]; decide), if_neg h34, if_pos h39] at htok
            obtain ⟨K, e⟩ := ranged_ev s (by omega) q hp
            cases hx : rngL ((bl s).drop q) with
            | none =>
              rw [hx] at htok e
              rw [bad _ htok]
              refine ⟨K + 1, fun k hk => ?_⟩
              obtain ⟨k, rfl⟩ : ∃ j, k = j + 1 := ⟨k - 1, by omega⟩
              have g1 := e k (by omega)
              dsimp only [noTok] at g1 ⊢
              simp only [templeref1_Lex.l0]
              exact st_pos A1 (st_pos A2 (st_bind ((rletter_eq _).trans (by rw [hl3])) (st_neg (by simp) (st_neg h34 (st_pos h39 (st_bind g1 (st_pos (by decide) rfl)))))))
            | some y =>
              rw [hx] at htok e
              dsimp only at htok e
              obtain ⟨K2, e2⟩ := good _ htok
              have := atpos _ htok
              refine ⟨K + K2 + 1, fun k hk => ?_⟩
              obtain ⟨k, rfl⟩ : ∃ j, k = j + 1 := ⟨k - 1, by omega⟩
              have g1 := e k (by omega)
              have g2 := e2 k (by omega)
              dsimp only at g1 g2 this ⊢
              simp only [templeref1_Lex.l0]
              exact st_pos A1 (st_pos A2 (st_bind ((rletter_eq _).trans (by rw [hl3])) (st_neg (by simp) (st_neg h34 (st_pos h39 (st_bind g1 (st_neg (by dsimp only; omega) (st_pos A3 g2))))))))
          · by_cases hsg : 0 ≤ signI (bt s (q : Int))
            · rw [if_pos hsg] at htok
              obtain ⟨K2, e2⟩ := good _ htok
              have w : wrap64 ((q : Int) + 1) = ((q + 1 : Nat) : Int) := wnat q 1 (by omega) (by omega)
              refine ⟨K2 + 1, fun k hk => ?_⟩
              obtain ⟨k, rfl⟩ : ∃ j, k = j + 1 := ⟨k - 1, by omega⟩
              have g2 := e2 k (by omega)
              dsimp only at g2 ⊢
              rw [at_drop s _ (by omega)] at g2
              simp only [templeref1_Lex.l0]
              have hmk := (mark_eq (bt s (q : Int))).trans (by rw [if_pos hsg])
              refine st_pos A1 (st_pos A2 (st_bind ((rletter_eq _).trans (by rw [hl3])) (st_neg (by simp) (st_neg h34 (st_neg h39 (st_bind hmk (st_pos (four_pos hsg) (st_bind hmk (st_neg (by rw [w]; exact nat_not_neg _) (st_pos A3 ?_))))))))))
              rw [w]
              exact g2
            · rw [if_neg hsg, if_neg h34, if_neg h39, if_neg hl2] at htok
              rw [bad _ htok]
              refine ⟨1, fun k hk => ?_⟩
              obtain ⟨k, rfl⟩ : ∃ j, k = j + 1 := ⟨k - 1, by omega⟩
              simp only [templeref1_Lex.l0]
              have hmk := (mark_eq (bt s (q : Int))).trans (by rw [if_neg hsg])
              exact st_pos A1 (st_pos A2 (st_bind ((rletter_eq _).trans (by rw [hl3])) (st_neg (by simp) (st_neg h34 (st_neg h39 (st_bind hmk (st_neg (by decide) rfl)))))))
theorem rlex_ev (s : ByteArray) : Ev (fun k => templeref1_Lex.f k s) (lexB s) := by
  unfold lexB
  by_cases h : 65536 < s.size
  · rw [if_pos h]
    refine Ev.congr (f := fun _ => some ([], 0, 201)) (fun k => ?_) (Ev.now _)
    unfold templeref1_Lex.f
    exact st_pos (by omega) rfl
  · rw [if_neg h]
    obtain ⟨K, e⟩ := rskip_l0 s (by omega) s.size 0 (by omega) (by omega)
    rw [List.drop_zero] at e
    obtain ⟨K2, e2⟩ := rlex_l0 s (by omega) s.size (bl s) [] (List.suffix_refl _) (by rw [bl_length]; exact Nat.le_refl _) (by rw [bl_length]; simp; omega)
    refine ⟨K + K2, fun k hk => ?_⟩
    have g1 := e k (by omega)
    have g2 := e2 k (by omega)
    dsimp only at g1 g2 ⊢
    unfold templeref1_Lex.f
    refine st_neg (by omega) (st_bind (a := at_ s (skipL (bl s))) (by unfold templeref1_skip.f; exact g1) ?_)
    refine g2.trans ?_
    cases lexL s.size (bl s) with
    | inl ts => rfl
    | inr e => rfl
end Go.Proofs.Ytjjccngjcamgjaa.PLA
