/- Tokens of all kinds in any row, with blanks between. -/
import Derived.Test.YtjjccngjcamgjaaL2Text
import Derived.Test.YtjjccngjcamgjaaPLEx5
namespace Go.Proofs.Ytjjccngjcamgjaa.PLE
open Go.RowKit Go.Proofs.YtjjccngjcamgjaaW.PrintWords Go.Proofs.YtjjccngjcamgjaaW.PrintLast
set_option linter.unusedVariables false
set_option linter.unusedSimpArgs false
def nine : List ByteArray := [(⟨#[97, 98]⟩ : ByteArray), (⟨#[34, 120, 92, 92, 121, 34]⟩ : ByteArray), (⟨#[39, 97, 39, 46, 46, 39, 92, 120, 55, 102, 39]⟩ : ByteArray), (⟨#[115, 116, 97, 114, 116]⟩ : ByteArray), (⟨#[61]⟩ : ByteArray), (⟨#[124]⟩ : ByteArray), (⟨#[38]⟩ : ByteArray), (⟨#[126]⟩ : ByteArray), (⟨#[59]⟩ : ByteArray)]
def tk (k : Int) : ByteArray × Int × Int := if k = 0 then (⟨#[97, 98]⟩, 0, 0) else if k = 1 then (⟨#[120, 92, 121]⟩, 0, 0) else if k = 2 then (⟨#[]⟩, 97, 127) else (⟨#[]⟩, 0, 0)
/-- A piece that is one token. -/
def OneTok (y : ByteArray) (k : Int) (v : ByteArray × Int × Int) : Prop := tokL (bl y) = .inl (k, v.1, v.2.1, v.2.2, []) ∧ (∀ w, skipL (bl y ++ w) = bl y ++ w) ∧ bl y ≠ [] ∧ y.size ≤ 11
theorem one_of {y : ByteArray} {k : Int} {v : ByteArray × Int × Int} {c : Int} {r : BL} (e : bl y = c :: r) (ht : tokL (c :: r) = .inl (k, v.1, v.2.1, v.2.2, [])) (h1 : ¬ blankI c = true) (h2 : ¬ c = 35) (h3 : y.size ≤ 11) : OneTok y k v :=
  ⟨by rw [e]; exact ht, fun w => by rw [e, List.cons_append]; exact skipL_stop h1 h2, by rw [e]; simp, h3⟩
theorem quo_tok : txtL [120, 92, 92, 121, 34] = some ([120, 92, 121], []) := by
  rw [txtL_some (x := (120, [92, 92, 121, 34])) (by decide) (by decide), txtL_some (x := (92, [121, 34])) (by decide) (by decide), txtL_some (x := (121, [34])) (by decide) (by decide), txtL_end rfl]
  rfl
theorem nine_ok (k : Int) (h0 : 0 ≤ k) (h1 : k < 9) : OneTok (rdOf ByteArray.empty nine k) k (tk k) := by
  have h : k = 0 ∨ k = 1 ∨ k = 2 ∨ k = 3 ∨ k = 4 ∨ k = 5 ∨ k = 6 ∨ k = 7 ∨ k = 8 := by omega
  rcases h with rfl | rfl | rfl | rfl | rfl | rfl | rfl | rfl | rfl
  · exact one_of (c := 97) (r := [98]) (by decide) rfl (by decide) (by decide) (by decide)
  · refine one_of (c := 34) (r := [120, 92, 92, 121, 34]) (by decide) ?_ (by decide) (by decide) (by decide)
    dsimp only [tokL]
    rw [if_neg (by decide), if_pos rfl, quo_tok]
    rfl
  · exact one_of (c := 39) (r := [97, 39, 46, 46, 39, 92, 120, 55, 102, 39]) (by decide) rfl (by decide) (by decide) (by decide)
  · exact one_of (c := 115) (r := [116, 97, 114, 116]) (by decide) rfl (by decide) (by decide) (by decide)
  · exact one_of (c := 61) (r := []) (by decide) rfl (by decide) (by decide) (by decide)
  · exact one_of (c := 124) (r := []) (by decide) rfl (by decide) (by decide) (by decide)
  · exact one_of (c := 38) (r := []) (by decide) rfl (by decide) (by decide) (by decide)
  · exact one_of (c := 126) (r := []) (by decide) rfl (by decide) (by decide) (by decide)
  · exact one_of (c := 59) (r := []) (by decide) rfl (by decide) (by decide) (by decide)
/-- What may stand behind a token. -/
def SepOk (z : ByteArray) : Prop := (∀ l, skipL (bl z ++ l) = skipL l) ∧ (∀ l c, (bl z ++ l).head? = some c → moreI c = false ∧ c ≠ 46) ∧ z.size ≤ 2
def seps : List ByteArray := [(⟨#[32]⟩ : ByteArray), (⟨#[10]⟩ : ByteArray), (⟨#[35, 10]⟩ : ByteArray)]
theorem seps_ok (i : Int) (h0 : 0 ≤ i) (h1 : i < 3) : SepOk (rdOf ByteArray.empty seps i) := by
  have h : i = 0 ∨ i = 1 ∨ i = 2 := by omega
  rcases h with rfl | rfl | rfl
  · have e : bl (rdOf ByteArray.empty seps 0) = [32] := by decide
    exact ⟨fun l => by rw [e]; exact skipL_blank (by decide), fun l c hc => by rw [e] at hc; cases hc; exact ⟨by decide, by decide⟩, by decide⟩
  · have e : bl (rdOf ByteArray.empty seps 1) = [10] := by decide
    exact ⟨fun l => by rw [e]; exact skipL_blank (by decide), fun l c hc => by rw [e] at hc; cases hc; exact ⟨by decide, by decide⟩, by decide⟩
  · have e : bl (rdOf ByteArray.empty seps 2) = [35, 10] := by decide
    refine ⟨fun l => ?_, fun l c hc => by rw [e] at hc; cases hc; exact ⟨by decide, by decide⟩, by decide⟩
    rw [e, List.cons_append, skipL_note rfl]
    exact skipL_blank (by decide)
abbrev TokN := Int × Int × ByteArray × Int × Int
/-- A text's tokens, whatever stands behind it. -/
def Shut (l : BL) (ts : List TokN) : Prop := ∀ (y : BL) (M : Nat), M = l.length + y.length → lexL M (l ++ y) = joinR ts (lexL M y)
theorem shut_nil : Shut [] [] := fun y M hM => by
  rw [List.nil_append]
  cases lexL M y <;> rfl
theorem joinR_joinR {ts us : List TokN} (x : List TokN ⊕ (Int × Int)) : joinR ts (joinR us x) = joinR (ts ++ us) x := by
  cases x with
  | inl v => simp [joinR]
  | inr e => rfl
theorem shut_app {l : BL} {ts : List TokN} (h : Shut l ts) {y z : ByteArray} {k : Int} {v : ByteArray × Int × Int} (hy : OneTok y k v) (hz : SepOk z) :
    Shut (l ++ (bl y ++ bl z)) (ts ++ [(k, (l.length : Int), v.1, v.2.1, v.2.2)]) := by
  intro r M hM
  obtain ⟨t1, t2, t3, t4⟩ := hy
  obtain ⟨z1, z2, z3⟩ := hz
  simp only [List.length_append] at hM
  rw [List.append_assoc, h ((bl y ++ bl z) ++ r) M (by simp only [List.length_append]; omega), List.append_assoc]
  have hs : skipL (bl y ++ (bl z ++ r)) = bl y ++ (bl z ++ r) := t2 _
  have ht := tokL_app (bl z ++ r) (fun c hc => z2 r c hc) t1
  rw [List.nil_append] at ht
  rw [lexL_tok (by rw [hs]; simp [t3]) (by rw [hs]; exact ht)]
  dsimp only
  rw [hs, lexL_eq (z1 r)]
  have hp : (M : Int) - ((bl y ++ (bl z ++ r)).length : Int) = (l.length : Int) := by
    simp only [List.length_append]
    omega
  rw [hp]
  have : (match lexL M r with | .inr e => .inr e | .inl us => .inl ((k, (l.length : Int), v.1, v.2.1, v.2.2) :: us) : List TokN ⊕ (Int × Int)) = joinR [(k, (l.length : Int), v.1, v.2.1, v.2.2)] (lexL M r) := by
    cases lexL M r <;> rfl
  rw [← joinR_joinR, ← this]
  cases lexL M r <;> rfl
theorem rows_fin (xs : List Int) (s : ByteArray) (hs : s.size ≤ 60000) (ts : List TokN) (hS : Shut (bl s) ts) (hl : ts.length ≤ 1000) (p : Int) : Ev (fun k => templelaw2_LexRows.j1 k xs nine s (ts.map toTok) p false) true := by
  obtain ⟨K1, e1⟩ := lex_ev s
  have hL := hS [] s.size (by rw [bl_length]; rfl)
  rw [List.append_nil, lexL_end skipL_nil] at hL
  have hB : lexB s = (ts.map toTok, 0, 0) := by
    unfold lexB
    rw [if_neg (by omega), hL]
    show lexR (.inl (ts ++ [])) = _
    rw [List.append_nil]
    rfl
  rw [hB] at e1
  obtain ⟨K2, e2⟩ := same_refl (ts.map toTok) (by rw [List.length_map]; omega)
  refine ⟨K1 + K2 + 1, fun k hk => ?_⟩
  obtain ⟨k, rfl⟩ : ∃ j, k = j + 1 := ⟨k - 1, by omega⟩
  have g1 := e1 k (by omega)
  have g2 := e2 k (by omega)
  dsimp only at g1 g2 ⊢
  simp only [templelaw2_LexRows.j1]
  exact st_neg (by simp) (st_bind g1 (st_bind (num_eq _) (st_pos rfl (st_bind g2 rfl))))
theorem nine_mod (v : Int) : 0 ≤ wrap64 (Int.tmod (IntKind.u64.wrap v) 9) ∧ wrap64 (Int.tmod (IntKind.u64.wrap v) 9) < 9 := by
  have h : 0 ≤ IntKind.u64.wrap v := by
    simp [IntKind.wrap, IntKind.bits, IntKind.signed]
    omega
  have h1 := Int.tmod_nonneg 9 h
  have h2 := Int.tmod_lt_of_pos (IntKind.u64.wrap v) (b := 9) (by decide)
  generalize Int.tmod (IntKind.u64.wrap v) 9 = m at *
  rw [wrap_ok m (by omega) (by omega)]
  exact ⟨h1, h2⟩
theorem rows_l0 (xs : List Int) : ∀ (n p : Nat) (s : ByteArray) (ts : List TokN), 40 - p ≤ n → p ≤ 40 → s.size ≤ 13 * p → ts.length ≤ p → Shut (bl s) ts → Ev (fun k => templelaw2_LexRows.l0 k xs nine s (ts.map toTok) (p : Int)) true := by
  intro n
  have stop : ∀ (p : Nat) (s : ByteArray) (ts : List TokN), p ≤ 40 → s.size ≤ 13 * p → ts.length ≤ p → Shut (bl s) ts → ¬ ((p : Int) < (xs.length : Int) ∧ p < 40) → Ev (fun k => templelaw2_LexRows.l0 k xs nine s (ts.map toTok) (p : Int)) true := by
    intro p s ts hp hs ht hS hno
    refine Ev.step (fun k => ?_) (rows_fin xs s (by omega) ts hS (by omega) (p : Int))
    simp only [templelaw2_LexRows.l0]
    by_cases h : (p : Int) < (xs.length : Int)
    · refine st_pos h ?_
      rw [decide_eq_false (by omega)]
    · exact st_neg h rfl
  induction n with
  | zero =>
    intro p s ts hn hp hs ht hS
    exact stop p s ts hp hs ht hS (by omega)
  | succ n ih =>
    intro p s ts hn hp hs ht hS
    by_cases h : (p : Int) < (xs.length : Int) ∧ p < 40
    · have hm := nine_mod (rd xs (p : Int))
      have hw0 : wrap64 (0 + wrap64 (Int.tmod (IntKind.u64.wrap (rd xs (p : Int))) 9)) = wrap64 (Int.tmod (IntKind.u64.wrap (rd xs (p : Int))) 9) := by rw [Int.zero_add, wrap_ok (wrap64 _) (by omega) (by omega)]
      have h1 := nine_ok _ hm.1 hm.2
      have hq0 := Int.tmod_nonneg 3 (show 0 ≤ (p : Int) by omega)
      have hq1 := Int.tmod_lt_of_pos (p : Int) (b := 3) (by decide)
      have h2 := seps_ok _ hq0 hq1
      have sz1 := h1.2.2.2
      have sz2 := h2.2.2
      have hn9 : (nine.length : Int) = 9 := rfl
      have hn3 : (seps.length : Int) = 3 := rfl
      have next := fun t lo hi (e : tk (wrap64 (Int.tmod (IntKind.u64.wrap (rd xs (p : Int))) 9)) = (t, lo, hi)) => ih (p + 1) ((s ++ rdOf ByteArray.empty nine (wrap64 (Int.tmod (IntKind.u64.wrap (rd xs (p : Int))) 9))) ++ rdOf ByteArray.empty seps (Int.tmod (p : Int) 3)) (ts ++ [(wrap64 (Int.tmod (IntKind.u64.wrap (rd xs (p : Int))) 9), (s.size : Int), t, lo, hi)]) (by omega) (by omega) (by rw [ByteArray.size_append, ByteArray.size_append]; omega) (by rw [List.length_append]; simp; omega) (by
        have := shut_app hS h1 h2
        rw [e, bl_length] at this
        rw [bl_app, bl_app, List.append_assoc]
        exact this)
      generalize hK : wrap64 (Int.tmod (IntKind.u64.wrap (rd xs (p : Int))) 9) = K at *
      refine Ev.step (f := fun k => templelaw2_LexRows.j1 k xs nine s (ts.map toTok) (p : Int) true) (fun k => ?_) ?_
      · simp only [templelaw2_LexRows.l0]
        refine st_pos h.1 ?_
        rw [decide_eq_true (by omega)]
      · have len1 : (ts.map toTok).length < 2932031007402 := by rw [List.length_map]; omega
        have sz3 : s.size + (rdOf ByteArray.empty nine K).size ≤ 9223372036854775807 := by omega
        have sz4 : (s ++ rdOf ByteArray.empty nine K).size + (rdOf ByteArray.empty seps (Int.tmod (p : Int) 3)).size ≤ 9223372036854775807 := by rw [ByteArray.size_append]; omega
        have go : ∀ t lo hi, tk K = (t, lo, hi) → ∀ k, (if (ts.map toTok).length < 2932031007402 then (if 0 ≤ K then (if K < (nine.length : Int) then (if s.size + (rdOf ByteArray.empty nine K).size ≤ 9223372036854775807 then ((some seps).bind fun y => (if 0 ≤ (Int.tmod (p : Int) 3) then (if (Int.tmod (p : Int) 3) < (y.length : Int) then (if (s ++ (rdOf ByteArray.empty nine K)).size + (rdOf ByteArray.empty y (Int.tmod (p : Int) 3)).size ≤ 9223372036854775807 then (templelaw2_LexRows.l0 k xs nine ((s ++ (rdOf ByteArray.empty nine K)) ++ (rdOf ByteArray.empty y (Int.tmod (p : Int) 3))) ((ts.map toTok) ++ [(⟨wrap64 (0 + K), (s.size : Int), t, lo, hi⟩ : Tok)]) (wrap64 ((p : Int) + 1))) else (none)) else (none)) else (none))) else (none)) else (none)) else (none)) else (none)) = templelaw2_LexRows.l0 k xs nine ((s ++ (rdOf ByteArray.empty nine K)) ++ (rdOf ByteArray.empty seps (Int.tmod (p : Int) 3))) ((ts ++ [(K, (s.size : Int), t, lo, hi)]).map toTok) ((p + 1 : Nat) : Int) := by
          intro t lo hi e k
          refine st_pos len1 (st_pos hm.1 (st_pos hm.2 (st_pos sz3 (st_bind (a := seps) rfl (st_pos hq0 (st_pos hq1 (st_pos sz4 ?_)))))))
          have nx : wrap64 ((p : Int) + 1) = ((p + 1 : Nat) : Int) := by rw [wrap_ok _ (by omega) (by omega)]; rfl
          rw [hw0, nx, List.map_append]
          rfl
        by_cases k0 : K = 0
        · have e : tk K = (⟨#[97, 98]⟩, 0, 0) := by unfold tk; rw [if_pos k0]
          refine Ev.step (fun k => ?_) (next _ _ _ e)
          simp only [templelaw2_LexRows.j1]
          rw [hK]
          exact st_pos trivial (st_pos (by omega) (st_pos h.1 (st_pos k0 (go _ _ _ e k))))
        · by_cases k1 : K = 1
          · have e : tk K = (⟨#[120, 92, 121]⟩, 0, 0) := by unfold tk; rw [if_neg k0, if_pos k1]
            refine Ev.step (fun k => ?_) (next _ _ _ e)
            simp only [templelaw2_LexRows.j1]
            rw [hK]
            exact st_pos trivial (st_pos (by omega) (st_pos h.1 (st_neg k0 (st_pos k1 (go _ _ _ e k)))))
          · by_cases k2 : K = 2
            · have e : tk K = (⟨#[]⟩, 97, 127) := by unfold tk; rw [if_neg k0, if_neg k1, if_pos k2]
              refine Ev.step (fun k => ?_) (next _ _ _ e)
              simp only [templelaw2_LexRows.j1]
              rw [hK]
              exact st_pos trivial (st_pos (by omega) (st_pos h.1 (st_neg k0 (st_neg k1 (st_pos k2 (go _ _ _ e k))))))
            · have e : tk K = (⟨#[]⟩, 0, 0) := by unfold tk; rw [if_neg k0, if_neg k1, if_neg k2]
              refine Ev.step (fun k => ?_) (next _ _ _ e)
              simp only [templelaw2_LexRows.j1]
              rw [hK]
              exact st_pos trivial (st_pos (by omega) (st_pos h.1 (st_neg k0 (st_neg k1 (st_neg k2 (go _ _ _ e k))))))
    · exact stop p s ts hp hs ht hS h
theorem lexRows_pure (xs : List Int) : ∃ k, templelaw2_LexRows.f k xs = some true := by
  obtain ⟨K1, e1⟩ := awake_ev
  obtain ⟨K2, e2⟩ := rows_l0 xs 40 0 ⟨#[]⟩ [] (by omega) (by omega) (by decide) (by simp) shut_nil
  refine ⟨K1 + K2, ?_⟩
  have g1 := e1 (K1 + K2) (by omega)
  have g2 := e2 (K1 + K2) (by omega)
  dsimp only at g1 g2
  unfold templelaw2_LexRows.f
  exact st_bind g1 (st_pos rfl g2)
theorem lexRows_Pure : templelaw2_LexRows.Pure := fun xs _ _ _ => lexRows_pure xs
end Go.Proofs.Ytjjccngjcamgjaa.PLE
