/- LexPlaces: tokens begin one behind the other, within the text, at a byte of theirs. -/
import Derived.Test.YtjjccngjcamgjaaL2Text
import Derived.Test.YtjjccngjcamgjaaPLDx5
namespace Go.Proofs.Ytjjccngjcamgjaa.PLD
open Go.RowKit Go.Proofs.YtjjccngjcamgjaaW.PrintWords Go.Proofs.YtjjccngjcamgjaaW.PrintLast
set_option linter.unusedVariables false
set_option linter.unusedSimpArgs false
/-- How a token's kind and text go with its first byte. -/
def KindB (k : Int) (t : ByteArray) (c : Int) : Prop :=
  k = 1 ∧ c = 34 ∨ k = 2 ∧ c = 39 ∨ (k = 0 ∧ 0 < t.size ∧ bt t 0 = c) ∨ k = 4 ∧ c = 61 ∨ k = 5 ∧ c = 124 ∨ k = 6 ∧ c = 38 ∨ k = 7 ∧ c = 126 ∨ k = 8 ∧ c = 59 ∨ k = 3 ∧ c = 115
theorem bt_str (c : Int) (h0 : 0 ≤ c) (h1 : c ≤ 255) (m : BL) : bt (strOfNums (c :: m)) 0 = c ∧ 0 < (strOfNums (c :: m)).size := by
  have hs : (strOfNums (c :: m)).size = m.length + 1 := by rw [str_size]; rfl
  refine ⟨?_, by omega⟩
  have e : (bl (strOfNums (c :: m)))[0]? = some c := by
    rw [bl_data]
    unfold strOfNums
    simp
    omega
  have e2 := bl_get (strOfNums (c :: m)) 0 (by omega)
  rw [List.getElem?_eq_getElem (by rw [bl_length]; omega), e2] at e
  exact Option.some.inj e
theorem sign_kind (c : Int) (h : 0 ≤ signI c) : signI c = 0 ∧ c = 61 ∨ signI c = 1 ∧ c = 124 ∨ signI c = 2 ∧ c = 38 ∨ signI c = 3 ∧ c = 126 ∨ signI c = 4 ∧ c = 59 := by
  unfold signI at h ⊢
  by_cases h1 : c = 61
  · exact .inl ⟨if_pos h1, h1⟩
  rw [if_neg h1] at h ⊢
  by_cases h2 : c = 124
  · exact .inr (.inl ⟨if_pos h2, h2⟩)
  rw [if_neg h2] at h ⊢
  by_cases h3 : c = 38
  · exact .inr (.inr (.inl ⟨if_pos h3, h3⟩))
  rw [if_neg h3] at h ⊢
  by_cases h4 : c = 126
  · exact .inr (.inr (.inr (.inl ⟨if_pos h4, h4⟩)))
  rw [if_neg h4] at h ⊢
  by_cases h5 : c = 59
  · exact .inr (.inr (.inr (.inr ⟨if_pos h5, h5⟩)))
  rw [if_neg h5] at h
  omega
theorem tokL_kind {c : Int} {r : BL} {x : Int × ByteArray × Int × Int × BL} (h0 : 0 ≤ c) (h1 : c ≤ 255) (h : tokL (c :: r) = .inl x) : KindB x.1 x.2.1 c := by
  dsimp only [tokL] at h
  unfold KindB
  split at h
  · rename_i hs
    cases h
    dsimp only
    have hk := sign_kind c hs
    generalize signI c = g at *
    clear hs h0 h1
    rcases hk with ⟨rfl, hc⟩ | ⟨rfl, hc⟩ | ⟨rfl, hc⟩ | ⟨rfl, hc⟩ | ⟨rfl, hc⟩
    · exact .inr (.inr (.inr (.inl ⟨rfl, hc⟩)))
    · exact .inr (.inr (.inr (.inr (.inl ⟨rfl, hc⟩))))
    · exact .inr (.inr (.inr (.inr (.inr (.inl ⟨rfl, hc⟩)))))
    · exact .inr (.inr (.inr (.inr (.inr (.inr (.inl ⟨rfl, hc⟩))))))
    · exact .inr (.inr (.inr (.inr (.inr (.inr (.inr (.inl ⟨rfl, hc⟩)))))))
  split at h
  · rename_i h34
    split at h <;> cases h
    exact .inl ⟨rfl, h34⟩
  split at h
  · rename_i h39
    split at h <;> cases h
    exact .inr (.inl ⟨rfl, h39⟩)
  split at h
  · rename_i hl
    have hm : (c :: r).takeWhile moreI = c :: r.takeWhile moreI := by rw [List.takeWhile_cons, letter_more hl, if_pos rfl]
    rw [hm] at h
    have hb := bt_str c h0 h1 (r.takeWhile moreI)
    split at h
    · cases h
    · split at h
      · rename_i hst
        cases h
        rw [hst] at hb
        have : c = 115 := hb.1.symm
        refine .inr (.inr (.inr (.inr (.inr (.inr (.inr (.inr ⟨rfl, this⟩)))))))
      · cases h
        exact .inr (.inr (.inl ⟨rfl, hb.2, hb.1⟩))
  · cases h
/-- What holds of a text's tokens. -/
def Good (s : ByteArray) (ts : List (Int × Int × ByteArray × Int × Int)) : Prop :=
  ts.Pairwise (fun a b => a.2.1 < b.2.1) ∧ ∀ x ∈ ts, 0 ≤ x.2.1 ∧ x.2.1 < (s.size : Int) ∧ KindB x.1 x.2.2.1 (bt s x.2.1)
theorem lexL_good (s : ByteArray) : ∀ (n : Nat) (l : BL) (ts : List (Int × Int × ByteArray × Int × Int)), l.length ≤ n → l <:+ bl s → lexL s.size l = .inl ts → Good s ts ∧ ∀ x ∈ ts, (s.size : Int) - (l.length : Int) ≤ x.2.1 := by
  intro n
  induction n with
  | zero =>
    intro l ts hn hl h
    obtain rfl : l = [] := List.length_eq_zero_iff.1 (by omega)
    rw [lexL_end skipL_nil] at h
    cases h
    exact ⟨⟨List.Pairwise.nil, fun x hx => by cases hx⟩, fun x hx => by cases hx⟩
  | succ n ih =>
    intro l ts hn hl h
    by_cases h0 : skipL l = []
    · rw [lexL_end h0] at h
      cases h
      exact ⟨⟨List.Pairwise.nil, fun x hx => by cases hx⟩, fun x hx => by cases hx⟩
    · have hle := skipL_le l.length l (Nat.le_refl _)
      have hsk := (skipL_suf l.length l (Nat.le_refl _)).trans hl
      have hlen : 0 < (skipL l).length := List.length_pos_iff.2 h0
      obtain ⟨d1, d2, d3, d4⟩ := suf_drop hsk
      have hp : ps s (skipL l) < s.size := by omega
      cases hx : tokL (skipL l) with
      | inr e =>
        rw [lexL_bad h0 hx] at h
        cases h
      | inl x =>
        have hlt := tokL_lt (k := x.1) (t := x.2.1) (lo := x.2.2.1) (hi := x.2.2.2.1) (r := x.2.2.2.2) hx
        have hsf := (tokL_suf (k := x.1) (t := x.2.1) (lo := x.2.2.1) (hi := x.2.2.2.1) (r := x.2.2.2.2) hx).trans hsk
        rw [lexL_tok h0 hx] at h
        cases hy : lexL s.size x.2.2.2.2 with
        | inr e =>
          rw [hy] at h
          cases h
        | inl ys =>
          rw [hy] at h
          cases h
          obtain ⟨⟨g1, g2⟩, g3⟩ := ih x.2.2.2.2 ys (by omega) hsf hy
          have hk : KindB x.1 x.2.1 (bt s (ps s (skipL l) : Int)) := by
            rw [d1, bl_cons s _ hp] at hx
            have hr := bt_range s (ps s (skipL l) : Int)
            exact tokL_kind hr.1 hr.2 hx
          have hat : (s.size : Int) - ((skipL l).length : Int) = (ps s (skipL l) : Int) := by omega
          refine ⟨⟨List.Pairwise.cons (fun y hy2 => ?_) g1, fun y hy2 => ?_⟩, fun y hy2 => ?_⟩
          · have := g3 y hy2
            dsimp only
            omega
          · rcases List.mem_cons.1 hy2 with rfl | hy2
            · dsimp only
              rw [hat]
              exact ⟨by omega, by omega, hk⟩
            · exact g2 y hy2
          · rcases List.mem_cons.1 hy2 with rfl | hy2
            · dsimp only
              omega
            · have := g3 y hy2
              omega
theorem places_l0 (s : ByteArray) (ts : List (Int × Int × ByteArray × Int × Int)) (hg : Good s ts) (hl : ts.length ≤ 70000) : ∀ (n p : Nat) (last : Int), ts.length - p ≤ n → (∀ h : p < ts.length, last < (ts[p]'h).2.1) → Ev (fun k => templelaw2_LexPlaces.l0 k s (ts.map toTok) last (p : Int)) true := by
  intro n
  have hlm : (ts.map toTok).length = ts.length := List.length_map ..
  induction n with
  | zero =>
    intro p last hn hlast
    refine Ev.step (f := fun _ => some true) (fun k => ?_) (Ev.now _)
    simp only [templelaw2_LexPlaces.l0]
    exact st_neg (by omega) rfl
  | succ n ih =>
    intro p last hn hlast
    by_cases h : p < ts.length
    · have hrd := rd_one ts p h
      have hx := hg.2 _ (List.getElem_mem (l := ts) (n := p) h)
      have hla := hlast h
      have hnx := ih (p + 1) (ts[p]'h).2.1 (by omega) (fun h2 => List.pairwise_iff_getElem.1 hg.1 p (p + 1) h h2 (by omega))
      refine Ev.step (fun k => ?_) hnx
      simp only [templelaw2_LexPlaces.l0]
      have nx : wrap64 ((p : Int) + 1) = ((p + 1 : Nat) : Int) := by rw [wrap_ok _ (by omega) (by omega)]; rfl
      rw [hrd, nx]
      clear nx hnx hrd
      generalize ts[p]'h = x at *
      obtain ⟨x1, x2, x3, x4, x5⟩ := x
      obtain ⟨hx0, hx1, hk⟩ := hx
      dsimp only [toTok] at *
      rcases hk with hk | hk | hk | hk | hk | hk | hk | hk | hk
      · exact st_pos (by omega) (st_pos (by omega) (st_neg (by omega) (st_neg (by omega) (st_neg (by omega) (st_neg (by omega) (st_pos (by omega) (st_pos (by omega) (st_pos (by omega) (st_pos (by omega) (st_neg (by omega) (st_neg (by omega) (st_neg (by omega) (st_neg (by omega) (st_neg (by omega) (st_neg (by omega) (st_neg (by omega) (st_neg (by omega) rfl)))))))))))))))))
      · exact st_pos (by omega) (st_pos (by omega) (st_neg (by omega) (st_neg (by omega) (st_neg (by omega) (st_neg (by omega) (st_pos (by omega) (st_pos (by omega) (st_neg (by omega) (st_pos (by omega) (st_pos (by omega) (st_neg (by omega) (st_neg (by omega) (st_neg (by omega) (st_neg (by omega) (st_neg (by omega) (st_neg (by omega) (st_neg (by omega) rfl)))))))))))))))))
      · have hb0 := hk.2.2
        have hne : ¬ x3.toList = ([] : List UInt8) := fun q => by
          rw [ByteArray.toList_eq] at q
          have hsz := hk.2.1
          change 0 < x3.data.toList.length at hsz
          rw [q] at hsz
          exact absurd hsz (by decide)
        exact st_pos (by omega) (st_pos (by omega) (st_neg (by omega) (st_neg (by omega) (st_neg (by omega) (st_neg (by omega) (st_pos (by omega) (st_pos (by omega) (st_neg (by omega) (st_neg (by omega) (st_pos (by omega) (st_neg hne (st_pos (by omega) (st_pos hb0 (st_neg (by omega) (st_neg (by omega) (st_neg (by omega) (st_neg (by omega) (st_neg (by omega) (st_neg (by omega) rfl)))))))))))))))))))
      · exact st_pos (by omega) (st_pos (by omega) (st_neg (by omega) (st_neg (by omega) (st_neg (by omega) (st_neg (by omega) (st_pos (by omega) (st_pos (by omega) (st_neg (by omega) (st_neg (by omega) (st_neg (by omega) (st_pos (by omega) (st_pos (by omega) (st_neg (by omega) (st_neg (by omega) (st_neg (by omega) (st_neg (by omega) (st_neg (by omega) rfl)))))))))))))))))
      · exact st_pos (by omega) (st_pos (by omega) (st_neg (by omega) (st_neg (by omega) (st_neg (by omega) (st_neg (by omega) (st_pos (by omega) (st_pos (by omega) (st_neg (by omega) (st_neg (by omega) (st_neg (by omega) (st_neg (by omega) (st_pos (by omega) (st_pos (by omega) (st_neg (by omega) (st_neg (by omega) (st_neg (by omega) (st_neg (by omega) rfl)))))))))))))))))
      · exact st_pos (by omega) (st_pos (by omega) (st_neg (by omega) (st_neg (by omega) (st_neg (by omega) (st_neg (by omega) (st_pos (by omega) (st_pos (by omega) (st_neg (by omega) (st_neg (by omega) (st_neg (by omega) (st_neg (by omega) (st_neg (by omega) (st_pos (by omega) (st_pos (by omega) (st_neg (by omega) (st_neg (by omega) (st_neg (by omega) rfl)))))))))))))))))
      · exact st_pos (by omega) (st_pos (by omega) (st_neg (by omega) (st_neg (by omega) (st_neg (by omega) (st_neg (by omega) (st_pos (by omega) (st_pos (by omega) (st_neg (by omega) (st_neg (by omega) (st_neg (by omega) (st_neg (by omega) (st_neg (by omega) (st_neg (by omega) (st_pos (by omega) (st_pos (by omega) (st_neg (by omega) (st_neg (by omega) rfl)))))))))))))))))
      · exact st_pos (by omega) (st_pos (by omega) (st_neg (by omega) (st_neg (by omega) (st_neg (by omega) (st_neg (by omega) (st_pos (by omega) (st_pos (by omega) (st_neg (by omega) (st_neg (by omega) (st_neg (by omega) (st_neg (by omega) (st_neg (by omega) (st_neg (by omega) (st_neg (by omega) (st_pos (by omega) (st_pos (by omega) (st_neg (by omega) rfl)))))))))))))))))
      · exact st_pos (by omega) (st_pos (by omega) (st_neg (by omega) (st_neg (by omega) (st_neg (by omega) (st_neg (by omega) (st_pos (by omega) (st_pos (by omega) (st_neg (by omega) (st_neg (by omega) (st_neg (by omega) (st_neg (by omega) (st_neg (by omega) (st_neg (by omega) (st_neg (by omega) (st_neg (by omega) (st_pos (by omega) (st_pos (by omega) rfl)))))))))))))))))
    · refine Ev.step (f := fun _ => some true) (fun k => ?_) (Ev.now _)
      simp only [templelaw2_LexPlaces.l0]
      exact st_neg (by omega) rfl
theorem lexPlaces_pure (s : ByteArray) (hs : s.size ≤ 140737488351232) : ∃ k, templelaw2_LexPlaces.f k s = some true := by
  obtain ⟨K1, e1⟩ := awake_ev
  obtain ⟨K2, e2⟩ := lex_ev s
  by_cases h : 65536 < s.size
  · have hB : lexB s = ([], 0, 201) := by unfold lexB; rw [if_pos h]
    rw [hB] at e2
    refine ⟨K1 + K2, ?_⟩
    have g1 := e1 (K1 + K2) (by omega)
    have g2 := e2 (K1 + K2) (by omega)
    dsimp only at g1 g2
    unfold templelaw2_LexPlaces.f
    exact st_bind g1 (st_pos rfl (st_bind g2 (st_bind (num_eq _) (st_neg (by decide) rfl))))
  · have hB : lexB s = lexR (lexL s.size (bl s)) := by unfold lexB; rw [if_neg h]
    have ps1 := lexL_pos s.size (bl s) s.size (by rw [bl_length]; exact Nat.le_refl _) (by rw [bl_length]; exact Nat.le_refl _)
    cases hS : lexL s.size (bl s) with
    | inr e =>
      rw [hS] at hB ps1
      rw [hB] at e2
      dsimp only at ps1
      refine ⟨K1 + K2, ?_⟩
      have g1 := e1 (K1 + K2) (by omega)
      have g2 := e2 (K1 + K2) (by omega)
      dsimp only [lexR] at g1 g2
      unfold templelaw2_LexPlaces.f
      exact st_bind g1 (st_pos rfl (st_bind g2 (st_bind (num_eq _) (st_neg (by dsimp only; omega) rfl))))
    | inl ts =>
      have hg := lexL_good s s.size (bl s) ts (by rw [bl_length]; exact Nat.le_refl _) (List.suffix_refl _) hS
      have ln := lexL_len s.size (bl s) s.size (by rw [bl_length]; exact Nat.le_refl _) ts hS
      rw [bl_length] at ln
      rw [hS] at hB
      rw [hB] at e2
      obtain ⟨K3, e3⟩ := places_l0 s ts hg.1 (by omega) ts.length 0 (-1) (by omega) (fun h2 => by
        have := (hg.1.2 _ (List.getElem_mem (l := ts) (n := 0) h2)).1
        omega)
      refine ⟨K1 + K2 + K3, ?_⟩
      have g1 := e1 (K1 + K2 + K3) (by omega)
      have g2 := e2 (K1 + K2 + K3) (by omega)
      have g3 := e3 (K1 + K2 + K3) (by omega)
      dsimp only [lexR] at g1 g2 g3
      unfold templelaw2_LexPlaces.f
      exact st_bind g1 (st_pos rfl (st_bind g2 (st_bind (num_eq _) (st_pos rfl g3))))
end Go.Proofs.Ytjjccngjcamgjaa.PLD
