/- The lexer's tokens against the plain ones: ends, ranges, names, what stands between. -/
import Derived.Test.YtmpilejhnolafaaL2Toks
namespace Go.Proofs.Ytmpilejhnolafaa.PPJ
open Go.RowKit Go.Proofs.YtmpilejhnolafaaW.PrintWords Go.Proofs.YtmpilejhnolafaaW.PrintLast
set_option linter.unusedVariables false
set_option linter.unusedSimpArgs false
theorem text_ev (s : ByteArray) (hs : s.size ≤ 70000) (p : Nat) (hp : p < s.size) :
    match txtL ((bl s).drop (p + 1)) with
    | some x => Ev (fun k => lex_scanner_text.f k s (p : Int)) (strOfNums x.1, true, s, at_ s x.2)
    | none => ∃ q, Ev (fun k => lex_scanner_text.f k s (p : Int)) (⟨#[]⟩, false, s, q) := by
  have h := text_l0 s hs (s.size - (p + 1)) (p + 1) [] (Nat.le_refl _) (by omega) (by simp; omega)
  have e : ∀ k, lex_scanner_text.f k s (p : Int) = lex_scanner_text.l0 k [] s ((p + 1 : Nat) : Int) := fun k => by
    unfold lex_scanner_text.f
    rw [wrap_ok _ (by omega) (by omega)]
    rfl
  simp only [e]
  exact h
theorem bl_range (s : ByteArray) : ∀ x ∈ bl s, 0 ≤ x ∧ x ≤ 255 := by
  intro x hx
  unfold bl at hx
  obtain ⟨i, _, rfl⟩ := List.mem_map.1 hx
  exact bt_range _ _
theorem suf_range {s : ByteArray} {l : BL} (h : l <:+ bl s) : ∀ x ∈ l, 0 ≤ x ∧ x ≤ 255 := fun x hx => bl_range s x (h.subset hx)
theorem chrL_range {q : Int} {l r : BL} {c : Int} (hl : ∀ x ∈ l, 0 ≤ x ∧ x ≤ 255) (h : chrL q l = some (c, r)) : 0 ≤ c ∧ c ≤ 255 := by
  cases l with
  | nil => simp [chrL] at h
  | cons x xs =>
    dsimp only [chrL] at h
    split at h
    · cases xs with
      | nil => simp [escL] at h
      | cons y ys =>
        dsimp only [escL] at h
        split at h
        · simp only [Option.some.injEq, Prod.mk.injEq] at h
          rw [← h.1]
          exact hl y (by simp)
        · split at h
          · split at h
            · rename_i a b r'
              split at h
              · simp only [Option.some.injEq, Prod.mk.injEq] at h
                rcases hexv_range a with e1 | e1 <;> rcases hexv_range b with e2 | e2 <;> omega
              · cases h
            · cases h
          · cases h
    · split at h
      · cases h
      · simp only [Option.some.injEq, Prod.mk.injEq] at h
        rw [← h.1]
        exact hl x (by simp)
theorem end_ev (s : ByteArray) (hs : s.size ≤ 70000) (p : Nat) (hp : p ≤ s.size) :
    match endL ((bl s).drop p) with
    | some x => Ev (fun k => lex_scanner_end.f k s (p : Int)) (x.1, true, s, at_ s x.2)
    | none => ∃ q, Ev (fun k => lex_scanner_end.f k s (p : Int)) (0, false, s, q) := by
  have pk0 := peek_eq s p 0 hs hp (by omega)
  unfold endL
  by_cases h39 : ((bl s).drop p).head? = some 39
  · rw [if_pos h39]
    obtain ⟨g1, g2, g3⟩ := head_lt h39
    rw [g3]
    have hh := (head_eq s p 39 (by decide)).2 h39
    have wp : wrap64 ((p : Int) + 1) = ((p + 1 : Nat) : Int) := by rw [wrap_ok _ (by omega) (by omega)]; rfl
    obtain ⟨K, e⟩ := char_ev s (p + 1) hs (by omega) 39
    cases hc : chrL 39 ((bl s).drop (p + 1)) with
    | none =>
      rw [hc] at e
      refine ⟨((p + 1 : Nat) : Int), K, fun k hk => ?_⟩
      have e1 := e k hk
      dsimp only [oneR] at e1 ⊢
      unfold lex_scanner_end.f
      exact st_bind pk0 (st_pos hh (st_bind (by dsimp only; rw [wp]; exact e1) (st_neg (by simp) rfl)))
    | some x =>
      rw [hc] at e
      dsimp only [oneR] at e ⊢
      have hsf := (chrL_suf (c := x.1) (r := x.2) hc).trans (drop_suf s (p + 1))
      have hr := chrL_range (c := x.1) (r := x.2) (suf_range (drop_suf s (p + 1))) hc
      obtain ⟨d1, d2, d3, d4⟩ := suf_drop hsf
      have pk1 := peek_eq s (ps s x.2) 0 hs d2 (by omega)
      by_cases h2 : x.2.head? = some 39
      · rw [if_pos h2]
        dsimp only
        have h2' := h2
        rw [d1] at h2'
        obtain ⟨f1, f2, f3⟩ := head_lt h2'
        have hh2 := (head_eq s (ps s x.2) 39 (by decide)).2 h2'
        refine ⟨K, fun k hk => ?_⟩
        have e1 := e k hk
        dsimp only at e1 ⊢
        unfold lex_scanner_end.f
        refine st_bind pk0 (st_pos hh (st_bind (by dsimp only; rw [wp]; exact e1) (st_pos rfl (st_bind (by dsimp only; rw [d3]; exact pk1) (st_pos hh2 ?_)))))
        dsimp only
        rw [wrap_ok x.1 (by omega) (by omega), wrap_ok _ (by omega) (by omega)]
        rw [d1, f3, at_drop s _ (by omega), ← d1]
        rfl
      · rw [if_neg h2]
        dsimp only
        have h2' := h2
        rw [d1] at h2'
        have hh2 : ¬ ((bl s).drop (ps s x.2 + 0)).headD 0 = 39 := fun q => h2' ((head_eq s (ps s x.2) 39 (by decide)).1 q)
        refine ⟨(ps s x.2 : Int), K, fun k hk => ?_⟩
        have e1 := e k hk
        dsimp only at e1 ⊢
        unfold lex_scanner_end.f
        exact st_bind pk0 (st_pos hh (st_bind (by dsimp only; rw [wp]; exact e1) (st_pos rfl (st_bind (by dsimp only; rw [d3]; exact pk1) (st_neg hh2 rfl)))))
  · rw [if_neg h39]
    have hne : ¬ ((bl s).drop (p + 0)).headD 0 = 39 := fun e => h39 ((head_eq s p 39 (by decide)).1 e)
    refine ⟨(p : Int), Ev.congr (f := fun _ => some (0, false, s, (p : Int))) (fun k => ?_) (Ev.now _)⟩
    unfold lex_scanner_end.f
    exact st_bind pk0 (st_neg hne rfl)
/-! lines -/
theorem bl_data (s : ByteArray) : bl s = s.data.toList.map fun b => (b.toNat : Int) := by
  apply List.ext_getElem
  · rw [bl_length]
    simp
  · intro i h1 h2
    rw [bl_get s i (by rwa [bl_length] at h1)]
    rw [bl_length] at h1
    unfold bt
    rw [dif_pos (by simpa using h1)]
    simp
    rfl
theorem ext_data (s : ByteArray) (p : Nat) : (s.extract p s.size).data.toList = s.data.toList.drop p := by
  rw [ByteArray.data_extract, Array.toList_extract]
  have : s.size = s.data.toList.length := by simp
  rw [this]
  simp only [List.extract]
  exact List.take_of_length_le (by simp)
theorem idx_drop : ∀ L : List UInt8, ((L.map fun b => (b.toNat : Int)).dropWhile fun x => !(x == 10)) = (if Lib.indexByte L 10 < 0 then [] else (L.map fun b => (b.toNat : Int)).drop (Lib.indexByte L 10).toNat) ∧ (0 ≤ Lib.indexByte L 10 → (Lib.indexByte L 10).toNat < L.length) ∧ -1 ≤ Lib.indexByte L 10
  | [] => by simp [Lib.indexByte]
  | b :: L => by
    obtain ⟨h1, h2, h3⟩ := idx_drop L
    unfold Lib.indexByte
    by_cases hb : (b == 10) = true
    · have e : b = 10 := beq_iff_eq.1 hb
      subst e
      simp
    · have hb' : (b == 10) = false := by simpa using hb
      have hn : ((b.toNat : Int) == 10) = false := by
        rw [beq_eq_false_iff_ne] at hb' ⊢
        intro e
        apply hb'
        apply UInt8.toNat_inj.1
        have : b.toNat = 10 := by omega
        rw [this]
        rfl
      rw [List.map_cons, List.dropWhile_cons, hn, hb', h1]
      by_cases hm : Lib.indexByte L 10 = -1
      · simp [hm]
      · have hm' : (Lib.indexByte L 10 == -1) = false := by simpa using hm
        have h4 : 0 ≤ Lib.indexByte L 10 := by omega
        have h5 := h2 h4
        rw [hm']
        simp only [Bool.not_false, if_true, Bool.false_eq_true, if_false]
        rw [if_neg (by omega), if_neg (by omega), show (Lib.indexByte L 10 + 1).toNat = (Lib.indexByte L 10).toNat + 1 from by omega]
        refine ⟨by simp, fun _ => by simp; omega, by omega⟩
theorem line_end (s : ByteArray) (p : Nat) (hp : p ≤ s.size) :
    (((bl s).drop p).dropWhile fun x => !(x == 10)) = (if idxB (s.extract p s.size) 10 < 0 then [] else (bl s).drop (p + (idxB (s.extract p s.size) 10).toNat)) ∧ (0 ≤ idxB (s.extract p s.size) 10 → p + (idxB (s.extract p s.size) 10).toNat < s.size) ∧ -1 ≤ idxB (s.extract p s.size) 10 := by
  have h := idx_drop (s.data.toList.drop p)
  unfold idxB
  rw [ext_data, bl_data, ← List.drop_drop, ← List.map_drop]
  have hl : (s.data.toList.drop p).length = s.size - p := by simp
  rw [hl] at h
  exact ⟨h.1, fun q => by have := h.2.1 q; show p + (Lib.indexByte (s.data.toList.drop p) 10).toNat < _; omega, h.2.2⟩
theorem skip_l0 (s : ByteArray) (hs : s.size ≤ 70000) : ∀ (n p : Nat), s.size - p ≤ n → p ≤ s.size → Ev (fun k => lex_scanner_skip.l0 k s (p : Int)) (s, at_ s (skipL ((bl s).drop p))) := by
  intro n
  induction n with
  | zero =>
    intro p hn hp
    rw [bl_nil s p (by omega), skipL]
    refine Ev.step (f := fun _ => some (s, at_ s [])) (fun k => ?_) (Ev.now _)
    simp only [lex_scanner_skip.l0]
    refine st_neg (by omega) ?_
    unfold at_
    rw [List.length_nil, show ((0 : Nat) : Int) = 0 from rfl, show (s.size : Int) - 0 = (p : Int) from by omega]
  | succ n ih =>
    intro p hn hp
    by_cases h : p < s.size
    · rw [bl_cons s p h, skipL]
      have hr := bt_range s (p : Int)
      have hb := idx_blank (bt s (p : Int)) hr.1 hr.2
      have ix : ∀ u c, strings_IndexByte.f u c = some (idxB u c) := IndexByte_eq
      cases hbl : blankI (bt s (p : Int)) with
      | true =>
        rw [if_pos rfl]
        rw [hbl] at hb
        refine Ev.step (f := fun k => lex_scanner_skip.l0 k s ((p + 1 : Nat) : Int)) (fun k => ?_) (ih (p + 1) (by omega) (by omega))
        simp only [lex_scanner_skip.l0]
        refine st_pos (by omega) (st_pos (by omega) (st_bind (ix _ _) (st_pos (of_decide_eq_true hb) ?_)))
        rw [wrap_ok _ (by omega) (by omega)]
        rfl
      | false =>
        rw [if_neg (by simp)]
        rw [hbl] at hb
        have hb' := of_decide_eq_false hb
        by_cases h35 : bt s (p : Int) = 35
        · rw [if_pos h35]
          obtain ⟨l1, l2, l3⟩ := line_end s p hp
          rw [bl_cons s p h, h35, List.dropWhile_cons] at l1
          simp only [show (!((35 : Int) == 10)) = true from by decide, if_true] at l1
          rw [l1]
          by_cases hneg : idxB (s.extract p s.size) 10 < 0
          · rw [if_pos hneg]
            have := ih s.size (by omega) (Nat.le_refl _)
            rw [bl_nil s s.size (Nat.le_refl _)] at this
            refine Ev.step (f := fun k => lex_scanner_skip.l0 k s (s.size : Int)) (fun k => ?_) this
            simp only [lex_scanner_skip.l0]
            refine st_pos (by omega) (st_pos (by omega) (st_bind (ix _ _) (st_neg hb' (st_pos h35 (st_pos (by omega) (st_bind (ix _ _) (st_pos (by rw [Int.toNat_natCast]; exact hneg) ?_)))))))
            rw [wrap_ok ((s.size : Int) - p) (by omega) (by omega), wrap_ok _ (by omega) (by omega)]
            congr 1
            omega
          · rw [if_neg hneg]
            have l2' := l2 (by omega)
            have hpos : 0 < (idxB (s.extract p s.size) 10).toNat := by
              rcases Nat.eq_zero_or_pos (idxB (s.extract p s.size) 10).toNat with e | e
              · rw [e, if_neg hneg, show p + 0 = p from rfl, bl_cons s p h] at l1
                exfalso
                have := congrArg List.length l1
                have h2 := dropWhile_le (fun x => !(x == 10)) ((bl s).drop (p + 1))
                simp only [List.length_cons] at this
                omega
              · exact e
            have := ih (p + (idxB (s.extract p s.size) 10).toNat) (by omega) (by omega)
            refine Ev.step (f := fun k => lex_scanner_skip.l0 k s ((p + (idxB (s.extract p s.size) 10).toNat : Nat) : Int)) (fun k => ?_) this
            simp only [lex_scanner_skip.l0]
            refine st_pos (by omega) (st_pos (by omega) (st_bind (ix _ _) (st_neg hb' (st_pos h35 (st_pos (by omega) (st_bind (ix _ _) (st_neg (by rw [Int.toNat_natCast]; exact hneg) ?_)))))))
            rw [Int.toNat_natCast, wrap_ok _ (by omega) (by omega)]
            congr 1
            omega
        · rw [if_neg h35, ← bl_cons s p h]
          refine Ev.step (f := fun _ => some (s, at_ s ((bl s).drop p))) (fun k => ?_) (Ev.now _)
          simp only [lex_scanner_skip.l0]
          refine st_pos (by omega) (st_pos (by omega) (st_bind (ix _ _) (st_neg hb' (st_neg h35 ?_))))
          rw [at_drop s p hp]
    · exact (ih p (by omega) hp)
end Go.Proofs.Ytmpilejhnolafaa.PPJ
