/- What is left of a text is an end of it. -/
import Derived.Test.YtmpilejhnolafaaLexSpec
set_option linter.unusedVariables false
namespace Go.Proofs.Ytmpilejhnolafaa
theorem txtL_end {l : BL} (h : l.head? = some 34) : txtL l = some ([], l.tail) := by rw [txtL, if_pos h]
theorem txtL_none {l : BL} (h : ¬ l.head? = some 34) (hc : chrL 34 l = none) : txtL l = none := by
  rw [txtL, if_neg h]
  split
  · rfl
  · rename_i y hy
    rw [hc] at hy
    cases hy
theorem txtL_some {l : BL} {x : Int × BL} (h : ¬ l.head? = some 34) (hc : chrL 34 l = some x) : txtL l = (txtL x.2).map fun y => (x.1 :: y.1, y.2) := by
  rw [txtL, if_neg h]
  split
  · rename_i hy
    rw [hc] at hy
    cases hy
  · rename_i y hy
    rw [hc] at hy
    obtain rfl := Option.some.inj hy
    rfl
theorem tail_suf (l : BL) : l.tail <:+ l := List.tail_suffix l
theorem escL_suf {l r : BL} {c : Int} (h : escL l = some (c, r)) : r <:+ l := by
  cases l with
  | nil => simp [escL] at h
  | cons x xs =>
    dsimp only [escL] at h
    split at h
    · simp only [Option.some.injEq, Prod.mk.injEq] at h
      rw [← h.2]
      exact List.suffix_cons x xs
    · split at h
      · split at h
        · rename_i a b r'
          split at h
          · simp only [Option.some.injEq, Prod.mk.injEq] at h
            rw [← h.2]
            exact ((List.suffix_cons b r').trans (List.suffix_cons a _)).trans (List.suffix_cons x _)
          · cases h
        · cases h
      · cases h
theorem chrL_suf {q : Int} {l r : BL} {c : Int} (h : chrL q l = some (c, r)) : r <:+ l := by
  cases l with
  | nil => simp [chrL] at h
  | cons x xs =>
    dsimp only [chrL] at h
    split at h
    · exact (escL_suf h).trans (List.suffix_cons x xs)
    · split at h
      · cases h
      · simp only [Option.some.injEq, Prod.mk.injEq] at h
        rw [← h.2]
        exact List.suffix_cons x xs
theorem txtL_suf : ∀ (n : Nat) (l r : BL) (x : List Int), l.length ≤ n → txtL l = some (x, r) → r <:+ l
  | n, l, r, x, hn, h => by
    rw [txtL] at h
    split at h
    · simp only [Option.some.injEq, Prod.mk.injEq] at h
      rw [← h.2]
      exact tail_suf l
    · split at h
      · cases h
      · rename_i y hy
        have h2 := chrL_lt (c := y.1) (r := y.2) hy
        have h3 := chrL_suf (c := y.1) (r := y.2) hy
        rw [Option.map_eq_some_iff] at h
        obtain ⟨z, hz, h⟩ := h
        simp only [Prod.mk.injEq] at h
        match n with
        | 0 => exact absurd h2 (by omega)
        | n + 1 =>
          rw [← h.2]
          exact (txtL_suf n y.2 z.2 z.1 (by omega) hz).trans h3
theorem endL_suf {l r : BL} {c : Int} (h : endL l = some (c, r)) : r <:+ l := by
  unfold endL at h
  split at h
  · split at h
    · cases h
    · rename_i x hx
      have t2 := chrL_suf (c := x.1) (r := x.2) hx
      split at h
      · simp only [Option.some.injEq, Prod.mk.injEq] at h
        rw [← h.2]
        exact ((tail_suf _).trans t2).trans (tail_suf _)
      · cases h
  · cases h
theorem rngL_suf {l r : BL} {a b : Int} (h : rngL l = some (a, b, r)) : r <:+ l := by
  unfold rngL at h
  split at h
  · cases h
  · rename_i x hx
    have t1 := endL_suf (c := x.1) (r := x.2) hx
    split at h
    · rw [Option.map_eq_some_iff] at h
      obtain ⟨z, hz, h⟩ := h
      have t4 := endL_suf (c := z.1) (r := z.2) hz
      simp only [Prod.mk.injEq] at h
      rw [← h.2.2]
      exact ((t4.trans (tail_suf _)).trans (tail_suf _)).trans t1
    · simp only [Option.some.injEq, Prod.mk.injEq] at h
      rw [← h.2.2]
      exact t1
theorem dropWhile_suf (p : Int → Bool) : ∀ l : BL, l.dropWhile p <:+ l
  | [] => by simp
  | x :: xs => by
    rw [List.dropWhile_cons]
    split
    · exact (dropWhile_suf p xs).trans (List.suffix_cons x xs)
    · exact List.suffix_refl _
theorem skipL_suf : ∀ (n : Nat) (l : BL), l.length ≤ n → skipL l <:+ l
  | n, [], _ => by simp [skipL]
  | n, c :: r, hn => by
    simp only [List.length_cons] at hn
    match n with
    | 0 => omega
    | n + 1 =>
      rw [skipL]
      split
      · exact (skipL_suf n r (by omega)).trans (List.suffix_cons c r)
      · split
        · have h1 := dropWhile_le (fun x => !(x == 10)) r
          exact ((skipL_suf n _ (by omega)).trans (dropWhile_suf _ r)).trans (List.suffix_cons c r)
        · exact List.suffix_refl _
theorem tokL_suf {l r : BL} {k : Int} {t : ByteArray} {lo hi : Int} (h : tokL l = .inl (k, t, lo, hi, r)) : r <:+ l := by
  cases l with
  | nil => simp [tokL] at h
  | cons c cs =>
    dsimp only [tokL] at h
    split at h
    · simp only [Sum.inl.injEq, Prod.mk.injEq] at h
      rw [← h.2.2.2.2]
      exact List.suffix_cons c cs
    · split at h
      · split at h
        · cases h
        · rename_i x hx
          have := txtL_suf cs.length cs x.2 x.1 (Nat.le_refl _) hx
          simp only [Sum.inl.injEq, Prod.mk.injEq] at h
          rw [← h.2.2.2.2]
          exact this.trans (List.suffix_cons c cs)
      · split at h
        · split at h
          · cases h
          · rename_i x hx
            have := rngL_suf (a := x.1) (b := x.2.1) (r := x.2.2) hx
            simp only [Sum.inl.injEq, Prod.mk.injEq] at h
            rw [← h.2.2.2.2]
            exact this
        · split at h
          · split at h
            · cases h
            · split at h
              all_goals
                simp only [Sum.inl.injEq, Prod.mk.injEq] at h
                rw [← h.2.2.2.2]
                exact dropWhile_suf _ _
          · cases h
end Go.Proofs.Ytmpilejhnolafaa
