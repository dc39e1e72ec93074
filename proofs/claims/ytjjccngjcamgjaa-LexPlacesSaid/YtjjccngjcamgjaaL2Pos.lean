/- Where tokens stand; the row of tokens read. -/
import Derived.Test.YtjjccngjcamgjaaL2App
namespace Go.Proofs.Ytjjccngjcamgjaa.PLD
open Go.RowKit Go.Proofs.YtjjccngjcamgjaaW.PrintWords Go.Proofs.YtjjccngjcamgjaaW.PrintLast
set_option linter.unusedVariables false
set_option linter.unusedSimpArgs false
theorem tokL_err {l : BL} {e : Int} (h : tokL l = .inr e) : e = 200 ∨ e = 201 := by
  cases l with
  | nil =>
    cases h
    exact .inl rfl
  | cons c r =>
    dsimp only [tokL] at h
    split at h
    · cases h
    split at h
    · split at h <;> cases h
      exact .inr rfl
    split at h
    · split at h <;> cases h
      exact .inr rfl
    split at h
    · split at h
      · cases h
        exact .inr rfl
      · split at h <;> cases h
    · cases h
      exact .inl rfl
theorem lexL_pos : ∀ (n : Nat) (l : BL) (N : Nat), l.length ≤ n → l.length ≤ N →
    match lexL N l with
    | .inl ts => ∀ x ∈ ts, 0 ≤ x.2.1 ∧ x.2.1 < (N : Int)
    | .inr e => 0 ≤ e.1 ∧ e.1 ≤ (N : Int) ∧ (e.2 = 200 ∨ e.2 = 201) := by
  intro n
  induction n with
  | zero =>
    intro l N hn hN
    obtain rfl : l = [] := List.length_eq_zero_iff.1 (by omega)
    rw [lexL_end skipL_nil]
    intro x hx
    cases hx
  | succ n ih =>
    intro l N hn hN
    by_cases h0 : skipL l = []
    · rw [lexL_end h0]
      intro x hx
      cases hx
    · have hle := skipL_le l.length l (Nat.le_refl _)
      have hlen : 0 < (skipL l).length := List.length_pos_iff.2 h0
      cases hx : tokL (skipL l) with
      | inr e =>
        rw [lexL_bad h0 hx]
        exact ⟨by dsimp only; omega, by dsimp only; omega, tokL_err hx⟩
      | inl x =>
        have hlt := tokL_lt (k := x.1) (t := x.2.1) (lo := x.2.2.1) (hi := x.2.2.2.1) (r := x.2.2.2.2) hx
        have h2 := ih x.2.2.2.2 N (by omega) (by omega)
        rw [lexL_tok h0 hx]
        cases hy : lexL N x.2.2.2.2 with
        | inr e =>
          rw [hy] at h2
          exact h2
        | inl ys =>
          rw [hy] at h2
          intro z hz
          rcases List.mem_cons.1 hz with rfl | hz
          · exact ⟨by dsimp only; omega, by dsimp only; omega⟩
          · exact h2 z hz
theorem rd_left (A B : List Tok) (i : Nat) (h : i < A.length) : rd_T33 (A ++ B) (i : Int) = rd_T33 A (i : Int) := by
  unfold rd_T33
  rw [Int.toNat_natCast, List.getD_eq_getElem?_getD, List.getD_eq_getElem?_getD, List.getElem?_append_left h]
theorem rd_right (A B : List Tok) (i : Nat) (h : A.length ≤ i) : rd_T33 (A ++ B) (i : Int) = rd_T33 B ((i - A.length : Nat) : Int) := by
  unfold rd_T33
  rw [Int.toNat_natCast, Int.toNat_natCast, List.getD_eq_getElem?_getD, List.getD_eq_getElem?_getD, List.getElem?_append_right h]
theorem rd_map (f : Int × Int × ByteArray × Int × Int → Int × Int × ByteArray × Int × Int) (us : List (Int × Int × ByteArray × Int × Int)) (i : Nat) (h : i < us.length) : rd_T33 ((us.map f).map toTok) (i : Int) = toTok (f us[i]) := by
  unfold rd_T33
  rw [Int.toNat_natCast, List.getD_eq_getElem?_getD, List.getElem?_eq_getElem (by simpa using h)]
  simp
theorem rd_one (us : List (Int × Int × ByteArray × Int × Int)) (i : Nat) (h : i < us.length) : rd_T33 (us.map toTok) (i : Int) = toTok us[i] := by
  have := rd_map id us i h
  rwa [List.map_id] at this
end Go.Proofs.Ytjjccngjcamgjaa.PLD
