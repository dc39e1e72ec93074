/- Tokens are the same as themselves; the program wakes. -/
import Derived.Test.YtjjccngjcamgjaaL2Lex2
import Derived.Test.YtjjccngjcamgjaaPLDx4
import Derived.Test.YtjjccngjcamgjaaPLDx4
namespace Go.Proofs.Ytjjccngjcamgjaa.PLD
open Go.RowKit Go.Proofs.YtjjccngjcamgjaaW.PrintWords Go.Proofs.YtjjccngjcamgjaaW.PrintLast
set_option linter.unusedVariables false
set_option linter.unusedSimpArgs false
theorem awake_ok : templelaw2_awake.f 200 = some true := by decide +kernel
theorem awake_ev : Ev (fun k => templelaw2_awake.f k) true := ⟨200, fun k hk => by
  obtain ⟨d, rfl⟩ : ∃ d, k = 200 + d := ⟨k - 200, by omega⟩
  clear hk
  dsimp only
  induction d with
  | zero => exact awake_ok
  | succ d ih => exact templelaw2_awake.mono (200 + d) _ ih⟩
theorem same_l0 (x : List Tok) (hx : x.length ≤ 100000) : ∀ (n p : Nat), x.length - p ≤ n → Ev (fun k => templelaw0_SameTokens.l0 k x x (p : Int)) true := by
  intro n
  induction n with
  | zero =>
    intro p hp
    refine Ev.step (f := fun _ => some true) (fun k => ?_) (Ev.now _)
    simp only [templelaw0_SameTokens.l0]
    exact st_neg (by omega) rfl
  | succ n ih =>
    intro p hp
    by_cases h : p < x.length
    · refine Ev.step (fun k => ?_) (ih (p + 1) (by omega))
      simp only [templelaw0_SameTokens.l0]
      refine st_pos (by omega) (st_pos (by omega) (st_pos (by omega) (st_neg (by simp) ?_)))
      have w : wrap64 ((p : Int) + 1) = ((p + 1 : Nat) : Int) := by rw [wrap_ok _ (by omega) (by omega)]; rfl
      rw [w]
    · exact ih p (by omega)
theorem same_refl (x : List Tok) (hx : x.length ≤ 100000) : Ev (fun k => templelaw0_SameTokens.f k x x) true := by
  refine Ev.congr (fun k => ?_) (same_l0 x hx x.length 0 (by omega))
  unfold templelaw0_SameTokens.f
  exact st_pos rfl rfl
theorem lexL_len : ∀ (n : Nat) (l : BL) (N : Nat), l.length ≤ n → ∀ ts, lexL N l = .inl ts → ts.length ≤ l.length := by
  intro n
  induction n with
  | zero =>
    intro l N hn ts h
    obtain rfl : l = [] := List.length_eq_zero_iff.1 (by omega)
    rw [lexL_end (by rw [skipL])] at h
    cases h
    exact Nat.le_refl _
  | succ n ih =>
    intro l N hn ts h
    by_cases h0 : skipL l = []
    · rw [lexL_end h0] at h
      cases h
      exact Nat.zero_le _
    · have hle := skipL_le l.length l (Nat.le_refl _)
      cases hx : tokL (skipL l) with
      | inr e =>
        rw [lexL_bad h0 hx] at h
        cases h
      | inl x =>
        have hlt := tokL_lt (k := x.1) (t := x.2.1) (lo := x.2.2.1) (hi := x.2.2.2.1) (r := x.2.2.2.2) hx
        rw [lexL_tok h0 hx] at h
        cases hy : lexL N x.2.2.2.2 with
        | inr e =>
          rw [hy] at h
          cases h
        | inl ys =>
          rw [hy] at h
          cases h
          have := ih x.2.2.2.2 N (by omega) ys hy
          rw [List.length_cons]
          omega
theorem lexB_len (s : ByteArray) : (lexB s).1.length ≤ 65536 := by
  unfold lexB
  split
  · exact Nat.zero_le _
  · cases h : lexL s.size (bl s) with
    | inr e => exact Nat.zero_le _
    | inl ts =>
      have := lexL_len (bl s).length (bl s) s.size (Nat.le_refl _) ts h
      rw [bl_length] at this
      dsimp only [lexR]
      rw [List.length_map]
      omega
theorem num_eq (x : Int) : templelaw0_Num.f x = some x := rfl
end Go.Proofs.Ytjjccngjcamgjaa.PLD
