/- LexJoins: tokens of two texts with a line's end between. -/
import Derived.Test.YtjjccngjcamgjaaL2App
import Derived.Test.YtjjccngjcamgjaaPLBx4
namespace Go.Proofs.Ytjjccngjcamgjaa.PLB
open Go.RowKit Go.Proofs.YtjjccngjcamgjaaW.PrintWords Go.Proofs.YtjjccngjcamgjaaW.PrintLast
set_option linter.unusedVariables false
set_option linter.unusedSimpArgs false
theorem tokL_err {l : BL} {e : Int} (h : tokL l = .inr e) : e = 200 ∨ e = 201 := by
  cases l with
  | nil =>
    cases h
    exact .inl rfl
  | cons c r =>
    dsimp only [tokL] at h
    split at h
    · cases h
    split at h
    · split at h <;> cases h
      exact .inr rfl
    split at h
    · split at h <;> cases h
      exact .inr rfl
    split at h
    · split at h
      · cases h
        exact .inr rfl
      · split at h <;> cases h
    · cases h
      exact .inl rfl
theorem lexL_pos : ∀ (n : Nat) (l : BL) (N : Nat), l.length ≤ n → l.length ≤ N →
    match lexL N l with
    | .inl ts => ∀ x ∈ ts, 0 ≤ x.2.1 ∧ x.2.1 < (N : Int)
    | .inr e => 0 ≤ e.1 ∧ e.1 ≤ (N : Int) ∧ (e.2 = 200 ∨ e.2 = 201) := by
  intro n
  induction n with
  | zero =>
    intro l N hn hN
    obtain rfl : l = [] := List.length_eq_zero_iff.1 (by omega)
    rw [lexL_end skipL_nil]
    intro x hx
    cases hx
  | succ n ih =>
    intro l N hn hN
    by_cases h0 : skipL l = []
    · rw [lexL_end h0]
      intro x hx
      cases hx
    · have hle := skipL_le l.length l (Nat.le_refl _)
      have hlen : 0 < (skipL l).length := List.length_pos_iff.2 h0
      cases hx : tokL (skipL l) with
      | inr e =>
        rw [lexL_bad h0 hx]
        exact ⟨by dsimp only; omega, by dsimp only; omega, tokL_err hx⟩
      | inl x =>
        have hlt := tokL_lt (k := x.1) (t := x.2.1) (lo := x.2.2.1) (hi := x.2.2.2.1) (r := x.2.2.2.2) hx
        have h2 := ih x.2.2.2.2 N (by omega) (by omega)
        rw [lexL_tok h0 hx]
        cases hy : lexL N x.2.2.2.2 with
        | inr e =>
          rw [hy] at h2
          exact h2
        | inl ys =>
          rw [hy] at h2
          intro z hz
          rcases List.mem_cons.1 hz with rfl | hz
          · exact ⟨by dsimp only; omega, by dsimp only; omega⟩
          · exact h2 z hz
theorem rd_left (A B : List Tok) (i : Nat) (h : i < A.length) : rd_T33 (A ++ B) (i : Int) = rd_T33 A (i : Int) := by
  unfold rd_T33
  rw [Int.toNat_natCast, List.getD_eq_getElem?_getD, List.getD_eq_getElem?_getD, List.getElem?_append_left h]
theorem rd_right (A B : List Tok) (i : Nat) (h : A.length ≤ i) : rd_T33 (A ++ B) (i : Int) = rd_T33 B ((i - A.length : Nat) : Int) := by
  unfold rd_T33
  rw [Int.toNat_natCast, Int.toNat_natCast, List.getD_eq_getElem?_getD, List.getD_eq_getElem?_getD, List.getElem?_append_right h]
theorem rd_map (f : Int × Int × ByteArray × Int × Int → Int × Int × ByteArray × Int × Int) (us : List (Int × Int × ByteArray × Int × Int)) (i : Nat) (h : i < us.length) : rd_T33 ((us.map f).map toTok) (i : Int) = toTok (f us[i]) := by
  unfold rd_T33
  rw [Int.toNat_natCast, List.getD_eq_getElem?_getD, List.getElem?_eq_getElem (by simpa using h)]
  simp
theorem rd_one (us : List (Int × Int × ByteArray × Int × Int)) (i : Nat) (h : i < us.length) : rd_T33 (us.map toTok) (i : Int) = toTok us[i] := by
  have := rd_map id us i h
  rwa [List.map_id] at this
theorem joins_l0 (s : ByteArray) (hs : s.size ≤ 65536) (A : List Tok) (us : List (Int × Int × ByteArray × Int × Int)) (hA : A.length ≤ 70000) (hu : us.length ≤ 70000) (hp : ∀ x ∈ us, 0 ≤ x.2.1 ∧ x.2.1 ≤ 70000) :
    ∀ (n p : Nat), (A.length + us.length) - p ≤ n → Ev (fun k => templelaw2_LexJoins.l0 k s A (us.map toTok) (A ++ (us.map (movT ((s.size + 1 : Nat) : Int))).map toTok) (p : Int)) true := by
  intro n
  have hl : (A ++ (us.map (movT ((s.size + 1 : Nat) : Int))).map toTok).length = A.length + us.length := by simp
  induction n with
  | zero =>
    intro p hn
    refine Ev.step (f := fun _ => some true) (fun k => ?_) (Ev.now _)
    simp only [templelaw2_LexJoins.l0]
    exact st_neg (by rw [hl]; omega) rfl
  | succ n ih =>
    intro p hn
    by_cases h : p < A.length + us.length
    · refine Ev.step (fun k => ?_) (ih (p + 1) (by omega))
      simp only [templelaw2_LexJoins.l0]
      have w : wrap64 ((p : Int) + 1) = ((p + 1 : Nat) : Int) := by rw [wrap_ok _ (by omega) (by omega)]; rfl
      rw [w]
      refine st_pos (by rw [hl]; omega) (st_pos (by omega) ?_)
      by_cases h2 : p < A.length
      · refine st_pos (by omega) (st_neg ?_ rfl)
        rw [rd_left A _ p h2]
        simp
      · have w2 : wrap64 ((p : Int) - (A.length : Int)) = ((p - A.length : Nat) : Int) := by rw [wrap_ok _ (by omega) (by omega)]; omega
        refine st_neg (by omega) ?_
        rw [w2, rd_right A _ p (by omega), rd_map _ _ _ (by omega), rd_one _ _ (by omega)]
        have hb := hp _ (List.getElem_mem (l := us) (n := p - A.length) (by omega))
        refine st_pos (by omega) (st_pos (by rw [List.length_map]; omega) (st_neg ?_ rfl))
        dsimp only [toTok, movT]
        have w3 : wrap64 (wrap64 ((us[p - A.length]'(by omega)).2.1 + ((s.size + 1 : Nat) : Int) - (s.size : Int)) - 1) = (us[p - A.length]'(by omega)).2.1 := by
          rw [wrap_ok (_ - (s.size : Int)) (by omega) (by omega), wrap_ok _ (by omega) (by omega)]
          omega
        rw [w3]
        simp
    · refine Ev.step (f := fun _ => some true) (fun k => ?_) (Ev.now _)
      simp only [templelaw2_LexJoins.l0]
      exact st_neg (by rw [hl]; omega) rfl
theorem joins_size (s t : ByteArray) : ((s ++ (⟨#[10]⟩ : ByteArray)) ++ t).size = s.size + 1 + t.size := by
  rw [ByteArray.size_append, ByteArray.size_append]
  rfl
theorem joins_bl (s t : ByteArray) : bl ((s ++ (⟨#[10]⟩ : ByteArray)) ++ t) = bl s ++ 10 :: bl t := by
  rw [bl_app, bl_app, List.append_assoc]
  rfl
theorem lexJoins_pure (s : ByteArray) (hs : s.size ≤ 140737488351232) (t : ByteArray) (ht : t.size ≤ 140737488351232) : ∃ k, templelaw2_LexJoins.f k s t = some true := by
  obtain ⟨K1, e1⟩ := awake_ev
  obtain ⟨K2, e2⟩ := lex_ev s
  obtain ⟨K3, e3⟩ := lex_ev t
  obtain ⟨K4, e4⟩ := lex_ev ((s ++ (⟨#[10]⟩ : ByteArray)) ++ t)
  have go : ∀ b, b = (if (lexB s).2.2 = 0 then decide ((s.size : Int) ≥ wrap64 (65536 - (t.size : Int))) else true) →
      Ev (fun k => templelaw2_LexJoins.j0 k s (lexB s).1 (lexB t).1 (lexB t).2.1 (lexB t).2.2 (lexB ((s ++ (⟨#[10]⟩ : ByteArray)) ++ t)).1 (lexB ((s ++ (⟨#[10]⟩ : ByteArray)) ++ t)).2.1 (lexB ((s ++ (⟨#[10]⟩ : ByteArray)) ++ t)).2.2 b) true → ∃ k, templelaw2_LexJoins.f k s t = some true := by
    rintro b hb ⟨K5, e5⟩
    refine ⟨K1 + K2 + K3 + K4 + K5, ?_⟩
    have g1 := e1 (K1 + K2 + K3 + K4 + K5) (by omega)
    have g2 := e2 (K1 + K2 + K3 + K4 + K5) (by omega)
    have g3 := e3 (K1 + K2 + K3 + K4 + K5) (by omega)
    have g4 := e4 (K1 + K2 + K3 + K4 + K5) (by omega)
    have g5 := e5 (K1 + K2 + K3 + K4 + K5) (by omega)
    have z1 : (s ++ (⟨#[10]⟩ : ByteArray)).size = s.size + 1 := by rw [ByteArray.size_append]; rfl
    dsimp only at g1 g2 g3 g4 g5
    unfold templelaw2_LexJoins.f
    refine st_bind g1 (st_pos rfl (st_bind g2 (st_bind g3 (st_pos (by omega) (st_pos (by omega) (st_bind g4 (st_bind (num_eq _) ?_)))))))
    by_cases h0 : (lexB s).2.2 = 0
    · rw [if_pos h0] at hb
      refine st_pos h0 ?_
      rw [hb] at g5
      exact g5
    · rw [if_neg h0] at hb
      refine st_neg h0 ?_
      rw [hb] at g5
      exact g5
  have yes : Ev (fun k => templelaw2_LexJoins.j0 k s (lexB s).1 (lexB t).1 (lexB t).2.1 (lexB t).2.2 (lexB ((s ++ (⟨#[10]⟩ : ByteArray)) ++ t)).1 (lexB ((s ++ (⟨#[10]⟩ : ByteArray)) ++ t)).2.1 (lexB ((s ++ (⟨#[10]⟩ : ByteArray)) ++ t)).2.2 true) true := by
    refine Ev.step (f := fun _ => some true) (fun k => ?_) (Ev.now _)
    simp only [templelaw2_LexJoins.j0]
    exact st_pos trivial rfl
  by_cases h0 : (lexB s).2.2 = 0
  · by_cases h1 : (s.size : Int) ≥ wrap64 (65536 - (t.size : Int))
    · exact go true (by rw [if_pos h0, decide_eq_true h1]) yes
    · refine go false (by rw [if_pos h0, decide_eq_false h1]) ?_
      rw [wrap_ok _ (by omega) (by omega)] at h1
      have q1 : lexB s = lexR (lexL s.size (bl s)) := by unfold lexB; rw [if_neg (by omega)]
      have q2 : lexB t = lexR (lexL t.size (bl t)) := by unfold lexB; rw [if_neg (by omega)]
      have q3 : lexB ((s ++ (⟨#[10]⟩ : ByteArray)) ++ t) = lexR (lexL (s.size + 1 + t.size) (bl s ++ 10 :: bl t)) := by
        unfold lexB
        rw [joins_size, joins_bl, if_neg (by omega)]
      have ps1 := lexL_pos s.size (bl s) s.size (by rw [bl_length]; exact Nat.le_refl _) (by rw [bl_length]; exact Nat.le_refl _)
      have ps2 := lexL_pos t.size (bl t) t.size (by rw [bl_length]; exact Nat.le_refl _) (by rw [bl_length]; exact Nat.le_refl _)
      cases hS : lexL s.size (bl s) with
      | inr e =>
        rw [hS] at ps1 q1
        rw [q1] at h0
        dsimp only [lexR] at h0 ps1
        omega
      | inl ts =>
        have ln1 := lexL_len s.size (bl s) s.size (by rw [bl_length]; exact Nat.le_refl _) ts hS
        rw [bl_length] at ln1
        have hj := lexL_join (bl t) s.size (bl s) (s.size + 1 + t.size) s.size ts (by rw [bl_length]; exact Nat.le_refl _) (by rw [bl_length]) hS
        rw [lexL_mov (s.size + 1) t.size (bl t) (s.size + 1 + t.size) t.size (by rw [bl_length]; exact Nat.le_refl _) (by omega)] at hj
        rw [hj] at q3
        rw [hS] at q1
        rw [q1, q2, q3]
        cases hT : lexL t.size (bl t) with
        | inr e =>
          rw [hT] at ps2
          dsimp only at ps2
          refine Ev.step (f := fun _ => some true) (fun k => ?_) (Ev.now _)
          simp only [templelaw2_LexJoins.j0]
          dsimp only [lexR, movR, joinR]
          refine st_neg (by simp) (st_bind (num_eq _) (st_neg (by omega) (st_bind (num_eq _) (st_bind (num_eq _) (st_pos rfl (st_pos ?_ rfl))))))
          rw [wrap_ok (e.1 + _) (by omega) (by omega), wrap_ok _ (by omega) (by omega)]
          omega
        | inl us =>
          have ln2 := lexL_len t.size (bl t) t.size (by rw [bl_length]; exact Nat.le_refl _) us hT
          rw [bl_length] at ln2
          rw [hT] at ps2
          dsimp only at ps2
          have hl := joins_l0 s (by omega) (ts.map toTok) us (by rw [List.length_map]; omega) (by omega) (fun x hx => ⟨(ps2 x hx).1, by have := (ps2 x hx).2; omega⟩) (ts.length + us.length) 0 (by rw [List.length_map]; omega)
          refine Ev.step (fun k => ?_) hl
          simp only [templelaw2_LexJoins.j0]
          dsimp only [lexR, movR, joinR]
          refine st_neg (by simp) (st_bind (num_eq _) (st_pos rfl (st_bind (num_eq _) (st_pos rfl (st_pos ?_ ?_)))))
          · rw [wrap_ok _ (by simp; omega) (by simp; omega)]
            simp
          · rw [List.map_append]
            rfl
  · exact go true (by rw [if_neg h0]) yes
end Go.Proofs.Ytjjccngjcamgjaa.PLB
