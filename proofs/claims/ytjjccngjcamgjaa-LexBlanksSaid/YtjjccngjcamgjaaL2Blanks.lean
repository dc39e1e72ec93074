/- LexBlanks: blanks and comments ahead turn nothing but places. -/
import Derived.Test.YtjjccngjcamgjaaL2App
import Derived.Test.YtjjccngjcamgjaaL2Pos
import Derived.Test.YtjjccngjcamgjaaPLCx4
namespace Go.Proofs.Ytjjccngjcamgjaa.PLC
open Go.RowKit Go.Proofs.YtjjccngjcamgjaaW.PrintWords Go.Proofs.YtjjccngjcamgjaaW.PrintLast
set_option linter.unusedVariables false
set_option linter.unusedSimpArgs false
/-- What may stand ahead and turns nothing. -/
def Blk (t : ByteArray) : Prop := ∀ l : BL, skipL (bl t ++ l) = skipL l
theorem blk_nil : Blk (⟨#[]⟩ : ByteArray) := fun l => rfl
theorem blk_app {t y : ByteArray} (h : Blk t) (hy : Blk y) : Blk (t ++ y) := fun l => by rw [bl_app, List.append_assoc, h, hy]
theorem blk_one {t : ByteArray} {c : Int} (e : bl t = [c]) (h : blankI c = true) : Blk t := fun l => by
  rw [e]
  exact skipL_blank h
theorem blk_note {t : ByteArray} {r : BL} (e : bl t = 35 :: r) (h : ∀ l : BL, (r ++ l).dropWhile (fun x => !(x == 10)) = 10 :: l) : Blk t := fun l => by
  rw [e, List.cons_append, skipL_note rfl, h, skipL_blank (by decide)]
def pieces : List ByteArray := [(⟨#[32]⟩ : ByteArray), (⟨#[9]⟩ : ByteArray), (⟨#[10]⟩ : ByteArray), (⟨#[13]⟩ : ByteArray), (⟨#[35, 32, 39, 120, 32, 34, 32, 36, 10]⟩ : ByteArray), (⟨#[35, 10]⟩ : ByteArray)]
theorem piece_ok (i : Int) (h0 : 0 ≤ i) (h1 : i < 6) : Blk (rdOf ByteArray.empty pieces i) ∧ (rdOf ByteArray.empty pieces i).size ≤ 9 := by
  have h : i = 0 ∨ i = 1 ∨ i = 2 ∨ i = 3 ∨ i = 4 ∨ i = 5 := by omega
  rcases h with rfl | rfl | rfl | rfl | rfl | rfl
  · exact ⟨blk_one (c := 32) (by decide) (by decide), by decide⟩
  · exact ⟨blk_one (c := 9) (by decide) (by decide), by decide⟩
  · exact ⟨blk_one (c := 10) (by decide) (by decide), by decide⟩
  · exact ⟨blk_one (c := 13) (by decide) (by decide), by decide⟩
  · exact ⟨blk_note (r := [32, 39, 120, 32, 34, 32, 36, 10]) (by decide) (fun l => rfl), by decide⟩
  · exact ⟨blk_note (r := [10]) (by decide) (fun l => rfl), by decide⟩
theorem six_ok (v : Int) : 0 ≤ wrap64 (Int.tmod (IntKind.u64.wrap v) 6) ∧ wrap64 (Int.tmod (IntKind.u64.wrap v) 6) < 6 := by
  have h : 0 ≤ IntKind.u64.wrap v := by
    simp [IntKind.wrap, IntKind.bits, IntKind.signed]
    omega
  have h1 := Int.tmod_nonneg 6 h
  have h2 := Int.tmod_lt_of_pos (IntKind.u64.wrap v) (b := 6) (by decide)
  generalize Int.tmod (IntKind.u64.wrap v) 6 = m at *
  rw [wrap_ok m (by omega) (by omega)]
  exact ⟨h1, h2⟩
theorem blanks_l1 (t : ByteArray) (ht : t.size ≤ 1000) (us : List (Int × Int × ByteArray × Int × Int)) (hu : us.length ≤ 70000) (hp : ∀ x ∈ us, 0 ≤ x.2.1 ∧ x.2.1 ≤ 70000) :
    ∀ (n p : Nat), us.length - p ≤ n → Ev (fun k => templelaw2_LexBlanks.l1 k t (us.map toTok) ((us.map (movT (t.size : Int))).map toTok) (p : Int)) true := by
  intro n
  induction n with
  | zero =>
    intro p hn
    refine Ev.step (f := fun _ => some true) (fun k => ?_) (Ev.now _)
    simp only [templelaw2_LexBlanks.l1]
    exact st_neg (by rw [List.length_map]; omega) rfl
  | succ n ih =>
    intro p hn
    by_cases h : p < us.length
    · refine Ev.step (fun k => ?_) (ih (p + 1) (by omega))
      simp only [templelaw2_LexBlanks.l1]
      have hb := hp _ (List.getElem_mem (l := us) (n := p) h)
      have e1 := rd_map (movT (t.size : Int)) us p h
      have e2 := rd_one us p h
      have nx : wrap64 ((p : Int) + 1) = ((p + 1 : Nat) : Int) := by rw [wrap_ok _ (by omega) (by omega)]; rfl
      have w3 : wrap64 ((us[p]'h).2.1 + (t.size : Int) - (t.size : Int)) = (us[p]'h).2.1 := by
        rw [wrap_ok _ (by omega) (by omega)]
        omega
      rw [e1, e2, nx]
      clear nx
      refine st_pos (by rw [List.length_map]; omega) (st_pos (by omega) (st_pos (by rw [List.length_map, List.length_map]; omega) (st_neg ?_ rfl)))
      dsimp only [toTok, movT]
      rw [w3]
      simp
    · refine Ev.step (f := fun _ => some true) (fun k => ?_) (Ev.now _)
      simp only [templelaw2_LexBlanks.l1]
      exact st_neg (by rw [List.length_map]; omega) rfl
theorem blanks_j1 (s : ByteArray) (hs : s.size ≤ 5000) (t : ByteArray) (ht : t.size ≤ 1000) (hB : Blk t) : Ev (fun k => templelaw2_LexBlanks.j1 k s t) true := by
  obtain ⟨K1, e1⟩ := lex_ev s
  obtain ⟨K2, e2⟩ := lex_ev (t ++ s)
  have q1 : lexB s = lexR (lexL s.size (bl s)) := by unfold lexB; rw [if_neg (by omega)]
  have sz : (t ++ s).size = s.size + t.size := by rw [ByteArray.size_append]; omega
  have q2 : lexB (t ++ s) = lexR (movR (t.size : Int) (lexL s.size (bl s))) := by
    unfold lexB
    rw [sz, if_neg (by omega), bl_app, lexL_eq (hB (bl s)), lexL_mov t.size s.size (bl s) (s.size + t.size) s.size (by rw [bl_length]; exact Nat.le_refl _) rfl]
  have ps1 := lexL_pos s.size (bl s) s.size (by rw [bl_length]; exact Nat.le_refl _) (by rw [bl_length]; exact Nat.le_refl _)
  cases hS : lexL s.size (bl s) with
  | inr e =>
    rw [hS] at ps1 q1 q2
    dsimp only at ps1
    rw [q1] at e1
    rw [q2] at e2
    refine ⟨K1 + K2 + 1, fun k hk => ?_⟩
    obtain ⟨k, rfl⟩ : ∃ j, k = j + 1 := ⟨k - 1, by omega⟩
    have g1 := e1 k (by omega)
    have g2 := e2 k (by omega)
    dsimp only [lexR, movR] at g1 g2 ⊢
    simp only [templelaw2_LexBlanks.j1]
    refine st_bind g1 (st_pos (by omega) (st_bind g2 (st_bind (num_eq _) (st_neg (by dsimp only; omega) (st_bind (num_eq _) (st_bind (num_eq _) (st_pos rfl ?_)))))))
    dsimp only
    rw [wrap_ok _ (by omega) (by omega)]
    simp
  | inl ts =>
    have ln1 := lexL_len s.size (bl s) s.size (by rw [bl_length]; exact Nat.le_refl _) ts hS
    rw [bl_length] at ln1
    rw [hS] at ps1 q1 q2
    dsimp only at ps1
    rw [q1] at e1
    rw [q2] at e2
    obtain ⟨K3, e3⟩ := blanks_l1 t ht ts (by omega) (fun x hx => ⟨(ps1 x hx).1, by have := (ps1 x hx).2; omega⟩) ts.length 0 (by omega)
    refine ⟨K1 + K2 + K3 + 1, fun k hk => ?_⟩
    obtain ⟨k, rfl⟩ : ∃ j, k = j + 1 := ⟨k - 1, by omega⟩
    have g1 := e1 k (by omega)
    have g2 := e2 k (by omega)
    have g3 := e3 k (by omega)
    dsimp only [lexR, movR] at g1 g2 g3 ⊢
    simp only [templelaw2_LexBlanks.j1]
    exact st_bind g1 (st_pos (by omega) (st_bind g2 (st_bind (num_eq _) (st_pos rfl (st_bind (num_eq _) (st_pos rfl (st_pos (by simp) g3)))))))
theorem blanks_l0 (s : ByteArray) (hs : s.size ≤ 5000) (xs : List Int) : ∀ (n p : Nat) (t : ByteArray), 12 - p ≤ n → p ≤ 12 → t.size ≤ 9 * p → Blk t → Ev (fun k => templelaw2_LexBlanks.l0 k s xs t (p : Int)) true := by
  intro n
  induction n with
  | zero =>
    intro p t hn hp ht hB
    refine Ev.step (fun k => ?_) (blanks_j1 s hs t (by omega) hB)
    simp only [templelaw2_LexBlanks.l0]
    by_cases h : (p : Int) < (xs.length : Int)
    · exact st_pos h (st_neg (by omega) rfl)
    · exact st_neg h rfl
  | succ n ih =>
    intro p t hn hp ht hB
    by_cases h : (p : Int) < (xs.length : Int)
    · by_cases h12 : p < 12
      · have hm := six_ok (rd xs (p : Int))
        have hp2 := piece_ok _ hm.1 hm.2
        have nx : wrap64 ((p : Int) + 1) = ((p + 1 : Nat) : Int) := by rw [wrap_ok _ (by omega) (by omega)]; rfl
        refine Ev.step (fun k => ?_) (ih (p + 1) (t ++ rdOf ByteArray.empty pieces (wrap64 (Int.tmod (IntKind.u64.wrap (rd xs (p : Int))) 6))) (by omega) (by omega) (by rw [ByteArray.size_append]; have := hp2.2; omega) (blk_app hB hp2.1))
        simp only [templelaw2_LexBlanks.l0]
        rw [nx]
        clear nx
        exact st_pos h (st_pos (by omega) (st_bind (a := pieces) rfl (st_pos (by omega) (st_pos hm.1 (st_pos hm.2 (st_pos (by have := hp2.2; omega) rfl))))))
      · refine Ev.step (fun k => ?_) (blanks_j1 s hs t (by omega) hB)
        simp only [templelaw2_LexBlanks.l0]
        exact st_pos h (st_neg (by omega) rfl)
    · refine Ev.step (fun k => ?_) (blanks_j1 s hs t (by omega) hB)
      simp only [templelaw2_LexBlanks.l0]
      exact st_neg h rfl
theorem lexBlanks_pure (s : ByteArray) (xs : List Int) : ∃ k, templelaw2_LexBlanks.f k s xs = some true := by
  obtain ⟨K1, e1⟩ := awake_ev
  by_cases h : (s.size : Int) > 5000
  · refine ⟨K1, ?_⟩
    have g1 := e1 K1 (Nat.le_refl _)
    dsimp only at g1
    unfold templelaw2_LexBlanks.f
    exact st_bind g1 (st_pos rfl (st_pos h rfl))
  · obtain ⟨K2, e2⟩ := blanks_l0 s (by omega) xs 12 0 ⟨#[]⟩ (by omega) (by omega) (by decide) blk_nil
    refine ⟨K1 + K2, ?_⟩
    have g1 := e1 (K1 + K2) (by omega)
    have g2 := e2 (K1 + K2) (by omega)
    dsimp only at g1 g2
    unfold templelaw2_LexBlanks.f
    exact st_bind g1 (st_pos rfl (st_neg h g2))
theorem lexBlanks_Pure : templelaw2_LexBlanks.Pure := fun s xs _ _ _ _ => lexBlanks_pure s xs
end Go.Proofs.Ytjjccngjcamgjaa.PLC
