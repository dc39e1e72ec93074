/- LexNames: names are as long as they may be. -/
import Derived.Test.YtjjccngjcamgjaaL2Text
import Derived.Test.YtjjccngjcamgjaaPLCx5
namespace Go.Proofs.Ytjjccngjcamgjaa.PLC
open Go.RowKit Go.Proofs.YtjjccngjcamgjaaW.PrintWords Go.Proofs.YtjjccngjcamgjaaW.PrintLast
set_option linter.unusedVariables false
set_option linter.unusedSimpArgs false
def sixB : ByteArray := ⟨#[97, 90, 95, 113, 48, 57]⟩
theorem six_more (i : Int) (h0 : 0 ≤ i) (h1 : i < 6) : moreI (bt sixB i) = true ∧ 0 ≤ bt sixB i ∧ bt sixB i ≤ 255 := by
  have h : i = 0 ∨ i = 1 ∨ i = 2 ∨ i = 3 ∨ i = 4 ∨ i = 5 := by omega
  rcases h with rfl | rfl | rfl | rfl | rfl | rfl <;> exact ⟨by decide, by decide, by decide⟩
/-- The tokens of such a text. -/
theorem name_toks (r : BL) (hr : ∀ x ∈ r, moreI x = true) (N : Nat) (hN : N = r.length + 3) :
    lexL N (32 :: 110 :: (r ++ [59])) = if 32 < r.length + 1 then .inr (1, 201) else .inl [(0, 1, strOfNums (110 :: r), 0, 0), (8, (r.length : Int) + 2, ⟨#[]⟩, 0, 0)] := by
  have hs : skipL (32 :: 110 :: (r ++ [59])) = 110 :: (r ++ [59]) := by rw [skipL_blank (by decide), skipL_stop (by decide) (by decide)]
  have h0 : skipL (32 :: 110 :: (r ++ [59])) ≠ [] := by rw [hs]; simp
  have ha := takeWhile_app moreI [59] (by intro c hc; cases hc; decide) (110 :: r)
  have hb := tw_all moreI (110 :: r) (by intro x hx; rcases List.mem_cons.1 hx with rfl | hx; decide; exact hr x hx)
  rw [hb.1, hb.2, List.nil_append, List.cons_append] at ha
  have hl : (110 :: r).length = r.length + 1 := rfl
  have hne : strOfNums (110 :: r) ≠ ⟨#[115, 116, 97, 114, 116]⟩ := by
    intro h
    have := congrArg (fun s : ByteArray => s.data.toList.head?) h
    simp [strOfNums] at this
  by_cases h32 : 32 < r.length + 1
  · rw [if_pos h32, lexL_bad (e := 201) h0 (by
      rw [hs]
      dsimp only [tokL]
      rw [if_neg (by decide), if_neg (by decide), if_neg (by decide), if_pos (by decide), ha.1, hl, if_pos h32])]
    rw [hs]
    congr 2
    simp
    omega
  · rw [if_neg h32, lexL_tok (x := (0, strOfNums (110 :: r), 0, 0, [59])) h0 (by
      rw [hs]
      dsimp only [tokL]
      rw [if_neg (by decide), if_neg (by decide), if_neg (by decide), if_pos (by decide), ha.1, ha.2, hl, if_neg h32, if_neg hne])]
    dsimp only
    have hs2 : skipL [59] = [59] := skipL_stop (by decide) (by decide)
    rw [lexL_tok (l := [59]) (x := (8, ⟨#[]⟩, 0, 0, [])) (by rw [hs2]; simp) (by rw [hs2]; rfl), lexL_end skipL_nil, hs, hs2]
    dsimp only
    congr 2
    · congr 2
      simp
      omega
    · congr 3
      simp
      omega
theorem names_l0 (a1 : Int) (kk : Nat) (h1 : 1 ≤ kk) (h64 : kk ≤ 64) : ∀ (n p : Nat) (t : ByteArray), kk - p ≤ n → p ≤ kk → t.size = p → (∀ x ∈ bl t, moreI x = true) → Ev (fun k => templelaw2_LexNames.l0 k a1 (kk : Int) t (p : Int)) true := by
  have fin : ∀ t : ByteArray, t.size = kk → (∀ x ∈ bl t, moreI x = true) → Ev (fun k => templelaw2_LexNames.l0 k a1 (kk : Int) t (kk : Int)) true := by
    intro t ht hm
    have z1 : (t.extract 1 t.size).size = kk - 1 := by rw [ByteArray.size_extract, ht]; omega
    have z2 : ((⟨#[110]⟩ : ByteArray) ++ (t.extract 1 t.size)).size = kk := by rw [ByteArray.size_append, z1]; show 1 + (kk - 1) = kk; omega
    have z3 : ((⟨#[32]⟩ : ByteArray) ++ ((⟨#[110]⟩ : ByteArray) ++ (t.extract 1 t.size))).size = kk + 1 := by rw [ByteArray.size_append, z2]; show 1 + kk = kk + 1; omega
    have z4 : (((⟨#[32]⟩ : ByteArray) ++ ((⟨#[110]⟩ : ByteArray) ++ (t.extract 1 t.size))) ++ (⟨#[59]⟩ : ByteArray)).size = kk + 2 := by rw [ByteArray.size_append, z3]; rfl
    have hb : bl ((⟨#[110]⟩ : ByteArray) ++ (t.extract 1 t.size)) = 110 :: (bl t).drop 1 := by
      rw [bl_app, bl_tail, show bl (⟨#[110]⟩ : ByteArray) = [110] from by decide]
      rfl
    have hT : bl (((⟨#[32]⟩ : ByteArray) ++ ((⟨#[110]⟩ : ByteArray) ++ (t.extract 1 t.size))) ++ (⟨#[59]⟩ : ByteArray)) = 32 :: 110 :: ((bl t).drop 1 ++ [59]) := by
      rw [bl_app, bl_app, hb, show bl (⟨#[32]⟩ : ByteArray) = [32] from by decide, show bl (⟨#[59]⟩ : ByteArray) = [59] from by decide]
      rfl
    have hlen : ((bl t).drop 1).length = kk - 1 := by rw [List.length_drop, bl_length, ht]
    have htx : (⟨#[110]⟩ : ByteArray) ++ (t.extract 1 t.size) = strOfNums (110 :: (bl t).drop 1) := by rw [← hb, str_bl]
    have hlx := name_toks ((bl t).drop 1) (fun x hx => hm x (List.mem_of_mem_drop hx)) (kk + 2) (by omega)
    have hB : lexB (((⟨#[32]⟩ : ByteArray) ++ ((⟨#[110]⟩ : ByteArray) ++ (t.extract 1 t.size))) ++ (⟨#[59]⟩ : ByteArray)) = lexR (if 32 < kk then .inr (1, 201) else .inl [(0, 1, (⟨#[110]⟩ : ByteArray) ++ (t.extract 1 t.size), 0, 0), (8, (kk : Int) + 1, ⟨#[]⟩, 0, 0)]) := by
      unfold lexB
      rw [z4, if_neg (by omega), hT, hlx, hlen, show kk - 1 + 1 = kk from by omega, htx, show ((kk - 1 : Nat) : Int) + 2 = (kk : Int) + 1 from by omega]
    obtain ⟨K, e⟩ := lex_ev (((⟨#[32]⟩ : ByteArray) ++ ((⟨#[110]⟩ : ByteArray) ++ (t.extract 1 t.size))) ++ (⟨#[59]⟩ : ByteArray))
    rw [hB] at e
    by_cases h32 : 32 < kk
    · rw [if_pos h32] at e
      refine ⟨K + 1, fun k hk => ?_⟩
      obtain ⟨k, rfl⟩ : ∃ j, k = j + 1 := ⟨k - 1, by omega⟩
      have g1 := e k (by omega)
      dsimp only [lexR] at g1 ⊢
      simp only [templelaw2_LexNames.l0]
      exact st_neg (by omega) (st_pos (by omega) (st_pos (by omega) (st_pos (by omega) (st_pos (by omega) (st_bind g1 (st_pos (by omega) (st_bind (num_eq _) (st_pos rfl (st_pos rfl rfl)))))))))
    · rw [if_neg h32] at e
      obtain ⟨K2, e2⟩ := same_refl [(⟨0, 1, (⟨#[110]⟩ : ByteArray) ++ (t.extract 1 t.size), 0, 0⟩ : Tok), ⟨8, (kk : Int) + 1, ⟨#[]⟩, 0, 0⟩] (by simp)
      refine ⟨K + K2 + 1, fun k hk => ?_⟩
      obtain ⟨k, rfl⟩ : ∃ j, k = j + 1 := ⟨k - 1, by omega⟩
      have g1 := e k (by omega)
      have g2 := e2 k (by omega)
      dsimp only [lexR] at g1 g2 ⊢
      simp only [templelaw2_LexNames.l0]
      have w1 : wrap64 (1 + (kk : Int)) = (kk : Int) + 1 := by rw [wrap_ok _ (by omega) (by omega)]; omega
      rw [w1]
      clear w1
      exact st_neg (by omega) (st_pos (by omega) (st_pos (by omega) (st_pos (by omega) (st_pos (by omega) (st_bind g1 (st_neg (by omega) (st_bind (num_eq _) (st_pos rfl (st_bind g2 rfl)))))))))
  intro n
  induction n with
  | zero =>
    intro p t hn hp ht hm
    obtain rfl : p = kk := by omega
    exact fin t ht hm
  | succ n ih =>
    intro p t hn hp ht hm
    by_cases h : p < kk
    · have ha := and_range a1 3 (by decide)
      have ha2 : ((3 : Nat) : Int) = 3 := rfl
      rw [ha2] at ha
      have hi0 := Int.tmod_nonneg 6 (show 0 ≤ (p : Int) + Go.bits .and .i64 a1 3 by omega)
      have hi1 := Int.tmod_lt_of_pos ((p : Int) + Go.bits .and .i64 a1 3) (b := 6) (by decide)
      have h6 := six_more _ hi0 hi1
      have hbl : bl (strOfNums [bt sixB (Int.tmod ((p : Int) + Go.bits .and .i64 a1 3) 6)]) = [bt sixB (Int.tmod ((p : Int) + Go.bits .and .i64 a1 3) 6)] := bl_str _ (by intro x hx; rw [List.mem_singleton.1 hx]; exact h6.2)
      have hsz : (strOfNums [bt sixB (Int.tmod ((p : Int) + Go.bits .and .i64 a1 3) 6)]).size = 1 := by rw [str_size]; rfl
      refine Ev.step (fun k => ?_) (ih (p + 1) (t ++ strOfNums [bt sixB (Int.tmod ((p : Int) + Go.bits .and .i64 a1 3) 6)]) (by omega) (by omega) (by rw [ByteArray.size_append, hsz, ht]) (by
        intro x hx
        rw [bl_app, hbl] at hx
        rcases List.mem_append.1 hx with hx | hx
        · exact hm x hx
        · rw [List.mem_singleton.1 hx]
          exact h6.1))
      simp only [templelaw2_LexNames.l0]
      have hz : wrap64 ((p : Int) + Go.bits .and .i64 a1 3) = (p : Int) + Go.bits .and .i64 a1 3 := wrap_ok _ (by omega) (by omega)
      rw [hz]
      clear hz
      have nx : wrap64 ((p : Int) + 1) = ((p + 1 : Nat) : Int) := by rw [wrap_ok _ (by omega) (by omega)]; rfl
      rw [nx]
      clear nx
      exact st_pos (by omega) (st_pos hi0 (st_pos hi1 (st_bind (a := [bt sixB (Int.tmod ((p : Int) + Go.bits .and .i64 a1 3) 6)]) rfl (st_pos (by omega) rfl))))
    · obtain rfl : p = kk := by omega
      exact fin t ht hm
theorem lexNames_pure (a0 a1 : Int) : ∃ k, templelaw2_LexNames.f k a0 a1 = some true := by
  obtain ⟨K1, e1⟩ := awake_ev
  have ha := and_range a0 63 (by decide)
  have ha2 : ((63 : Nat) : Int) = 63 := rfl
  rw [ha2] at ha
  have hw : wrap64 (1 + Go.bits .and .i64 a0 63) = ((1 + (Go.bits .and .i64 a0 63).toNat : Nat) : Int) := by
    rw [wrap_ok _ (by omega) (by omega)]
    omega
  obtain ⟨K2, e2⟩ := names_l0 a1 (1 + (Go.bits .and .i64 a0 63).toNat) (by omega) (by omega) 64 0 ⟨#[]⟩ (by omega) (by omega) rfl (by intro x hx; exact absurd hx (by decide +revert))
  refine ⟨K1 + K2, ?_⟩
  have g1 := e1 (K1 + K2) (by omega)
  have g2 := e2 (K1 + K2) (by omega)
  dsimp only at g1 g2
  unfold templelaw2_LexNames.f
  rw [hw]
  exact st_bind g1 (st_pos rfl g2)
end Go.Proofs.Ytjjccngjcamgjaa.PLC
