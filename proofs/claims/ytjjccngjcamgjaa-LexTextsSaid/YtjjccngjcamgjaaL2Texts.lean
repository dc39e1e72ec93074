/- LexTexts: any bytes in quotes, each as its two digits, are a text of these. -/
import Derived.Test.YtjjccngjcamgjaaL2Text
import Derived.Test.YtjjccngjcamgjaaPLCx5
namespace Go.Proofs.Ytjjccngjcamgjaa.PLC
open Go.RowKit Go.Proofs.YtjjccngjcamgjaaW.PrintWords Go.Proofs.YtjjccngjcamgjaaW.PrintLast
set_option linter.unusedVariables false
set_option linter.unusedSimpArgs false
def digB : ByteArray := ⟨#[48, 49, 50, 51, 52, 53, 54, 55, 56, 57, 97, 98, 99, 100, 101, 102]⟩
theorem dig_ok (i : Int) (h0 : 0 ≤ i) (h1 : i < 16) : hexv (bt digB i) = i ∧ 0 ≤ bt digB i ∧ bt digB i ≤ 255 := by
  have h : i = 0 ∨ i = 1 ∨ i = 2 ∨ i = 3 ∨ i = 4 ∨ i = 5 ∨ i = 6 ∨ i = 7 ∨ i = 8 ∨ i = 9 ∨ i = 10 ∨ i = 11 ∨ i = 12 ∨ i = 13 ∨ i = 14 ∨ i = 15 := by omega
  rcases h with rfl | rfl | rfl | rfl | rfl | rfl | rfl | rfl | rfl | rfl | rfl | rfl | rfl | rfl | rfl | rfl <;> exact ⟨by decide, by decide, by decide⟩
/-- A byte's two digits. -/
def hex2 (b : Int) : BL := [bt digB (b / 16), bt digB (b % 16)]
theorem hex2_range (b : Int) (h0 : 0 ≤ b) (h1 : b ≤ 255) : ∀ x ∈ hex2 b, 0 ≤ x ∧ x ≤ 255 := by
  intro x hx
  have d1 := dig_ok (b / 16) (by omega) (by omega)
  have d2 := dig_ok (b % 16) (by omega) (by omega)
  rcases List.mem_cons.1 hx with rfl | hx
  · exact d1.2
  · rw [List.mem_singleton.1 hx]
    exact d2.2
theorem chr_hex (q b : Int) (h0 : 0 ≤ b) (h1 : b ≤ 255) (r : BL) : chrL q (92 :: 120 :: (hex2 b ++ r)) = some (b, r) := by
  have d1 := dig_ok (b / 16) (by omega) (by omega)
  have d2 := dig_ok (b % 16) (by omega) (by omega)
  unfold hex2
  rw [List.cons_append, List.cons_append, List.nil_append]
  dsimp only [chrL, escL]
  rw [if_pos rfl, if_neg (by decide), if_pos rfl, d1.1, d2.1, if_pos (by omega)]
  congr 2
  omega
/-- All bytes so. -/
def hexs : BL → BL
  | [] => []
  | b :: r => 92 :: 120 :: (hex2 b ++ hexs r)
theorem hexs_app (a b : BL) : hexs (a ++ b) = hexs a ++ hexs b := by
  induction a with
  | nil => rfl
  | cons x a ih =>
    rw [List.cons_append]
    simp only [hexs]
    rw [ih]
    simp
theorem hexs_len (a : BL) : (hexs a).length = 4 * a.length := by
  induction a with
  | nil => rfl
  | cons x a ih =>
    simp only [hexs, hex2, List.length_cons, List.length_append, List.length_nil]
    omega
theorem txt_hexs (r : BL) : ∀ a : BL, (∀ x ∈ a, 0 ≤ x ∧ x ≤ 255) → txtL (hexs a ++ 34 :: r) = some (a, r)
  | [], _ => by rw [show hexs [] ++ 34 :: r = 34 :: r from rfl, txtL_end rfl]; rfl
  | b :: a, h => by
    have hb := h b (List.mem_cons_self ..)
    have ih := txt_hexs r a (fun x hx => h x (List.mem_cons_of_mem _ hx))
    simp only [hexs]
    rw [List.cons_append, List.cons_append, List.append_assoc, txtL_some (x := (b, hexs a ++ 34 :: r)) (by simp) (chr_hex 34 b hb.1 hb.2 _), ih]
    rfl
/-- A byte between quotes. -/
def endB (b : Int) : BL := 39 :: 92 :: 120 :: (hex2 b ++ [39])
theorem end_endB (b : Int) (h0 : 0 ≤ b) (h1 : b ≤ 255) (r : BL) : endL (endB b ++ r) = some (b, r) := by
  unfold endB endL
  rw [List.cons_append, if_pos (by simp)]
  dsimp only [List.tail_cons]
  rw [List.cons_append, List.cons_append, List.append_assoc, chr_hex 39 b h0 h1]
  rfl
theorem texts_toks (a : BL) (ha : ∀ x ∈ a, 0 ≤ x ∧ x ≤ 255) (b : Int) (h0 : 0 ≤ b) (h1 : b ≤ 255) (N : Nat) (hN : N = (34 :: (hexs a ++ 34 :: (endB b ++ 46 :: 46 :: endB b))).length) :
    lexL N (34 :: (hexs a ++ 34 :: (endB b ++ 46 :: 46 :: endB b))) = .inl [(1, 0, strOfNums a, 0, 0), (2, 4 * (a.length : Int) + 2, ⟨#[]⟩, b, b)] := by
  have hs : ∀ l, skipL (34 :: l) = 34 :: l := fun l => skipL_stop (by decide) (by decide)
  have hs2 : skipL (endB b ++ 46 :: 46 :: endB b) = endB b ++ 46 :: 46 :: endB b := by
    unfold endB
    rw [List.cons_append]
    exact skipL_stop (by decide) (by decide)
  have hr : rngL (endB b ++ 46 :: 46 :: endB b) = some (b, b, []) := by
    unfold rngL
    rw [end_endB b h0 h1]
    dsimp only
    rw [if_pos ⟨rfl, rfl⟩]
    dsimp only [List.tail_cons]
    have := end_endB b h0 h1 []
    rw [List.append_nil] at this
    rw [this]
    rfl
  have ht2 : tokL (endB b ++ 46 :: 46 :: endB b) = .inl (2, ⟨#[]⟩, b, b, []) := by
    have e : ∃ l, endB b ++ 46 :: 46 :: endB b = 39 :: l := ⟨_, rfl⟩
    obtain ⟨l, e⟩ := e
    rw [e] at hr ⊢
    dsimp only [tokL]
    rw [if_neg (by decide), if_neg (by decide), if_pos rfl, hr]
  rw [lexL_tok (x := (1, strOfNums a, 0, 0, endB b ++ 46 :: 46 :: endB b)) (by rw [hs]; simp) (by
    rw [hs]
    dsimp only [tokL]
    rw [if_neg (by decide), if_pos rfl, txt_hexs _ a ha])]
  dsimp only
  rw [lexL_tok (l := endB b ++ 46 :: 46 :: endB b) (x := (2, ⟨#[]⟩, b, b, [])) (by rw [hs2]; unfold endB; simp) (by rw [hs2]; exact ht2), lexL_end skipL_nil, hs, hs2, hN]
  dsimp only
  have hl : (endB b).length = 6 := rfl
  congr 2
  · congr 2
    omega
  · congr 3
    simp only [List.length_cons, List.length_append, hexs_len, hl]
    omega
theorem dig_tdiv (b : Int) (h0 : 0 ≤ b) (h1 : b ≤ 255) : Int.tdiv b 16 = b / 16 ∧ Int.tmod b 16 = b % 16 := ⟨Int.tdiv_eq_ediv_of_nonneg h0, Int.tmod_eq_emod_of_nonneg h0⟩
theorem bl_hex2 (b : Int) (h0 : 0 ≤ b) (h1 : b ≤ 255) : bl (strOfNums (hex2 b)) = hex2 b := bl_str _ (hex2_range b h0 h1)
theorem hex2_size (b : Int) : (strOfNums (hex2 b)).size = 2 := by rw [str_size]; rfl
theorem texts_l0 (s : ByteArray) (hs : s.size ≤ 2000) (a1 : Int) : ∀ (n p : Nat) (t : ByteArray), s.size - p ≤ n → p ≤ s.size → bl t = 34 :: hexs ((bl s).take p) → Ev (fun k => templelaw2_LexTexts.l0 k s a1 digB t (p : Int)) true := by
  have size_of : ∀ (t : ByteArray) (p : Nat), p ≤ s.size → bl t = 34 :: hexs ((bl s).take p) → t.size = 4 * p + 1 := by
    intro t p hp h
    have := congrArg List.length h
    rw [bl_length, List.length_cons, hexs_len, List.length_take, bl_length] at this
    omega
  have fin : ∀ t : ByteArray, bl t = 34 :: hexs (bl s) → Ev (fun k => templelaw2_LexTexts.l0 k s a1 digB t (s.size : Int)) true := by
    intro t h
    have hb := and_range a1 255 (by decide)
    have ha2 : ((255 : Nat) : Int) = 255 := rfl
    rw [ha2] at hb
    generalize hg : Go.bits .and .i64 a1 255 = b at hb
    have hd := dig_tdiv b hb.1 hb.2
    have hh := hex2_size b
    have hz := size_of t s.size (Nat.le_refl _) (by rw [h, List.take_of_length_le (by rw [bl_length]; exact Nat.le_refl _)])
    have z1 : ((⟨#[39, 92, 120]⟩ : ByteArray) ++ strOfNums (hex2 b)).size = 5 := by rw [ByteArray.size_append, hh]; rfl
    have z2 : (((⟨#[39, 92, 120]⟩ : ByteArray) ++ strOfNums (hex2 b)) ++ (⟨#[39]⟩ : ByteArray)).size = 6 := by rw [ByteArray.size_append, z1]; rfl
    have z3 : (t ++ (⟨#[34]⟩ : ByteArray)).size = t.size + 1 := by rw [ByteArray.size_append]; rfl
    have z4 : ((t ++ (⟨#[34]⟩ : ByteArray)) ++ (((⟨#[39, 92, 120]⟩ : ByteArray) ++ strOfNums (hex2 b)) ++ (⟨#[39]⟩ : ByteArray))).size = t.size + 7 := by rw [ByteArray.size_append, z3, z2]
    have z5 : (((t ++ (⟨#[34]⟩ : ByteArray)) ++ (((⟨#[39, 92, 120]⟩ : ByteArray) ++ strOfNums (hex2 b)) ++ (⟨#[39]⟩ : ByteArray))) ++ (⟨#[46, 46]⟩ : ByteArray)).size = t.size + 9 := by rw [ByteArray.size_append, z4]; rfl
    have hx : bl (((⟨#[39, 92, 120]⟩ : ByteArray) ++ strOfNums (hex2 b)) ++ (⟨#[39]⟩ : ByteArray)) = endB b := by
      rw [bl_app, bl_app, bl_hex2 b hb.1 hb.2, show bl (⟨#[39, 92, 120]⟩ : ByteArray) = [39, 92, 120] from by decide, show bl (⟨#[39]⟩ : ByteArray) = [39] from by decide]
      rfl
    have hT : bl ((((t ++ (⟨#[34]⟩ : ByteArray)) ++ (((⟨#[39, 92, 120]⟩ : ByteArray) ++ strOfNums (hex2 b)) ++ (⟨#[39]⟩ : ByteArray))) ++ (⟨#[46, 46]⟩ : ByteArray)) ++ (((⟨#[39, 92, 120]⟩ : ByteArray) ++ strOfNums (hex2 b)) ++ (⟨#[39]⟩ : ByteArray))) = 34 :: (hexs (bl s) ++ 34 :: (endB b ++ 46 :: 46 :: endB b)) := by
      rw [bl_app, bl_app, bl_app, bl_app t, hx, h, show bl (⟨#[34]⟩ : ByteArray) = [34] from by decide, show bl (⟨#[46, 46]⟩ : ByteArray) = [46, 46] from by decide]
      simp
    have hlx := texts_toks (bl s) (bl_range s) b hb.1 hb.2 _ rfl
    have zT := bl_length ((((t ++ (⟨#[34]⟩ : ByteArray)) ++ (((⟨#[39, 92, 120]⟩ : ByteArray) ++ strOfNums (hex2 b)) ++ (⟨#[39]⟩ : ByteArray))) ++ (⟨#[46, 46]⟩ : ByteArray)) ++ (((⟨#[39, 92, 120]⟩ : ByteArray) ++ strOfNums (hex2 b)) ++ (⟨#[39]⟩ : ByteArray)))
    rw [hT] at zT
    have zT2 : ((((t ++ (⟨#[34]⟩ : ByteArray)) ++ (((⟨#[39, 92, 120]⟩ : ByteArray) ++ strOfNums (hex2 b)) ++ (⟨#[39]⟩ : ByteArray))) ++ (⟨#[46, 46]⟩ : ByteArray)) ++ (((⟨#[39, 92, 120]⟩ : ByteArray) ++ strOfNums (hex2 b)) ++ (⟨#[39]⟩ : ByteArray))).size ≤ 65536 := by
      rw [ByteArray.size_append, z5, z2]
      omega
    obtain ⟨K, e⟩ := lex_ev ((((t ++ (⟨#[34]⟩ : ByteArray)) ++ (((⟨#[39, 92, 120]⟩ : ByteArray) ++ strOfNums (hex2 b)) ++ (⟨#[39]⟩ : ByteArray))) ++ (⟨#[46, 46]⟩ : ByteArray)) ++ (((⟨#[39, 92, 120]⟩ : ByteArray) ++ strOfNums (hex2 b)) ++ (⟨#[39]⟩ : ByteArray)))
    have hB : lexB ((((t ++ (⟨#[34]⟩ : ByteArray)) ++ (((⟨#[39, 92, 120]⟩ : ByteArray) ++ strOfNums (hex2 b)) ++ (⟨#[39]⟩ : ByteArray))) ++ (⟨#[46, 46]⟩ : ByteArray)) ++ (((⟨#[39, 92, 120]⟩ : ByteArray) ++ strOfNums (hex2 b)) ++ (⟨#[39]⟩ : ByteArray))) = ([⟨1, 0, s, 0, 0⟩, ⟨2, (t.size : Int) + 1, ⟨#[]⟩, b, b⟩], 0, 0) := by
      unfold lexB
      rw [if_neg (by omega), hT, ← zT, hlx, str_bl, bl_length]
      dsimp only [lexR, List.map_cons, List.map_nil, toTok]
      rw [show 4 * (s.size : Int) + 2 = (t.size : Int) + 1 from by omega]
      rfl
    rw [hB] at e
    obtain ⟨K2, e2⟩ := same_refl [(⟨1, 0, s, 0, 0⟩ : Tok), ⟨2, (t.size : Int) + 1, ⟨#[]⟩, b, b⟩] (by simp)
    have i1 : 0 ≤ b / 16 ∧ b / 16 < (digB.size : Int) := by show _ ∧ _ < (16 : Int); omega
    have i2 : 0 ≤ b % 16 ∧ b % 16 < (digB.size : Int) := by show _ ∧ _ < (16 : Int); omega
    refine ⟨K + K2 + 1, fun k hk => ?_⟩
    obtain ⟨k, rfl⟩ : ∃ j, k = j + 1 := ⟨k - 1, by omega⟩
    have g1 := e k (by omega)
    have g2 := e2 k (by omega)
    dsimp only at g1 g2 ⊢
    simp only [templelaw2_LexTexts.l0]
    have w1 : wrap64 (b / 16) = b / 16 := wrap_ok _ (by omega) (by omega)
    rw [hg, hd.1, hd.2, w1]
    clear w1
    have w2 : wrap64 ((t.size : Int) + 1) = (t.size : Int) + 1 := wrap_ok _ (by omega) (by omega)
    rw [w2]
    clear w2
    refine st_neg (by omega) (st_pos i1.1 (st_pos i1.2 (st_pos i2.1 (st_pos i2.2 (st_bind (a := hex2 b) rfl (st_pos (by omega) (st_pos (by omega) (st_pos (by omega) (st_pos (by omega) (st_pos (by omega) (st_pos (by omega) (st_bind g1 (st_bind (num_eq _) (st_pos rfl (st_bind g2 rfl)))))))))))))))
  intro n
  induction n with
  | zero =>
    intro p t hn hp ht
    obtain rfl : p = s.size := by omega
    rw [List.take_of_length_le (by rw [bl_length]; exact Nat.le_refl _)] at ht
    exact fin t ht
  | succ n ih =>
    intro p t hn hp ht
    by_cases h : p < s.size
    · have hr := bt_range s (p : Int)
      have hd := dig_tdiv (bt s (p : Int)) hr.1 hr.2
      have hh := hex2_size (bt s (p : Int))
      have hz := size_of t p hp ht
      have hm : bt s (p : Int) / 16 % 256 = bt s (p : Int) / 16 := by omega
      have i1 : 0 ≤ bt s (p : Int) / 16 ∧ bt s (p : Int) / 16 < (digB.size : Int) := by show _ ∧ _ < (16 : Int); omega
      have i2 : 0 ≤ bt s (p : Int) % 16 ∧ bt s (p : Int) % 16 < (digB.size : Int) := by show _ ∧ _ < (16 : Int); omega
      have z1 : (t ++ (⟨#[92, 120]⟩ : ByteArray)).size = t.size + 2 := by rw [ByteArray.size_append]; rfl
      refine Ev.step (fun k => ?_) (ih (p + 1) ((t ++ (⟨#[92, 120]⟩ : ByteArray)) ++ strOfNums (hex2 (bt s (p : Int)))) (by omega) (by omega) (by
        rw [bl_app, bl_app, ht, bl_hex2 _ hr.1 hr.2, show bl (⟨#[92, 120]⟩ : ByteArray) = [92, 120] from by decide]
        have : (bl s).take (p + 1) = (bl s).take p ++ [bt s (p : Int)] := by
          rw [List.take_succ_eq_append_getElem (by rw [bl_length]; exact h), bl_get s p h]
        rw [this, hexs_app]
        simp [hexs]))
      simp only [templelaw2_LexTexts.l0]
      have nx : wrap64 ((p : Int) + 1) = ((p + 1 : Nat) : Int) := by rw [wrap_ok _ (by omega) (by omega)]; rfl
      rw [hd.1, hd.2, hm, nx]
      clear nx
      exact st_pos (by omega) (st_pos (by omega) (st_pos (by omega) (st_pos i1.1 (st_pos i1.2 (st_pos i2.1 (st_pos i2.2 (st_bind (a := hex2 (bt s (p : Int))) rfl (st_pos (by omega) rfl))))))))
    · obtain rfl : p = s.size := by omega
      rw [List.take_of_length_le (by rw [bl_length]; exact Nat.le_refl _)] at ht
      exact fin t ht
theorem lexTexts_pure (s : ByteArray) (hs : s.size ≤ 140737488351232) (a1 : Int) : ∃ k, templelaw2_LexTexts.f k s a1 = some true := by
  obtain ⟨K1, e1⟩ := awake_ev
  by_cases h : (s.size : Int) > 2000
  · refine ⟨K1, ?_⟩
    have g1 := e1 K1 (Nat.le_refl _)
    dsimp only at g1
    unfold templelaw2_LexTexts.f
    exact st_bind g1 (st_pos rfl (st_pos h rfl))
  · obtain ⟨K2, e2⟩ := texts_l0 s (by omega) a1 s.size 0 ⟨#[34]⟩ (by omega) (by omega) (by rw [List.take_zero]; decide)
    refine ⟨K1 + K2, ?_⟩
    have g1 := e1 (K1 + K2) (by omega)
    have g2 := e2 (K1 + K2) (by omega)
    dsimp only at g1 g2
    unfold templelaw2_LexTexts.f
    exact st_bind g1 (st_pos rfl (st_neg h g2))
end Go.Proofs.Ytjjccngjcamgjaa.PLC
