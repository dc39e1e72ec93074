/- The lexer's parts against the plain tokens: bytes, escapes. -/
import Derived.Test.YtmpilejhnolafaaLexSpec
import Derived.Test.YtmpilejhnolafaaPPJx2
import Derived.Test.YtmpilejhnolafaaPPJx2
import Derived.Test.YtmpilejhnolafaaPPJx2
import Derived.Test.YtmpilejhnolafaaPPJx2
namespace Go.Proofs.Ytmpilejhnolafaa.PPJ
open Go.RowKit Go.Proofs.YtmpilejhnolafaaW.PrintWords Go.Proofs.YtmpilejhnolafaaW.PrintLast
set_option linter.unusedVariables false
set_option linter.unusedSimpArgs false
theorem st_bind {α β : Type} {o : Option α} {f : α → Option β} {a : α} {r : Option β} (h : o = some a) (g : f a = r) : o.bind f = r := by
  rw [h]
  exact g
theorem st_pos {α : Type} {c : Prop} [Decidable c] {A B r : α} (h : c) (g : A = r) : (if c then A else B) = r := (if_pos h).trans g
theorem st_neg {α : Type} {c : Prop} [Decidable c] {A B r : α} (h : ¬ c) (g : B = r) : (if c then A else B) = r := (if_neg h).trans g
/-- A text's bytes. -/
def bl (s : ByteArray) : BL := (List.range s.size).map fun (i : Nat) => bt s (i : Int)
theorem bl_length (s : ByteArray) : (bl s).length = s.size := by unfold bl; simp
theorem bl_get (s : ByteArray) (p : Nat) (h : p < s.size) : (bl s)[p]'(by rw [bl_length]; exact h) = bt s (p : Int) := by unfold bl; simp
theorem bl_cons (s : ByteArray) (p : Nat) (h : p < s.size) : (bl s).drop p = bt s (p : Int) :: (bl s).drop (p + 1) := by
  rw [List.drop_eq_getElem_cons (by rw [bl_length]; exact h), bl_get s p h]
theorem bl_nil (s : ByteArray) (p : Nat) (h : s.size ≤ p) : (bl s).drop p = [] := List.drop_eq_nil_iff.2 (by rw [bl_length]; exact h)
theorem bl_len (s : ByteArray) (p : Nat) : ((bl s).drop p).length = s.size - p := by rw [List.length_drop, bl_length]
/-- Where what is left begins. -/
def at_ (s : ByteArray) (r : BL) : Int := (s.size : Int) - (r.length : Int)
theorem at_drop (s : ByteArray) (p : Nat) (h : p ≤ s.size) : at_ s ((bl s).drop p) = (p : Int) := by
  unfold at_
  rw [bl_len]
  omega
theorem wrap_ok (x : Int) (h0 : -9223372036854775808 ≤ x) (h1 : x ≤ 9223372036854775807) : wrap64 x = x := by unfold wrap64; omega
theorem peek_eq (s : ByteArray) (p j : Nat) (hs : s.size ≤ 70000) (hp : p ≤ s.size) (hj : j ≤ 10) : lex_scanner_peek.f s (p : Int) (j : Int) = some (((bl s).drop (p + j)).headD 0, s, (p : Int)) := by
  unfold lex_scanner_peek.f
  rw [wrap_ok _ (by omega) (by omega)]
  by_cases h : p + j < s.size
  · rw [if_pos (by omega), if_pos (by omega), bl_cons s (p + j) h]
    rfl
  · rw [if_neg (by omega), bl_nil s (p + j) (by omega)]
    rfl
theorem all_bytes (q : Int → Bool) (h : (List.range 256).all (fun (i : Nat) => q (i : Int)) = true) (c : Int) (h0 : 0 ≤ c) (h1 : c ≤ 255) : q c = true := by
  have := List.all_eq_true.1 h c.toNat (List.mem_range.2 (by omega))
  rwa [Int.toNat_of_nonneg h0] at this
theorem idx_hex (c : Int) (h0 : 0 ≤ c) (h1 : c ≤ 255) : idxB ⟨#[48, 49, 50, 51, 52, 53, 54, 55, 56, 57, 97, 98, 99, 100, 101, 102]⟩ c = hexv c := by
  have := all_bytes (fun c => decide (idxB ⟨#[48, 49, 50, 51, 52, 53, 54, 55, 56, 57, 97, 98, 99, 100, 101, 102]⟩ c = hexv c)) (by decide +kernel) c h0 h1
  exact of_decide_eq_true this
theorem idx_sign (c : Int) (h0 : 0 ≤ c) (h1 : c ≤ 255) : idxB ⟨#[61, 124, 38, 126, 59]⟩ c = signI c := by
  have := all_bytes (fun c => decide (idxB ⟨#[61, 124, 38, 126, 59]⟩ c = signI c)) (by decide +kernel) c h0 h1
  exact of_decide_eq_true this
theorem idx_blank (c : Int) (h0 : 0 ≤ c) (h1 : c ≤ 255) : decide (0 ≤ idxB ⟨#[9, 10, 13, 32]⟩ c) = blankI c := by
  have := all_bytes (fun c => decide (0 ≤ idxB ⟨#[9, 10, 13, 32]⟩ c) == blankI c) (by decide +kernel) c h0 h1
  exact beq_iff_eq.1 this
theorem hexv_range (c : Int) : hexv c = -1 ∨ 0 ≤ hexv c ∧ hexv c ≤ 15 := by
  unfold hexv
  split
  · omega
  · split
    · omega
    · exact .inl rfl
theorem hex_or (a b : Int) (ha : 0 ≤ a ∧ a ≤ 15) (hb : 0 ≤ b ∧ b ≤ 15) : (Go.bits .or .i64 (wrap64 (a * 16)) b) % 256 = 16 * a + b := by
  have h : (List.range 16).all (fun (i : Nat) => (List.range 16).all (fun (j : Nat) => decide ((Go.bits .or .i64 (wrap64 ((i : Int) * 16)) (j : Int)) % 256 = 16 * (i : Int) + (j : Int)))) = true := by decide +kernel
  have h1 := List.all_eq_true.1 h a.toNat (List.mem_range.2 (by omega))
  have h2 := List.all_eq_true.1 h1 b.toNat (List.mem_range.2 (by omega))
  have h3 := of_decide_eq_true h2
  rwa [Int.toNat_of_nonneg ha.1, Int.toNat_of_nonneg hb.1] at h3
theorem IndexByte_eq (s : ByteArray) (c : Int) : strings_IndexByte.f s c = some (idxB s c) := rfl
/-- What a reader of one byte answers: the byte, or none, and the place. -/
def oneR (s : ByteArray) (p : Nat) : Option (Int × BL) → Int × Bool × ByteArray × Int
  | some x => (x.1, true, s, at_ s x.2)
  | none => (0, false, s, (p : Int))
theorem headD_range (s : ByteArray) (p : Nat) : 0 ≤ ((bl s).drop p).headD 0 ∧ ((bl s).drop p).headD 0 ≤ 255 := by
  by_cases h : p < s.size
  · rw [bl_cons s p h]
    exact bt_range _ _
  · rw [bl_nil s p (by omega)]
    exact ⟨by simp, by simp⟩
theorem escaped_ev (s : ByteArray) (p : Nat) (hs : s.size ≤ 70000) (hp : p < s.size) : Ev (fun k => lex_scanner_escaped.f k s (p : Int)) (oneR s p (escL ((bl s).drop (p + 1)))) := by
  have pk1 : lex_scanner_peek.f s (p : Int) 1 = some (((bl s).drop (p + 1)).headD 0, s, (p : Int)) := peek_eq s p 1 hs (by omega) (by omega)
  have pk2 : lex_scanner_peek.f s (p : Int) 2 = some (((bl s).drop (p + 2)).headD 0, s, (p : Int)) := peek_eq s p 2 hs (by omega) (by omega)
  have pk3 : lex_scanner_peek.f s (p : Int) 3 = some (((bl s).drop (p + 3)).headD 0, s, (p : Int)) := peek_eq s p 3 hs (by omega) (by omega)
  refine Ev.congr (f := fun k => lex_scanner_escaped.j0 k (((bl s).drop (p + 1)).headD 0) (((bl s).drop (p + 1)).headD 0) (decide (((bl s).drop (p + 1)).headD 0 = 92 ∨ ((bl s).drop (p + 1)).headD 0 = 34 ∨ ((bl s).drop (p + 1)).headD 0 = 39)) s (p : Int)) (fun k => ?_) ?_
  · unfold lex_scanner_escaped.f
    refine st_bind pk1 ?_
    dsimp only
    generalize ((bl s).drop (p + 1)).headD 0 = c
    by_cases h1 : c = 92
    · refine st_pos h1 ?_
      congr 1
      subst h1
      decide
    · refine st_neg h1 ?_
      by_cases h2 : c = 34
      · refine st_pos h2 ?_
        congr 1
        subst h2
        decide
      · refine st_neg h2 ?_
        congr 1
        rw [Bool.eq_iff_iff]
        simp [h1, h2]
  refine Ev.step (f := fun _ => some (oneR s p (escL ((bl s).drop (p + 1))))) (fun k => ?_) (Ev.now _)
  simp only [lex_scanner_escaped.j0]
  by_cases h1 : p + 1 < s.size
  · rw [bl_cons s (p + 1) h1]
    dsimp only [List.headD_cons, escL]
    by_cases hc : bt s ((p + 1 : Nat) : Int) = 92 ∨ bt s ((p + 1 : Nat) : Int) = 34 ∨ bt s ((p + 1 : Nat) : Int) = 39
    · refine st_pos (decide_eq_true hc) ?_
      rw [if_pos hc]
      dsimp only [oneR]
      rw [at_drop s (p + 1 + 1) (by omega), wrap_ok _ (by omega) (by omega)]
      congr 4 <;> omega
    · refine st_neg (fun e => hc (of_decide_eq_true e)) ?_
      rw [if_neg hc]
      by_cases hx : bt s ((p + 1 : Nat) : Int) = 120
      · refine st_pos hx ?_
        rw [if_pos hx]
        have r2 := headD_range s (p + 2)
        have r3 := headD_range s (p + 3)
        refine st_bind pk2 (st_bind (IndexByte_eq _ _) (st_bind pk3 (st_bind (IndexByte_eq _ _) ?_)))
        dsimp only
        rw [idx_hex _ r2.1 r2.2, idx_hex _ r3.1 r3.2]
        by_cases h2 : p + 2 < s.size
        · rw [bl_cons s (p + 2) h2]
          by_cases h3 : p + 2 + 1 < s.size
          · rw [bl_cons s (p + 2 + 1) h3]
            dsimp only [List.headD_cons]
            rcases hexv_range (bt s ((p + 2 : Nat) : Int)) with e2 | e2
            · refine st_pos (by omega) ?_
              rw [if_neg (by omega)]
              rfl
            · refine st_neg (by omega) ?_
              rcases hexv_range (bt s ((p + 2 + 1 : Nat) : Int)) with e3 | e3
              · refine st_pos (by omega) ?_
                rw [if_neg (by omega)]
                rfl
              · refine st_neg (by omega) ?_
                rw [if_pos (by omega), hex_or _ _ e2 e3]
                dsimp only [oneR]
                rw [at_drop s (p + 2 + 1 + 1) (by omega), wrap_ok _ (by omega) (by omega)]
                congr 4 <;> omega
          · rw [bl_nil s (p + 2 + 1) (by omega)]
            dsimp only [List.headD_cons, List.headD_nil]
            have z : hexv 0 < 0 := by decide
            rcases hexv_range (bt s ((p + 2 : Nat) : Int)) with e2 | e2
            · exact st_pos (by omega) rfl
            · exact st_neg (by omega) (st_pos z rfl)
        · rw [bl_nil s (p + 2) (by omega)]
          dsimp only [List.headD_nil]
          have z : hexv 0 < 0 := by decide
          exact st_pos z rfl
      · refine st_neg hx ?_
        rw [if_neg hx]
        rfl
  · rw [bl_nil s (p + 1) (by omega)]
    dsimp only [List.headD_nil, escL]
    exact st_neg (by decide) (st_neg (by decide) rfl)
theorem char_ev (s : ByteArray) (p : Nat) (hs : s.size ≤ 70000) (hp : p ≤ s.size) (q : Int) : Ev (fun k => lex_scanner_char.f k s (p : Int) q) (oneR s p (chrL q ((bl s).drop p))) := by
  have pk0 : lex_scanner_peek.f s (p : Int) 0 = some (((bl s).drop p).headD 0, s, (p : Int)) := peek_eq s p 0 hs hp (by omega)
  by_cases h1 : p < s.size
  · rw [bl_cons s p h1] at pk0 ⊢
    dsimp only [List.headD_cons, chrL] at pk0 ⊢
    by_cases hc : bt s (p : Int) = 92
    · rw [if_pos hc]
      obtain ⟨K, e⟩ := escaped_ev s p hs h1
      refine ⟨K, fun k hk => ?_⟩
      have := e k hk
      dsimp only at this ⊢
      unfold lex_scanner_char.f
      exact st_bind pk0 (st_pos hc (st_bind this rfl))
    · rw [if_neg hc]
      refine Ev.congr (f := fun _ => some (oneR s p (if bt s (p : Int) < 32 ∨ 126 < bt s (p : Int) ∨ bt s (p : Int) = q then none else some (bt s (p : Int), (bl s).drop (p + 1))))) (fun k => ?_) (Ev.now _)
      unfold lex_scanner_char.f
      refine st_bind pk0 (st_neg hc ?_)
      dsimp only
      by_cases g1 : bt s (p : Int) < 32
      · exact st_pos g1 (by rw [if_pos (show bt s (p : Int) < 32 ∨ 126 < bt s (p : Int) ∨ bt s (p : Int) = q from .inl g1)]; rfl)
      refine st_neg g1 ?_
      by_cases g2 : bt s (p : Int) > 126
      · exact st_pos g2 (by rw [if_pos (show bt s (p : Int) < 32 ∨ 126 < bt s (p : Int) ∨ bt s (p : Int) = q from .inr (.inl g2))]; rfl)
      refine st_neg g2 ?_
      by_cases g3 : bt s (p : Int) = q
      · exact st_pos g3 (by rw [if_pos (show bt s (p : Int) < 32 ∨ 126 < bt s (p : Int) ∨ bt s (p : Int) = q from .inr (.inr g3))]; rfl)
      refine st_neg g3 ?_
      rw [if_neg (by omega)]
      dsimp only [oneR]
      rw [at_drop s (p + 1) (by omega), wrap_ok _ (by omega) (by omega)]
      rfl
  · rw [bl_nil s p (by omega)] at pk0 ⊢
    dsimp only [List.headD_nil, chrL] at pk0 ⊢
    refine Ev.congr (f := fun _ => some (oneR s p none)) (fun k => ?_) (Ev.now _)
    unfold lex_scanner_char.f
    exact st_bind pk0 (st_neg (show ¬ (0 : Int) = 92 by decide) (st_pos (show (0 : Int) < 32 by decide) rfl))
end Go.Proofs.Ytmpilejhnolafaa.PPJ
