/- The document's lexer against the plain tokens: bytes, texts, ends. -/
import Derived.Test.YtjjccngjcamgjaaL2Lex2
import Derived.Test.YtjjccngjcamgjaaPLAx7
namespace Go.Proofs.Ytjjccngjcamgjaa.PLA
open Go.RowKit Go.Proofs.YtjjccngjcamgjaaW.PrintWords Go.Proofs.YtjjccngjcamgjaaW.PrintLast
set_option linter.unusedVariables false
set_option linter.unusedSimpArgs false
theorem rletter_eq (c : Int) : templeref1_letter.f c = some (letterI c) := by
  unfold templeref1_letter.f letterI
  repeat' split
  all_goals (congr 1; rw [Bool.eq_iff_iff]; simp; omega)
theorem rdigit_eq (c : Int) : templeref1_digit.f c = some (digitI c) := by
  unfold templeref1_digit.f digitI
  repeat' split
  all_goals (congr 1; rw [Bool.eq_iff_iff]; simp; omega)
theorem hex_eq (c : Int) (h0 : 0 ≤ c) (h1 : c ≤ 255) : templeref1_hex.f c = some (hexv c) := by
  unfold templeref1_hex.f
  refine st_bind (rdigit_eq c) ?_
  unfold digitI hexv
  by_cases hd : 48 ≤ c ∧ c ≤ 57
  · refine st_pos (decide_eq_true hd) ?_
    rw [if_pos hd]
    congr 1
    omega
  · refine st_neg (fun e => hd (of_decide_eq_true e)) ?_
    rw [if_neg hd]
    by_cases g1 : c ≥ 97
    · refine st_pos g1 ?_
      by_cases g2 : c ≤ 102
      · refine st_pos g2 ?_
        rw [if_pos ⟨g1, g2⟩]
        congr 1
        omega
      · refine st_neg g2 ?_
        rw [if_neg (fun e => g2 e.2)]
    · refine st_neg g1 ?_
      rw [if_neg (fun e => g1 e.1)]
/-- What the document's reader of one byte answers. -/
def sgnR (s : ByteArray) : Option (Int × BL) → Int × Int
  | some x => (x.1, at_ s x.2)
  | none => (-1, 0)
theorem sign_ev (s : ByteArray) (p : Nat) (hs : s.size ≤ 70000) (hp : p ≤ s.size) (q : Int) (hq : q ≠ 92) : Ev (fun k => templeref1_sign.f k s (p : Int) q) (sgnR s (chrL q ((bl s).drop p))) := by
  have bad : ∀ R, R = sgnR s none → Ev (fun k => templeref1_sign.j0 k s (p : Int) true) R := by
    rintro R rfl
    refine Ev.step (f := fun _ => some (-1, 0)) (fun k => ?_) (Ev.now _)
    simp only [templeref1_sign.j0, if_true]
  by_cases h : p < s.size
  · rw [bl_cons s p h]
    have hr := bt_range s (p : Int)
    dsimp only [chrL]
    by_cases g1 : bt s (p : Int) < 32
    · rw [if_neg (by omega), if_pos (.inl g1)]
      refine Ev.congr (fun k => ?_) (bad _ rfl)
      unfold templeref1_sign.f
      exact st_neg (by omega) (st_pos (by omega) (st_pos (by omega) (st_pos g1 rfl)))
    by_cases g2 : bt s (p : Int) > 126
    · rw [if_neg (by omega), if_pos (.inr (.inl g2))]
      refine Ev.congr (fun k => ?_) (bad _ rfl)
      unfold templeref1_sign.f
      exact st_neg (by omega) (st_pos (by omega) (st_pos (by omega) (st_neg g1 (st_pos g2 rfl))))
    by_cases g3 : bt s (p : Int) = q
    · rw [if_neg (by omega), if_pos (.inr (.inr g3))]
      refine Ev.congr (fun k => ?_) (bad _ rfl)
      unfold templeref1_sign.f
      refine st_neg (by omega) (st_pos (by omega) (st_pos (by omega) (st_neg g1 (st_neg g2 ?_))))
      rw [beq_iff_eq.2 g3]
    refine Ev.congr (f := fun k => templeref1_sign.j0 k s (p : Int) false) (fun k => ?_) ?_
    · unfold templeref1_sign.f
      refine st_neg (by omega) (st_pos (by omega) (st_pos (by omega) (st_neg g1 (st_neg g2 ?_))))
      rw [beq_eq_false_iff_ne.2 g3]
    by_cases hc : bt s (p : Int) = 92
    · rw [if_pos hc]
      have w1 : wrap64 ((p : Int) + 1) = ((p + 1 : Nat) : Int) := by rw [wrap_ok _ (by omega) (by omega)]; rfl
      have w2 : wrap64 ((p : Int) + 2) = ((p + 2 : Nat) : Int) := by rw [wrap_ok _ (by omega) (by omega)]; rfl
      have w3 : wrap64 ((p : Int) + 3) = ((p + 3 : Nat) : Int) := by rw [wrap_ok _ (by omega) (by omega)]; rfl
      have w4 : wrap64 ((p : Int) + 4) = ((p + 4 : Nat) : Int) := by rw [wrap_ok _ (by omega) (by omega)]; rfl
      by_cases h1 : p + 1 < s.size
      · rw [bl_cons s (p + 1) h1]
        dsimp only [escL]
        have r1 := bt_range s ((p + 1 : Nat) : Int)
        -- behind the backslash
        have goto : ∀ b R, (bt s ((p + 1 : Nat) : Int) = 92 ∨ bt s ((p + 1 : Nat) : Int) = 34 → b = true) → (¬ (bt s ((p + 1 : Nat) : Int) = 92 ∨ bt s ((p + 1 : Nat) : Int) = 34) → b = (bt s ((p + 1 : Nat) : Int) == 39)) → Ev (fun k => templeref1_sign.j1 k s (p : Int) (bt s ((p + 1 : Nat) : Int)) b) R → Ev (fun k => templeref1_sign.j0 k s (p : Int) false) R := by
          intro b R hb1 hb2 hR
          refine Ev.step (fun k => ?_) hR
          simp only [templeref1_sign.j0]
          refine st_neg (by simp) (st_pos (by omega) (st_pos (by omega) (st_pos hc (st_neg (by rw [w1]; omega) (st_pos (by rw [w1]; omega) (st_pos (by rw [w1]; omega) ?_))))))
          rw [w1]
          by_cases e1 : bt s ((p + 1 : Nat) : Int) = 92
          · exact st_pos e1 (by rw [hb1 (.inl e1)])
          · refine st_neg e1 ?_
            by_cases e2 : bt s ((p + 1 : Nat) : Int) = 34
            · exact st_pos e2 (by rw [hb1 (.inr e2)])
            · exact st_neg e2 (by rw [hb2 (fun q => q.elim e1 e2)])
        by_cases h3 : bt s ((p + 1 : Nat) : Int) = 92 ∨ bt s ((p + 1 : Nat) : Int) = 34 ∨ bt s ((p + 1 : Nat) : Int) = 39
        · rw [if_pos h3]
          refine goto true _ (fun _ => rfl) (fun q => ?_) (Ev.step (f := fun _ => some (sgnR s (some (bt s ((p + 1 : Nat) : Int), (bl s).drop (p + 1 + 1))))) (fun k => ?_) (Ev.now _))
          · rw [beq_iff_eq.2 (by omega)]
          · simp only [templeref1_sign.j1]
            refine st_pos trivial ?_
            dsimp only [sgnR]
            rw [at_drop s (p + 1 + 1) (by omega), wrap_ok _ (by omega) (by omega), w2]
        · rw [if_neg h3]
          refine goto false _ (fun q => absurd q (fun q => h3 (q.elim .inl (fun e => .inr (.inl e))))) (fun q => (beq_eq_false_iff_ne.2 (fun e => h3 (.inr (.inr e)))).symm) ?_
          have bad2 : ∀ R, R = sgnR s none → Ev (fun k => templeref1_sign.j2 k s (p : Int) true) R := by
            rintro R rfl
            refine Ev.step (f := fun _ => some (-1, 0)) (fun k => ?_) (Ev.now _)
            simp only [templeref1_sign.j2, if_true]
          by_cases hx : bt s ((p + 1 : Nat) : Int) = 120
          · rw [if_pos hx]
            by_cases hl : p + 3 < s.size
            · rw [bl_cons s (p + 1 + 1) (by omega), bl_cons s (p + 1 + 1 + 1) (by omega)]
              dsimp only
              have r2 := bt_range s ((p + 2 : Nat) : Int)
              have r3 := bt_range s ((p + 3 : Nat) : Int)
              have x2 := hex_eq _ r2.1 r2.2
              have x3 := hex_eq _ r3.1 r3.2
              have e2 : ((p + 1 + 1 : Nat) : Int) = ((p + 2 : Nat) : Int) := rfl
              have e3 : ((p + 1 + 1 + 1 : Nat) : Int) = ((p + 3 : Nat) : Int) := rfl
              rw [e2, e3]
              have q2 := hexv_range (bt s ((p + 2 : Nat) : Int))
              have q3 := hexv_range (bt s ((p + 3 : Nat) : Int))
              by_cases g : 0 ≤ hexv (bt s ((p + 2 : Nat) : Int)) ∧ 0 ≤ hexv (bt s ((p + 3 : Nat) : Int))
              · rw [if_pos g]
                refine Ev.step (f := fun k => templeref1_sign.j2 k s (p : Int) false) (fun k => ?_) (Ev.step (f := fun _ => some (sgnR s (some (16 * hexv (bt s ((p + 2 : Nat) : Int)) + hexv (bt s ((p + 3 : Nat) : Int)), (bl s).drop (p + 1 + 1 + 1 + 1))))) (fun k => ?_) (Ev.now _))
                · simp only [templeref1_sign.j1]
                  refine st_neg (by simp) (st_pos hx (st_neg (by rw [w3]; omega) (st_pos (by rw [w2]; omega) (st_pos (by rw [w2]; omega) (st_bind (by rw [w2]; exact x2) (st_neg (by omega) (st_pos (by rw [w3]; omega) (st_pos (by rw [w3]; omega) (st_bind (by rw [w3]; exact x3) ?_)))))))))
                  rw [decide_eq_false (by omega)]
                · simp only [templeref1_sign.j2]
                  refine st_neg (by simp) (st_pos (by rw [w2]; omega) (st_pos (by rw [w2]; omega) (st_bind (by rw [w2]; exact x2) (st_pos (by rw [w3]; omega) (st_pos (by rw [w3]; omega) (st_bind (by rw [w3]; exact x3) ?_))))))
                  dsimp only [sgnR]
                  rw [at_drop s (p + 1 + 1 + 1 + 1) (by omega), w4, wrap_ok (16 * _) (by omega) (by omega), wrap_ok _ (by omega) (by omega)]
              · rw [if_neg g]
                refine Ev.step (f := fun k => templeref1_sign.j2 k s (p : Int) true) (fun k => ?_) (bad2 _ rfl)
                simp only [templeref1_sign.j1]
                refine st_neg (by simp) (st_pos hx (st_neg (by rw [w3]; omega) (st_pos (by rw [w2]; omega) (st_pos (by rw [w2]; omega) (st_bind (by rw [w2]; exact x2) ?_)))))
                by_cases gg : hexv (bt s ((p + 2 : Nat) : Int)) < 0
                · exact st_pos gg rfl
                · refine st_neg gg (st_pos (by rw [w3]; omega) (st_pos (by rw [w3]; omega) (st_bind (by rw [w3]; exact x3) ?_)))
                  rw [decide_eq_true (by omega)]
            · have fin : Ev (fun k => templeref1_sign.j1 k s (p : Int) (bt s ((p + 1 : Nat) : Int)) false) (sgnR s none) := by
                refine Ev.step (f := fun k => templeref1_sign.j2 k s (p : Int) true) (fun k => ?_) (bad2 _ rfl)
                simp only [templeref1_sign.j1]
                exact st_neg (by simp) (st_pos hx (st_pos (by rw [w3]; omega) rfl))
              by_cases hl2 : p + 1 + 1 < s.size
              · rw [bl_cons s (p + 1 + 1) hl2, bl_nil s (p + 1 + 1 + 1) (by omega)]
                exact fin
              · rw [bl_nil s (p + 1 + 1) (by omega)]
                exact fin
          · rw [if_neg hx]
            refine Ev.step (f := fun k => templeref1_sign.j2 k s (p : Int) true) (fun k => ?_) (bad2 _ rfl)
            simp only [templeref1_sign.j1]
            exact st_neg (by simp) (st_neg hx rfl)
      · rw [bl_nil s (p + 1) (by omega)]
        refine Ev.step (f := fun _ => some (-1, 0)) (fun k => ?_) (Ev.now _)
        simp only [templeref1_sign.j0]
        exact st_neg (by simp) (st_pos (by omega) (st_pos (by omega) (st_pos hc (st_pos (by rw [w1]; omega) rfl))))
    · rw [if_neg hc, if_neg (by omega)]
      refine Ev.step (f := fun _ => some (sgnR s (some (bt s (p : Int), (bl s).drop (p + 1))))) (fun k => ?_) (Ev.now _)
      simp only [templeref1_sign.j0]
      refine st_neg (by simp) (st_pos (by omega) (st_pos (by omega) (st_neg hc ?_)))
      dsimp only [sgnR]
      rw [at_drop s (p + 1) (by omega), wrap_ok _ (by omega) (by omega), wrap_ok _ (by omega) (by omega)]
      rfl
  · rw [bl_nil s p (by omega)]
    refine Ev.congr (fun k => ?_) (bad _ rfl)
    unfold templeref1_sign.f
    exact st_pos (by omega) rfl
end Go.Proofs.Ytjjccngjcamgjaa.PLA
