/- The document's lexer against the plain tokens: the tokens. -/
import Derived.Test.YtjjccngjcamgjaaL2Ref
namespace Go.Proofs.Ytjjccngjcamgjaa.PLA
open Go.RowKit Go.Proofs.YtjjccngjcamgjaaW.PrintWords Go.Proofs.YtjjccngjcamgjaaW.PrintLast
set_option linter.unusedVariables false
set_option linter.unusedSimpArgs false
theorem wnat (x : Nat) (j : Nat) (hx : x ≤ 100000) (hj : j ≤ 100) : wrap64 ((x : Int) + (j : Int)) = ((x + j : Nat) : Int) := by rw [wrap_ok _ (by omega) (by omega)]; rfl
theorem blank_iff (c : Int) : blankI c = true ↔ c = 9 ∨ c = 10 ∨ c = 13 ∨ c = 32 := by unfold blankI; rw [decide_eq_true_eq]
theorem rskip_l0 (s : ByteArray) (hs : s.size ≤ 70000) : ∀ (n p : Nat), s.size - p ≤ n → p ≤ s.size → Ev (fun k => templeref1_skip.l0 k s (p : Int)) (at_ s (skipL ((bl s).drop p))) := by
  intro n
  induction n with
  | zero =>
    intro p hn hp
    rw [bl_nil s p (by omega), skipL]
    refine Ev.step (f := fun _ => some (at_ s [])) (fun k => ?_) (Ev.now _)
    simp only [templeref1_skip.l0]
    refine st_neg (by omega) ?_
    unfold at_
    rw [List.length_nil, show ((0 : Nat) : Int) = 0 from rfl, show (s.size : Int) - 0 = (p : Int) from by omega]
  | succ n ih =>
    intro p hn hp
    by_cases h : p < s.size
    · rw [bl_cons s p h, skipL]
      by_cases hb : blankI (bt s (p : Int)) = true
      · rw [if_pos hb]
        refine Ev.step (f := fun k => templeref1_skip.l0 k s ((p + 1 : Nat) : Int)) (fun k => ?_) (ih (p + 1) (by omega) (by omega))
        have hb2 := (blank_iff _).1 hb
        simp only [templeref1_skip.l0]
        have w : wrap64 ((p : Int) + 1) = ((p + 1 : Nat) : Int) := wnat p 1 (by omega) (by omega)
        rw [w]
        refine st_pos (by omega) (st_pos (by omega) (st_neg (by omega) ?_))
        rcases hb2 with e | e | e | e
        · exact st_pos e rfl
        · exact st_neg (by omega) (st_pos e rfl)
        · exact st_neg (by omega) (st_neg (by omega) (st_pos e rfl))
        · exact st_neg (by omega) (st_neg (by omega) (st_neg (by omega) (st_pos e rfl)))
      · rw [if_neg hb]
        have hb2 : ¬ (bt s (p : Int) = 9 ∨ bt s (p : Int) = 10 ∨ bt s (p : Int) = 13 ∨ bt s (p : Int) = 32) := fun q => hb ((blank_iff _).2 q)
        by_cases h35 : bt s (p : Int) = 35
        · rw [if_pos h35]
          have inner : ∀ d q : Nat, q + d = s.size → p < q → Ev (fun k => templeref1_skip.l1 k s (q : Int)) (at_ s (skipL (((bl s).drop q).dropWhile (fun x => !(x == 10))))) := by
            intro d
            induction d with
            | zero =>
              intro q hq hpq
              have := ih q (by omega) (by omega)
              rw [bl_nil s q (by omega)] at this ⊢
              refine Ev.step (fun k => ?_) this
              simp only [templeref1_skip.l1]
              exact st_neg (by omega) rfl
            | succ d ihd =>
              intro q hq hpq
              have hql : q < s.size := by omega
              by_cases h10 : bt s (q : Int) = 10
              · have := ih q (by omega) (by omega)
                rw [bl_cons s q hql] at this ⊢
                rw [List.dropWhile_cons, h10]
                rw [h10] at this
                refine Ev.step (fun k => ?_) this
                simp only [templeref1_skip.l1]
                exact st_pos (by omega) (st_pos (by omega) (st_pos h10 rfl))
              · rw [bl_cons s q hql, List.dropWhile_cons, show (!(bt s (q : Int) == 10)) = true from by simp [h10], if_pos rfl]
                refine Ev.step (f := fun k => templeref1_skip.l1 k s ((q + 1 : Nat) : Int)) (fun k => ?_) (ihd (q + 1) (by omega) (by omega))
                simp only [templeref1_skip.l1]
                have w : wrap64 ((q : Int) + 1) = ((q + 1 : Nat) : Int) := wnat q 1 (by omega) (by omega)
                rw [w]
                exact st_pos (by omega) (st_pos (by omega) (st_neg h10 rfl))
          refine Ev.step (f := fun k => templeref1_skip.l1 k s (p : Int)) (fun k => ?_) (Ev.step (f := fun k => templeref1_skip.l1 k s ((p + 1 : Nat) : Int)) (fun k => ?_) (inner (s.size - (p + 1)) (p + 1) (by omega) (by omega)))
          · simp only [templeref1_skip.l0]
            exact st_pos (by omega) (st_pos (by omega) (st_pos h35 rfl))
          · simp only [templeref1_skip.l1]
            have w : wrap64 ((p : Int) + 1) = ((p + 1 : Nat) : Int) := wnat p 1 (by omega) (by omega)
            rw [w]
            exact st_pos (by omega) (st_pos (by omega) (st_neg (by omega) rfl))
        · rw [if_neg h35, ← bl_cons s p h]
          refine Ev.step (f := fun _ => some (at_ s ((bl s).drop p))) (fun k => ?_) (Ev.now _)
          simp only [templeref1_skip.l0]
          rw [at_drop s p hp]
          exact st_pos (by omega) (st_pos (by omega) (st_neg h35 (st_neg (by omega) (st_neg (by omega) (st_neg (by omega) (st_neg (by omega) rfl))))))
    · exact ih p (by omega) hp
/-- A token that is none. -/
def noTok : Int × Int × ByteArray × Int × Int × Int := (0, 0, ⟨#[]⟩, 0, 0, -1)
theorem quoted_l0 (s : ByteArray) (hs : s.size ≤ 70000) (p0 : Int) : ∀ (n p : Nat) (acc : List Int), s.size - p ≤ n → p ≤ s.size → acc.length + (s.size - p) ≤ 100000 →
    Ev (fun k => templeref1_quoted.l0 k s acc (p : Int) 1 p0 ⟨#[]⟩ 0 0) (match txtL ((bl s).drop p) with | some x => (1, p0, strOfNums (acc ++ x.1), 0, 0, at_ s x.2) | none => noTok) := by
  intro n
  induction n with
  | zero =>
    intro p acc hn hp ha
    rw [bl_nil s p (by omega), txtL_none (by simp) (by simp [chrL])]
    refine Ev.step (f := fun k => templeref1_quoted.j1 k s acc (p : Int) false 1 p0 ⟨#[]⟩ 0 0) (fun k => ?_) (Ev.step (f := fun _ => some noTok) (fun k => ?_) (Ev.now _))
    · simp only [templeref1_quoted.l0]
      exact st_neg (by omega) rfl
    · simp only [templeref1_quoted.j1]
      exact st_neg (by simp) (st_pos (by omega) rfl)
  | succ n ih =>
    intro p acc hn hp ha
    by_cases h : p < s.size
    · by_cases h34 : bt s (p : Int) = 34
      · have hh : ((bl s).drop p).head? = some 34 := by rw [bl_cons s p h, h34]; rfl
        rw [txtL_end hh]
        dsimp only
        refine Ev.step (f := fun k => templeref1_quoted.j1 k s acc (p : Int) false 1 p0 ⟨#[]⟩ 0 0) (fun k => ?_) (Ev.step (f := fun _ => some (1, p0, strOfNums (acc ++ []), 0, 0, at_ s ((bl s).drop p).tail)) (fun k => ?_) (Ev.now _))
        · simp only [templeref1_quoted.l0]
          refine st_pos (by omega) (st_pos (by omega) ?_)
          rw [h34]
          rfl
        · simp only [templeref1_quoted.j1]
          refine st_neg (by simp) (st_neg (by omega) ?_)
          rw [(head_lt hh).2.2, at_drop s (p + 1) (by omega), List.append_nil, wrap_ok _ (by omega) (by omega)]
          rfl
      · have hh : ¬ ((bl s).drop p).head? = some 34 := fun e => h34 (head_lt e).2.1
        obtain ⟨K, e⟩ := sign_ev s p hs hp 34 (by decide)
        have first : ∀ R, Ev (fun k => templeref1_quoted.j1 k s acc (p : Int) true 1 p0 ⟨#[]⟩ 0 0) R → Ev (fun k => templeref1_quoted.l0 k s acc (p : Int) 1 p0 ⟨#[]⟩ 0 0) R := fun R hR => Ev.step (fun k => by
          simp only [templeref1_quoted.l0]
          refine st_pos (by omega) (st_pos (by omega) ?_)
          rw [show (bt s (p : Int) != 34) = true from by simpa using h34]) hR
        cases hc : chrL 34 ((bl s).drop p) with
        | none =>
          rw [txtL_none hh hc]
          rw [hc] at e
          refine first _ ⟨K + 1, fun k hk => ?_⟩
          obtain ⟨k, rfl⟩ : ∃ j, k = j + 1 := ⟨k - 1, by omega⟩
          have e1 := e k (by omega)
          dsimp only [sgnR] at e1 ⊢
          simp only [templeref1_quoted.j1]
          exact st_pos trivial (st_bind e1 (st_pos (by decide) rfl))
        | some x =>
          rw [txtL_some hh hc]
          rw [hc] at e
          have hlt := chrL_lt (c := x.1) (r := x.2) hc
          have hsf := (chrL_suf (c := x.1) (r := x.2) hc).trans (drop_suf s p)
          have hr := chrL_range (c := x.1) (r := x.2) (suf_range (drop_suf s p)) hc
          obtain ⟨d1, d2, d3, d4⟩ := suf_drop hsf
          rw [bl_len] at hlt
          obtain ⟨K2, e2⟩ := ih (ps s x.2) (acc ++ [x.1]) (by omega) d2 (by simp; omega)
          rw [← d1] at e2
          refine first _ ⟨K + K2 + 1, fun k hk => ?_⟩
          obtain ⟨k, rfl⟩ : ∃ j, k = j + 1 := ⟨k - 1, by omega⟩
          have e1 := e k (by omega)
          have e3 := e2 k (by omega)
          dsimp only [sgnR] at e1 e3 ⊢
          simp only [templeref1_quoted.j1]
          refine st_pos trivial (st_bind e1 (st_neg (by dsimp only; omega) (st_pos (by omega) ?_)))
          dsimp only
          rw [d3, Int.emod_eq_of_lt hr.1 (by omega)]
          refine e3.trans ?_
          cases txtL x.2 with
          | none => rfl
          | some y =>
            dsimp only [Option.map_some]
            rw [List.append_assoc]
            rfl
    · exact ih p acc (by omega) hp ha
/-- What the document's reader of one end answers. -/
def oneE (s : ByteArray) : Option (Int × BL) → Int × Int
  | some x => (x.1, at_ s x.2)
  | none => (0, -1)
theorem one_ev (s : ByteArray) (hs : s.size ≤ 70000) (p : Nat) (hp : p ≤ s.size + 10) : Ev (fun k => templeref1_one.f k s (p : Int)) (oneE s (endL ((bl s).drop p))) := by
  have bad : Ev (fun k => templeref1_one.j0 k s (p : Int) true) (oneE s none) := by
    refine Ev.step (f := fun _ => some (0, -1)) (fun k => ?_) (Ev.now _)
    simp only [templeref1_one.j0, if_true]
  by_cases h : p < s.size
  · by_cases h39 : bt s (p : Int) = 39
    · have hh : ((bl s).drop p).head? = some 39 := by rw [bl_cons s p h, h39]; rfl
      unfold endL
      rw [if_pos hh, (head_lt hh).2.2]
      have w : wrap64 ((p : Int) + 1) = ((p + 1 : Nat) : Int) := wnat p 1 (by omega) (by omega)
      obtain ⟨K, e⟩ := sign_ev s (p + 1) hs (by omega) 39 (by decide)
      have first : ∀ R, Ev (fun k => templeref1_one.j0 k s (p : Int) false) R → Ev (fun k => templeref1_one.f k s (p : Int)) R := fun R hR => Ev.congr (fun k => by
        unfold templeref1_one.f
        refine st_neg (by omega) (st_pos (by omega) (st_pos (by omega) ?_))
        rw [h39]
        rfl) hR
      refine first _ ?_
      cases hc : chrL 39 ((bl s).drop (p + 1)) with
      | none =>
        rw [hc] at e
        refine ⟨K + 1, fun k hk => ?_⟩
        obtain ⟨k, rfl⟩ : ∃ j, k = j + 1 := ⟨k - 1, by omega⟩
        have e1 := e k (by omega)
        dsimp only [sgnR, oneE] at e1 ⊢
        simp only [templeref1_one.j0]
        exact st_neg (by simp) (st_bind (by rw [w]; exact e1) (st_pos (by decide) rfl))
      | some x =>
        rw [hc] at e
        have hsf := (chrL_suf (c := x.1) (r := x.2) hc).trans (drop_suf s (p + 1))
        have hr := chrL_range (c := x.1) (r := x.2) (suf_range (drop_suf s (p + 1))) hc
        obtain ⟨d1, d2, d3, d4⟩ := suf_drop hsf
        dsimp only [sgnR] at e ⊢
        rw [d3] at e
        by_cases h2 : x.2.head? = some 39
        · rw [if_pos h2]
          have h2' := h2
          rw [d1] at h2'
          obtain ⟨f1, f2, f3⟩ := head_lt h2'
          refine ⟨K + 1, fun k hk => ?_⟩
          obtain ⟨k, rfl⟩ : ∃ j, k = j + 1 := ⟨k - 1, by omega⟩
          have e1 := e k (by omega)
          dsimp only [oneE] at e1 ⊢
          simp only [templeref1_one.j0]
          refine st_neg (by simp) (st_bind (by rw [w]; exact e1) (st_neg (by dsimp only; omega) (st_neg (by dsimp only; omega) (st_pos (by dsimp only; omega) (st_pos (by dsimp only; omega) (st_pos f2 ?_))))))
          dsimp only
          rw [wrap_ok _ (by omega) (by omega), show x.2.tail = (bl s).drop (ps s x.2 + 1) from by rw [← f3, ← d1], at_drop s _ (by omega)]
          rfl
        · rw [if_neg h2]
          refine ⟨K + 1, fun k hk => ?_⟩
          obtain ⟨k, rfl⟩ : ∃ j, k = j + 1 := ⟨k - 1, by omega⟩
          have e1 := e k (by omega)
          dsimp only [oneE] at e1 ⊢
          simp only [templeref1_one.j0]
          refine st_neg (by simp) (st_bind (by rw [w]; exact e1) (st_neg (by dsimp only; omega) ?_))
          dsimp only
          by_cases hz : ps s x.2 < s.size
          · refine st_neg (by omega) (st_pos (by omega) (st_pos (by omega) (st_neg (fun q => ?_) rfl)))
            apply h2
            rw [d1, bl_cons s _ hz, q]
            rfl
          · exact st_pos (by omega) rfl
    · have hh : ¬ ((bl s).drop p).head? = some 39 := fun e => h39 (head_lt e).2.1
      unfold endL
      rw [if_neg hh]
      refine Ev.congr (fun k => ?_) bad
      unfold templeref1_one.f
      refine st_neg (by omega) (st_pos (by omega) (st_pos (by omega) ?_))
      rw [show (bt s (p : Int) != 39) = true from by simpa using h39]
  · have hh : ¬ ((bl s).drop p).head? = some 39 := by rw [bl_nil s p (by omega)]; simp
    unfold endL
    rw [if_neg hh]
    refine Ev.congr (fun k => ?_) bad
    unfold templeref1_one.f
    exact st_pos (by omega) rfl
end Go.Proofs.Ytjjccngjcamgjaa.PLA
