/- Layer 1, plain: the law SetRules answers true. -/
import Derived.Test.YtldoicmbacppeaaL1cRuns
import Derived.Test.YtldoicmbacppeaaPLRx14
namespace Go.Proofs.Ytldoicmbacppeaa.PLR
open Go.RowKit Go.Proofs.YtldoicmbacppeaaW.PrintWords Go.Proofs.YtldoicmbacppeaaW.PrintLast
set_option linter.unusedVariables false
set_option linter.unusedSimpArgs false

theorem cntb_or_and (p q : Nat → Bool) : ∀ n, cntb (fun k => p k || q k) n + cntb (fun k => p k && q k) n = cntb p n + cntb q n
  | 0 => rfl
  | n + 1 => by
    have ih := cntb_or_and p q n
    rw [show cntb (fun k => p k || q k) (n + 1) = cntb (fun k => p k || q k) n + (if (p n || q n) = true then 1 else 0) from rfl, show cntb (fun k => p k && q k) (n + 1) = cntb (fun k => p k && q k) n + (if (p n && q n) = true then 1 else 0) from rfl, show cntb p (n + 1) = cntb p n + (if p n = true then 1 else 0) from rfl, show cntb q (n + 1) = cntb q n + (if q n = true then 1 else 0) from rfl]
    cases p n <;> cases q n <;> simp <;> omega
def cov (xs : List S40) (k : Nat) : Bool := xs.any (fun r => rangeP r.f0 r.f1 k)
theorem cov_all (p : Nat → Bool) (k : Nat) (hk : k < 256) : cov (runsL p 256) k = p k := by
  have h := (runsL_all p 256).mem k hk
  unfold cov
  rw [Bool.eq_iff_iff, List.any_eq_true, h]
  constructor
  · rintro ⟨r, hr, h1⟩
    exact ⟨r, hr, by simpa [rangeP] using h1⟩
  · rintro ⟨r, hr, h1⟩
    exact ⟨r, hr, by simpa [rangeP] using h1⟩
theorem cov_take (xs : List S40) (i : Nat) (h : i < xs.length) : cov (xs.take (i + 1)) = fun k => cov (xs.take i) k || rangeP xs[i].f0 xs[i].f1 k := by
  funext k
  unfold cov
  rw [List.take_succ_eq_append_getElem h, List.any_append]
  simp
theorem rd_at (xs : List S40) (i : Nat) (h : i < xs.length) : rd_T40 xs (i : Int) = xs[i] := by
  unfold rd_T40
  rw [Int.toNat_natCast, List.getD_eq_getElem?_getD, List.getElem?_eq_getElem h]
  rfl
theorem SetRules_l0 (p : Nat → Bool) : Ev (fun k => templelaw1_SetRules.l0 k (runsL p 256) 0 (setW p 0) (setW p 1) (setW p 2) (setW p 3) 0 0 0 0) true := by
  have hcl := runsL_all p 256
  have hlen := runsL_len p 256
  have key : ∀ d i : Nat, i + d = (runsL p 256).length → Ev (fun k => templelaw1_SetRules.l0 k (runsL p 256) (i : Int) (setW p 0) (setW p 1) (setW p 2) (setW p 3) (setW (cov ((runsL p 256).take i)) 0) (setW (cov ((runsL p 256).take i)) 1) (setW (cov ((runsL p 256).take i)) 2) (setW (cov ((runsL p 256).take i)) 3)) true := by
    intro d
    induction d with
    | zero =>
      intro i hi
      refine Ev.step (f := fun _ => some true) (fun k => ?_) (Ev.now _)
      simp only [templelaw1_SetRules.l0]
      rw [if_neg (by omega), show i = (runsL p 256).length from by omega, List.take_length]
      exact congrArg some (eq4 (fun k hk => cov_all p k hk))
    | succ d ih =>
      intro i hi
      have hlt : i < (runsL p 256).length := by omega
      refine Ev.step (f := fun k => templelaw1_SetRules.l0 k (runsL p 256) ((i + 1 : Nat) : Int) (setW p 0) (setW p 1) (setW p 2) (setW p 3) (setW (cov ((runsL p 256).take (i + 1))) 0) (setW (cov ((runsL p 256).take (i + 1))) 1) (setW (cov ((runsL p 256).take (i + 1))) 2) (setW (cov ((runsL p 256).take (i + 1))) 3)) (fun k => ?_) (ih (i + 1) (by omega))
      have hr := hcl.ends _ (List.getElem_mem hlt)
      have hrd := rd_at (runsL p 256) i hlt
      have hy := Range_yes (runsL p 256)[i].f0 (runsL p 256)[i].f1 (by omega) (by omega) (by omega)
      have hw : wrap64 ((i : Int) + 1) = ((i + 1 : Nat) : Int) := by unfold wrap64; omega
      have hn := Num_eq 0
      have ho := Or_set (cov ((runsL p 256).take i)) (rangeP (runsL p 256)[i].f0 (runsL p 256)[i].f1)
      simp only [templelaw1_SetRules.l0]
      rw [if_pos (by omega), if_pos (by omega), hrd, hy, Option.bind_some, hn, Option.bind_some, if_pos rfl, cov_take _ _ hlt]
      by_cases h0 : 0 < i
      · have hlt' : i - 1 < (runsL p 256).length := by omega
        have hw1 : wrap64 ((i : Int) - 1) = ((i - 1 : Nat) : Int) := by unfold wrap64; omega
        have hrd' := rd_at (runsL p 256) (i - 1) hlt'
        have hr' := hcl.ends _ (List.getElem_mem hlt')
        have hgap := List.pairwise_iff_getElem.1 hcl.gaps (i - 1) i hlt' hlt (by omega)
        have hw2 : wrap64 ((runsL p 256)[i - 1].f1 + 1) = (runsL p 256)[i - 1].f1 + 1 := by unfold wrap64; omega
        rw [if_pos (by omega), hw1, if_pos (by omega), if_pos (by omega), hrd', hw2, if_neg (by omega), ho, Option.bind_some, hw]
      · rw [if_neg (by omega), ho, Option.bind_some, hw]
  have h := key (runsL p 256).length 0 (by omega)
  have e : ∀ i, setW (cov ((runsL p 256).take 0)) i = 0 := fun i => setW_false i
  rw [e, e, e, e] at h
  exact h
theorem st_bind {α β : Type} {o : Option α} {f : α → Option β} {a : α} {r : Option β} (h : o = some a) (g : f a = r) : o.bind f = r := by
  rw [h, Option.bind_some]
  exact g
theorem st_pos {α : Type} {c : Prop} [Decidable c] {A B r : α} (h : c) (g : A = r) : (if c then A else B) = r := (if_pos h).trans g
theorem st_neg {α : Type} {c : Prop} [Decidable c] {A B r : α} (h : ¬ c) (g : B = r) : (if c then A else B) = r := (if_neg h).trans g
theorem same_no (a b c d : Int) : ¬ ((!(a == a) || (!(b == b) || (!(c == c) || (!(d == d))))) = true) := by simp
theorem SetRules_true (p q : Nat → Bool) : ∃ k, templelaw1_SetRules.f k (setW p 0) (setW p 1) (setW p 2) (setW p 3) (setW q 0) (setW q 1) (setW q 2) (setW q 3) = some true := by
  obtain ⟨k1, h1⟩ := awake_ev
  obtain ⟨k2, h2⟩ := Ranges_ev p
  obtain ⟨k3, h3⟩ := SetRules_l0 p
  refine ⟨k1 + k2 + k3, ?_⟩
  have h1 := h1 (k1 + k2 + k3) (by omega)
  have h2 := h2 (k1 + k2 + k3) (by omega)
  have h3 := h3 (k1 + k2 + k3) (by omega)
  generalize k1 + k2 + k3 = k at *
  have hc := cntb_or_and p q 256
  have c1 := Count_set (fun k => p k || q k)
  have c2 := Count_set (fun k => p k && q k)
  have c3 := Count_set p
  have c4 := Count_set q
  generalize cntb (fun k => p k || q k) 256 = n1 at c1 hc
  generalize cntb (fun k => p k && q k) 256 = n2 at c2 hc
  generalize cntb p 256 = n3 at c3 hc
  generalize cntb q 256 = n4 at c4 hc
  have hc' : (n1 : Int) + (n2 : Int) = (n3 : Int) + (n4 : Int) := by omega
  clear hc
  have q1 : (fun k => (p k || q k) && !q k) = (fun k => p k && !q k) := by
    funext k
    cases p k <;> cases q k <;> rfl
  have q2 : (fun k => (p k && q k) || (p k && !q k)) = p := by
    funext k
    cases p k <;> cases q k <;> rfl
  have q3 : (fun k => (p k && !q k) && q k) = (fun _ => false) := by
    funext k
    cases p k <;> cases q k <;> rfl
  have z0 := setW_false
  have m1 : byteset_Minus.f (setW (fun k => p k || q k) 0) (setW (fun k => p k || q k) 1) (setW (fun k => p k || q k) 2) (setW (fun k => p k || q k) 3) (setW q 0) (setW q 1) (setW q 2) (setW q 3) = some (setW (fun k => p k && !q k) 0, setW (fun k => p k && !q k) 1, setW (fun k => p k && !q k) 2, setW (fun k => p k && !q k) 3) := by
    have := Minus_set (fun k => p k || q k) q
    simpa only [q1] using this
  have m2 : byteset_Or.f (setW (fun k => p k && q k) 0) (setW (fun k => p k && q k) 1) (setW (fun k => p k && q k) 2) (setW (fun k => p k && q k) 3) (setW (fun k => p k && !q k) 0) (setW (fun k => p k && !q k) 1) (setW (fun k => p k && !q k) 2) (setW (fun k => p k && !q k) 3) = some (setW p 0, setW p 1, setW p 2, setW p 3) := by
    have := Or_set (fun k => p k && q k) (fun k => p k && !q k)
    simpa only [q2] using this
  have m3 : byteset_And.f (setW (fun k => p k && !q k) 0) (setW (fun k => p k && !q k) 1) (setW (fun k => p k && !q k) 2) (setW (fun k => p k && !q k) 3) (setW q 0) (setW q 1) (setW q 2) (setW q 3) = some (0, 0, 0, 0) := by
    have := And_set (fun k => p k && !q k) q
    simpa only [q3, z0] using this
  have m4 := Minus_set p q
  have o1 := Or_set p q
  have a1 := And_set p q
  unfold templelaw1_SetRules.f
  refine st_bind h1 (st_pos rfl (st_bind o1 (st_bind a1 (st_bind c1 (st_bind c2 (st_bind c3 (st_bind c4 ?_)))))))
  refine st_pos (by rw [hc']) (st_bind m1 (st_bind m4 ?_))
  refine st_neg (same_no _ _ _ _) (st_bind m4 (st_bind m2 ?_))
  refine st_neg (same_no _ _ _ _) (st_bind m4 (st_bind m3 ?_))
  exact st_neg (same_no _ _ _ _) (st_bind h2 h3)

end Go.Proofs.Ytldoicmbacppeaa.PLR
