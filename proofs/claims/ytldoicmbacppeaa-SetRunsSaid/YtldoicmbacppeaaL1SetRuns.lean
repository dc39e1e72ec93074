/- Layer 1, plain: the law SetRuns answers true. -/
import Derived.Test.YtldoicmbacppeaaL1Runs
import Derived.Test.YtldoicmbacppeaaPL1x24
namespace Go.Proofs.Ytldoicmbacppeaa.PL1
open Go.RowKit Go.Proofs.YtldoicmbacppeaaW.PrintWords Go.Proofs.YtldoicmbacppeaaW.PrintLast
set_option linter.unusedVariables false
set_option linter.unusedSimpArgs false

theorem tot_take_bounds (p : Nat → Bool) (xs : List S40) (e : Int) (n : Nat) (h : Cl p xs e n) : ∀ i, 0 ≤ tot (xs.take i) ∧ tot (xs.take i) ≤ tot xs := by
  intro i
  have key : ∀ ys : List S40, (∀ r ∈ ys, 0 ≤ r.f0 ∧ r.f0 ≤ r.f1 ∧ r.f1 < e) → 0 ≤ tot ys := by
    intro ys
    induction ys with
    | nil => intro _; exact Int.le_refl _
    | cons r ys ih =>
      intro hy
      have h1 := ih (fun q hq => hy q (List.mem_cons_of_mem _ hq))
      have h2 := hy r List.mem_cons_self
      unfold tot at h1 ⊢
      simp only [List.map_cons, List.sum_cons]
      omega
  have h1 := key (xs.take i) (fun r hr => h.ends r (List.mem_of_mem_take hr))
  have h2 := key (xs.drop i) (fun r hr => h.ends r (List.mem_of_mem_drop hr))
  have h3 : tot xs = tot (xs.take i) + tot (xs.drop i) := by
    unfold tot
    rw [← List.sum_append, ← List.map_append, List.take_append_drop]
  omega

theorem SetRuns_l1 (p : Nat → Bool) (many : Int) (hm : many = (runsL p 256).length) : Ev (fun k => templelaw1_SetRuns.l1 k (runsL p 256) many 0 0 (setW p 0) (setW p 1) (setW p 2) (setW p 3)) true := by
  have hcl := runsL_all p 256
  have hb := tot_take_bounds p _ _ _ hcl
  have hs : tot (runsL p 256) ≤ 256 := by rw [hcl.sum]; have := cntb_le p 256; omega
  have hlen := runsL_len p 256
  have key : ∀ d i : Nat, i + d = (runsL p 256).length → Ev (fun k => templelaw1_SetRuns.l1 k (runsL p 256) many (tot ((runsL p 256).take i)) (i : Int) (setW p 0) (setW p 1) (setW p 2) (setW p 3)) true := by
    intro d
    induction d with
    | zero =>
      intro i hi
      refine Ev.step (f := fun _ => some true) (fun k => ?_) (Ev.now _)
      have hn := Num_eq 0
      simp only [templelaw1_SetRuns.l1]
      rw [if_neg (by omega), if_pos hm, Count_set, Option.bind_some, if_pos (by rw [show i = (runsL p 256).length from by omega, List.take_length, hcl.sum]), hn]
      rfl
    | succ d ih =>
      intro i hi
      refine Ev.step (f := fun k => templelaw1_SetRuns.l1 k (runsL p 256) many (tot ((runsL p 256).take (i + 1))) ((i + 1 : Nat) : Int) (setW p 0) (setW p 1) (setW p 2) (setW p 3)) (fun k => ?_) (ih (i + 1) (by omega))
      have hlt : i < (runsL p 256).length := by omega
      have hr := hcl.ends _ (List.getElem_mem hlt)
      have hrd : rd_T40 (runsL p 256) (i : Int) = (runsL p 256)[i] := by
        unfold rd_T40
        rw [Int.toNat_natCast, List.getD_eq_getElem?_getD, List.getElem?_eq_getElem hlt]
        rfl
      have ht : tot ((runsL p 256).take (i + 1)) = tot ((runsL p 256).take i) + ((runsL p 256)[i].f1 - (runsL p 256)[i].f0 + 1) := by
        rw [List.take_succ_eq_append_getElem hlt, tot_append]
      have hbi := hb i
      simp only [templelaw1_SetRuns.l1]
      rw [if_pos (by omega), if_pos (by omega), hrd, ht]
      generalize (runsL p 256)[i] = r at *
      generalize tot ((runsL p 256).take i) = t at *
      have w1 : wrap64 (t + r.f1) = t + r.f1 := by unfold wrap64; omega
      have w2 : wrap64 (t + r.f1 - r.f0) = t + r.f1 - r.f0 := by unfold wrap64; omega
      have w3 : wrap64 (t + r.f1 - r.f0 + 1) = t + (r.f1 - r.f0 + 1) := by unfold wrap64; omega
      have w4 : wrap64 ((i : Int) + 1) = ((i + 1 : Nat) : Int) := by unfold wrap64; omega
      rw [w1, w2, w3, w4]
  exact Ev.congr (fun k => rfl) (key (runsL p 256).length 0 (by omega))

theorem SetRuns_l0 (p : Nat → Bool) : Ev (fun k => templelaw1_SetRuns.l0 k (runsL p 256) 0 0 0 (setW p 0) (setW p 1) (setW p 2) (setW p 3)) true := by
  have key : ∀ d c : Nat, c + d = 256 → Ev (fun k => templelaw1_SetRuns.l0 k (runsL p 256) ((runsL p c).length : Int) 0 (c : Int) (setW p 0) (setW p 1) (setW p 2) (setW p 3)) true := by
    intro d
    induction d with
    | zero =>
      intro c hc
      obtain rfl : c = 256 := by omega
      refine Ev.step (f := fun k => templelaw1_SetRuns.l1 k (runsL p 256) ((runsL p 256).length : Int) 0 0 (setW p 0) (setW p 1) (setW p 2) (setW p 3)) (fun k => ?_) (SetRuns_l1 p _ rfl)
      simp only [templelaw1_SetRuns.l0]
      rw [if_neg (by omega)]
    | succ d ih =>
      intro c hc
      have hj : ∀ b : Bool, (b = true ↔ (p c = true ∧ ¬ (0 < c ∧ p (c - 1) = true))) → Ev (fun k => templelaw1_SetRuns.j1 k (runsL p 256) ((runsL p c).length : Int) 0 (c : Int) b (setW p 0) (setW p 1) (setW p 2) (setW p 3)) true := by
        intro b hb
        refine Ev.step (f := fun k => templelaw1_SetRuns.l0 k (runsL p 256) ((runsL p (c + 1)).length : Int) 0 ((c + 1 : Nat) : Int) (setW p 0) (setW p 1) (setW p 2) (setW p 3)) (fun k => ?_) (ih (c + 1) (by omega))
        have w4 : wrap64 ((c : Int) + 1) = ((c + 1 : Nat) : Int) := by unfold wrap64; omega
        have hl := runsL_len p c
        simp only [templelaw1_SetRuns.j1]
        by_cases h : p c = true ∧ ¬ (0 < c ∧ p (c - 1) = true)
        · obtain ⟨h1, h2⟩ := runsL_at p c 256 (by omega) h.1 h.2
          have e := congrArg List.length (runsL_begin p c h.1 h.2)
          simp only [List.length_map, List.length_append, List.length_singleton] at e
          have w5 : wrap64 (((runsL p c).length : Int) + 1) = (((runsL p c).length + 1 : Nat) : Int) := by unfold wrap64; omega
          rw [if_pos (hb.2 h), if_neg (by omega), if_pos (by omega), if_pos (by omega), if_pos h2, w4, w5, e]
        · have e := congrArg List.length (runsL_stay p c h)
          simp only [List.length_map] at e
          rw [if_neg (fun hx => h (hb.1 hx)), w4, e]
      by_cases hp : p c = true
      · by_cases ho : 0 < c ∧ p (c - 1) = true
        · refine Ev.step (f := fun k => templelaw1_SetRuns.j1 k (runsL p 256) ((runsL p c).length : Int) 0 (c : Int) false (setW p 0) (setW p 1) (setW p 2) (setW p 3)) (fun k => ?_) (hj false (by simp [ho]))
          simp only [templelaw1_SetRuns.l0]
          rw [if_pos (by omega), Has_set p _ (by omega) (by omega), Option.bind_some, Int.toNat_natCast, if_pos hp, show wrap64 ((c : Int) - 1) = ((c - 1 : Nat) : Int) from by unfold wrap64; omega, Has_set p _ (by omega) (by omega), Option.bind_some, Int.toNat_natCast, ho.2]
          rfl
        · refine Ev.step (f := fun k => templelaw1_SetRuns.j1 k (runsL p 256) ((runsL p c).length : Int) 0 (c : Int) true (setW p 0) (setW p 1) (setW p 2) (setW p 3)) (fun k => ?_) (hj true (by simp [hp, ho]))
          have hq : (decide (0 ≤ (c : Int) - 1 ∧ (c : Int) - 1 ≤ 255) && p ((c : Int) - 1).toNat) = false := by
            by_cases h0 : 0 < c
            · have : p (c - 1) = false := by
                cases hx : p (c - 1)
                · rfl
                · exact absurd ⟨h0, hx⟩ ho
              rw [show ((c : Int) - 1).toNat = c - 1 from by omega, this, Bool.and_false]
            · rw [show decide (0 ≤ (c : Int) - 1 ∧ (c : Int) - 1 ≤ 255) = false from by simp; omega, Bool.false_and]
          simp only [templelaw1_SetRuns.l0]
          rw [if_pos (by omega), Has_set p _ (by omega) (by omega), Option.bind_some, Int.toNat_natCast, if_pos hp, show wrap64 ((c : Int) - 1) = (c : Int) - 1 from by unfold wrap64; omega, Has_all, Option.bind_some, hq]
          rfl
      · refine Ev.step (f := fun k => templelaw1_SetRuns.j1 k (runsL p 256) ((runsL p c).length : Int) 0 (c : Int) false (setW p 0) (setW p 1) (setW p 2) (setW p 3)) (fun k => ?_) (hj false (by simp [hp]))
        simp only [templelaw1_SetRuns.l0]
        rw [if_pos (by omega), Has_set p _ (by omega) (by omega), Option.bind_some, Int.toNat_natCast, if_neg hp]
  exact Ev.congr (fun k => rfl) (key 256 0 (by omega))

theorem SetRuns_true (p : Nat → Bool) : ∃ k, templelaw1_SetRuns.f k (setW p 0) (setW p 1) (setW p 2) (setW p 3) = some true := by
  obtain ⟨K1, h1⟩ := awake_ev
  obtain ⟨K2, h2⟩ := Ranges_ev p
  obtain ⟨K3, h3⟩ := SetRuns_l0 p
  refine ⟨K1 + K2 + K3, ?_⟩
  have e1 := h1 _ (show K1 ≤ K1 + K2 + K3 by omega)
  have e2 := h2 _ (show K2 ≤ K1 + K2 + K3 by omega)
  have e3 := h3 _ (show K3 ≤ K1 + K2 + K3 by omega)
  clear h1 h2 h3
  dsimp only at e1 e2 e3
  generalize K1 + K2 + K3 = k at *
  unfold templelaw1_SetRuns.f
  rw [e1, Option.bind_some, if_pos rfl, e2, Option.bind_some, e3]

end Go.Proofs.Ytldoicmbacppeaa.PL1
