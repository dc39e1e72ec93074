/- Layer 1: what runs are. -/
import Derived.Test.YtldoicmbacppeaaL1c
namespace Go.Proofs.Ytldoicmbacppeaa.PLR
open Go.RowKit Go.Proofs.YtldoicmbacppeaaW.PrintWords Go.Proofs.YtldoicmbacppeaaW.PrintLast
set_option linter.unusedVariables false
set_option linter.unusedSimpArgs false

def tot (xs : List S40) : Int := (xs.map (fun r => r.f1 - r.f0 + 1)).sum
/-- Runs that tell p on all bytes below s, all of them ended before s. -/
structure Cl (p : Nat → Bool) (xs : List S40) (e : Int) (n : Nat) : Prop where
  ends : ∀ r ∈ xs, 0 ≤ r.f0 ∧ r.f0 ≤ r.f1 ∧ r.f1 < e
  gaps : xs.Pairwise (fun r q => r.f1 + 1 < q.f0)
  mem : ∀ k : Nat, k < n → (p k = true ↔ ∃ r ∈ xs, r.f0 ≤ (k : Int) ∧ (k : Int) ≤ r.f1)
  sum : tot xs = ((cntb p n : Nat) : Int)
theorem tot_append (xs : List S40) (r : S40) : tot (xs ++ [r]) = tot xs + (r.f1 - r.f0 + 1) := by
  unfold tot
  simp
theorem set_last (xs : List S40) (r q : S40) : (xs ++ [r]).set ((xs ++ [r]).length - 1) q = xs ++ [q] := by
  simp
theorem rd_last (xs : List S40) (r : S40) : rd_T40 (xs ++ [r]) (((xs ++ [r]).length : Int) - 1) = r := by
  unfold rd_T40
  rw [show (((xs ++ [r]).length : Int) - 1).toNat = xs.length from by simp]
  simp
theorem Cl.nil (p : Nat → Bool) : Cl p [] (-1) 0 := ⟨by simp, by simp, by intro k hk; omega, rfl⟩
theorem Cl.skip {p : Nat → Bool} {xs : List S40} {e : Int} {n : Nat} (h : Cl p xs e n) (he : e ≤ n) (hp : p n = false) : Cl p xs e (n + 1) := by
  refine ⟨h.ends, h.gaps, fun k hk => ?_, ?_⟩
  · by_cases hkn : k = n
    · subst hkn
      rw [hp]
      constructor
      · intro h2; cases h2
      · rintro ⟨r, hr, h1, h2⟩
        have := h.ends r hr
        omega
    · exact h.mem k (by omega)
  · rw [h.sum, show cntb p (n + 1) = cntb p n + (if p n then 1 else 0) from rfl, hp]
    rfl
theorem cntb_all {p : Nat → Bool} {s : Nat} : ∀ {d : Nat}, (∀ k, s ≤ k → k < s + d → p k = true) → cntb p (s + d) = cntb p s + d
  | 0, _ => rfl
  | d + 1, h => by
    rw [show cntb p (s + (d + 1)) = cntb p (s + d) + (if p (s + d) then 1 else 0) from rfl, cntb_all (fun k h1 h2 => h k h1 (by omega)), if_pos (h (s + d) (by omega) (by omega))]
    omega
/-- A run more. -/
theorem Cl.close {p : Nat → Bool} {ys : List S40} {s d : Nat} (h : Cl p ys ((s : Int) - 1) s) (hp : ∀ k, s ≤ k → k < s + (d + 1) → p k = true) : Cl p (ys ++ [⟨(s : Int), ((s + d : Nat) : Int)⟩]) ((s + (d + 1) : Nat) : Int) (s + (d + 1)) := by
  refine ⟨fun r hr => ?_, ?_, fun k hk => ?_, ?_⟩
  · rcases List.mem_append.1 hr with hr | hr
    · have := h.ends r hr
      omega
    · rw [List.mem_singleton.1 hr]
      dsimp only
      omega
  · rw [List.pairwise_append]
    refine ⟨h.gaps, by simp, fun r hr q hq => ?_⟩
    rw [List.mem_singleton.1 hq]
    have := h.ends r hr
    dsimp only
    omega
  · by_cases hks : k < s
    · rw [h.mem k hks]
      constructor
      · rintro ⟨r, hr, h1⟩
        exact ⟨r, List.mem_append_left _ hr, h1⟩
      · rintro ⟨r, hr, h1, h2⟩
        rcases List.mem_append.1 hr with hr | hr
        · exact ⟨r, hr, h1, h2⟩
        · rw [List.mem_singleton.1 hr] at h1
          dsimp only at h1
          omega
    · constructor
      · intro _
        refine ⟨⟨(s : Int), ((s + d : Nat) : Int)⟩, by simp, ?_, ?_⟩ <;> dsimp only <;> omega
      · intro _
        exact hp k (by omega) hk
  · rw [tot_append, h.sum, cntb_all hp]
    dsimp only
    omega
/-- How the runs stand at byte c. -/
theorem runsL_inv (p : Nat → Bool) : ∀ c : Nat, (0 < c ∧ p (c - 1) = true → ∃ ys s d, c = s + (d + 1) ∧ runsL p c = ys ++ [⟨(s : Int), ((s + d : Nat) : Int)⟩] ∧ Cl p ys ((s : Int) - 1) s ∧ (∀ k, s ≤ k → k < s + (d + 1) → p k = true)) ∧ (¬ (0 < c ∧ p (c - 1) = true) → Cl p (runsL p c) ((c : Int) - 1) c)
  | 0 => ⟨fun h => absurd h.1 (Nat.lt_irrefl _), fun _ => Cl.nil p⟩
  | c + 1 => by
    obtain ⟨ih1, ih2⟩ := runsL_inv p c
    rw [show runsL p (c + 1) = stepR p c (runsL p c) from rfl, show c + 1 - 1 = c from rfl]
    unfold stepR
    by_cases hp : p c = true
    · refine ⟨fun _ => ?_, fun h => absurd ⟨Nat.succ_pos c, hp⟩ h⟩
      rw [if_pos hp]
      by_cases ho : 0 < c ∧ p (c - 1) = true
      · rw [if_pos ho]
        obtain ⟨ys, s, d, hc, he, hcl, hall⟩ := ih1 ho
        refine ⟨ys, s, d + 1, by omega, ?_, hcl, fun k h1 h2 => ?_⟩
        · rw [he, set_last, rd_last]
          simp
          omega
        · by_cases hk : k < s + (d + 1)
          · exact hall k h1 hk
          · rwa [show k = c from by omega]
      · rw [if_neg ho]
        refine ⟨runsL p c, c, 0, rfl, rfl, ih2 ho, fun k h1 h2 => ?_⟩
        rwa [show k = c from by omega]
    · refine ⟨fun h => absurd h.2 hp, fun _ => ?_⟩
      rw [if_neg hp]
      have hp' : p c = false := by simpa using hp
      by_cases ho : 0 < c ∧ p (c - 1) = true
      · obtain ⟨ys, s, d, hc, he, hcl, hall⟩ := ih1 ho
        have h1 := (hcl.close hall).skip (Int.le_refl _) (by rw [← hc]; exact hp')
        rw [he]
        rw [← hc] at h1
        rw [show ((c + 1 : Nat) : Int) - 1 = (c : Int) from by omega]
        exact h1
      · have h1 := (ih2 ho).skip (by omega) hp'
        refine ⟨fun r hr => ?_, h1.gaps, h1.mem, h1.sum⟩
        have := h1.ends r hr
        omega
theorem runsL_all (p : Nat → Bool) (c : Nat) : Cl p (runsL p c) (c : Int) c := by
  obtain ⟨h1, h2⟩ := runsL_inv p c
  by_cases ho : 0 < c ∧ p (c - 1) = true
  · obtain ⟨ys, s, d, hc, he, hcl, hall⟩ := h1 ho
    have h3 := hcl.close hall
    rw [he, hc]
    exact h3
  · have h3 := h2 ho
    exact ⟨fun r hr => by have := h3.ends r hr; omega, h3.gaps, h3.mem, h3.sum⟩
/-! where runs begin -/
theorem runsL_begin (p : Nat → Bool) (c : Nat) (hp : p c = true) (ho : ¬ (0 < c ∧ p (c - 1) = true)) : (runsL p (c + 1)).map S40.f0 = (runsL p c).map S40.f0 ++ [(c : Int)] := by
  rw [show runsL p (c + 1) = stepR p c (runsL p c) from rfl]
  unfold stepR
  rw [if_pos hp, if_neg ho]
  simp
theorem runsL_stay (p : Nat → Bool) (c : Nat) (h : ¬ (p c = true ∧ ¬ (0 < c ∧ p (c - 1) = true))) : (runsL p (c + 1)).map S40.f0 = (runsL p c).map S40.f0 := by
  rw [show runsL p (c + 1) = stepR p c (runsL p c) from rfl]
  unfold stepR
  by_cases hp : p c = true
  · rw [if_pos hp]
    by_cases ho : 0 < c ∧ p (c - 1) = true
    · rw [if_pos ho]
      obtain ⟨ys, s, d, hc, he, hcl, hall⟩ := (runsL_inv p c).1 ho
      rw [he, set_last, rd_last]
      simp
    · exact absurd ⟨hp, ho⟩ h
  · rw [if_neg hp]
theorem runsL_prefix (p : Nat → Bool) (c : Nat) : ∀ d : Nat, ∃ zs, (runsL p (c + d)).map S40.f0 = (runsL p c).map S40.f0 ++ zs
  | 0 => ⟨[], by simp⟩
  | d + 1 => by
    obtain ⟨zs, h⟩ := runsL_prefix p c d
    by_cases hb : p (c + d) = true ∧ ¬ (0 < c + d ∧ p (c + d - 1) = true)
    · exact ⟨zs ++ [((c + d : Nat) : Int)], by rw [show c + (d + 1) = (c + d) + 1 from rfl, runsL_begin p (c + d) hb.1 hb.2, h, List.append_assoc]⟩
    · exact ⟨zs, by rw [show c + (d + 1) = (c + d) + 1 from rfl, runsL_stay p (c + d) hb, h]⟩
theorem runsL_at (p : Nat → Bool) (c n : Nat) (hn : c < n) (hp : p c = true) (ho : ¬ (0 < c ∧ p (c - 1) = true)) : (runsL p c).length < (runsL p n).length ∧ (rd_T40 (runsL p n) ((runsL p c).length : Int)).f0 = (c : Int) := by
  obtain ⟨zs, h⟩ := runsL_prefix p (c + 1) (n - (c + 1))
  rw [show c + 1 + (n - (c + 1)) = n from by omega, runsL_begin p c hp ho] at h
  have hl := congrArg List.length h
  simp only [List.length_map, List.length_append, List.length_singleton] at hl
  refine ⟨by omega, ?_⟩
  have hg := congrArg (fun l => l[(runsL p c).length]?) h
  simp only [List.append_assoc] at hg
  rw [List.getElem?_append_right (by simp)] at hg
  simp only [List.length_map, Nat.sub_self, List.singleton_append, List.getElem?_cons_zero, List.getElem?_map] at hg
  unfold rd_T40
  rw [Int.toNat_natCast, List.getD_eq_getElem?_getD]
  cases hx : (runsL p n)[(runsL p c).length]? with
  | none => rw [hx] at hg; simp at hg
  | some r => rw [hx] at hg; simpa using hg
end Go.Proofs.Ytldoicmbacppeaa.PLR
