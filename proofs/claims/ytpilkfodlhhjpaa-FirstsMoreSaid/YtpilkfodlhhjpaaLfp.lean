/- The least fixed point of steps that set one bit under a condition, plain. -/
import Derived.Test.YtpilkfodlhhjpaaChan
set_option linter.unusedVariables false
namespace Go.Proofs.Ytpilkfodlhhjpaa
def runS (X : List (Nat × (List Bool → Bool))) (t : List Bool) : List Bool := X.foldl (fun t x => stepG x.1 (x.2 t) t) t
def leB (t F : List Bool) : Prop := ∀ i, t.getD i false = true → F.getD i false = true
theorem leB.refl (t : List Bool) : leB t t := fun _ h => h
theorem leB.trans {a b c : List Bool} (h : leB a b) (k : leB b c) : leB a c := fun i hi => k i (h i hi)
theorem runS_cons (x : Nat × (List Bool → Bool)) (X : List (Nat × (List Bool → Bool))) (t : List Bool) : runS (x :: X) t = runS X (stepG x.1 (x.2 t) t) := rfl
theorem runS_append (X Y : List (Nat × (List Bool → Bool))) (t : List Bool) : runS (X ++ Y) t = runS Y (runS X t) := List.foldl_append
theorem stepG_get (i : Nat) (c : Bool) (t : List Bool) (j : Nat) : (stepG i c t).getD j false = (t.getD j false || (decide (j = i) && decide (i < t.length) && c)) := by
  unfold stepG
  split
  · rename_i h
    rw [List.getD_eq_getElem?_getD, List.getElem?_set, List.getD_eq_getElem?_getD]
    by_cases e : i = j
    · subst e
      rw [if_pos rfl, h.2]
      by_cases hl : i < t.length
      · rw [if_pos hl]; simp [hl]
      · rw [if_neg hl]; simp [hl]
    · rw [if_neg e]
      have : decide (j = i) = false := decide_eq_false (Ne.symm e)
      rw [this]
      simp
  · rename_i h
    by_cases e : j = i
    · subst e
      by_cases hc : c = true
      · have ht : t.getD j false = true := by
          cases hv : t.getD j false with
          | true => rfl
          | false => exact absurd ⟨hv, hc⟩ h
        rw [ht]
        rfl
      · have : c = false := by simpa using hc
        rw [this]
        simp
    · have : decide (j = i) = false := decide_eq_false e
      rw [this]
      simp
theorem stepG_le (i : Nat) (c : Bool) (t : List Bool) : leB t (stepG i c t) := fun j h => by rw [stepG_get, h, Bool.true_or]
theorem runS_len (X : List (Nat × (List Bool → Bool))) : ∀ t, (runS X t).length = t.length := by
  induction X with
  | nil => exact fun _ => rfl
  | cons x X ih => exact fun t => by rw [runS_cons, ih, stepG_len]
theorem runS_ge (X : List (Nat × (List Bool → Bool))) : ∀ t, leB t (runS X t) := by
  induction X with
  | nil => exact fun _ => leB.refl _
  | cons x X ih => exact fun t => (stepG_le _ _ _).trans (ih _)
/-- What runs under a state that is closed stays under it; each bit that is set is paid for. -/
theorem runS_sup (X : List (Nat × (List Bool → Bool))) (F : List Bool) (Q : Nat → Prop) (hm : ∀ x ∈ X, ∀ t, leB t F → x.2 t = true → x.2 F = true) (hc : ∀ x ∈ X, x.2 F = true → F.getD x.1 false = true) (hQ : ∀ x ∈ X, x.2 F = true → Q x.1) : ∀ t, leB t F → (∀ i, t.getD i false = true → Q i) → leB (runS X t) F ∧ ∀ i, (runS X t).getD i false = true → Q i := by
  induction X with
  | nil => exact fun t h1 h2 => ⟨h1, h2⟩
  | cons x X ih =>
    intro t h1 h2
    rw [runS_cons]
    refine ih (fun y hy => hm y (List.mem_cons_of_mem _ hy)) (fun y hy => hc y (List.mem_cons_of_mem _ hy)) (fun y hy => hQ y (List.mem_cons_of_mem _ hy)) _ (fun i hi => ?_) (fun i hi => ?_)
    · rw [stepG_get, Bool.or_eq_true, Bool.and_eq_true, Bool.and_eq_true] at hi
      rcases hi with hi | hi
      · exact h1 i hi
      · obtain rfl := of_decide_eq_true hi.1.1
        exact hc x List.mem_cons_self (hm x List.mem_cons_self t h1 hi.2)
    · rw [stepG_get, Bool.or_eq_true, Bool.and_eq_true, Bool.and_eq_true] at hi
      rcases hi with hi | hi
      · exact h2 i hi
      · obtain rfl := of_decide_eq_true hi.1.1
        exact hQ x List.mem_cons_self (hm x List.mem_cons_self t h1 hi.2)
theorem iter_sup (X : List (Nat × (List Bool → Bool))) (F : List Bool) (Q : Nat → Prop) (hm : ∀ x ∈ X, ∀ t, leB t F → x.2 t = true → x.2 F = true) (hc : ∀ x ∈ X, x.2 F = true → F.getD x.1 false = true) (hQ : ∀ x ∈ X, x.2 F = true → Q x.1) (t : List Bool) (h1 : leB t F) (h2 : ∀ i, t.getD i false = true → Q i) : ∀ m, leB (iterT (runS X) m t) F ∧ ∀ i, (iterT (runS X) m t).getD i false = true → Q i
  | 0 => ⟨h1, h2⟩
  | m + 1 => by
    obtain ⟨h3, h4⟩ := iter_sup X F Q hm hc hQ t h1 h2 m
    exact runS_sup X F Q hm hc hQ _ h3 h4
/-- A state that a run leaves as it is, is closed. -/
theorem runS_closed (X : List (Nat × (List Bool → Bool))) (F : List Bool) (hr : runS X F = F) (hx : ∀ x ∈ X, x.1 < F.length) : ∀ x ∈ X, x.2 F = true → F.getD x.1 false = true := by
  induction X with
  | nil => exact fun x hx => by cases hx
  | cons y X ih =>
    rw [runS_cons] at hr
    have he : stepG y.1 (y.2 F) F = F := by
      refine List.ext_getElem (stepG_len _ _ _) (fun i h1 h2 => ?_)
      have g1 := stepG_le y.1 (y.2 F) F i
      have g2 := runS_ge X (stepG y.1 (y.2 F) F) i
      rw [hr] at g2
      rw [List.getD_eq_getElem?_getD, List.getElem?_eq_getElem h2, List.getD_eq_getElem?_getD, List.getElem?_eq_getElem h1] at g1
      rw [List.getD_eq_getElem?_getD, List.getElem?_eq_getElem h1, List.getD_eq_getElem?_getD, List.getElem?_eq_getElem h2] at g2
      simp only [Option.getD_some] at g1 g2
      rw [Bool.eq_iff_iff]
      exact ⟨g2, g1⟩
    intro x hx2 hc
    rw [he] at hr
    rcases List.mem_cons.1 hx2 with rfl | hx2
    · have g := stepG_get x.1 (x.2 F) F x.1
      rw [he, hc] at g
      have : decide (x.1 < F.length) = true := decide_eq_true (hx x List.mem_cons_self)
      rw [this] at g
      simpa using g
    · exact ih hr (fun z hz => hx z (List.mem_cons_of_mem _ hz)) x hx2 hc
end Go.Proofs.Ytpilkfodlhhjpaa
