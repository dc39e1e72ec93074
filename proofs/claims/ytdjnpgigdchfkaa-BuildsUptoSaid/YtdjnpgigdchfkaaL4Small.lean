import Derived.Test.YtdjnpgigdchfkaaL4Made
import Derived.Test.YtdjnpgigdchfkaaOBS
set_option linter.unusedVariables false
namespace Go.Proofs.Ytdjnpgigdchfkaa.PBS
open Go.RowKit Go.Proofs.YtdjnpgigdchfkaaW.PrintWords
theorem sum_mem {α : Type} (f : α → Nat) : ∀ {l : List α} {x : α}, x ∈ l → f x ≤ (l.map f).sum
  | y :: l, x, h => by
    rw [List.map_cons, List.sum_cons]
    rcases List.mem_cons.1 h with rfl | h
    · omega
    · have := sum_mem f h
      omega
theorem sum_le {α : Type} {f g : α → Nat} : ∀ (l : List α), (∀ x ∈ l, f x ≤ g x) → (l.map f).sum ≤ (l.map g).sum
  | [], _ => Nat.le_refl _
  | y :: l, h => by
    rw [List.map_cons, List.sum_cons, List.map_cons, List.sum_cons]
    have h1 := h y List.mem_cons_self
    have h2 := sum_le l (fun x hx => h x (List.mem_cons_of_mem _ hx))
    omega
theorem len_le {α : Type} {g : α → Nat} : ∀ (l : List α), (∀ x ∈ l, 1 ≤ g x) → l.length ≤ (l.map g).sum
  | [], _ => Nat.le_refl _
  | y :: l, h => by
    rw [List.map_cons, List.sum_cons, List.length_cons]
    have h1 := h y List.mem_cons_self
    have h2 := len_le l (fun x hx => h x (List.mem_cons_of_mem _ hx))
    omega
theorem symsL_length (m : MapP) (x : S61) : (symsL m x).length ≤ B61 x := by
  unfold symsL B61
  split
  · simp
  split
  · simp; omega
  split <;> simp
theorem flat_len {α β : Type} (f : α → List β) : ∀ l : List α, (l.flatMap f).length = (l.map (fun x => (f x).length)).sum
  | [] => rfl
  | y :: l => by rw [List.flatMap_cons, List.length_append, List.map_cons, List.sum_cons, flat_len f l]
theorem small_of_bulk (l : List S45) (h : (l.map (fun y => B45 y)).sum ≤ 1048576) : RawSmall l := by
  have hd : ∀ d ∈ l, B45 d ≤ 1048576 := fun d hd => Nat.le_trans (sum_mem (fun y => B45 y) hd) h
  have ha : ∀ d ∈ l, (d.f1.map (fun a => (a.map (fun c => B64 c)).sum + 1)).sum ≤ 1048576 := fun d hm => by
    have := hd d hm
    unfold B45 at this
    omega
  have hc : ∀ d ∈ l, ∀ a ∈ d.f1, (a.map (fun c => B64 c)).sum ≤ 1048576 := fun d hm a hma => by
    have h1 := ha d hm
    have h2 := sum_mem (fun a : List S64 => (a.map (fun c => B64 c)).sum + 1) hma
    omega
  have hi : ∀ d ∈ l, ∀ a ∈ d.f1, ∀ c ∈ a, (c.f1.map (fun x => B61 x)).sum ≤ 1048576 := fun d hm a hma c hmc => by
    have h1 := hc d hm a hma
    have h2 := sum_mem (fun c : S64 => B64 c) hmc
    have h3 : B64 c = 1 + ((c.f1.map (fun y => B61 y)).sum + 1) + 1 := rfl
    omega
  refine ⟨Nat.le_trans (len_le l (fun x _ => by unfold B45; omega)) h, Nat.le_trans (sum_le l (fun d _ => ?_)) h, fun d hm a hma => Nat.le_trans (len_le a (fun x _ => by unfold B64; omega)) (hc d hm a hma), fun d hm a hma c hmc => ⟨Nat.le_trans (len_le c.f1 (fun x _ => by unfold B61; omega)) (hi d hm a hma c hmc), fun m => ?_, fun x hx => ?_⟩⟩
  · unfold B45
    have := len_le (g := fun a : List S64 => (a.map (fun c => B64 c)).sum + 1) d.f1 (fun _ _ => Nat.le_add_left _ _)
    omega
  · rw [flat_len]
    exact Nat.le_trans (sum_le c.f1 (fun x _ => symsL_length m x)) (hi d hm a hma c hmc)
  · have h1 := hi d hm a hma c hmc
    have h2 := sum_mem (fun x : S61 => B61 x) hx
    have h3 : B61 x = 1 + ((x.f1.size + 1) + (1 + (1))) + 1 := rfl
    omega
end Go.Proofs.Ytdjnpgigdchfkaa.PBS
