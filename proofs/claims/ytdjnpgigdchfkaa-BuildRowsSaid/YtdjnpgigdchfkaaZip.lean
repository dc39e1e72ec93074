import Derived.Test.YtdjnpgigdchfkaaWWords
namespace Go.Proofs.Ytdjnpgigdchfkaa
open Go.RowKit Go.Proofs.YtdjnpgigdchfkaaW.PrintWords
set_option linter.unusedVariables false
def Op {α : Type} (d : Kd α) (e : Nat) (w : World) (base : Nat) (ok : Nat → Prop) (v : Value) (xs : List α) (last : List Value) : Prop :=
  ∃ inner, w.ownsRow base e d.sz v (xs.length + 1) (inner ++ last) ∧ Reps (d.M w base ok) d.sz xs inner ∧ last.length = d.sz ∧ (∀ u ∈ last, u.oneCell' = true)
section
variable {α : Type} {d : Kd α} {e : Nat} {w w1 : World} {base : Nat} {ok ok' : Nat → Prop} {v : Value} {xs : List α} {last : List Value}
theorem Op.form (h : Op d e w base ok v xs last) : ∃ g cap, v = .slice (some ⟨g, 0, none⟩) (xs.length + 1) cap ∧ base ≤ g ∧ g < w.heap.size ∧ xs.length + 1 ≤ cap ∧ (∃ cells, w.heap[g]? = some (.cells cells e (0, 0))) ∧
    (∀ j u, last[j]? = some u → w.cell? ⟨g, xs.length * d.sz + j, none⟩ = some u) ∧ (∀ j, w.frozen? ⟨g, j, none⟩ = false) := by
  obtain ⟨inner, ho, hr, hl, h1⟩ := h
  obtain ⟨g, cap, rfl, hb, hlt⟩ := ho.form (by omega)
  obtain ⟨cells, hc⟩ := own_typed ho g rfl
  refine ⟨g, cap, rfl, hb, hlt, own_le ho, ⟨cells, hc⟩, fun j u hu => ?_, fun j => by simp [World.frozen?, hc]⟩
  have hi : inner.length = xs.length * d.sz := hr.1
  have := ho.cells (g := g) rfl (inner.length + j) u (by rw [List.getElem?_append_right (by omega), show inner.length + j - inner.length = j from by omega]; exact hu)
  rwa [add_plain, hi] at this
theorem Op.mono (h : Op d e w base ok v xs last) (hok : ∀ k, ok k → ok' k) : Op d e w base ok' v xs last := by
  obtain ⟨inner, ho, hr, hl, h1⟩ := h
  exact ⟨inner, ho, hr.imp_ (fun _ _ hp => d.M_mono hok hp), hl, h1⟩
theorem Op.move (h : Op d e w base ok v xs last) (hm : ∀ k, (v.ownBlock = some k ∨ ok k) → k < w.heap.size → w1.heap[k]? = w.heap[k]?) : Op d e w1 base ok v xs last := by
  obtain ⟨inner, ho, hr, hl, h1⟩ := h
  exact ⟨inner, own_move ho (fun k hk => hm k (.inl hk) (own_lt ho k hk)), hr.imp_ (fun _ _ hp => Kd.M_step hp (fun k hk hlt => hm k (.inr hk) hlt)), hl, h1⟩
theorem Op.close {x : α} (h : Op d e w base ok v xs last) (hx : d.M w base ok x last) : ∃ inner, w.ownsRow base e d.sz v (xs ++ [x]).length inner ∧ Reps (d.M w base ok) d.sz (xs ++ [x]) inner := by
  obtain ⟨inner, ho, hr, hl, h1⟩ := h
  exact ⟨inner ++ last, by rw [List.length_append, List.length_singleton]; exact ho, hr.snoc hx hl⟩
theorem Op.row {x : α} (h : Op d e w base ok v xs last) (hx : d.M w base ok x last) (hv : ∀ k, v.ownBlock = some k → ok' k) (hok : ∀ k, ok k → ok' k ∧ some k ≠ v.ownBlock) : d.R e w base ok' v (xs ++ [x]) := by
  obtain ⟨inner, ho, hr⟩ := h.close hx
  exact ⟨hv, inner, ho, hr.imp_ (fun _ _ hp => d.M_mono hok hp)⟩
theorem Op.grown (h : Op d e w base ok v xs last) {row : Option Nat} (hg : w.grownBy w1 row) (hv : v.ownBlock ≠ row) (hok : ∀ k, ok k → some k ≠ row) : Op d e w1 base ok v xs last :=
  h.move (fun k hk hlt => hg.block k hlt (hk.elim (fun e => e ▸ hv) (hok k)))
theorem Op.below (h : Op d e w base ok v xs last) (hb : Below w.heap.size w w1) : Op d e w1 base ok v xs last := h.move (fun k _ hlt => hb.block k hlt)
theorem Op.own (h : Op d e w base ok v xs last) : ∃ inner, w.ownsRow base e d.sz v (xs.length + 1) inner := by
  obtain ⟨inner, ho, _⟩ := h
  exact ⟨_, ho⟩
end
def Tb (w : World) (q k : Nat) : Prop := ∃ cells, w.heap[k]? = some (.cells cells q (0, 0))
theorem Tb.ne {w : World} {q r k l : Nat} (h : Tb w q k) (h' : Tb w r l) (hne : q ≠ r) : k ≠ l := by
  obtain ⟨c, h⟩ := h
  obtain ⟨c', h'⟩ := h'
  exact blk_ne h h' hne
theorem R_typed {α : Type} {d : Kd α} {e base : Nat} {w : World} {ok : Nat → Prop} {v : Value} {xs : List α} (h : Kd.R d e w base ok v xs) {k : Nat} (hk : v.ownBlock = some k) : Tb w e k := by
  obtain ⟨inner, ho⟩ := Kd.R_own h
  exact own_typed ho k hk
end Go.Proofs.Ytdjnpgigdchfkaa
