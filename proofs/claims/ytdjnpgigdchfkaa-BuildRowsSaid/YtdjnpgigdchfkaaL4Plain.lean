/- Plain lemmas that layer 4 shares with the document's (L10), without the document's functions. -/
import Derived.Test.YtdjnpgigdchfkaaPBRx0
namespace Go.Proofs.Ytdjnpgigdchfkaa.PBR
open Go.RowKit Go.Proofs.YtdjnpgigdchfkaaW.PrintWords Go.Proofs.YtdjnpgigdchfkaaW.PrintLast
set_option linter.unusedVariables false
theorem contains_mem (l : List ByteArray) (x : ByteArray) : l.contains x = true ↔ x ∈ l := by
  have h1 : ∀ a : ByteArray, (a == a) = true := fun a => by
    cases a
    exact BEq.rfl (α := Array UInt8)
  have h2 : ∀ a b : ByteArray, (a == b) = true → a = b := fun a b h => by
    cases a
    cases b
    congr 1
    exact eq_of_beq (α := Array UInt8) h
  have : ReflBEq ByteArray := ⟨h1 _⟩
  have : LawfulBEq ByteArray := { eq_of_beq := h2 _ _ }
  exact List.contains_iff_mem
theorem wrap_nat (i : Nat) (h : i < 9223372036854775807) : wrap64 ((i : Int) + 1) = ((i + 1 : Nat) : Int) := by unfold wrap64; omega
def findB (s : ByteArray) : List ByteArray → Nat → Int
  | [], _ => -1
  | x :: xs, i => if x = s then (i : Int) else findB s xs (i + 1)
theorem rd_str (l : List ByteArray) (i : Nat) (h : i < l.length) : rdOf ByteArray.empty l (i : Int) = l[i] := by
  unfold rdOf
  rw [Int.toNat_natCast, List.getD_eq_getElem?_getD, List.getElem?_eq_getElem h]
  rfl
theorem findB_ge (s : ByteArray) : ∀ (l : List ByteArray) (i : Nat), findB s l i = -1 ∨ (i : Int) ≤ findB s l i
  | [], i => .inl rfl
  | x :: xs, i => by
    unfold findB
    by_cases h : x = s
    · rw [if_pos h]; exact .inr (Int.le_refl _)
    · rw [if_neg h]
      rcases findB_ge s xs (i + 1) with h | h
      · exact .inl h
      · exact .inr (by omega)
theorem findB_own (l : List ByteArray) : ∀ (i n : Nat) (h : i < l.length), (findB l[i] l n = ((n + i : Nat) : Int)) ↔ l[i] ∉ l.take i := by
  induction l with
  | nil => intro i n h; simp at h
  | cons x xs ih =>
    intro i n h
    cases i with
    | zero => simp [findB]
    | succ i =>
      have h' : i < xs.length := by simpa using h
      simp only [List.getElem_cons_succ, List.take_succ_cons, List.mem_cons, not_or]
      unfold findB
      by_cases hx : x = xs[i]
      · rw [if_pos hx]
        constructor
        · intro e; omega
        · intro e; exact absurd hx.symm e.1
      · rw [if_neg hx, show n + (i + 1) = (n + 1) + i from by omega, ih i (n + 1) h']
        exact ⟨fun e => ⟨fun e2 => hx e2.symm, e⟩, fun e => e.2⟩
end Go.Proofs.Ytdjnpgigdchfkaa.PBR
