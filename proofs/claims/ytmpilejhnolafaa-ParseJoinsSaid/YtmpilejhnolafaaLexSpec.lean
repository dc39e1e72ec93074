/- What a text's tokens are, on lists of bytes (what is left of a text), plain: DOC chapter 2. -/
import Derived.Test.YtmpilejhnolafaaLex
import Derived.Test.YtmpilejhnolafaaGram
set_option linter.unusedVariables false
namespace Go.Proofs.Ytmpilejhnolafaa
open Go.Proofs.YtmpilejhnolafaaW.PrintWords
abbrev BL := List Int
def hexv (c : Int) : Int := if 48 ≤ c ∧ c ≤ 57 then c - 48 else if 97 ≤ c ∧ c ≤ 102 then c - 87 else -1
/-- Behind a backslash. -/
def escL : BL → Option (Int × BL)
  | [] => none
  | c :: r => if c = 92 ∨ c = 34 ∨ c = 39 then some (c, r) else if c = 120 then
      (match r with
      | a :: b :: r' => if 0 ≤ hexv a ∧ 0 ≤ hexv b then some (16 * hexv a + hexv b, r') else none
      | _ => none)
    else none
/-- One byte within quotes. -/
def chrL (q : Int) : BL → Option (Int × BL)
  | [] => none
  | c :: r => if c = 92 then escL r else if c < 32 ∨ 126 < c ∨ c = q then none else some (c, r)
theorem escL_lt {l r : BL} {c : Int} (h : escL l = some (c, r)) : r.length < l.length := by
  cases l with
  | nil => simp [escL] at h
  | cons x xs =>
    dsimp only [escL] at h
    by_cases h1 : x = 92 ∨ x = 34 ∨ x = 39
    · rw [if_pos h1] at h
      simp only [Option.some.injEq, Prod.mk.injEq] at h
      rw [← h.2]
      simp
    · rw [if_neg h1] at h
      by_cases h2 : x = 120
      · rw [if_pos h2] at h
        cases xs with
        | nil => simp at h
        | cons a xs =>
          cases xs with
          | nil => simp at h
          | cons b xs =>
            dsimp only at h
            by_cases h3 : 0 ≤ hexv a ∧ 0 ≤ hexv b
            · rw [if_pos h3] at h
              simp only [Option.some.injEq, Prod.mk.injEq] at h
              rw [← h.2]
              simp
              omega
            · rw [if_neg h3] at h
              cases h
      · rw [if_neg h2] at h
        cases h
theorem chrL_lt {q : Int} {l r : BL} {c : Int} (h : chrL q l = some (c, r)) : r.length < l.length := by
  cases l with
  | nil => simp [chrL] at h
  | cons x xs =>
    dsimp only [chrL] at h
    by_cases h1 : x = 92
    · rw [if_pos h1] at h
      have := escL_lt h
      simp
      omega
    · rw [if_neg h1] at h
      by_cases h2 : x < 32 ∨ 126 < x ∨ x = q
      · rw [if_pos h2] at h
        cases h
      · rw [if_neg h2] at h
        simp only [Option.some.injEq, Prod.mk.injEq] at h
        rw [← h.2]
        simp
/-- A text, behind its first quote. -/
def txtL (l : BL) : Option (List Int × BL) :=
  if l.head? = some 34 then some ([], l.tail)
  else match h : chrL 34 l with
    | none => none
    | some x => (txtL x.2).map fun y => (x.1 :: y.1, y.2)
  termination_by l.length
  decreasing_by exact chrL_lt (c := x.1) (r := x.2) h
/-- A byte between two quotes. -/
def endL (l : BL) : Option (Int × BL) :=
  if l.head? = some 39 then
    match chrL 39 l.tail with
    | none => none
    | some x => if x.2.head? = some 39 then some (x.1, x.2.tail) else none
  else none
/-- One or two of them. -/
def rngL (l : BL) : Option (Int × Int × BL) :=
  match endL l with
  | none => none
  | some x => if x.2.head? = some 46 ∧ x.2.tail.head? = some 46 then (endL x.2.tail.tail).map fun y => (x.1, y.1, y.2) else some (x.1, x.1, x.2)
def blankI (c : Int) : Bool := decide (c = 9 ∨ c = 10 ∨ c = 13 ∨ c = 32)
theorem dropWhile_le (p : Int → Bool) : ∀ l : BL, (l.dropWhile p).length ≤ l.length
  | [] => by simp
  | x :: xs => by
    have := dropWhile_le p xs
    rw [List.dropWhile_cons]
    split
    · simp
      omega
    · exact Nat.le_refl _
/-- What stands between tokens. -/
def skipL : BL → BL
  | [] => []
  | c :: r => if blankI c then skipL r else if c = 35 then skipL (r.dropWhile (fun x => !(x == 10))) else c :: r
  termination_by l => l.length
  decreasing_by
    · simp
    · have := dropWhile_le (fun x => !(x == 10)) r
      simp
      omega
/-- A sign's place among the signs. -/
def signI (c : Int) : Int := if c = 61 then 0 else if c = 124 then 1 else if c = 38 then 2 else if c = 126 then 3 else if c = 59 then 4 else -1
/-- The token ahead: its kind, text, ends, and what is left; else the fault. -/
def tokL : BL → (Int × ByteArray × Int × Int × BL) ⊕ Int
  | [] => .inr 200
  | c :: r =>
    if 0 ≤ signI c then .inl (4 + signI c, ⟨#[]⟩, 0, 0, r)
    else if c = 34 then (match txtL r with | none => .inr 201 | some x => .inl (1, strOfNums x.1, 0, 0, x.2))
    else if c = 39 then (match rngL (c :: r) with | none => .inr 201 | some x => .inl (2, ⟨#[]⟩, x.1, x.2.1, x.2.2))
    else if letterI c then
      let m := (c :: r).takeWhile moreI
      if 32 < m.length then .inr 201 else if strOfNums m = ⟨#[115, 116, 97, 114, 116]⟩ then .inl (3, ⟨#[]⟩, 0, 0, (c :: r).dropWhile moreI) else .inl (0, strOfNums m, 0, 0, (c :: r).dropWhile moreI)
    else .inr 200
theorem tail_lt {l : BL} {c : Int} (h : l.head? = some c) : l.tail.length < l.length := by
  cases l with
  | nil => simp at h
  | cons x xs => simp
theorem txtL_lt : ∀ (n : Nat) (l r : BL) (x : List Int), l.length ≤ n → txtL l = some (x, r) → r.length < l.length
  | n, l, r, x, hn, h => by
    rw [txtL] at h
    split at h
    · rename_i h1
      simp only [Option.some.injEq, Prod.mk.injEq] at h
      rw [← h.2]
      exact tail_lt h1
    · split at h
      · cases h
      · rename_i y hy
        have h2 := chrL_lt (c := y.1) (r := y.2) hy
        rw [Option.map_eq_some_iff] at h
        obtain ⟨z, hz, h⟩ := h
        simp only [Prod.mk.injEq] at h
        match n with
        | 0 => exact absurd h2 (by omega)
        | n + 1 =>
          have := txtL_lt n y.2 z.2 z.1 (by omega) hz
          rw [← h.2]
          omega
theorem endL_lt {l r : BL} {c : Int} (h : endL l = some (c, r)) : r.length < l.length := by
  unfold endL at h
  split at h
  · rename_i h1
    have t1 := tail_lt h1
    split at h
    · cases h
    · rename_i x hx
      have t2 := chrL_lt (c := x.1) (r := x.2) hx
      split at h
      · rename_i h2
        have t3 := tail_lt h2
        simp only [Option.some.injEq, Prod.mk.injEq] at h
        rw [← h.2]
        omega
      · cases h
  · cases h
theorem rngL_lt {l r : BL} {a b : Int} (h : rngL l = some (a, b, r)) : r.length < l.length := by
  unfold rngL at h
  split at h
  · cases h
  · rename_i x hx
    have t1 := endL_lt (c := x.1) (r := x.2) hx
    split at h
    · rename_i h2
      have t2 := tail_lt h2.1
      have t3 := tail_lt h2.2
      rw [Option.map_eq_some_iff] at h
      obtain ⟨z, hz, h⟩ := h
      have t4 := endL_lt (c := z.1) (r := z.2) hz
      simp only [Prod.mk.injEq] at h
      rw [← h.2.2]
      omega
    · simp only [Option.some.injEq, Prod.mk.injEq] at h
      rw [← h.2.2]
      exact t1
theorem skipL_le : ∀ (n : Nat) (l : BL), l.length ≤ n → (skipL l).length ≤ l.length
  | n, [], _ => by simp [skipL]
  | n, c :: r, hn => by
    simp only [List.length_cons] at hn
    match n with
    | 0 => omega
    | n + 1 =>
      rw [skipL]
      split
      · have := skipL_le n r (by omega)
        simp
        omega
      · split
        · have h1 := dropWhile_le (fun x => !(x == 10)) r
          have := skipL_le n (r.dropWhile (fun x => !(x == 10))) (by omega)
          simp
          omega
        · exact Nat.le_refl _
theorem letter_more {c : Int} (h : letterI c = true) : moreI c = true := by
  unfold moreI
  rw [h]
  rfl
theorem tokL_lt {l r : BL} {k : Int} {t : ByteArray} {lo hi : Int} (h : tokL l = .inl (k, t, lo, hi, r)) : r.length < l.length := by
  cases l with
  | nil => simp [tokL] at h
  | cons c cs =>
    dsimp only [tokL] at h
    split at h
    · simp only [Sum.inl.injEq, Prod.mk.injEq] at h
      rw [← h.2.2.2.2]
      simp
    · split at h
      · split at h
        · cases h
        · rename_i x hx
          have := txtL_lt cs.length cs x.2 x.1 (Nat.le_refl _) hx
          simp only [Sum.inl.injEq, Prod.mk.injEq] at h
          rw [← h.2.2.2.2]
          simp
          omega
      · split at h
        · split at h
          · cases h
          · rename_i x hx
            have := rngL_lt (a := x.1) (b := x.2.1) (r := x.2.2) hx
            simp only [Sum.inl.injEq, Prod.mk.injEq] at h
            rw [← h.2.2.2.2]
            exact this
        · split at h
          · rename_i hl
            have e : (c :: cs).dropWhile moreI = cs.dropWhile moreI := by rw [List.dropWhile_cons, letter_more hl]; rfl
            have := dropWhile_le moreI cs
            split at h
            · cases h
            · split at h
              all_goals
                simp only [Sum.inl.injEq, Prod.mk.injEq] at h
                rw [← h.2.2.2.2, e]
                simp
                omega
          · cases h
/-- A text's tokens (kind, place, text, ends), n its length; else the place and the fault. -/
def lexL (n : Nat) (l : BL) : List (Int × Int × ByteArray × Int × Int) ⊕ (Int × Int) :=
  if skipL l = [] then .inl []
  else match h : tokL (skipL l) with
    | .inr e => .inr ((n : Int) - ((skipL l).length : Int), e)
    | .inl x => match lexL n x.2.2.2.2 with
      | .inr e => .inr e
      | .inl ts => .inl ((x.1, (n : Int) - ((skipL l).length : Int), x.2.1, x.2.2.1, x.2.2.2.1) :: ts)
  termination_by l.length
  decreasing_by
    have h1 := tokL_lt (k := x.1) (t := x.2.1) (lo := x.2.2.1) (hi := x.2.2.2.1) (r := x.2.2.2.2) h
    have h2 := skipL_le l.length l (Nat.le_refl _)
    omega
end Go.Proofs.Ytmpilejhnolafaa
