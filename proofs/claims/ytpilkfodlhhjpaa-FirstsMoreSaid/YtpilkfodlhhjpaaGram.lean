import Derived.Test.YtpilkfodlhhjpaaWWords
import Derived.Laws.Strings
set_option linter.unusedVariables false
namespace Go.Proofs.Ytpilkfodlhhjpaa
open Go.Proofs.YtpilkfodlhhjpaaW.PrintWords
def letterI (c : Int) : Bool := decide (65 ≤ c ∧ c ≤ 90 ∨ 97 ≤ c ∧ c ≤ 122 ∨ c = 95)
def digitI (c : Int) : Bool := decide (48 ≤ c ∧ c ≤ 57)
def moreI (c : Int) : Bool := letterI c || digitI c
def nameOk (s : ByteArray) : Bool := decide (1 ≤ s.size ∧ s.size ≤ 32 ∧ s.toList ≠ [115, 116, 97, 114, 116]) && (letterI (bt s 0) && (List.range s.size).all (fun i => moreI (bt s (i : Int))))
def namesFrom (seen : List ByteArray) : List ByteArray → Bool
  | [] => true
  | x :: xs => nameOk x && !seen.contains x && namesFrom (seen ++ [x]) xs
def namesOk (l : List ByteArray) : Bool := decide (1 ≤ l.length ∧ l.length ≤ 64) && namesFrom [] l
theorem toList_nil {s : ByteArray} : s.toList = [] ↔ s.size = 0 := by
  rw [ByteArray.toList_eq]
  constructor
  · intro h
    have := congrArg List.length h
    rwa [Array.length_toList] at this
  · intro h
    exact List.eq_nil_of_length_eq_zero (by rwa [Array.length_toList])
theorem toList_inj {s t : ByteArray} : s.toList = t.toList ↔ s = t := by
  rw [ByteArray.toList_eq, ByteArray.toList_eq]
  constructor
  · intro h
    cases s
    cases t
    simp only [Array.toList_inj] at h
    rw [h]
  · intro h
    rw [h]
end Go.Proofs.Ytpilkfodlhhjpaa
