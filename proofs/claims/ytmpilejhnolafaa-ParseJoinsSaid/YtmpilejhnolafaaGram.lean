import Derived.Test.YtmpilejhnolafaaWWords
import Derived.Laws.Strings
set_option linter.unusedVariables false
namespace Go.Proofs.Ytmpilejhnolafaa
open Go.Proofs.YtmpilejhnolafaaW.PrintWords
def letterI (c : Int) : Bool := decide (65 ≤ c ∧ c ≤ 90 ∨ 97 ≤ c ∧ c ≤ 122 ∨ c = 95)
def digitI (c : Int) : Bool := decide (48 ≤ c ∧ c ≤ 57)
def moreI (c : Int) : Bool := letterI c || digitI c
theorem toList_inj {s t : ByteArray} : s.toList = t.toList ↔ s = t := by
  rw [ByteArray.toList_eq, ByteArray.toList_eq]
  constructor
  · intro h
    cases s
    cases t
    simp only [Array.toList_inj] at h
    rw [h]
  · intro h
    rw [h]
end Go.Proofs.Ytmpilejhnolafaa
