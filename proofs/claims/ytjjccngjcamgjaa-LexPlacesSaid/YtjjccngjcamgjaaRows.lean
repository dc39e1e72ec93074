/-
  No cell of these rows narrows 'for every input' (looked for: loops, veiled, ifaces, maps, wideKeys, modest, calm, conditions, laid).
  DERIVED. THE GIVEN ROWS OF THIS SEAT. 7 by the template 'for every input the law returns true; each argument reads behind the call as it read before'; 0 by the template 'total and deterministic' (their statements: YtjjccngjcamgjaaTotals.lean).
  GIVEN WITH THE SEED: the statements are not yours to turn. If you find one false, say at which input.
  Laid BY PROGRAM, IN A SANDBOX (cutbox-rows.mjs): the forced cells as the released guide's own fill.sh prints them over the translation b129be65d59e70f9… (all of the seat's roots in one cut). By AI agents, Wed Nov 11 2026. No macro, syntax, notation, axiom, sorry.
-/
import Derived.Test.YtjjccngjcamgjaaChecked
import GoSem.Claim
import GoSem.ClaimJoined
import GoSem.ClaimMapViews
import Derived.JoinedTies
import Derived.KernelRfl
namespace Go.Proofs.Ytjjccngjcamgjaa
/- THE CELL 'sum', in the pinned program and in every row, IS THE sha256 OF THE DUMP (.gsa) THAT YtjjccngjcamgjaaProg.lean LOADS. Nothing in Lean hashes anything: it is a label: what it is worth is what the hold of that sum in a sandbox is worth. -/
noncomputable def Try.pinned : Pinned := { name := "ytjjccngjcamgjaa", sum := "b129be65d59e70f92ea924709c0128bae4807a7297ecbdffb05c8b55014128b5", checked := Try.checked }
namespace Rows
def none {H : Type} : Left H := { results := [], args := [] }

/-- 'templelaw2.Lexes': WHATEVER THE INPUT: true; the input reads as it did. -/
def lexesSpec : ChangeSpec := { name := "lexes", fn := fun _ => fun
  | [d] => { results := [.lit (.bool true)], args := [d] }
  | _ => none }
def lexesRow : OpenClaim := { program := "ytjjccngjcamgjaa", sum := "b129be65d59e70f92ea924709c0128bae4807a7297ecbdffb05c8b55014128b5", func := "temple/templelaw2.Lexes", spec := "lexes", inPlace := ["internal/bytealg.IndexByteString"], apart := false }
def LexesSaid : Prop := lexesRow.holds Try.pinned (OpenSpec.ofChange lexesSpec)

/-- ITS FALSE NEIGHBOUR: 'it returns false'. Refute it at one input. -/
def lexesWrong : ChangeSpec := { name := "lexes", fn := fun _ => fun
  | [d] => { results := [.lit (.bool false)], args := [d] }
  | _ => none }
def LexesWrongFalsely : Prop := lexesRow.holds Try.pinned (OpenSpec.ofChange lexesWrong)

/-- 'templelaw2.LexJoins': WHATEVER THE INPUT: true; the input reads as it did. -/
def lexJoinsSpec : ChangeSpec := { name := "lexJoins", fn := fun _ => fun
  | [d1, d2] => { results := [.lit (.bool true)], args := [d1, d2] }
  | _ => none }
def lexJoinsRow : OpenClaim := { program := "ytjjccngjcamgjaa", sum := "b129be65d59e70f92ea924709c0128bae4807a7297ecbdffb05c8b55014128b5", func := "temple/templelaw2.LexJoins", spec := "lexJoins", inPlace := ["internal/bytealg.IndexByteString"], apart := false }
def LexJoinsSaid : Prop := lexJoinsRow.holds Try.pinned (OpenSpec.ofChange lexJoinsSpec)

/-- ITS FALSE NEIGHBOUR: 'it returns false'. Refute it at one input. -/
def lexJoinsWrong : ChangeSpec := { name := "lexJoins", fn := fun _ => fun
  | [d1, d2] => { results := [.lit (.bool false)], args := [d1, d2] }
  | _ => none }
def LexJoinsWrongFalsely : Prop := lexJoinsRow.holds Try.pinned (OpenSpec.ofChange lexJoinsWrong)

/-- 'templelaw2.LexTexts': WHATEVER THE INPUT: true; the input reads as it did. -/
def lexTextsSpec : ChangeSpec := { name := "lexTexts", fn := fun _ => fun
  | [d1, d2] => { results := [.lit (.bool true)], args := [d1, d2] }
  | _ => none }
def lexTextsRow : OpenClaim := { program := "ytjjccngjcamgjaa", sum := "b129be65d59e70f92ea924709c0128bae4807a7297ecbdffb05c8b55014128b5", func := "temple/templelaw2.LexTexts", spec := "lexTexts", inPlace := ["internal/bytealg.IndexByteString"], apart := false }
def LexTextsSaid : Prop := lexTextsRow.holds Try.pinned (OpenSpec.ofChange lexTextsSpec)

/-- ITS FALSE NEIGHBOUR: 'it returns false'. Refute it at one input. -/
def lexTextsWrong : ChangeSpec := { name := "lexTexts", fn := fun _ => fun
  | [d1, d2] => { results := [.lit (.bool false)], args := [d1, d2] }
  | _ => none }
def LexTextsWrongFalsely : Prop := lexTextsRow.holds Try.pinned (OpenSpec.ofChange lexTextsWrong)

/-- 'templelaw2.LexBlanks': WHATEVER THE INPUT: true; the input reads as it did. -/
def lexBlanksSpec : ChangeSpec := { name := "lexBlanks", fn := fun _ => fun
  | [d1, d2] => { results := [.lit (.bool true)], args := [d1, d2] }
  | _ => none }
def lexBlanksRow : OpenClaim := { program := "ytjjccngjcamgjaa", sum := "b129be65d59e70f92ea924709c0128bae4807a7297ecbdffb05c8b55014128b5", func := "temple/templelaw2.LexBlanks", spec := "lexBlanks", inPlace := ["internal/bytealg.IndexByteString"], apart := false }
def LexBlanksSaid : Prop := lexBlanksRow.holds Try.pinned (OpenSpec.ofChange lexBlanksSpec)

/-- ITS FALSE NEIGHBOUR: 'it returns false'. Refute it at one input. -/
def lexBlanksWrong : ChangeSpec := { name := "lexBlanks", fn := fun _ => fun
  | [d1, d2] => { results := [.lit (.bool false)], args := [d1, d2] }
  | _ => none }
def LexBlanksWrongFalsely : Prop := lexBlanksRow.holds Try.pinned (OpenSpec.ofChange lexBlanksWrong)

/-- 'templelaw2.LexNames': WHATEVER THE INPUT: true; the input reads as it did. -/
def lexNamesSpec : ChangeSpec := { name := "lexNames", fn := fun _ => fun
  | [d1, d2] => { results := [.lit (.bool true)], args := [d1, d2] }
  | _ => none }
def lexNamesRow : OpenClaim := { program := "ytjjccngjcamgjaa", sum := "b129be65d59e70f92ea924709c0128bae4807a7297ecbdffb05c8b55014128b5", func := "temple/templelaw2.LexNames", spec := "lexNames", inPlace := ["internal/bytealg.IndexByteString"], apart := false }
def LexNamesSaid : Prop := lexNamesRow.holds Try.pinned (OpenSpec.ofChange lexNamesSpec)

/-- ITS FALSE NEIGHBOUR: 'it returns false'. Refute it at one input. -/
def lexNamesWrong : ChangeSpec := { name := "lexNames", fn := fun _ => fun
  | [d1, d2] => { results := [.lit (.bool false)], args := [d1, d2] }
  | _ => none }
def LexNamesWrongFalsely : Prop := lexNamesRow.holds Try.pinned (OpenSpec.ofChange lexNamesWrong)

/-- 'templelaw2.LexPlaces': WHATEVER THE INPUT: true; the input reads as it did. -/
def lexPlacesSpec : ChangeSpec := { name := "lexPlaces", fn := fun _ => fun
  | [d] => { results := [.lit (.bool true)], args := [d] }
  | _ => none }
def lexPlacesRow : OpenClaim := { program := "ytjjccngjcamgjaa", sum := "b129be65d59e70f92ea924709c0128bae4807a7297ecbdffb05c8b55014128b5", func := "temple/templelaw2.LexPlaces", spec := "lexPlaces", inPlace := ["internal/bytealg.IndexByteString"], apart := false }
def LexPlacesSaid : Prop := lexPlacesRow.holds Try.pinned (OpenSpec.ofChange lexPlacesSpec)

/-- ITS FALSE NEIGHBOUR: 'it returns false'. Refute it at one input. -/
def lexPlacesWrong : ChangeSpec := { name := "lexPlaces", fn := fun _ => fun
  | [d] => { results := [.lit (.bool false)], args := [d] }
  | _ => none }
def LexPlacesWrongFalsely : Prop := lexPlacesRow.holds Try.pinned (OpenSpec.ofChange lexPlacesWrong)

/-- 'templelaw2.LexRows': WHATEVER THE INPUT: true; the input reads as it did. -/
def lexRowsSpec : ChangeSpec := { name := "lexRows", fn := fun _ => fun
  | [d] => { results := [.lit (.bool true)], args := [d] }
  | _ => none }
def lexRowsRow : OpenClaim := { program := "ytjjccngjcamgjaa", sum := "b129be65d59e70f92ea924709c0128bae4807a7297ecbdffb05c8b55014128b5", func := "temple/templelaw2.LexRows", spec := "lexRows", inPlace := ["internal/bytealg.IndexByteString"], apart := false }
def LexRowsSaid : Prop := lexRowsRow.holds Try.pinned (OpenSpec.ofChange lexRowsSpec)

/-- ITS FALSE NEIGHBOUR: 'it returns false'. Refute it at one input. -/
def lexRowsWrong : ChangeSpec := { name := "lexRows", fn := fun _ => fun
  | [d] => { results := [.lit (.bool false)], args := [d] }
  | _ => none }
def LexRowsWrongFalsely : Prop := lexRowsRow.holds Try.pinned (OpenSpec.ofChange lexRowsWrong)

/- THE SECOND FORM. 'bulk': how many values and letters a reading holds, each counted each time it is reached (what is shared counts as often as it is met; a slice's spare places count too). A statement '..UptoSaid' is the law's where the arguments, and the package variables that the reading takes, are together of bulk at most 1048576: NARROWER than '..Said'. Prove '..Said' where nothing that the law and all that it calls make is longer than what came in: it says more and counts as full. Else prove '..UptoSaid'. A law counts once. -/
mutual
def uptoBulk {H : Type} : DataW H → Nat
  | .lit (.string bytes) => bytes.length + 1
  | .lit _ => 1
  | .nil => 1
  | .ptr d => uptoBulk d + 1
  | .slice elems spare => uptoBulkAll elems + uptoBulkAll spare + 1
  | .agg parts => uptoBulkAll parts + 1
  | .iface _ d => uptoBulk d + 1
  | .map entries => uptoBulkEntries entries + 1
  | .held _ => 1
def uptoBulkAll {H : Type} : List (DataW H) → Nat
  | [] => 0
  | d :: r => uptoBulk d + uptoBulkAll r
def uptoBulkEntries {H : Type} : List (Lit × DataW H) → Nat
  | [] => 0
  | x :: r => uptoBulkEntry x + uptoBulkEntries r
def uptoBulkEntry {H : Type} : Lit × DataW H → Nat
  | (.string bytes, d) => bytes.length + uptoBulk d + 1
  | (_, d) => uptoBulk d + 1
 end
def uptoSmall : (H : Type) → List (DataW H) → Bool := fun _ ds => decide (uptoBulkAll ds ≤ 1048576)
def OpenSpec.upto (s : _root_.Go.ChangeSpec) : _root_.Go.OpenSpec := { _root_.Go.OpenSpec.ofChange s with cond := some uptoSmall }

/-- 'templelaw2.Lexes', WHERE WHAT IT READS IS OF BULK AT MOST 1048576: true; the input reads as it did. -/
def lexesUptoRow : OpenClaim := { program := "ytjjccngjcamgjaa", sum := "b129be65d59e70f92ea924709c0128bae4807a7297ecbdffb05c8b55014128b5", func := "temple/templelaw2.Lexes", spec := "lexes", inPlace := ["internal/bytealg.IndexByteString"], apart := false, narrowed := true }
def LexesUptoSaid : Prop := lexesUptoRow.holds Try.pinned (OpenSpec.upto lexesSpec)

/-- 'templelaw2.LexJoins', WHERE WHAT IT READS IS OF BULK AT MOST 1048576: true; the input reads as it did. -/
def lexJoinsUptoRow : OpenClaim := { program := "ytjjccngjcamgjaa", sum := "b129be65d59e70f92ea924709c0128bae4807a7297ecbdffb05c8b55014128b5", func := "temple/templelaw2.LexJoins", spec := "lexJoins", inPlace := ["internal/bytealg.IndexByteString"], apart := false, narrowed := true }
def LexJoinsUptoSaid : Prop := lexJoinsUptoRow.holds Try.pinned (OpenSpec.upto lexJoinsSpec)

/-- 'templelaw2.LexTexts', WHERE WHAT IT READS IS OF BULK AT MOST 1048576: true; the input reads as it did. -/
def lexTextsUptoRow : OpenClaim := { program := "ytjjccngjcamgjaa", sum := "b129be65d59e70f92ea924709c0128bae4807a7297ecbdffb05c8b55014128b5", func := "temple/templelaw2.LexTexts", spec := "lexTexts", inPlace := ["internal/bytealg.IndexByteString"], apart := false, narrowed := true }
def LexTextsUptoSaid : Prop := lexTextsUptoRow.holds Try.pinned (OpenSpec.upto lexTextsSpec)

/-- 'templelaw2.LexBlanks', WHERE WHAT IT READS IS OF BULK AT MOST 1048576: true; the input reads as it did. -/
def lexBlanksUptoRow : OpenClaim := { program := "ytjjccngjcamgjaa", sum := "b129be65d59e70f92ea924709c0128bae4807a7297ecbdffb05c8b55014128b5", func := "temple/templelaw2.LexBlanks", spec := "lexBlanks", inPlace := ["internal/bytealg.IndexByteString"], apart := false, narrowed := true }
def LexBlanksUptoSaid : Prop := lexBlanksUptoRow.holds Try.pinned (OpenSpec.upto lexBlanksSpec)

/-- 'templelaw2.LexNames', WHERE WHAT IT READS IS OF BULK AT MOST 1048576: true; the input reads as it did. -/
def lexNamesUptoRow : OpenClaim := { program := "ytjjccngjcamgjaa", sum := "b129be65d59e70f92ea924709c0128bae4807a7297ecbdffb05c8b55014128b5", func := "temple/templelaw2.LexNames", spec := "lexNames", inPlace := ["internal/bytealg.IndexByteString"], apart := false, narrowed := true }
def LexNamesUptoSaid : Prop := lexNamesUptoRow.holds Try.pinned (OpenSpec.upto lexNamesSpec)

/-- 'templelaw2.LexPlaces', WHERE WHAT IT READS IS OF BULK AT MOST 1048576: true; the input reads as it did. -/
def lexPlacesUptoRow : OpenClaim := { program := "ytjjccngjcamgjaa", sum := "b129be65d59e70f92ea924709c0128bae4807a7297ecbdffb05c8b55014128b5", func := "temple/templelaw2.LexPlaces", spec := "lexPlaces", inPlace := ["internal/bytealg.IndexByteString"], apart := false, narrowed := true }
def LexPlacesUptoSaid : Prop := lexPlacesUptoRow.holds Try.pinned (OpenSpec.upto lexPlacesSpec)

/-- 'templelaw2.LexRows', WHERE WHAT IT READS IS OF BULK AT MOST 1048576: true; the input reads as it did. -/
def lexRowsUptoRow : OpenClaim := { program := "ytjjccngjcamgjaa", sum := "b129be65d59e70f92ea924709c0128bae4807a7297ecbdffb05c8b55014128b5", func := "temple/templelaw2.LexRows", spec := "lexRows", inPlace := ["internal/bytealg.IndexByteString"], apart := false, narrowed := true }
def LexRowsUptoSaid : Prop := lexRowsUptoRow.holds Try.pinned (OpenSpec.upto lexRowsSpec)

end Rows
end Go.Proofs.Ytjjccngjcamgjaa
