/-
  No cell of these rows narrows 'for every input' (looked for: loops, veiled, ifaces, maps, wideKeys, modest, calm, conditions, laid).
  DERIVED. THE GIVEN ROWS OF THIS SEAT. 6 by the template 'for every input the law returns true; each argument reads behind the call as it read before'; 0 by the template 'total and deterministic' (their statements: YtmpilejhnolafaaTotals.lean).
  GIVEN WITH THE SEED: the statements are not yours to turn. If you find one false, say at which input.
  Laid BY PROGRAM, IN A SANDBOX (cutbox-rows.mjs): the forced cells as the released guide's own fill.sh prints them over the translation 4748d17ef5382a2d… (all of the seat's roots in one cut). By AI agents, Wed Nov 11 2026. No macro, syntax, notation, axiom, sorry.
-/
import Derived.Test.YtmpilejhnolafaaChecked
import GoSem.Claim
import GoSem.ClaimJoined
import GoSem.ClaimMapViews
import Derived.JoinedTies
import Derived.KernelRfl
namespace Go.Proofs.Ytmpilejhnolafaa
/- THE CELL 'sum', in the pinned program and in every row, IS THE sha256 OF THE DUMP (.gsa) THAT YtmpilejhnolafaaProg.lean LOADS. Nothing in Lean hashes anything: it is a label: what it is worth is what the hold of that sum in a sandbox is worth. -/
noncomputable def Try.pinned : Pinned := { name := "ytmpilejhnolafaa", sum := "4748d17ef5382a2d7801f2c4f2067929c0a145559332a2af2b0cfc99f22ba1ef", checked := Try.checked }
namespace Rows
def none {H : Type} : Left H := { results := [], args := [] }

/-- 'templelaw3.Parses': WHATEVER THE INPUT: true; the input reads as it did. -/
def parsesSpec : ChangeSpec := { name := "parses", fn := fun _ => fun
  | [d] => { results := [.lit (.bool true)], args := [d] }
  | _ => none }
def parsesRow : OpenClaim := { program := "ytmpilejhnolafaa", sum := "4748d17ef5382a2d7801f2c4f2067929c0a145559332a2af2b0cfc99f22ba1ef", func := "temple/templelaw3.Parses", spec := "parses", inPlace := ["internal/bytealg.IndexByteString"], apart := false }
def ParsesSaid : Prop := parsesRow.holds Try.pinned (OpenSpec.ofChange parsesSpec)

/-- ITS FALSE NEIGHBOUR: 'it returns false'. Refute it at one input. -/
def parsesWrong : ChangeSpec := { name := "parses", fn := fun _ => fun
  | [d] => { results := [.lit (.bool false)], args := [d] }
  | _ => none }
def ParsesWrongFalsely : Prop := parsesRow.holds Try.pinned (OpenSpec.ofChange parsesWrong)

/-- 'templelaw3.ParseJoins': WHATEVER THE INPUT: true; the input reads as it did. -/
def parseJoinsSpec : ChangeSpec := { name := "parseJoins", fn := fun _ => fun
  | [d1, d2] => { results := [.lit (.bool true)], args := [d1, d2] }
  | _ => none }
def parseJoinsRow : OpenClaim := { program := "ytmpilejhnolafaa", sum := "4748d17ef5382a2d7801f2c4f2067929c0a145559332a2af2b0cfc99f22ba1ef", func := "temple/templelaw3.ParseJoins", spec := "parseJoins", inPlace := ["internal/bytealg.IndexByteString"], apart := false }
def ParseJoinsSaid : Prop := parseJoinsRow.holds Try.pinned (OpenSpec.ofChange parseJoinsSpec)

/-- ITS FALSE NEIGHBOUR: 'it returns false'. Refute it at one input. -/
def parseJoinsWrong : ChangeSpec := { name := "parseJoins", fn := fun _ => fun
  | [d1, d2] => { results := [.lit (.bool false)], args := [d1, d2] }
  | _ => none }
def ParseJoinsWrongFalsely : Prop := parseJoinsRow.holds Try.pinned (OpenSpec.ofChange parseJoinsWrong)

/-- 'templelaw3.ParseWrong': WHATEVER THE INPUT: true; the input reads as it did. -/
def parseWrongSpec : ChangeSpec := { name := "parseWrong", fn := fun _ => fun
  | [d] => { results := [.lit (.bool true)], args := [d] }
  | _ => none }
def parseWrongRow : OpenClaim := { program := "ytmpilejhnolafaa", sum := "4748d17ef5382a2d7801f2c4f2067929c0a145559332a2af2b0cfc99f22ba1ef", func := "temple/templelaw3.ParseWrong", spec := "parseWrong", inPlace := ["internal/bytealg.IndexByteString"], apart := false }
def ParseWrongSaid : Prop := parseWrongRow.holds Try.pinned (OpenSpec.ofChange parseWrongSpec)

/-- ITS FALSE NEIGHBOUR: 'it returns false'. Refute it at one input. -/
def parseWrongWrong : ChangeSpec := { name := "parseWrong", fn := fun _ => fun
  | [d] => { results := [.lit (.bool false)], args := [d] }
  | _ => none }
def ParseWrongWrongFalsely : Prop := parseWrongRow.holds Try.pinned (OpenSpec.ofChange parseWrongWrong)

/-- 'templelaw3.ParseMade': WHATEVER THE INPUT: true; the input reads as it did. -/
def parseMadeSpec : ChangeSpec := { name := "parseMade", fn := fun _ => fun
  | [d] => { results := [.lit (.bool true)], args := [d] }
  | _ => none }
def parseMadeRow : OpenClaim := { program := "ytmpilejhnolafaa", sum := "4748d17ef5382a2d7801f2c4f2067929c0a145559332a2af2b0cfc99f22ba1ef", func := "temple/templelaw3.ParseMade", spec := "parseMade", inPlace := ["internal/bytealg.IndexByteString"], apart := false }
def ParseMadeSaid : Prop := parseMadeRow.holds Try.pinned (OpenSpec.ofChange parseMadeSpec)

/-- ITS FALSE NEIGHBOUR: 'it returns false'. Refute it at one input. -/
def parseMadeWrong : ChangeSpec := { name := "parseMade", fn := fun _ => fun
  | [d] => { results := [.lit (.bool false)], args := [d] }
  | _ => none }
def ParseMadeWrongFalsely : Prop := parseMadeRow.holds Try.pinned (OpenSpec.ofChange parseMadeWrong)

/-- 'templelaw3.ParseCuts': WHATEVER THE INPUT: true; the input reads as it did. -/
def parseCutsSpec : ChangeSpec := { name := "parseCuts", fn := fun _ => fun
  | [d1, d2] => { results := [.lit (.bool true)], args := [d1, d2] }
  | _ => none }
def parseCutsRow : OpenClaim := { program := "ytmpilejhnolafaa", sum := "4748d17ef5382a2d7801f2c4f2067929c0a145559332a2af2b0cfc99f22ba1ef", func := "temple/templelaw3.ParseCuts", spec := "parseCuts", inPlace := ["internal/bytealg.IndexByteString"], apart := false }
def ParseCutsSaid : Prop := parseCutsRow.holds Try.pinned (OpenSpec.ofChange parseCutsSpec)

/-- ITS FALSE NEIGHBOUR: 'it returns false'. Refute it at one input. -/
def parseCutsWrong : ChangeSpec := { name := "parseCuts", fn := fun _ => fun
  | [d1, d2] => { results := [.lit (.bool false)], args := [d1, d2] }
  | _ => none }
def ParseCutsWrongFalsely : Prop := parseCutsRow.holds Try.pinned (OpenSpec.ofChange parseCutsWrong)

/-- 'templelaw3.ParseStarts': WHATEVER THE INPUT: true; the input reads as it did. -/
def parseStartsSpec : ChangeSpec := { name := "parseStarts", fn := fun _ => fun
  | [d] => { results := [.lit (.bool true)], args := [d] }
  | _ => none }
def parseStartsRow : OpenClaim := { program := "ytmpilejhnolafaa", sum := "4748d17ef5382a2d7801f2c4f2067929c0a145559332a2af2b0cfc99f22ba1ef", func := "temple/templelaw3.ParseStarts", spec := "parseStarts", inPlace := ["internal/bytealg.IndexByteString"], apart := false }
def ParseStartsSaid : Prop := parseStartsRow.holds Try.pinned (OpenSpec.ofChange parseStartsSpec)

/-- ITS FALSE NEIGHBOUR: 'it returns false'. Refute it at one input. -/
def parseStartsWrong : ChangeSpec := { name := "parseStarts", fn := fun _ => fun
  | [d] => { results := [.lit (.bool false)], args := [d] }
  | _ => none }
def ParseStartsWrongFalsely : Prop := parseStartsRow.holds Try.pinned (OpenSpec.ofChange parseStartsWrong)

/- THE SECOND FORM. 'bulk': how many values and letters a reading holds, each counted each time it is reached (what is shared counts as often as it is met; a slice's spare places count too). A statement '..UptoSaid' is the law's where the arguments, and the package variables that the reading takes, are together of bulk at most 1048576: NARROWER than '..Said'. Prove '..Said' where nothing that the law and all that it calls make is longer than what came in: it says more and counts as full. Else prove '..UptoSaid'. A law counts once. -/
mutual
def uptoBulk {H : Type} : DataW H → Nat
  | .lit (.string bytes) => bytes.length + 1
  | .lit _ => 1
  | .nil => 1
  | .ptr d => uptoBulk d + 1
  | .slice elems spare => uptoBulkAll elems + uptoBulkAll spare + 1
  | .agg parts => uptoBulkAll parts + 1
  | .iface _ d => uptoBulk d + 1
  | .map entries => uptoBulkEntries entries + 1
  | .held _ => 1
def uptoBulkAll {H : Type} : List (DataW H) → Nat
  | [] => 0
  | d :: r => uptoBulk d + uptoBulkAll r
def uptoBulkEntries {H : Type} : List (Lit × DataW H) → Nat
  | [] => 0
  | x :: r => uptoBulkEntry x + uptoBulkEntries r
def uptoBulkEntry {H : Type} : Lit × DataW H → Nat
  | (.string bytes, d) => bytes.length + uptoBulk d + 1
  | (_, d) => uptoBulk d + 1
 end
def uptoSmall : (H : Type) → List (DataW H) → Bool := fun _ ds => decide (uptoBulkAll ds ≤ 1048576)
def OpenSpec.upto (s : _root_.Go.ChangeSpec) : _root_.Go.OpenSpec := { _root_.Go.OpenSpec.ofChange s with cond := some uptoSmall }

/-- 'templelaw3.Parses', WHERE WHAT IT READS IS OF BULK AT MOST 1048576: true; the input reads as it did. -/
def parsesUptoRow : OpenClaim := { program := "ytmpilejhnolafaa", sum := "4748d17ef5382a2d7801f2c4f2067929c0a145559332a2af2b0cfc99f22ba1ef", func := "temple/templelaw3.Parses", spec := "parses", inPlace := ["internal/bytealg.IndexByteString"], apart := false, narrowed := true }
def ParsesUptoSaid : Prop := parsesUptoRow.holds Try.pinned (OpenSpec.upto parsesSpec)

/-- 'templelaw3.ParseJoins', WHERE WHAT IT READS IS OF BULK AT MOST 1048576: true; the input reads as it did. -/
def parseJoinsUptoRow : OpenClaim := { program := "ytmpilejhnolafaa", sum := "4748d17ef5382a2d7801f2c4f2067929c0a145559332a2af2b0cfc99f22ba1ef", func := "temple/templelaw3.ParseJoins", spec := "parseJoins", inPlace := ["internal/bytealg.IndexByteString"], apart := false, narrowed := true }
def ParseJoinsUptoSaid : Prop := parseJoinsUptoRow.holds Try.pinned (OpenSpec.upto parseJoinsSpec)

/-- 'templelaw3.ParseWrong', WHERE WHAT IT READS IS OF BULK AT MOST 1048576: true; the input reads as it did. -/
def parseWrongUptoRow : OpenClaim := { program := "ytmpilejhnolafaa", sum := "4748d17ef5382a2d7801f2c4f2067929c0a145559332a2af2b0cfc99f22ba1ef", func := "temple/templelaw3.ParseWrong", spec := "parseWrong", inPlace := ["internal/bytealg.IndexByteString"], apart := false, narrowed := true }
def ParseWrongUptoSaid : Prop := parseWrongUptoRow.holds Try.pinned (OpenSpec.upto parseWrongSpec)

/-- 'templelaw3.ParseMade', WHERE WHAT IT READS IS OF BULK AT MOST 1048576: true; the input reads as it did. -/
def parseMadeUptoRow : OpenClaim := { program := "ytmpilejhnolafaa", sum := "4748d17ef5382a2d7801f2c4f2067929c0a145559332a2af2b0cfc99f22ba1ef", func := "temple/templelaw3.ParseMade", spec := "parseMade", inPlace := ["internal/bytealg.IndexByteString"], apart := false, narrowed := true }
def ParseMadeUptoSaid : Prop := parseMadeUptoRow.holds Try.pinned (OpenSpec.upto parseMadeSpec)

/-- 'templelaw3.ParseCuts', WHERE WHAT IT READS IS OF BULK AT MOST 1048576: true; the input reads as it did. -/
def parseCutsUptoRow : OpenClaim := { program := "ytmpilejhnolafaa", sum := "4748d17ef5382a2d7801f2c4f2067929c0a145559332a2af2b0cfc99f22ba1ef", func := "temple/templelaw3.ParseCuts", spec := "parseCuts", inPlace := ["internal/bytealg.IndexByteString"], apart := false, narrowed := true }
def ParseCutsUptoSaid : Prop := parseCutsUptoRow.holds Try.pinned (OpenSpec.upto parseCutsSpec)

/-- 'templelaw3.ParseStarts', WHERE WHAT IT READS IS OF BULK AT MOST 1048576: true; the input reads as it did. -/
def parseStartsUptoRow : OpenClaim := { program := "ytmpilejhnolafaa", sum := "4748d17ef5382a2d7801f2c4f2067929c0a145559332a2af2b0cfc99f22ba1ef", func := "temple/templelaw3.ParseStarts", spec := "parseStarts", inPlace := ["internal/bytealg.IndexByteString"], apart := false, narrowed := true }
def ParseStartsUptoSaid : Prop := parseStartsUptoRow.holds Try.pinned (OpenSpec.upto parseStartsSpec)

end Rows
end Go.Proofs.Ytmpilejhnolafaa
