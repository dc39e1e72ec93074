/-
  No cell of these rows narrows 'for every input' (looked for: loops, veiled, ifaces, maps, wideKeys, modest, calm, conditions, laid).
  DERIVED. THE GIVEN ROWS OF THIS SEAT. 7 by the template 'for every input the law returns true; each argument reads behind the call as it read before'; 0 by the template 'total and deterministic' (their statements: YtdjnpgigdchfkaaTotals.lean).
  GIVEN WITH THE SEED: the statements are not yours to turn. If you find one false, say at which input.
  Laid BY PROGRAM, IN A SANDBOX (cutbox-rows.mjs): the forced cells as the released guide's own fill.sh prints them over the translation d46f9f73c9a5cc1c… (all of the seat's roots in one cut). By AI agents, Wed Nov 11 2026. No macro, syntax, notation, axiom, sorry.
-/
import Derived.Test.YtdjnpgigdchfkaaChecked
import GoSem.Claim
import GoSem.ClaimJoined
import GoSem.ClaimMapViews
import Derived.JoinedTies
import Derived.KernelRfl
namespace Go.Proofs.Ytdjnpgigdchfkaa
/- THE CELL 'sum', in the pinned program and in every row, IS THE sha256 OF THE DUMP (.gsa) THAT YtdjnpgigdchfkaaProg.lean LOADS. Nothing in Lean hashes anything: it is a label: what it is worth is what the hold of that sum in a sandbox is worth. -/
noncomputable def Try.pinned : Pinned := { name := "ytdjnpgigdchfkaa", sum := "d46f9f73c9a5cc1c4bbdbaec3e89acfc7083fddefb7277d9a40e0b7a2fabf838", checked := Try.checked }
namespace Rows
def none {H : Type} : Left H := { results := [], args := [] }

/-- 'templelaw4.Builds': WHATEVER THE INPUT: true; the input reads as it did. -/
def buildsSpec : ChangeSpec := { name := "builds", fn := fun _ => fun
  | [d1, d2] => { results := [.lit (.bool true)], args := [d1, d2] }
  | _ => none }
def buildsRow : OpenClaim := { program := "ytdjnpgigdchfkaa", sum := "d46f9f73c9a5cc1c4bbdbaec3e89acfc7083fddefb7277d9a40e0b7a2fabf838", func := "temple/templelaw4.Builds", spec := "builds", unfollowed := true, recurses := true, apart := false }
def BuildsSaid : Prop := buildsRow.holds Try.pinned (OpenSpec.ofChange buildsSpec)

/-- ITS FALSE NEIGHBOUR: 'it returns false'. Refute it at one input. -/
def buildsWrong : ChangeSpec := { name := "builds", fn := fun _ => fun
  | [d1, d2] => { results := [.lit (.bool false)], args := [d1, d2] }
  | _ => none }
def BuildsWrongFalsely : Prop := buildsRow.holds Try.pinned (OpenSpec.ofChange buildsWrong)

/-- 'templelaw4.BuildTells': WHATEVER THE INPUT: true; the input reads as it did. -/
def buildTellsSpec : ChangeSpec := { name := "buildTells", fn := fun _ => fun
  | [d] => { results := [.lit (.bool true)], args := [d] }
  | _ => none }
def buildTellsRow : OpenClaim := { program := "ytdjnpgigdchfkaa", sum := "d46f9f73c9a5cc1c4bbdbaec3e89acfc7083fddefb7277d9a40e0b7a2fabf838", func := "temple/templelaw4.BuildTells", spec := "buildTells", unfollowed := true, recurses := true, apart := false }
def BuildTellsSaid : Prop := buildTellsRow.holds Try.pinned (OpenSpec.ofChange buildTellsSpec)

/-- ITS FALSE NEIGHBOUR: 'it returns false'. Refute it at one input. -/
def buildTellsWrong : ChangeSpec := { name := "buildTells", fn := fun _ => fun
  | [d] => { results := [.lit (.bool false)], args := [d] }
  | _ => none }
def BuildTellsWrongFalsely : Prop := buildTellsRow.holds Try.pinned (OpenSpec.ofChange buildTellsWrong)

/-- 'templelaw4.GramForms': WHATEVER THE INPUT: true; the input reads as it did. -/
def gramFormsSpec : ChangeSpec := { name := "gramForms", fn := fun _ => fun
  | [d1, d2] => { results := [.lit (.bool true)], args := [d1, d2] }
  | _ => none }
def gramFormsRow : OpenClaim := { program := "ytdjnpgigdchfkaa", sum := "d46f9f73c9a5cc1c4bbdbaec3e89acfc7083fddefb7277d9a40e0b7a2fabf838", func := "temple/templelaw4.GramForms", spec := "gramForms", unfollowed := true, recurses := true, apart := false }
def GramFormsSaid : Prop := gramFormsRow.holds Try.pinned (OpenSpec.ofChange gramFormsSpec)

/-- ITS FALSE NEIGHBOUR: 'it returns false'. Refute it at one input. -/
def gramFormsWrong : ChangeSpec := { name := "gramForms", fn := fun _ => fun
  | [d1, d2] => { results := [.lit (.bool false)], args := [d1, d2] }
  | _ => none }
def GramFormsWrongFalsely : Prop := gramFormsRow.holds Try.pinned (OpenSpec.ofChange gramFormsWrong)

/-- 'templelaw4.GramLimits': WHATEVER THE INPUT: true; the input reads as it did. -/
def gramLimitsSpec : ChangeSpec := { name := "gramLimits", fn := fun _ => fun
  | [d1, d2] => { results := [.lit (.bool true)], args := [d1, d2] }
  | _ => none }
def gramLimitsRow : OpenClaim := { program := "ytdjnpgigdchfkaa", sum := "d46f9f73c9a5cc1c4bbdbaec3e89acfc7083fddefb7277d9a40e0b7a2fabf838", func := "temple/templelaw4.GramLimits", spec := "gramLimits", unfollowed := true, recurses := true, apart := false }
def GramLimitsSaid : Prop := gramLimitsRow.holds Try.pinned (OpenSpec.ofChange gramLimitsSpec)

/-- ITS FALSE NEIGHBOUR: 'it returns false'. Refute it at one input. -/
def gramLimitsWrong : ChangeSpec := { name := "gramLimits", fn := fun _ => fun
  | [d1, d2] => { results := [.lit (.bool false)], args := [d1, d2] }
  | _ => none }
def GramLimitsWrongFalsely : Prop := gramLimitsRow.holds Try.pinned (OpenSpec.ofChange gramLimitsWrong)

/-- 'templelaw4.BuildRows': WHATEVER THE INPUT: true; the input reads as it did. -/
def buildRowsSpec : ChangeSpec := { name := "buildRows", fn := fun _ => fun
  | [d1, d2, d3] => { results := [.lit (.bool true)], args := [d1, d2, d3] }
  | _ => none }
def buildRowsRow : OpenClaim := { program := "ytdjnpgigdchfkaa", sum := "d46f9f73c9a5cc1c4bbdbaec3e89acfc7083fddefb7277d9a40e0b7a2fabf838", func := "temple/templelaw4.BuildRows", spec := "buildRows", unfollowed := true, recurses := true, apart := false }
def BuildRowsSaid : Prop := buildRowsRow.holds Try.pinned (OpenSpec.ofChange buildRowsSpec)

/-- ITS FALSE NEIGHBOUR: 'it returns false'. Refute it at one input. -/
def buildRowsWrong : ChangeSpec := { name := "buildRows", fn := fun _ => fun
  | [d1, d2, d3] => { results := [.lit (.bool false)], args := [d1, d2, d3] }
  | _ => none }
def BuildRowsWrongFalsely : Prop := buildRowsRow.holds Try.pinned (OpenSpec.ofChange buildRowsWrong)

/-- 'templelaw4.BuildWrong': WHATEVER THE INPUT: true; the input reads as it did. -/
def buildWrongSpec : ChangeSpec := { name := "buildWrong", fn := fun _ => fun
  | [d] => { results := [.lit (.bool true)], args := [d] }
  | _ => none }
def buildWrongRow : OpenClaim := { program := "ytdjnpgigdchfkaa", sum := "d46f9f73c9a5cc1c4bbdbaec3e89acfc7083fddefb7277d9a40e0b7a2fabf838", func := "temple/templelaw4.BuildWrong", spec := "buildWrong", unfollowed := true, recurses := true, apart := false }
def BuildWrongSaid : Prop := buildWrongRow.holds Try.pinned (OpenSpec.ofChange buildWrongSpec)

/-- ITS FALSE NEIGHBOUR: 'it returns false'. Refute it at one input. -/
def buildWrongWrong : ChangeSpec := { name := "buildWrong", fn := fun _ => fun
  | [d] => { results := [.lit (.bool false)], args := [d] }
  | _ => none }
def BuildWrongWrongFalsely : Prop := buildWrongRow.holds Try.pinned (OpenSpec.ofChange buildWrongWrong)

/-- 'templelaw4.BuildLong': WHATEVER THE INPUT: true; the input reads as it did. -/
def buildLongSpec : ChangeSpec := { name := "buildLong", fn := fun _ => fun
  | [d1, d2] => { results := [.lit (.bool true)], args := [d1, d2] }
  | _ => none }
def buildLongRow : OpenClaim := { program := "ytdjnpgigdchfkaa", sum := "d46f9f73c9a5cc1c4bbdbaec3e89acfc7083fddefb7277d9a40e0b7a2fabf838", func := "temple/templelaw4.BuildLong", spec := "buildLong", unfollowed := true, recurses := true, apart := false }
def BuildLongSaid : Prop := buildLongRow.holds Try.pinned (OpenSpec.ofChange buildLongSpec)

/-- ITS FALSE NEIGHBOUR: 'it returns false'. Refute it at one input. -/
def buildLongWrong : ChangeSpec := { name := "buildLong", fn := fun _ => fun
  | [d1, d2] => { results := [.lit (.bool false)], args := [d1, d2] }
  | _ => none }
def BuildLongWrongFalsely : Prop := buildLongRow.holds Try.pinned (OpenSpec.ofChange buildLongWrong)

/- THE SECOND FORM. 'bulk': how many values and letters a reading holds, each counted each time it is reached (what is shared counts as often as it is met; a slice's spare places count too). A statement '..UptoSaid' is the law's where the arguments, and the package variables that the reading takes, are together of bulk at most 1048576: NARROWER than '..Said'. Prove '..Said' where nothing that the law and all that it calls make is longer than what came in: it says more and counts as full. Else prove '..UptoSaid'. A law counts once. -/
mutual
def uptoBulk {H : Type} : DataW H → Nat
  | .lit (.string bytes) => bytes.length + 1
  | .lit _ => 1
  | .nil => 1
  | .ptr d => uptoBulk d + 1
  | .slice elems spare => uptoBulkAll elems + uptoBulkAll spare + 1
  | .agg parts => uptoBulkAll parts + 1
  | .iface _ d => uptoBulk d + 1
  | .map entries => uptoBulkEntries entries + 1
  | .held _ => 1
def uptoBulkAll {H : Type} : List (DataW H) → Nat
  | [] => 0
  | d :: r => uptoBulk d + uptoBulkAll r
def uptoBulkEntries {H : Type} : List (Lit × DataW H) → Nat
  | [] => 0
  | x :: r => uptoBulkEntry x + uptoBulkEntries r
def uptoBulkEntry {H : Type} : Lit × DataW H → Nat
  | (.string bytes, d) => bytes.length + uptoBulk d + 1
  | (_, d) => uptoBulk d + 1
 end
def uptoSmall : (H : Type) → List (DataW H) → Bool := fun _ ds => decide (uptoBulkAll ds ≤ 1048576)
def OpenSpec.upto (s : _root_.Go.ChangeSpec) : _root_.Go.OpenSpec := { _root_.Go.OpenSpec.ofChange s with cond := some uptoSmall }

/-- 'templelaw4.Builds', WHERE WHAT IT READS IS OF BULK AT MOST 1048576: true; the input reads as it did. -/
def buildsUptoRow : OpenClaim := { program := "ytdjnpgigdchfkaa", sum := "d46f9f73c9a5cc1c4bbdbaec3e89acfc7083fddefb7277d9a40e0b7a2fabf838", func := "temple/templelaw4.Builds", spec := "builds", unfollowed := true, recurses := true, apart := false, narrowed := true }
def BuildsUptoSaid : Prop := buildsUptoRow.holds Try.pinned (OpenSpec.upto buildsSpec)

/-- 'templelaw4.BuildTells', WHERE WHAT IT READS IS OF BULK AT MOST 1048576: true; the input reads as it did. -/
def buildTellsUptoRow : OpenClaim := { program := "ytdjnpgigdchfkaa", sum := "d46f9f73c9a5cc1c4bbdbaec3e89acfc7083fddefb7277d9a40e0b7a2fabf838", func := "temple/templelaw4.BuildTells", spec := "buildTells", unfollowed := true, recurses := true, apart := false, narrowed := true }
def BuildTellsUptoSaid : Prop := buildTellsUptoRow.holds Try.pinned (OpenSpec.upto buildTellsSpec)

/-- 'templelaw4.GramForms', WHERE WHAT IT READS IS OF BULK AT MOST 1048576: true; the input reads as it did. -/
def gramFormsUptoRow : OpenClaim := { program := "ytdjnpgigdchfkaa", sum := "d46f9f73c9a5cc1c4bbdbaec3e89acfc7083fddefb7277d9a40e0b7a2fabf838", func := "temple/templelaw4.GramForms", spec := "gramForms", unfollowed := true, recurses := true, apart := false, narrowed := true }
def GramFormsUptoSaid : Prop := gramFormsUptoRow.holds Try.pinned (OpenSpec.upto gramFormsSpec)

/-- 'templelaw4.GramLimits', WHERE WHAT IT READS IS OF BULK AT MOST 1048576: true; the input reads as it did. -/
def gramLimitsUptoRow : OpenClaim := { program := "ytdjnpgigdchfkaa", sum := "d46f9f73c9a5cc1c4bbdbaec3e89acfc7083fddefb7277d9a40e0b7a2fabf838", func := "temple/templelaw4.GramLimits", spec := "gramLimits", unfollowed := true, recurses := true, apart := false, narrowed := true }
def GramLimitsUptoSaid : Prop := gramLimitsUptoRow.holds Try.pinned (OpenSpec.upto gramLimitsSpec)

/-- 'templelaw4.BuildRows', WHERE WHAT IT READS IS OF BULK AT MOST 1048576: true; the input reads as it did. -/
def buildRowsUptoRow : OpenClaim := { program := "ytdjnpgigdchfkaa", sum := "d46f9f73c9a5cc1c4bbdbaec3e89acfc7083fddefb7277d9a40e0b7a2fabf838", func := "temple/templelaw4.BuildRows", spec := "buildRows", unfollowed := true, recurses := true, apart := false, narrowed := true }
def BuildRowsUptoSaid : Prop := buildRowsUptoRow.holds Try.pinned (OpenSpec.upto buildRowsSpec)

/-- 'templelaw4.BuildWrong', WHERE WHAT IT READS IS OF BULK AT MOST 1048576: true; the input reads as it did. -/
def buildWrongUptoRow : OpenClaim := { program := "ytdjnpgigdchfkaa", sum := "d46f9f73c9a5cc1c4bbdbaec3e89acfc7083fddefb7277d9a40e0b7a2fabf838", func := "temple/templelaw4.BuildWrong", spec := "buildWrong", unfollowed := true, recurses := true, apart := false, narrowed := true }
def BuildWrongUptoSaid : Prop := buildWrongUptoRow.holds Try.pinned (OpenSpec.upto buildWrongSpec)

/-- 'templelaw4.BuildLong', WHERE WHAT IT READS IS OF BULK AT MOST 1048576: true; the input reads as it did. -/
def buildLongUptoRow : OpenClaim := { program := "ytdjnpgigdchfkaa", sum := "d46f9f73c9a5cc1c4bbdbaec3e89acfc7083fddefb7277d9a40e0b7a2fabf838", func := "temple/templelaw4.BuildLong", spec := "buildLong", unfollowed := true, recurses := true, apart := false, narrowed := true }
def BuildLongUptoSaid : Prop := buildLongUptoRow.holds Try.pinned (OpenSpec.upto buildLongSpec)

end Rows
end Go.Proofs.Ytdjnpgigdchfkaa
