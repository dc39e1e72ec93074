/-
  No cell of these rows narrows 'for every input' (looked for: loops, veiled, ifaces, maps, wideKeys, modest, calm, conditions, laid).
  DERIVED. THE GIVEN ROWS OF THIS SEAT. 6 by the template 'for every input the law returns true; each argument reads behind the call as it read before'; 0 by the template 'total and deterministic' (their statements: YtimmkmfcpfjgfaaTotals.lean).
  GIVEN WITH THE SEED: the statements are not yours to turn. If you find one false, say at which input.
  Laid BY PROGRAM, IN A SANDBOX (cutbox-rows.mjs): the forced cells as the released guide's own fill.sh prints them over the translation 1933f7202756a6e5… (all of the seat's roots in one cut). By AI agents, Wed Nov 11 2026. No macro, syntax, notation, axiom, sorry.
-/
import Derived.Test.YtimmkmfcpfjgfaaChecked
import GoSem.Claim
import GoSem.ClaimJoined
import GoSem.ClaimMapViews
import Derived.JoinedTies
import Derived.KernelRfl
namespace Go.Proofs.Ytimmkmfcpfjgfaa
/- THE CELL 'sum', in the pinned program and in every row, IS THE sha256 OF THE DUMP (.gsa) THAT YtimmkmfcpfjgfaaProg.lean LOADS. Nothing in Lean hashes anything: it is a label: what it is worth is what the hold of that sum in a sandbox is worth. -/
noncomputable def Try.pinned : Pinned := { name := "ytimmkmfcpfjgfaa", sum := "1933f7202756a6e5bc4686c816e68a22afc27dd200f300c26abc5ae2b1092cb5", checked := Try.checked }
namespace Rows
def none {H : Type} : Left H := { results := [], args := [] }

/-- 'templelaw5.Shows': WHATEVER THE INPUT: true; the input reads as it did. -/
def showsSpec : ChangeSpec := { name := "shows", fn := fun _ => fun
  | [d] => { results := [.lit (.bool true)], args := [d] }
  | _ => none }
def showsRow : OpenClaim := { program := "ytimmkmfcpfjgfaa", sum := "1933f7202756a6e5bc4686c816e68a22afc27dd200f300c26abc5ae2b1092cb5", func := "temple/templelaw5.Shows", spec := "shows", inPlace := ["internal/abi.NoEscape"], apart := false }
def ShowsSaid : Prop := showsRow.holds Try.pinned (OpenSpec.ofChange showsSpec)

/-- ITS FALSE NEIGHBOUR: 'it returns false'. Refute it at one input. -/
def showsWrong : ChangeSpec := { name := "shows", fn := fun _ => fun
  | [d] => { results := [.lit (.bool false)], args := [d] }
  | _ => none }
def ShowsWrongFalsely : Prop := showsRow.holds Try.pinned (OpenSpec.ofChange showsWrong)

/-- 'templelaw5.ShowBytes': WHATEVER THE INPUT: true; the input reads as it did. -/
def showBytesSpec : ChangeSpec := { name := "showBytes", fn := fun _ => fun
  | [d] => { results := [.lit (.bool true)], args := [d] }
  | _ => none }
def showBytesRow : OpenClaim := { program := "ytimmkmfcpfjgfaa", sum := "1933f7202756a6e5bc4686c816e68a22afc27dd200f300c26abc5ae2b1092cb5", func := "temple/templelaw5.ShowBytes", spec := "showBytes", inPlace := ["internal/abi.NoEscape"], apart := false }
def ShowBytesSaid : Prop := showBytesRow.holds Try.pinned (OpenSpec.ofChange showBytesSpec)

/-- ITS FALSE NEIGHBOUR: 'it returns false'. Refute it at one input. -/
def showBytesWrong : ChangeSpec := { name := "showBytes", fn := fun _ => fun
  | [d] => { results := [.lit (.bool false)], args := [d] }
  | _ => none }
def ShowBytesWrongFalsely : Prop := showBytesRow.holds Try.pinned (OpenSpec.ofChange showBytesWrong)

/-- 'templelaw5.ShowRuns': WHATEVER THE INPUT: true; the input reads as it did. -/
def showRunsSpec : ChangeSpec := { name := "showRuns", fn := fun _ => fun
  | [d] => { results := [.lit (.bool true)], args := [d] }
  | _ => none }
def showRunsRow : OpenClaim := { program := "ytimmkmfcpfjgfaa", sum := "1933f7202756a6e5bc4686c816e68a22afc27dd200f300c26abc5ae2b1092cb5", func := "temple/templelaw5.ShowRuns", spec := "showRuns", inPlace := ["internal/abi.NoEscape"], apart := false }
def ShowRunsSaid : Prop := showRunsRow.holds Try.pinned (OpenSpec.ofChange showRunsSpec)

/-- ITS FALSE NEIGHBOUR: 'it returns false'. Refute it at one input. -/
def showRunsWrong : ChangeSpec := { name := "showRuns", fn := fun _ => fun
  | [d] => { results := [.lit (.bool false)], args := [d] }
  | _ => none }
def ShowRunsWrongFalsely : Prop := showRunsRow.holds Try.pinned (OpenSpec.ofChange showRunsWrong)

/-- 'templelaw5.ShowUnlike': WHATEVER THE INPUT: true; the input reads as it did. -/
def showUnlikeSpec : ChangeSpec := { name := "showUnlike", fn := fun _ => fun
  | [d1, d2] => { results := [.lit (.bool true)], args := [d1, d2] }
  | _ => none }
def showUnlikeRow : OpenClaim := { program := "ytimmkmfcpfjgfaa", sum := "1933f7202756a6e5bc4686c816e68a22afc27dd200f300c26abc5ae2b1092cb5", func := "temple/templelaw5.ShowUnlike", spec := "showUnlike", inPlace := ["internal/abi.NoEscape"], apart := false }
def ShowUnlikeSaid : Prop := showUnlikeRow.holds Try.pinned (OpenSpec.ofChange showUnlikeSpec)

/-- ITS FALSE NEIGHBOUR: 'it returns false'. Refute it at one input. -/
def showUnlikeWrong : ChangeSpec := { name := "showUnlike", fn := fun _ => fun
  | [d1, d2] => { results := [.lit (.bool false)], args := [d1, d2] }
  | _ => none }
def ShowUnlikeWrongFalsely : Prop := showUnlikeRow.holds Try.pinned (OpenSpec.ofChange showUnlikeWrong)

/-- 'templelaw5.ShowRows': WHATEVER THE INPUT: true; the input reads as it did. -/
def showRowsSpec : ChangeSpec := { name := "showRows", fn := fun _ => fun
  | [d1, d2, d3] => { results := [.lit (.bool true)], args := [d1, d2, d3] }
  | _ => none }
def showRowsRow : OpenClaim := { program := "ytimmkmfcpfjgfaa", sum := "1933f7202756a6e5bc4686c816e68a22afc27dd200f300c26abc5ae2b1092cb5", func := "temple/templelaw5.ShowRows", spec := "showRows", inPlace := ["internal/abi.NoEscape"], apart := false }
def ShowRowsSaid : Prop := showRowsRow.holds Try.pinned (OpenSpec.ofChange showRowsSpec)

/-- ITS FALSE NEIGHBOUR: 'it returns false'. Refute it at one input. -/
def showRowsWrong : ChangeSpec := { name := "showRows", fn := fun _ => fun
  | [d1, d2, d3] => { results := [.lit (.bool false)], args := [d1, d2, d3] }
  | _ => none }
def ShowRowsWrongFalsely : Prop := showRowsRow.holds Try.pinned (OpenSpec.ofChange showRowsWrong)

/-- 'templelaw5.ShowBack': WHATEVER THE INPUT: true; the input reads as it did. -/
def showBackSpec : ChangeSpec := { name := "showBack", fn := fun _ => fun
  | [d1, d2] => { results := [.lit (.bool true)], args := [d1, d2] }
  | _ => none }
def showBackRow : OpenClaim := { program := "ytimmkmfcpfjgfaa", sum := "1933f7202756a6e5bc4686c816e68a22afc27dd200f300c26abc5ae2b1092cb5", func := "temple/templelaw5.ShowBack", spec := "showBack", inPlace := ["internal/abi.NoEscape", "internal/bytealg.IndexByteString"], unfollowed := true, recurses := true, apart := false }
def ShowBackSaid : Prop := showBackRow.holds Try.pinned (OpenSpec.ofChange showBackSpec)

/-- ITS FALSE NEIGHBOUR: 'it returns false'. Refute it at one input. -/
def showBackWrong : ChangeSpec := { name := "showBack", fn := fun _ => fun
  | [d1, d2] => { results := [.lit (.bool false)], args := [d1, d2] }
  | _ => none }
def ShowBackWrongFalsely : Prop := showBackRow.holds Try.pinned (OpenSpec.ofChange showBackWrong)

/- THE SECOND FORM. 'bulk': how many values and letters a reading holds, each counted each time it is reached (what is shared counts as often as it is met; a slice's spare places count too). A statement '..UptoSaid' is the law's where the arguments, and the package variables that the reading takes, are together of bulk at most 1048576: NARROWER than '..Said'. Prove '..Said' where nothing that the law and all that it calls make is longer than what came in: it says more and counts as full. Else prove '..UptoSaid'. A law counts once. -/
mutual
def uptoBulk {H : Type} : DataW H → Nat
  | .lit (.string bytes) => bytes.length + 1
  | .lit _ => 1
  | .nil => 1
  | .ptr d => uptoBulk d + 1
  | .slice elems spare => uptoBulkAll elems + uptoBulkAll spare + 1
  | .agg parts => uptoBulkAll parts + 1
  | .iface _ d => uptoBulk d + 1
  | .map entries => uptoBulkEntries entries + 1
  | .held _ => 1
def uptoBulkAll {H : Type} : List (DataW H) → Nat
  | [] => 0
  | d :: r => uptoBulk d + uptoBulkAll r
def uptoBulkEntries {H : Type} : List (Lit × DataW H) → Nat
  | [] => 0
  | x :: r => uptoBulkEntry x + uptoBulkEntries r
def uptoBulkEntry {H : Type} : Lit × DataW H → Nat
  | (.string bytes, d) => bytes.length + uptoBulk d + 1
  | (_, d) => uptoBulk d + 1
 end
def uptoSmall : (H : Type) → List (DataW H) → Bool := fun _ ds => decide (uptoBulkAll ds ≤ 1048576)
def OpenSpec.upto (s : _root_.Go.ChangeSpec) : _root_.Go.OpenSpec := { _root_.Go.OpenSpec.ofChange s with cond := some uptoSmall }

/-- 'templelaw5.Shows', WHERE WHAT IT READS IS OF BULK AT MOST 1048576: true; the input reads as it did. -/
def showsUptoRow : OpenClaim := { program := "ytimmkmfcpfjgfaa", sum := "1933f7202756a6e5bc4686c816e68a22afc27dd200f300c26abc5ae2b1092cb5", func := "temple/templelaw5.Shows", spec := "shows", inPlace := ["internal/abi.NoEscape"], apart := false, narrowed := true }
def ShowsUptoSaid : Prop := showsUptoRow.holds Try.pinned (OpenSpec.upto showsSpec)

/-- 'templelaw5.ShowBytes', WHERE WHAT IT READS IS OF BULK AT MOST 1048576: true; the input reads as it did. -/
def showBytesUptoRow : OpenClaim := { program := "ytimmkmfcpfjgfaa", sum := "1933f7202756a6e5bc4686c816e68a22afc27dd200f300c26abc5ae2b1092cb5", func := "temple/templelaw5.ShowBytes", spec := "showBytes", inPlace := ["internal/abi.NoEscape"], apart := false, narrowed := true }
def ShowBytesUptoSaid : Prop := showBytesUptoRow.holds Try.pinned (OpenSpec.upto showBytesSpec)

/-- 'templelaw5.ShowRuns', WHERE WHAT IT READS IS OF BULK AT MOST 1048576: true; the input reads as it did. -/
def showRunsUptoRow : OpenClaim := { program := "ytimmkmfcpfjgfaa", sum := "1933f7202756a6e5bc4686c816e68a22afc27dd200f300c26abc5ae2b1092cb5", func := "temple/templelaw5.ShowRuns", spec := "showRuns", inPlace := ["internal/abi.NoEscape"], apart := false, narrowed := true }
def ShowRunsUptoSaid : Prop := showRunsUptoRow.holds Try.pinned (OpenSpec.upto showRunsSpec)

/-- 'templelaw5.ShowUnlike', WHERE WHAT IT READS IS OF BULK AT MOST 1048576: true; the input reads as it did. -/
def showUnlikeUptoRow : OpenClaim := { program := "ytimmkmfcpfjgfaa", sum := "1933f7202756a6e5bc4686c816e68a22afc27dd200f300c26abc5ae2b1092cb5", func := "temple/templelaw5.ShowUnlike", spec := "showUnlike", inPlace := ["internal/abi.NoEscape"], apart := false, narrowed := true }
def ShowUnlikeUptoSaid : Prop := showUnlikeUptoRow.holds Try.pinned (OpenSpec.upto showUnlikeSpec)

/-- 'templelaw5.ShowRows', WHERE WHAT IT READS IS OF BULK AT MOST 1048576: true; the input reads as it did. -/
def showRowsUptoRow : OpenClaim := { program := "ytimmkmfcpfjgfaa", sum := "1933f7202756a6e5bc4686c816e68a22afc27dd200f300c26abc5ae2b1092cb5", func := "temple/templelaw5.ShowRows", spec := "showRows", inPlace := ["internal/abi.NoEscape"], apart := false, narrowed := true }
def ShowRowsUptoSaid : Prop := showRowsUptoRow.holds Try.pinned (OpenSpec.upto showRowsSpec)

/-- 'templelaw5.ShowBack', WHERE WHAT IT READS IS OF BULK AT MOST 1048576: true; the input reads as it did. -/
def showBackUptoRow : OpenClaim := { program := "ytimmkmfcpfjgfaa", sum := "1933f7202756a6e5bc4686c816e68a22afc27dd200f300c26abc5ae2b1092cb5", func := "temple/templelaw5.ShowBack", spec := "showBack", inPlace := ["internal/abi.NoEscape", "internal/bytealg.IndexByteString"], unfollowed := true, recurses := true, apart := false, narrowed := true }
def ShowBackUptoSaid : Prop := showBackUptoRow.holds Try.pinned (OpenSpec.upto showBackSpec)

end Rows
end Go.Proofs.Ytimmkmfcpfjgfaa
