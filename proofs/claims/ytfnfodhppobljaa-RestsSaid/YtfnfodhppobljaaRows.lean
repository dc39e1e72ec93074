/-
  No cell of these rows narrows 'for every input' (looked for: loops, veiled, ifaces, maps, wideKeys, modest, calm, conditions, laid).
  DERIVED. THE GIVEN ROWS OF THIS SEAT. 2 by the template 'for every input the law returns true; each argument reads behind the call as it read before'; 0 by the template 'total and deterministic' (their statements: YtfnfodhppobljaaTotals.lean).
  GIVEN WITH THE SEED: the statements are not yours to turn. If you find one false, say at which input.
  Laid BY PROGRAM, IN A SANDBOX (cutbox-rows.mjs): the forced cells as the released guide's own fill.sh prints them over the translation 902d4715578b39c1… (all of the seat's roots in one cut). By AI agents, Wed Nov 11 2026. No macro, syntax, notation, axiom, sorry.
-/
import Derived.Test.YtfnfodhppobljaaChecked
import GoSem.Claim
import GoSem.ClaimJoined
import GoSem.ClaimMapViews
import Derived.JoinedTies
import Derived.KernelRfl
namespace Go.Proofs.Ytfnfodhppobljaa
/- THE CELL 'sum', in the pinned program and in every row, IS THE sha256 OF THE DUMP (.gsa) THAT YtfnfodhppobljaaProg.lean LOADS. Nothing in Lean hashes anything: it is a label: what it is worth is what the hold of that sum in a sandbox is worth. -/
noncomputable def Try.pinned : Pinned := { name := "ytfnfodhppobljaa", sum := "902d4715578b39c11603a8619aab00f0b7ba68a7768ef1c8b4112dd4bcae278b", checked := Try.checked }
namespace Rows
def none {H : Type} : Left H := { results := [], args := [] }

/-- 'templelaw10.Rests': WHATEVER THE INPUT: true; the input reads as it did. -/
def restsSpec : ChangeSpec := { name := "rests", fn := fun _ => fun
  | [d] => { results := [.lit (.bool true)], args := [d] }
  | _ => none }
def restsRow : OpenClaim := { program := "ytfnfodhppobljaa", sum := "902d4715578b39c11603a8619aab00f0b7ba68a7768ef1c8b4112dd4bcae278b", func := "temple/templelaw10.Rests", spec := "rests", apart := false }
def RestsSaid : Prop := restsRow.holds Try.pinned (OpenSpec.ofChange restsSpec)

/-- ITS FALSE NEIGHBOUR: 'it returns false'. Refute it at one input. -/
def restsWrong : ChangeSpec := { name := "rests", fn := fun _ => fun
  | [d] => { results := [.lit (.bool false)], args := [d] }
  | _ => none }
def RestsWrongFalsely : Prop := restsRow.holds Try.pinned (OpenSpec.ofChange restsWrong)

/-- 'templelaw10.RestsRows': WHATEVER THE INPUT: true; the input reads as it did. -/
def restsRowsSpec : ChangeSpec := { name := "restsRows", fn := fun _ => fun
  | [d] => { results := [.lit (.bool true)], args := [d] }
  | _ => none }
def restsRowsRow : OpenClaim := { program := "ytfnfodhppobljaa", sum := "902d4715578b39c11603a8619aab00f0b7ba68a7768ef1c8b4112dd4bcae278b", func := "temple/templelaw10.RestsRows", spec := "restsRows", apart := false }
def RestsRowsSaid : Prop := restsRowsRow.holds Try.pinned (OpenSpec.ofChange restsRowsSpec)

/-- ITS FALSE NEIGHBOUR: 'it returns false'. Refute it at one input. -/
def restsRowsWrong : ChangeSpec := { name := "restsRows", fn := fun _ => fun
  | [d] => { results := [.lit (.bool false)], args := [d] }
  | _ => none }
def RestsRowsWrongFalsely : Prop := restsRowsRow.holds Try.pinned (OpenSpec.ofChange restsRowsWrong)

/- THE SECOND FORM. 'bulk': how many values and letters a reading holds, each counted each time it is reached (what is shared counts as often as it is met; a slice's spare places count too). A statement '..UptoSaid' is the law's where the arguments, and the package variables that the reading takes, are together of bulk at most 1048576: NARROWER than '..Said'. Prove '..Said' where nothing that the law and all that it calls make is longer than what came in: it says more and counts as full. Else prove '..UptoSaid'. A law counts once. -/
mutual
def uptoBulk {H : Type} : DataW H → Nat
  | .lit (.string bytes) => bytes.length + 1
  | .lit _ => 1
  | .nil => 1
  | .ptr d => uptoBulk d + 1
  | .slice elems spare => uptoBulkAll elems + uptoBulkAll spare + 1
  | .agg parts => uptoBulkAll parts + 1
  | .iface _ d => uptoBulk d + 1
  | .map entries => uptoBulkEntries entries + 1
  | .held _ => 1
def uptoBulkAll {H : Type} : List (DataW H) → Nat
  | [] => 0
  | d :: r => uptoBulk d + uptoBulkAll r
def uptoBulkEntries {H : Type} : List (Lit × DataW H) → Nat
  | [] => 0
  | x :: r => uptoBulkEntry x + uptoBulkEntries r
def uptoBulkEntry {H : Type} : Lit × DataW H → Nat
  | (.string bytes, d) => bytes.length + uptoBulk d + 1
  | (_, d) => uptoBulk d + 1
 end
def uptoSmall : (H : Type) → List (DataW H) → Bool := fun _ ds => decide (uptoBulkAll ds ≤ 1048576)
def OpenSpec.upto (s : _root_.Go.ChangeSpec) : _root_.Go.OpenSpec := { _root_.Go.OpenSpec.ofChange s with cond := some uptoSmall }

/-- 'templelaw10.Rests', WHERE WHAT IT READS IS OF BULK AT MOST 1048576: true; the input reads as it did. -/
def restsUptoRow : OpenClaim := { program := "ytfnfodhppobljaa", sum := "902d4715578b39c11603a8619aab00f0b7ba68a7768ef1c8b4112dd4bcae278b", func := "temple/templelaw10.Rests", spec := "rests", apart := false, narrowed := true }
def RestsUptoSaid : Prop := restsUptoRow.holds Try.pinned (OpenSpec.upto restsSpec)

/-- 'templelaw10.RestsRows', WHERE WHAT IT READS IS OF BULK AT MOST 1048576: true; the input reads as it did. -/
def restsRowsUptoRow : OpenClaim := { program := "ytfnfodhppobljaa", sum := "902d4715578b39c11603a8619aab00f0b7ba68a7768ef1c8b4112dd4bcae278b", func := "temple/templelaw10.RestsRows", spec := "restsRows", apart := false, narrowed := true }
def RestsRowsUptoSaid : Prop := restsRowsUptoRow.holds Try.pinned (OpenSpec.upto restsRowsSpec)

end Rows
end Go.Proofs.Ytfnfodhppobljaa
