/-
  No cell of these rows narrows 'for every input' (looked for: loops, veiled, ifaces, maps, wideKeys, modest, calm, conditions, laid).
  DERIVED. THE GIVEN ROWS OF THIS SEAT. 6 by the template 'for every input the law returns true; each argument reads behind the call as it read before'; 0 by the template 'total and deterministic' (their statements: YtpilkfodlhhjpaaTotals.lean).
  GIVEN WITH THE SEED: the statements are not yours to turn. If you find one false, say at which input.
  Laid BY PROGRAM, IN A SANDBOX (cutbox-rows.mjs): the forced cells as the released guide's own fill.sh prints them over the translation f58aec23d02b2c38… (all of the seat's roots in one cut). By AI agents, Wed Nov 11 2026. No macro, syntax, notation, axiom, sorry.
-/
import Derived.Test.YtpilkfodlhhjpaaChecked
import GoSem.Claim
import GoSem.ClaimJoined
import GoSem.ClaimMapViews
import Derived.JoinedTies
import Derived.KernelRfl
namespace Go.Proofs.Ytpilkfodlhhjpaa
/- THE CELL 'sum', in the pinned program and in every row, IS THE sha256 OF THE DUMP (.gsa) THAT YtpilkfodlhhjpaaProg.lean LOADS. Nothing in Lean hashes anything: it is a label: what it is worth is what the hold of that sum in a sandbox is worth. -/
noncomputable def Try.pinned : Pinned := { name := "ytpilkfodlhhjpaa", sum := "f58aec23d02b2c38e31e11050c2d2739c4904c43673ecae07031b110d5318dce", checked := Try.checked }
namespace Rows
def none {H : Type} : Left H := { results := [], args := [] }

/-- 'templelaw12.Firsts': WHATEVER THE INPUT: true; the input reads as it did. -/
def firstsSpec : ChangeSpec := { name := "firsts", fn := fun _ => fun
  | [d] => { results := [.lit (.bool true)], args := [d] }
  | _ => none }
def firstsRow : OpenClaim := { program := "ytpilkfodlhhjpaa", sum := "f58aec23d02b2c38e31e11050c2d2739c4904c43673ecae07031b110d5318dce", func := "temple/templelaw12.Firsts", spec := "firsts", unfollowed := true, recurses := true, apart := false }
def FirstsSaid : Prop := firstsRow.holds Try.pinned (OpenSpec.ofChange firstsSpec)

/-- ITS FALSE NEIGHBOUR: 'it returns false'. Refute it at one input. -/
def firstsWrong : ChangeSpec := { name := "firsts", fn := fun _ => fun
  | [d] => { results := [.lit (.bool false)], args := [d] }
  | _ => none }
def FirstsWrongFalsely : Prop := firstsRow.holds Try.pinned (OpenSpec.ofChange firstsWrong)

/-- 'templelaw12.FirstsTrue': WHATEVER THE INPUT: true; the input reads as it did. -/
def firstsTrueSpec : ChangeSpec := { name := "firstsTrue", fn := fun _ => fun
  | [d1, d2] => { results := [.lit (.bool true)], args := [d1, d2] }
  | _ => none }
def firstsTrueRow : OpenClaim := { program := "ytpilkfodlhhjpaa", sum := "f58aec23d02b2c38e31e11050c2d2739c4904c43673ecae07031b110d5318dce", func := "temple/templelaw12.FirstsTrue", spec := "firstsTrue", unfollowed := true, recurses := true, apart := false }
def FirstsTrueSaid : Prop := firstsTrueRow.holds Try.pinned (OpenSpec.ofChange firstsTrueSpec)

/-- ITS FALSE NEIGHBOUR: 'it returns false'. Refute it at one input. -/
def firstsTrueWrong : ChangeSpec := { name := "firstsTrue", fn := fun _ => fun
  | [d1, d2] => { results := [.lit (.bool false)], args := [d1, d2] }
  | _ => none }
def FirstsTrueWrongFalsely : Prop := firstsTrueRow.holds Try.pinned (OpenSpec.ofChange firstsTrueWrong)

/-- 'templelaw12.FollowsHold': WHATEVER THE INPUT: true; the input reads as it did. -/
def followsHoldSpec : ChangeSpec := { name := "followsHold", fn := fun _ => fun
  | [d] => { results := [.lit (.bool true)], args := [d] }
  | _ => none }
def followsHoldRow : OpenClaim := { program := "ytpilkfodlhhjpaa", sum := "f58aec23d02b2c38e31e11050c2d2739c4904c43673ecae07031b110d5318dce", func := "temple/templelaw12.FollowsHold", spec := "followsHold", unfollowed := true, recurses := true, apart := false }
def FollowsHoldSaid : Prop := followsHoldRow.holds Try.pinned (OpenSpec.ofChange followsHoldSpec)

/-- ITS FALSE NEIGHBOUR: 'it returns false'. Refute it at one input. -/
def followsHoldWrong : ChangeSpec := { name := "followsHold", fn := fun _ => fun
  | [d] => { results := [.lit (.bool false)], args := [d] }
  | _ => none }
def FollowsHoldWrongFalsely : Prop := followsHoldRow.holds Try.pinned (OpenSpec.ofChange followsHoldWrong)

/-- 'templelaw12.FirstsHold': WHATEVER THE INPUT: true; the input reads as it did. -/
def firstsHoldSpec : ChangeSpec := { name := "firstsHold", fn := fun _ => fun
  | [d] => { results := [.lit (.bool true)], args := [d] }
  | _ => none }
def firstsHoldRow : OpenClaim := { program := "ytpilkfodlhhjpaa", sum := "f58aec23d02b2c38e31e11050c2d2739c4904c43673ecae07031b110d5318dce", func := "temple/templelaw12.FirstsHold", spec := "firstsHold", unfollowed := true, recurses := true, apart := false }
def FirstsHoldSaid : Prop := firstsHoldRow.holds Try.pinned (OpenSpec.ofChange firstsHoldSpec)

/-- ITS FALSE NEIGHBOUR: 'it returns false'. Refute it at one input. -/
def firstsHoldWrong : ChangeSpec := { name := "firstsHold", fn := fun _ => fun
  | [d] => { results := [.lit (.bool false)], args := [d] }
  | _ => none }
def FirstsHoldWrongFalsely : Prop := firstsHoldRow.holds Try.pinned (OpenSpec.ofChange firstsHoldWrong)

/-- 'templelaw12.FirstsRows': WHATEVER THE INPUT: true; the input reads as it did. -/
def firstsRowsSpec : ChangeSpec := { name := "firstsRows", fn := fun _ => fun
  | [d] => { results := [.lit (.bool true)], args := [d] }
  | _ => none }
def firstsRowsRow : OpenClaim := { program := "ytpilkfodlhhjpaa", sum := "f58aec23d02b2c38e31e11050c2d2739c4904c43673ecae07031b110d5318dce", func := "temple/templelaw12.FirstsRows", spec := "firstsRows", unfollowed := true, recurses := true, apart := false }
def FirstsRowsSaid : Prop := firstsRowsRow.holds Try.pinned (OpenSpec.ofChange firstsRowsSpec)

/-- ITS FALSE NEIGHBOUR: 'it returns false'. Refute it at one input. -/
def firstsRowsWrong : ChangeSpec := { name := "firstsRows", fn := fun _ => fun
  | [d] => { results := [.lit (.bool false)], args := [d] }
  | _ => none }
def FirstsRowsWrongFalsely : Prop := firstsRowsRow.holds Try.pinned (OpenSpec.ofChange firstsRowsWrong)

/-- 'templelaw12.FirstsMore': WHATEVER THE INPUT: true; the input reads as it did. -/
def firstsMoreSpec : ChangeSpec := { name := "firstsMore", fn := fun _ => fun
  | [d1, d2, d3] => { results := [.lit (.bool true)], args := [d1, d2, d3] }
  | _ => none }
def firstsMoreRow : OpenClaim := { program := "ytpilkfodlhhjpaa", sum := "f58aec23d02b2c38e31e11050c2d2739c4904c43673ecae07031b110d5318dce", func := "temple/templelaw12.FirstsMore", spec := "firstsMore", unfollowed := true, recurses := true, apart := false }
def FirstsMoreSaid : Prop := firstsMoreRow.holds Try.pinned (OpenSpec.ofChange firstsMoreSpec)

/-- ITS FALSE NEIGHBOUR: 'it returns false'. Refute it at one input. -/
def firstsMoreWrong : ChangeSpec := { name := "firstsMore", fn := fun _ => fun
  | [d1, d2, d3] => { results := [.lit (.bool false)], args := [d1, d2, d3] }
  | _ => none }
def FirstsMoreWrongFalsely : Prop := firstsMoreRow.holds Try.pinned (OpenSpec.ofChange firstsMoreWrong)

/- THE SECOND FORM. 'bulk': how many values and letters a reading holds, each counted each time it is reached (what is shared counts as often as it is met; a slice's spare places count too). A statement '..UptoSaid' is the law's where the arguments, and the package variables that the reading takes, are together of bulk at most 1048576: NARROWER than '..Said'. Prove '..Said' where nothing that the law and all that it calls make is longer than what came in: it says more and counts as full. Else prove '..UptoSaid'. A law counts once. -/
mutual
def uptoBulk {H : Type} : DataW H → Nat
  | .lit (.string bytes) => bytes.length + 1
  | .lit _ => 1
  | .nil => 1
  | .ptr d => uptoBulk d + 1
  | .slice elems spare => uptoBulkAll elems + uptoBulkAll spare + 1
  | .agg parts => uptoBulkAll parts + 1
  | .iface _ d => uptoBulk d + 1
  | .map entries => uptoBulkEntries entries + 1
  | .held _ => 1
def uptoBulkAll {H : Type} : List (DataW H) → Nat
  | [] => 0
  | d :: r => uptoBulk d + uptoBulkAll r
def uptoBulkEntries {H : Type} : List (Lit × DataW H) → Nat
  | [] => 0
  | x :: r => uptoBulkEntry x + uptoBulkEntries r
def uptoBulkEntry {H : Type} : Lit × DataW H → Nat
  | (.string bytes, d) => bytes.length + uptoBulk d + 1
  | (_, d) => uptoBulk d + 1
 end
def uptoSmall : (H : Type) → List (DataW H) → Bool := fun _ ds => decide (uptoBulkAll ds ≤ 1048576)
def OpenSpec.upto (s : _root_.Go.ChangeSpec) : _root_.Go.OpenSpec := { _root_.Go.OpenSpec.ofChange s with cond := some uptoSmall }

/-- 'templelaw12.Firsts', WHERE WHAT IT READS IS OF BULK AT MOST 1048576: true; the input reads as it did. -/
def firstsUptoRow : OpenClaim := { program := "ytpilkfodlhhjpaa", sum := "f58aec23d02b2c38e31e11050c2d2739c4904c43673ecae07031b110d5318dce", func := "temple/templelaw12.Firsts", spec := "firsts", unfollowed := true, recurses := true, apart := false, narrowed := true }
def FirstsUptoSaid : Prop := firstsUptoRow.holds Try.pinned (OpenSpec.upto firstsSpec)

/-- 'templelaw12.FirstsTrue', WHERE WHAT IT READS IS OF BULK AT MOST 1048576: true; the input reads as it did. -/
def firstsTrueUptoRow : OpenClaim := { program := "ytpilkfodlhhjpaa", sum := "f58aec23d02b2c38e31e11050c2d2739c4904c43673ecae07031b110d5318dce", func := "temple/templelaw12.FirstsTrue", spec := "firstsTrue", unfollowed := true, recurses := true, apart := false, narrowed := true }
def FirstsTrueUptoSaid : Prop := firstsTrueUptoRow.holds Try.pinned (OpenSpec.upto firstsTrueSpec)

/-- 'templelaw12.FollowsHold', WHERE WHAT IT READS IS OF BULK AT MOST 1048576: true; the input reads as it did. -/
def followsHoldUptoRow : OpenClaim := { program := "ytpilkfodlhhjpaa", sum := "f58aec23d02b2c38e31e11050c2d2739c4904c43673ecae07031b110d5318dce", func := "temple/templelaw12.FollowsHold", spec := "followsHold", unfollowed := true, recurses := true, apart := false, narrowed := true }
def FollowsHoldUptoSaid : Prop := followsHoldUptoRow.holds Try.pinned (OpenSpec.upto followsHoldSpec)

/-- 'templelaw12.FirstsHold', WHERE WHAT IT READS IS OF BULK AT MOST 1048576: true; the input reads as it did. -/
def firstsHoldUptoRow : OpenClaim := { program := "ytpilkfodlhhjpaa", sum := "f58aec23d02b2c38e31e11050c2d2739c4904c43673ecae07031b110d5318dce", func := "temple/templelaw12.FirstsHold", spec := "firstsHold", unfollowed := true, recurses := true, apart := false, narrowed := true }
def FirstsHoldUptoSaid : Prop := firstsHoldUptoRow.holds Try.pinned (OpenSpec.upto firstsHoldSpec)

/-- 'templelaw12.FirstsRows', WHERE WHAT IT READS IS OF BULK AT MOST 1048576: true; the input reads as it did. -/
def firstsRowsUptoRow : OpenClaim := { program := "ytpilkfodlhhjpaa", sum := "f58aec23d02b2c38e31e11050c2d2739c4904c43673ecae07031b110d5318dce", func := "temple/templelaw12.FirstsRows", spec := "firstsRows", unfollowed := true, recurses := true, apart := false, narrowed := true }
def FirstsRowsUptoSaid : Prop := firstsRowsUptoRow.holds Try.pinned (OpenSpec.upto firstsRowsSpec)

/-- 'templelaw12.FirstsMore', WHERE WHAT IT READS IS OF BULK AT MOST 1048576: true; the input reads as it did. -/
def firstsMoreUptoRow : OpenClaim := { program := "ytpilkfodlhhjpaa", sum := "f58aec23d02b2c38e31e11050c2d2739c4904c43673ecae07031b110d5318dce", func := "temple/templelaw12.FirstsMore", spec := "firstsMore", unfollowed := true, recurses := true, apart := false, narrowed := true }
def FirstsMoreUptoSaid : Prop := firstsMoreUptoRow.holds Try.pinned (OpenSpec.upto firstsMoreSpec)

end Rows
end Go.Proofs.Ytpilkfodlhhjpaa
