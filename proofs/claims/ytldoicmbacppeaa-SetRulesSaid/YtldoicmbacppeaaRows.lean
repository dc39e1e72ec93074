/-
  No cell of these rows narrows 'for every input' (looked for: loops, veiled, ifaces, maps, wideKeys, modest, calm, conditions, laid).
  DERIVED. THE GIVEN ROWS OF THIS SEAT. 7 by the template 'for every input the law returns true; each argument reads behind the call as it read before'; 0 by the template 'total and deterministic' (their statements: YtldoicmbacppeaaTotals.lean).
  GIVEN WITH THE SEED: the statements are not yours to turn. If you find one false, say at which input.
  Laid BY PROGRAM, IN A SANDBOX (cutbox-rows.mjs): the forced cells as the released guide's own fill.sh prints them over the translation 170afafac43b38ae… (all of the seat's roots in one cut). By AI agents, Wed Nov 11 2026. No macro, syntax, notation, axiom, sorry.
-/
import Derived.Test.YtldoicmbacppeaaChecked
import GoSem.Claim
import GoSem.ClaimJoined
import GoSem.ClaimMapViews
import Derived.JoinedTies
import Derived.KernelRfl
namespace Go.Proofs.Ytldoicmbacppeaa
/- THE CELL 'sum', in the pinned program and in every row, IS THE sha256 OF THE DUMP (.gsa) THAT YtldoicmbacppeaaProg.lean LOADS. Nothing in Lean hashes anything: it is a label: what it is worth is what the hold of that sum in a sandbox is worth. -/
noncomputable def Try.pinned : Pinned := { name := "ytldoicmbacppeaa", sum := "170afafac43b38aedfa12035f205c8ab0f21fe44387a2360de5e36dbff0bcc28", checked := Try.checked }
namespace Rows
def none {H : Type} : Left H := { results := [], args := [] }

/-- 'templelaw1.Sets': WHATEVER THE INPUT: true; the input reads as it did. -/
def setsSpec : ChangeSpec := { name := "sets", fn := fun _ => fun
  | [d1, d2, d3, d4] => { results := [.lit (.bool true)], args := [d1, d2, d3, d4] }
  | _ => none }
def setsRow : OpenClaim := { program := "ytldoicmbacppeaa", sum := "170afafac43b38aedfa12035f205c8ab0f21fe44387a2360de5e36dbff0bcc28", func := "temple/templelaw1.Sets", spec := "sets", unfollowed := true, recurses := true, apart := false }
def SetsSaid : Prop := setsRow.holds Try.pinned (OpenSpec.ofChange setsSpec)

/-- ITS FALSE NEIGHBOUR: 'it returns false'. Refute it at one input. -/
def setsWrong : ChangeSpec := { name := "sets", fn := fun _ => fun
  | [d1, d2, d3, d4] => { results := [.lit (.bool false)], args := [d1, d2, d3, d4] }
  | _ => none }
def SetsWrongFalsely : Prop := setsRow.holds Try.pinned (OpenSpec.ofChange setsWrong)

/-- 'templelaw1.SetRules': WHATEVER THE INPUT: true; the input reads as it did. -/
def setRulesSpec : ChangeSpec := { name := "setRules", fn := fun _ => fun
  | [d1, d2] => { results := [.lit (.bool true)], args := [d1, d2] }
  | _ => none }
def setRulesRow : OpenClaim := { program := "ytldoicmbacppeaa", sum := "170afafac43b38aedfa12035f205c8ab0f21fe44387a2360de5e36dbff0bcc28", func := "temple/templelaw1.SetRules", spec := "setRules", unfollowed := true, recurses := true, apart := false }
def SetRulesSaid : Prop := setRulesRow.holds Try.pinned (OpenSpec.ofChange setRulesSpec)

/-- ITS FALSE NEIGHBOUR: 'it returns false'. Refute it at one input. -/
def setRulesWrong : ChangeSpec := { name := "setRules", fn := fun _ => fun
  | [d1, d2] => { results := [.lit (.bool false)], args := [d1, d2] }
  | _ => none }
def SetRulesWrongFalsely : Prop := setRulesRow.holds Try.pinned (OpenSpec.ofChange setRulesWrong)

/-- 'templelaw1.SetMembers': WHATEVER THE INPUT: true; the input reads as it did. -/
def setMembersSpec : ChangeSpec := { name := "setMembers", fn := fun _ => fun
  | [d1, d2, d3] => { results := [.lit (.bool true)], args := [d1, d2, d3] }
  | _ => none }
def setMembersRow : OpenClaim := { program := "ytldoicmbacppeaa", sum := "170afafac43b38aedfa12035f205c8ab0f21fe44387a2360de5e36dbff0bcc28", func := "temple/templelaw1.SetMembers", spec := "setMembers", unfollowed := true, recurses := true, apart := false }
def SetMembersSaid : Prop := setMembersRow.holds Try.pinned (OpenSpec.ofChange setMembersSpec)

/-- ITS FALSE NEIGHBOUR: 'it returns false'. Refute it at one input. -/
def setMembersWrong : ChangeSpec := { name := "setMembers", fn := fun _ => fun
  | [d1, d2, d3] => { results := [.lit (.bool false)], args := [d1, d2, d3] }
  | _ => none }
def SetMembersWrongFalsely : Prop := setMembersRow.holds Try.pinned (OpenSpec.ofChange setMembersWrong)

/-- 'templelaw1.SetLaws': WHATEVER THE INPUT: true; the input reads as it did. -/
def setLawsSpec : ChangeSpec := { name := "setLaws", fn := fun _ => fun
  | [d1, d2, d3] => { results := [.lit (.bool true)], args := [d1, d2, d3] }
  | _ => none }
def setLawsRow : OpenClaim := { program := "ytldoicmbacppeaa", sum := "170afafac43b38aedfa12035f205c8ab0f21fe44387a2360de5e36dbff0bcc28", func := "temple/templelaw1.SetLaws", spec := "setLaws", unfollowed := true, recurses := true, apart := false }
def SetLawsSaid : Prop := setLawsRow.holds Try.pinned (OpenSpec.ofChange setLawsSpec)

/-- ITS FALSE NEIGHBOUR: 'it returns false'. Refute it at one input. -/
def setLawsWrong : ChangeSpec := { name := "setLaws", fn := fun _ => fun
  | [d1, d2, d3] => { results := [.lit (.bool false)], args := [d1, d2, d3] }
  | _ => none }
def SetLawsWrongFalsely : Prop := setLawsRow.holds Try.pinned (OpenSpec.ofChange setLawsWrong)

/-- 'templelaw1.SetBits': WHATEVER THE INPUT: true; the input reads as it did. -/
def setBitsSpec : ChangeSpec := { name := "setBits", fn := fun _ => fun
  | [d1, d2, d3] => { results := [.lit (.bool true)], args := [d1, d2, d3] }
  | _ => none }
def setBitsRow : OpenClaim := { program := "ytldoicmbacppeaa", sum := "170afafac43b38aedfa12035f205c8ab0f21fe44387a2360de5e36dbff0bcc28", func := "temple/templelaw1.SetBits", spec := "setBits", unfollowed := true, recurses := true, apart := false }
def SetBitsSaid : Prop := setBitsRow.holds Try.pinned (OpenSpec.ofChange setBitsSpec)

/-- ITS FALSE NEIGHBOUR: 'it returns false'. Refute it at one input. -/
def setBitsWrong : ChangeSpec := { name := "setBits", fn := fun _ => fun
  | [d1, d2, d3] => { results := [.lit (.bool false)], args := [d1, d2, d3] }
  | _ => none }
def SetBitsWrongFalsely : Prop := setBitsRow.holds Try.pinned (OpenSpec.ofChange setBitsWrong)

/-- 'templelaw1.SetRuns': WHATEVER THE INPUT: true; the input reads as it did. -/
def setRunsSpec : ChangeSpec := { name := "setRuns", fn := fun _ => fun
  | [d] => { results := [.lit (.bool true)], args := [d] }
  | _ => none }
def setRunsRow : OpenClaim := { program := "ytldoicmbacppeaa", sum := "170afafac43b38aedfa12035f205c8ab0f21fe44387a2360de5e36dbff0bcc28", func := "temple/templelaw1.SetRuns", spec := "setRuns", unfollowed := true, recurses := true, apart := false }
def SetRunsSaid : Prop := setRunsRow.holds Try.pinned (OpenSpec.ofChange setRunsSpec)

/-- ITS FALSE NEIGHBOUR: 'it returns false'. Refute it at one input. -/
def setRunsWrong : ChangeSpec := { name := "setRuns", fn := fun _ => fun
  | [d] => { results := [.lit (.bool false)], args := [d] }
  | _ => none }
def SetRunsWrongFalsely : Prop := setRunsRow.holds Try.pinned (OpenSpec.ofChange setRunsWrong)

/-- 'templelaw1.SetSplits': WHATEVER THE INPUT: true; the input reads as it did. -/
def setSplitsSpec : ChangeSpec := { name := "setSplits", fn := fun _ => fun
  | [d1, d2, d3] => { results := [.lit (.bool true)], args := [d1, d2, d3] }
  | _ => none }
def setSplitsRow : OpenClaim := { program := "ytldoicmbacppeaa", sum := "170afafac43b38aedfa12035f205c8ab0f21fe44387a2360de5e36dbff0bcc28", func := "temple/templelaw1.SetSplits", spec := "setSplits", unfollowed := true, recurses := true, apart := false }
def SetSplitsSaid : Prop := setSplitsRow.holds Try.pinned (OpenSpec.ofChange setSplitsSpec)

/-- ITS FALSE NEIGHBOUR: 'it returns false'. Refute it at one input. -/
def setSplitsWrong : ChangeSpec := { name := "setSplits", fn := fun _ => fun
  | [d1, d2, d3] => { results := [.lit (.bool false)], args := [d1, d2, d3] }
  | _ => none }
def SetSplitsWrongFalsely : Prop := setSplitsRow.holds Try.pinned (OpenSpec.ofChange setSplitsWrong)

/- THE SECOND FORM. 'bulk': how many values and letters a reading holds, each counted each time it is reached (what is shared counts as often as it is met; a slice's spare places count too). A statement '..UptoSaid' is the law's where the arguments, and the package variables that the reading takes, are together of bulk at most 1048576: NARROWER than '..Said'. Prove '..Said' where nothing that the law and all that it calls make is longer than what came in: it says more and counts as full. Else prove '..UptoSaid'. A law counts once. -/
mutual
def uptoBulk {H : Type} : DataW H → Nat
  | .lit (.string bytes) => bytes.length + 1
  | .lit _ => 1
  | .nil => 1
  | .ptr d => uptoBulk d + 1
  | .slice elems spare => uptoBulkAll elems + uptoBulkAll spare + 1
  | .agg parts => uptoBulkAll parts + 1
  | .iface _ d => uptoBulk d + 1
  | .map entries => uptoBulkEntries entries + 1
  | .held _ => 1
def uptoBulkAll {H : Type} : List (DataW H) → Nat
  | [] => 0
  | d :: r => uptoBulk d + uptoBulkAll r
def uptoBulkEntries {H : Type} : List (Lit × DataW H) → Nat
  | [] => 0
  | x :: r => uptoBulkEntry x + uptoBulkEntries r
def uptoBulkEntry {H : Type} : Lit × DataW H → Nat
  | (.string bytes, d) => bytes.length + uptoBulk d + 1
  | (_, d) => uptoBulk d + 1
 end
def uptoSmall : (H : Type) → List (DataW H) → Bool := fun _ ds => decide (uptoBulkAll ds ≤ 1048576)
def OpenSpec.upto (s : _root_.Go.ChangeSpec) : _root_.Go.OpenSpec := { _root_.Go.OpenSpec.ofChange s with cond := some uptoSmall }

/-- 'templelaw1.Sets', WHERE WHAT IT READS IS OF BULK AT MOST 1048576: true; the input reads as it did. -/
def setsUptoRow : OpenClaim := { program := "ytldoicmbacppeaa", sum := "170afafac43b38aedfa12035f205c8ab0f21fe44387a2360de5e36dbff0bcc28", func := "temple/templelaw1.Sets", spec := "sets", unfollowed := true, recurses := true, apart := false, narrowed := true }
def SetsUptoSaid : Prop := setsUptoRow.holds Try.pinned (OpenSpec.upto setsSpec)

/-- 'templelaw1.SetRules', WHERE WHAT IT READS IS OF BULK AT MOST 1048576: true; the input reads as it did. -/
def setRulesUptoRow : OpenClaim := { program := "ytldoicmbacppeaa", sum := "170afafac43b38aedfa12035f205c8ab0f21fe44387a2360de5e36dbff0bcc28", func := "temple/templelaw1.SetRules", spec := "setRules", unfollowed := true, recurses := true, apart := false, narrowed := true }
def SetRulesUptoSaid : Prop := setRulesUptoRow.holds Try.pinned (OpenSpec.upto setRulesSpec)

/-- 'templelaw1.SetMembers', WHERE WHAT IT READS IS OF BULK AT MOST 1048576: true; the input reads as it did. -/
def setMembersUptoRow : OpenClaim := { program := "ytldoicmbacppeaa", sum := "170afafac43b38aedfa12035f205c8ab0f21fe44387a2360de5e36dbff0bcc28", func := "temple/templelaw1.SetMembers", spec := "setMembers", unfollowed := true, recurses := true, apart := false, narrowed := true }
def SetMembersUptoSaid : Prop := setMembersUptoRow.holds Try.pinned (OpenSpec.upto setMembersSpec)

/-- 'templelaw1.SetLaws', WHERE WHAT IT READS IS OF BULK AT MOST 1048576: true; the input reads as it did. -/
def setLawsUptoRow : OpenClaim := { program := "ytldoicmbacppeaa", sum := "170afafac43b38aedfa12035f205c8ab0f21fe44387a2360de5e36dbff0bcc28", func := "temple/templelaw1.SetLaws", spec := "setLaws", unfollowed := true, recurses := true, apart := false, narrowed := true }
def SetLawsUptoSaid : Prop := setLawsUptoRow.holds Try.pinned (OpenSpec.upto setLawsSpec)

/-- 'templelaw1.SetBits', WHERE WHAT IT READS IS OF BULK AT MOST 1048576: true; the input reads as it did. -/
def setBitsUptoRow : OpenClaim := { program := "ytldoicmbacppeaa", sum := "170afafac43b38aedfa12035f205c8ab0f21fe44387a2360de5e36dbff0bcc28", func := "temple/templelaw1.SetBits", spec := "setBits", unfollowed := true, recurses := true, apart := false, narrowed := true }
def SetBitsUptoSaid : Prop := setBitsUptoRow.holds Try.pinned (OpenSpec.upto setBitsSpec)

/-- 'templelaw1.SetRuns', WHERE WHAT IT READS IS OF BULK AT MOST 1048576: true; the input reads as it did. -/
def setRunsUptoRow : OpenClaim := { program := "ytldoicmbacppeaa", sum := "170afafac43b38aedfa12035f205c8ab0f21fe44387a2360de5e36dbff0bcc28", func := "temple/templelaw1.SetRuns", spec := "setRuns", unfollowed := true, recurses := true, apart := false, narrowed := true }
def SetRunsUptoSaid : Prop := setRunsUptoRow.holds Try.pinned (OpenSpec.upto setRunsSpec)

/-- 'templelaw1.SetSplits', WHERE WHAT IT READS IS OF BULK AT MOST 1048576: true; the input reads as it did. -/
def setSplitsUptoRow : OpenClaim := { program := "ytldoicmbacppeaa", sum := "170afafac43b38aedfa12035f205c8ab0f21fe44387a2360de5e36dbff0bcc28", func := "temple/templelaw1.SetSplits", spec := "setSplits", unfollowed := true, recurses := true, apart := false, narrowed := true }
def SetSplitsUptoSaid : Prop := setSplitsUptoRow.holds Try.pinned (OpenSpec.upto setSplitsSpec)

end Rows
end Go.Proofs.Ytldoicmbacppeaa
