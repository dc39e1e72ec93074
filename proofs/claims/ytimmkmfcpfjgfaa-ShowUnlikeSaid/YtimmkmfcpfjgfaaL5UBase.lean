/- Plain: small facts on grammars, for seats whose laws don't reach the document's May. -/
import Derived.Test.YtimmkmfcpfjgfaaPSUx3
import Derived.Test.YtimmkmfcpfjgfaaPSUx6
import Derived.Test.YtimmkmfcpfjgfaaPSUx5
import Derived.Test.YtimmkmfcpfjgfaaPSUx5
import Derived.Test.YtimmkmfcpfjgfaaPSUx5
namespace Go.Proofs.Ytimmkmfcpfjgfaa.PSU
open Go.RowKit Go.Proofs.YtimmkmfcpfjgfaaW.PrintWords Go.Proofs.YtimmkmfcpfjgfaaW.PrintLast
set_option linter.unusedVariables false
set_option linter.unusedSimpArgs false
theorem contains_mem (l : List ByteArray) (x : ByteArray) : l.contains x = true ↔ x ∈ l := by
  have h1 : ∀ a : ByteArray, (a == a) = true := fun a => by
    cases a
    exact BEq.rfl (α := Array UInt8)
  have h2 : ∀ a b : ByteArray, (a == b) = true → a = b := fun a b h => by
    cases a
    cases b
    congr 1
    exact eq_of_beq (α := Array UInt8) h
  have : ReflBEq ByteArray := ⟨h1 _⟩
  have : LawfulBEq ByteArray := { eq_of_beq := h2 _ _ }
  exact List.contains_iff_mem
theorem wrap_nat (i : Nat) (h : i < 9223372036854775807) : wrap64 ((i : Int) + 1) = ((i + 1 : Nat) : Int) := by unfold wrap64; omega
theorem rd_str (l : List ByteArray) (i : Nat) (h : i < l.length) : rdOf ByteArray.empty l (i : Int) = l[i] := by
  unfold rdOf
  rw [Int.toNat_natCast, List.getD_eq_getElem?_getD, List.getElem?_eq_getElem h]
  rfl
def gramSized (nm : List ByteArray) (rs : List S44) : Prop :=
  nm.length < 8796093022208 ∧ rs.length < 4398046511104 ∧ ∀ r ∈ rs, r.f1.length < 4398046511104 ∧ ∀ c ∈ r.f1, c.f1.length < 5864062014805
end Go.Proofs.Ytimmkmfcpfjgfaa.PSU
