import Derived.Test.YtpilkfodlhhjpaaOpens
import Derived.Test.YtpilkfodlhhjpaaPFRx0
set_option linter.unusedVariables false
namespace Go.Proofs.Ytpilkfodlhhjpaa.PFR
open Go.RowKit Go.WideShapes Go.Proofs.YtpilkfodlhhjpaaW.PrintWords
set_option maxRecDepth 100000 in
theorem open72 {H : Type} {enc : TypeId × Value → H} {w : World} {base : Nat} {spare : Nat → Bool} {held : Bool} {r : Reach} {b0 : Nat} {v : Value} {d : DataW H} {ps : List MemPlace} (hval : Value.okWide Try.prog w r b0 72 v) (hd : DataW.Trod enc Try.prog w base spare held 72 v d ps) (hw : ∀ n ∈ d.weights Try.prog 72, n ≤ reachBytes) :
    ∃ (A : Option Addr) (c : Nat) (l : (List Int)), v = .slice A l.length c ∧ Kd.C (Kd.int .i64) w A l.length l ∧ l.length ≤ c ∧ ((l.length * 8 ≤ 140737488351232 ∧ ∀ y ∈ l, (Lit.int .i64 y).wf = true)) ∧ ((l.map (fun y => 1)).sum + 1) ≤ Rows.uptoBulk d := by
  obtain ⟨a, len, cap, rfl⟩ := okWide_slice Try.underlying72 hval
  obtain ⟨fuel, hf⟩ := hd
  obtain ⟨l, ⟨A, c, e, hc, hC⟩, hG, hB⟩ := (opens_slice (opens_int Try.underlying3 (by kernel_rfl)) Try.underlying72 (by kernel_rfl) (by kernel_rfl)).2 H enc w base spare held fuel _ _ hf hw
  have e' : [Value.slice a len cap] = [Value.slice A l.length c] := e
  injection e' with e' _
  exact ⟨A, c, l, e', hC, hc, hG, hB⟩
end Go.Proofs.Ytpilkfodlhhjpaa.PFR
