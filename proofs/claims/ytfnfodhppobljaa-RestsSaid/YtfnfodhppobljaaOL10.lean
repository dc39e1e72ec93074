/- Openers for the laws' parameters: written by wip/opgen.py. -/
import Derived.Test.YtfnfodhppobljaaOpens
import Derived.Test.YtfnfodhppobljaaPL10x0
set_option linter.unusedVariables false
namespace Go.Proofs.Ytfnfodhppobljaa.PL10
open Go.RowKit Go.WideShapes Go.Proofs.YtfnfodhppobljaaW.PrintWords
def G51 (x : S51) : Prop := (Lit.int .i64 x.f0).wf = true ∧ (Lit.int .i64 x.f1).wf = true ∧ (Lit.int .i64 x.f2).wf = true
def B51 (x : S51) : Nat := 1 + (1 + (1)) + 1
theorem op51 : Opens Try.prog 51 k51 G51 B51 :=
  opens_iso (opens_struct (fields_cons (opens_int Try.underlying3 (by kernel_rfl)) (fields_cons (opens_int Try.underlying3 (by kernel_rfl)) (fields_one (opens_int Try.underlying3 (by kernel_rfl))))) Try.underlying51 (by kernel_rfl) (by kernel_rfl) (by kernel_rfl)) (fun x : S51 => (x.f0, x.f1, x.f2)) (fun y => ⟨y.1, y.2.1, y.2.2⟩) (fun _ => rfl)
def G45 (x : S45) : Prop := True ∧ (x.f1.length * 24 ≤ 140737488351232 ∧ ∀ y ∈ x.f1, G51 y)
def B45 (x : S45) : Nat := 1 + (((x.f1.map (fun y => B51 y)).sum + 1)) + 1
theorem op45 : Opens Try.prog 45 k45 G45 B45 :=
  opens_iso (opens_struct (fields_cons (opens_bool Try.underlying4 (by kernel_rfl)) (fields_one (opens_slice op51 Try.underlying43 (by kernel_rfl) (by kernel_rfl)))) Try.underlying45 (by kernel_rfl) (by kernel_rfl) (by kernel_rfl)) (fun x : S45 => (x.f0, x.f1)) (fun y => ⟨y.1, y.2⟩) (fun _ => rfl)
def G42 (x : S42) : Prop := (Lit.int .i64 x.f0).wf = true ∧ (x.f1.length * 32 ≤ 140737488351232 ∧ ∀ y ∈ x.f1, G45 y)
def B42 (x : S42) : Nat := 1 + (((x.f1.map (fun y => B45 y)).sum + 1)) + 1
theorem op42 : Opens Try.prog 42 k42 G42 B42 :=
  opens_iso (opens_struct (fields_cons (opens_int Try.underlying3 (by kernel_rfl)) (fields_one (opens_slice op45 Try.underlying40 (by kernel_rfl) (by kernel_rfl)))) Try.underlying42 (by kernel_rfl) (by kernel_rfl) (by kernel_rfl)) (fun x : S42 => (x.f0, x.f1)) (fun y => ⟨y.1, y.2⟩) (fun _ => rfl)
def G25 (a0 : Int) (l1 : (List ByteArray)) (l2 : (List S42)) : Prop := (Lit.int .i64 a0).wf = true ∧ (l1.length * 16 ≤ 140737488351232 ∧ ∀ y ∈ l1, y.size ≤ 140737488351232) ∧ (l2.length * 32 ≤ 140737488351232 ∧ ∀ y ∈ l2, G42 y)
theorem open25 {H : Type} {enc : TypeId × Value → H} {w : World} {base : Nat} {spare : Nat → Bool} {held : Bool} {r : Reach} {b0 : Nat} {v : Value} {d : DataW H} {ps : List MemPlace} (hval : Value.okWide Try.prog w r b0 25 v) (hd : DataW.Trod enc Try.prog w base spare held 25 v d ps) (hw : ∀ n ∈ d.weights Try.prog 25, n ≤ reachBytes) :
    ∃ (a0 : Int) (A1 : Option Addr) (c1 : Nat) (l1 : (List ByteArray)) (A2 : Option Addr) (c2 : Nat) (l2 : (List S42)), v = .agg #[.int .i64 a0, .slice A1 l1.length c1, .slice A2 l2.length c2] ∧ Kd.C Kd.string w A1 l1.length l1 ∧ l1.length ≤ c1 ∧ Kd.C k42 w A2 l2.length l2 ∧ l2.length ≤ c2 ∧  G25 a0 l1 l2 ∧ 1 + (((l1.map (fun y => (y.size + 1))).sum + 1) + (((l2.map (fun y => B42 y)).sum + 1))) + 1 ≤ Rows.uptoBulk d := by
  obtain ⟨cs, rfl, _⟩ := okWide_struct Try.underlying25 hval
  obtain ⟨fuel, hf⟩ := hd
  obtain ⟨⟨a0, l1, l2⟩, ⟨_, _, e, rfl, ⟨_, _, rfl, ⟨A1, c1, rfl, hc1, hC1⟩, ⟨A2, c2, rfl, hc2, hC2⟩⟩⟩, hG, hB⟩ := (opens_struct (fields_cons (opens_int Try.underlying3 (by kernel_rfl)) (fields_cons (opens_slice (opens_string Try.underlying9 (by kernel_rfl)) Try.underlying22 (by kernel_rfl) (by kernel_rfl)) (fields_one (opens_slice op42 Try.underlying23 (by kernel_rfl) (by kernel_rfl))))) Try.underlying25 (by kernel_rfl) (by kernel_rfl) (by kernel_rfl)).2 H enc w base spare held fuel _ _ hf hw
  exact ⟨a0, A1, c1, l1, A2, c2, l2, congrArg Value.agg (Array.ext' e), hC1, hc1, hC2, hc2,  hG, hB⟩
end Go.Proofs.Ytfnfodhppobljaa.PL10
