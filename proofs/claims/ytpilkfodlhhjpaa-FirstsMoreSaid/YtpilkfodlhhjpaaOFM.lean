import Derived.Test.YtpilkfodlhhjpaaOpens
import Derived.Test.YtpilkfodlhhjpaaPFMx0
set_option linter.unusedVariables false
namespace Go.Proofs.Ytpilkfodlhhjpaa.PFM
open Go.RowKit Go.WideShapes Go.Proofs.YtpilkfodlhhjpaaW.PrintWords
def G68 (x : S68) : Prop := (Lit.int .i64 x.f0).wf = true ∧ (Lit.int .i64 x.f1).wf = true ∧ (Lit.int .i64 x.f2).wf = true
def B68 (x : S68) : Nat := 1 + (1 + (1)) + 1
theorem op68 : Opens Try.prog 68 k68 G68 B68 :=
  opens_iso (opens_struct (fields_cons (opens_int Try.underlying3 (by kernel_rfl)) (fields_cons (opens_int Try.underlying3 (by kernel_rfl)) (fields_one (opens_int Try.underlying3 (by kernel_rfl))))) Try.underlying68 (by kernel_rfl) (by kernel_rfl) (by kernel_rfl)) (fun x : S68 => (x.f0, x.f1, x.f2)) (fun y => ⟨y.1, y.2.1, y.2.2⟩) (fun _ => rfl)
def G58 (x : S58) : Prop := True ∧ (x.f1.length * 24 ≤ 140737488351232 ∧ ∀ y ∈ x.f1, G68 y)
def B58 (x : S58) : Nat := 1 + (((x.f1.map (fun y => B68 y)).sum + 1)) + 1
theorem op58 : Opens Try.prog 58 k58 G58 B58 :=
  opens_iso (opens_struct (fields_cons (opens_bool Try.underlying4 (by kernel_rfl)) (fields_one (opens_slice op68 Try.underlying56 (by kernel_rfl) (by kernel_rfl)))) Try.underlying58 (by kernel_rfl) (by kernel_rfl) (by kernel_rfl)) (fun x : S58 => (x.f0, x.f1)) (fun y => ⟨y.1, y.2⟩) (fun _ => rfl)
def G55 (x : S55) : Prop := (Lit.int .i64 x.f0).wf = true ∧ (x.f1.length * 32 ≤ 140737488351232 ∧ ∀ y ∈ x.f1, G58 y)
def B55 (x : S55) : Nat := 1 + (((x.f1.map (fun y => B58 y)).sum + 1)) + 1
theorem op55 : Opens Try.prog 55 k55 G55 B55 :=
  opens_iso (opens_struct (fields_cons (opens_int Try.underlying3 (by kernel_rfl)) (fields_one (opens_slice op58 Try.underlying53 (by kernel_rfl) (by kernel_rfl)))) Try.underlying55 (by kernel_rfl) (by kernel_rfl) (by kernel_rfl)) (fun x : S55 => (x.f0, x.f1)) (fun y => ⟨y.1, y.2⟩) (fun _ => rfl)
def G25 (a0 : Int) (l1 : (List ByteArray)) (l2 : (List S55)) : Prop := (Lit.int .i64 a0).wf = true ∧ (l1.length * 16 ≤ 140737488351232 ∧ ∀ y ∈ l1, y.size ≤ 140737488351232) ∧ (l2.length * 32 ≤ 140737488351232 ∧ ∀ y ∈ l2, G55 y)
set_option maxRecDepth 100000 in
theorem open25 {H : Type} {enc : TypeId × Value → H} {w : World} {base : Nat} {spare : Nat → Bool} {held : Bool} {r : Reach} {b0 : Nat} {v : Value} {d : DataW H} {ps : List MemPlace} (hval : Value.okWide Try.prog w r b0 25 v) (hd : DataW.Trod enc Try.prog w base spare held 25 v d ps) (hw : ∀ n ∈ d.weights Try.prog 25, n ≤ reachBytes) :
    ∃ (a0 : Int) (A1 : Option Addr) (c1 : Nat) (l1 : (List ByteArray)) (A2 : Option Addr) (c2 : Nat) (l2 : (List S55)), v = .agg #[.int .i64 a0, .slice A1 l1.length c1, .slice A2 l2.length c2] ∧ Kd.C Kd.string w A1 l1.length l1 ∧ l1.length ≤ c1 ∧ Kd.C k55 w A2 l2.length l2 ∧ l2.length ≤ c2 ∧  G25 a0 l1 l2 ∧ 1 + (((l1.map (fun y => (y.size + 1))).sum + 1) + (((l2.map (fun y => B55 y)).sum + 1))) + 1 ≤ Rows.uptoBulk d := by
  obtain ⟨cs, rfl, _⟩ := okWide_struct Try.underlying25 hval
  obtain ⟨fuel, hf⟩ := hd
  obtain ⟨⟨a0, l1, l2⟩, ⟨_, _, e, rfl, ⟨_, _, rfl, ⟨A1, c1, rfl, hc1, hC1⟩, ⟨A2, c2, rfl, hc2, hC2⟩⟩⟩, hG, hB⟩ := (opens_struct (fields_cons (opens_int Try.underlying3 (by kernel_rfl)) (fields_cons (opens_slice (opens_string Try.underlying9 (by kernel_rfl)) Try.underlying22 (by kernel_rfl) (by kernel_rfl)) (fields_one (opens_slice op55 Try.underlying23 (by kernel_rfl) (by kernel_rfl))))) Try.underlying25 (by kernel_rfl) (by kernel_rfl) (by kernel_rfl)).2 H enc w base spare held fuel _ _ hf hw
  exact ⟨a0, A1, c1, l1, A2, c2, l2, congrArg Value.agg (Array.ext' e), hC1, hc1, hC2, hc2,  hG, hB⟩
def GP58 (a0 : Bool) (l1 : (List S68)) : Prop := True ∧ (l1.length * 24 ≤ 140737488351232 ∧ ∀ y ∈ l1, G68 y)
set_option maxRecDepth 100000 in
theorem open58 {H : Type} {enc : TypeId × Value → H} {w : World} {base : Nat} {spare : Nat → Bool} {held : Bool} {r : Reach} {b0 : Nat} {v : Value} {d : DataW H} {ps : List MemPlace} (hval : Value.okWide Try.prog w r b0 58 v) (hd : DataW.Trod enc Try.prog w base spare held 58 v d ps) (hw : ∀ n ∈ d.weights Try.prog 58, n ≤ reachBytes) :
    ∃ (a0 : Bool) (A1 : Option Addr) (c1 : Nat) (l1 : (List S68)), v = .agg #[.bool a0, .slice A1 l1.length c1] ∧ Kd.C k68 w A1 l1.length l1 ∧ l1.length ≤ c1 ∧  GP58 a0 l1 ∧ 1 + (((l1.map (fun y => B68 y)).sum + 1)) + 1 ≤ Rows.uptoBulk d := by
  obtain ⟨cs, rfl, _⟩ := okWide_struct Try.underlying58 hval
  obtain ⟨fuel, hf⟩ := hd
  obtain ⟨⟨a0, l1⟩, ⟨_, _, e, rfl, ⟨A1, c1, rfl, hc1, hC1⟩⟩, hG, hB⟩ := (opens_struct (fields_cons (opens_bool Try.underlying4 (by kernel_rfl)) (fields_one (opens_slice op68 Try.underlying56 (by kernel_rfl) (by kernel_rfl)))) Try.underlying58 (by kernel_rfl) (by kernel_rfl) (by kernel_rfl)).2 H enc w base spare held fuel _ _ hf hw
  exact ⟨a0, A1, c1, l1, congrArg Value.agg (Array.ext' e), hC1, hc1,  hG, hB⟩
end Go.Proofs.Ytpilkfodlhhjpaa.PFM
