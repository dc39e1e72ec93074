import Derived.Test.YtdjnpgigdchfkaaOpens
import Derived.Test.YtdjnpgigdchfkaaPBSx0
set_option linter.unusedVariables false
namespace Go.Proofs.Ytdjnpgigdchfkaa.PBS
open Go.RowKit Go.WideShapes Go.Proofs.YtdjnpgigdchfkaaW.PrintWords
def G61 (x : S61) : Prop := (Lit.int .i64 x.f0).wf = true ∧ x.f1.size ≤ 140737488351232 ∧ (Lit.int .i64 x.f2).wf = true ∧ (Lit.int .i64 x.f3).wf = true
def B61 (x : S61) : Nat := 1 + ((x.f1.size + 1) + (1 + (1))) + 1
theorem op61 : Opens Try.prog 61 k61 G61 B61 :=
  opens_iso (opens_struct (fields_cons (opens_int Try.underlying3 (by kernel_rfl)) (fields_cons (opens_string Try.underlying9 (by kernel_rfl)) (fields_cons (opens_int Try.underlying3 (by kernel_rfl)) (fields_one (opens_int Try.underlying3 (by kernel_rfl)))))) Try.underlying61 (by kernel_rfl) (by kernel_rfl) (by kernel_rfl)) (fun x : S61 => (x.f0, x.f1, x.f2, x.f3)) (fun y => ⟨y.1, y.2.1, y.2.2.1, y.2.2.2⟩) (fun _ => rfl)
def G64 (x : S64) : Prop := True ∧ (x.f1.length * 40 ≤ 140737488351232 ∧ ∀ y ∈ x.f1, G61 y)
def B64 (x : S64) : Nat := 1 + (((x.f1.map (fun y => B61 y)).sum + 1)) + 1
theorem op64 : Opens Try.prog 64 k64 G64 B64 :=
  opens_iso (opens_struct (fields_cons (opens_bool Try.underlying4 (by kernel_rfl)) (fields_one (opens_slice op61 Try.underlying62 (by kernel_rfl) (by kernel_rfl)))) Try.underlying64 (by kernel_rfl) (by kernel_rfl) (by kernel_rfl)) (fun x : S64 => (x.f0, x.f1)) (fun y => ⟨y.1, y.2⟩) (fun _ => rfl)
def G45 (x : S45) : Prop := x.f0.size ≤ 140737488351232 ∧ (x.f1.length * 24 ≤ 140737488351232 ∧ ∀ y_y ∈ x.f1, (y_y.length * 32 ≤ 140737488351232 ∧ ∀ y ∈ y_y, G64 y))
def B45 (x : S45) : Nat := (x.f0.size + 1) + (((x.f1.map (fun y_y => ((y_y.map (fun y => B64 y)).sum + 1))).sum + 1)) + 1
theorem op45 : Opens Try.prog 45 k45 G45 B45 :=
  opens_iso (opens_struct (fields_cons (opens_string Try.underlying9 (by kernel_rfl)) (fields_one (opens_slice (opens_slice op64 Try.underlying65 (by kernel_rfl) (by kernel_rfl)) Try.underlying43 (by kernel_rfl) (by kernel_rfl)))) Try.underlying45 (by kernel_rfl) (by kernel_rfl) (by kernel_rfl)) (fun x : S45 => (x.f0, x.f1)) (fun y => ⟨y.1, y.2⟩) (fun _ => rfl)
def G25 (l0 : (List ByteArray)) (l1 : (List S45)) : Prop := (l0.length * 16 ≤ 140737488351232 ∧ ∀ y ∈ l0, y.size ≤ 140737488351232) ∧ (l1.length * 40 ≤ 140737488351232 ∧ ∀ y ∈ l1, G45 y)
set_option maxRecDepth 100000 in
theorem open25 {H : Type} {enc : TypeId × Value → H} {w : World} {base : Nat} {spare : Nat → Bool} {held : Bool} {r : Reach} {b0 : Nat} {v : Value} {d : DataW H} {ps : List MemPlace} (hval : Value.okWide Try.prog w r b0 25 v) (hd : DataW.Trod enc Try.prog w base spare held 25 v d ps) (hw : ∀ n ∈ d.weights Try.prog 25, n ≤ reachBytes) :
    ∃ (A0 : Option Addr) (c0 : Nat) (l0 : (List ByteArray)) (A1 : Option Addr) (c1 : Nat) (l1 : (List S45)), v = .agg #[.slice A0 l0.length c0, .slice A1 l1.length c1] ∧ Kd.C Kd.string w A0 l0.length l0 ∧ l0.length ≤ c0 ∧ Kd.C k45 w A1 l1.length l1 ∧ l1.length ≤ c1 ∧  G25 l0 l1 ∧ ((l0.map (fun y => (y.size + 1))).sum + 1) + (((l1.map (fun y => B45 y)).sum + 1)) + 1 ≤ Rows.uptoBulk d := by
  obtain ⟨cs, rfl, _⟩ := okWide_struct Try.underlying25 hval
  obtain ⟨fuel, hf⟩ := hd
  obtain ⟨⟨l0, l1⟩, ⟨_, _, e, ⟨A0, c0, rfl, hc0, hC0⟩, ⟨A1, c1, rfl, hc1, hC1⟩⟩, hG, hB⟩ := (opens_struct (fields_cons (opens_slice (opens_string Try.underlying9 (by kernel_rfl)) Try.underlying22 (by kernel_rfl) (by kernel_rfl)) (fields_one (opens_slice op45 Try.underlying23 (by kernel_rfl) (by kernel_rfl)))) Try.underlying25 (by kernel_rfl) (by kernel_rfl) (by kernel_rfl)).2 H enc w base spare held fuel _ _ hf hw
  exact ⟨A0, c0, l0, A1, c1, l1, congrArg Value.agg (Array.ext' e), hC0, hc0, hC1, hc1,  hG, hB⟩
def G56 (x : S56) : Prop := (Lit.int .i64 x.f0).wf = true ∧ (Lit.int .i64 x.f1).wf = true ∧ (Lit.int .i64 x.f2).wf = true
def B56 (x : S56) : Nat := 1 + (1 + (1)) + 1
theorem op56 : Opens Try.prog 56 k56 G56 B56 :=
  opens_iso (opens_struct (fields_cons (opens_int Try.underlying3 (by kernel_rfl)) (fields_cons (opens_int Try.underlying3 (by kernel_rfl)) (fields_one (opens_int Try.underlying3 (by kernel_rfl))))) Try.underlying56 (by kernel_rfl) (by kernel_rfl) (by kernel_rfl)) (fun x : S56 => (x.f0, x.f1, x.f2)) (fun y => ⟨y.1, y.2.1, y.2.2⟩) (fun _ => rfl)
def G54 (x : S54) : Prop := True ∧ (x.f1.length * 24 ≤ 140737488351232 ∧ ∀ y ∈ x.f1, G56 y)
def B54 (x : S54) : Nat := 1 + (((x.f1.map (fun y => B56 y)).sum + 1)) + 1
theorem op54 : Opens Try.prog 54 k54 G54 B54 :=
  opens_iso (opens_struct (fields_cons (opens_bool Try.underlying4 (by kernel_rfl)) (fields_one (opens_slice op56 Try.underlying52 (by kernel_rfl) (by kernel_rfl)))) Try.underlying54 (by kernel_rfl) (by kernel_rfl) (by kernel_rfl)) (fun x : S54 => (x.f0, x.f1)) (fun y => ⟨y.1, y.2⟩) (fun _ => rfl)
def G51 (x : S51) : Prop := (Lit.int .i64 x.f0).wf = true ∧ (x.f1.length * 32 ≤ 140737488351232 ∧ ∀ y ∈ x.f1, G54 y)
def B51 (x : S51) : Nat := 1 + (((x.f1.map (fun y => B54 y)).sum + 1)) + 1
theorem op51 : Opens Try.prog 51 k51 G51 B51 :=
  opens_iso (opens_struct (fields_cons (opens_int Try.underlying3 (by kernel_rfl)) (fields_one (opens_slice op54 Try.underlying49 (by kernel_rfl) (by kernel_rfl)))) Try.underlying51 (by kernel_rfl) (by kernel_rfl) (by kernel_rfl)) (fun x : S51 => (x.f0, x.f1)) (fun y => ⟨y.1, y.2⟩) (fun _ => rfl)
def G28 (a0 : Int) (l1 : (List ByteArray)) (l2 : (List S51)) : Prop := (Lit.int .i64 a0).wf = true ∧ (l1.length * 16 ≤ 140737488351232 ∧ ∀ y ∈ l1, y.size ≤ 140737488351232) ∧ (l2.length * 32 ≤ 140737488351232 ∧ ∀ y ∈ l2, G51 y)
set_option maxRecDepth 100000 in
theorem open28 {H : Type} {enc : TypeId × Value → H} {w : World} {base : Nat} {spare : Nat → Bool} {held : Bool} {r : Reach} {b0 : Nat} {v : Value} {d : DataW H} {ps : List MemPlace} (hval : Value.okWide Try.prog w r b0 28 v) (hd : DataW.Trod enc Try.prog w base spare held 28 v d ps) (hw : ∀ n ∈ d.weights Try.prog 28, n ≤ reachBytes) :
    ∃ (a0 : Int) (A1 : Option Addr) (c1 : Nat) (l1 : (List ByteArray)) (A2 : Option Addr) (c2 : Nat) (l2 : (List S51)), v = .agg #[.int .i64 a0, .slice A1 l1.length c1, .slice A2 l2.length c2] ∧ Kd.C Kd.string w A1 l1.length l1 ∧ l1.length ≤ c1 ∧ Kd.C k51 w A2 l2.length l2 ∧ l2.length ≤ c2 ∧  G28 a0 l1 l2 ∧ 1 + (((l1.map (fun y => (y.size + 1))).sum + 1) + (((l2.map (fun y => B51 y)).sum + 1))) + 1 ≤ Rows.uptoBulk d := by
  obtain ⟨cs, rfl, _⟩ := okWide_struct Try.underlying28 hval
  obtain ⟨fuel, hf⟩ := hd
  obtain ⟨⟨a0, l1, l2⟩, ⟨_, _, e, rfl, ⟨_, _, rfl, ⟨A1, c1, rfl, hc1, hC1⟩, ⟨A2, c2, rfl, hc2, hC2⟩⟩⟩, hG, hB⟩ := (opens_struct (fields_cons (opens_int Try.underlying3 (by kernel_rfl)) (fields_cons (opens_slice (opens_string Try.underlying9 (by kernel_rfl)) Try.underlying22 (by kernel_rfl) (by kernel_rfl)) (fields_one (opens_slice op51 Try.underlying26 (by kernel_rfl) (by kernel_rfl))))) Try.underlying28 (by kernel_rfl) (by kernel_rfl) (by kernel_rfl)).2 H enc w base spare held fuel _ _ hf hw
  exact ⟨a0, A1, c1, l1, A2, c2, l2, congrArg Value.agg (Array.ext' e), hC1, hc1, hC2, hc2,  hG, hB⟩
end Go.Proofs.Ytdjnpgigdchfkaa.PBS
