/- Layer 5, plain: small things. -/
import Derived.Test.YtimmkmfcpfjgfaaPSUx6
namespace Go.Proofs.Ytimmkmfcpfjgfaa.PSU
open Go.RowKit Go.Proofs.YtimmkmfcpfjgfaaW.PrintWords Go.Proofs.YtimmkmfcpfjgfaaW.PrintLast
set_option linter.unusedVariables false
set_option maxRecDepth 100000 in
theorem awake5 : templelaw5_awake.f = some true := by decide +kernel
theorem st_bind {α β : Type} {o : Option α} {f : α → Option β} {a : α} {r : Option β} (h : o = some a) (g : f a = r) : o.bind f = r := by
  rw [h, Option.bind_some]
  exact g
theorem st_pos {α : Type} {c : Prop} [Decidable c] {A B r : α} (h : c) (g : A = r) : (if c then A else B) = r := (if_pos h).trans g
theorem st_neg {α : Type} {c : Prop} [Decidable c] {A B r : α} (h : ¬ c) (g : B = r) : (if c then A else B) = r := (if_neg h).trans g
theorem sz1 (c : UInt8) : ByteArray.size ⟨#[c]⟩ = 1 := rfl
theorem dl_append (a b : ByteArray) : (a ++ b).data.toList = a.data.toList ++ b.data.toList := by rw [ByteArray.data_append, Array.toList_append]
theorem sepT_append {α : Type} (sep : List UInt8) (f : α → List UInt8) (xs : List α) (y : α) : sepT sep f (xs ++ [y]) = sepT sep f xs ++ ((if xs = [] then [] else sep) ++ f y) := by
  cases xs with
  | nil => simp [sepT]
  | cons x xs =>
    rw [List.cons_append, sepT_cons, sepT_cons, List.flatMap_append]
    simp
theorem toList_ne {t : ByteArray} (h : 0 < t.size) : ¬ t.toList = [] := fun e => by
  have := toList_nil.1 e
  omega
end Go.Proofs.Ytimmkmfcpfjgfaa.PSU
