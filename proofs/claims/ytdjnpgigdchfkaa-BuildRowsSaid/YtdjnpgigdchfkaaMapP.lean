import Derived.Test.YtdjnpgigdchfkaaMapStr
set_option linter.unusedVariables false
namespace Go.Proofs.Ytdjnpgigdchfkaa
open Go.RowKit Go.Proofs.YtdjnpgigdchfkaaW.PrintWords
abbrev MapP := List (ByteArray × Int)
def mapVals (m : MapP) : List (ByteArray × Value) := m.map (fun x => (x.1, Value.int .i64 x.2))
def mfind (m : MapP) (s : ByteArray) : Option Int := (m.find? (fun x => s == x.1)).map (·.2)
def mget (m : MapP) (s : ByteArray) : Int := (mfind m s).getD 0
theorem assoc_vals (s : ByteArray) : ∀ m : MapP, assoc (mapVals m) s = (mfind m s).map (fun n => Value.int .i64 n)
  | [] => rfl
  | x :: m => by
    have ih := assoc_vals s m
    unfold assoc mfind mapVals at ih ⊢
    rw [List.map_cons, List.find?_cons, List.find?_cons]
    cases s == x.1 with
    | true => rfl
    | false => exact ih
theorem mapIs_below {w w1 : World} {B r : Nat} {xs : List (ByteArray × Value)} (h : MapIs w r xs) (hb : Below B w w1) (hr : r < B) : MapIs w1 r xs := by
  obtain ⟨es, clock, e1, e2⟩ := h
  exact ⟨es, clock, (hb.block r hr).trans e1, e2⟩
theorem mapIs_lt {w : World} {r : Nat} {xs : List (ByteArray × Value)} (h : MapIs w r xs) : r < w.heap.size := by
  obtain ⟨es, clock, e1, e2⟩ := h
  exact (Array.getElem?_eq_some_iff.1 e1).1
theorem mapIs_step {w w1 : World} {r : Nat} {xs : List (ByteArray × Value)} (h : MapIs w r xs) (hb : Below w.heap.size w w1) : MapIs w1 r xs := mapIs_below h hb (mapIs_lt h)
theorem mapIs_far {w : World} {r : Nat} {xs : List (ByteArray × Value)} (h : MapIs w r xs) {p : Addr} (hne : r ≠ p.block) (u : Value) : MapIs (w.setCell p u) r xs := by
  obtain ⟨es, clock, e1, e2⟩ := h
  exact ⟨es, clock, (Below.heap_setCell w p u r hne).trans e1, e2⟩
theorem mapVals_snoc (m : MapP) (s : ByteArray) (n : Int) : mapVals m ++ [(s, Value.int .i64 n)] = mapVals (m ++ [(s, n)]) := by simp [mapVals]
section
variable {P : Program} {w : World} {t k e : TypeId} {i : TypeInfo} {g : Nat} {m : MapP}
theorem look_int (ht : P.underlying t = some (.map k e)) (hk : P.underlying k = some .string) (hi : P.info? e = some i) (hz : i.zero = some (.int .i64 0)) (h : MapIs w g (mapVals m)) (s : ByteArray) :
    (Instr.lookup t (.map (some g)) (.string s) false).run P w = .ok (.int .i64 (mget m s)) w := by
  rw [run_lookup_str ht hk hi hz h s, assoc_vals]
  unfold mget
  cases mfind m s <;> rfl
theorem look_int_ok (ht : P.underlying t = some (.map k e)) (hk : P.underlying k = some .string) (hi : P.info? e = some i) (hz : i.zero = some (.int .i64 0)) (h : MapIs w g (mapVals m)) (s : ByteArray) :
    (Instr.lookup t (.map (some g)) (.string s) true).run P w = .ok (.tuple #[.int .i64 (mget m s), .bool (mfind m s).isSome]) w := by
  rw [run_lookup_str_ok ht hk hi hz h s, assoc_vals]
  unfold mget
  cases mfind m s <;> rfl
end
end Go.Proofs.Ytdjnpgigdchfkaa
