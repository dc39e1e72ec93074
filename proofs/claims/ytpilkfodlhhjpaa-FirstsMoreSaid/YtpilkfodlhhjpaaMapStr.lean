import Derived.Below
import Derived.WalkKit
import Derived.Test.YtpilkfodlhhjpaaWWords
set_option linter.unusedVariables false
namespace Go.Proofs.Ytpilkfodlhhjpaa
open Go.RowKit Go.Proofs.YtpilkfodlhhjpaaW.PrintWords
section
variable {P : Program} {w : World}
def MapIs (w : World) (r : Nat) (xs : List (ByteArray × Value)) : Prop :=
  ∃ es clock, w.heap[r]? = some (.map es clock) ∧ es.toList.map (fun e : MapEntry => (e.key, e.val)) = xs.map (fun x => (Value.string x.1, x.2))
def assoc (xs : List (ByteArray × Value)) (s : ByteArray) : Option Value := (xs.find? (fun x => s == x.1)).map (·.2)
theorem findNow_str (s : ByteArray) : ∀ (es : List MapEntry) (xs : List (ByteArray × Value)) (i : Nat), es.map (fun e : MapEntry => (e.key, e.val)) = xs.map (fun x => (Value.string x.1, x.2)) →
    ∃ j, Instr.findNow .string (.string s) es i = some ((assoc xs s).map (fun v => (j, v)))
  | [], xs, i, h => by
    have : xs = [] := by simpa using h.symm
    subst this
    exact ⟨0, rfl⟩
  | e :: es, [], i, h => by simp at h
  | e :: es, x :: xs, i, h => by
    simp only [List.map_cons, List.cons.injEq, Prod.mk.injEq] at h
    obtain ⟨⟨h1, h2⟩, h3⟩ := h
    unfold Instr.findNow
    rw [h1]
    simp only [Instr.sameNow]
    unfold assoc
    rw [List.find?_cons]
    by_cases hs : (s == x.1) = true
    · rw [hs]
      exact ⟨i, by simp [h2]⟩
    · have hs' : (s == x.1) = false := by simpa using hs
      rw [hs']
      exact findNow_str s es xs (i + 1) h3
theorem run_checkKey_str (empty : Bool) {k : TypeId} (hk : P.underlying k = some .string) (s : ByteArray) (w : World) : (Instr.checkKey empty 10000 k (.string s)).run P w = .ok () w := by
  unfold Instr.checkKey
  simp [Sem.run_bind, run_underlying hk]
theorem run_findKey_str {k : TypeId} (hk : P.underlying k = some .string) (s : ByteArray) (es : List MapEntry) (xs : List (ByteArray × Value)) (h : es.map (fun e : MapEntry => (e.key, e.val)) = xs.map (fun x => (Value.string x.1, x.2))) (w : World) :
    ∃ j, (Instr.findKey k (.string s) es).run P w = .ok ((assoc xs s).map (fun v => (j, v))) w := by
  obtain ⟨j, hj⟩ := findNow_str s es xs 0 h
  refine ⟨j, ?_⟩
  unfold Instr.findKey
  simp only [Sem.run_bind, run_underlying hk, Result.andThen_ok]
  rw [hj]
  rfl
theorem run_lookup_str {t k e : TypeId} {z : Value} (ht : P.underlying t = some (.map k e)) (hk : P.underlying k = some .string) {i : TypeInfo} (hi : P.info? e = some i) (hz : i.zero = some z) {r : Nat} {xs : List (ByteArray × Value)} (h : MapIs w r xs) (s : ByteArray) :
    (Instr.lookup t (.map (some r)) (.string s) false).run P w = .ok ((assoc xs s).getD z) w := by
  obtain ⟨es, clock, hr, hx⟩ := h
  obtain ⟨j, hj⟩ := run_findKey_str (P := P) hk s es.toList xs hx w
  unfold Instr.lookup
  simp only [Sem.run_bind, run_underlying ht, Result.andThen_ok]
  have hg : (getObj r).run P w = .ok (.map es clock) w := by simp [getObj, Sem.run, hr]
  simp only [hg, Result.andThen_ok, Sem.run_bind, Sem.run_pure, run_checkKey_str _ hk, hj]
  cases assoc xs s with
  | none => simp [zeroValue, typeInfo, hi, hz]
  | some v => simp
theorem run_update_str {t k e : TypeId} (ht : P.underlying t = some (.map k e)) (hk : P.underlying k = some .string) {r : Nat} {xs : List (ByteArray × Value)} (h : MapIs w r xs) (s : ByteArray) (v : Value) (hn : assoc xs s = none) :
    ∃ w', (Instr.mapUpdate t (.map (some r)) (.string s) v).run P w = .ok () w' ∧ MapIs w' r (xs ++ [(s, v)]) ∧ (∀ B, B ≤ r → Below B w w') ∧ ∀ b, b ≠ r → w'.heap[b]? = w.heap[b]? := by
  obtain ⟨es, clock, hr, hx⟩ := h
  obtain ⟨j, hj⟩ := run_findKey_str (P := P) hk s es.toList xs hx w
  have hlt : r < w.heap.size := (Array.getElem?_eq_some_iff.1 hr).1
  refine ⟨{ w with heap := w.heap.setIfInBounds r (.map (es.push { key := .string s, val := v, born := clock }) (clock + 1)) }, ?_, ⟨es.push { key := .string s, val := v, born := clock }, clock + 1, by simp [hlt], ?_⟩, fun B hB => ⟨rfl, rfl, rfl, ?_, fun i hi => ?_⟩, fun b hb => ?_⟩
  · unfold Instr.mapUpdate
    simp only [Sem.run_bind, run_underlying ht, Result.andThen_ok]
    have hg : (getObj r).run P w = .ok (.map es clock) w := by simp [getObj, Sem.run, hr]
    rw [hn] at hj
    simp only [hg, Result.andThen_ok, Sem.run_bind, run_checkKey_str _ hk, hj, Option.map_none]
    simp [setObj, Sem.run, hr]
  · rw [Array.toList_push, List.map_append, List.map_append, hx]
    rfl
  · simp
  · have hb : ¬ r = i := by omega
    simp [hb]
  · simp [Ne.symm hb]
end
end Go.Proofs.Ytpilkfodlhhjpaa
