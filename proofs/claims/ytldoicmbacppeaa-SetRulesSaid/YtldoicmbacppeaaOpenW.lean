/- A set of bytes (four words) that came in, laid open. -/
import Derived.Test.YtldoicmbacppeaaBits
import Derived.OpenShut
import Derived.ChangeOld
import Derived.WideShapes
set_option linter.unusedVariables false
namespace Go.Proofs.Ytldoicmbacppeaa
section
variable {H : Type} {enc : TypeId × Value → H} {P : Program} {w : World} {base : Nat} {spare : Nat → Bool} {held : Bool}
theorem list_four {cs : List Value} (h : cs.length = 4) : ∃ a b c d, cs = [a, b, c, d] := by
  match cs, h with
  | [a, b, c, d], _ => exact ⟨a, b, c, d, rfl⟩
theorem isw_of_wf {n : Int} (h : (Lit.int .u64 n).wf = true) : isw n := by
  simp [Lit.wf, IntKind.min, IntKind.max, IntKind.signed, IntKind.bits] at h
  unfold isw
  omega
theorem open_words {r : Reach} {b0 : Nat} {t e : TypeId} {v : Value} {d : DataW H} {ps : List MemPlace} (ht : P.underlying t = some (.array 4 e)) (he : P.underlying e = some (.int .u64)) (hc : P.cellsOf e = 1) (hct : P.cellsOf t = 4)
    (hval : Value.okWide P w r b0 t v) (hd : DataW.Trod enc P w base spare held t v d ps) : ∃ a b c f : Int, v = .agg #[.int .u64 a, .int .u64 b, .int .u64 c, .int .u64 f] ∧ wf4 a b c f := by
  obtain ⟨cs, rfl, hs⟩ : ∃ cs, v = .agg cs ∧ cs.size = P.cellsOf t := by
    simp only [Value.okWide, ht] at hval
    obtain ⟨cs, h1, h2, _⟩ := hval
    exact ⟨cs, h1, h2⟩
  obtain ⟨fuel, hf⟩ := hd
  obtain ⟨xs, m, _, _, hl, hxl, hx⟩ := DataW.trod_array ht hf
  rw [hct] at hl
  have hl' : cs.toList.length = 4 := hl
  obtain ⟨v0, v1, v2, v3, hcs⟩ := list_four hl'
  have e0 : cs = #[v0, v1, v2, v3] := by
    cases cs
    simp at hcs
    simp [hcs]
  subst e0
  have key : ∀ i u, i < 4 → (([v0, v1, v2, v3] : List Value).drop (i * 1)).take 1 = [u] → ∃ n : Int, u = .int .u64 n ∧ isw n := by
    intro i u hi hu
    have h := hx i hi
    rw [hc] at h
    rw [show (Value.agg #[v0, v1, v2, v3]).cells.toList = [v0, v1, v2, v3] from rfl, hu] at h
    obtain ⟨y, hy⟩ : ∃ y, xs[i]? = some y := ⟨xs[i]'(by omega), List.getElem?_eq_getElem (by omega)⟩
    rw [hy] at h
    obtain ⟨n, hn, _, hw⟩ := DataW.trod_int he h
    simp only [List.cons.injEq, and_true] at hn
    exact ⟨n, hn, isw_of_wf hw⟩
  obtain ⟨a, rfl, ha⟩ := key 0 v0 (by omega) rfl
  obtain ⟨b, rfl, hb⟩ := key 1 v1 (by omega) rfl
  obtain ⟨c, rfl, hcc⟩ := key 2 v2 (by omega) rfl
  obtain ⟨f, rfl, hff⟩ := key 3 v3 (by omega) rfl
  exact ⟨a, b, c, f, rfl, ha, hb, hcc, hff⟩
end
end Go.Proofs.Ytldoicmbacppeaa
