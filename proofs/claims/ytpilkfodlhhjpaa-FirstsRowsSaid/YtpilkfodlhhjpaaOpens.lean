import Derived.Test.YtpilkfodlhhjpaaRows
import Derived.Test.YtpilkfodlhhjpaaWWords
import Derived.OpenShut
import Derived.ChangeOld
import Derived.WideShapes
set_option linter.unusedVariables false
namespace Go.Proofs.Ytpilkfodlhhjpaa
open Go.Proofs.YtpilkfodlhhjpaaW.PrintWords
def Opens {α : Type} (P : Program) (t : TypeId) (d : Kd α) (G : α → Prop) (B : α → Nat) : Prop :=
  P.cellsOf t = d.sz ∧ ∀ (H : Type) (enc : TypeId × Value → H) (w : World) (base : Nat) (spare : Nat → Bool) (held : Bool) (fuel : Nat) (cs : List Value) (x : DataW H × List MemPlace),
    DataW.trod enc P w base spare held fuel t cs = some x → (∀ n ∈ x.1.weights P t, n ≤ reachBytes) → ∃ a, d.K w a cs ∧ G a ∧ B a ≤ Rows.uptoBulk x.1
theorem add_two (a : Addr) (i j : Nat) : a.add (i + j) = (a.add i).add j := by
  rcases Nat.eq_zero_or_pos i with rfl | hi
  · rw [Nat.zero_add, show a.add 0 = a from by simp [Addr.add]]
  · rcases Nat.eq_zero_or_pos j with rfl | hj
    · rw [Nat.add_zero]
      simp [Addr.add]
    · unfold Addr.add
      rw [if_neg (by omega), if_neg (by omega), if_neg (by omega)]
      simp only [Nat.add_assoc]
theorem opens_int {P : Program} {t : TypeId} {k : IntKind} (hu : P.underlying t = some (.int k)) (hc : P.cellsOf t = 1) : Opens P t (Kd.int k) (fun n => (Lit.int k n).wf = true) (fun _ => 1) := by
  refine ⟨hc, fun H enc w base spare held fuel cs x hx hw => ?_⟩
  obtain ⟨n, rfl, rfl, h⟩ := DataW.trod_int hu hx
  exact ⟨n, rfl, h, by simp [Rows.uptoBulk]⟩
theorem weightsAll_mem {H : Type} {P : Program} {e : TypeId} {d : DataW H} : ∀ {l : List (DataW H)}, d ∈ l → ∀ n ∈ d.weights P e, n ∈ DataW.weightsAll P e l
  | [], h, _, _ => by cases h
  | y :: r, h, n, hn => by
    simp only [DataW.weightsAll, List.mem_append]
    rcases List.mem_cons.1 h with rfl | h
    · exact .inl hn
    · exact .inr (weightsAll_mem h n hn)
theorem opens_list {α : Type} {d : Kd α} {G : α → Prop} {B : α → Nat} {H : Type} {w : World} :
    ∀ (elems : List (DataW H × List MemPlace)) (cells : Nat → List Value), (∀ i x, elems[i]? = some x → ∃ a, d.K w a (cells i) ∧ G a ∧ B a ≤ Rows.uptoBulk x.1) →
      ∃ xs : List α, xs.length = elems.length ∧ (∀ i x, xs[i]? = some x → d.K w x (cells i) ∧ G x) ∧ (xs.map B).sum ≤ Rows.uptoBulkAll (elems.map (·.1))
  | [], cells, _ => ⟨[], rfl, fun i x h => by simp at h, by simp [Rows.uptoBulkAll]⟩
  | x :: r, cells, h => by
    obtain ⟨xs, hl, hx, hs⟩ := opens_list r (fun i => cells (i + 1)) (fun i y hy => h (i + 1) y (by simpa using hy))
    obtain ⟨a, hK, hG, hB⟩ := h 0 x rfl
    refine ⟨a :: xs, by simp [hl], fun i y hy => ?_, ?_⟩
    · cases i with
      | zero =>
        simp at hy
        subst hy
        exact ⟨hK, hG⟩
      | succ i => exact hx i y (by simpa using hy)
    · simp only [List.map_cons, List.sum_cons, Rows.uptoBulkAll]
      omega
theorem opens_slice {α : Type} {P : Program} {t e : TypeId} {d : Kd α} {G : α → Prop} {B : α → Nat} {b : Nat} (he : Opens P e d G B) (hu : P.underlying t = some (.slice e)) (hc : P.cellsOf t = 1) (hbe : P.bytesOf e = b) :
    Opens P t (Kd.slice e d) (fun xs => xs.length * b ≤ 140737488351232 ∧ ∀ x ∈ xs, G x) (fun xs => (xs.map B).sum + 1) := by
  subst hbe
  refine ⟨hc, fun H enc w base spare held fuel cs x hx hw => ?_⟩
  rcases DataW.trod_slice hu hx with ⟨rfl, rfl⟩ | ⟨a, len, cap, elems, rest, n, rfl, rfl, rfl, hb, hl, hm, hlen, hel, hsp, hns⟩
  · refine ⟨[], ⟨none, 0, rfl, by simp, rfl, by simp, fun h => absurd h (by simp)⟩, ⟨by simp, by simp⟩, by simp [Rows.uptoBulk]⟩
  · have hW : ∀ n ∈ ((elems.map (·.1)).length + (rest.map (·.1)).length) * P.bytesOf e :: (DataW.weightsAll P e (elems.map (·.1)) ++ DataW.weightsAll P e (rest.map (·.1))), n ≤ reachBytes := by
      have h := hw
      simp only [DataW.weights, hu] at h
      exact h
    have hone : ∀ i y, elems[i]? = some y → ∃ cs', w.cells? base (a.add (i * P.cellsOf e)) (P.cellsOf e) = some cs' ∧ DataW.trod enc P w base spare held n e cs' = some y := by
      intro i y hy
      have hi : i < len := by
        have := (List.getElem?_eq_some_iff.1 hy).1
        omega
      have h := hel i hi
      rw [hy, Option.bind_eq_some_iff] at h
      exact h
    obtain ⟨xs, hxl, hxs, hsum⟩ := opens_list (d := d) (G := G) (B := B) (w := w) elems (fun i => (w.cells? base (a.add (i * P.cellsOf e)) (P.cellsOf e)).getD []) (fun i y hy => by
      obtain ⟨cs', h1, h2⟩ := hone i y hy
      rw [h1]
      exact he.2 H enc w base spare held n cs' y h2 (fun m hmm => hW m (List.mem_cons_of_mem _ (List.mem_append_left _ (weightsAll_mem (List.mem_map_of_mem (List.mem_of_getElem? hy)) m hmm)))))
    have hlx : xs.length = len := by rw [hxl, hlen]
    have hm' : cap ≤ 9223372036854775807 := Nat.le_trans hm (by decide)
    refine ⟨xs, ⟨some a, cap, by rw [hlx], by omega, rfl, by omega, fun _ => ⟨a, rfl, fun j p hj => ?_⟩⟩, ⟨?_, fun x hx => ?_⟩, ?_⟩
    · have hjl : j < elems.length := by
        have := (List.getElem?_eq_some_iff.1 hj).1
        omega
      obtain ⟨cs', h1, h2⟩ := hone j _ (List.getElem?_eq_getElem hjl)
      obtain ⟨hK, _⟩ := hxs j p hj
      rw [h1] at hK
      have hK' : d.K w p cs' := hK
      refine ⟨cs', d.K_len hK', hK', fun i u hu => ?_⟩
      obtain ⟨_, hln, hcell⟩ := World.cells?_some h1
      have hi : i < P.cellsOf e := by
        have := (List.getElem?_eq_some_iff.1 hu).1
        omega
      have := hcell i hi
      rw [he.1] at this hi
      rw [show a.add (j * d.sz + i) = (a.add (j * d.sz)).add i from add_two a _ _]
      rw [this, hu]
    · have := hW _ List.mem_cons_self
      simp only [List.length_map] at this
      have h2 : xs.length * P.bytesOf e ≤ (elems.length + rest.length) * P.bytesOf e := Nat.mul_le_mul_right _ (by omega)
      have h3 : reachBytes = 140737488351232 := by decide
      omega
    · obtain ⟨i, hi⟩ := List.getElem?_of_mem hx
      exact (hxs i x hi).2
    · simp only [Rows.uptoBulk]
      omega
end Go.Proofs.Ytpilkfodlhhjpaa
