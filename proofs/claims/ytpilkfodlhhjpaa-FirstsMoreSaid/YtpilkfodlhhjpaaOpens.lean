import Derived.Test.YtpilkfodlhhjpaaRows
import Derived.Test.YtpilkfodlhhjpaaWWords
import Derived.OpenShut
import Derived.ChangeOld
import Derived.WideShapes
set_option linter.unusedVariables false
namespace Go.Proofs.Ytpilkfodlhhjpaa
open Go.Proofs.YtpilkfodlhhjpaaW.PrintWords
def Opens {α : Type} (P : Program) (t : TypeId) (d : Kd α) (G : α → Prop) (B : α → Nat) : Prop :=
  P.cellsOf t = d.sz ∧ ∀ (H : Type) (enc : TypeId × Value → H) (w : World) (base : Nat) (spare : Nat → Bool) (held : Bool) (fuel : Nat) (cs : List Value) (x : DataW H × List MemPlace),
    DataW.trod enc P w base spare held fuel t cs = some x → (∀ n ∈ x.1.weights P t, n ≤ reachBytes) → ∃ a, d.K w a cs ∧ G a ∧ B a ≤ Rows.uptoBulk x.1
theorem add_two (a : Addr) (i j : Nat) : a.add (i + j) = (a.add i).add j := by
  rcases Nat.eq_zero_or_pos i with rfl | hi
  · rw [Nat.zero_add, show a.add 0 = a from by simp [Addr.add]]
  · rcases Nat.eq_zero_or_pos j with rfl | hj
    · rw [Nat.add_zero]
      simp [Addr.add]
    · unfold Addr.add
      rw [if_neg (by omega), if_neg (by omega), if_neg (by omega)]
      simp only [Nat.add_assoc]
theorem opens_int {P : Program} {t : TypeId} {k : IntKind} (hu : P.underlying t = some (.int k)) (hc : P.cellsOf t = 1) : Opens P t (Kd.int k) (fun n => (Lit.int k n).wf = true) (fun _ => 1) := by
  refine ⟨hc, fun H enc w base spare held fuel cs x hx hw => ?_⟩
  obtain ⟨n, rfl, rfl, h⟩ := DataW.trod_int hu hx
  exact ⟨n, rfl, h, by simp [Rows.uptoBulk]⟩
theorem opens_bool {P : Program} {t : TypeId} (hu : P.underlying t = some .bool) (hc : P.cellsOf t = 1) : Opens P t Kd.bool (fun _ => True) (fun _ => 1) := by
  refine ⟨hc, fun H enc w base spare held fuel cs x hx hw => ?_⟩
  obtain ⟨b, rfl, rfl⟩ := DataW.trod_bool hu hx
  exact ⟨b, rfl, trivial, by simp [Rows.uptoBulk]⟩
theorem opens_string {P : Program} {t : TypeId} (hu : P.underlying t = some .string) (hc : P.cellsOf t = 1) : Opens P t Kd.string (fun s => s.size ≤ 140737488351232) (fun s => s.size + 1) := by
  refine ⟨hc, fun H enc w base spare held fuel cs x hx hw => ?_⟩
  obtain ⟨s, rfl, rfl, h⟩ := DataW.trod_string hu hx
  refine ⟨s, rfl, ?_, ?_⟩
  · have := hw s.data.toList.length (by simp [DataW.weights])
    rw [Array.length_toList] at this
    exact this
  · simp only [Rows.uptoBulk, Array.length_toList]
    exact Nat.le_refl _
theorem weightsAll_mem {H : Type} {P : Program} {e : TypeId} {d : DataW H} : ∀ {l : List (DataW H)}, d ∈ l → ∀ n ∈ d.weights P e, n ∈ DataW.weightsAll P e l
  | [], h, _, _ => by cases h
  | y :: r, h, n, hn => by
    simp only [DataW.weightsAll, List.mem_append]
    rcases List.mem_cons.1 h with rfl | h
    · exact .inl hn
    · exact .inr (weightsAll_mem h n hn)
theorem opens_list {α : Type} {d : Kd α} {G : α → Prop} {B : α → Nat} {H : Type} {w : World} :
    ∀ (elems : List (DataW H × List MemPlace)) (cells : Nat → List Value), (∀ i x, elems[i]? = some x → ∃ a, d.K w a (cells i) ∧ G a ∧ B a ≤ Rows.uptoBulk x.1) →
      ∃ xs : List α, xs.length = elems.length ∧ (∀ i x, xs[i]? = some x → d.K w x (cells i) ∧ G x) ∧ (xs.map B).sum ≤ Rows.uptoBulkAll (elems.map (·.1))
  | [], cells, _ => ⟨[], rfl, fun i x h => by simp at h, by simp [Rows.uptoBulkAll]⟩
  | x :: r, cells, h => by
    obtain ⟨xs, hl, hx, hs⟩ := opens_list r (fun i => cells (i + 1)) (fun i y hy => h (i + 1) y (by simpa using hy))
    obtain ⟨a, hK, hG, hB⟩ := h 0 x rfl
    refine ⟨a :: xs, by simp [hl], fun i y hy => ?_, ?_⟩
    · cases i with
      | zero =>
        simp at hy
        subst hy
        exact ⟨hK, hG⟩
      | succ i => exact hx i y (by simpa using hy)
    · simp only [List.map_cons, List.sum_cons, Rows.uptoBulkAll]
      omega
theorem opens_slice {α : Type} {P : Program} {t e : TypeId} {d : Kd α} {G : α → Prop} {B : α → Nat} {b : Nat} (he : Opens P e d G B) (hu : P.underlying t = some (.slice e)) (hc : P.cellsOf t = 1) (hbe : P.bytesOf e = b) :
    Opens P t (Kd.slice e d) (fun xs => xs.length * b ≤ 140737488351232 ∧ ∀ x ∈ xs, G x) (fun xs => (xs.map B).sum + 1) := by
  subst hbe
  refine ⟨hc, fun H enc w base spare held fuel cs x hx hw => ?_⟩
  rcases DataW.trod_slice hu hx with ⟨rfl, rfl⟩ | ⟨a, len, cap, elems, rest, n, rfl, rfl, rfl, hb, hl, hm, hlen, hel, hsp, hns⟩
  · refine ⟨[], ⟨none, 0, rfl, by simp, rfl, by simp, fun h => absurd h (by simp)⟩, ⟨by simp, by simp⟩, by simp [Rows.uptoBulk]⟩
  · have hW : ∀ n ∈ ((elems.map (·.1)).length + (rest.map (·.1)).length) * P.bytesOf e :: (DataW.weightsAll P e (elems.map (·.1)) ++ DataW.weightsAll P e (rest.map (·.1))), n ≤ reachBytes := by
      have h := hw
      simp only [DataW.weights, hu] at h
      exact h
    have hone : ∀ i y, elems[i]? = some y → ∃ cs', w.cells? base (a.add (i * P.cellsOf e)) (P.cellsOf e) = some cs' ∧ DataW.trod enc P w base spare held n e cs' = some y := by
      intro i y hy
      have hi : i < len := by
        have := (List.getElem?_eq_some_iff.1 hy).1
        omega
      have h := hel i hi
      rw [hy, Option.bind_eq_some_iff] at h
      exact h
    obtain ⟨xs, hxl, hxs, hsum⟩ := opens_list (d := d) (G := G) (B := B) (w := w) elems (fun i => (w.cells? base (a.add (i * P.cellsOf e)) (P.cellsOf e)).getD []) (fun i y hy => by
      obtain ⟨cs', h1, h2⟩ := hone i y hy
      rw [h1]
      exact he.2 H enc w base spare held n cs' y h2 (fun m hmm => hW m (List.mem_cons_of_mem _ (List.mem_append_left _ (weightsAll_mem (List.mem_map_of_mem (List.mem_of_getElem? hy)) m hmm)))))
    have hlx : xs.length = len := by rw [hxl, hlen]
    have hm' : cap ≤ 9223372036854775807 := Nat.le_trans hm (by decide)
    refine ⟨xs, ⟨some a, cap, by rw [hlx], by omega, rfl, by omega, fun _ => ⟨a, rfl, fun j p hj => ?_⟩⟩, ⟨?_, fun x hx => ?_⟩, ?_⟩
    · have hjl : j < elems.length := by
        have := (List.getElem?_eq_some_iff.1 hj).1
        omega
      obtain ⟨cs', h1, h2⟩ := hone j _ (List.getElem?_eq_getElem hjl)
      obtain ⟨hK, _⟩ := hxs j p hj
      rw [h1] at hK
      have hK' : d.K w p cs' := hK
      refine ⟨cs', d.K_len hK', hK', fun i u hu => ?_⟩
      obtain ⟨_, hln, hcell⟩ := World.cells?_some h1
      have hi : i < P.cellsOf e := by
        have := (List.getElem?_eq_some_iff.1 hu).1
        omega
      have := hcell i hi
      rw [he.1] at this hi
      rw [show a.add (j * d.sz + i) = (a.add (j * d.sz)).add i from add_two a _ _]
      rw [this, hu]
    · have := hW _ List.mem_cons_self
      simp only [List.length_map] at this
      have h2 : xs.length * P.bytesOf e ≤ (elems.length + rest.length) * P.bytesOf e := Nat.mul_le_mul_right _ (by omega)
      have h3 : reachBytes = 140737488351232 := by decide
      omega
    · obtain ⟨i, hi⟩ := List.getElem?_of_mem hx
      exact (hxs i x hi).2
    · simp only [Rows.uptoBulk]
      omega
def Chop {H : Type} (enc : TypeId × Value → H) (P : Program) (w : World) (base : Nat) (spare : Nat → Bool) (held : Bool) (fuel : Nat) : List TypeId → List Value → List (DataW H × List MemPlace) → Prop
  | [], cs, xs => cs = [] ∧ xs = []
  | t :: ts, cs, xs => ∃ x r, xs = x :: r ∧ DataW.trod enc P w base spare held fuel t (cs.take (P.cellsOf t)) = some x ∧ Chop enc P w base spare held fuel ts (cs.drop (P.cellsOf t)) r
def Fields {α : Type} (P : Program) (ts : List TypeId) (d : Kd α) (G : α → Prop) (B : α → Nat) : Prop :=
  (ts.map P.cellsOf).sum = d.sz ∧ ∀ (H : Type) (enc : TypeId × Value → H) (w : World) (base : Nat) (spare : Nat → Bool) (held : Bool) (fuel : Nat) (cs : List Value) (xs : List (DataW H × List MemPlace)),
    Chop enc P w base spare held fuel ts cs xs → (∀ n ∈ DataW.weightsEach P ts (xs.map (·.1)), n ≤ reachBytes) → ∃ a, d.K w a cs ∧ G a ∧ B a ≤ Rows.uptoBulkAll (xs.map (·.1))
theorem fields_one {α : Type} {P : Program} {t : TypeId} {d : Kd α} {G : α → Prop} {B : α → Nat} (h : Opens P t d G B) : Fields P [t] d G B := by
  refine ⟨by simp [h.1], fun H enc w base spare held fuel cs xs hx hw => ?_⟩
  obtain ⟨x, r, rfl, hx, hn, rfl⟩ := hx
  have e : cs.take (P.cellsOf t) = cs := List.take_of_length_le (List.drop_eq_nil_iff.1 hn)
  rw [e] at hx
  obtain ⟨a, h1, h2, h3⟩ := h.2 H enc w base spare held fuel cs x hx (fun n hn => hw n (by simp only [List.map_cons, DataW.weightsEach, List.mem_append]; exact .inl hn))
  exact ⟨a, h1, h2, by simp only [List.map_cons, List.map_nil, Rows.uptoBulkAll]; omega⟩
theorem fields_cons {α β : Type} {P : Program} {t : TypeId} {ts : List TypeId} {a : Kd α} {b : Kd β} {Ga : α → Prop} {Ba : α → Nat} {Gb : β → Prop} {Bb : β → Nat} (h : Opens P t a Ga Ba) (hs : Fields P ts b Gb Bb) :
    Fields P (t :: ts) (Kd.pair a b) (fun x => Ga x.1 ∧ Gb x.2) (fun x => Ba x.1 + Bb x.2) := by
  refine ⟨by simp only [List.map_cons, List.sum_cons, h.1, hs.1]; rfl, fun H enc w base spare held fuel cs xs hx hw => ?_⟩
  obtain ⟨x, r, rfl, hx, hr⟩ := hx
  obtain ⟨u, h1, h2, h3⟩ := h.2 H enc w base spare held fuel _ x hx (fun n hn => hw n (by simp only [List.map_cons, DataW.weightsEach, List.mem_append]; exact .inl hn))
  obtain ⟨v, g1, g2, g3⟩ := hs.2 H enc w base spare held fuel _ r hr (fun n hn => hw n (by simp only [List.map_cons, DataW.weightsEach, List.mem_append]; exact .inr hn))
  exact ⟨(u, v), ⟨_, _, (List.take_append_drop _ _).symm, h1, g1⟩, ⟨h2, g2⟩, by simp only [List.map_cons, Rows.uptoBulkAll]; omega⟩
theorem chop_of {H : Type} {enc : TypeId × Value → H} {P : Program} {w : World} {base : Nat} {spare : Nat → Bool} {held : Bool} {fuel : Nat} :
    ∀ (ts : List TypeId) (offs : List Nat) (o : Nat) (cs : List Value) (xs : List (DataW H × List MemPlace)), (∀ i t, ts[i]? = some t → offs[i]? = some (o + ((ts.take i).map P.cellsOf).sum)) → cs.length = o + (ts.map P.cellsOf).sum → xs.length = ts.length →
      (∀ (i : Nat) (t : TypeId) (f : Nat), ts[i]? = some t → offs[i]? = some f → DataW.trod enc P w base spare held fuel t ((cs.drop f).take (P.cellsOf t)) = xs[i]?) → Chop enc P w base spare held fuel ts (cs.drop o) xs
  | [], offs, o, cs, xs, ho, hl, hx, h => ⟨List.drop_eq_nil_iff.2 (by simpa using Nat.le_of_eq hl), List.length_eq_zero_iff.1 hx⟩
  | t :: ts, offs, o, cs, [], ho, hl, hx, h => by simp at hx
  | t :: ts, [], o, cs, x :: xs, ho, hl, hx, h => by have := ho 0 t rfl; simp at this
  | t :: ts, f :: offs, o, cs, x :: xs, ho, hl, hx, h => by
    have e0 := ho 0 t rfl
    simp at e0
    subst e0
    refine ⟨x, xs, rfl, h 0 t f rfl rfl, ?_⟩
    rw [List.drop_drop]
    refine chop_of ts offs (f + P.cellsOf t) cs xs (fun i u hu => ?_) (by rw [hl]; simp only [List.map_cons, List.sum_cons]; omega) (by simpa using hx) (fun i u g hu hg => h (i + 1) u g (by simpa using hu) (by simpa using hg))
    have := ho (i + 1) u (by simpa using hu)
    simp only [List.getElem?_cons_succ, List.take_succ_cons, List.map_cons, List.sum_cons] at this
    rw [this]
    congr 1
    omega
def offsOk (P : Program) (ts : List TypeId) (offs : List Nat) : Bool := (List.range ts.length).all fun i => decide (offs[i]? = some (0 + ((ts.take i).map P.cellsOf).sum))
theorem fields_of_struct {P : Program} {t : TypeId} {fs : Array Field} {ts : List TypeId} (hu : P.underlying t = some (.struct fs)) (hts : fs.toList.map (·.type) = ts) (ho : offsOk P ts (fs.toList.map (·.offset)) = true) (hc : P.cellsOf t = (ts.map P.cellsOf).sum)
    {H : Type} {enc : TypeId × Value → H} {w : World} {base : Nat} {spare : Nat → Bool} {held : Bool} {fuel : Nat} {cs : List Value} {x : DataW H × List MemPlace} (hx : DataW.trod enc P w base spare held fuel t cs = some x) :
    ∃ n xs, Chop enc P w base spare held n ts cs xs ∧ x.1 = .agg (xs.map (·.1)) := by
  obtain ⟨xs, n, rfl, rfl, hl, hxl, hf⟩ := DataW.trod_struct hu hx
  refine ⟨n, xs, ?_, rfl⟩
  subst hts
  have hlen : (fs.toList.map (·.type)).length = fs.size := by simp
  refine chop_of _ (fs.toList.map (·.offset)) 0 cs xs (fun i u hu => ?_) (by rw [hl, hc]; omega) (by rw [hxl, hlen]) (fun i u f hu' hf' => ?_)
  · have hi := (List.getElem?_eq_some_iff.1 hu).1
    exact of_decide_eq_true (List.all_eq_true.1 ho i (List.mem_range.2 hi))
  · rw [List.getElem?_map] at hu' hf'
    cases hfi : fs.toList[i]? with
    | none => rw [hfi] at hu'; simp at hu'
    | some fl =>
      rw [hfi] at hu' hf'
      simp at hu' hf'
      subst hu' hf'
      exact hf i fl (by rw [← Array.getElem?_toList]; exact hfi)
theorem opens_struct {α : Type} {P : Program} {t : TypeId} {fs : Array Field} {ts : List TypeId} {d : Kd α} {G : α → Prop} {B : α → Nat} (hF : Fields P ts d G B) (hu : P.underlying t = some (.struct fs)) (hts : fs.toList.map (·.type) = ts) (ho : offsOk P ts (fs.toList.map (·.offset)) = true) (hc : P.cellsOf t = (ts.map P.cellsOf).sum) :
    Opens P t d G (fun x => B x + 1) := by
  refine ⟨by rw [hc, hF.1], fun H enc w base spare held fuel cs x hx hw => ?_⟩
  obtain ⟨n, xs, hch, he⟩ := fields_of_struct hu hts ho hc hx
  rw [he] at hw ⊢
  obtain ⟨a, h1, h2, h3⟩ := hF.2 H enc w base spare held n cs xs hch (fun m hm => hw m (by simp only [DataW.weights, hu, hts]; exact hm))
  exact ⟨a, h1, h2, by simp only [Rows.uptoBulk]; omega⟩
theorem opens_iso {α β : Type} {P : Program} {t : TypeId} {d : Kd α} {G : α → Prop} {B : α → Nat} (h : Opens P t d G B) (f : β → α) (g : α → β) (hfg : ∀ a, f (g a) = a) : Opens P t (Kd.iso d f) (fun x => G (f x)) (fun x => B (f x)) := by
  refine ⟨h.1, fun H enc w base spare held fuel cs x hx hw => ?_⟩
  obtain ⟨a, h1, h2, h3⟩ := h.2 H enc w base spare held fuel cs x hx hw
  refine ⟨g a, ?_, by show G (f (g a)); rw [hfg]; exact h2, by show B (f (g a)) ≤ _; rw [hfg]; exact h3⟩
  show d.K w (f (g a)) cs
  rw [hfg]
  exact h1
end Go.Proofs.Ytpilkfodlhhjpaa
