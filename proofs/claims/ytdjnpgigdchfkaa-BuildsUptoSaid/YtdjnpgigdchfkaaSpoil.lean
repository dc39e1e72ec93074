import Derived.Test.YtdjnpgigdchfkaaWWords
namespace Go.Proofs.Ytdjnpgigdchfkaa
open Go.RowKit Go.Proofs.YtdjnpgigdchfkaaW.PrintWords
set_option linter.unusedVariables false
def SpV (u v : Value) : Prop := v = u ∨ (∃ k a b, u = .int k a ∧ v = .int k b) ∨ (∃ a b, u = .bool a ∧ v = .bool b) ∨ (∃ a b, u = .string a ∧ v = .string b)
theorem SpV.refl (u : Value) : SpV u u := .inl rfl
theorem SpV.int {k : IntKind} {a : Int} {v : Value} (h : SpV (.int k a) v) : ∃ b, v = .int k b := by
  rcases h with h | ⟨k', a', b, h, h'⟩ | ⟨a', b, h, h'⟩ | ⟨a', b, h, h'⟩
  · exact ⟨a, h⟩
  · injection h with h1 h2
    exact ⟨b, h1 ▸ h'⟩
  · cases h
  · cases h
theorem SpV.bool {a : Bool} {v : Value} (h : SpV (.bool a) v) : ∃ b, v = .bool b := by
  rcases h with h | ⟨k', a', b, h, h'⟩ | ⟨a', b, h, h'⟩ | ⟨a', b, h, h'⟩
  · exact ⟨a, h⟩
  · cases h
  · exact ⟨b, h'⟩
  · cases h
theorem SpV.string {a : ByteArray} {v : Value} (h : SpV (.string a) v) : ∃ b, v = .string b := by
  rcases h with h | ⟨k', a', b, h, h'⟩ | ⟨a', b, h, h'⟩ | ⟨a', b, h, h'⟩
  · exact ⟨a, h⟩
  · cases h
  · cases h
  · exact ⟨b, h'⟩
theorem SpV.slice {A : Option Addr} {n c : Nat} {v : Value} (h : SpV (.slice A n c) v) : v = .slice A n c := by
  rcases h with h | ⟨k', a', b, h, h'⟩ | ⟨a', b, h, h'⟩ | ⟨a', b, h, h'⟩
  · exact h
  · cases h
  · cases h
  · cases h
structure Sim (lo hi : Nat) (w w' : World) : Prop where
  below : Below lo w w'
  past : ∀ k, hi ≤ k → k < w.heap.size → w'.heap[k]? = w.heap[k]?
  cells : ∀ (k : Nat) (cs : Array Value) (e : Nat), w.heap[k]? = some (Obj.cells cs e (0, 0)) → ∃ cs' : Array Value, w'.heap[k]? = some (Obj.cells cs' e (0, 0)) ∧ cs'.size = cs.size ∧ ∀ (j : Nat) (u : Value), cs[j]? = some u → ∃ u' : Value, cs'[j]? = some u' ∧ SpV u u'
theorem Sim.refl (lo hi : Nat) (w : World) : Sim lo hi w w := ⟨Below.refl _ _, fun _ _ _ => rfl, fun k cs e h => ⟨cs, h, rfl, fun j u hu => ⟨u, hu, SpV.refl u⟩⟩⟩
theorem Sim.store {lo hi : Nat} {w w' : World} (h : Sim lo hi w w') {g j e : Nat} {cs : Array Value} {u v x : Value} (hg : w.heap[g]? = some (.cells cs e (0, 0))) (hlo : lo ≤ g) (hhi : g < hi) (hu : cs[j]? = some u) (hx : w'.cell? ⟨g, j, none⟩ = some x) (hs : SpV u v) : Sim lo hi w (w'.setCell ⟨g, j, none⟩ v) := by
  obtain ⟨cs', hg', hsz, hc⟩ := h.cells g cs e hg
  have hset := heap_setCell_same w' g j cs' e v hg'
  refine ⟨?_, fun k hk hlt => ?_, fun k cs1 e1 hk => ?_⟩
  · exact h.below.trans ((Below.refl lo w').setCell (p := ⟨g, j, none⟩) hlo v)
  · exact (Below.heap_setCell w' ⟨g, j, none⟩ v k (by intro e; simp at e; omega)).trans (h.past k hk hlt)
  · by_cases hkg : k = g
    · subst hkg
      rw [hg] at hk
      injection hk with hk
      injection hk with h1 h2
      subst h1 h2
      refine ⟨_, hset, by simp [hsz], fun i z hz => ?_⟩
      by_cases hij : i = j
      · subst hij
        refine ⟨v, ?_, ?_⟩
        · have : i < cs'.size := by rw [hsz]; exact (Array.getElem?_eq_some_iff.1 hz).1
          simp [this]
        · rw [hu] at hz
          injection hz with hz
          exact hz ▸ hs
      · obtain ⟨z', hz', hzs⟩ := hc i z hz
        exact ⟨z', by rw [Array.getElem?_setIfInBounds, if_neg (fun e => hij e.symm)]; exact hz', hzs⟩
    · obtain ⟨cs2, h2, h3⟩ := h.cells k cs1 e1 hk
      exact ⟨cs2, (Below.heap_setCell w' ⟨g, j, none⟩ v k hkg).trans h2, h3⟩
theorem Sim.cell {lo hi : Nat} {w w' : World} (h : Sim lo hi w w') {g j e : Nat} {cs : Array Value} {u : Value} (hg : w.heap[g]? = some (.cells cs e (0, 0))) (hu : cs[j]? = some u) : ∃ u', w'.cell? ⟨g, j, none⟩ = some u' ∧ SpV u u' := by
  obtain ⟨cs', hg', hsz, hc⟩ := h.cells g cs e hg
  obtain ⟨u', h1, h2⟩ := hc j u hu
  exact ⟨u', (blk_cell hg' j).trans h1, h2⟩
theorem Sim.frozen {lo hi : Nat} {w w' : World} (h : Sim lo hi w w') {g e : Nat} {cs : Array Value} (hg : w.heap[g]? = some (.cells cs e (0, 0))) (j : Nat) : w'.frozen? ⟨g, j, none⟩ = false := by
  obtain ⟨cs', hg', hsz, hc⟩ := h.cells g cs e hg
  exact blk_frozen hg' j
theorem Sim.drew {lo hi : Nat} {w w' : World} (h : Sim lo hi w w') : Sim lo hi w w'.drew := ⟨h.below.trans (Below.refl lo w').drew, fun k hk hlt => h.past k hk hlt, fun k cs e hk => h.cells k cs e hk⟩
theorem R_at {α : Type} {d : Kd α} {e base : Nat} {w : World} {ok : Nat → Prop} {v : Value} {xs : List α} (h : Kd.R d e w base ok v xs) (i : Nat) (hi : i < xs.length) :
    ∃ g cap cells cs, v = .slice (some ⟨g, 0, none⟩) xs.length cap ∧ base ≤ g ∧ g < w.heap.size ∧ w.heap[g]? = some (.cells cells e (0, 0)) ∧ cs.length = d.sz ∧ d.M w base ok xs[i] cs ∧ (∀ u ∈ cs, u.oneCell' = true) ∧ ∀ j u, cs[j]? = some u → cells[i * d.sz + j]? = some u := by
  obtain ⟨h0, inner, ho, hr⟩ := h
  obtain ⟨g, cap, rfl, hb, hlt⟩ := ho.form (by omega)
  obtain ⟨cells, hc⟩ := own_typed ho g rfl
  have hm := hr.2 i xs[i] (List.getElem?_eq_getElem hi)
  have hl := d.K_len (d.K_of_M hm)
  refine ⟨g, cap, cells, _, rfl, hb, hlt, hc, hl, d.M_mono (fun _ hk => hk.1) hm, d.K_one (d.K_of_M hm), fun j u hu => ?_⟩
  have hj : j < d.sz := by rw [← hl]; exact (List.getElem?_eq_some_iff.1 hu).1
  have h2 := ho.cells (g := g) rfl (i * d.sz + j) u (by rw [List.getElem?_take_of_lt hj, List.getElem?_drop] at hu; exact hu)
  rw [add_plain, blk_cell hc] at h2
  exact h2
theorem SpV.trans {u v x : Value} (h : SpV u v) (h' : SpV v x) : SpV u x := by
  rcases h with rfl | ⟨k, a, b, rfl, rfl⟩ | ⟨a, b, rfl, rfl⟩ | ⟨a, b, rfl, rfl⟩
  · exact h'
  · obtain ⟨c, rfl⟩ := h'.int
    exact .inr (.inl ⟨k, a, c, rfl, rfl⟩)
  · obtain ⟨c, rfl⟩ := h'.bool
    exact .inr (.inr (.inl ⟨a, c, rfl, rfl⟩))
  · obtain ⟨c, rfl⟩ := h'.string
    exact .inr (.inr (.inr ⟨a, c, rfl, rfl⟩))
theorem Sim.trans {lo hi : Nat} {w w1 w2 : World} (h : Sim lo hi w w1) (h' : Sim lo hi w1 w2) : Sim lo hi w w2 := by
  refine ⟨h.below.trans h'.below, fun k hk hlt => (h'.past k hk (Nat.lt_of_lt_of_le hlt h.below.size)).trans (h.past k hk hlt), fun k cs e hk => ?_⟩
  obtain ⟨cs1, g1, s1, c1⟩ := h.cells k cs e hk
  obtain ⟨cs2, g2, s2, c2⟩ := h'.cells k cs1 e g1
  refine ⟨cs2, g2, s2.trans s1, fun j u hu => ?_⟩
  obtain ⟨u1, hu1, v1⟩ := c1 j u hu
  obtain ⟨u2, hu2, v2⟩ := c2 j u1 hu1
  exact ⟨u2, hu2, v1.trans v2⟩
theorem Sim.of_below {lo hi : Nat} {w w1 : World} (hb : Below w.heap.size w w1) (hlo : lo ≤ w.heap.size) : Sim lo hi w w1 := by
  have hlt : ∀ k o, w.heap[k]? = some o → k < w.heap.size := fun k o h => (Array.getElem?_eq_some_iff.1 h).1
  exact ⟨hb.mono hlo, fun k _ hl => hb.block k hl, fun k cs e hk => ⟨cs, (hb.block k (hlt _ _ hk)).trans hk, rfl, fun j u hu => ⟨u, hu, SpV.refl u⟩⟩⟩
end Go.Proofs.Ytdjnpgigdchfkaa
