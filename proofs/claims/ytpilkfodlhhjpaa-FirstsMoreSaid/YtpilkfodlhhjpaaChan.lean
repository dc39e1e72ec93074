import Derived.Test.YtpilkfodlhhjpaaBits
set_option linter.unusedVariables false
namespace Go.Proofs.Ytpilkfodlhhjpaa
def iterT {σ : Type} (f : σ → σ) : Nat → σ → σ
  | 0, s => s
  | n + 1, s => f (iterT f n s)
theorem iterT_len {α : Type} (f : List α → List α) (hf : ∀ s, (f s).length = s.length) (s : List α) : ∀ n, (iterT f n s).length = s.length
  | 0 => rfl
  | n + 1 => by rw [iterT, hf, iterT_len f hf s n]
theorem iterT_fix {σ : Type} (f : σ → σ) (s : σ) (a : Nat) (h : f (iterT f a s) = iterT f a s) : ∀ d, iterT f (a + d) s = iterT f a s
  | 0 => rfl
  | d + 1 => by rw [← Nat.add_assoc, iterT, iterT_fix f s a h d, h]
theorem iterT_two {σ : Type} (f : σ → σ) (s : σ) (a b : Nat) (ha : f (iterT f a s) = iterT f a s) (hb : f (iterT f b s) = iterT f b s) : iterT f a s = iterT f b s := by
  have h1 := iterT_fix f s a ha b
  have h2 := iterT_fix f s b hb a
  rw [Nat.add_comm] at h2
  rw [← h1, h2]
theorem iterT_stand {σ : Type} (f : σ → σ) (c : σ → Nat) (s : σ) (n : Nat) (hc : ∀ a, c (iterT f a s) ≤ n) (hs : ∀ a, f (iterT f a s) ≠ iterT f a s → c (iterT f a s) < c (f (iterT f a s))) : f (iterT f (n + 1) s) = iterT f (n + 1) s := by
  have h : ∀ a, f (iterT f a s) = iterT f a s ∨ a ≤ c (iterT f a s) := by
    intro a
    induction a with
    | zero => exact .inr (Nat.zero_le _)
    | succ a ih =>
      rcases ih with ih | ih
      · left
        rw [iterT, ih, ih]
      · by_cases e : f (iterT f a s) = iterT f a s
        · left
          rw [iterT, e, e]
        · right
          have := hs a e
          rw [iterT]
          omega
  rcases h (n + 1) with h | h
  · exact h
  · have := hc (n + 1)
    omega
theorem iter_inv {σ : Type} (f : σ → σ) (I : σ → Prop) (hI : ∀ s, I s → I (f s)) (s : σ) (h : I s) : ∀ n, I (iterT f n s)
  | 0 => h
  | n + 1 => hI _ (iter_inv f I hI s h n)
theorem fold_cnt {σ β : Type} (f : σ → β → σ) (c : σ → Nat) (I : σ → Prop) (l : List β) (hI : ∀ s x, x ∈ l → I s → I (f s x)) (hf : ∀ s x, x ∈ l → I s → f s x = s ∨ c s < c (f s x)) : ∀ s, I s → (l.foldl f s = s ∨ c s < c (l.foldl f s)) ∧ I (l.foldl f s) := by
  induction l with
  | nil => exact fun s hs => ⟨.inl rfl, hs⟩
  | cons x l ih =>
    intro s hs
    rw [List.foldl_cons]
    have h1 := hf s x List.mem_cons_self hs
    have h2 := ih (fun s y hy => hI s y (List.mem_cons_of_mem _ hy)) (fun s y hy => hf s y (List.mem_cons_of_mem _ hy)) (f s x) (hI s x List.mem_cons_self hs)
    refine ⟨?_, h2.2⟩
    rcases h1 with h1 | h1 <;> rcases h2.1 with h2 | h2
    · left; rw [h2, h1]
    · right; rwa [h1] at h2 ⊢
    · right; rwa [h2]
    · right; omega
theorem fold_chan {σ β : Type} (f : σ → β → σ) (φ : List Bool → β → List Bool) (b : σ → List Bool) (I : σ → Prop) (l : List β) (hI : ∀ s x, x ∈ l → I s → I (f s x)) (hf : ∀ s x, x ∈ l → I s → b (f s x) = φ (b s) x) : ∀ s, I s → b (l.foldl f s) = l.foldl φ (b s) ∧ I (l.foldl f s) := by
  induction l with
  | nil => exact fun s hs => ⟨rfl, hs⟩
  | cons x l ih =>
    intro s hs
    rw [List.foldl_cons, List.foldl_cons, ← hf s x List.mem_cons_self hs]
    exact ih (fun s y hy => hI s y (List.mem_cons_of_mem _ hy)) (fun s y hy => hf s y (List.mem_cons_of_mem _ hy)) (f s x) (hI s x List.mem_cons_self hs)
theorem sum_le_lt (l : List Nat) (f g : Nat → Nat) (h : ∀ k ∈ l, f k ≤ g k) : (l.map f).sum ≤ (l.map g).sum ∧ ((∃ k ∈ l, f k < g k) → (l.map f).sum < (l.map g).sum) := by
  induction l with
  | nil => exact ⟨Nat.le_refl _, fun ⟨k, hk, _⟩ => by cases hk⟩
  | cons x l ih =>
    obtain ⟨h1, h2⟩ := ih (fun k hk => h k (List.mem_cons_of_mem _ hk))
    have h3 := h x List.mem_cons_self
    simp only [List.map_cons, List.sum_cons]
    refine ⟨by omega, fun ⟨k, hk, hlt⟩ => ?_⟩
    rcases List.mem_cons.1 hk with rfl | hk
    · omega
    · have := h2 ⟨k, hk, hlt⟩
      omega
def chC {σ : Type} (K : Nat) (b : Nat → σ → List Bool) (s : σ) : Nat := ((List.range K).map (fun k => (b k s).count true)).sum
theorem chC_le {σ : Type} (K n : Nat) (b : Nat → σ → List Bool) (s : σ) (h : ∀ k, k < K → (b k s).length = n) : chC K b s ≤ K * n := by
  have h1 := (sum_le_lt (List.range K) (fun k => (b k s).count true) (fun _ => n) (fun k hk => by
    have := List.count_le_length (a := true) (l := b k s)
    rwa [h k (List.mem_range.1 hk)] at this)).1
  have h2 : ((List.range K).map (fun _ => n)).sum = K * n := by
    rw [List.map_const', List.sum_replicate_nat, List.length_range]
  unfold chC
  omega
theorem chan_step {σ : Type} {f : σ → σ} {φ : Nat → List Bool → List Bool} {b : Nat → σ → List Bool} {K : Nat} {s : σ} (hb : ∀ k, k < K → b k (f s) = φ k (b k s)) (hφ : ∀ k, k < K → φ k (b k s) = b k s ∨ (b k s).count true < (φ k (b k s)).count true) (hx : (∀ k, k < K → b k (f s) = b k s) → f s = s) :
    f s = s ∨ chC K b s < chC K b (f s) := by
  by_cases h : ∀ k, k < K → b k (f s) = b k s
  · exact .inl (hx h)
  · right
    obtain ⟨k, hk⟩ := Classical.not_forall.1 h
    obtain ⟨hk, hne⟩ := Classical.not_imp.1 hk
    refine (sum_le_lt _ _ _ (fun j hj => ?_)).2 ⟨k, List.mem_range.2 hk, ?_⟩
    · rw [hb j (List.mem_range.1 hj)]
      rcases hφ j (List.mem_range.1 hj) with e | e
      · rw [e]; exact Nat.le_refl _
      · omega
    · rw [hb k hk] at hne ⊢
      exact (hφ k hk).resolve_left hne
theorem chan_stand {σ : Type} (T : σ → σ) (Φ : Nat → List Bool → List Bool) (b : Nat → σ → List Bool) (I : σ → Prop) (K n : Nat) (hI : ∀ s, I s → I (T s)) (hb : ∀ k, k < K → ∀ s, I s → b k (T s) = Φ k (b k s)) (hl : ∀ k, k < K → ∀ s, I s → (b k s).length = n)
    (hΦ : ∀ k, k < K → ∀ t, t.length = n → (Φ k t = t ∨ t.count true < (Φ k t).count true)) (hx : ∀ s s', I s → I s' → (∀ k, k < K → b k s = b k s') → s = s') (s0 : σ) (h0 : I s0) : T (iterT T (n + 1) s0) = iterT T (n + 1) s0 := by
  have hi := iter_inv T I hI s0 h0
  have hm : ∀ k, k < K → ∀ m, b k (iterT T m s0) = iterT (Φ k) m (b k s0) := by
    intro k hk m
    induction m with
    | zero => rfl
    | succ m ih => rw [iterT, iterT, hb k hk _ (hi m), ih]
  refine hx _ _ (hI _ (hi _)) (hi _) (fun k hk => ?_)
  rw [hb k hk _ (hi _), hm k hk]
  refine iterT_stand (Φ k) (fun t => t.count true) (b k s0) n (fun a => ?_) (fun a h => ?_)
  · have := List.count_le_length (a := true) (l := iterT (Φ k) a (b k s0))
    rw [← hm k hk a, hl k hk _ (hi a)] at this
    rwa [← hm k hk a]
  · exact (hΦ k hk _ (by rw [← hm k hk a]; exact hl k hk _ (hi a))).resolve_left h
def stepG (i : Nat) (c : Bool) (t : List Bool) : List Bool := if t.getD i false = false ∧ c = true then t.set i true else t
theorem stepG_len (i : Nat) (c : Bool) (t : List Bool) : (stepG i c t).length = t.length := by
  unfold stepG
  split <;> simp
theorem stepG_cnt (i : Nat) (c : Bool) (t : List Bool) (h1 : i < t.length) : stepG i c t = t ∨ t.count true < (stepG i c t).count true := by
  unfold stepG
  split
  · rename_i e
    right
    have e2 : t[i] = false := by have := e.1; rw [List.getD_eq_getElem?_getD, List.getElem?_eq_getElem h1] at this; exact this
    rw [List.count_set h1, e2]
    simp
  · exact .inl rfl
theorem stepG_set (i : Nat) (c : Bool) (t : List Bool) (h1 : i < t.length) : t.set i (t.getD i false || c) = stepG i c t := by
  unfold stepG
  have e : t.getD i false = t[i] := by rw [List.getD_eq_getElem?_getD, List.getElem?_eq_getElem h1]; rfl
  rw [e]
  cases ht : t[i] <;> cases c <;> simp
  · rw [← ht]; exact List.set_getElem_self h1
  · rw [← ht]; exact List.set_getElem_self h1
  · rw [← ht]; exact List.set_getElem_self h1
end Go.Proofs.Ytpilkfodlhhjpaa
