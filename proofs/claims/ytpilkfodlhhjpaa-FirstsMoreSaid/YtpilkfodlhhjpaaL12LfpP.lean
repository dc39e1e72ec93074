/- Layer 12, plain: what comes first and what follows, as the least that is closed under the rules. -/
import Derived.Test.YtpilkfodlhhjpaaL12CoreP
import Derived.Test.YtpilkfodlhhjpaaLfp
namespace Go.Proofs.Ytpilkfodlhhjpaa.PFM
open Go.RowKit Go.Proofs.YtpilkfodlhhjpaaW.PrintWords Go.Proofs.YtpilkfodlhhjpaaW.PrintLast
set_option linter.unusedVariables false
set_option linter.unusedSectionVars false
abbrev Sym := S68
abbrev Cj := S58
abbrev Ru := S55
abbrev Set4 := S63
abbrev Fo := S66
def stepsOf (X : Int → List Sym → List (Nat × (List Bool → Bool))) (rs : List Ru) : List (Nat × (List Bool → Bool)) := rs.flatMap (fun r => r.f1.flatMap (fun c => X r.f0 c.f1))
theorem mem_stepsOf {X : Int → List Sym → List (Nat × (List Bool → Bool))} {rs : List Ru} {x : Nat × (List Bool → Bool)} : x ∈ stepsOf X rs ↔ ∃ r ∈ rs, ∃ c ∈ r.f1, x ∈ X r.f0 c.f1 := by
  unfold stepsOf
  simp only [List.mem_flatMap]
theorem passC_run {step : Int → List Sym → List Bool → List Bool} {X : Int → List Sym → List (Nat × (List Bool → Bool))} (h : ∀ h q t, step h q t = runS (X h q) t) (hd : Int) : ∀ (cs : List Cj) (t : List Bool), passC step hd cs t = runS (cs.flatMap (fun c => X hd c.f1)) t
  | [], _ => rfl
  | c :: cs, t => by
    rw [List.flatMap_cons, runS_append, ← h, ← passC_run h hd cs]
    rfl
theorem passT_run {step : Int → List Sym → List Bool → List Bool} {X : Int → List Sym → List (Nat × (List Bool → Bool))} (h : ∀ h q t, step h q t = runS (X h q) t) : ∀ (rs : List Ru) (t : List Bool), passT step rs t = runS (stepsOf X rs) t
  | [], _ => rfl
  | r :: rs, t => by
    unfold stepsOf
    rw [List.flatMap_cons, runS_append, ← passC_run h, ← stepsOf, ← passT_run h rs]
    rfl
def XE (h : Int) (q : List Sym) : List (Nat × (List Bool → Bool)) := [(h.toNat, fun s => nothB s q)]
def XF (k : Nat) (e : List Bool) (h : Int) (q : List Sym) : List (Nat × (List Bool → Bool)) := [(h.toNat, fun t => begB k e t q)]
def XW (k : Nat) (e : List Bool) (fs : List Set4) (h : Int) : List Sym → List (Nat × (List Bool → Bool))
  | [] => []
  | x :: q => (if x.f0 < 0 then [] else [(x.f0.toNat, addW k e fs h.toNat q)]) ++ XW k e fs h q
theorem stepE_run (h : Int) (q : List Sym) (t : List Bool) : stepE h q t = runS (XE h q) t := rfl
theorem stepB_run (k : Nat) (e : List Bool) (h : Int) (q : List Sym) (t : List Bool) : stepB k e h q t = runS (XF k e h q) t := rfl
theorem posB_run (k : Nat) (e : List Bool) (fs : List Set4) (h : Int) : ∀ (q : List Sym) (t : List Bool), posB k e fs h q t = runS (XW k e fs h q) t
  | [], _ => rfl
  | x :: q, t => by
    unfold XW
    rw [runS_append, ← posB_run k e fs h q]
    show posB k e fs h q (oneB k e fs h x q t) = _
    unfold oneB
    by_cases hx : x.f0 < 0
    · rw [if_pos hx, if_pos hx]; rfl
    · rw [if_neg hx, if_neg hx]; rfl
/-- The i-th bit, of a state. -/
abbrev at_ (t : List Bool) (i : Nat) : Bool := t.getD i false
theorem nothB_mono {t F : List Bool} (h : leB t F) (q : List Sym) (hq : nothB t q = true) : nothB F q = true := by
  unfold nothB at hq ⊢
  rw [List.all_eq_true] at hq ⊢
  intro s hs
  have := hq s hs
  rw [Bool.and_eq_true] at this ⊢
  exact ⟨this.1, h _ this.2⟩
theorem begB_mono (k : Nat) {e e' t F : List Bool} (he : leB e e') (h : leB t F) : ∀ (q : List Sym), begB k e t q = true → begB k e' F q = true
  | [], hq => hq
  | s :: q, hq => by
    unfold begB at hq ⊢
    by_cases hs : s.f0 < 0
    · rw [if_pos hs] at hq ⊢; exact hq
    · rw [if_neg hs] at hq ⊢
      rw [Bool.or_eq_true] at hq ⊢
      rcases hq with hq | hq
      · exact .inl (h _ hq)
      · right
        by_cases hh : e.getD s.f0.toNat false = true
        · rw [if_pos hh] at hq
          rw [if_pos (he _ hh)]
          exact begB_mono k he h q hq
        · rw [if_neg hh] at hq; cases hq
theorem addW_mono (k : Nat) {e e' : List Bool} {fs fs' : List Set4} (he : leB e e') (hf : leB (bitL k fs) (bitL k fs')) (h : Nat) (q : List Sym) {t F : List Bool} (hl : leB t F) (hq : addW k e fs h q t = true) : addW k e' fs' h q F = true := by
  unfold addW at hq ⊢
  rw [Bool.or_eq_true] at hq ⊢
  rcases hq with hq | hq
  · left
    by_cases hk : k < 256
    · rw [if_pos hk] at hq ⊢
      exact begB_mono k he hf q hq
    · rw [if_neg hk] at hq; cases hq
  · right
    rw [Bool.and_eq_true] at hq ⊢
    exact ⟨nothB_mono he q hq.1, hl _ hq.2⟩
theorem rep_false (n i : Nat) : (List.replicate n false).getD i false = false := getD_rep _ _ _
section
variable {a : Int} {ns : List ByteArray} {rs : List Ru} (hm : mayB a ns rs = true)
include hm
theorem heads_lt : ∀ r ∈ rs, r.f0.toNat < ns.length := fun r hr => by
  have F := may_facts hm
  have := F.hd0 r hr
  have := F.hd1 r hr
  omega
theorem emptyL_fix : runS (stepsOf XE rs) (emptyL ns rs) = emptyL ns rs := by
  rw [← passT_run stepE_run]
  exact passE_stand ns.length rs (heads_lt hm)
theorem emptyL_closed : ∀ r ∈ rs, ∀ c ∈ r.f1, nothB (emptyL ns rs) c.f1 = true → at_ (emptyL ns rs) r.f0.toNat = true := by
  intro r hr c hc hn
  refine runS_closed (stepsOf XE rs) _ (emptyL_fix hm) (fun x hx => ?_) (r.f0.toNat, fun s => nothB s c.f1) (mem_stepsOf.2 ⟨r, hr, c, hc, List.mem_singleton.2 rfl⟩) hn
  obtain ⟨r', hr', c', _, hx⟩ := mem_stepsOf.1 hx
  rw [List.mem_singleton.1 hx, emptyL_len]
  exact heads_lt hm r' hr'
theorem emptyL_iter : emptyL ns rs = iterT (runS (stepsOf XE rs)) (ns.length + 1) (startE ns.length) := by
  unfold emptyL
  rw [show passT stepE rs = runS (stepsOf XE rs) from funext (passT_run stepE_run rs)]
theorem emptyL_sup : ∀ i, at_ (emptyL ns rs) i = true → ∃ r ∈ rs, ∃ c ∈ r.f1, r.f0.toNat = i ∧ nothB (emptyL ns rs) c.f1 = true := by
  have h := (iter_sup (stepsOf XE rs) (emptyL ns rs) (fun i => ∃ r ∈ rs, ∃ c ∈ r.f1, r.f0.toNat = i ∧ nothB (emptyL ns rs) c.f1 = true) (fun x hx t ht hc => ?_) (fun x hx hc => ?_) (fun x hx hc => ?_) (startE ns.length) (fun i hi => ?_) (fun i hi => ?_) (ns.length + 1)).2
  · rw [← emptyL_iter hm] at h
    exact h
  · obtain ⟨r, hr, c, hcc, hx⟩ := mem_stepsOf.1 hx
    rw [List.mem_singleton.1 hx] at hc ⊢
    exact nothB_mono ht c.f1 hc
  · obtain ⟨r, hr, c, hcc, hx⟩ := mem_stepsOf.1 hx
    rw [List.mem_singleton.1 hx] at hc ⊢
    exact emptyL_closed hm r hr c hcc hc
  · obtain ⟨r, hr, c, hcc, hx⟩ := mem_stepsOf.1 hx
    rw [List.mem_singleton.1 hx] at hc ⊢
    exact ⟨r, hr, c, hcc, rfl, hc⟩
  · rw [show startE ns.length = List.replicate ns.length false from rfl, rep_false] at hi; cases hi
  · rw [show startE ns.length = List.replicate ns.length false from rfl, rep_false] at hi; cases hi
theorem firstL_bits (k : Nat) (hk : k < 256) : bitL k (firstL ns rs) = iterT (runS (stepsOf (XF k (emptyL ns rs)) rs)) (ns.length + 1) (List.replicate ns.length false) := by
  have hp : ∀ s, InF ns.length s → bitL k (passT (stepF (emptyL ns rs)) rs s) = runS (stepsOf (XF k (emptyL ns rs)) rs) (bitL k s) ∧ InF ns.length (passT (stepF (emptyL ns rs)) rs s) := fun s hs => by
    have := passT_chan (stepF (emptyL ns rs)) (stepB k (emptyL ns rs)) (bitL k) (InF ns.length) rs (fun r _ c _ s h => inF_step h) (fun r hr c _ s h => stepF_bit h.2 (by rw [h.1]; exact heads_lt hm r hr) k hk) s hs
    rwa [passT_run (stepB_run k _)] at this
  have h : ∀ m, bitL k (iterT (passT (stepF (emptyL ns rs)) rs) m (startF ns.length)) = iterT (runS (stepsOf (XF k (emptyL ns rs)) rs)) m (List.replicate ns.length false) ∧ InF ns.length (iterT (passT (stepF (emptyL ns rs)) rs) m (startF ns.length)) := by
    intro m
    induction m with
    | zero =>
      refine ⟨?_, startF_in _⟩
      show bitL k (List.replicate _ z63) = _
      unfold bitL
      rw [List.map_replicate, z63_bit k hk]
      rfl
    | succ m ih =>
      obtain ⟨h1, h2⟩ := hp _ ih.2
      rw [iterT, iterT, ← ih.1]
      exact ⟨h1, h2⟩
  exact (h _).1
theorem firstL_closed (k : Nat) (hk : k < 256) : ∀ r ∈ rs, ∀ c ∈ r.f1, begB k (emptyL ns rs) (bitL k (firstL ns rs)) c.f1 = true → at_ (bitL k (firstL ns rs)) r.f0.toNat = true := by
  intro r hr c hc hn
  have hfix : runS (stepsOf (XF k (emptyL ns rs)) rs) (bitL k (firstL ns rs)) = bitL k (firstL ns rs) := by
    have h := (passT_chan (stepF (emptyL ns rs)) (stepB k (emptyL ns rs)) (bitL k) (InF ns.length) rs (fun r _ c _ s h => inF_step h) (fun r hr c _ s h => stepF_bit h.2 (by rw [h.1]; exact heads_lt hm r hr) k hk) (firstL ns rs) (firstL_in ns rs)).1
    rw [passT_run (stepB_run k _)] at h
    rw [← h]
    unfold firstL
    rw [passF_stand _ _ _ (heads_lt hm)]
  refine runS_closed _ _ hfix (fun x hx => ?_) (r.f0.toNat, fun t => begB k (emptyL ns rs) t c.f1) (mem_stepsOf.2 ⟨r, hr, c, hc, List.mem_singleton.2 rfl⟩) hn
  obtain ⟨r', hr', c', _, hx⟩ := mem_stepsOf.1 hx
  rw [List.mem_singleton.1 hx]
  show r'.f0.toNat < (bitL k (firstL ns rs)).length
  unfold bitL
  rw [List.length_map, (firstL_in ns rs).1]
  exact heads_lt hm r' hr'
theorem firstL_sup (k : Nat) (hk : k < 256) : ∀ i, at_ (bitL k (firstL ns rs)) i = true → ∃ r ∈ rs, ∃ c ∈ r.f1, r.f0.toNat = i ∧ begB k (emptyL ns rs) (bitL k (firstL ns rs)) c.f1 = true := by
  have h := (iter_sup (stepsOf (XF k (emptyL ns rs)) rs) (bitL k (firstL ns rs)) (fun i => ∃ r ∈ rs, ∃ c ∈ r.f1, r.f0.toNat = i ∧ begB k (emptyL ns rs) (bitL k (firstL ns rs)) c.f1 = true) (fun x hx t ht hc => ?_) (fun x hx hc => ?_) (fun x hx hc => ?_) (List.replicate ns.length false) (fun i hi => ?_) (fun i hi => ?_) (ns.length + 1)).2
  · rw [← firstL_bits hm k hk] at h
    exact h
  · obtain ⟨r, hr, c, hcc, hx⟩ := mem_stepsOf.1 hx
    rw [List.mem_singleton.1 hx] at hc ⊢
    exact begB_mono k (leB.refl _) ht c.f1 hc
  · obtain ⟨r, hr, c, hcc, hx⟩ := mem_stepsOf.1 hx
    rw [List.mem_singleton.1 hx] at hc ⊢
    exact firstL_closed hm k hk r hr c hcc hc
  · obtain ⟨r, hr, c, hcc, hx⟩ := mem_stepsOf.1 hx
    rw [List.mem_singleton.1 hx] at hc ⊢
    exact ⟨r, hr, c, hcc, rfl, hc⟩
  · rw [rep_false] at hi; cases hi
  · rw [rep_false] at hi; cases hi
end
end Go.Proofs.Ytpilkfodlhhjpaa.PFM
