/- Layer 12, plain: what may follow is closed under the rules, holds the end behind the start, and is paid for by them. -/
import Derived.Test.YtpilkfodlhhjpaaL12LfpP
namespace Go.Proofs.Ytpilkfodlhhjpaa.PFM
open Go.RowKit Go.Proofs.YtpilkfodlhhjpaaW.PrintWords Go.Proofs.YtpilkfodlhhjpaaW.PrintLast
set_option linter.unusedVariables false
set_option linter.unusedSectionVars false
theorem mem_XW (k : Nat) (e : List Bool) (fs : List Set4) (h : Int) : ∀ (q : List Sym) (m : Nat) (hm : m < q.length), ¬ q[m].f0 < 0 → (q[m].f0.toNat, addW k e fs h.toNat (q.drop (m + 1))) ∈ XW k e fs h q
  | x :: q, 0, _, hn => by
    unfold XW
    rw [List.getElem_cons_zero] at hn ⊢
    rw [if_neg hn]
    exact List.mem_append.2 (.inl (List.mem_singleton.2 rfl))
  | x :: q, m + 1, hm, hn => by
    unfold XW
    exact List.mem_append.2 (.inr (mem_XW k e fs h q m (by simpa using hm) hn))
theorem XW_mem (k : Nat) (e : List Bool) (fs : List Set4) (h : Int) : ∀ (q : List Sym), ∀ y ∈ XW k e fs h q, ∃ x ∈ q, ¬ x.f0 < 0 ∧ y.1 = x.f0.toNat
  | [], y, hy => by cases hy
  | x :: q, y, hy => by
    unfold XW at hy
    rcases List.mem_append.1 hy with hy | hy
    · by_cases hx : x.f0 < 0
      · rw [if_pos hx] at hy; cases hy
      · rw [if_neg hx] at hy
        exact ⟨x, List.mem_cons_self, hx, by rw [List.mem_singleton.1 hy]⟩
    · obtain ⟨z, hz, h1, h2⟩ := XW_mem k e fs h q y hy
      exact ⟨z, List.mem_cons_of_mem _ hz, h1, h2⟩
section
variable {a : Int} {ns : List ByteArray} {rs : List Ru} (hm : mayB a ns rs = true)
include hm
theorem syms_lt : ∀ r ∈ rs, ∀ c ∈ r.f1, ∀ x ∈ c.f1, x.f0 < ns.length := fun r hr c hc x hx => by
  have F := may_facts hm
  have := symF_of (F.sy r hr c hc x hx)
  have := F.n1
  unfold SymF at *
  omega
theorem followW_pass (k : Nat) (hk : k < 257) (s : List Fo) (hs : InW ns.length s) : bitsW k (passT (posW (emptyL ns rs) (firstL ns rs)) rs s) = runS (stepsOf (XW k (emptyL ns rs) (firstL ns rs)) rs) (bitsW k s) ∧ InW ns.length (passT (posW (emptyL ns rs) (firstL ns rs)) rs s) := by
  have h := passT_chan (posW (emptyL ns rs) (firstL ns rs)) (posB k (emptyL ns rs) (firstL ns rs)) (bitsW k) (InW ns.length) rs (fun r _ c _ s h => posW_in (firstL_in ns rs).2 _ _ h) (fun r hr c hc s h => posW_bit (firstL_in ns rs).2 k hk _ _ (syms_lt hm r hr c hc) h) s hs
  rwa [passT_run (posB_run k _ _)] at h
theorem followL_closed (k : Nat) (hk : k < 257) : ∀ r ∈ rs, ∀ c ∈ r.f1, ∀ (m : Nat) (hl : m < c.f1.length), ¬ c.f1[m].f0 < 0 → addW k (emptyL ns rs) (firstL ns rs) r.f0.toNat (c.f1.drop (m + 1)) (bitsW k (followL a ns rs)) = true → at_ (bitsW k (followL a ns rs)) c.f1[m].f0.toNat = true := by
  intro r hr c hc m hl hn ha
  have hfix : runS (stepsOf (XW k (emptyL ns rs) (firstL ns rs)) rs) (bitsW k (followL a ns rs)) = bitsW k (followL a ns rs) := by
    rw [← (followW_pass hm k hk _ (followL_in a ns rs)).1]
    unfold followL
    rw [passW_stand _ _ _ _ (firstL_in ns rs).2 _ (syms_lt hm)]
  refine runS_closed _ _ hfix (fun x hx => ?_) (c.f1[m].f0.toNat, addW k (emptyL ns rs) (firstL ns rs) r.f0.toNat (c.f1.drop (m + 1))) (mem_stepsOf.2 ⟨r, hr, c, hc, mem_XW k _ _ _ _ m hl hn⟩) ha
  obtain ⟨r', hr', c', hc', hx⟩ := mem_stepsOf.1 hx
  obtain ⟨y, hy, h1, h2⟩ := XW_mem k _ _ _ _ x hx
  have := syms_lt hm r' hr' c' hc' y hy
  rw [h2]
  unfold bitsW
  rw [List.length_map, (followL_in a ns rs).1]
  omega
theorem followL_end : at_ (bitsW 256 (followL a ns rs)) a.toNat = true := by
  have F := may_facts hm
  refine (iter_inv (passT (posW (emptyL ns rs) (firstL ns rs)) rs) (fun s => InW ns.length s ∧ at_ (bitsW 256 s) a.toNat = true) (fun s hs => ?_) (startW ns.length a) ⟨startW_in _ _, ?_⟩ (ns.length + 1)).2
  · obtain ⟨h1, h2⟩ := followW_pass hm 256 (by omega) s hs.1
    refine ⟨h2, ?_⟩
    rw [h1]
    exact runS_ge _ _ _ hs.2
  · show (bitsW 256 (startW ns.length a)).getD a.toNat false = true
    rw [bitsW_get]
    unfold startW bitW
    rw [if_neg (by omega), List.getD_eq_getElem?_getD, List.getElem?_set_self (by rw [List.length_replicate]; have := F.s0; have := F.s1; omega)]
    rfl
end
theorem or_same {y b : Set4} (hy : WfS y) (hb : WfS b) (h : ∀ k, k < 256 → bitS b k = true → bitS y k = true) : orS y b = y := by
  obtain ⟨h1, h2⟩ := orS_bit hy hb
  refine S_ext h1 hy (fun k hk => ?_)
  rw [h2 k hk]
  cases e : bitS b k with
  | false => rw [Bool.or_false]
  | true => rw [h k hk e]; rfl
section
variable {a : Int} {ns : List ByteArray} {rs : List Ru} (hm : mayB a ns rs = true)
include hm
theorem XW_mono (k : Nat) (e : List Bool) (fs : List Set4) (h : Int) : ∀ (q : List Sym), ∀ y ∈ XW k e fs h q, ∀ t F : List Bool, leB t F → y.2 t = true → y.2 F = true
  | [], y, hy => by cases hy
  | x :: q, y, hy => by
    unfold XW at hy
    rcases List.mem_append.1 hy with hy | hy
    · by_cases hx : x.f0 < 0
      · rw [if_pos hx] at hy; cases hy
      · rw [if_neg hx] at hy
        intro t F hl hq
        rw [List.mem_singleton.1 hy] at hq ⊢
        exact addW_mono k (leB.refl _) (leB.refl _) h.toNat q hl hq
    · exact XW_mono k e fs h q y hy
theorem XW_closed (k : Nat) (hk : k < 257) : ∀ y ∈ stepsOf (XW k (emptyL ns rs) (firstL ns rs)) rs, y.2 (bitsW k (followL a ns rs)) = true → at_ (bitsW k (followL a ns rs)) y.1 = true := by
  intro y hy ha
  have hfix : runS (stepsOf (XW k (emptyL ns rs) (firstL ns rs)) rs) (bitsW k (followL a ns rs)) = bitsW k (followL a ns rs) := by
    rw [← (followW_pass hm k hk _ (followL_in a ns rs)).1]
    unfold followL
    rw [passW_stand _ _ _ _ (firstL_in ns rs).2 _ (syms_lt hm)]
  refine runS_closed _ _ hfix (fun x hx => ?_) y hy ha
  obtain ⟨r', hr', c', hc', hx⟩ := mem_stepsOf.1 hx
  obtain ⟨y, hy, h1, h2⟩ := XW_mem k _ _ _ _ x hx
  have := syms_lt hm r' hr' c' hc' y hy
  rw [h2]
  unfold bitsW
  rw [List.length_map, (followL_in a ns rs).1]
  omega
theorem followL_bits (k : Nat) (hk : k < 257) : bitsW k (followL a ns rs) = iterT (runS (stepsOf (XW k (emptyL ns rs) (firstL ns rs)) rs)) (ns.length + 1) (bitsW k (startW ns.length a)) := by
  have h : ∀ m, bitsW k (iterT (passT (posW (emptyL ns rs) (firstL ns rs)) rs) m (startW ns.length a)) = iterT (runS (stepsOf (XW k (emptyL ns rs) (firstL ns rs)) rs)) m (bitsW k (startW ns.length a)) ∧ InW ns.length (iterT (passT (posW (emptyL ns rs) (firstL ns rs)) rs) m (startW ns.length a)) := by
    intro m
    induction m with
    | zero => exact ⟨rfl, startW_in _ _⟩
    | succ m ih =>
      obtain ⟨h1, h2⟩ := followW_pass hm k hk _ ih.2
      rw [iterT, iterT, ← ih.1]
      exact ⟨h1, h2⟩
  exact (h _).1
theorem startW_bit (k : Nat) (i : Nat) (h : at_ (bitsW k (startW ns.length a)) i = true) : ¬ k < 256 ∧ i = a.toNat := by
  rw [at_, bitsW_get] at h
  unfold startW at h
  rw [List.getD_eq_getElem?_getD, List.getElem?_set] at h
  by_cases e : a.toNat = i
  · refine ⟨fun hk => ?_, e.symm⟩
    rw [if_pos e] at h
    split at h
    · have h2 : bitW k (⟨z63, true⟩ : Fo) = true := h
      unfold bitW at h2
      rw [if_pos hk, z63_bit k hk] at h2
      cases h2
    · have h2 : bitW k z66 = true := h
      rw [z66_bit] at h2
      cases h2
  · rw [if_neg e] at h
    exfalso
    have h2 : bitW k (((List.replicate ns.length z66)[i]?).getD z66) = true := h
    by_cases hi : i < ns.length
    · rw [List.getElem?_replicate, if_pos hi, Option.getD_some, z66_bit] at h2
      cases h2
    · rw [List.getElem?_replicate, if_neg hi, Option.getD_none, z66_bit] at h2
      cases h2
theorem followL_sup (k : Nat) (hk : k < 257) : ∀ i, at_ (bitsW k (followL a ns rs)) i = true → (¬ k < 256 ∧ i = a.toNat) ∨ ∃ r ∈ rs, ∃ c ∈ r.f1, ∃ x ∈ c.f1, ¬ x.f0 < 0 ∧ i = x.f0.toNat := by
  have h := (iter_sup (stepsOf (XW k (emptyL ns rs) (firstL ns rs)) rs) (bitsW k (followL a ns rs)) (fun i => (¬ k < 256 ∧ i = a.toNat) ∨ ∃ r ∈ rs, ∃ c ∈ r.f1, ∃ x ∈ c.f1, ¬ x.f0 < 0 ∧ i = x.f0.toNat) (fun x hx t ht hc => ?_) (fun x hx hc => XW_closed hm k hk x hx hc) (fun x hx hc => ?_) (bitsW k (startW ns.length a)) (fun i hi => ?_) (fun i hi => .inl (startW_bit hm k i hi)) (ns.length + 1)).2
  · rw [← followL_bits hm k hk] at h
    exact h
  · obtain ⟨r, hr, c, hcc, hx⟩ := mem_stepsOf.1 hx
    exact XW_mono hm k _ _ _ _ x hx t _ ht hc
  · obtain ⟨r, hr, c, hcc, hx⟩ := mem_stepsOf.1 hx
    obtain ⟨y, hy, h1, h2⟩ := XW_mem k _ _ _ _ x hx
    exact .inr ⟨r, hr, c, hcc, y, hy, h1, h2⟩
  · obtain ⟨h1, rfl⟩ := startW_bit hm k i hi
    obtain rfl : k = 256 := by omega
    exact followL_end hm
end
end Go.Proofs.Ytpilkfodlhhjpaa.PFM
