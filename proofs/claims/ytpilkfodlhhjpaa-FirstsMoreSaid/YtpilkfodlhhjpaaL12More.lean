/- Layer 12, plain: the law FirstsMore answers true: what comes first, what may come to nothing and what may follow grow with the rules. -/
import Derived.Test.YtpilkfodlhhjpaaL12Fol
import Derived.Test.YtpilkfodlhhjpaaL10
import Derived.Test.YtpilkfodlhhjpaaPFMx10
import Derived.Test.YtpilkfodlhhjpaaOFM
namespace Go.Proofs.Ytpilkfodlhhjpaa.PFM
open Go.RowKit Go.Proofs.YtpilkfodlhhjpaaW.PrintWords Go.Proofs.YtpilkfodlhhjpaaW.PrintLast
set_option linter.unusedVariables false
set_option linter.unusedSectionVars false
theorem fm_minus (p q : Nat → Bool) (i : Nat) : Go.bits .andNot .u64 (setW p i) (setW q i) = setW (fun k => p k && !q k) i := by
  unfold setW
  obtain ⟨c, hc, hl, hb⟩ := u64_andNot (bsum (fun j => p (64 * i + j)) 64) (bsum (fun j => q (64 * i + j)) 64) (bsum_lt _ _)
  rw [hc]
  congr 1
  apply eq_of_bits hl (bsum_lt _ _)
  intro j hj
  rw [hb, bsum_testBit, bsum_testBit, bsum_testBit]
  simp [hj]
theorem fm_sub {x y : Set4} (hx : WfS x) (hy : WfS y) (h : ∀ k, k < 256 → bitS x k = true → bitS y k = true) : fmSub x y := by
  have e : ∀ i, i < 4 → mixOp 2 (setW (bitS x) i) (setW (bitS y) i) = 0 := fun i hi => by
    show Go.bits .andNot .u64 (setW (bitS x) i) (setW (bitS y) i) = 0
    rw [fm_minus, setW_congr (q := fun _ => false) (fun k hk => ?_) i hi, setW_false]
    cases hb : bitS x k with
    | false => rfl
    | true => rw [h k hk hb]; rfl
  have ex := ofP_of hx
  have ey := ofP_of hy
  unfold fmSub
  rw [← ex, ← ey]
  exact ⟨e 0 (by decide), e 1 (by decide), e 2 (by decide), e 3 (by decide)⟩
theorem addW_more (k : Nat) {e e' : List Bool} {fs fs' : List Set4} (he : leB e e') (hf : k < 256 → leB (bitL k fs) (bitL k fs')) (h : Nat) (q : List Sym) {F : List Bool} (hq : addW k e fs h q F = true) : addW k e' fs' h q F = true := by
  by_cases hk : k < 256
  · exact addW_mono k he (hf hk) h q (leB.refl _) hq
  · unfold addW at hq ⊢
    rw [if_neg hk, Bool.false_or, Bool.and_eq_true] at hq ⊢
    exact ⟨nothB_mono he q hq.1, hq.2⟩
theorem XW_more (k : Nat) {e e' : List Bool} {fs fs' : List Set4} (he : leB e e') (hf : k < 256 → leB (bitL k fs) (bitL k fs')) (h : Int) (F : List Bool) : ∀ (q : List Sym), ∀ y ∈ XW k e fs h q, y.2 F = true → ∃ z ∈ XW k e' fs' h q, z.1 = y.1 ∧ z.2 F = true
  | [], y, hy, _ => by cases hy
  | x :: q, y, hy, hF => by
    unfold XW at hy
    rcases List.mem_append.1 hy with hy | hy
    · by_cases hx : x.f0 < 0
      · rw [if_pos hx] at hy; cases hy
      · rw [if_neg hx] at hy
        rw [List.mem_singleton.1 hy] at hF ⊢
        refine ⟨(x.f0.toNat, addW k e' fs' h.toNat q), ?_, rfl, addW_more k he hf h.toNat q hF⟩
        unfold XW
        rw [if_neg hx]
        exact List.mem_append.2 (.inl (List.mem_singleton.2 rfl))
    · obtain ⟨z, hz, h1, h2⟩ := XW_more k he hf h F q y hy hF
      refine ⟨z, ?_, h1, h2⟩
      unfold XW
      exact List.mem_append.2 (.inr hz)
section
variable {a : Int} {ns : List ByteArray} {rs rt : List Ru} (hm : mayB a ns rs = true) (ht : mayB a ns rt = true) (hsub : ∀ r ∈ rs, ∃ s ∈ rt, s.f0 = r.f0 ∧ ∀ c ∈ r.f1, c ∈ s.f1)
include hm ht hsub
theorem more_empty : leB (emptyL ns rs) (emptyL ns rt) := by
  have h := (iter_sup (stepsOf XE rs) (emptyL ns rt) (fun _ => True) (fun x hx t hl hc => ?_) (fun x hx hc => ?_) (fun x hx hc => trivial) (startE ns.length) (fun i hi => ?_) (fun i hi => trivial) (ns.length + 1)).1
  · rw [← emptyL_iter hm] at h
    exact h
  · obtain ⟨r, hr, c, hcc, hx⟩ := mem_stepsOf.1 hx
    rw [List.mem_singleton.1 hx] at hc ⊢
    exact nothB_mono hl c.f1 hc
  · obtain ⟨r, hr, c, hcc, hx⟩ := mem_stepsOf.1 hx
    rw [List.mem_singleton.1 hx] at hc ⊢
    obtain ⟨s, hs, e0, e1⟩ := hsub r hr
    have := emptyL_closed ht s hs c (e1 c hcc) hc
    rw [e0] at this
    exact this
  · rw [show startE ns.length = List.replicate ns.length false from rfl, rep_false] at hi; cases hi
theorem more_first (k : Nat) (hk : k < 256) : leB (bitL k (firstL ns rs)) (bitL k (firstL ns rt)) := by
  have h := (iter_sup (stepsOf (XF k (emptyL ns rs)) rs) (bitL k (firstL ns rt)) (fun _ => True) (fun x hx t hl hc => ?_) (fun x hx hc => ?_) (fun x hx hc => trivial) (List.replicate ns.length false) (fun i hi => ?_) (fun i hi => trivial) (ns.length + 1)).1
  · rw [← firstL_bits hm k hk] at h
    exact h
  · obtain ⟨r, hr, c, hcc, hx⟩ := mem_stepsOf.1 hx
    rw [List.mem_singleton.1 hx] at hc ⊢
    exact begB_mono k (leB.refl _) hl c.f1 hc
  · obtain ⟨r, hr, c, hcc, hx⟩ := mem_stepsOf.1 hx
    rw [List.mem_singleton.1 hx] at hc ⊢
    obtain ⟨s, hs, e0, e1⟩ := hsub r hr
    have := firstL_closed ht k hk s hs c (e1 c hcc) (begB_mono k (more_empty hm ht hsub) (leB.refl _) c.f1 hc)
    rw [e0] at this
    exact this
  · rw [rep_false] at hi; cases hi
theorem more_follow (k : Nat) (hk : k < 257) : leB (bitsW k (followL a ns rs)) (bitsW k (followL a ns rt)) := by
  have h := (iter_sup (stepsOf (XW k (emptyL ns rs) (firstL ns rs)) rs) (bitsW k (followL a ns rt)) (fun _ => True) (fun x hx t hl hc => ?_) (fun x hx hc => ?_) (fun x hx hc => trivial) (bitsW k (startW ns.length a)) (fun i hi => ?_) (fun i hi => trivial) (ns.length + 1)).1
  · rw [← followL_bits hm k hk] at h
    exact h
  · obtain ⟨r, hr, c, hcc, hx⟩ := mem_stepsOf.1 hx
    exact XW_mono hm k _ _ _ _ x hx t _ hl hc
  · obtain ⟨r, hr, c, hcc, hx⟩ := mem_stepsOf.1 hx
    obtain ⟨s, hs, e0, e1⟩ := hsub r hr
    obtain ⟨z, hz, z1, z2⟩ := XW_more k (more_empty hm ht hsub) (fun h => more_first hm ht hsub k h) r.f0 _ c.f1 x hx hc
    rw [← z1]
    refine XW_closed ht k hk z (mem_stepsOf.2 ⟨s, hs, c, e1 c hcc, ?_⟩) z2
    rw [e0]
    exact hz
  · obtain ⟨h1, rfl⟩ := startW_bit hm k i hi
    obtain rfl : k = 256 := by omega
    exact followL_end ht
theorem more_good : fmGood ns.length (emptyL ns rs) (emptyL ns rt) (firstL ns rs) (firstL ns rt) (followL a ns rs) (followL a ns rt) := by
  refine ⟨emptyL_len _ _, emptyL_len _ _, (firstL_in ns rs).1, (firstL_in ns rt).1, (followL_in a ns rs).1, (followL_in a ns rt).1, fun i hi => ⟨fun h => more_empty hm ht hsub i h, fm_sub (wfL_get (firstL_in ns rs).2 i) (wfL_get (firstL_in ns rt).2 i) (fun k hk h => ?_), fm_sub (inW_get (followL_in a ns rs) i) (inW_get (followL_in a ns rt) i) (fun k hk h => ?_), fun h => ?_⟩⟩
  · have := more_first hm ht hsub k hk i
    rw [bitL_get k hk, bitL_get k hk] at this
    exact this h
  · have := more_follow hm ht hsub k (by omega) i
    rw [bitsW_get, bitsW_get] at this
    unfold bitW at this
    rw [if_pos hk, if_pos hk] at this
    exact this h
  · have := more_follow hm ht hsub 256 (by omega) i
    rw [bitsW_get, bitsW_get] at this
    unfold bitW at this
    rw [if_neg (by decide), if_neg (by decide)] at this
    exact this h
end
theorem fmAdd_sub (rs : List Ru) (K : Nat) (c : Cj) : ∀ r ∈ rs, ∃ s ∈ fmAdd rs K c, s.f0 = r.f0 ∧ ∀ d ∈ r.f1, d ∈ s.f1 := by
  intro r hr
  obtain ⟨j, hj, rfl⟩ := List.getElem_of_mem hr
  by_cases hjK : j = K
  · subst hjK
    refine ⟨⟨(rd_T55 rs (j : Int)).f0, (rd_T55 rs (j : Int)).f1 ++ [c]⟩, List.mem_of_getElem? (i := j) (List.getElem?_set_self hj), ?_, fun d hd => ?_⟩
    · show (rd_T55 rs (j : Int)).f0 = _
      rw [cg_rd55 _ j hj]
    · show d ∈ (rd_T55 rs (j : Int)).f1 ++ [c]
      rw [cg_rd55 _ j hj]
      exact List.mem_append.2 (.inl hd)
  · exact ⟨rs[j], List.mem_of_getElem? (i := j) ((List.getElem?_set_ne (fun e => hjK e.symm)).trans (List.getElem?_eq_getElem hj)), rfl, fun d hd => hd⟩
theorem ev_all {P : Nat → Nat → Prop} (h : ∀ K, ∃ k0, ∀ k, k0 ≤ k → P k K) : ∀ n, ∃ k0, ∀ k, k0 ≤ k → ∀ K, K < n → P k K
  | 0 => ⟨0, fun _ _ _ hK => absurd hK (by omega)⟩
  | n + 1 => by
    obtain ⟨k1, h1⟩ := ev_all h n
    obtain ⟨k2, h2⟩ := h n
    refine ⟨max k1 k2, fun k hk K hK => ?_⟩
    rcases Nat.lt_or_eq_of_le (Nat.le_of_lt_succ hK) with h3 | rfl
    · exact h1 k (by omega) K h3
    · exact h2 k (by omega)
theorem fmSized_of {a : Int} {nm : List ByteArray} {rs : List Ru} (h : G25 a nm rs) : fmSized nm rs := by
  obtain ⟨_, ⟨h1, _⟩, h2, h3⟩ := h
  refine ⟨by omega, by omega, fun r hr => ?_⟩
  obtain ⟨_, h4, h5⟩ := h3 r hr
  refine ⟨by omega, fun c hc => ?_⟩
  obtain ⟨_, h6, _⟩ := h5 c hc
  omega
theorem firstsMore_row (a : Int) (nm : List ByteArray) (rs : List Ru) (h : G25 a nm rs) (x : Int) (neg : Bool) (q : List Sym) (hq : GP58 neg q) : ∃ k, templelaw12_FirstsMore.f k a nm rs x neg q = some true := by
  obtain ⟨K1, e1⟩ := awake12
  obtain ⟨K2, e2⟩ := ref_May a nm rs
  obtain ⟨K3, e3⟩ := ev_all (P := fun k K => templeref1_May.f k a nm (fmAdd rs K ⟨neg, q⟩) = some (mayB a nm (fmAdd rs K ⟨neg, q⟩))) (fun K => ref_May a nm (fmAdd rs K ⟨neg, q⟩)) rs.length
  refine ⟨max K1 (max K2 K3), ?_⟩
  unfold templelaw12_FirstsMore.f
  rw [show templelaw12_awake.f (max K1 (max K2 K3)) = some true from e1 _ (by omega), Option.bind_some, if_pos rfl]
  exact if_pos ⟨fmSized_of h, fun K hK => ⟨e2 _ (by omega), e3 _ (by omega) K hK, fun hm ht => more_good hm ht (fmAdd_sub rs K _)⟩⟩
end Go.Proofs.Ytpilkfodlhhjpaa.PFM
