/- Layer 12, plain: the law FollowsHold answers true. -/
import Derived.Test.YtpilkfodlhhjpaaL12Lfp
import Derived.Test.YtpilkfodlhhjpaaPFWx27
namespace Go.Proofs.Ytpilkfodlhhjpaa.PFW
open Go.RowKit Go.Proofs.YtpilkfodlhhjpaaW.PrintWords Go.Proofs.YtpilkfodlhhjpaaW.PrintLast
set_option linter.unusedVariables false
set_option linter.unusedSectionVars false
theorem ev_st' {α : Type} {g f : Nat → Option α} {r : α} (h : Ev f r) (hs : ∀ k, g (k + 1) = f k) : Ev g r := Ev.step hs h
theorem fo_neg {α : Type} {c : Prop} [Decidable c] {A B r : α} (h : ¬ c) (g : B = r) : (if c then A else B) = r := (if_neg h).trans g
theorem mem_XW (k : Nat) (e : List Bool) (fs : List Set4) (h : Int) : ∀ (q : List Sym) (m : Nat) (hm : m < q.length), ¬ q[m].f0 < 0 → (q[m].f0.toNat, addW k e fs h.toNat (q.drop (m + 1))) ∈ XW k e fs h q
  | x :: q, 0, _, hn => by
    unfold XW
    rw [List.getElem_cons_zero] at hn ⊢
    rw [if_neg hn]
    exact List.mem_append.2 (.inl (List.mem_singleton.2 rfl))
  | x :: q, m + 1, hm, hn => by
    unfold XW
    exact List.mem_append.2 (.inr (mem_XW k e fs h q m (by simpa using hm) hn))
theorem XW_mem (k : Nat) (e : List Bool) (fs : List Set4) (h : Int) : ∀ (q : List Sym), ∀ y ∈ XW k e fs h q, ∃ x ∈ q, ¬ x.f0 < 0 ∧ y.1 = x.f0.toNat
  | [], y, hy => by cases hy
  | x :: q, y, hy => by
    unfold XW at hy
    rcases List.mem_append.1 hy with hy | hy
    · by_cases hx : x.f0 < 0
      · rw [if_pos hx] at hy; cases hy
      · rw [if_neg hx] at hy
        exact ⟨x, List.mem_cons_self, hx, by rw [List.mem_singleton.1 hy]⟩
    · obtain ⟨z, hz, h1, h2⟩ := XW_mem k e fs h q y hy
      exact ⟨z, List.mem_cons_of_mem _ hz, h1, h2⟩
section
variable {a : Int} {ns : List ByteArray} {rs : List Ru} (hm : mayB a ns rs = true)
include hm
theorem syms_lt : ∀ r ∈ rs, ∀ c ∈ r.f1, ∀ x ∈ c.f1, x.f0 < ns.length := fun r hr c hc x hx => by
  have F := may_facts hm
  have := symF_of (F.sy r hr c hc x hx)
  have := F.n1
  unfold SymF at *
  omega
theorem followW_pass (k : Nat) (hk : k < 257) (s : List Fo) (hs : InW ns.length s) : bitsW k (passT (posW (emptyL ns rs) (firstL ns rs)) rs s) = runS (stepsOf (XW k (emptyL ns rs) (firstL ns rs)) rs) (bitsW k s) ∧ InW ns.length (passT (posW (emptyL ns rs) (firstL ns rs)) rs s) := by
  have h := passT_chan (posW (emptyL ns rs) (firstL ns rs)) (posB k (emptyL ns rs) (firstL ns rs)) (bitsW k) (InW ns.length) rs (fun r _ c _ s h => posW_in (firstL_in ns rs).2 _ _ h) (fun r hr c hc s h => posW_bit (firstL_in ns rs).2 k hk _ _ (syms_lt hm r hr c hc) h) s hs
  rwa [passT_run (posB_run k _ _)] at h
theorem followL_closed (k : Nat) (hk : k < 257) : ∀ r ∈ rs, ∀ c ∈ r.f1, ∀ (m : Nat) (hl : m < c.f1.length), ¬ c.f1[m].f0 < 0 → addW k (emptyL ns rs) (firstL ns rs) r.f0.toNat (c.f1.drop (m + 1)) (bitsW k (followL a ns rs)) = true → at_ (bitsW k (followL a ns rs)) c.f1[m].f0.toNat = true := by
  intro r hr c hc m hl hn ha
  have hfix : runS (stepsOf (XW k (emptyL ns rs) (firstL ns rs)) rs) (bitsW k (followL a ns rs)) = bitsW k (followL a ns rs) := by
    rw [← (followW_pass hm k hk _ (followL_in a ns rs)).1]
    unfold followL
    rw [passW_stand _ _ _ _ (firstL_in ns rs).2 _ (syms_lt hm)]
  refine runS_closed _ _ hfix (fun x hx => ?_) (c.f1[m].f0.toNat, addW k (emptyL ns rs) (firstL ns rs) r.f0.toNat (c.f1.drop (m + 1))) (mem_stepsOf.2 ⟨r, hr, c, hc, mem_XW k _ _ _ _ m hl hn⟩) ha
  obtain ⟨r', hr', c', hc', hx⟩ := mem_stepsOf.1 hx
  obtain ⟨y, hy, h1, h2⟩ := XW_mem k _ _ _ _ x hx
  have := syms_lt hm r' hr' c' hc' y hy
  rw [h2]
  unfold bitsW
  rw [List.length_map, (followL_in a ns rs).1]
  omega
theorem followL_end : at_ (bitsW 256 (followL a ns rs)) a.toNat = true := by
  have F := may_facts hm
  refine (iter_inv (passT (posW (emptyL ns rs) (firstL ns rs)) rs) (fun s => InW ns.length s ∧ at_ (bitsW 256 s) a.toNat = true) (fun s hs => ?_) (startW ns.length a) ⟨startW_in _ _, ?_⟩ (ns.length + 1)).2
  · obtain ⟨h1, h2⟩ := followW_pass hm 256 (by omega) s hs.1
    refine ⟨h2, ?_⟩
    rw [h1]
    exact runS_ge _ _ _ hs.2
  · show (bitsW 256 (startW ns.length a)).getD a.toNat false = true
    rw [bitsW_get]
    unfold startW bitW
    rw [if_neg (by omega), List.getD_eq_getElem?_getD, List.getElem?_set_self (by rw [List.length_replicate]; have := F.s0; have := F.s1; omega)]
    rfl
end
/-- What the law asks of the answer. -/
structure FoOk (e : List Bool) (fs : List Set4) (W : List Fo) (hd : Int) (q : List Sym) : Prop where
  hl : fs.length = e.length
  wl : W.length = e.length
  wf : WfL fs
  ww : ∀ i, WfS (W.getD i z66).f0
  h0 : 0 ≤ hd
  h1 : hd < e.length
  sy : ∀ s ∈ q, SymF e.length s
  sz : q.length < 9223372036854775807
  cl : ∀ (k : Nat), k < 257 → ∀ (m : Nat) (hm : m < q.length), ¬ q[m].f0 < 0 → addW k e fs hd.toNat (q.drop (m + 1)) (bitsW k W) = true → bitW k (W.getD q[m].f0.toNat z66) = true
theorem or_same {y b : Set4} (hy : WfS y) (hb : WfS b) (h : ∀ k, k < 256 → bitS b k = true → bitS y k = true) : orS y b = y := by
  obtain ⟨h1, h2⟩ := orS_bit hy hb
  refine S_ext h1 hy (fun k hk => ?_)
  rw [h2 k hk]
  cases e : bitS b k with
  | false => rw [Bool.or_false]
  | true => rw [h k hk e]; rfl
section
variable (e : List Bool) (fs : List Set4) (W : List Fo) (i j : Int) (a : Int) (ns : List ByteArray) (rs : List Ru) (r : Bool)
theorem fo_j4 (q : List Sym) (tl : Bool) (v : Int) (nx : Set4) (x : Sym) (h0 : 0 ≤ x.f0) (h1 : x.f0 < e.length) (hl : fs.length = e.length)
    (h : Ev (fun k => templelaw12_FollowsHold.l2 k e fs W i j q (if e.getD x.f0.toNat false = true then tl else false) (wrap64 (v - 1)) a ns rs (if e.getD x.f0.toNat false = true then orS nx (fs.getD x.f0.toNat z63) else fs.getD x.f0.toNat z63).f0 (if e.getD x.f0.toNat false = true then orS nx (fs.getD x.f0.toNat z63) else fs.getD x.f0.toNat z63).f1 (if e.getD x.f0.toNat false = true then orS nx (fs.getD x.f0.toNat z63) else fs.getD x.f0.toNat z63).f2 (if e.getD x.f0.toNat false = true then orS nx (fs.getD x.f0.toNat z63) else fs.getD x.f0.toNat z63).f3) r) :
    Ev (fun k => templelaw12_FollowsHold.j4 k e fs W i j q tl v false a ns rs nx.f0 nx.f1 nx.f2 nx.f3 x.f0 x.f1 x.f2) r := by
  by_cases he : e.getD x.f0.toNat false = true
  · simp only [if_pos he] at h
    refine ev_st' h (fun k => ?_)
    rw [templelaw12_FollowsHold.j4]
    exact fo_neg (by decide) <| st_pos h0 <| st_pos h1 <| st_pos he <| st_pos (show x.f0 < (fs.length : Int) by omega) <| st_bind (co_mixf nx (fs.getD x.f0.toNat z63)) rfl
  · simp only [if_neg he] at h
    refine ev_st' h (fun k => ?_)
    rw [templelaw12_FollowsHold.j4]
    exact fo_neg (by decide) <| st_pos h0 <| st_pos h1 <| fo_neg he <| st_pos (show x.f0 < (fs.length : Int) by omega) rfl
theorem fo_l2 (u : Ru) (hu : rd_T55 rs i = u) (hi0 : 0 ≤ i) (hi1 : i < rs.length) (q : List Sym) (O : FoOk e fs W u.f0 q) (h : Ev (fun k => templelaw12_FollowsHold.l1 k e fs W i (wrap64 (j + 1)) a ns rs) r) :
    ∀ (m : Nat), m ≤ q.length → ∀ (tl : Bool) (nx : Set4) (v : Int), v = (m : Int) - 1 → WfS nx → tl = nothB e (q.drop m) → (∀ k, k < 256 → bitS nx k = begB k e (bitL k fs) (q.drop m)) →
      Ev (fun k => templelaw12_FollowsHold.l2 k e fs W i j q tl v a ns rs nx.f0 nx.f1 nx.f2 nx.f3) r := by
  intro m
  induction m with
  | zero =>
    intro _ tl nx v hv _ _ _
    exact ev_st' h (fun k => by rw [templelaw12_FollowsHold.l2]; exact fo_neg (by omega) rfl)
  | succ m ih =>
    intro hmq tl nx v hv hnx ht hb
    have hv : v = (m : Int) := by omega
    subst hv
    have hlt : m < q.length := by omega
    obtain ⟨x, hx⟩ : ∃ x, x = q[m] := ⟨_, rfl⟩
    have hmem : x ∈ q := by rw [hx]; exact List.getElem_mem hlt
    have hrd : rd_T68 q (m : Int) = x := by
      show q.getD m _ = x
      rw [List.getD_eq_getElem?_getD, List.getElem?_eq_getElem hlt, ← hx]; rfl
    have hdr : q.drop m = x :: q.drop (m + 1) := by rw [hx]; exact List.drop_eq_getElem_cons hlt
    have hw : wrap64 ((m : Int) - 1) = (m : Int) - 1 := by have := O.sz; unfold wrap64; omega
    have hxs := O.sy x hmem
    have hih := ih (by omega)
    rw [hdr] at hih
    by_cases hn : x.f0 < 0
    · have hr : 0 ≤ x.f1 ∧ x.f2 ≤ 255 ∧ x.f1 ≤ x.f2 := by unfold SymF at hxs; omega
      have h2 := hih false (rangeS x.f1 x.f2) (wrap64 ((m : Int) - 1)) hw (rangeS_wf _ _) (by unfold nothB; rw [List.all_cons, decide_eq_false (show ¬ 0 ≤ x.f0 by omega)]; rfl) (fun k hk => by rw [rangeS_bit _ _ _ hk, begB, if_pos hn])
      refine ev_st' h2 (fun k => ?_)
      rw [templelaw12_FollowsHold.l2, hrd]
      refine st_pos (show (m : Int) ≥ 0 by omega) <| st_pos (show (0 : Int) ≤ m by omega) <| st_pos (show (m : Int) < (q.length : Int) by omega) <| fo_neg (show ¬ x.f0 ≥ 0 by omega) <| st_bind (a := (setW (rangeP x.f1 x.f2) 0, setW (rangeP x.f1 x.f2) 1, setW (rangeP x.f1 x.f2) 2, setW (rangeP x.f1 x.f2) 3, 0)) ?_ rfl
      unfold templeref1_Range.f
      rw [if_pos hr]
    · have hr : 0 ≤ x.f0 ∧ x.f0 < e.length := by unfold SymF at hxs; omega
      have hcl : ∀ k, k < 257 → addW k e fs u.f0.toNat (q.drop (m + 1)) (bitsW k W) = true → bitW k (W.getD x.f0.toNat z66) = true := fun k hk => by
        have := O.cl k hk m hlt
        rw [← hx] at this
        exact this hn
      have h2 := hih (if e.getD x.f0.toNat false = true then tl else false) (if e.getD x.f0.toNat false = true then orS nx (fs.getD x.f0.toNat z63) else fs.getD x.f0.toNat z63) (wrap64 ((m : Int) - 1)) hw (by
          split
          · exact (orS_bit hnx (wfL_get O.wf _)).1
          · exact wfL_get O.wf _) (by
          unfold nothB
          rw [List.all_cons, decide_eq_true hr.1, Bool.true_and]
          by_cases he : e.getD x.f0.toNat false = true
          · rw [if_pos he, he, Bool.true_and, ht]; rfl
          · rw [if_neg he, Bool.eq_false_iff.2 he, Bool.false_and]) (fun k hk => by
          rw [begB, if_neg hn]
          by_cases he : e.getD x.f0.toNat false = true
          · rw [if_pos he, if_pos he, (orS_bit hnx (wfL_get O.wf _)).2 k hk, hb k hk, bitL_get k hk, Bool.or_comm]
          · rw [if_neg he, if_neg he, Bool.or_false, bitL_get k hk])
      have h4 := fo_j4 e fs W i j a ns rs r q tl (m : Int) nx x hr.1 hr.2 O.hl h2
      obtain ⟨y, hy⟩ : ∃ y, y = W.getD x.f0.toNat z66 := ⟨_, rfl⟩
      have hyr : rd_T66 W x.f0 = y := hy.symm
      have hyw : WfS y.f0 := by rw [hy]; exact O.ww _
      rw [← hy] at hcl
      have hm1 : orS y.f0 nx = y.f0 := or_same hyw hnx (fun k hk hb1 => by
        have := hcl k (by omega) (by unfold addW; rw [if_pos hk, ← hb k hk, hb1]; rfl)
        unfold bitW at this
        rwa [if_pos hk] at this)
      have hmix : templeref1_Mix.f 0 y.f0.f0 y.f0.f1 y.f0.f2 y.f0.f3 nx.f0 nx.f1 nx.f2 nx.f3 = some (y.f0.f0, y.f0.f1, y.f0.f2, y.f0.f3) := by rw [co_mixf, hm1]
      have hno : ∀ (y : Set4), ¬ (!(y.f0 == y.f0) || (!(y.f1 == y.f1) || (!(y.f2 == y.f2) || (!(y.f3 == y.f3))))) = true := fun y => by simp
      refine ev_st' h4 (fun k => ?_)
      rw [templelaw12_FollowsHold.l2, hrd, hyr]
      refine st_pos (show (m : Int) ≥ 0 by omega) <| st_pos (show (0 : Int) ≤ m by omega) <| st_pos (show (m : Int) < (q.length : Int) by omega) <| st_pos (show x.f0 ≥ 0 by omega) <| st_pos hr.1 <| st_pos (show x.f0 < (W.length : Int) by rw [O.wl]; exact hr.2) <| st_bind hmix <| fo_neg (hno y.f0) ?_
      cases tl with
      | false => exact fo_neg (by decide) rfl
      | true =>
        obtain ⟨z, hz⟩ : ∃ z, z = W.getD u.f0.toNat z66 := ⟨_, rfl⟩
        have hzr : rd_T66 W u.f0 = z := hz.symm
        have hzw : WfS z.f0 := by rw [hz]; exact O.ww _
        have hz2 : ∀ k, k < 257 → bitW k z = true → bitW k y = true := fun k hk hb1 => hcl k hk (by
          unfold addW
          rw [← ht, bitsW_get, ← hz, hb1, Bool.true_and, Bool.or_true])
        have hm2 : orS y.f0 z.f0 = y.f0 := or_same hyw hzw (fun k hk hb1 => by
          have := hz2 k (by omega) (by unfold bitW; rwa [if_pos hk])
          unfold bitW at this
          rwa [if_pos hk] at this)
        have hmix2 : templeref1_Mix.f 0 y.f0.f0 y.f0.f1 y.f0.f2 y.f0.f3 z.f0.f0 z.f0.f1 z.f0.f2 z.f0.f3 = some (y.f0.f0, y.f0.f1, y.f0.f2, y.f0.f3) := by rw [co_mixf, hm2]
        rw [hu, hzr]
        refine st_pos rfl <| st_pos hi0 <| st_pos hi1 <| st_pos O.h0 <| st_pos (show u.f0 < (W.length : Int) by rw [O.wl]; exact O.h1) <| st_bind hmix2 <| fo_neg (hno y.f0) ?_
        by_cases hze : z.f1 = true
        · have hye : y.f1 = true := by
            have := hz2 256 (by omega) (by unfold bitW; rwa [if_neg (by omega)])
            unfold bitW at this
            rwa [if_neg (by omega)] at this
          exact st_pos hze (by rw [hye]; rfl)
        · exact fo_neg hze rfl
end
theorem foOk_of {a : Int} {ns : List ByteArray} {rs : List Ru} (hm : mayB a ns rs = true) (u : Ru) (hu : u ∈ rs) (c : Cj) (hc : c ∈ u.f1) : FoOk (emptyL ns rs) (firstL ns rs) (followL a ns rs) u.f0 c.f1 := by
  have F := may_facts hm
  have hle := emptyL_len ns rs
  have hlf := (firstL_in ns rs).1
  have hlw := (followL_in a ns rs).1
  exact {
    hl := by omega
    wl := by omega
    wf := (firstL_in ns rs).2
    ww := fun i => inW_get (followL_in a ns rs) i
    h0 := F.hd0 u hu
    h1 := by have := F.hd1 u hu; omega
    sy := fun s hs => by rw [hle]; exact symF_of (F.sy u hu c hc s hs)
    sz := by have := F.sq u hu c hc; omega
    cl := fun k hk m hl hn ha => by
      have := followL_closed hm k hk u hu c hc m hl hn ha
      rwa [show at_ (bitsW k (followL a ns rs)) c.f1[m].f0.toNat = _ from bitsW_get k _ _] at this }
theorem fo_l1 {a : Int} {ns : List ByteArray} {rs : List Ru} (hm : mayB a ns rs = true) (r : Bool) (i : Nat) (hi : i < rs.length) (u : Ru) (hu : rd_T55 rs (i : Int) = u) (hmem : u ∈ rs)
    (h : Ev (fun k => templelaw12_FollowsHold.l0 k (emptyL ns rs) (firstL ns rs) (followL a ns rs) (wrap64 ((i : Int) + 1)) a ns rs) r) :
    ∀ (d j : Nat), j + d = u.f1.length → Ev (fun k => templelaw12_FollowsHold.l1 k (emptyL ns rs) (firstL ns rs) (followL a ns rs) (i : Int) (j : Int) a ns rs) r := by
  have F := may_facts hm
  have hc8 := F.cj u hmem
  have hi0 : (0 : Int) ≤ (i : Int) := by omega
  have hi1 : (i : Int) < (rs.length : Int) := by omega
  intro d
  induction d with
  | zero =>
    intro j hj
    have hj : j = u.f1.length := by omega
    subst hj
    refine ev_st' h (fun k => ?_)
    rw [templelaw12_FollowsHold.l1, hu]
    exact st_pos hi0 <| st_pos hi1 <| fo_neg (Int.lt_irrefl _) rfl
  | succ d ih =>
    intro j hj
    have hlt : j < u.f1.length := by omega
    obtain ⟨c, hc⟩ : ∃ c, c = u.f1[j] := ⟨_, rfl⟩
    have hcm : c ∈ u.f1 := by rw [hc]; exact List.getElem_mem hlt
    have hrd : rd_T58 u.f1 (j : Int) = c := by
      show u.f1.getD j _ = c
      rw [List.getD_eq_getElem?_getD, List.getElem?_eq_getElem hlt, ← hc]; rfl
    have h1 := ih (j + 1) (by omega)
    rw [← wrap_nat j (by omega)] at h1
    have O := foOk_of hm u hmem c hcm
    have hw : wrap64 ((c.f1.length : Int) - 1) = (c.f1.length : Int) - 1 := by have := O.sz; unfold wrap64; omega
    have h2 := fo_l2 (emptyL ns rs) (firstL ns rs) (followL a ns rs) (i : Int) (j : Int) a ns rs r u hu hi0 hi1 c.f1 O h1 c.f1.length (Nat.le_refl _) true z63 (wrap64 ((c.f1.length : Int) - 1)) hw z63_wf (by rw [List.drop_length]; rfl) (fun k hk => by rw [List.drop_length, z63_bit k hk]; rfl)
    refine ev_st' h2 (fun k => ?_)
    rw [templelaw12_FollowsHold.l1, hu, hrd]
    exact st_pos hi0 <| st_pos hi1 <| st_pos (show (j : Int) < (u.f1.length : Int) by omega) <| st_pos (show (0 : Int) ≤ (j : Int) by omega) rfl
theorem fo_l0 {a : Int} {ns : List ByteArray} {rs : List Ru} (hm : mayB a ns rs = true) :
    ∀ (d i : Nat), i + d = rs.length → Ev (fun k => templelaw12_FollowsHold.l0 k (emptyL ns rs) (firstL ns rs) (followL a ns rs) (i : Int) a ns rs) true := by
  have F := may_facts hm
  have hr2 := F.r2
  intro d
  induction d with
  | zero =>
    intro i hi
    exact ⟨1, fun k hk => by
      obtain ⟨k, rfl⟩ : ∃ k', k = k' + 1 := ⟨k - 1, by omega⟩
      show templelaw12_FollowsHold.l0 _ _ _ _ _ _ _ _ = _
      rw [templelaw12_FollowsHold.l0]
      exact fo_neg (by omega) rfl⟩
  | succ d ih =>
    intro i hi
    have hlt : i < rs.length := by omega
    obtain ⟨u, hu⟩ : ∃ u, u = rs[i] := ⟨_, rfl⟩
    have hmem : u ∈ rs := by rw [hu]; exact List.getElem_mem hlt
    have hrd : rd_T55 rs (i : Int) = u := by
      show rs.getD i _ = u
      rw [List.getD_eq_getElem?_getD, List.getElem?_eq_getElem hlt, ← hu]; rfl
    have h := ih (i + 1) (by omega)
    rw [← wrap_nat i (by omega)] at h
    have h1 := fo_l1 hm true i hlt u hrd hmem h u.f1.length 0 (by omega)
    exact ev_st' h1 (fun k => by rw [templelaw12_FollowsHold.l0]; exact st_pos (show (i : Int) < (rs.length : Int) by omega) rfl)
theorem followsHold_law (a : Int) (ns : List ByteArray) (rs : List Ru) : ∃ k, templelaw12_FollowsHold.f k a ns rs = some true := by
  obtain ⟨K6, h6⟩ := awake12
  have hE : first_Empty.f a ns rs = some (if mayB a ns rs then (emptyL ns rs, 0) else ([], 1200)) := rfl
  have hF : first_First.f a ns rs = some (if mayB a ns rs then (firstL ns rs, 0) else ([], 1200)) := rfl
  have hW : first_Follow.f a ns rs = some (if mayB a ns rs then (followL a ns rs, 0) else ([], 1200)) := rfl
  cases hm : mayB a ns rs with
  | false =>
    rw [hm, if_neg (by decide)] at hE hF hW
    refine ⟨K6 + 1, st_bind (h6 _ (by omega)) <| st_pos rfl <| st_bind hE <| st_bind hF <| st_bind hW <| st_bind (show templelaw0_Num.f _ = some _ from rfl) <| fo_neg (by decide) ?_⟩
    rw [templelaw12_FollowsHold.j0]
    exact st_pos rfl (show some (wrap64 (wrap64 (0 + 0) + 0) == 0) = some true by rw [show wrap64 (0 + 0) = 0 by unfold wrap64; omega, show wrap64 (0 + 0) = 0 by unfold wrap64; omega]; rfl)
  | true =>
    have F := may_facts hm
    have hs0 := F.s0
    have hs1 := F.s1
    have hlw := (followL_in a ns rs).1
    rw [hm, if_pos rfl] at hE hF hW
    obtain ⟨K1, h1⟩ := fo_l0 hm rs.length 0 (by omega)
    obtain ⟨K2, h2⟩ := ref_May a ns rs
    refine ⟨K6 + K1 + K2 + 1, st_bind (h6 _ (by omega)) <| st_pos rfl <| st_bind hE <| st_bind hF <| st_bind hW <| st_bind (show templelaw0_Num.f _ = some _ from rfl) <| st_pos rfl <| st_bind (show templelaw0_Num.f _ = some _ from rfl) <| st_pos rfl <| st_bind (show templelaw0_Num.f _ = some _ from rfl) ?_⟩
    rw [templelaw12_FollowsHold.j0]
    refine fo_neg (show ¬ ((0 : Int) != 0) = true by decide) <| st_bind ((h2 _ (by omega)).trans (congrArg some hm)) <| st_pos rfl <| st_pos (congrArg Int.ofNat (emptyL_len ns rs)) <| st_pos (congrArg Int.ofNat (firstL_in ns rs).1) <| st_pos (congrArg Int.ofNat (followL_in a ns rs).1) <| st_pos hs0 <| st_pos (show a < ((followL a ns rs).length : Int) by omega) <| st_pos ?_ ?_
    · have := followL_end hm
      rw [show at_ (bitsW 256 (followL a ns rs)) a.toNat = _ from bitsW_get 256 _ _] at this
      unfold bitW at this
      rwa [if_neg (by omega)] at this
    · exact h1 _ (by omega)
end Go.Proofs.Ytpilkfodlhhjpaa.PFW
