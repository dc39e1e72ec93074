/- Layer 12, plain: the law FirstsHold answers true. -/
import Derived.Test.YtpilkfodlhhjpaaL12Lfp
import Derived.Test.YtpilkfodlhhjpaaPFHx27
namespace Go.Proofs.Ytpilkfodlhhjpaa.PFH
open Go.RowKit Go.Proofs.YtpilkfodlhhjpaaW.PrintWords Go.Proofs.YtpilkfodlhhjpaaW.PrintLast
set_option linter.unusedVariables false
set_option linter.unusedSectionVars false
theorem ev_st {α : Type} {g f : Nat → Option α} {r : α} (h : Ev f r) (hs : ∀ k, g (k + 1) = f k) : Ev g r := Ev.step hs h
theorem ho_neg {α : Type} {c : Prop} [Decidable c] {A B r : α} (h : ¬ c) (g : B = r) : (if c then A else B) = r := (if_neg h).trans g
section
variable (e : List Bool) (fs : List Set4) (x7 x10 x11 : Int) (q : List Sym) (a : Int) (ns : List ByteArray) (rs : List Ru) (r : Bool)
theorem hold_end (emp : Bool) (s : Set4) (h : Ev (fun k => templelaw12_FirstsHold.l2 k e fs x7 true x10 (wrap64 (x11 + 1)) a ns rs s.f0 s.f1 s.f2 s.f3) r) :
    Ev (fun k => templelaw12_FirstsHold.j6 k e fs x7 emp x10 x11 q (q.length : Int) a ns rs s.f0 s.f1 s.f2 s.f3) r := by
  have hlt : ¬ ((q.length : Int) < (q.length : Int)) := Int.lt_irrefl _
  have h10 : Ev (fun k => templelaw12_FirstsHold.j10 k e fs x7 true x10 x11 q (q.length : Int) false a ns rs s.f0 s.f1 s.f2 s.f3) r := ev_st h (fun k => by rw [templelaw12_FirstsHold.j10]; exact ho_neg (by decide) rfl)
  have h9 : Ev (fun k => templelaw12_FirstsHold.j9 k e fs x7 true x10 x11 q (q.length : Int) a ns rs s.f0 s.f1 s.f2 s.f3) r := ev_st h10 (fun k => by rw [templelaw12_FirstsHold.j9]; exact ho_neg hlt rfl)
  have h8 : Ev (fun k => templelaw12_FirstsHold.j8 k e fs x7 true x10 x11 q (q.length : Int) false a ns rs s.f0 s.f1 s.f2 s.f3) r := ev_st h9 (fun k => by rw [templelaw12_FirstsHold.j8]; exact ho_neg (by decide) rfl)
  have h7 : Ev (fun k => templelaw12_FirstsHold.j7 k e fs x7 true x10 x11 q (q.length : Int) a ns rs s.f0 s.f1 s.f2 s.f3) r := ev_st h8 (fun k => by rw [templelaw12_FirstsHold.j7]; exact ho_neg hlt rfl)
  cases emp with
  | true => exact ev_st h7 (fun k => by rw [templelaw12_FirstsHold.j6]; exact st_pos rfl rfl)
  | false => exact ev_st h7 (fun k => by rw [templelaw12_FirstsHold.j6]; exact ho_neg (by decide) (by rw [beq_self_eq_true]))
theorem hold_mid (emp : Bool) (s : Set4) (m : Nat) (hm : m < q.length) (x : Sym) (hx : rd_T68 q (m : Int) = x) (hs : (x.f0 < 0 ∧ 0 ≤ x.f1 ∧ x.f1 ≤ x.f2 ∧ x.f2 ≤ 255) ∨ (0 ≤ x.f0 ∧ x.f0 < fs.length))
    (h : Ev (fun k => templelaw12_FirstsHold.l2 k e fs x7 emp x10 (wrap64 (x11 + 1)) a ns rs (if x.f0 < 0 then orS s (rangeS x.f1 x.f2) else orS s (fs.getD x.f0.toNat z63)).f0 (if x.f0 < 0 then orS s (rangeS x.f1 x.f2) else orS s (fs.getD x.f0.toNat z63)).f1 (if x.f0 < 0 then orS s (rangeS x.f1 x.f2) else orS s (fs.getD x.f0.toNat z63)).f2 (if x.f0 < 0 then orS s (rangeS x.f1 x.f2) else orS s (fs.getD x.f0.toNat z63)).f3) r) :
    Ev (fun k => templelaw12_FirstsHold.j6 k e fs x7 emp x10 x11 q (m : Int) a ns rs s.f0 s.f1 s.f2 s.f3) r := by
  have hlt : (m : Int) < (q.length : Int) := by omega
  have h0 : (0 : Int) ≤ (m : Int) := by omega
  have hne : ((m : Int) == (q.length : Int)) = false := beq_eq_false_iff_ne.2 (by omega)
  have h7 : Ev (fun k => templelaw12_FirstsHold.j7 k e fs x7 emp x10 x11 q (m : Int) a ns rs s.f0 s.f1 s.f2 s.f3) r := by
    rcases hs with ⟨hn, hr⟩ | ⟨h1, h2⟩
    · rw [if_pos hn] at h
      have h10 : Ev (fun k => templelaw12_FirstsHold.j10 k e fs x7 emp x10 x11 q (m : Int) true a ns rs s.f0 s.f1 s.f2 s.f3) r := by
        refine ev_st h (fun k => ?_)
        rw [templelaw12_FirstsHold.j10]
        refine st_pos rfl <| st_pos h0 <| st_pos hlt ?_
        rw [hx]
        refine st_bind (a := (setW (rangeP x.f1 x.f2) 0, setW (rangeP x.f1 x.f2) 1, setW (rangeP x.f1 x.f2) 2, setW (rangeP x.f1 x.f2) 3, 0)) ?_ (st_bind (co_mixf s (rangeS x.f1 x.f2)) rfl)
        unfold templeref1_Range.f
        rw [if_pos ⟨hr.1, hr.2.2, hr.2.1⟩]
      have h9 : Ev (fun k => templelaw12_FirstsHold.j9 k e fs x7 emp x10 x11 q (m : Int) a ns rs s.f0 s.f1 s.f2 s.f3) r := ev_st h10 (fun k => by rw [templelaw12_FirstsHold.j9]; exact st_pos hlt <| st_pos h0 <| by rw [hx, decide_eq_true hn])
      have h8 : Ev (fun k => templelaw12_FirstsHold.j8 k e fs x7 emp x10 x11 q (m : Int) false a ns rs s.f0 s.f1 s.f2 s.f3) r := ev_st h9 (fun k => by rw [templelaw12_FirstsHold.j8]; exact ho_neg (by decide) rfl)
      exact ev_st h8 (fun k => by rw [templelaw12_FirstsHold.j7]; exact st_pos hlt <| st_pos h0 <| by rw [hx, decide_eq_false (show ¬ x.f0 ≥ 0 by omega)])
    · have hn : ¬ x.f0 < 0 := by omega
      rw [if_neg hn] at h
      obtain ⟨y, hy⟩ : ∃ y, y = orS s (fs.getD x.f0.toNat z63) := ⟨_, rfl⟩
      rw [← hy] at h
      have h10 : Ev (fun k => templelaw12_FirstsHold.j10 k e fs x7 emp x10 x11 q (m : Int) false a ns rs y.f0 y.f1 y.f2 y.f3) r := ev_st h (fun k => by rw [templelaw12_FirstsHold.j10]; exact ho_neg (by decide) rfl)
      have h9 : Ev (fun k => templelaw12_FirstsHold.j9 k e fs x7 emp x10 x11 q (m : Int) a ns rs y.f0 y.f1 y.f2 y.f3) r := ev_st h10 (fun k => by rw [templelaw12_FirstsHold.j9]; exact st_pos hlt <| st_pos h0 <| by rw [hx, decide_eq_false hn])
      have h8 : Ev (fun k => templelaw12_FirstsHold.j8 k e fs x7 emp x10 x11 q (m : Int) true a ns rs s.f0 s.f1 s.f2 s.f3) r := by
        refine ev_st h9 (fun k => ?_)
        rw [templelaw12_FirstsHold.j8]
        refine st_pos rfl <| st_pos h0 <| st_pos hlt ?_
        rw [hx]
        refine st_pos h1 <| st_pos h2 <| st_bind (co_mixf s (fs.getD x.f0.toNat z63)) ?_
        rw [hy]
      exact ev_st h8 (fun k => by rw [templelaw12_FirstsHold.j7]; exact st_pos hlt <| st_pos h0 <| by rw [hx, decide_eq_true (show x.f0 ≥ 0 by omega)])
  cases emp with
  | true => exact ev_st h7 (fun k => by rw [templelaw12_FirstsHold.j6]; exact st_pos rfl rfl)
  | false => exact ev_st h7 (fun k => by rw [templelaw12_FirstsHold.j6]; exact ho_neg (by decide) (by rw [hne]))
theorem hold_conj (hl : fs.length = e.length) (hq : q.length < 9223372036854775807) (hok : ∀ s ∈ q, SymF e.length s) (emp : Bool) :
    ∀ (d m : Nat), m + d = q.length → ∀ (s : Set4), Ev (fun k => templelaw12_FirstsHold.l2 k e fs x7 (emp || nothB e (q.drop m)) x10 (wrap64 (x11 + 1)) a ns rs (begA e fs s (q.drop m)).f0 (begA e fs s (q.drop m)).f1 (begA e fs s (q.drop m)).f2 (begA e fs s (q.drop m)).f3) r →
      Ev (fun k => templelaw12_FirstsHold.l3 k e fs x7 emp x10 x11 q (m : Int) a ns rs s.f0 s.f1 s.f2 s.f3) r := by
  intro d
  induction d with
  | zero =>
    intro m hm s h
    have hm : m = q.length := by omega
    subst hm
    rw [List.drop_length, show nothB e [] = true from rfl, Bool.or_true] at h
    exact ev_st (hold_end e fs x7 x10 x11 q a ns rs r emp s h) (fun k => by rw [templelaw12_FirstsHold.l3]; exact ho_neg (Int.lt_irrefl _) rfl)
  | succ d ih =>
    intro m hm s h
    have hlt : m < q.length := by omega
    have hlt' : (m : Int) < (q.length : Int) := by omega
    have h0 : (0 : Int) ≤ (m : Int) := by omega
    obtain ⟨x, hx⟩ : ∃ x, x = q[m] := ⟨_, rfl⟩
    have hmem : x ∈ q := by rw [hx]; exact List.getElem_mem hlt
    have hrd : rd_T68 q (m : Int) = x := by
      show q.getD m _ = x
      rw [List.getD_eq_getElem?_getD, List.getElem?_eq_getElem hlt, ← hx]; rfl
    have hdr : q.drop m = x :: q.drop (m + 1) := by rw [hx]; exact List.drop_eq_getElem_cons hlt
    rw [hdr] at h
    have hxs := hok x hmem
    have hmid := hold_mid e fs x7 x10 x11 q a ns rs r emp s m hlt x hrd (hxs.imp (fun h => ⟨by omega, h.2⟩) (fun h => ⟨h.1, by omega⟩))
    by_cases hn : x.f0 < 0
    · have e1 : nothB e (x :: q.drop (m + 1)) = false := by
        unfold nothB
        rw [List.all_cons, decide_eq_false (show ¬ 0 ≤ x.f0 by omega)]; rfl
      have e2 : begA e fs s (x :: q.drop (m + 1)) = orS s (rangeS x.f1 x.f2) := by
        rw [begA, if_pos hn]
      rw [e1, e2, Bool.or_false] at h
      rw [if_pos hn] at hmid
      exact ev_st (hmid h) (fun k => by rw [templelaw12_FirstsHold.l3]; exact st_pos hlt' <| st_pos h0 <| by rw [hrd]; exact ho_neg (show ¬ x.f0 ≥ 0 by omega) rfl)
    · have hr : 0 ≤ x.f0 ∧ x.f0 < e.length := hxs.resolve_left (fun h => hn (by omega))
      have hrd2 : rdOf false e x.f0 = e.getD x.f0.toNat false := rfl
      by_cases he : e.getD x.f0.toNat false = true
      · have e1 : nothB e (x :: q.drop (m + 1)) = nothB e (q.drop (m + 1)) := by
          unfold nothB
          rw [List.all_cons, decide_eq_true hr.1, he]; rfl
        have e2 : begA e fs s (x :: q.drop (m + 1)) = begA e fs (orS s (fs.getD x.f0.toNat z63)) (q.drop (m + 1)) := by
          rw [begA, if_neg hn, if_pos he]
        rw [e1, e2] at h
        have h3 := ih (m + 1) (by omega) _ h
        refine ev_st h3 (fun k => ?_)
        rw [templelaw12_FirstsHold.l3]
        refine st_pos hlt' <| st_pos h0 ?_
        rw [hrd]
        refine st_pos (show x.f0 ≥ 0 from hr.1) <| st_pos hr.1 <| st_pos hr.2 <| st_pos he <| st_pos (show x.f0 < (fs.length : Int) by omega) <| st_bind (co_mixf s (fs.getD x.f0.toNat z63)) ?_
        rw [wrap_nat m (by omega)]
      · have e1 : nothB e (x :: q.drop (m + 1)) = false := by
          unfold nothB
          rw [List.all_cons, Bool.eq_false_iff.2 he, Bool.and_false, Bool.false_and]
        have e2 : begA e fs s (x :: q.drop (m + 1)) = orS s (fs.getD x.f0.toNat z63) := by
          rw [begA, if_neg hn, if_neg he]
        rw [e1, e2, Bool.or_false] at h
        rw [if_neg hn] at hmid
        refine ev_st (hmid h) (fun k => ?_)
        rw [templelaw12_FirstsHold.l3]
        refine st_pos hlt' <| st_pos h0 ?_
        rw [hrd]
        exact st_pos (show x.f0 ≥ 0 from hr.1) <| st_pos hr.1 <| st_pos hr.2 <| ho_neg he rfl
end
def conA (e : List Bool) (fs : List Set4) : Bool × Set4 → List Cj → Bool × Set4
  | p, [] => p
  | p, c :: cs => conA e fs (p.1 || nothB e c.f1, begA e fs p.2 c.f1) cs
def rulA (e : List Bool) (fs : List Set4) (i : Int) : Bool × Set4 → List Ru → Bool × Set4
  | p, [] => p
  | p, u :: us => rulA e fs i (if u.f0 = i then conA e fs p u.f1 else p) us
theorem conA_fst (e : List Bool) (fs : List Set4) : ∀ (cs : List Cj) (p : Bool × Set4), (conA e fs p cs).1 = (p.1 || cs.any (fun c => nothB e c.f1))
  | [], p => by rw [conA, List.any_nil, Bool.or_false]
  | c :: cs, p => by rw [conA, conA_fst e fs cs, List.any_cons, Bool.or_assoc]
theorem conA_snd (e : List Bool) (fs : List Set4) (hf : WfL fs) : ∀ (cs : List Cj) (p : Bool × Set4), WfS p.2 → WfS (conA e fs p cs).2 ∧ ∀ k, k < 256 → bitS (conA e fs p cs).2 k = (bitS p.2 k || cs.any (fun c => begB k e (bitL k fs) c.f1))
  | [], p, h => ⟨h, fun k hk => by rw [conA, List.any_nil, Bool.or_false]⟩
  | c :: cs, p, h => by
    obtain ⟨h1, h2⟩ := begA_bit e fs hf c.f1 p.2 h
    obtain ⟨h3, h4⟩ := conA_snd e fs hf cs (p.1 || nothB e c.f1, begA e fs p.2 c.f1) h1
    exact ⟨h3, fun k hk => by rw [conA, h4 k hk, h2 k hk, List.any_cons, Bool.or_assoc]⟩
theorem rulA_fst (e : List Bool) (fs : List Set4) (i : Int) : ∀ (us : List Ru) (p : Bool × Set4), (rulA e fs i p us).1 = (p.1 || us.any (fun u => decide (u.f0 = i) && u.f1.any (fun c => nothB e c.f1)))
  | [], p => by rw [rulA, List.any_nil, Bool.or_false]
  | u :: us, p => by
    rw [rulA, rulA_fst e fs i us, List.any_cons]
    by_cases h : u.f0 = i
    · rw [if_pos h, conA_fst, decide_eq_true h, Bool.true_and, Bool.or_assoc]
    · rw [if_neg h, decide_eq_false h, Bool.false_and, Bool.false_or]
theorem rulA_snd (e : List Bool) (fs : List Set4) (hf : WfL fs) (i : Int) : ∀ (us : List Ru) (p : Bool × Set4), WfS p.2 → WfS (rulA e fs i p us).2 ∧ ∀ k, k < 256 → bitS (rulA e fs i p us).2 k = (bitS p.2 k || us.any (fun u => decide (u.f0 = i) && u.f1.any (fun c => begB k e (bitL k fs) c.f1)))
  | [], p, h => ⟨h, fun k hk => by rw [rulA, List.any_nil, Bool.or_false]⟩
  | u :: us, p, h => by
    rw [rulA]
    by_cases hu : u.f0 = i
    · rw [if_pos hu]
      obtain ⟨h1, h2⟩ := conA_snd e fs hf u.f1 p h
      obtain ⟨h3, h4⟩ := rulA_snd e fs hf i us _ h1
      exact ⟨h3, fun k hk => by rw [h4 k hk, h2 k hk, List.any_cons, decide_eq_true hu, Bool.true_and, Bool.or_assoc]⟩
    · rw [if_neg hu]
      obtain ⟨h3, h4⟩ := rulA_snd e fs hf i us p h
      exact ⟨h3, fun k hk => by rw [h4 k hk, List.any_cons, decide_eq_false hu, Bool.false_and, Bool.false_or]⟩
theorem rulA_at {a : Int} {ns : List ByteArray} {rs : List Ru} (hm : mayB a ns rs = true) (i : Nat) :
    rulA (emptyL ns rs) (firstL ns rs) (i : Int) (false, z63) rs = ((emptyL ns rs).getD i false, (firstL ns rs).getD i z63) := by
  have F := may_facts hm
  refine Prod.ext ?_ ?_
  · rw [rulA_fst, Bool.false_or, Bool.eq_iff_iff, List.any_eq_true]
    constructor
    · rintro ⟨u, hu, h⟩
      rw [Bool.and_eq_true, List.any_eq_true] at h
      obtain ⟨h1, c, hc, h2⟩ := h
      have := emptyL_closed hm u hu c hc h2
      rwa [of_decide_eq_true h1, Int.toNat_natCast] at this
    · intro h
      obtain ⟨u, hu, c, hc, h1, h2⟩ := emptyL_sup hm i h
      have := F.hd0 u hu
      exact ⟨u, hu, by rw [Bool.and_eq_true, List.any_eq_true]; exact ⟨decide_eq_true (by omega), c, hc, h2⟩⟩
  · obtain ⟨h1, h2⟩ := rulA_snd (emptyL ns rs) (firstL ns rs) (firstL_in ns rs).2 (i : Int) rs (false, z63) z63_wf
    refine S_ext h1 (wfL_get (firstL_in ns rs).2 i) (fun k hk => ?_)
    rw [h2 k hk, z63_bit k hk, Bool.false_or, ← bitL_get k hk, Bool.eq_iff_iff, List.any_eq_true]
    constructor
    · rintro ⟨u, hu, h⟩
      rw [Bool.and_eq_true, List.any_eq_true] at h
      obtain ⟨h1, c, hc, h2⟩ := h
      have := firstL_closed hm k hk u hu c hc h2
      rwa [of_decide_eq_true h1, Int.toNat_natCast] at this
    · intro h
      obtain ⟨u, hu, c, hc, h1, h2⟩ := firstL_sup hm k hk i h
      have := F.hd0 u hu
      exact ⟨u, hu, by rw [Bool.and_eq_true, List.any_eq_true]; exact ⟨decide_eq_true (by omega), c, hc, h2⟩⟩
section
variable (e : List Bool) (fs : List Set4) (x7 : Int) (a : Int) (ns : List ByteArray) (rs : List Ru) (r : Bool)
theorem hold_l2 (hl : fs.length = e.length) (j : Nat) (hj : j < rs.length) (u : Ru) (hu : rd_T55 rs (j : Int) = u) (hd : u.f0 = x7) (hn : u.f1.length < 9223372036854775807) (hq : ∀ c ∈ u.f1, c.f1.length < 9223372036854775807) (hok : ∀ c ∈ u.f1, ∀ s ∈ c.f1, SymF e.length s) :
    ∀ (d m : Nat), m + d = u.f1.length → ∀ (p : Bool × Set4), Ev (fun k => templelaw12_FirstsHold.l1 k e fs x7 (conA e fs p (u.f1.drop m)).1 (wrap64 ((j : Int) + 1)) a ns rs (conA e fs p (u.f1.drop m)).2.f0 (conA e fs p (u.f1.drop m)).2.f1 (conA e fs p (u.f1.drop m)).2.f2 (conA e fs p (u.f1.drop m)).2.f3) r →
      Ev (fun k => templelaw12_FirstsHold.l2 k e fs x7 p.1 (j : Int) (m : Int) a ns rs p.2.f0 p.2.f1 p.2.f2 p.2.f3) r := by
  have hj0 : (0 : Int) ≤ (j : Int) := by omega
  have hj1 : (j : Int) < (rs.length : Int) := by omega
  intro d
  induction d with
  | zero =>
    intro m hm p h
    have hm : m = u.f1.length := by omega
    subst hm
    rw [List.drop_length] at h
    have h4 : Ev (fun k => templelaw12_FirstsHold.j4 k e fs x7 p.1 (j : Int) (u.f1.length : Int) false a ns rs p.2.f0 p.2.f1 p.2.f2 p.2.f3) r := ev_st h (fun k => by rw [templelaw12_FirstsHold.j4]; exact ho_neg (by decide) rfl)
    exact ev_st h4 (fun k => by rw [templelaw12_FirstsHold.l2, hu]; exact st_pos hj0 <| st_pos hj1 <| ho_neg (Int.lt_irrefl _) rfl)
  | succ d ih =>
    intro m hm p h
    have hlt : m < u.f1.length := by omega
    have hlt' : (m : Int) < (u.f1.length : Int) := by omega
    have h0 : (0 : Int) ≤ (m : Int) := by omega
    obtain ⟨c, hc⟩ : ∃ c, c = u.f1[m] := ⟨_, rfl⟩
    have hmem : c ∈ u.f1 := by rw [hc]; exact List.getElem_mem hlt
    have hrd : rd_T58 u.f1 (m : Int) = c := by
      show u.f1.getD m _ = c
      rw [List.getD_eq_getElem?_getD, List.getElem?_eq_getElem hlt, ← hc]; rfl
    have hdr : u.f1.drop m = c :: u.f1.drop (m + 1) := by rw [hc]; exact List.drop_eq_getElem_cons hlt
    rw [hdr, conA] at h
    have h2 := ih (m + 1) (by omega) (p.1 || nothB e c.f1, begA e fs p.2 c.f1) h
    have h3 := hold_conj e fs x7 (j : Int) (m : Int) c.f1 a ns rs r hl (hq c hmem) (hok c hmem) p.1 c.f1.length 0 (by omega) p.2 (by rw [List.drop_zero, wrap_nat m (by omega)]; exact h2)
    have h4 : Ev (fun k => templelaw12_FirstsHold.j4 k e fs x7 p.1 (j : Int) (m : Int) true a ns rs p.2.f0 p.2.f1 p.2.f2 p.2.f3) r :=
      ev_st h3 (fun k => by rw [templelaw12_FirstsHold.j4, hu, hrd]; exact st_pos rfl <| st_pos hj0 <| st_pos hj1 <| st_pos h0 <| st_pos hlt' rfl)
    exact ev_st h4 (fun k => by rw [templelaw12_FirstsHold.l2, hu]; exact st_pos hj0 <| st_pos hj1 <| st_pos hlt' <| by rw [show (u.f0 == x7) = true from beq_iff_eq.2 hd])
theorem hold_l2n (j : Nat) (hj : j < rs.length) (u : Ru) (hu : rd_T55 rs (j : Int) = u) (hd : ¬ u.f0 = x7) (p : Bool × Set4)
    (h : Ev (fun k => templelaw12_FirstsHold.l1 k e fs x7 p.1 (wrap64 ((j : Int) + 1)) a ns rs p.2.f0 p.2.f1 p.2.f2 p.2.f3) r) :
    Ev (fun k => templelaw12_FirstsHold.l2 k e fs x7 p.1 (j : Int) 0 a ns rs p.2.f0 p.2.f1 p.2.f2 p.2.f3) r := by
  have hj0 : (0 : Int) ≤ (j : Int) := by omega
  have hj1 : (j : Int) < (rs.length : Int) := by omega
  have h4 : Ev (fun k => templelaw12_FirstsHold.j4 k e fs x7 p.1 (j : Int) 0 false a ns rs p.2.f0 p.2.f1 p.2.f2 p.2.f3) r := ev_st h (fun k => by rw [templelaw12_FirstsHold.j4]; exact ho_neg (by decide) rfl)
  refine ev_st h4 (fun k => ?_)
  rw [templelaw12_FirstsHold.l2, hu, show (u.f0 == x7) = false from beq_eq_false_iff_ne.2 hd]
  exact st_pos hj0 <| st_pos hj1 <| ite_self _
theorem hold_l1 (hl : fs.length = e.length) (hr : rs.length < 9223372036854775807) (hn : ∀ u ∈ rs, u.f1.length < 9223372036854775807) (hq : ∀ u ∈ rs, ∀ c ∈ u.f1, c.f1.length < 9223372036854775807) (hok : ∀ u ∈ rs, ∀ c ∈ u.f1, ∀ s ∈ c.f1, SymF e.length s)
    (h0 : 0 ≤ x7) (h1 : x7 < e.length) :
    ∀ (d j : Nat), j + d = rs.length → ∀ (p : Bool × Set4), rulA e fs x7 p (rs.drop j) = (e.getD x7.toNat false, fs.getD x7.toNat z63) → Ev (fun k => templelaw12_FirstsHold.l0 k e fs (wrap64 (x7 + 1)) a ns rs) r →
      Ev (fun k => templelaw12_FirstsHold.l1 k e fs x7 p.1 (j : Int) a ns rs p.2.f0 p.2.f1 p.2.f2 p.2.f3) r := by
  intro d
  induction d with
  | zero =>
    intro j hj p hp h
    have hj : j = rs.length := by omega
    subst hj
    rw [List.drop_length, rulA] at hp
    rw [hp]
    refine ev_st h (fun k => ?_)
    rw [templelaw12_FirstsHold.l1]
    refine ho_neg (Int.lt_irrefl _) <| st_pos h0 <| st_pos h1 <| ho_neg ?_ <| st_pos (show x7 < (fs.length : Int) by omega) <| ho_neg ?_ rfl
    · rw [show rdOf false e x7 = e.getD x7.toNat false from rfl, bne_self_eq_false]
      decide
    · rw [show rd_T63 fs x7 = fs.getD x7.toNat z63 from rfl]
      simp
  | succ d ih =>
    intro j hj p hp h
    have hlt : j < rs.length := by omega
    have hlt' : (j : Int) < (rs.length : Int) := by omega
    obtain ⟨u, hu⟩ : ∃ u, u = rs[j] := ⟨_, rfl⟩
    have hmem : u ∈ rs := by rw [hu]; exact List.getElem_mem hlt
    have hrd : rd_T55 rs (j : Int) = u := by
      show rs.getD j _ = u
      rw [List.getD_eq_getElem?_getD, List.getElem?_eq_getElem hlt, ← hu]; rfl
    have hdr : rs.drop j = u :: rs.drop (j + 1) := by rw [hu]; exact List.drop_eq_getElem_cons hlt
    rw [hdr, rulA] at hp
    have h2 := ih (j + 1) (by omega) _ hp h
    rw [← wrap_nat j (by omega)] at h2
    have h3 : Ev (fun k => templelaw12_FirstsHold.l2 k e fs x7 p.1 (j : Int) 0 a ns rs p.2.f0 p.2.f1 p.2.f2 p.2.f3) r := by
      by_cases hd : u.f0 = x7
      · rw [if_pos hd] at h2
        exact hold_l2 e fs x7 a ns rs r hl j hlt u hrd hd (hn u hmem) (hq u hmem) (hok u hmem) u.f1.length 0 (by omega) p (by rw [List.drop_zero]; exact h2)
      · rw [if_neg hd] at h2
        exact hold_l2n e fs x7 a ns rs r j hlt u hrd hd p h2
    exact ev_st h3 (fun k => by rw [templelaw12_FirstsHold.l1]; exact st_pos hlt' rfl)
end
theorem hold_l0 {a : Int} {ns : List ByteArray} {rs : List Ru} (hm : mayB a ns rs = true) (hn : ns.length < 9223372036854775807) :
    ∀ (d i : Nat), i + d = ns.length → Ev (fun k => templelaw12_FirstsHold.l0 k (emptyL ns rs) (firstL ns rs) (i : Int) a ns rs) true := by
  have F := may_facts hm
  have hle := emptyL_len ns rs
  have hlf := (firstL_in ns rs).1
  intro d
  induction d with
  | zero =>
    intro i hi
    exact ⟨1, fun k hk => by
      obtain ⟨k, rfl⟩ : ∃ k', k = k' + 1 := ⟨k - 1, by omega⟩
      show templelaw12_FirstsHold.l0 _ _ _ _ _ _ _ = _
      rw [templelaw12_FirstsHold.l0]
      exact ho_neg (by omega) rfl⟩
  | succ d ih =>
    intro i hi
    have h := ih (i + 1) (by omega)
    have h1 := hold_l1 (emptyL ns rs) (firstL ns rs) (i : Int) a ns rs true (by omega) (by have := F.r2; omega) (fun u hu => by have := F.cj u hu; omega) (fun u hu c hc => by have := F.sq u hu c hc; omega) (fun u hu c hc s hs => by rw [hle]; exact symF_of (F.sy u hu c hc s hs)) (by omega) (by omega) rs.length 0 (by omega) (false, z63) (by rw [List.drop_zero, rulA_at hm, Int.toNat_natCast]) (by rw [wrap_nat i (by omega)]; exact h)
    exact ev_st h1 (fun k => by rw [templelaw12_FirstsHold.l0]; exact st_pos (by omega) rfl)
theorem firstsHold_law (a : Int) (ns : List ByteArray) (rs : List Ru) : ∃ k, templelaw12_FirstsHold.f k a ns rs = some true := by
  obtain ⟨K6, h6⟩ := awake12
  have hE : first_Empty.f a ns rs = some (if mayB a ns rs then (emptyL ns rs, 0) else ([], 1200)) := rfl
  have hF : first_First.f a ns rs = some (if mayB a ns rs then (firstL ns rs, 0) else ([], 1200)) := rfl
  cases hm : mayB a ns rs with
  | false =>
    rw [hm, if_neg (by decide)] at hE hF
    refine ⟨K6 + 1, st_bind (h6 _ (by omega)) <| st_pos rfl <| st_bind hE <| st_bind hF <| st_bind (show templelaw0_Num.f _ = some _ from rfl) <| ho_neg (by decide) ?_⟩
    rw [templelaw12_FirstsHold.j0]
    exact st_pos rfl (show some (wrap64 (0 + 0) == 0) = some true by rw [show wrap64 (0 + 0) = 0 by unfold wrap64; omega]; rfl)
  | true =>
    rw [hm, if_pos rfl] at hE hF
    obtain ⟨K1, h1⟩ := hold_l0 hm (by have := (may_facts hm).n2; omega) ns.length 0 (by omega)
    obtain ⟨K2, h2⟩ := ref_May a ns rs
    refine ⟨K6 + K1 + K2 + 1, st_bind (h6 _ (by omega)) <| st_pos rfl <| st_bind hE <| st_bind hF <| st_bind (show templelaw0_Num.f _ = some _ from rfl) <| st_pos rfl <| st_bind (show templelaw0_Num.f _ = some _ from rfl) ?_⟩
    rw [templelaw12_FirstsHold.j0]
    refine ho_neg (show ¬ ((0 : Int) != 0) = true by decide) <| st_bind ((h2 _ (by omega)).trans (congrArg some hm)) <| st_pos rfl <| st_pos (congrArg Int.ofNat (emptyL_len ns rs)) <| st_pos (congrArg Int.ofNat (firstL_in ns rs).1) ?_
    exact h1 _ (by omega)
end Go.Proofs.Ytpilkfodlhhjpaa.PFH
