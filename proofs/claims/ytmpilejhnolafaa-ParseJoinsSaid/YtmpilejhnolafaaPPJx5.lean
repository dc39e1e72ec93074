-- written by a program of the session's (wip/myprint.py) out of the translation
import Derived.Test.YtmpilejhnolafaaPPJx0
import Derived.Test.YtmpilejhnolafaaPPJx3
namespace Go.Proofs.Ytmpilejhnolafaa.PPJ
open Go.RowKit Go.Proofs.YtmpilejhnolafaaW.PrintWords Go.Proofs.YtmpilejhnolafaaW.PrintLast Go.Proofs.YtmpilejhnolafaaW.PrintMore
attribute [local go_sem] max2_int min2_int max_two min_two max_three min_three max_four min_four   -- for this text's walks alone
set_option linter.unusedVariables false
set_option linter.unusedSimpArgs false

/-! ### note_Parse: function 9 -/
/-! The parser's memory: definitions, the last one's alternatives, the last one's conjuncts, the last one's items: each a row of its own, the last element open. -/
abbrev kA43 : Kd (List S46) := Kd.slice 46 k46
def Cz (w : World) (base : Nat) (vC : Value) (a : List S46) (B : Nat → Prop) : Prop :=
 (a = [] ∧ vC = .slice none 0 0 ∧ ∀ k, ¬ B k) ∨
 ∃ cs neg its vI, a = cs ++ [⟨neg, its⟩] ∧ Op k46 46 w base (fun k => vI.ownBlock ≠ some k) vC cs [.bool neg, vI] ∧ Kd.R k48 48 w base (fun _ => True) vI its ∧ (∀ k, B k ↔ (vC.ownBlock = some k ∨ vI.ownBlock = some k))
def Az (w : World) (base : Nat) (vA : Value) (alts : List (List S46)) (B : Nat → Prop) : Prop :=
 ∃ bs a vC B', alts = bs ++ [a] ∧ Op kA43 43 w base (fun k => ¬ B' k) vA bs [vC] ∧ Cz w base vC a B' ∧ (∀ k, B k ↔ (vA.ownBlock = some k ∨ B' k))
def Dz (w : World) (base : Nat) (vD : Value) (defs : List S42) : Prop :=
 (defs = [] ∧ vD = .slice none 0 0) ∨
 ∃ ds nm alts vA B, defs = ds ++ [⟨nm, alts⟩] ∧ Op k42 42 w base (fun k => ¬ B k) vD ds [.string nm, vA] ∧ Az w base vA alts B
theorem Cz.typed {w : World} {base : Nat} {vC : Value} {a : List S46} {B : Nat → Prop} (h : Cz w base vC a B) {k : Nat} (hk : B k) : Tb w 46 k ∨ Tb w 48 k := by
 rcases h with ⟨_, _, hB⟩ | ⟨cs, neg, its, vI, _, ho, hr, hB⟩
 ·exact absurd hk (hB k)
 ·rcases (hB k).1 hk with h | h
  ·exact .inl (ho.tb h)
  ·exact .inr (R_typed hr h)
theorem Az.typed {w : World} {base : Nat} {vA : Value} {alts : List (List S46)} {B : Nat → Prop} (h : Az w base vA alts B) {k : Nat} (hk : B k) : Tb w 43 k ∨ Tb w 46 k ∨ Tb w 48 k := by
 obtain ⟨bs, a, vC, B', _, ho, hc, hB⟩ := h
 rcases (hB k).1 hk with h | h
 ·exact .inl (ho.tb h)
 ·exact .inr (hc.typed h)
theorem k48_E : k48.E = [] := rfl
theorem k46_E : k46.E = [48] := rfl
theorem kA43_E : kA43.E = [46, 48] := rfl
theorem k42_E : k42.E = [43, 46, 48] := rfl
/-- What is of other types may turn. -/
structure Fz (w w1 : World) : Prop where
 same : ∀ q k, (q = 42 ∨ q = 43 ∨ q = 46 ∨ q = 48) → Tb w q k → w1.heap[k]? = w.heap[k]?
theorem Cz.move {w w1 : World} {base : Nat} {vC : Value} {a : List S46} {B : Nat → Prop} (h : Cz w base vC a B) (F : Fz w w1) : Cz w1 base vC a B := by
 rcases h with ⟨h1, h2, h3⟩ | ⟨cs, neg, its, vI, h1, ho, hr, hB⟩
 ·exact .inl ⟨h1, h2, h3⟩
 ·refine .inr ⟨cs, neg, its, vI, h1, ?_, ?_, hB⟩
  ·refine (ho.typed.move (fun k hk hlt => ?_)).mono (fun k hk => hk.1)
   rcases hk with hk | ⟨_, q, hq, hc⟩
   ·exact F.same 46 k (by simp) (ho.tb hk)
   ·rw [k46_E, List.mem_singleton] at hq
    exact F.same q k (by simp [hq]) hc
  ·refine Kd.R_mono (Kd.R_step (Kd.R_bound hr) (fun k hk hlt => ?_)) (fun _ _ => trivial)
   obtain ⟨_, _, _, q, hq, hc⟩ := hk
   rw [k48_E, List.mem_singleton] at hq
   exact F.same q k (by simp [hq]) hc
theorem Az.move {w w1 : World} {base : Nat} {vA : Value} {alts : List (List S46)} {B : Nat → Prop} (h : Az w base vA alts B) (F : Fz w w1) : Az w1 base vA alts B := by
 obtain ⟨bs, a, vC, B', h1, ho, hc, hB⟩ := h
 refine ⟨bs, a, vC, B', h1, ?_, hc.move F, hB⟩
 refine (ho.typed.move (fun k hk hlt => ?_)).mono (fun k hk => hk.1)
 rcases hk with hk | ⟨_, q, hq, hc⟩
 ·exact F.same 43 k (by simp) (ho.tb hk)
 ·rw [kA43_E] at hq
  exact F.same q k (by simp at hq; omega) hc
theorem Dz.move {w w1 : World} {base : Nat} {vD : Value} {defs : List S42} (h : Dz w base vD defs) (F : Fz w w1) : Dz w1 base vD defs := by
 rcases h with ⟨h1, h2⟩ | ⟨ds, nm, alts, vA, B, h1, ho, ha⟩
 ·exact .inl ⟨h1, h2⟩
 ·refine .inr ⟨ds, nm, alts, vA, B, h1, ?_, ha.move F⟩
  refine (ho.typed.move (fun k hk hlt => ?_)).mono (fun k hk => hk.1)
  rcases hk with hk | ⟨_, q, hq, hc⟩
  ·exact F.same 42 k (by simp) (ho.tb hk)
  ·rw [k42_E] at hq
   exact F.same q k (by simp at hq; omega) hc
theorem Fz.refl (w : World) : Fz w w := ⟨fun _ _ _ _ => rfl⟩
theorem Fz.below {w w1 : World} (h : Below w.heap.size w w1) : Fz w w1 := ⟨fun q k _ hk => h.block k hk.lt⟩
theorem Fz.set {w : World} {g t : Nat} (hg : Tb w t g) (ht : t ≠ 42 ∧ t ≠ 43 ∧ t ≠ 46 ∧ t ≠ 48) (j : Nat) (u : Value) : Fz w (w.setCell ⟨g, j, none⟩ u) :=
 ⟨fun q k hq hk => Below.heap_setCell w ⟨g, j, none⟩ u k (hk.ne hg (by omega))⟩
/-! Closed rows out of open ones -/
theorem Cz.own {w : World} {base : Nat} {vC : Value} {a : List S46} {B : Nat → Prop} (h : Cz w base vC a B) : ∃ inner, w.ownsRow base 46 2 vC a.length inner ∧ Reps (k46.M w base (fun _ => True)) 2 a inner := by
 rcases h with ⟨rfl, rfl, _⟩ | ⟨cs, neg, its, vI, rfl, ho, hr, _⟩
 ·exact ⟨[], own_nil _ _ _ _, Reps.none _ _⟩
 ·exact (ho.mono (fun _ _ => trivial)).close (k46_mkM w base _ ⟨neg, its⟩ hr)
theorem Cz.row {w : World} {base : Nat} {vC : Value} {a : List S46} {B : Nat → Prop} (h : Cz w base vC a B) : Kd.R k46 46 w base (fun _ => True) vC a := by
 obtain ⟨inner, ho, hr⟩ := h.own
 refine ⟨fun _ _ => trivial, inner, ho, hr.imp_ (fun x cs hp => k46.M_mono (fun k hk => ⟨trivial, fun e => ?_⟩) (k46.M_bound hp))⟩
 obtain ⟨_, _, _, q, hq, hc⟩ := hk
 rw [k46_E, List.mem_singleton] at hq
 exact Tb.ne (q := q) (r := 46) hc (own_typed ho k e.symm) (by omega) rfl
theorem Az.own {w : World} {base : Nat} {vA : Value} {alts : List (List S46)} {B : Nat → Prop} (h : Az w base vA alts B) : ∃ inner, w.ownsRow base 43 1 vA alts.length inner ∧ Reps (kA43.M w base (fun _ => True)) 1 alts inner := by
 obtain ⟨bs, a, vC, B', rfl, ho, hc, hB⟩ := h
 exact (ho.mono (fun _ _ => trivial)).close ⟨vC, rfl, hc.row⟩
theorem Az.row {w : World} {base : Nat} {vA : Value} {alts : List (List S46)} {B : Nat → Prop} (h : Az w base vA alts B) : Kd.R kA43 43 w base (fun _ => True) vA alts := by
 obtain ⟨inner, ho, hr⟩ := h.own
 refine ⟨fun _ _ => trivial, inner, ho, hr.imp_ (fun x cs hp => kA43.M_mono (fun k hk => ⟨trivial, fun e => ?_⟩) (kA43.M_bound hp))⟩
 obtain ⟨_, _, _, q, hq, hc⟩ := hk
 rw [kA43_E] at hq
 exact Tb.ne (q := q) (r := 43) hc (own_typed ho k e.symm) (by simp at hq; omega) rfl
theorem Dz.own {w : World} {base : Nat} {vD : Value} {defs : List S42} (h : Dz w base vD defs) : ∃ inner, w.ownsRow base 42 2 vD defs.length inner ∧ Reps (k42.M w base (fun _ => True)) 2 defs inner := by
 rcases h with ⟨rfl, rfl⟩ | ⟨ds, nm, alts, vA, B, rfl, ho, ha⟩
 ·exact ⟨[], own_nil _ _ _ _, Reps.none _ _⟩
 ·exact (ho.mono (fun _ _ => trivial)).close (k42_mkM w base _ ⟨nm, alts⟩ ha.row)
theorem Dz.row {w : World} {base : Nat} {vD : Value} {defs : List S42} (h : Dz w base vD defs) : Kd.R k42 42 w base (fun _ => True) vD defs := by
 obtain ⟨inner, ho, hr⟩ := h.own
 refine ⟨fun _ _ => trivial, inner, ho, hr.imp_ (fun x cs hp => k42.M_mono (fun k hk => ⟨trivial, fun e => ?_⟩) (k42.M_bound hp))⟩
 obtain ⟨_, _, _, q, hq, hc⟩ := hk
 rw [k42_E] at hq
 exact Tb.ne (q := q) (r := 42) hc (own_typed ho k e.symm) (by simp at hq; omega) rfl
/-! What each append leaves -/
/-- An item behind the last conjunct's. -/
theorem zip_item {W w1 : World} {base : Nat} {vD vA vC vI v1 : Value} {ds : List S42} {nm : ByteArray} {bs : List (List S46)} {cs : List S46} {neg : Bool} {its its1 : List S48} {B B' : Nat → Prop} {gC nC cC : Nat}
  (h1 : Op k42 42 W base (fun k => ¬ B k) vD ds [.string nm, vA]) (h2 : Op kA43 43 W base (fun k => ¬ B' k) vA bs [vC]) (h3 : Op k46 46 W base (fun k => vI.ownBlock ≠ some k) vC cs [.bool neg, vI]) (h4 : Kd.R k48 48 W base (fun _ => True) vI its)
  (hB' : ∀ k, B' k ↔ (vC.ownBlock = some k ∨ vI.ownBlock = some k)) (hB : ∀ k, B k ↔ (vA.ownBlock = some k ∨ B' k)) (hC : vC = .slice (some ⟨gC, 0, none⟩) nC cC)
  (hg : W.grownBy w1 vI.ownBlock) (hat : At W vI v1) (ho : Kd.R k48 48 w1 base (fun _ => True) v1 its1) :
  Dz (w1.setCell ⟨gC, cs.length * 2 + 1, none⟩ v1) base vD (ds ++ [⟨nm, bs ++ [cs ++ [⟨neg, its1⟩]]⟩]) := by
 subst hC
 have tC : Tb W 46 gC := h3.tb rfl
 have tI : ∀ k, vI.ownBlock = some k → Tb W 48 k := fun k hk => R_typed h4 hk
 have tC1 : Tb w1 46 gC := by
  obtain ⟨c, hc⟩ := tC
  exact ⟨c, (hg.block gC (blk_lt hc) (fun e => Tb.ne ⟨c, hc⟩ (tI gC e.symm) (by decide) rfl)).trans hc⟩
 have tI1 : ∀ k, v1.ownBlock = some k → Tb w1 48 k := fun k hk => R_typed ho hk
 -- the conjuncts
 have c1 : Op k46 46 w1 base (fun k => vI.ownBlock ≠ some k ∧ k < W.heap.size ∧ Tb W 48 k) (.slice (some ⟨gC, 0, none⟩) nC cC) cs [.bool neg, vI] := by
  refine (h3.bound.move (fun k hk hlt => hg.block k hlt ?_)).mono (fun k hk => ⟨hk.1, hk.2.2.1, ?_⟩)
  ·rcases hk with hk | hk
   ·exact fun e => Tb.ne (h3.tb hk) (tI k e.symm) (by decide) rfl
   ·exact fun e => hk.1 e.symm
  ·obtain ⟨_, _, _, q, hq, hc⟩ := hk
   rw [k46_E, List.mem_singleton] at hq
   subst hq
   exact hc
 have c2 := c1.store (fun k hk => Tb.ne hk.2.2 tC (by decide)) 1 (by decide) v1 (by
  obtain ⟨A, c, e⟩ := Kd.R_slice ho
  rw [e]
  rfl)
 have c3 : Op k46 46 (w1.setCell ⟨gC, cs.length * 2 + 1, none⟩ v1) base (fun k => v1.ownBlock ≠ some k) (.slice (some ⟨gC, 0, none⟩) nC cC) cs [.bool neg, v1] :=
  Op.mono c2 (fun k hk e => hk.1 (hat.old e hk.2.1))
 have r3 : Kd.R k48 48 (w1.setCell ⟨gC, cs.length * 2 + 1, none⟩ v1) base (fun _ => True) v1 its1 := by
  refine Kd.R_mono (Kd.R_far (p := ⟨gC, cs.length * 2 + 1, none⟩) (Kd.R_bound ho) (fun k hk => ?_) v1) (fun _ _ => trivial)
  obtain ⟨_, _, _, q, hq, hc⟩ := hk
  rw [k48_E, List.mem_singleton] at hq
  exact Tb.ne (q := q) (r := 46) hc tC1 (by omega)
 -- the levels above
 have up : ∀ k, k < W.heap.size → ¬ (some k = vI.ownBlock) → k ≠ gC → (w1.setCell ⟨gC, cs.length * 2 + 1, none⟩ v1).heap[k]? = W.heap[k]? := fun k hlt h hc =>
  (Below.heap_setCell w1 ⟨gC, cs.length * 2 + 1, none⟩ v1 k hc).trans (hg.block k hlt h)
 have a3 : Op kA43 43 (w1.setCell ⟨gC, cs.length * 2 + 1, none⟩ v1) base (fun k => ¬ ((Value.slice (some ⟨gC, 0, none⟩) nC cC).ownBlock = some k ∨ v1.ownBlock = some k)) vA bs [.slice (some ⟨gC, 0, none⟩) nC cC] := by
  refine (h2.bound.move (fun k hk hlt => ?_)).mono (fun k hk => ?_)
  ·rcases hk with hk | hk
   ·exact up k hlt (fun e => Tb.ne (h2.tb hk) (tI k e.symm) (by decide) rfl) (Tb.ne (h2.tb hk) tC (by decide))
   ·exact up k hlt (fun e => hk.1 ((hB' k).2 (.inr e.symm))) (fun e => hk.1 ((hB' k).2 (.inl (by rw [e]; rfl))))
  ·rintro (e | e)
   ·exact hk.1 ((hB' k).2 (.inl e))
   ·exact hk.1 ((hB' k).2 (.inr (hat.old e hk.2.2.1)))
 have d3 : Op k42 42 (w1.setCell ⟨gC, cs.length * 2 + 1, none⟩ v1) base (fun k => ¬ (vA.ownBlock = some k ∨ ((Value.slice (some ⟨gC, 0, none⟩) nC cC).ownBlock = some k ∨ v1.ownBlock = some k))) vD ds [.string nm, vA] := by
  refine (h1.bound.move (fun k hk hlt => ?_)).mono (fun k hk => ?_)
  ·rcases hk with hk | hk
   ·exact up k hlt (fun e => Tb.ne (h1.tb hk) (tI k e.symm) (by decide) rfl) (Tb.ne (h1.tb hk) tC (by decide))
   ·exact up k hlt (fun e => hk.1 ((hB k).2 (.inr ((hB' k).2 (.inr e.symm))))) (fun e => hk.1 ((hB k).2 (.inr ((hB' k).2 (.inl (by rw [e]; rfl))))))
  ·rintro (e | e | e)
   ·exact hk.1 ((hB k).2 (.inl e))
   ·exact hk.1 ((hB k).2 (.inr ((hB' k).2 (.inl e))))
   ·exact hk.1 ((hB k).2 (.inr ((hB' k).2 (.inr (hat.old e hk.2.2.1)))))
 exact .inr ⟨ds, nm, _, vA, _, rfl, d3, bs, _, _, _, rfl, a3, .inr ⟨cs, neg, its1, v1, rfl, c3, r3, fun k => Iff.rfl⟩, fun k => Iff.rfl⟩
/-- A conjunct behind the last alternative's. -/
theorem zip_conj {W w1 : World} {base : Nat} {vD vA vC v1 : Value} {ds : List S42} {nm : ByteArray} {bs : List (List S46)} {a : List S46} {neg : Bool} {B B' : Nat → Prop} {gA nA cA : Nat} {inner : List Value}
  (h1 : Op k42 42 W base (fun k => ¬ B k) vD ds [.string nm, vA]) (h2 : Op kA43 43 W base (fun k => ¬ B' k) vA bs [vC]) (h3 : Cz W base vC a B')
  (hB : ∀ k, B k ↔ (vA.ownBlock = some k ∨ B' k)) (hA : vA = .slice (some ⟨gA, 0, none⟩) nA cA) (hin : Reps (k46.M W base (fun _ => True)) 2 a inner)
  (hC : ∀ k, vC.ownBlock = some k → Tb W 46 k ∧ B' k)
  (hg : W.grownBy w1 vC.ownBlock) (hat : At W vC v1) (ho : w1.ownsRow base 46 2 v1 (a.length + 1) (inner ++ [.bool neg, .slice none 0 0])) :
  Dz (w1.setCell ⟨gA, bs.length * 1 + 0, none⟩ v1) base vD (ds ++ [⟨nm, bs ++ [a ++ [⟨neg, []⟩]]⟩]) := by
 subst hA
 have tA : Tb W 43 gA := h2.tb rfl
 have tA1 : Tb w1 43 gA := by
  obtain ⟨c, hc⟩ := tA
  exact ⟨c, (hg.block gA (blk_lt hc) (fun e => Tb.ne ⟨c, hc⟩ (hC gA e.symm).1 (by decide) rfl)).trans hc⟩
 have c1 : Op k46 46 w1 base (fun k => Tb w1 48 k) v1 a [.bool neg, .slice none 0 0] := by
  have : Op k46 46 w1 base (fun k => k < W.heap.size ∧ Tb W 48 k) v1 a [.bool neg, .slice none 0 0] := by
   refine Op.made (w := W) ho rfl (hin.imp_ (fun x cs hp => k46.M_mono (fun k hk => ⟨hk.2.2.1, ?_⟩) (k46.M_bound hp))) rfl (by simp [Value.oneCell']) (fun k hk hlt => hg.block k hlt (fun e => Tb.ne hk.2 (hC k e.symm).1 (by decide) rfl))
   obtain ⟨_, _, _, q, hq, hc⟩ := hk
   rw [k46_E, List.mem_singleton] at hq
   subst hq
   exact hc
  refine this.bound.mono (fun k hk => ?_)
  obtain ⟨_, _, _, q, hq, hc⟩ := hk
  rw [k46_E, List.mem_singleton] at hq
  subst hq
  exact hc
 have c3 : Op k46 46 (w1.setCell ⟨gA, bs.length * 1 + 0, none⟩ v1) base (fun k => (Value.slice none 0 0).ownBlock ≠ some k) v1 a [.bool neg, .slice none 0 0] :=
  (c1.far (p := ⟨gA, bs.length * 1 + 0, none⟩) (fun e => Tb.ne (c1.tb e) tA1 (by decide) rfl) (fun k hk => Tb.ne hk tA1 (by decide)) v1).mono (fun k _ e => by cases e)
 have v1s : v1.oneCell' = true := by
  obtain ⟨A, c, e⟩ := own_slice ho
  rw [e]
  rfl
 have a1 : Op kA43 43 w1 base (fun k => ¬ B' k ∧ k < W.heap.size ∧ (Tb W 46 k ∨ Tb W 48 k)) (.slice (some ⟨gA, 0, none⟩) nA cA) bs [vC] := by
  refine (h2.bound.move (fun k hk hlt => hg.block k hlt ?_)).mono (fun k hk => ⟨hk.1, hk.2.2.1, ?_⟩)
  ·rcases hk with hk | hk
   ·exact fun e => Tb.ne (h2.tb hk) (hC k e.symm).1 (by decide) rfl
   ·exact fun e => hk.1 (hC k e.symm).2
  ·obtain ⟨_, _, _, q, hq, hc⟩ := hk
   rw [kA43_E] at hq
   rcases List.mem_cons.1 hq with rfl | hq
   ·exact .inl hc
   ·rw [List.mem_singleton] at hq
    subst hq
    exact .inr hc
 have a2 := a1.store (fun k hk => by
  rcases hk.2.2 with h | h
  ·exact Tb.ne h tA (by decide)
  ·exact Tb.ne h tA (by decide)) 0 (by decide) v1 v1s
 have a3 : Op kA43 43 (w1.setCell ⟨gA, bs.length * 1 + 0, none⟩ v1) base (fun k => ¬ (v1.ownBlock = some k ∨ (Value.slice none 0 0).ownBlock = some k)) (.slice (some ⟨gA, 0, none⟩) nA cA) bs [v1] :=
  Op.mono a2 (fun k hk e => by
   rcases e with e | e
   ·exact hk.1 (hC k (hat.old e hk.2.1)).2
   ·cases e)
 have d3 : Op k42 42 (w1.setCell ⟨gA, bs.length * 1 + 0, none⟩ v1) base (fun k => ¬ ((Value.slice (some ⟨gA, 0, none⟩) nA cA).ownBlock = some k ∨ (v1.ownBlock = some k ∨ (Value.slice none 0 0).ownBlock = some k))) vD ds [.string nm, .slice (some ⟨gA, 0, none⟩) nA cA] := by
  refine (h1.bound.move (fun k hk hlt => ?_)).mono (fun k hk => ?_)
  ·have hne : k ≠ gA ∧ ¬ (some k = vC.ownBlock) := by
    rcases hk with hk | hk
    ·exact ⟨Tb.ne (h1.tb hk) tA (by decide), fun e => Tb.ne (h1.tb hk) (hC k e.symm).1 (by decide) rfl⟩
    ·exact ⟨fun e => hk.1 ((hB k).2 (.inl (by rw [e]; rfl))), fun e => hk.1 ((hB k).2 (.inr (hC k e.symm).2))⟩
   exact (Below.heap_setCell w1 ⟨gA, bs.length * 1 + 0, none⟩ v1 k hne.1).trans (hg.block k hlt hne.2)
  ·rintro (e | e | e)
   ·exact hk.1 ((hB k).2 (.inl e))
   ·exact hk.1 ((hB k).2 (.inr (hC k (hat.old e hk.2.2.1)).2))
   ·cases e
 exact .inr ⟨ds, nm, _, _, _, rfl, d3, bs, _, _, _, rfl, a3, .inr ⟨a, neg, [], .slice none 0 0, rfl, c3, Kd.R_nil _ _ _ _ _, fun k => Iff.rfl⟩, fun k => Iff.rfl⟩
/-- An empty alternative behind the last definition's. -/
theorem zip_alt {W w1 : World} {base : Nat} {vD vA v1 : Value} {ds : List S42} {nm : ByteArray} {alts : List (List S46)} {B : Nat → Prop} {gD nD cD : Nat} {inner : List Value}
  (h1 : Op k42 42 W base (fun k => ¬ B k) vD ds [.string nm, vA]) (h2 : Az W base vA alts B) (hD : vD = .slice (some ⟨gD, 0, none⟩) nD cD) (hin : Reps (kA43.M W base (fun _ => True)) 1 alts inner)
  (hg : W.grownBy w1 vA.ownBlock) (hat : At W vA v1) (ho : w1.ownsRow base 43 1 v1 (alts.length + 1) (inner ++ [.slice none 0 0])) :
  Dz (w1.setCell ⟨gD, ds.length * 2 + 1, none⟩ v1) base vD (ds ++ [⟨nm, alts ++ [[]]⟩]) := by
 subst hD
 have tD : Tb W 42 gD := h1.tb rfl
 have hA : ∀ k, vA.ownBlock = some k → Tb W 43 k ∧ B k := by
  obtain ⟨bs, a, vC, B', _, ho2, hc, hB⟩ := h2
  exact fun k hk => ⟨ho2.tb hk, (hB k).2 (.inl hk)⟩
 have tD1 : Tb w1 42 gD := by
  obtain ⟨c, hc⟩ := tD
  exact ⟨c, (hg.block gD (blk_lt hc) (fun e => Tb.ne ⟨c, hc⟩ (hA gD e.symm).1 (by decide) rfl)).trans hc⟩
 have a1 : Op kA43 43 w1 base (fun k => Tb w1 46 k ∨ Tb w1 48 k) v1 alts [.slice none 0 0] := by
  have t : ∀ (w : World) (k : Nat), (∃ q, q ∈ kA43.E ∧ ∃ cells, w.heap[k]? = some (.cells cells q (0, 0))) → Tb w 46 k ∨ Tb w 48 k := fun w k ⟨q, hq, hc⟩ => by
   rw [kA43_E] at hq
   rcases List.mem_cons.1 hq with rfl | hq
   ·exact .inl hc
   ·rw [List.mem_singleton] at hq
    subst hq
    exact .inr hc
  have : Op kA43 43 w1 base (fun k => k < W.heap.size ∧ (Tb W 46 k ∨ Tb W 48 k)) v1 alts [.slice none 0 0] := by
   refine Op.made (w := W) ho rfl (hin.imp_ (fun x cs hp => kA43.M_mono (fun k hk => ⟨hk.2.2.1, t W k hk.2.2.2⟩) (kA43.M_bound hp))) rfl (by simp [Value.oneCell']) (fun k hk hlt => hg.block k hlt (fun e => ?_))
   rcases hk.2 with h | h
   ·exact Tb.ne h (hA k e.symm).1 (by decide) rfl
   ·exact Tb.ne h (hA k e.symm).1 (by decide) rfl
  exact this.bound.mono (fun k hk => t w1 k hk.2.2.2)
 have a3 : Op kA43 43 (w1.setCell ⟨gD, ds.length * 2 + 1, none⟩ v1) base (fun k => ¬ False) v1 alts [.slice none 0 0] :=
  (a1.far (p := ⟨gD, ds.length * 2 + 1, none⟩) (fun e => Tb.ne (a1.tb e) tD1 (by decide) rfl) (fun k hk => by
   rcases hk with h | h
   ·exact Tb.ne h tD1 (by decide)
   ·exact Tb.ne h tD1 (by decide)) v1).mono (fun k _ e => e)
 have v1s : v1.oneCell' = true := by
  obtain ⟨A, c, e⟩ := own_slice ho
  rw [e]
  rfl
 have d1 : Op k42 42 w1 base (fun k => ¬ B k ∧ k < W.heap.size ∧ ¬ Tb W 42 k) (.slice (some ⟨gD, 0, none⟩) nD cD) ds [.string nm, vA] := by
  refine (h1.bound.move (fun k hk hlt => hg.block k hlt ?_)).mono (fun k hk => ⟨hk.1, hk.2.2.1, fun e => ?_⟩)
  ·rcases hk with hk | hk
   ·exact fun e => Tb.ne (h1.tb hk) (hA k e.symm).1 (by decide) rfl
   ·exact fun e => hk.1 (hA k e.symm).2
  ·obtain ⟨_, _, _, q, hq, hc⟩ := hk
   rw [k42_E] at hq
   exact Tb.ne (q := q) (r := 42) hc e (by simp at hq; omega) rfl
 have d2 := d1.store (fun k hk e => hk.2.2 (e ▸ tD)) 1 (by decide) v1 v1s
 have d3 : Op k42 42 (w1.setCell ⟨gD, ds.length * 2 + 1, none⟩ v1) base (fun k => ¬ (v1.ownBlock = some k ∨ False)) (.slice (some ⟨gD, 0, none⟩) nD cD) ds [.string nm, v1] :=
  Op.mono d2 (fun k hk e => by
   rcases e with e | e
   ·exact hk.1 (hA k (hat.old e hk.2.1)).2
   ·exact e)
 exact .inr ⟨ds, nm, _, v1, _, rfl, d3, alts, [], .slice none 0 0, fun _ => False, rfl, a3, .inl ⟨rfl, rfl, fun _ h => h⟩, fun k => Iff.rfl⟩
/-- A definition behind the last. -/
theorem zip_def {W w1 : World} {base : Nat} {vD v1 : Value} {defs : List S42} {nm : ByteArray} {gA : Nat} {inner : List Value}
  (hgA : W.heap[gA]? = some (.cells #[.slice none 0 0] 43 (0, 0))) (hbA : base ≤ gA) (hin : Reps (k42.M W base (fun k => k ≠ gA)) 2 defs inner)
  (hD : ∀ k, vD.ownBlock = some k → Tb W 42 k)
  (hg : W.grownBy w1 vD.ownBlock) (ho : w1.ownsRow base 42 2 v1 (defs.length + 1) (inner ++ [.string nm, .slice (some ⟨gA, 0, none⟩) 1 1])) :
  Dz w1 base v1 (defs ++ [⟨nm, [[]]⟩]) := by
 have hA1 : w1.heap[gA]? = some (.cells #[.slice none 0 0] 43 (0, 0)) := (hg.block gA (blk_lt hgA) (fun e => Tb.ne ⟨_, hgA⟩ (hD gA e.symm) (by decide) rfl)).trans hgA
 have d1 : Op k42 42 w1 base (fun k => ¬ ((Value.slice (some ⟨gA, 0, none⟩) 1 1).ownBlock = some k ∨ False)) v1 defs [.string nm, .slice (some ⟨gA, 0, none⟩) 1 1] := by
  have : Op k42 42 w1 base (fun k => k ≠ gA ∧ ¬ Tb W 42 k) v1 defs [.string nm, .slice (some ⟨gA, 0, none⟩) 1 1] := by
   refine Op.made (w := W) ho rfl (hin.imp_ (fun x cs hp => k42.M_mono (fun k hk => ⟨hk.1, fun e => ?_⟩) (k42.M_bound hp))) rfl (by simp [Value.oneCell']) (fun k hk hlt => hg.block k hlt (fun e => hk.2 (hD k e.symm)))
   obtain ⟨_, _, _, q, hq, hc⟩ := hk
   rw [k42_E] at hq
   exact Tb.ne (q := q) (r := 42) hc e (by simp at hq; omega) rfl
  refine this.mono (fun k hk e => ?_)
  rcases e with e | e
  ·injection e with e
   exact hk.1 e.symm
  ·exact e
 have a1 : Op kA43 43 w1 base (fun k => ¬ False) (.slice (some ⟨gA, 0, none⟩) 1 1) [] [.slice none 0 0] := by
  refine ⟨[], ⟨rfl, .inr ⟨gA, 1, #[.slice none 0 0], rfl, hbA, hA1, Nat.le_refl _, by decide, rfl, rfl⟩⟩, Reps.none _ _, rfl, by simp [Value.oneCell']⟩
 exact .inr ⟨defs, nm, _, _, _, rfl, d1, [], [], .slice none 0 0, fun _ => False, rfl, a1, .inl ⟨rfl, rfl, fun _ h => h⟩, fun k => Iff.rfl⟩
/-! The walks -/
def isItemB (k : Int) : Bool := decide (k = 0 ∨ k = 1 ∨ k = 2)
structure TA (w : World) (tb tf : Nat) (t : S60) : Prop where
 c0 : w.cell? ⟨tb, tf, none⟩ = some (.int .i64 t.f0)
 c1 : w.cell? ⟨tb, tf + 1, none⟩ = some (.int .i64 t.f1)
 c2 : w.cell? ⟨tb, tf + 2, none⟩ = some (.string t.f2)
 c3 : w.cell? ⟨tb, tf + 3, none⟩ = some (.int .i64 t.f3)
 c4 : w.cell? ⟨tb, tf + 4, none⟩ = some (.int .i64 t.f4)
 ty : Tb w 60 tb
theorem np_isItem (w : World) (tb tf : Nat) (t : S60) (hT : TA w tb tf t) :
  Calls Try.prog 28 #[.pointer (some ⟨tb, tf, none⟩)] w fun e w' => e = .returned (.bool (isItemB t.f0)) ∧ w' = w := by
 have h0 := hT.c0
 clear hT
 generalize t.f0 = x at *
 unfold isItemB
 by_cases c0 : x = 0
 ·have b0 : (x == 0) = true := beq_iff_eq.2 c0
  go_enter Try.func28, Try.ntmps28
  go_wp2
  go_ret
  exact ⟨by rw [decide_eq_true (.inl c0)]; rfl, rfl⟩
 ·have b0 : (x == 0) = false := beq_eq_false_iff_ne.2 c0
  by_cases c1 : x = 1
  ·have b1 : (x == 1) = true := beq_iff_eq.2 c1
   go_enter Try.func28, Try.ntmps28
   go_wp2
   go_ret
   exact ⟨by rw [decide_eq_true (.inr (.inl c1))]; rfl, rfl⟩
  ·have b1 : (x == 1) = false := beq_eq_false_iff_ne.2 c1
   by_cases c2 : x = 2
   ·have b2 : (x == 2) = true := beq_iff_eq.2 c2
    go_enter Try.func28, Try.ntmps28
    go_wp2
    go_ret
    exact ⟨by rw [decide_eq_true (.inr (.inr c2))]; rfl, rfl⟩
   ·have b2 : (x == 2) = false := beq_eq_false_iff_ne.2 c2
    go_enter Try.func28, Try.ntmps28
    go_wp2
    go_ret
    exact ⟨by rw [decide_eq_false (by omega)]; rfl, rfl⟩
theorem np_def (w : World) (g gD n cD : Nat) (st vS : Value) (hg : w.heap[g]? = some (.cells #[st, vS, .slice (some ⟨gD, 0, none⟩) (n + 1) cD] 56 (0, 0))) (hn : n ≤ 1000000) :
  Calls Try.prog 49 #[.pointer (some ⟨g, 0, none⟩)] w fun e w' => e = .returned (.pointer (some ⟨gD, n * 2, none⟩)) ∧ Drawn0 w w' := by
 have h2 : w.cell? ⟨g, 2, none⟩ = some (.slice (some ⟨gD, 0, none⟩) (n + 1) cD) := (blk_cell hg 2).trans rfl
 clear hg
 go_enter Try.func49, Try.ntmps49
 go_wp2
 go_region
 all_goals (try go_wp2)
 all_goals go_ret
 all_goals exact ⟨rfl, ⟨1, rfl⟩⟩
theorem Dz.open {w : World} {base : Nat} {vD : Value} {ds : List S42} {nm : ByteArray} {alts : List (List S46)} (h : Dz w base vD (ds ++ [⟨nm, alts⟩])) :
  ∃ vA B, Op k42 42 w base (fun k => ¬ B k) vD ds [.string nm, vA] ∧ Az w base vA alts B := by
 rcases h with ⟨h, _⟩ | ⟨ds', nm', alts', vA, B, h, ho, ha⟩
 ·exact absurd h (by simp)
 ·obtain ⟨e1, e2⟩ := List.append_inj' h rfl
  subst e1
  injection e2 with e2 _
  injection e2 with h1 h2
  subst h1
  subst h2
  exact ⟨vA, B, ho, ha⟩
theorem Az.open {w : World} {base : Nat} {vA : Value} {bs : List (List S46)} {a : List S46} {B : Nat → Prop} (h : Az w base vA (bs ++ [a]) B) :
  ∃ vC B', Op kA43 43 w base (fun k => ¬ B' k) vA bs [vC] ∧ Cz w base vC a B' ∧ (∀ k, B k ↔ (vA.ownBlock = some k ∨ B' k)) := by
 obtain ⟨bs', a', vC, B', h, ho, hc, hB⟩ := h
 obtain ⟨e1, e2⟩ := List.append_inj' h rfl
 subst e1
 injection e2 with e2 _
 subst e2
 exact ⟨vC, B', ho, hc, hB⟩
theorem Cz.open {w : World} {base : Nat} {vC : Value} {cs : List S46} {neg : Bool} {its : List S48} {B : Nat → Prop} (h : Cz w base vC (cs ++ [⟨neg, its⟩]) B) :
  ∃ vI, Op k46 46 w base (fun k => vI.ownBlock ≠ some k) vC cs [.bool neg, vI] ∧ Kd.R k48 48 w base (fun _ => True) vI its ∧ (∀ k, B k ↔ (vC.ownBlock = some k ∨ vI.ownBlock = some k)) := by
 rcases h with ⟨h, _⟩ | ⟨cs', neg', its', vI, h, ho, hr, hB⟩
 ·exact absurd h (by simp)
 ·obtain ⟨e1, e2⟩ := List.append_inj' h rfl
  subst e1
  injection e2 with e2 _
  injection e2 with h1 h2
  subst h1
  subst h2
  exact ⟨vI, ho, hr, hB⟩
theorem Cz.blk {w : World} {base : Nat} {vC : Value} {a : List S46} {B : Nat → Prop} (h : Cz w base vC a B) : ∀ k, vC.ownBlock = some k → Tb w 46 k ∧ B k := by
 rcases h with ⟨_, rfl, _⟩ | ⟨cs, neg, its, vI, _, ho, _, hB⟩
 ·intro k hk
  cases hk
 ·exact fun k hk => ⟨ho.tb hk, (hB k).2 (.inl hk)⟩
theorem Dz.blk {w : World} {base : Nat} {vD : Value} {defs : List S42} (h : Dz w base vD defs) : ∀ k, vD.ownBlock = some k → Tb w 42 k := by
 rcases h with ⟨_, rfl⟩ | ⟨ds, nm, alts, vA, B, _, ho, _⟩
 ·intro k hk
  cases hk
 ·exact fun k hk => ho.tb hk
/-- What the parser's steps leave as it is. -/
structure Kz (base : Nat) (w w1 : World) : Prop where
 bel : Below base w w1
 same : ∀ q k, (q = 9 ∨ q = 56 ∨ q = 60 ∨ q = 25) → Tb w q k → w1.heap[k]? = w.heap[k]?
theorem Kz.drew {base : Nat} {w w1 : World} (h : Drawn0 w w1) : Kz base w w1 := by
 obtain ⟨n, rfl⟩ := h
 exact ⟨pw_below_drewN (Below.refl _ _) n, fun _ _ _ _ => rfl⟩
theorem Kz.tb {base : Nat} {w w1 : World} (h : Kz base w w1) {q k : Nat} (hq : q = 9 ∨ q = 56 ∨ q = 60 ∨ q = 25) (hk : Tb w q k) : Tb w1 q k := by
 obtain ⟨c, hc⟩ := hk
 exact ⟨c, (h.same q k hq ⟨c, hc⟩).trans hc⟩
theorem Kz.trans {base : Nat} {w w1 w2 : World} (h : Kz base w w1) (k : Kz base w1 w2) : Kz base w w2 :=
 ⟨h.bel.trans k.bel, fun q j hq hj => (k.same q j hq (h.tb hq hj)).trans (h.same q j hq hj)⟩
theorem Kz.ta {base : Nat} {w w1 : World} (h : Kz base w w1) {tb tf : Nat} {t : S60} (hT : TA w tb tf t) : TA w1 tb tf t := by
 have e := h.same 60 tb (by simp) hT.ty
 refine ⟨?_, ?_, ?_, ?_, ?_, h.tb (by simp) hT.ty⟩
 ·exact (World.cell?_of_block (a := ⟨tb, tf, none⟩) e).trans hT.c0
 ·exact (World.cell?_of_block (a := ⟨tb, tf + 1, none⟩) e).trans hT.c1
 ·exact (World.cell?_of_block (a := ⟨tb, tf + 2, none⟩) e).trans hT.c2
 ·exact (World.cell?_of_block (a := ⟨tb, tf + 3, none⟩) e).trans hT.c3
 ·exact (World.cell?_of_block (a := ⟨tb, tf + 4, none⟩) e).trans hT.c4
/-- An append and a store of rows of other types. -/
theorem Kz.grown {base : Nat} {w W w1 : World} (h : Kz base w W) {v : Value} {t : Nat} (hg : W.grownBy w1 v.ownBlock) (hv : ∀ k, v.ownBlock = some k → Tb W t k) (ht : t ≠ 9 ∧ t ≠ 56 ∧ t ≠ 60 ∧ t ≠ 25) (hb : Below base w w1) : Kz base w w1 :=
 ⟨hb, fun q k hq hk => (hg.block k (h.tb hq hk).lt (fun e => Tb.ne (h.tb hq hk) (hv k e.symm) (by omega) rfl)).trans (h.same q k hq hk)⟩
theorem Kz.set {base : Nat} {w w1 : World} (h : Kz base w w1) {g t : Nat} (hg : Tb w1 t g) (hb : base ≤ g) (ht : t ≠ 9 ∧ t ≠ 56 ∧ t ≠ 60 ∧ t ≠ 25) (j : Nat) (u : Value) : Kz base w (w1.setCell ⟨g, j, none⟩ u) :=
 ⟨h.bel.setCell (p := ⟨g, j, none⟩) hb u, fun q k hq hk => (Below.heap_setCell w1 ⟨g, j, none⟩ u k ((h.tb hq hk).ne hg (by omega))).trans (h.same q k hq hk)⟩
theorem np_alt (w : World) (g gD n cD gA m cA : Nat) (st vS : Value) (hg : w.heap[g]? = some (.cells #[st, vS, .slice (some ⟨gD, 0, none⟩) (n + 1) cD] 56 (0, 0))) (hn : n ≤ 1000000)
  (hd : w.cell? ⟨gD, n * 2 + 1, none⟩ = some (.slice (some ⟨gA, 0, none⟩) (m + 1) cA)) (hm : m ≤ 1000000) :
  Calls Try.prog 48 #[.pointer (some ⟨g, 0, none⟩)] w fun e w' => e = .returned (.pointer (some ⟨gA, m, none⟩)) ∧ Drawn0 w w' := by
 have HG := Aside0.mk hg
 clear hg
 go_enter Try.func48, Try.ntmps48
 go_wp2_with (first | (go_at_call 49; refine (np_def w g gD n cD st vS HG.out hn).mono ?_; rintro e w1 ⟨rfl, ⟨nd, rfl⟩⟩))
 have hd' : (w.drewN nd).cell? ⟨gD, n * 2 + 1, none⟩ = some (.slice (some ⟨gA, 0, none⟩) (m + 1) cA) := hd
 go_region
 all_goals (try go_wp2)
 all_goals go_ret
 all_goals exact ⟨rfl, ⟨nd + 1, rfl⟩⟩
/-- The same, the state's own block at g aside. -/
structure Ky (base g : Nat) (w w1 : World) : Prop where
 bel : Below base w w1
 same : ∀ q k, (q = 9 ∨ q = 60 ∨ q = 25) → Tb w q k → w1.heap[k]? = w.heap[k]?
theorem Kz.ky {base : Nat} {w w1 : World} (h : Kz base w w1) (g : Nat) : Ky base g w w1 := ⟨h.bel, fun q k hq => h.same q k (by omega)⟩
theorem Ky.set {base g : Nat} {w w1 : World} (h : Ky base g w w1) (hb : base ≤ g) (hg : Tb w1 56 g) (j : Nat) (u : Value) : Ky base g w (w1.setCell ⟨g, j, none⟩ u) :=
 ⟨h.bel.setCell (p := ⟨g, j, none⟩) hb u, fun q k hq hk => (Below.heap_setCell w1 ⟨g, j, none⟩ u k (by
  obtain ⟨c, hc⟩ := hk
  have : Tb w1 q k := ⟨c, (h.same q k hq ⟨c, hc⟩).trans hc⟩
  exact this.ne hg (by omega))).trans (h.same q k hq hk)⟩
theorem Ky.tb {base g : Nat} {w w1 : World} (h : Ky base g w w1) {q k : Nat} (hq : q = 9 ∨ q = 60 ∨ q = 25) (hk : Tb w q k) : Tb w1 q k := by
 obtain ⟨c, hc⟩ := hk
 exact ⟨c, (h.same q k hq ⟨c, hc⟩).trans hc⟩
theorem Ky.trans {base g : Nat} {w w1 w2 : World} (h : Ky base g w w1) (k : Ky base g w1 w2) : Ky base g w w2 :=
 ⟨h.bel.trans k.bel, fun q j hq hj => (k.same q j hq (h.tb hq hj)).trans (h.same q j hq hj)⟩
theorem Ky.refl (base g : Nat) (w : World) : Ky base g w w := ⟨Below.refl _ _, fun _ _ _ _ => rfl⟩
theorem Ky.ta {base g : Nat} {w w1 : World} (h : Ky base g w w1) {tb tf : Nat} {t : S60} (hT : TA w tb tf t) : TA w1 tb tf t := by
 have e := h.same 60 tb (by simp) hT.ty
 refine ⟨?_, ?_, ?_, ?_, ?_, h.tb (by simp) hT.ty⟩
 ·exact (World.cell?_of_block (a := ⟨tb, tf, none⟩) e).trans hT.c0
 ·exact (World.cell?_of_block (a := ⟨tb, tf + 1, none⟩) e).trans hT.c1
 ·exact (World.cell?_of_block (a := ⟨tb, tf + 2, none⟩) e).trans hT.c2
 ·exact (World.cell?_of_block (a := ⟨tb, tf + 3, none⟩) e).trans hT.c3
 ·exact (World.cell?_of_block (a := ⟨tb, tf + 4, none⟩) e).trans hT.c4
theorem below_alloc_ {B : Nat} {w W : World} (h : Below B w W) (hB : B ≤ w.heap.size) (o : Obj) : Below B w (W.alloc o) := h.alloc (Nat.le_trans hB h.size) o
theorem Kz.below {base : Nat} {w w1 : World} (h : Below w.heap.size w w1) (hb : Below base w w1) : Kz base w w1 := ⟨hb, fun q k _ hk => h.block k hk.lt⟩
/-- The tokens stay, and the result's variable. -/
structure Kx (base : Nat) (w w1 : World) : Prop where
 bel : Below base w w1
 same : ∀ q k, (q = 60 ∨ q = 25) → Tb w q k → w1.heap[k]? = w.heap[k]?
theorem Kx.tb {base : Nat} {w w1 : World} (h : Kx base w w1) {q k : Nat} (hq : q = 60 ∨ q = 25) (hk : Tb w q k) : Tb w1 q k := by
 obtain ⟨c, hc⟩ := hk
 exact ⟨c, (h.same q k hq ⟨c, hc⟩).trans hc⟩
theorem Kx.set {base g t : Nat} {w w1 : World} (h : Kx base w w1) (hb : base ≤ g) (hg : Tb w1 t g) (ht : t ≠ 60 ∧ t ≠ 25) (j : Nat) (u : Value) : Kx base w (w1.setCell ⟨g, j, none⟩ u) :=
 ⟨h.bel.setCell (p := ⟨g, j, none⟩) hb u, fun q k hq hk => (Below.heap_setCell w1 ⟨g, j, none⟩ u k ((h.tb hq hk).ne hg (by omega))).trans (h.same q k hq hk)⟩
theorem Ky.kx {base g : Nat} {w w1 : World} (h : Ky base g w w1) : Kx base w w1 := ⟨h.bel, fun q k hq => h.same q k (by omega)⟩
theorem Kx.refl (base : Nat) (w : World) : Kx base w w := ⟨Below.refl _ _, fun _ _ _ _ => rfl⟩
theorem Kx.trans {base : Nat} {w w1 w2 : World} (h : Kx base w w1) (k : Kx base w1 w2) : Kx base w w2 :=
 ⟨h.bel.trans k.bel, fun q j hq hj => (k.same q j hq (h.tb hq hj)).trans (h.same q j hq hj)⟩
theorem np_begin (w : World) (base g : Nat) (st vS vD : Value) (neg : Bool) (ds : List S42) (nm : ByteArray) (bs : List (List S46)) (a : List S46) (hg : w.heap[g]? = some (.cells #[st, vS, vD] 56 (0, 0))) (hb : base ≤ w.heap.size)
  (hz : Dz w base vD (ds ++ [⟨nm, bs ++ [a]⟩])) (hn : ds.length ≤ 1000000) (hm : bs.length ≤ 1000000) (ha : a.length ≤ 1000000) :
  Calls Try.prog 47 #[.pointer (some ⟨g, 0, none⟩), .bool neg] w fun e w' => e = .returned (.tuple #[]) ∧ Dz w' base vD (ds ++ [⟨nm, bs ++ [a ++ [⟨neg, []⟩]]⟩]) ∧ Kz base w w' := by
 obtain ⟨vA, B, h1, h⟩ := hz.open
 clear hz
 obtain ⟨vC, B', h2, h3, hB⟩ := h.open
 clear h
 obtain ⟨gD, cD, rfl, bD, ltD, _, tD, cellD, frD⟩ := h1.form
 obtain ⟨gA, cA, rfl, bA, ltA, _, tA, cellA, frA⟩ := h2.form
 have kD : w.cell? ⟨gD, ds.length * 2 + 1, none⟩ = some (.slice (some ⟨gA, 0, none⟩) (bs.length + 1) cA) := cellD 1 _ rfl
 have kA := cellA 0 _ rfl
 rw [show bs.length * kA43.sz + 0 = bs.length from Nat.mul_one _] at kA
 have fA : w.frozen? ⟨gA, bs.length, none⟩ = false := frA _
 clear cellD cellA frD frA
 obtain ⟨inner, ho, hr⟩ := h3.own
 have hC := h3.blk
 obtain ⟨AC, cC, rfl⟩ := own_slice ho
 have HG := Aside0.mk hg
 have H1 := Aside0.mk h1
 have H2 := Aside0.mk h2
 have H3 := Aside0.mk h3
 have HO := Aside0.mk ho
 have HR := Aside0.mk hr
 have HC := Aside0.mk hC
 have HB := Aside0.mk hB
 have TA_ := Aside0.mk (show Tb w 43 gA from tA)
 clear hg h1 h2 h3 ho hr hC hB tD tA
 go_enter Try.func47, Try.ntmps47
 go_wp2_with (first | (go_at_call 48; refine (np_alt w g gD ds.length cD gA bs.length cA st vS HG.out hn kD hm).mono ?_; rintro e w1 ⟨rfl, ⟨nd, rfl⟩⟩; have kA1 : (w.drewN nd).cell? ⟨gA, bs.length, none⟩ = some (.slice AC a.length cC) := kA) | (at_builtin; refine print_append_cells (w0 := w) (W := w.drewN nd) base rfl (.tmp 10) (.tmp 13) 43 46 (.agg #[.bool false, .slice none 0 0]) 2 32 rfl Try.underlying43 (by kernel_rfl) rfl (by decide) (by decide) (.slice AC a.length cC) a.length inner [.bool neg, .slice none 0 0] rfl rfl rfl (by simp [Value.oneCell']) HO.out (pw_below_drewN (Below.refl _ _) nd) hb (by omega) ?_; intro v1 w2 hown hb2 hgr hat; (obtain ⟨A1, c1, rfl⟩ := own_slice hown); (have kA2 : w2.cell? ⟨gA, bs.length, none⟩ = some (.slice AC a.length cC) := hgr.cell kA (fun e => Tb.ne TA_.out (HC.out gA e.symm).1 (by decide) rfl)); (have fA2 : w2.frozen? ⟨gA, bs.length, none⟩ = false := (World.frozen?_of_block (hgr.block gA ltA (fun e => Tb.ne TA_.out (HC.out gA e.symm).1 (by decide) rfl))).trans fA); (have HP := Aside0.mk (And.intro hown (And.intro hb2 (And.intro hgr hat)))); clear hown hb2 hgr hat))
 go_end0
 obtain ⟨hown, hb2, hgr, hat⟩ := HP.out
 have z := zip_conj (W := w.drewN nd) H1.out H2.out H3.out HB.out rfl HR.out HC.out hgr hat hown
 rw [show bs.length * 1 + 0 = bs.length from Nat.mul_one _] at z
 have tA2 : Tb w2 43 gA := by
  obtain ⟨c, hc⟩ := TA_.out
  exact ⟨c, (hgr.block gA ltA (fun e => Tb.ne TA_.out (HC.out gA e.symm).1 (by decide) rfl)).trans hc⟩
 exact ⟨rfl, z, ((Kz.drew (base := base) ⟨nd, rfl⟩).grown hgr (fun k hk => (HC.out k hk).1) (by decide) hb2).set tA2 bA (by decide) _ _⟩
def np_item.T2 : Bool × List (List Nat × List Nat) := (true, [([], []), ([], []), ([1], [1]), ([2], [2]), ([3], [3]), ([], []), ([5], [5]), ([6], [6]), ([7], [7]), ([], []), ([9], [9]), ([10], [10]), ([11], [11]), ([], []), ([13], [13]), ([14], [14]), ([15], [15]), ([], []), ([17], [17]), ([18], [18]), ([19], [19]), ([8, 12, 16, 20], [8, 12, 16, 20]), ([21], [21]), ([4, 22], [4, 22]), ([0, 0, 1, 2, 3, 4, 5, 6, 7, 8, 9, 10, 11, 12, 13, 14, 15, 16, 17, 18, 19, 20, 21, 22, 23], [0]), ([24, 0, 1, 2, 3, 4, 5, 6, 7, 8, 9, 10, 11, 12, 13, 14, 15, 16, 17, 18, 19, 20, 21, 22, 23], [24]), ([25, 23, 23, 0, 1, 2, 3, 4, 5, 6, 7, 8, 9, 10, 11, 12, 13, 14, 15, 16, 17, 18, 19, 20, 21, 22, 23], [23, 25])])
def np_item.B2 : List Nat := [0, 0, 2, 6, 14, 0, 32, 96, 224, 0, 512, 1536, 3584, 0, 8192, 24576, 57344, 0, 131072, 393216, 917504, 2097120, 4194272, 8388606, 16777215, 33554431, 67108863]
theorem np_item.tab2 : rtab .any (opsOf Try.f29 2) = np_item.T2 := by kernel_rfl
theorem np_item.bits2 : waitsOk np_item.T2.2 np_item.B2 = true := by kernel_rfl
set_option maxHeartbeats 8000000 in
set_option maxRecDepth 100000 in
theorem np_item (w : World) (base g tb tf : Nat) (st : Int) (vS vD : Value) (t : S60) (neg : Bool) (ds : List S42) (nm : ByteArray) (bs : List (List S46)) (cs : List S46) (its : List S48) (hg : w.heap[g]? = some (.cells #[.int .i64 st, vS, vD] 56 (0, 0))) (hb : base ≤ w.heap.size) (hbg : base ≤ g)
  (hz : Dz w base vD (ds ++ [⟨nm, bs ++ [cs ++ [⟨neg, its⟩]]⟩])) (hT : TA w tb tf t) (hn : ds.length ≤ 1000000) (hm : bs.length ≤ 1000000) (hl : cs.length ≤ 1000000) (hi : its.length ≤ 1000000) :
  Calls Try.prog 29 #[.pointer (some ⟨g, 0, none⟩), .pointer (some ⟨tb, tf, none⟩)] w fun e w' => e = .returned (.tuple #[]) ∧ w'.heap[g]? = some (.cells #[.int .i64 6, vS, vD] 56 (0, 0)) ∧ Dz w' base vD (ds ++ [⟨nm, bs ++ [cs ++ [⟨neg, its ++ [⟨t.f0, t.f2, t.f3, t.f4⟩]⟩]]⟩]) ∧ Ky base g w w' := by
 obtain ⟨vA, B, h1, h⟩ := hz.open
 clear hz
 obtain ⟨vC, B', h2, h3, hB⟩ := h.open
 clear h
 obtain ⟨vI, h3, h4, hB'⟩ := h3.open
 obtain ⟨gD, cD, rfl, bD, ltD, _, tD, cellD, frD⟩ := h1.form
 obtain ⟨gA, cA, rfl, bA, ltA, _, tA, cellA, frA⟩ := h2.form
 obtain ⟨gC, cC, rfl, bC, ltC, _, tC, cellC, frC⟩ := h3.form
 have kD : w.cell? ⟨gD, ds.length * 2 + 1, none⟩ = some (.slice (some ⟨gA, 0, none⟩) (bs.length + 1) cA) := cellD 1 _ rfl
 have kA := cellA 0 _ rfl
 rw [show bs.length * kA43.sz + 0 = bs.length from Nat.mul_one _] at kA
 have kC : w.cell? ⟨gC, cs.length * 2 + 1, none⟩ = some vI := cellC 1 _ rfl
 have fC : w.frozen? ⟨gC, cs.length * 2 + 1, none⟩ = false := frC _
 clear cellD cellA frD frA cellC frC
 obtain ⟨AI, cI, rfl⟩ := Kd.R_slice h4
 have hI : ∀ k, (Value.slice AI its.length cI).ownBlock = some k → Tb w 48 k := fun k hk => R_typed h4 hk
 have HG := Aside0.mk hg
 have H1 := Aside0.mk h1
 have H2 := Aside0.mk h2
 have H3 := Aside0.mk h3
 have H4 := Aside0.mk h4
 have HB := Aside0.mk hB
 have HB' := Aside0.mk hB'
 have HI := Aside0.mk hI
 have TA_ := Aside0.mk (show Tb w 46 gC from tC)
 have HT := Aside0.mk hT
 clear hg h1 h2 h3 h4 hB hB' hI tD tA tC hT
 go_enter Try.func29, Try.ntmps29
 go_wp2_with (first | (go_at_call 48; refine (np_alt w g gD ds.length cD gA bs.length cA (.int .i64 st) vS HG.out hn kD hm).mono ?_; rintro e w1 ⟨rfl, ⟨nd, rfl⟩⟩; have kA1 : (w.drewN nd).cell? ⟨gA, bs.length, none⟩ = some (.slice (some ⟨gC, 0, none⟩) (cs.length + 1) cC) := kA))
 have D1 : Aside0 (Drawn0 w (w.drewN nd).drew) := ⟨⟨nd + 1, rfl⟩⟩
 refine start_ (n := 27) (S := fun w' => w'.cell? ⟨gC, cs.length * 2 + 1, none⟩ = some (.slice AI its.length cI) ∧ w'.cell? ⟨tb, tf, none⟩ = some (.int .i64 t.f0) ∧ w'.cell? ⟨tb, tf + 2, none⟩ = some (.string t.f2) ∧ w'.cell? ⟨tb, tf + 3, none⟩ = some (.int .i64 t.f3) ∧ w'.cell? ⟨tb, tf + 4, none⟩ = some (.int .i64 t.f4)) (ds := [26]) #[false, false, false, false, false, false, false, false, false, false, false, false, false, false, false, false, false, false, false, false, false, false, false, false, false, false, false] (by kernel_rfl) rfl rfl ⟨kC, HT.out.c0, HT.out.c2, HT.out.c3, HT.out.c4⟩ (fun hHeld => ?_)
 refine with_tabW np_item.tab2 np_item.bits2 (fun HT_ HW_ => ?_)
 refine pure_ (i := 0) (N := some 15) (v := ?_) (a' := ?_) #[true, false, false, false, false, false, false, false, false, false, false, false, false, false, false, false, false, false, false, false, false, false, false, false, false, false, false] rfl rfl (any_of HT_.out (by kernel_rfl)) (fun _ _ _ h => h) (Or.inl ⟨by rfl, ?_⟩) ?_ ?_
 rotate_left
 ·intro w'
  go_simp
  with_reducible rfl
 rotate_left
 ·simp only [Act.put, List.setIfInBounds_toArray, List.set_cons_zero, List.set_cons_succ, i64_w, i32_w]
  rfl
 refine pure_ (i := 1) (N := some 16) (v := ?_) (a' := ?_) #[true, true, false, false, false, false, false, false, false, false, false, false, false, false, false, false, false, false, false, false, false, false, false, false, false, false, false] rfl rfl (any_of HT_.out (by kernel_rfl)) (fun _ _ _ h => h) (Or.inl ⟨by rfl, ?_⟩) ?_ ?_
 rotate_left
 ·intro w'
  go_simp
  with_reducible rfl
 rotate_left
 ·simp only [Act.put, List.setIfInBounds_toArray, List.set_cons_zero, List.set_cons_succ, i64_w, i32_w]
  rfl
 refine pure_ (i := 2) (N := some 17) (v := ?_) (a' := ?_) #[true, true, true, false, false, false, false, false, false, false, false, false, false, false, false, false, false, false, false, false, false, false, false, false, false, false, false] rfl rfl (any_of HT_.out (by kernel_rfl)) (fun _ _ _ h => h) (Or.inl ⟨by rfl, ?_⟩) ?_ ?_
 rotate_left
 ·intro w'
  go_simp
  with_reducible rfl
 rotate_left
 ·simp only [Act.put, List.setIfInBounds_toArray, List.set_cons_zero, List.set_cons_succ, i64_w, i32_w]
  rfl
 refine pure_ (i := 3) (N := some 18) (v := ?_) (a' := ?_) #[true, true, true, true, false, false, false, false, false, false, false, false, false, false, false, false, false, false, false, false, false, false, false, false, false, false, false] rfl rfl (any_of HT_.out (by kernel_rfl)) (fun _ _ _ h => h) (Or.inl ⟨by rfl, ?_⟩) ?_ ?_
 rotate_left
 ·intro w'
  go_simp
  with_reducible rfl
 rotate_left
 ·simp only [Act.put, List.setIfInBounds_toArray, List.set_cons_zero, List.set_cons_succ, i64_w, i32_w]
  rfl
 refine pure_ (i := 5) (N := some 20) (v := ?_) (a' := ?_) #[true, true, true, true, false, true, false, false, false, false, false, false, false, false, false, false, false, false, false, false, false, false, false, false, false, false, false] rfl rfl (any_of HT_.out (by kernel_rfl)) (fun _ _ _ h => h) (Or.inl ⟨by rfl, ?_⟩) ?_ ?_
 rotate_left
 ·intro w'
  go_simp
  with_reducible rfl
 rotate_left
 ·simp only [Act.put, List.setIfInBounds_toArray, List.set_cons_zero, List.set_cons_succ, i64_w, i32_w]
  rfl
 refine pure_ (i := 6) (N := some 21) (v := ?_) (a' := ?_) #[true, true, true, true, false, true, true, false, false, false, false, false, false, false, false, false, false, false, false, false, false, false, false, false, false, false, false] rfl rfl (any_of HT_.out (by kernel_rfl)) (fun _ _ _ h => h) (Or.inl ⟨by rfl, ?_⟩) ?_ ?_
 rotate_left
 ·intro w'
  go_simp
  with_reducible rfl
 rotate_left
 ·simp only [Act.put, List.setIfInBounds_toArray, List.set_cons_zero, List.set_cons_succ, i64_w, i32_w]
  rfl
 refine pure_ (i := 7) (N := some 22) (v := ?_) (a' := ?_) #[true, true, true, true, false, true, true, true, false, false, false, false, false, false, false, false, false, false, false, false, false, false, false, false, false, false, false] rfl rfl (any_of HT_.out (by kernel_rfl)) (fun _ _ _ h => h) (Or.inl ⟨by rfl, ?_⟩) ?_ ?_
 rotate_left
 ·intro w'
  go_simp
  with_reducible rfl
 rotate_left
 ·simp only [Act.put, List.setIfInBounds_toArray, List.set_cons_zero, List.set_cons_succ, i64_w, i32_w]
  rfl
 refine pure_ (i := 9) (N := some 24) (v := ?_) (a' := ?_) #[true, true, true, true, false, true, true, true, false, true, false, false, false, false, false, false, false, false, false, false, false, false, false, false, false, false, false] rfl rfl (any_of HT_.out (by kernel_rfl)) (fun _ _ _ h => h) (Or.inl ⟨by rfl, ?_⟩) ?_ ?_
 rotate_left
 ·intro w'
  go_simp
  with_reducible rfl
 rotate_left
 ·simp only [Act.put, List.setIfInBounds_toArray, List.set_cons_zero, List.set_cons_succ, i64_w, i32_w]
  rfl
 refine pure_ (i := 10) (N := some 25) (v := ?_) (a' := ?_) #[true, true, true, true, false, true, true, true, false, true, true, false, false, false, false, false, false, false, false, false, false, false, false, false, false, false, false] rfl rfl (any_of HT_.out (by kernel_rfl)) (fun _ _ _ h => h) (Or.inl ⟨by rfl, ?_⟩) ?_ ?_
 rotate_left
 ·intro w'
  go_simp
  with_reducible rfl
 rotate_left
 ·simp only [Act.put, List.setIfInBounds_toArray, List.set_cons_zero, List.set_cons_succ, i64_w, i32_w]
  rfl
 refine pure_ (i := 11) (N := some 26) (v := ?_) (a' := ?_) #[true, true, true, true, false, true, true, true, false, true, true, true, false, false, false, false, false, false, false, false, false, false, false, false, false, false, false] rfl rfl (any_of HT_.out (by kernel_rfl)) (fun _ _ _ h => h) (Or.inl ⟨by rfl, ?_⟩) ?_ ?_
 rotate_left
 ·intro w'
  go_simp
  with_reducible rfl
 rotate_left
 ·simp only [Act.put, List.setIfInBounds_toArray, List.set_cons_zero, List.set_cons_succ, i64_w, i32_w]
  rfl
 refine pure_ (i := 13) (N := some 28) (v := ?_) (a' := ?_) #[true, true, true, true, false, true, true, true, false, true, true, true, false, true, false, false, false, false, false, false, false, false, false, false, false, false, false] rfl rfl (any_of HT_.out (by kernel_rfl)) (fun _ _ _ h => h) (Or.inl ⟨by rfl, ?_⟩) ?_ ?_
 rotate_left
 ·intro w'
  go_simp
  with_reducible rfl
 rotate_left
 ·simp only [Act.put, List.setIfInBounds_toArray, List.set_cons_zero, List.set_cons_succ, i64_w, i32_w]
  rfl
 refine pure_ (i := 14) (N := some 29) (v := ?_) (a' := ?_) #[true, true, true, true, false, true, true, true, false, true, true, true, false, true, true, false, false, false, false, false, false, false, false, false, false, false, false] rfl rfl (any_of HT_.out (by kernel_rfl)) (fun _ _ _ h => h) (Or.inl ⟨by rfl, ?_⟩) ?_ ?_
 rotate_left
 ·intro w'
  go_simp
  with_reducible rfl
 rotate_left
 ·simp only [Act.put, List.setIfInBounds_toArray, List.set_cons_zero, List.set_cons_succ, i64_w, i32_w]
  rfl
 refine pure_ (i := 15) (N := some 30) (v := ?_) (a' := ?_) #[true, true, true, true, false, true, true, true, false, true, true, true, false, true, true, true, false, false, false, false, false, false, false, false, false, false, false] rfl rfl (any_of HT_.out (by kernel_rfl)) (fun _ _ _ h => h) (Or.inl ⟨by rfl, ?_⟩) ?_ ?_
 rotate_left
 ·intro w'
  go_simp
  with_reducible rfl
 rotate_left
 ·simp only [Act.put, List.setIfInBounds_toArray, List.set_cons_zero, List.set_cons_succ, i64_w, i32_w]
  rfl
 refine pure_ (i := 17) (N := some 32) (v := ?_) (a' := ?_) #[true, true, true, true, false, true, true, true, false, true, true, true, false, true, true, true, false, true, false, false, false, false, false, false, false, false, false] rfl rfl (any_of HT_.out (by kernel_rfl)) (fun _ _ _ h => h) (Or.inl ⟨by rfl, ?_⟩) ?_ ?_
 rotate_left
 ·intro w'
  go_simp
  with_reducible rfl
 rotate_left
 ·simp only [Act.put, List.setIfInBounds_toArray, List.set_cons_zero, List.set_cons_succ, i64_w, i32_w]
  rfl
 refine pure_ (i := 18) (N := some 33) (v := ?_) (a' := ?_) #[true, true, true, true, false, true, true, true, false, true, true, true, false, true, true, true, false, true, true, false, false, false, false, false, false, false, false] rfl rfl (any_of HT_.out (by kernel_rfl)) (fun _ _ _ h => h) (Or.inl ⟨by rfl, ?_⟩) ?_ ?_
 rotate_left
 ·intro w'
  go_simp
  with_reducible rfl
 rotate_left
 ·simp only [Act.put, List.setIfInBounds_toArray, List.set_cons_zero, List.set_cons_succ, i64_w, i32_w]
  rfl
 refine pure_ (i := 19) (N := some 34) (v := ?_) (a' := ?_) #[true, true, true, true, false, true, true, true, false, true, true, true, false, true, true, true, false, true, true, true, false, false, false, false, false, false, false] rfl rfl (any_of HT_.out (by kernel_rfl)) (fun _ _ _ h => h) (Or.inl ⟨by rfl, ?_⟩) ?_ ?_
 rotate_left
 ·intro w'
  go_simp
  with_reducible rfl
 rotate_left
 ·simp only [Act.put, List.setIfInBounds_toArray, List.set_cons_zero, List.set_cons_succ, i64_w, i32_w]
  rfl
 refine take_ (i := 4) (N := some 19) (v := ?_) (a' := ?_) #[true, true, true, true, true, true, true, true, false, true, true, true, false, true, true, true, false, true, true, true, false, false, false, false, false, false, false] rfl rfl (take_ofW HT_.out HW_.out (by kernel_rfl)) (fun _ _ _ h => h) (Or.inl ⟨by rfl, ?_⟩) hHeld ?_ ?_
 rotate_left
 ·rintro w' ⟨s0, s1, s2, s3, s4⟩
  go_simp
  with_reducible rfl
 rotate_left
 ·simp only [Act.put, List.setIfInBounds_toArray, List.set_cons_zero, List.set_cons_succ, i64_w, i32_w]
  rfl
 refine take_ (i := 8) (N := some 23) (v := ?_) (a' := ?_) #[true, true, true, true, true, true, true, true, true, true, true, true, false, true, true, true, false, true, true, true, false, false, false, false, false, false, false] rfl rfl (take_ofW HT_.out HW_.out (by kernel_rfl)) (fun _ _ _ h => h) (Or.inl ⟨by rfl, ?_⟩) hHeld ?_ ?_
 rotate_left
 ·rintro w' ⟨s0, s1, s2, s3, s4⟩
  go_simp
  with_reducible rfl
 rotate_left
 ·simp only [Act.put, List.setIfInBounds_toArray, List.set_cons_zero, List.set_cons_succ, i64_w, i32_w]
  rfl
 refine take_ (i := 12) (N := some 27) (v := ?_) (a' := ?_) #[true, true, true, true, true, true, true, true, true, true, true, true, true, true, true, true, false, true, true, true, false, false, false, false, false, false, false] rfl rfl (take_ofW HT_.out HW_.out (by kernel_rfl)) (fun _ _ _ h => h) (Or.inl ⟨by rfl, ?_⟩) hHeld ?_ ?_
 rotate_left
 ·rintro w' ⟨s0, s1, s2, s3, s4⟩
  go_simp
  with_reducible rfl
 rotate_left
 ·simp only [Act.put, List.setIfInBounds_toArray, List.set_cons_zero, List.set_cons_succ, i64_w, i32_w]
  rfl
 refine take_ (i := 16) (N := some 31) (v := ?_) (a' := ?_) #[true, true, true, true, true, true, true, true, true, true, true, true, true, true, true, true, true, true, true, true, false, false, false, false, false, false, false] rfl rfl (take_ofW HT_.out HW_.out (by kernel_rfl)) (fun _ _ _ h => h) (Or.inl ⟨by rfl, ?_⟩) hHeld ?_ ?_
 rotate_left
 ·rintro w' ⟨s0, s1, s2, s3, s4⟩
  go_simp
  with_reducible rfl
 rotate_left
 ·simp only [Act.put, List.setIfInBounds_toArray, List.set_cons_zero, List.set_cons_succ, i64_w, i32_w]
  rfl
 refine take_ (i := 20) (N := some 35) (v := ?_) (a' := ?_) #[true, true, true, true, true, true, true, true, true, true, true, true, true, true, true, true, true, true, true, true, true, false, false, false, false, false, false] rfl rfl (take_ofW HT_.out HW_.out (by kernel_rfl)) (fun _ _ _ h => h) (Or.inl ⟨by rfl, ?_⟩) hHeld ?_ ?_
 rotate_left
 ·rintro w' ⟨s0, s1, s2, s3, s4⟩
  go_simp
  with_reducible rfl
 rotate_left
 ·simp only [Act.put, List.setIfInBounds_toArray, List.set_cons_zero, List.set_cons_succ, i64_w, i32_w]
  rfl
 refine take_ (i := 21) (N := some 36) (v := ?_) (a' := ?_) #[true, true, true, true, true, true, true, true, true, true, true, true, true, true, true, true, true, true, true, true, true, true, false, false, false, false, false] rfl rfl (take_ofW HT_.out HW_.out (by kernel_rfl)) (fun _ _ _ h => h) (Or.inl ⟨by rfl, ?_⟩) hHeld ?_ ?_
 rotate_left
 ·rintro w' ⟨s0, s1, s2, s3, s4⟩
  go_simp
  with_reducible rfl
 rotate_left
 ·simp only [Act.put, List.setIfInBounds_toArray, List.set_cons_zero, List.set_cons_succ, i64_w, i32_w]
  rfl
 refine one_ (i := 22) (N := some 37) #[true, true, true, true, true, true, true, true, true, true, true, true, true, true, true, true, true, true, true, true, true, true, true, false, false, false, false] rfl rfl (one_of HT_.out (by kernel_rfl)) (by decide) (fun K hK => ?_)
 refine value_ (w1 := ?_) (v := ?_) (by rfl) rfl ?_ ?_
 rotate_left 2
 ·go_simp
  constructor
  ·rfl
  ·rfl
 refine hK.out _ _ ⟨(World.cell?_alloc_lt (w.drewN nd).drew _ _ (World.block_lt_of_cell? w _ (kC))).trans (kC), (World.cell?_alloc_lt (w.drewN nd).drew _ _ (World.block_lt_of_cell? w _ (HT.out.c0))).trans (HT.out.c0), (World.cell?_alloc_lt (w.drewN nd).drew _ _ (World.block_lt_of_cell? w _ (HT.out.c2))).trans (HT.out.c2), (World.cell?_alloc_lt (w.drewN nd).drew _ _ (World.block_lt_of_cell? w _ (HT.out.c3))).trans (HT.out.c3), (World.cell?_alloc_lt (w.drewN nd).drew _ _ (World.block_lt_of_cell? w _ (HT.out.c4))).trans (HT.out.c4)⟩ (fun hHeld => ?_)
 clear hK K
 refine norm_ (a' := ?_) ?_ ?_
 rotate_left
 ·show Act.put _ (some 37) _ = _
  simp only [Act.put, List.setIfInBounds_toArray, List.set_cons_zero, List.set_cons_succ, i64_w, i32_w]
  rfl
 refine one_ (i := 23) (N := some 38) #[true, true, true, true, true, true, true, true, true, true, true, true, true, true, true, true, true, true, true, true, true, true, true, true, false, false, false] rfl rfl (one_of HT_.out (by kernel_rfl)) (by decide) (fun K hK => ?_)
 refine Kd.R_append_step k48 (w0 := w) (W := (w.drewN nd).drew) base (by rfl) (.tmp 19) (.tmp 37) 44 48 (.agg #[.int .i64 0, .string ⟨#[]⟩, .int .i64 0, .int .i64 0]) 40 rfl Try.underlying44 (by kernel_rfl) rfl (by decide) (by decide) (.slice AI its.length cI) its (⟨t.f0, t.f2, t.f3, t.f4⟩ : S48) [.int .i64 t.f0, .string t.f2, .int .i64 t.f3, .int .i64 t.f4] (fun _ => True) (fun _ => False) rfl rfl (k48_mkM _ _ _ (⟨t.f0, t.f2, t.f3, t.f4⟩ : S48)) (fun _ hk => hk.elim) (fun _ _ => trivial) H4.out (pw_below_drewN (Below.refl _ _) (nd + 1)) hb (by omega) ?_
 intro v1 w2 hown hb2 hgr hat
 obtain ⟨A1, c1, rfl⟩ := Kd.R_slice hown
 simp only [List.length_append, List.length_singleton] at hown hat
 have q0 := hgr.cell (show ((w.drewN nd).drew).cell? ⟨gC, cs.length * 2 + 1, none⟩ = _ from kC) (fun e => Tb.ne TA_.out (HI.out _ e.symm) (by decide) rfl)
 have q1 := hgr.cell (show ((w.drewN nd).drew).cell? _ = _ from HT.out.c0) (fun e => Tb.ne HT.out.ty (HI.out _ e.symm) (by decide) rfl)
 have q2 := hgr.cell (show ((w.drewN nd).drew).cell? _ = _ from HT.out.c2) (fun e => Tb.ne HT.out.ty (HI.out _ e.symm) (by decide) rfl)
 have q3 := hgr.cell (show ((w.drewN nd).drew).cell? _ = _ from HT.out.c3) (fun e => Tb.ne HT.out.ty (HI.out _ e.symm) (by decide) rfl)
 have q4 := hgr.cell (show ((w.drewN nd).drew).cell? _ = _ from HT.out.c4) (fun e => Tb.ne HT.out.ty (HI.out _ e.symm) (by decide) rfl)
 have fC2 : w2.frozen? ⟨gC, cs.length * 2 + 1, none⟩ = false := (World.frozen?_of_block (hgr.block gC ltC (fun e => Tb.ne TA_.out (HI.out gC e.symm) (by decide) rfl))).trans fC
 have HP := Aside0.mk (And.intro hown (And.intro hb2 (And.intro hgr hat)))
 clear hown hb2 hgr hat
 refine hK.out _ _ ⟨q0, q1, q2, q3, q4⟩ (fun hHeld => ?_)
 clear hK K
 refine norm_ (a' := ?_) ?_ ?_
 rotate_left
 ·show Act.put _ (some 38) _ = _
  simp only [Act.put, List.setIfInBounds_toArray, List.set_cons_zero, List.set_cons_succ, i64_w, i32_w]
  rfl
 refine pure_ (i := 24) (N := some 39) (v := ?_) (a' := ?_) #[true, true, true, true, true, true, true, true, true, true, true, true, true, true, true, true, true, true, true, true, true, true, true, true, true, false, false] rfl rfl (any_of HT_.out (by kernel_rfl)) (fun _ _ _ h => h) (Or.inl ⟨by rfl, ?_⟩) ?_ ?_
 rotate_left
 ·intro w'
  go_simp
  with_reducible rfl
 rotate_left
 ·simp only [Act.put, List.setIfInBounds_toArray, List.set_cons_zero, List.set_cons_succ, i64_w, i32_w]
  rfl
 refine pure_ (i := 25) (N := some 40) (v := ?_) (a' := ?_) #[true, true, true, true, true, true, true, true, true, true, true, true, true, true, true, true, true, true, true, true, true, true, true, true, true, true, false] rfl rfl (any_of HT_.out (by kernel_rfl)) (fun _ _ _ h => h) (Or.inl ⟨by rfl, ?_⟩) ?_ ?_
 rotate_left
 ·intro w'
  go_simp
  with_reducible rfl
 rotate_left
 ·simp only [Act.put, List.setIfInBounds_toArray, List.set_cons_zero, List.set_cons_succ, i64_w, i32_w]
  rfl
 refine last_ (i := 26) (N := none) #[true, true, true, true, true, true, true, true, true, true, true, true, true, true, true, true, true, true, true, true, true, true, true, true, true, true, true] rfl rfl (one_of HT_.out (by kernel_rfl)) (by decide) (fun K hK => ?_)
 have q0 := hHeld.1
 refine skip_ (w1 := ?_) (by rfl) rfl ?_ ?_
 rotate_left
 ·go_simp
  rfl
 refine hK.out _ _ ?_
 clear hK K
 refine done_ (done_of HT_.out (by kernel_rfl)) ?_
 obtain ⟨hown, hb2, hgr, hat⟩ := HP.out
 have HG2 : (w2.setCell ⟨gC, cs.length * 2 + 1, none⟩ (.slice A1 (its.length + 1) c1)).heap[g]? = some (.cells #[.int .i64 st, vS, .slice (some ⟨gD, 0, none⟩) (ds.length + 1) cD] 56 (0, 0)) :=
  (Below.heap_setCell w2 ⟨gC, cs.length * 2 + 1, none⟩ _ g (Tb.ne ⟨_, HG.out⟩ TA_.out (by decide))).trans ((hgr.block g (blk_lt HG.out) (fun e => Tb.ne ⟨_, HG.out⟩ (HI.out g e.symm) (by decide) rfl)).trans HG.out)
 have z := Aside0.mk (zip_item (W := (w.drewN nd).drew) H1.out H2.out H3.out H4.out HB'.out HB.out rfl hgr hat hown)
 have tC2 : Tb w2 46 gC := by
  obtain ⟨c, hc⟩ := TA_.out
  exact ⟨c, (hgr.block gC ltC (fun e => Tb.ne TA_.out (HI.out gC e.symm) (by decide) rfl)).trans hc⟩
 have ky := Aside0.mk (((((Kz.drew (base := base) D1.out).grown hgr HI.out (by decide) hb2).set tC2 bC (by decide) (cs.length * 2 + 1) (.slice A1 (its.length + 1) c1)).ky g))
 clear HP hown hb2 hgr hat tC2 HT_ HW_
 have HG3 := Aside0.mk HG2
 clear HG2
 generalize w2.setCell ⟨gC, cs.length * 2 + 1, none⟩ (.slice A1 (its.length + 1) c1) = w3 at *
 have g0 : w3.cell? ⟨g, 0, none⟩ = some (.int .i64 st) := (blk_cell HG3.out 0).trans rfl
 have gf : w3.frozen? ⟨g, 0, none⟩ = false := blk_frozen HG3.out 0
 go_wp2
 go_end0
 exact ⟨rfl, blk_put HG3.out _ _ rfl, z.out.move (Fz.set ⟨_, HG3.out⟩ (by decide) _ _), ky.out.set hbg ⟨_, HG3.out⟩ _ _⟩
def np_open.T6 : Bool × List (List Nat × List Nat) := (true, [([], []), ([], []), ([1], [1]), ([2], [2]), ([3], [3]), ([4], [4]), ([], []), ([6], [6]), ([7], [7]), ([8], [8]), ([], []), ([9, 10], [9, 10]), ([11], [11]), ([5, 12], [5, 12]), ([0, 0, 1, 2, 3, 4, 5, 6, 7, 8, 9, 10, 11, 12, 13], [0]), ([14, 0, 1, 2, 3, 4, 5, 6, 7, 8, 9, 10, 11, 12, 13], [14]), ([15, 0, 1, 2, 3, 4, 5, 6, 7, 8, 9, 10, 11, 12, 13], [15]), ([16, 13, 13, 0, 1, 2, 3, 4, 5, 6, 7, 8, 9, 10, 11, 12, 13], [13, 16])])
def np_open.B6 : List Nat := [0, 0, 2, 6, 14, 30, 0, 64, 192, 448, 0, 1984, 4032, 8190, 16383, 32767, 65535, 131071]
theorem np_open.tab6 : rtab .any (opsOf Try.f26 6) = np_open.T6 := by kernel_rfl
theorem np_open.bits6 : waitsOk np_open.T6.2 np_open.B6 = true := by kernel_rfl
set_option maxHeartbeats 8000000 in
set_option maxRecDepth 100000 in
theorem np_open0 (w : World) (base g tb tf : Nat) (st : Int) (vS vD : Value) (t : S60) (defs : List S42) (hg : w.heap[g]? = some (.cells #[.int .i64 st, vS, vD] 56 (0, 0))) (hb : base ≤ w.heap.size) (hbg : base ≤ g)
  (hz : Dz w base vD defs) (hT : TA w tb tf t) (hn : defs.length ≤ 1000000) (hk : t.f0 = 0) :
  Calls Try.prog 26 #[.pointer (some ⟨g, 0, none⟩), .pointer (some ⟨tb, tf, none⟩)] w fun e w' => e = .returned (.bool true) ∧ (∃ v1, w'.heap[g]? = some (.cells #[.int .i64 3, vS, v1] 56 (0, 0)) ∧ Dz w' base v1 (defs ++ [⟨t.f2, [[]]⟩])) ∧ Ky base g w w' := by
 obtain ⟨inner, ho, hr⟩ := hz.own
 have hD := hz.blk
 obtain ⟨AD, cD, rfl⟩ := own_slice ho
 have b0 : (t.f0 == 3) = false := beq_eq_false_iff_ne.2 (by omega)
 have b1 : (t.f0 == 0) = true := beq_iff_eq.2 hk
 have t0 := hT.c0
 have HG := Aside0.mk hg
 have HO := Aside0.mk ho
 have HD := Aside0.mk hD
 have HT := Aside0.mk hT
 have HR := Aside0.mk (show Reps (k42.M w base (fun k => k ≠ w.heap.size)) 2 defs inner from hr.imp_ (fun x cs hp => k42.M_mono (fun k hk => by have := hk.2.2.1; omega) (k42.M_bound hp)))
 have kg := (blk_cell hg 2).trans rfl
 clear hg hz ho hr hD hT hk
 generalize hx : t.f0 = x at b0 b1 t0
 clear hx
 go_enter Try.func26, Try.ntmps26
 go_wp2
 have D1 : Aside0 (Drawn0 w w.drew) := ⟨⟨1, rfl⟩⟩
 refine start_ (n := 18) (S := fun w' => w'.cell? ⟨g, 2, none⟩ = some (.slice AD defs.length cD) ∧ w'.cell? ⟨tb, tf + 2, none⟩ = some (.string t.f2)) (ds := [17]) #[false, false, false, false, false, false, false, false, false, false, false, false, false, false, false, false, false, false] (by kernel_rfl) rfl rfl ⟨kg, HT.out.c2⟩ (fun hHeld => ?_)
 refine with_tabW np_open.tab6 np_open.bits6 (fun HT_ HW_ => ?_)
 refine pure_ (i := 0) (N := some 16) (v := ?_) (a' := ?_) #[true, false, false, false, false, false, false, false, false, false, false, false, false, false, false, false, false, false] rfl rfl (any_of HT_.out (by kernel_rfl)) (fun _ _ _ h => h) (Or.inl ⟨by rfl, ?_⟩) ?_ ?_
 rotate_left
 ·intro w'
  go_simp
  with_reducible rfl
 rotate_left
 ·simp only [Act.put, List.setIfInBounds_toArray, List.set_cons_zero, List.set_cons_succ, i64_w, i32_w]
  rfl
 refine pure_ (i := 1) (N := some 17) (v := ?_) (a' := ?_) #[true, true, false, false, false, false, false, false, false, false, false, false, false, false, false, false, false, false] rfl rfl (any_of HT_.out (by kernel_rfl)) (fun _ _ _ h => h) (Or.inl ⟨by rfl, ?_⟩) ?_ ?_
 rotate_left
 ·intro w'
  go_simp
  with_reducible rfl
 rotate_left
 ·simp only [Act.put, List.setIfInBounds_toArray, List.set_cons_zero, List.set_cons_succ, i64_w, i32_w]
  rfl
 refine pure_ (i := 2) (N := some 18) (v := ?_) (a' := ?_) #[true, true, true, false, false, false, false, false, false, false, false, false, false, false, false, false, false, false] rfl rfl (any_of HT_.out (by kernel_rfl)) (fun _ _ _ h => h) (Or.inl ⟨by rfl, ?_⟩) ?_ ?_
 rotate_left
 ·intro w'
  go_simp
  with_reducible rfl
 rotate_left
 ·simp only [Act.put, List.setIfInBounds_toArray, List.set_cons_zero, List.set_cons_succ, i64_w, i32_w]
  rfl
 refine pure_ (i := 3) (N := some 19) (v := ?_) (a' := ?_) #[true, true, true, true, false, false, false, false, false, false, false, false, false, false, false, false, false, false] rfl rfl (any_of HT_.out (by kernel_rfl)) (fun _ _ _ h => h) (Or.inl ⟨by rfl, ?_⟩) ?_ ?_
 rotate_left
 ·intro w'
  go_simp
  with_reducible rfl
 rotate_left
 ·simp only [Act.put, List.setIfInBounds_toArray, List.set_cons_zero, List.set_cons_succ, i64_w, i32_w]
  rfl
 refine pure_ (i := 4) (N := some 20) (v := ?_) (a' := ?_) #[true, true, true, true, true, false, false, false, false, false, false, false, false, false, false, false, false, false] rfl rfl (any_of HT_.out (by kernel_rfl)) (fun _ _ _ h => h) (Or.inl ⟨by rfl, ?_⟩) ?_ ?_
 rotate_left
 ·intro w'
  go_simp
  with_reducible rfl
 rotate_left
 ·simp only [Act.put, List.setIfInBounds_toArray, List.set_cons_zero, List.set_cons_succ, i64_w, i32_w]
  rfl
 refine pure_ (i := 6) (N := some 22) (v := ?_) (a' := ?_) #[true, true, true, true, true, false, true, false, false, false, false, false, false, false, false, false, false, false] rfl rfl (any_of HT_.out (by kernel_rfl)) (fun _ _ _ h => h) (Or.inl ⟨by rfl, ?_⟩) ?_ ?_
 rotate_left
 ·intro w'
  go_simp
  with_reducible rfl
 rotate_left
 ·simp only [Act.put, List.setIfInBounds_toArray, List.set_cons_zero, List.set_cons_succ, i64_w, i32_w]
  rfl
 refine pure_ (i := 7) (N := some 23) (v := ?_) (a' := ?_) #[true, true, true, true, true, false, true, true, false, false, false, false, false, false, false, false, false, false] rfl rfl (any_of HT_.out (by kernel_rfl)) (fun _ _ _ h => h) (Or.inl ⟨by rfl, ?_⟩) ?_ ?_
 rotate_left
 ·intro w'
  go_simp
  with_reducible rfl
 rotate_left
 ·simp only [Act.put, List.setIfInBounds_toArray, List.set_cons_zero, List.set_cons_succ, i64_w, i32_w]
  rfl
 refine pure_ (i := 8) (N := some 24) (v := ?_) (a' := ?_) #[true, true, true, true, true, false, true, true, true, false, false, false, false, false, false, false, false, false] rfl rfl (any_of HT_.out (by kernel_rfl)) (fun _ _ _ h => h) (Or.inl ⟨by rfl, ?_⟩) ?_ ?_
 rotate_left
 ·intro w'
  go_simp
  with_reducible rfl
 rotate_left
 ·simp only [Act.put, List.setIfInBounds_toArray, List.set_cons_zero, List.set_cons_succ, i64_w, i32_w]
  rfl
 refine take_ (i := 5) (N := some 21) (v := ?_) (a' := ?_) #[true, true, true, true, true, true, true, true, true, false, false, false, false, false, false, false, false, false] rfl rfl (take_ofW HT_.out HW_.out (by kernel_rfl)) (fun _ _ _ h => h) (Or.inl ⟨by rfl, ?_⟩) hHeld ?_ ?_
 rotate_left
 ·rintro w' ⟨s0, s1⟩
  go_simp
  with_reducible rfl
 rotate_left
 ·simp only [Act.put, List.setIfInBounds_toArray, List.set_cons_zero, List.set_cons_succ, i64_w, i32_w]
  rfl
 refine take_ (i := 9) (N := some 25) (v := ?_) (a' := ?_) #[true, true, true, true, true, true, true, true, true, true, false, false, false, false, false, false, false, false] rfl rfl (take_ofW HT_.out HW_.out (by kernel_rfl)) (fun _ _ _ h => h) (Or.inl ⟨by rfl, ?_⟩) hHeld ?_ ?_
 rotate_left
 ·rintro w' ⟨s0, s1⟩
  go_simp
  with_reducible rfl
 rotate_left
 ·simp only [Act.put, List.setIfInBounds_toArray, List.set_cons_zero, List.set_cons_succ, i64_w, i32_w]
  rfl
 refine one_ (i := 10) (N := some 26) #[true, true, true, true, true, true, true, true, true, true, true, false, false, false, false, false, false, false] rfl rfl (one_of HT_.out (by kernel_rfl)) (by decide) (fun K hK => ?_)
 refine value_ (w1 := ?_) (v := ?_) (by rfl) rfl ?_ ?_
 rotate_left 2
 ·go_simp
  constructor
  ·rfl
  ·rfl
 refine hK.out _ _ ⟨(World.cell?_alloc_lt w.drew _ _ (World.block_lt_of_cell? w _ (kg))).trans (kg), (World.cell?_alloc_lt w.drew _ _ (World.block_lt_of_cell? w _ (HT.out.c2))).trans (HT.out.c2)⟩ (fun hHeld => ?_)
 clear hK K
 refine norm_ (a' := ?_) ?_ ?_
 rotate_left
 ·show Act.put _ (some 26) _ = _
  simp only [Act.put, List.setIfInBounds_toArray, List.set_cons_zero, List.set_cons_succ, i64_w, i32_w]
  rfl
 refine take_ (i := 11) (N := some 27) (v := ?_) (a' := ?_) #[true, true, true, true, true, true, true, true, true, true, true, true, false, false, false, false, false, false] rfl rfl (take_ofW HT_.out HW_.out (by kernel_rfl)) (fun _ _ _ h => h) (Or.inl ⟨by rfl, ?_⟩) hHeld ?_ ?_
 rotate_left
 ·rintro w' ⟨s0, s1⟩
  go_simp
  with_reducible rfl
 rotate_left
 ·simp only [Act.put, List.setIfInBounds_toArray, List.set_cons_zero, List.set_cons_succ, i64_w, i32_w]
  rfl
 refine one_ (i := 12) (N := some 28) #[true, true, true, true, true, true, true, true, true, true, true, true, true, false, false, false, false, false] rfl rfl (one_of HT_.out (by kernel_rfl)) (by decide) (fun K hK => ?_)
 refine value_ (w1 := ?_) (v := ?_) (by rfl) rfl ?_ ?_
 rotate_left 2
 ·go_simp
  constructor
  ·rfl
  ·rfl
 refine hK.out _ _ ⟨(World.cell?_alloc_lt (w.drew.alloc (.cells #[.slice none 0 0] 43)) _ _ (Nat.lt_trans (World.block_lt_of_cell? w _ (kg)) (by simp))).trans ((World.cell?_alloc_lt w.drew _ _ (World.block_lt_of_cell? w _ (kg))).trans (kg)), (World.cell?_alloc_lt (w.drew.alloc (.cells #[.slice none 0 0] 43)) _ _ (Nat.lt_trans (World.block_lt_of_cell? w _ (HT.out.c2)) (by simp))).trans ((World.cell?_alloc_lt w.drew _ _ (World.block_lt_of_cell? w _ (HT.out.c2))).trans (HT.out.c2))⟩ (fun hHeld => ?_)
 clear hK K
 refine norm_ (a' := ?_) ?_ ?_
 rotate_left
 ·show Act.put _ (some 28) _ = _
  simp only [Act.put, List.setIfInBounds_toArray, List.set_cons_zero, List.set_cons_succ, i64_w, i32_w]
  rfl
 refine one_ (i := 13) (N := some 29) #[true, true, true, true, true, true, true, true, true, true, true, true, true, true, false, false, false, false] rfl rfl (one_of HT_.out (by kernel_rfl)) (by decide) (fun K hK => ?_)
 have hblk : (w.drew.alloc (.cells #[.slice none 0 0] 43)).heap[w.heap.size]? = some (.cells #[.slice none 0 0] 43 (0, 0)) := blk_new w.drew _
 refine step_append_cells (w0 := w) (W := (w.drew.alloc (.cells #[.slice none 0 0] 43))) base (by rfl) (.tmp 21) (.tmp 28) 23 42 (.agg #[.string ⟨#[]⟩, .slice none 0 0]) 2 40 rfl Try.underlying23 (by kernel_rfl) rfl (by decide) (by decide) (.slice AD defs.length cD) defs.length inner [.string t.f2, .slice (some ⟨w.heap.size, 0, none⟩) 1 1] rfl (by first | rfl | (simp; rfl)) rfl (by simp [Value.oneCell']) (HO.out.alloc _) (below_alloc_ (pw_below_drewN (Below.refl _ _) 1) hb _) (by simp; omega) (by omega) ?_
 intro v1 w2 hown hb2 hgr hat
 obtain ⟨A1, c1, rfl⟩ := own_slice hown
 have q0 := hgr.cell ((World.cell?_alloc_lt w.drew (.cells #[.slice none 0 0] 43) ⟨g, 2, none⟩ (World.block_lt_of_cell? w _ kg)).trans kg) (fun e => Tb.ne ⟨_, HG.out⟩ (HD.out g e.symm) (by decide) rfl)
 have q1 := hgr.cell ((World.cell?_alloc_lt w.drew (.cells #[.slice none 0 0] 43) ⟨tb, tf + 2, none⟩ (World.block_lt_of_cell? w _ HT.out.c2)).trans HT.out.c2) (fun e => Tb.ne HT.out.ty (HD.out tb e.symm) (by decide) rfl)
 have HG2 := Aside0.mk ((hgr.block g (Nat.lt_trans (blk_lt HG.out) (by simp)) (fun e => Tb.ne ⟨_, HG.out⟩ (HD.out g e.symm) (by decide) rfl)).trans ((Below.heap_alloc w.drew (.cells #[.slice none 0 0] 43) g (blk_lt HG.out)).trans HG.out))
 have gf2 : w2.frozen? ⟨g, 2, none⟩ = false := blk_frozen HG2.out 2
 have HP := Aside0.mk (And.intro hblk (And.intro hown (And.intro hb2 (And.intro hgr hat))))
 clear hblk hown hb2 hgr hat
 refine hK.out _ _ ⟨q0, q1⟩ (fun hHeld => ?_)
 clear hK K
 refine norm_ (a' := ?_) ?_ ?_
 rotate_left
 ·show Act.put _ (some 29) _ = _
  simp only [Act.put, List.setIfInBounds_toArray, List.set_cons_zero, List.set_cons_succ, i64_w, i32_w]
  rfl
 refine pure_ (i := 14) (N := some 30) (v := ?_) (a' := ?_) #[true, true, true, true, true, true, true, true, true, true, true, true, true, true, true, false, false, false] rfl rfl (any_of HT_.out (by kernel_rfl)) (fun _ _ _ h => h) (Or.inl ⟨by rfl, ?_⟩) ?_ ?_
 rotate_left
 ·intro w'
  go_simp
  with_reducible rfl
 rotate_left
 ·simp only [Act.put, List.setIfInBounds_toArray, List.set_cons_zero, List.set_cons_succ, i64_w, i32_w]
  rfl
 refine pure_ (i := 15) (N := some 31) (v := ?_) (a' := ?_) #[true, true, true, true, true, true, true, true, true, true, true, true, true, true, true, true, false, false] rfl rfl (any_of HT_.out (by kernel_rfl)) (fun _ _ _ h => h) (Or.inl ⟨by rfl, ?_⟩) ?_ ?_
 rotate_left
 ·intro w'
  go_simp
  with_reducible rfl
 rotate_left
 ·simp only [Act.put, List.setIfInBounds_toArray, List.set_cons_zero, List.set_cons_succ, i64_w, i32_w]
  rfl
 refine pure_ (i := 16) (N := some 32) (v := ?_) (a' := ?_) #[true, true, true, true, true, true, true, true, true, true, true, true, true, true, true, true, true, false] rfl rfl (any_of HT_.out (by kernel_rfl)) (fun _ _ _ h => h) (Or.inl ⟨by rfl, ?_⟩) ?_ ?_
 rotate_left
 ·intro w'
  go_simp
  with_reducible rfl
 rotate_left
 ·simp only [Act.put, List.setIfInBounds_toArray, List.set_cons_zero, List.set_cons_succ, i64_w, i32_w]
  rfl
 refine last_ (i := 17) (N := none) #[true, true, true, true, true, true, true, true, true, true, true, true, true, true, true, true, true, true] rfl rfl (one_of HT_.out (by kernel_rfl)) (by decide) (fun K hK => ?_)
 have q0 := hHeld.1
 refine skip_ (w1 := ?_) (by rfl) rfl ?_ ?_
 rotate_left
 ·go_simp
  rfl
 refine hK.out _ _ ?_
 clear hK K
 refine done_ (done_of HT_.out (by kernel_rfl)) ?_
 obtain ⟨hblk, hown, hb2, hgr, hat⟩ := HP.out
 have z := Aside0.mk (zip_def (W := w.drew.alloc (.cells #[.slice none 0 0] 43)) hblk hb (HR.out.imp_ (fun x cs hp => Kd.M_step hp (fun k _ hlt => Below.heap_alloc w.drew (.cells #[.slice none 0 0] 43) k hlt))) (fun k hk => by
  obtain ⟨c, hc⟩ := HD.out k hk
  exact ⟨c, (Below.heap_alloc w.drew (.cells #[.slice none 0 0] 43) k (blk_lt hc)).trans hc⟩) hgr hown)
 have ky := Aside0.mk (((Kz.below (base := base) (below_alloc_ (pw_below_drewN (Below.refl w.heap.size w) 1) (Nat.le_refl _) (.cells #[.slice none 0 0] 43)) (below_alloc_ (pw_below_drewN (Below.refl base w) 1) hb (.cells #[.slice none 0 0] 43))).grown hgr (fun k hk => by
  obtain ⟨c, hc⟩ := HD.out k hk
  exact ⟨c, (Below.heap_alloc w.drew (.cells #[.slice none 0 0] 43) k (blk_lt hc)).trans hc⟩) (by decide) hb2).ky g)
 have HG3 := Aside0.mk (blk_put HG2.out 2 (.slice A1 (defs.length + 1) c1) rfl)
 have z2 := Aside0.mk (z.out.move (Fz.set ⟨_, HG2.out⟩ (by decide) 2 (.slice A1 (defs.length + 1) c1)))
 have ky2 := Aside0.mk (ky.out.set hbg ⟨_, HG2.out⟩ 2 (.slice A1 (defs.length + 1) c1))
 clear HP hblk hown hb2 hgr hat HT_ HW_ ky z
 generalize w2.setCell ⟨g, 2, none⟩ (.slice A1 (defs.length + 1) c1) = w3 at *
 have g0 : w3.cell? ⟨g, 0, none⟩ = some (.int .i64 st) := (blk_cell HG3.out 0).trans rfl
 have gf : w3.frozen? ⟨g, 0, none⟩ = false := blk_frozen HG3.out 0
 go_wp2
 go_ret
 exact ⟨rfl, ⟨_, blk_put HG3.out _ _ rfl, z2.out.move (Fz.set ⟨_, HG3.out⟩ (by decide) _ _)⟩, ky2.out.set hbg ⟨_, HG3.out⟩ _ _⟩
theorem np_open3 (w : World) (base g tb tf : Nat) (st : Int) (vS vD : Value) (t : S60) (hg : w.heap[g]? = some (.cells #[.int .i64 st, vS, vD] 56 (0, 0))) (hbg : base ≤ g) (hT : TA w tb tf t) (hk : t.f0 = 3) :
  Calls Try.prog 26 #[.pointer (some ⟨g, 0, none⟩), .pointer (some ⟨tb, tf, none⟩)] w fun e w' => e = .returned (.bool true) ∧ w' = w.setCell ⟨g, 0, none⟩ (.int .i64 1) := by
 have b0 : (t.f0 == 3) = true := beq_iff_eq.2 hk
 have t0 := hT.c0
 have HG := Aside0.mk hg
 clear hT hk hg
 generalize hx : t.f0 = x at b0 t0
 clear hx
 have g0 : w.cell? ⟨g, 0, none⟩ = some (.int .i64 st) := (blk_cell HG.out 0).trans rfl
 have gf : w.frozen? ⟨g, 0, none⟩ = false := blk_frozen HG.out 0
 go_enter Try.func26, Try.ntmps26
 go_wp2
 go_ret
 exact ⟨rfl, rfl⟩
theorem np_openN (w : World) (g tb tf : Nat) (t : S60) (hT : TA w tb tf t) (hk : t.f0 ≠ 3) (hk2 : t.f0 ≠ 0) :
  Calls Try.prog 26 #[.pointer (some ⟨g, 0, none⟩), .pointer (some ⟨tb, tf, none⟩)] w fun e w' => e = .returned (.bool false) ∧ w' = w := by
 have b0 : (t.f0 == 3) = false := beq_eq_false_iff_ne.2 hk
 have b1 : (t.f0 == 0) = false := beq_eq_false_iff_ne.2 hk2
 have t0 := hT.c0
 clear hT hk hk2
 generalize hx : t.f0 = x at b0 b1 t0
 clear hx
 go_enter Try.func26, Try.ntmps26
 go_wp2
 go_ret
 exact ⟨rfl, rfl⟩
theorem isItem_kind {k : Int} : isItemB k = true → k = 0 ∨ k = 1 ∨ k = 2 := fun h => of_decide_eq_true h
theorem np_conj7 (w : World) (base g tb tf : Nat) (st : Int) (vS vD : Value) (t : S60) (ds : List S42) (nm : ByteArray) (bs : List (List S46)) (a : List S46) (hg : w.heap[g]? = some (.cells #[.int .i64 st, vS, vD] 56 (0, 0))) (hb : base ≤ w.heap.size) (hbg : base ≤ g)
  (hz : Dz w base vD (ds ++ [⟨nm, bs ++ [a]⟩])) (hT : TA w tb tf t) (hn : ds.length ≤ 1000000) (hm : bs.length ≤ 1000000) (ha : a.length ≤ 1000000) (hk : t.f0 = 7) :
  Calls Try.prog 27 #[.pointer (some ⟨g, 0, none⟩), .pointer (some ⟨tb, tf, none⟩)] w fun e w' => e = .returned (.bool true) ∧ w'.heap[g]? = some (.cells #[.int .i64 5, vS, vD] 56 (0, 0)) ∧ Dz w' base vD (ds ++ [⟨nm, bs ++ [a ++ [⟨true, []⟩]]⟩]) ∧ Ky base g w w' := by
 have b0 : (t.f0 == 7) = true := beq_iff_eq.2 hk
 have t0 := hT.c0
 have HG := Aside0.mk hg
 have HZ := Aside0.mk hz
 clear hT hk hg hz
 generalize hx : t.f0 = x at b0 t0
 clear hx
 go_enter Try.func27, Try.ntmps27
 go_wp2_with (first | (go_at_call 47; refine (np_begin w base g (.int .i64 st) vS vD true ds nm bs a HG.out hb HZ.out hn hm ha).mono ?_; rintro e w1 ⟨rfl, hz1, hk1⟩; (have HG1 := Aside0.mk ((hk1.same 56 g (by simp) ⟨_, HG.out⟩).trans HG.out)); (have g0 : w1.cell? ⟨g, 0, none⟩ = some (.int .i64 st) := (blk_cell HG1.out 0).trans rfl); (have gf : w1.frozen? ⟨g, 0, none⟩ = false := blk_frozen HG1.out 0); (have HP := Aside0.mk (And.intro hz1 hk1)); clear hz1 hk1))
 go_ret
 obtain ⟨hz1, hk1⟩ := HP.out
 exact ⟨rfl, blk_put HG1.out _ _ rfl, hz1.move (Fz.set ⟨_, HG1.out⟩ (by decide) _ _), (hk1.ky g).set hbg ⟨_, HG1.out⟩ _ _⟩
theorem np_conjI (w : World) (base g tb tf : Nat) (st : Int) (vS vD : Value) (t : S60) (ds : List S42) (nm : ByteArray) (bs : List (List S46)) (a : List S46) (hg : w.heap[g]? = some (.cells #[.int .i64 st, vS, vD] 56 (0, 0))) (hb : base ≤ w.heap.size) (hbg : base ≤ g)
  (hz : Dz w base vD (ds ++ [⟨nm, bs ++ [a]⟩])) (hT : TA w tb tf t) (hn : ds.length ≤ 1000000) (hm : bs.length ≤ 1000000) (ha : a.length ≤ 1000000) (hk : isItemB t.f0 = true) :
  Calls Try.prog 27 #[.pointer (some ⟨g, 0, none⟩), .pointer (some ⟨tb, tf, none⟩)] w fun e w' => e = .returned (.bool true) ∧ w'.heap[g]? = some (.cells #[.int .i64 6, vS, vD] 56 (0, 0)) ∧ Dz w' base vD (ds ++ [⟨nm, bs ++ [a ++ [⟨false, [⟨t.f0, t.f2, t.f3, t.f4⟩]⟩]]⟩]) ∧ Ky base g w w' := by
 have b0 : (t.f0 == 7) = false := beq_eq_false_iff_ne.2 (by have := isItem_kind hk; omega)
 have t0 := hT.c0
 have HG := Aside0.mk hg
 have HZ := Aside0.mk hz
 have HT := Aside0.mk hT
 have HK := Aside0.mk hk
 clear hT hk hg hz
 go_enter Try.func27, Try.ntmps27
 go_wp2_with (first | (go_at_call 28; refine (np_isItem w tb tf t HT.out).mono ?_; rw [HK.out]; rintro e w1 ⟨rfl, hw_⟩; rw [hw_]; clear hw_ w1) | (go_at_call 47; refine (np_begin w base g (.int .i64 st) vS vD false ds nm bs a HG.out hb HZ.out hn hm ha).mono ?_; rintro e w1 ⟨rfl, hz1, hk1⟩; (have HG1 := Aside0.mk ((hk1.same 56 g (by simp) ⟨_, HG.out⟩).trans HG.out)); (have HP := Aside0.mk (And.intro hz1 hk1)); clear hz1 hk1) | (go_at_call 29; refine (np_item w1 base g tb tf st vS vD t false ds nm bs a [] HG1.out (Nat.le_trans hb HP.out.2.bel.size) hbg HP.out.1 (HP.out.2.ta HT.out) hn hm ha (by simp)).mono ?_; rintro e w2 ⟨rfl, hg2, hz2, hk2⟩; (have HP2 := Aside0.mk (And.intro hg2 (And.intro hz2 hk2))); clear hg2 hz2 hk2))
 go_ret
 obtain ⟨hg2, hz2, hk2⟩ := HP2.out
 exact ⟨rfl, hg2, hz2, (HP.out.2.ky g).trans hk2⟩
theorem np_conjN (w : World) (g tb tf : Nat) (t : S60) (hT : TA w tb tf t) (hk : isItemB t.f0 = false) (hk7 : t.f0 ≠ 7) :
  Calls Try.prog 27 #[.pointer (some ⟨g, 0, none⟩), .pointer (some ⟨tb, tf, none⟩)] w fun e w' => e = .returned (.bool false) ∧ w' = w := by
 have b0 : (t.f0 == 7) = false := beq_eq_false_iff_ne.2 hk7
 have t0 := hT.c0
 have HT := Aside0.mk hT
 have HK := Aside0.mk hk
 clear hT hk
 go_enter Try.func27, Try.ntmps27
 go_wp2_with (first | (go_at_call 28; refine (np_isItem w tb tf t HT.out).mono ?_; rw [HK.out]; rintro e w1 ⟨rfl, hw_⟩; rw [hw_]; clear hw_ w1))
 go_ret
 exact ⟨rfl, rfl⟩
def np_start.T5 : Bool × List (List Nat × List Nat) := (true, [([], []), ([], []), ([1], [1]), ([2], [2]), ([3], [3]), ([4], [4]), ([], []), ([6], [6]), ([7], [7]), ([8], [8]), ([9], [9]), ([5, 10], [5, 10]), ([0, 0, 1, 2, 3, 4, 5, 6, 7, 8, 9, 10, 11], [0]), ([12, 0, 1, 2, 3, 4, 5, 6, 7, 8, 9, 10, 11], [12]), ([13, 0, 1, 2, 3, 4, 5, 6, 7, 8, 9, 10, 11], [13]), ([14, 11, 11, 0, 1, 2, 3, 4, 5, 6, 7, 8, 9, 10, 11], [11, 14])])
def np_start.B5 : List Nat := [0, 0, 2, 6, 14, 30, 0, 64, 192, 448, 960, 2046, 4095, 8191, 16383, 32767]
theorem np_start.tab5 : rtab .any (opsOf Try.f16 5) = np_start.T5 := by kernel_rfl
theorem np_start.bits5 : waitsOk np_start.T5.2 np_start.B5 = true := by kernel_rfl
set_option maxHeartbeats 8000000 in
set_option maxRecDepth 100000 in
theorem np_start (w : World) (base g tb tf : Nat) (vS vD : Value) (t : S60) (starts : List ByteArray) (defs : List S42) (hg : w.heap[g]? = some (.cells #[.int .i64 1, vS, vD] 56 (0, 0))) (hb : base ≤ w.heap.size) (hbg : base ≤ g)
  (hs : Kd.R Kd.string 9 w base (fun _ => True) vS starts) (hz : Dz w base vD defs) (hT : TA w tb tf t) (hn : starts.length ≤ 1000000) :
  Calls Try.prog 16 #[.pointer (some ⟨g, 0, none⟩), .pointer (some ⟨tb, tf, none⟩)] w fun e w' => e = .returned (.bool (decide (t.f0 = 0))) ∧ (∃ v1, w'.heap[g]? = some (.cells #[.int .i64 2, v1, vD] 56 (0, 0)) ∧ Kd.R Kd.string 9 w' base (fun _ => True) v1 (starts ++ [t.f2]) ∧ Dz w' base vD defs) ∧ Kx base w w' := by
 have hS : ∀ k, vS.ownBlock = some k → Tb w 9 k := fun k hk => R_typed hs hk
 obtain ⟨AS, cS, rfl⟩ := Kd.R_slice hs
 have t0 := hT.c0
 have HG := Aside0.mk hg
 have HO := Aside0.mk hs
 have HZ := Aside0.mk hz
 have HS := Aside0.mk hS
 have HT := Aside0.mk hT
 have kg := (blk_cell hg 1).trans rfl
 have g0 : w.cell? ⟨g, 0, none⟩ = some (.int .i64 1) := (blk_cell hg 0).trans rfl
 clear hg hz hs hS hT
 go_enter Try.func16, Try.ntmps16
 go_wp2
 have D1 : Aside0 (Drawn0 w w.drew) := ⟨⟨1, rfl⟩⟩
 refine start_ (n := 16) (S := fun w' => w'.cell? ⟨g, 1, none⟩ = some (.slice AS starts.length cS) ∧ w'.cell? ⟨tb, tf + 2, none⟩ = some (.string t.f2)) (ds := [15]) #[false, false, false, false, false, false, false, false, false, false, false, false, false, false, false, false] (by kernel_rfl) rfl rfl ⟨kg, HT.out.c2⟩ (fun hHeld => ?_)
 refine with_tabW np_start.tab5 np_start.bits5 (fun HT_ HW_ => ?_)
 refine pure_ (i := 0) (N := some 16) (v := ?_) (a' := ?_) #[true, false, false, false, false, false, false, false, false, false, false, false, false, false, false, false] rfl rfl (any_of HT_.out (by kernel_rfl)) (fun _ _ _ h => h) (Or.inl ⟨by rfl, ?_⟩) ?_ ?_
 rotate_left
 ·intro w'
  go_simp
  with_reducible rfl
 rotate_left
 ·simp only [Act.put, List.setIfInBounds_toArray, List.set_cons_zero, List.set_cons_succ, i64_w, i32_w]
  rfl
 refine pure_ (i := 1) (N := some 17) (v := ?_) (a' := ?_) #[true, true, false, false, false, false, false, false, false, false, false, false, false, false, false, false] rfl rfl (any_of HT_.out (by kernel_rfl)) (fun _ _ _ h => h) (Or.inl ⟨by rfl, ?_⟩) ?_ ?_
 rotate_left
 ·intro w'
  go_simp
  with_reducible rfl
 rotate_left
 ·simp only [Act.put, List.setIfInBounds_toArray, List.set_cons_zero, List.set_cons_succ, i64_w, i32_w]
  rfl
 refine pure_ (i := 2) (N := some 18) (v := ?_) (a' := ?_) #[true, true, true, false, false, false, false, false, false, false, false, false, false, false, false, false] rfl rfl (any_of HT_.out (by kernel_rfl)) (fun _ _ _ h => h) (Or.inl ⟨by rfl, ?_⟩) ?_ ?_
 rotate_left
 ·intro w'
  go_simp
  with_reducible rfl
 rotate_left
 ·simp only [Act.put, List.setIfInBounds_toArray, List.set_cons_zero, List.set_cons_succ, i64_w, i32_w]
  rfl
 refine pure_ (i := 3) (N := some 19) (v := ?_) (a' := ?_) #[true, true, true, true, false, false, false, false, false, false, false, false, false, false, false, false] rfl rfl (any_of HT_.out (by kernel_rfl)) (fun _ _ _ h => h) (Or.inl ⟨by rfl, ?_⟩) ?_ ?_
 rotate_left
 ·intro w'
  go_simp
  with_reducible rfl
 rotate_left
 ·simp only [Act.put, List.setIfInBounds_toArray, List.set_cons_zero, List.set_cons_succ, i64_w, i32_w]
  rfl
 refine pure_ (i := 4) (N := some 20) (v := ?_) (a' := ?_) #[true, true, true, true, true, false, false, false, false, false, false, false, false, false, false, false] rfl rfl (any_of HT_.out (by kernel_rfl)) (fun _ _ _ h => h) (Or.inl ⟨by rfl, ?_⟩) ?_ ?_
 rotate_left
 ·intro w'
  go_simp
  with_reducible rfl
 rotate_left
 ·simp only [Act.put, List.setIfInBounds_toArray, List.set_cons_zero, List.set_cons_succ, i64_w, i32_w]
  rfl
 refine pure_ (i := 6) (N := some 22) (v := ?_) (a' := ?_) #[true, true, true, true, true, false, true, false, false, false, false, false, false, false, false, false] rfl rfl (any_of HT_.out (by kernel_rfl)) (fun _ _ _ h => h) (Or.inl ⟨by rfl, ?_⟩) ?_ ?_
 rotate_left
 ·intro w'
  go_simp
  with_reducible rfl
 rotate_left
 ·simp only [Act.put, List.setIfInBounds_toArray, List.set_cons_zero, List.set_cons_succ, i64_w, i32_w]
  rfl
 refine pure_ (i := 7) (N := some 23) (v := ?_) (a' := ?_) #[true, true, true, true, true, false, true, true, false, false, false, false, false, false, false, false] rfl rfl (any_of HT_.out (by kernel_rfl)) (fun _ _ _ h => h) (Or.inl ⟨by rfl, ?_⟩) ?_ ?_
 rotate_left
 ·intro w'
  go_simp
  with_reducible rfl
 rotate_left
 ·simp only [Act.put, List.setIfInBounds_toArray, List.set_cons_zero, List.set_cons_succ, i64_w, i32_w]
  rfl
 refine pure_ (i := 8) (N := some 24) (v := ?_) (a' := ?_) #[true, true, true, true, true, false, true, true, true, false, false, false, false, false, false, false] rfl rfl (any_of HT_.out (by kernel_rfl)) (fun _ _ _ h => h) (Or.inl ⟨by rfl, ?_⟩) ?_ ?_
 rotate_left
 ·intro w'
  go_simp
  with_reducible rfl
 rotate_left
 ·simp only [Act.put, List.setIfInBounds_toArray, List.set_cons_zero, List.set_cons_succ, i64_w, i32_w]
  rfl
 refine take_ (i := 5) (N := some 21) (v := ?_) (a' := ?_) #[true, true, true, true, true, true, true, true, true, false, false, false, false, false, false, false] rfl rfl (take_ofW HT_.out HW_.out (by kernel_rfl)) (fun _ _ _ h => h) (Or.inl ⟨by rfl, ?_⟩) hHeld ?_ ?_
 rotate_left
 ·rintro w' ⟨s0, s1⟩
  go_simp
  with_reducible rfl
 rotate_left
 ·simp only [Act.put, List.setIfInBounds_toArray, List.set_cons_zero, List.set_cons_succ, i64_w, i32_w]
  rfl
 refine take_ (i := 9) (N := some 25) (v := ?_) (a' := ?_) #[true, true, true, true, true, true, true, true, true, true, false, false, false, false, false, false] rfl rfl (take_ofW HT_.out HW_.out (by kernel_rfl)) (fun _ _ _ h => h) (Or.inl ⟨by rfl, ?_⟩) hHeld ?_ ?_
 rotate_left
 ·rintro w' ⟨s0, s1⟩
  go_simp
  with_reducible rfl
 rotate_left
 ·simp only [Act.put, List.setIfInBounds_toArray, List.set_cons_zero, List.set_cons_succ, i64_w, i32_w]
  rfl
 refine one_ (i := 10) (N := some 26) #[true, true, true, true, true, true, true, true, true, true, true, false, false, false, false, false] rfl rfl (one_of HT_.out (by kernel_rfl)) (by decide) (fun K hK => ?_)
 refine value_ (w1 := ?_) (v := ?_) (by rfl) rfl ?_ ?_
 rotate_left 2
 ·go_simp
  constructor
  ·rfl
  ·rfl
 refine hK.out _ _ ⟨(World.cell?_alloc_lt w.drew _ _ (World.block_lt_of_cell? w _ (kg))).trans (kg), (World.cell?_alloc_lt w.drew _ _ (World.block_lt_of_cell? w _ (HT.out.c2))).trans (HT.out.c2)⟩ (fun hHeld => ?_)
 clear hK K
 refine norm_ (a' := ?_) ?_ ?_
 rotate_left
 ·show Act.put _ (some 26) _ = _
  simp only [Act.put, List.setIfInBounds_toArray, List.set_cons_zero, List.set_cons_succ, i64_w, i32_w]
  rfl
 refine one_ (i := 11) (N := some 27) #[true, true, true, true, true, true, true, true, true, true, true, true, false, false, false, false] rfl rfl (one_of HT_.out (by kernel_rfl)) (by decide) (fun K hK => ?_)
 refine Kd.R_append_step Kd.string (w0 := w) (W := w.drew) base (by rfl) (.tmp 21) (.tmp 26) 22 9 (.string ⟨#[]⟩) 16 rfl Try.underlying22 (by kernel_rfl) rfl (by decide) (by decide) (.slice AS starts.length cS) starts t.f2 [.string t.f2] (fun _ => True) (fun _ => False) rfl rfl rfl (fun _ hk => hk.elim) (fun _ _ => trivial) HO.out (pw_below_drewN (Below.refl _ _) 1) hb (by omega) ?_
 intro v1 w2 hown hb2 hgr hat
 obtain ⟨A1, c1, rfl⟩ := Kd.R_slice hown
 simp only [List.length_append, List.length_singleton] at hown hat
 have q0 := hgr.cell (show w.drew.cell? ⟨g, 1, none⟩ = _ from kg) (fun e => Tb.ne ⟨_, HG.out⟩ (HS.out g e.symm) (by decide) rfl)
 have q1 := hgr.cell (show w.drew.cell? ⟨tb, tf + 2, none⟩ = _ from HT.out.c2) (fun e => Tb.ne HT.out.ty (HS.out tb e.symm) (by decide) rfl)
 have HG2 := Aside0.mk ((hgr.block g (blk_lt HG.out) (fun e => Tb.ne ⟨_, HG.out⟩ (HS.out g e.symm) (by decide) rfl)).trans HG.out)
 have gf2 : w2.frozen? ⟨g, 1, none⟩ = false := blk_frozen HG2.out 1
 have HP := Aside0.mk (And.intro hown (And.intro hb2 (And.intro hgr hat)))
 clear hown hb2 hgr hat
 refine hK.out _ _ ⟨q0, q1⟩ (fun hHeld => ?_)
 clear hK K
 refine norm_ (a' := ?_) ?_ ?_
 rotate_left
 ·show Act.put _ (some 27) _ = _
  simp only [Act.put, List.setIfInBounds_toArray, List.set_cons_zero, List.set_cons_succ, i64_w, i32_w]
  rfl
 refine pure_ (i := 12) (N := some 28) (v := ?_) (a' := ?_) #[true, true, true, true, true, true, true, true, true, true, true, true, true, false, false, false] rfl rfl (any_of HT_.out (by kernel_rfl)) (fun _ _ _ h => h) (Or.inl ⟨by rfl, ?_⟩) ?_ ?_
 rotate_left
 ·intro w'
  go_simp
  with_reducible rfl
 rotate_left
 ·simp only [Act.put, List.setIfInBounds_toArray, List.set_cons_zero, List.set_cons_succ, i64_w, i32_w]
  rfl
 refine pure_ (i := 13) (N := some 29) (v := ?_) (a' := ?_) #[true, true, true, true, true, true, true, true, true, true, true, true, true, true, false, false] rfl rfl (any_of HT_.out (by kernel_rfl)) (fun _ _ _ h => h) (Or.inl ⟨by rfl, ?_⟩) ?_ ?_
 rotate_left
 ·intro w'
  go_simp
  with_reducible rfl
 rotate_left
 ·simp only [Act.put, List.setIfInBounds_toArray, List.set_cons_zero, List.set_cons_succ, i64_w, i32_w]
  rfl
 refine pure_ (i := 14) (N := some 30) (v := ?_) (a' := ?_) #[true, true, true, true, true, true, true, true, true, true, true, true, true, true, true, false] rfl rfl (any_of HT_.out (by kernel_rfl)) (fun _ _ _ h => h) (Or.inl ⟨by rfl, ?_⟩) ?_ ?_
 rotate_left
 ·intro w'
  go_simp
  with_reducible rfl
 rotate_left
 ·simp only [Act.put, List.setIfInBounds_toArray, List.set_cons_zero, List.set_cons_succ, i64_w, i32_w]
  rfl
 refine last_ (i := 15) (N := none) #[true, true, true, true, true, true, true, true, true, true, true, true, true, true, true, true] rfl rfl (one_of HT_.out (by kernel_rfl)) (by decide) (fun K hK => ?_)
 have q0 := hHeld.1
 refine skip_ (w1 := ?_) (by rfl) rfl ?_ ?_
 rotate_left
 ·go_simp
  rfl
 refine hK.out _ _ ?_
 clear hK K
 refine done_ (done_of HT_.out (by kernel_rfl)) ?_
 obtain ⟨hown, hb2, hgr, hat⟩ := HP.out
 have F : Fz w w2 := ⟨fun q k hq hk => hgr.block k hk.lt (fun e => Tb.ne hk (HS.out k e.symm) (by omega) rfl)⟩
 have HZ2 := Aside0.mk (HZ.out.move F)
 have HT2 := Aside0.mk (show w2.cell? ⟨tb, tf, none⟩ = some (.int .i64 t.f0) from hgr.cell (show w.drew.cell? ⟨tb, tf, none⟩ = _ from HT.out.c0) (fun e => Tb.ne HT.out.ty (HS.out tb e.symm) (by decide) rfl))
 have kx : Aside0 (Kx base w w2) := ⟨⟨hb2, fun q k hq hk => hgr.block k hk.lt (fun e => Tb.ne hk (HS.out k e.symm) (by omega) rfl)⟩⟩
 have HG3 := Aside0.mk (blk_put HG2.out 1 (.slice A1 (starts.length + 1) c1) rfl)
 have HO2 := Aside0.mk (Kd.R_set hown HG2.out (by decide) 1 (.slice A1 (starts.length + 1) c1))
 have HZ3 := Aside0.mk (HZ2.out.move (Fz.set ⟨_, HG2.out⟩ (by decide) 1 (.slice A1 (starts.length + 1) c1)))
 have kx2 := Aside0.mk (kx.out.set hbg ⟨_, HG2.out⟩ (by decide) 1 (.slice A1 (starts.length + 1) c1))
 have hne : tb ≠ g := (kx.out.tb (.inl rfl) HT.out.ty).ne ⟨_, HG2.out⟩ (by decide)
 have HT3 : (w2.setCell ⟨g, 1, none⟩ (.slice A1 (starts.length + 1) c1)).cell? ⟨tb, tf, none⟩ = some (.int .i64 t.f0) := by
  exact (World.cell?_of_block (a := ⟨tb, tf, none⟩) (Below.heap_setCell w2 ⟨g, 1, none⟩ _ tb hne)).trans HT2.out
 clear HP hown hb2 hgr hat HT_ HW_ F HZ2 HT2 kx
 generalize w2.setCell ⟨g, 1, none⟩ (.slice A1 (starts.length + 1) c1) = w3 at *
 have g0' : w3.cell? ⟨g, 0, none⟩ = some (.int .i64 1) := (blk_cell HG3.out 0).trans rfl
 have gf : w3.frozen? ⟨g, 0, none⟩ = false := blk_frozen HG3.out 0
 have HT4 : (w3.setCell ⟨g, 0, none⟩ (.int .i64 2)).cell? ⟨tb, tf, none⟩ = some (.int .i64 t.f0) := (World.cell?_of_block (a := ⟨tb, tf, none⟩) (Below.heap_setCell w3 ⟨g, 0, none⟩ _ tb hne)).trans HT3
 go_wp2
 go_ret
 refine ⟨?_, ⟨_, blk_put HG3.out _ _ rfl, Kd.R_set HO2.out HG3.out (by decide) _ _, HZ3.out.move (Fz.set ⟨_, HG3.out⟩ (by decide) _ _)⟩, kx2.out.set hbg ⟨_, HG3.out⟩ (by decide) _ _⟩
 rfl
theorem np_bar (w : World) (base g tb tf : Nat) (st : Int) (vS vD : Value) (t : S60) (ds : List S42) (nm : ByteArray) (alts : List (List S46)) (hg : w.heap[g]? = some (.cells #[.int .i64 st, vS, vD] 56 (0, 0))) (hb : base ≤ w.heap.size) (hbg : base ≤ g)
  (hz : Dz w base vD (ds ++ [⟨nm, alts⟩])) (hT : TA w tb tf t) (hn : ds.length ≤ 1000000) (hm : alts.length ≤ 1000000) (hk : t.f0 = 5) :
  Calls Try.prog 30 #[.pointer (some ⟨g, 0, none⟩), .pointer (some ⟨tb, tf, none⟩)] w fun e w' => e = .returned (.bool true) ∧ w'.heap[g]? = some (.cells #[.int .i64 4, vS, vD] 56 (0, 0)) ∧ Dz w' base vD (ds ++ [⟨nm, alts ++ [[]]⟩]) ∧ Ky base g w w' := by
 obtain ⟨vA, B, h1, h2⟩ := hz.open
 clear hz
 obtain ⟨gD, cD, rfl, bD, ltD, _, tD, cellD, frD⟩ := h1.form
 have kD : w.cell? ⟨gD, ds.length * 2 + 1, none⟩ = some vA := cellD 1 _ rfl
 have fD : w.frozen? ⟨gD, ds.length * 2 + 1, none⟩ = false := frD _
 clear cellD frD
 obtain ⟨inner, ho, hr⟩ := h2.own
 have hA : ∀ k, vA.ownBlock = some k → Tb w 43 k := fun k hk => own_typed ho k hk
 obtain ⟨AA, cA, rfl⟩ := own_slice ho
 have b0 : (t.f0 == 5) = true := beq_iff_eq.2 hk
 have t0 := hT.c0
 have HG := Aside0.mk hg
 have H1 := Aside0.mk h1
 have H2 := Aside0.mk h2
 have HO := Aside0.mk ho
 have HR := Aside0.mk hr
 have HA := Aside0.mk hA
 have TD := Aside0.mk (show Tb w 42 gD from tD)
 clear hg h1 h2 ho hr hA tD hT hk
 generalize hx : t.f0 = x at b0 t0
 clear hx
 go_enter Try.func30, Try.ntmps30
 go_wp2_with (first | (go_at_call 49; refine (np_def w g gD ds.length cD (.int .i64 st) vS HG.out hn).mono ?_; rintro e w1 ⟨rfl, ⟨nd, rfl⟩⟩; have kD1 : (w.drewN nd).cell? ⟨gD, ds.length * 2 + 1, none⟩ = some (.slice AA alts.length cA) := kD) | (at_builtin; refine print_append_cells (w0 := w) (W := w.drewN nd) base rfl (.tmp 24) (.tmp 25) 40 43 (.slice none 0 0) 1 24 rfl Try.underlying40 (by kernel_rfl) rfl (by decide) (by decide) (.slice AA alts.length cA) alts.length inner [.slice none 0 0] rfl rfl rfl (by simp [Value.oneCell']) HO.out (pw_below_drewN (Below.refl _ _) nd) hb (by omega) ?_; intro v1 w2 hown hb2 hgr hat; (obtain ⟨A1, c1, rfl⟩ := own_slice hown); (have kD2 : w2.cell? ⟨gD, ds.length * 2 + 1, none⟩ = some (.slice AA alts.length cA) := hgr.cell kD (fun e => Tb.ne TD.out (HA.out gD e.symm) (by decide) rfl)); (have fD2 : w2.frozen? ⟨gD, ds.length * 2 + 1, none⟩ = false := (World.frozen?_of_block (hgr.block gD ltD (fun e => Tb.ne TD.out (HA.out gD e.symm) (by decide) rfl))).trans fD); (have HG2 := Aside0.mk ((hgr.block g (blk_lt HG.out) (fun e => Tb.ne ⟨_, HG.out⟩ (HA.out g e.symm) (by decide) rfl)).trans HG.out)); (have HG3 := Aside0.mk (blk_far HG2.out (p := ⟨gD, ds.length * 2 + 1, none⟩) (Tb.ne ⟨_, HG.out⟩ TD.out (by decide)) (.slice A1 (alts.length + 1) c1))); (have g0 : (w2.setCell ⟨gD, ds.length * 2 + 1, none⟩ (.slice A1 (alts.length + 1) c1)).cell? ⟨g, 0, none⟩ = some (.int .i64 st) := (blk_cell HG3.out 0).trans rfl); (have gf : (w2.setCell ⟨gD, ds.length * 2 + 1, none⟩ (.slice A1 (alts.length + 1) c1)).frozen? ⟨g, 0, none⟩ = false := blk_frozen HG3.out 0); (have HP := Aside0.mk (And.intro hown (And.intro hb2 (And.intro hgr hat)))); clear hown hb2 hgr hat))
 go_ret
 obtain ⟨hown, hb2, hgr, hat⟩ := HP.out
 have z := zip_alt (W := w.drewN nd) H1.out H2.out rfl HR.out hgr hat hown
 have tD2 : Tb w2 42 gD := by
  obtain ⟨c, hc⟩ := TD.out
  exact ⟨c, (hgr.block gD ltD (fun e => Tb.ne TD.out (HA.out gD e.symm) (by decide) rfl)).trans hc⟩
 have ky := (((Kz.drew (base := base) ⟨nd, rfl⟩).grown hgr (fun k hk => HA.out k hk) (by decide) hb2).set tD2 bD (by decide) (ds.length * 2 + 1) (.slice A1 (alts.length + 1) c1)).ky g
 exact ⟨rfl, blk_put HG3.out _ _ rfl, z.move (Fz.set ⟨_, HG3.out⟩ (by decide) _ _), ky.set hbg ⟨_, HG3.out⟩ _ _⟩
theorem np_itemsS (w : World) (base g tb tf : Nat) (st : Int) (vS vD : Value) (t : S60) (to_ : Int) (hg : w.heap[g]? = some (.cells #[.int .i64 st, vS, vD] 56 (0, 0)))
  (hT : TA w tb tf t) (hk : t.f0 = 6 ∧ to_ = 4 ∨ t.f0 = 8 ∧ to_ = 0) :
  Calls Try.prog 30 #[.pointer (some ⟨g, 0, none⟩), .pointer (some ⟨tb, tf, none⟩)] w fun e w' => e = .returned (.bool true) ∧ w' = w.setCell ⟨g, 0, none⟩ (.int .i64 to_) := by
 have b0 : (t.f0 == 5) = false := beq_eq_false_iff_ne.2 (by omega)
 have t0 := hT.c0
 have HG := Aside0.mk hg
 have g0 : w.cell? ⟨g, 0, none⟩ = some (.int .i64 st) := (blk_cell HG.out 0).trans rfl
 have gf : w.frozen? ⟨g, 0, none⟩ = false := blk_frozen HG.out 0
 clear hT hg
 rcases hk with ⟨hk, rfl⟩ | ⟨hk, rfl⟩
 ·have b1 : (t.f0 == 6) = true := beq_iff_eq.2 hk
  clear hk
  generalize hx : t.f0 = x at b0 b1 t0
  clear hx
  go_enter Try.func30, Try.ntmps30
  go_wp2
  go_ret
  exact ⟨rfl, rfl⟩
 ·have b1 : (t.f0 == 6) = false := beq_eq_false_iff_ne.2 (by omega)
  have b2 : (t.f0 == 8) = true := beq_iff_eq.2 hk
  clear hk
  generalize hx : t.f0 = x at b0 b1 b2 t0
  clear hx
  go_enter Try.func30, Try.ntmps30
  go_wp2
  go_ret
  exact ⟨rfl, rfl⟩
theorem np_itemsI (w : World) (base g tb tf : Nat) (st : Int) (vS vD : Value) (t : S60) (neg : Bool) (ds : List S42) (nm : ByteArray) (bs : List (List S46)) (cs : List S46) (its : List S48) (hg : w.heap[g]? = some (.cells #[.int .i64 st, vS, vD] 56 (0, 0))) (hb : base ≤ w.heap.size) (hbg : base ≤ g)
  (hz : Dz w base vD (ds ++ [⟨nm, bs ++ [cs ++ [⟨neg, its⟩]]⟩])) (hT : TA w tb tf t) (hn : ds.length ≤ 1000000) (hm : bs.length ≤ 1000000) (hl : cs.length ≤ 1000000) (hi : its.length ≤ 1000000) (hk : isItemB t.f0 = true) :
  Calls Try.prog 30 #[.pointer (some ⟨g, 0, none⟩), .pointer (some ⟨tb, tf, none⟩)] w fun e w' => e = .returned (.bool true) ∧ w'.heap[g]? = some (.cells #[.int .i64 6, vS, vD] 56 (0, 0)) ∧ Dz w' base vD (ds ++ [⟨nm, bs ++ [cs ++ [⟨neg, its ++ [⟨t.f0, t.f2, t.f3, t.f4⟩]⟩]]⟩]) ∧ Ky base g w w' := by
 have hki := isItem_kind hk
 have b0 : (t.f0 == 5) = false := beq_eq_false_iff_ne.2 (by omega)
 have b1 : (t.f0 == 6) = false := beq_eq_false_iff_ne.2 (by omega)
 have b2 : (t.f0 == 8) = false := beq_eq_false_iff_ne.2 (by omega)
 have t0 := hT.c0
 have HG := Aside0.mk hg
 have HZ := Aside0.mk hz
 have HT := Aside0.mk hT
 have HK := Aside0.mk hk
 clear hT hk hg hz hki
 go_enter Try.func30, Try.ntmps30
 go_wp2_with (first | (go_at_call 28; refine (np_isItem w tb tf t HT.out).mono ?_; rw [HK.out]; rintro e w1 ⟨rfl, hw_⟩; rw [hw_]; clear hw_ w1) | (go_at_call 29; refine (np_item w base g tb tf st vS vD t neg ds nm bs cs its HG.out hb hbg HZ.out HT.out hn hm hl hi).mono ?_; rintro e w2 ⟨rfl, hg2, hz2, hk2⟩; (have HP2 := Aside0.mk (And.intro hg2 (And.intro hz2 hk2))); clear hg2 hz2 hk2))
 go_ret
 exact ⟨rfl, HP2.out⟩
theorem np_itemsN (w : World) (g tb tf : Nat) (t : S60) (hT : TA w tb tf t) (hk : isItemB t.f0 = false) (h5 : t.f0 ≠ 5) (h6 : t.f0 ≠ 6) (h8 : t.f0 ≠ 8) :
  Calls Try.prog 30 #[.pointer (some ⟨g, 0, none⟩), .pointer (some ⟨tb, tf, none⟩)] w fun e w' => e = .returned (.bool false) ∧ w' = w := by
 have b0 : (t.f0 == 5) = false := beq_eq_false_iff_ne.2 h5
 have b1 : (t.f0 == 6) = false := beq_eq_false_iff_ne.2 h6
 have b2 : (t.f0 == 8) = false := beq_eq_false_iff_ne.2 h8
 have t0 := hT.c0
 have HT := Aside0.mk hT
 have HK := Aside0.mk hk
 clear hT hk
 go_enter Try.func30, Try.ntmps30
 go_wp2_with (first | (go_at_call 28; refine (np_isItem w tb tf t HT.out).mono ?_; rw [HK.out]; rintro e w1 ⟨rfl, hw_⟩; rw [hw_]; clear hw_ w1))
 go_ret
 exact ⟨rfl, rfl⟩
theorem take_open (w : World) (g tb tf : Nat) (vS vD : Value) (hg : w.heap[g]? = some (.cells #[.int .i64 0, vS, vD] 56 (0, 0))) (R : Bool → World → Prop)
  (hc : Calls Try.prog 26 #[.pointer (some ⟨g, 0, none⟩), .pointer (some ⟨tb, tf, none⟩)] w fun e w' => ∃ b, e = .returned (.bool b) ∧ R b w') :
  Calls Try.prog 16 #[.pointer (some ⟨g, 0, none⟩), .pointer (some ⟨tb, tf, none⟩)] w fun e w' => ∃ b, e = .returned (.bool b) ∧ R b w' := by
 have g0 : w.cell? ⟨g, 0, none⟩ = some (.int .i64 0) := (blk_cell hg 0).trans rfl
 have HC := Aside0.mk hc
 clear hg hc
 go_enter Try.func16, Try.ntmps16
 go_wp2_with (first | (go_at_call 26; refine HC.out.mono ?_; rintro e w1 ⟨b, rfl, h⟩; have HR := Aside0.mk h; clear h))
 go_ret
 exact ⟨b, rfl, HR.out⟩
theorem take_conj (w : World) (g tb tf : Nat) (vS vD : Value) (hg : w.heap[g]? = some (.cells #[.int .i64 4, vS, vD] 56 (0, 0))) (R : Bool → World → Prop)
  (hc : Calls Try.prog 27 #[.pointer (some ⟨g, 0, none⟩), .pointer (some ⟨tb, tf, none⟩)] w fun e w' => ∃ b, e = .returned (.bool b) ∧ R b w') :
  Calls Try.prog 16 #[.pointer (some ⟨g, 0, none⟩), .pointer (some ⟨tb, tf, none⟩)] w fun e w' => ∃ b, e = .returned (.bool b) ∧ R b w' := by
 have g0 : w.cell? ⟨g, 0, none⟩ = some (.int .i64 4) := (blk_cell hg 0).trans rfl
 have HC := Aside0.mk hc
 clear hg hc
 go_enter Try.func16, Try.ntmps16
 go_wp2_with (first | (go_at_call 27; refine HC.out.mono ?_; rintro e w1 ⟨b, rfl, h⟩; have HR := Aside0.mk h; clear h))
 go_ret
 exact ⟨b, rfl, HR.out⟩
theorem take_items (w : World) (g tb tf : Nat) (vS vD : Value) (hg : w.heap[g]? = some (.cells #[.int .i64 6, vS, vD] 56 (0, 0))) (R : Bool → World → Prop)
  (hc : Calls Try.prog 30 #[.pointer (some ⟨g, 0, none⟩), .pointer (some ⟨tb, tf, none⟩)] w fun e w' => ∃ b, e = .returned (.bool b) ∧ R b w') :
  Calls Try.prog 16 #[.pointer (some ⟨g, 0, none⟩), .pointer (some ⟨tb, tf, none⟩)] w fun e w' => ∃ b, e = .returned (.bool b) ∧ R b w' := by
 have g0 : w.cell? ⟨g, 0, none⟩ = some (.int .i64 6) := (blk_cell hg 0).trans rfl
 have HC := Aside0.mk hc
 clear hg hc
 go_enter Try.func16, Try.ntmps16
 go_wp2_with (first | (go_at_call 30; refine HC.out.mono ?_; rintro e w1 ⟨b, rfl, h⟩; have HR := Aside0.mk h; clear h))
 go_ret
 exact ⟨b, rfl, HR.out⟩
theorem take_end (w : World) (g tb tf : Nat) (vS vD : Value) (t : S60) (hg : w.heap[g]? = some (.cells #[.int .i64 2, vS, vD] 56 (0, 0))) (hT : TA w tb tf t) :
  Calls Try.prog 16 #[.pointer (some ⟨g, 0, none⟩), .pointer (some ⟨tb, tf, none⟩)] w fun e w' => ∃ b, e = .returned (.bool b) ∧ (b = decide (t.f0 = 8) ∧ w' = w.setCell ⟨g, 0, none⟩ (.int .i64 0)) := by
 have g0 : w.cell? ⟨g, 0, none⟩ = some (.int .i64 2) := (blk_cell hg 0).trans rfl
 have gf : w.frozen? ⟨g, 0, none⟩ = false := blk_frozen hg 0
 have hne : tb ≠ g := hT.ty.ne ⟨_, hg⟩ (by decide)
 have t1 : (w.setCell ⟨g, 0, none⟩ (.int .i64 0)).cell? ⟨tb, tf, none⟩ = some (.int .i64 t.f0) := (World.cell?_of_block (a := ⟨tb, tf, none⟩) (Below.heap_setCell w ⟨g, 0, none⟩ _ tb hne)).trans hT.c0
 clear hT hg
 go_enter Try.func16, Try.ntmps16
 go_wp2
 go_ret
 exact ⟨_, rfl, rfl, rfl⟩
theorem take_is (w : World) (g tb tf : Nat) (vS vD : Value) (t : S60) (hg : w.heap[g]? = some (.cells #[.int .i64 3, vS, vD] 56 (0, 0))) (hT : TA w tb tf t) :
  Calls Try.prog 16 #[.pointer (some ⟨g, 0, none⟩), .pointer (some ⟨tb, tf, none⟩)] w fun e w' => ∃ b, e = .returned (.bool b) ∧ (b = decide (t.f0 = 4) ∧ w' = w.setCell ⟨g, 0, none⟩ (.int .i64 4)) := by
 have g0 : w.cell? ⟨g, 0, none⟩ = some (.int .i64 3) := (blk_cell hg 0).trans rfl
 have gf : w.frozen? ⟨g, 0, none⟩ = false := blk_frozen hg 0
 have hne : tb ≠ g := hT.ty.ne ⟨_, hg⟩ (by decide)
 have t1 : (w.setCell ⟨g, 0, none⟩ (.int .i64 4)).cell? ⟨tb, tf, none⟩ = some (.int .i64 t.f0) := (World.cell?_of_block (a := ⟨tb, tf, none⟩) (Below.heap_setCell w ⟨g, 0, none⟩ _ tb hne)).trans hT.c0
 clear hT hg
 go_enter Try.func16, Try.ntmps16
 go_wp2
 go_ret
 exact ⟨_, rfl, rfl, rfl⟩
theorem take_first (w : World) (g tb tf : Nat) (vS vD : Value) (t : S60) (hg : w.heap[g]? = some (.cells #[.int .i64 5, vS, vD] 56 (0, 0))) (hT : TA w tb tf t) (R : World → Prop)
  (hc : Calls Try.prog 29 #[.pointer (some ⟨g, 0, none⟩), .pointer (some ⟨tb, tf, none⟩)] w fun e w' => e = .returned (.tuple #[]) ∧ R w') :
  Calls Try.prog 16 #[.pointer (some ⟨g, 0, none⟩), .pointer (some ⟨tb, tf, none⟩)] w fun e w' => ∃ b, e = .returned (.bool b) ∧ (b = isItemB t.f0 ∧ (b = true → R w') ∧ (b = false → w' = w)) := by
 have g0 : w.cell? ⟨g, 0, none⟩ = some (.int .i64 5) := (blk_cell hg 0).trans rfl
 have HC := Aside0.mk hc
 have HT := Aside0.mk hT
 clear hT hg hc
 cases hb : isItemB t.f0 with
 | true =>
  have HB := Aside0.mk hb
  clear hb
  go_enter Try.func16, Try.ntmps16
  go_wp2_with (first | (go_at_call 28; refine (np_isItem w tb tf t HT.out).mono ?_; rw [HB.out]; rintro e w1 ⟨rfl, hw_⟩; rw [hw_]; clear hw_ w1) | (go_at_call 29; refine HC.out.mono ?_; rintro e w1 ⟨rfl, h⟩; have HR := Aside0.mk h; clear h))
  go_ret
  exact ⟨_, rfl, rfl, fun _ => HR.out, fun h => by cases h⟩
 | false =>
  have HB := Aside0.mk hb
  clear hb
  go_enter Try.func16, Try.ntmps16
  go_wp2_with (first | (go_at_call 28; refine (np_isItem w tb tf t HT.out).mono ?_; rw [HB.out]; rintro e w1 ⟨rfl, hw_⟩; rw [hw_]; clear hw_ w1))
  go_ret
  exact ⟨_, rfl, rfl, fun h => (by cases h), fun _ => rfl⟩
/-! The automaton, plain -/
def onLast {α : Type} (f : α → α) : List α → List α
 | [] => []
 | [x] => [f x]
 | x :: y :: l => x :: onLast f (y :: l)
theorem onLast_snoc {α : Type} (f : α → α) (x : α) : ∀ l : List α, onLast f (l ++ [x]) = l ++ [f x]
 | [] => rfl
 | [y] => rfl
 | y :: z :: l => by
  show y :: onLast f (z :: l ++ [x]) = y :: (z :: l ++ [f x])
  rw [onLast_snoc f x (z :: l)]
def itemP (t : S60) : S48 := ⟨t.f0, t.f2, t.f3, t.f4⟩
def addItem (t : S60) (defs : List S42) : List S42 := onLast (fun d => ⟨d.f0, onLast (fun a => onLast (fun c => ⟨c.f0, c.f1 ++ [itemP t]⟩) a) d.f1⟩) defs
def addConj (neg : Bool) (defs : List S42) : List S42 := onLast (fun d => ⟨d.f0, onLast (fun a => a ++ [⟨neg, []⟩]) d.f1⟩) defs
def addAlt (defs : List S42) : List S42 := onLast (fun d => ⟨d.f0, d.f1 ++ [[]]⟩) defs
/-- A token at a state: the next state, or none. -/
def takeP (st : Int) (starts : List ByteArray) (defs : List S42) (t : S60) : Option (Int × List ByteArray × List S42) :=
 if st = 0 then (if t.f0 = 3 then some (1, starts, defs) else if t.f0 = 0 then some (3, starts, defs ++ [⟨t.f2, [[]]⟩]) else none)
 else if st = 1 then (if t.f0 = 0 then some (2, starts ++ [t.f2], defs) else none)
 else if st = 2 then (if t.f0 = 8 then some (0, starts, defs) else none)
 else if st = 3 then (if t.f0 = 4 then some (4, starts, defs) else none)
 else if st = 4 then (if t.f0 = 7 then some (5, starts, addConj true defs) else if isItemB t.f0 then some (6, starts, addItem t (addConj false defs)) else none)
 else if st = 5 then (if isItemB t.f0 then some (6, starts, addItem t defs) else none)
 else (if t.f0 = 5 then some (4, starts, addAlt defs) else if t.f0 = 6 then some (4, starts, defs) else if t.f0 = 8 then some (0, starts, defs) else if isItemB t.f0 then some (6, starts, addItem t defs) else none)
/-- The shape of what was declared, at a state. -/
structure Shp (n : Nat) (st : Int) (starts : List ByteArray) (defs : List S42) : Prop where
 st0 : 0 ≤ st ∧ st ≤ 6
 hs : starts.length ≤ n
 hd : defs.length ≤ n
 alts : ∀ d ∈ defs, d.f1.length ≤ n + 1
 conjs : ∀ d ∈ defs, ∀ a ∈ d.f1, a.length ≤ n
 items : ∀ d ∈ defs, ∀ a ∈ d.f1, ∀ c ∈ a, c.f1.length ≤ n
 last : 3 ≤ st → ∃ ds nm bs a, defs = ds ++ [⟨nm, bs ++ [a]⟩] ∧ (5 ≤ st → ∃ cs neg its, a = cs ++ [⟨neg, its⟩])
theorem Shp.up {n : Nat} {st : Int} {starts : List ByteArray} {defs : List S42} (h : Shp n st starts defs) : Shp (n + 1) st starts defs :=
 ⟨h.st0, Nat.le_succ_of_le h.hs, Nat.le_succ_of_le h.hd, fun d hd => Nat.le_succ_of_le (h.alts d hd), fun d hd a ha => Nat.le_succ_of_le (h.conjs d hd a ha), fun d hd a ha c hc => Nat.le_succ_of_le (h.items d hd a ha c hc), h.last⟩
theorem addItem_at (t : S60) (ds : List S42) (nm : ByteArray) (bs : List (List S46)) (cs : List S46) (neg : Bool) (its : List S48) : addItem t (ds ++ [⟨nm, bs ++ [cs ++ [⟨neg, its⟩]]⟩]) = ds ++ [⟨nm, bs ++ [cs ++ [⟨neg, its ++ [itemP t]⟩]]⟩] := by
 unfold addItem
 rw [onLast_snoc]
 dsimp only
 rw [onLast_snoc, onLast_snoc]
theorem addConj_at (neg : Bool) (ds : List S42) (nm : ByteArray) (bs : List (List S46)) (a : List S46) : addConj neg (ds ++ [⟨nm, bs ++ [a]⟩]) = ds ++ [⟨nm, bs ++ [a ++ [⟨neg, []⟩]]⟩] := by
 unfold addConj
 rw [onLast_snoc]
 dsimp only
 rw [onLast_snoc]
theorem addAlt_at (ds : List S42) (nm : ByteArray) (alts : List (List S46)) : addAlt (ds ++ [⟨nm, alts⟩]) = ds ++ [⟨nm, alts ++ [[]]⟩] := by
 unfold addAlt
 rw [onLast_snoc]
/-- How the last definition may turn. -/
theorem Shp.turn {n : Nat} {st st' : Int} {starts : List ByteArray} {ds : List S42} {d d' : S42} (h : Shp n st starts (ds ++ [d])) (h0 : 0 ≤ st' ∧ st' ≤ 6) (h1 : d'.f1.length ≤ n + 2) (h2 : ∀ a ∈ d'.f1, a.length ≤ n + 1 ∧ ∀ c ∈ a, c.f1.length ≤ n + 1)
  (hl : 3 ≤ st' → ∃ bs a, d'.f1 = bs ++ [a] ∧ (5 ≤ st' → ∃ cs neg its, a = cs ++ [⟨neg, its⟩])) : Shp (n + 1) st' starts (ds ++ [d']) := by
 have hm : ∀ x ∈ ds ++ [d'], x ∈ ds ++ [d] ∨ x = d' := fun x hx => by
  rcases List.mem_append.1 hx with hx | hx
  ·exact .inl (List.mem_append_left _ hx)
  ·exact .inr (List.mem_singleton.1 hx)
 refine ⟨h0, Nat.le_succ_of_le h.hs, ?_, fun x hx => ?_, fun x hx a ha => ?_, fun x hx a ha c hc => ?_, fun h3 => ?_⟩
 ·have := h.hd
  rw [List.length_append, List.length_singleton] at this ⊢
  omega
 ·rcases hm x hx with hx | rfl
  ·exact Nat.le_succ_of_le (h.alts x hx)
  ·exact h1
 ·rcases hm x hx with hx | rfl
  ·exact Nat.le_succ_of_le (h.conjs x hx a ha)
  ·exact (h2 a ha).1
 ·rcases hm x hx with hx | rfl
  ·exact Nat.le_succ_of_le (h.items x hx a ha c hc)
  ·exact (h2 a ha).2 c hc
 ·obtain ⟨bs, a, e, hh⟩ := hl h3
  refine ⟨ds, d'.f0, bs, a, ?_, hh⟩
  rw [← e]
theorem takeP_shape {n : Nat} {st : Int} {starts : List ByteArray} {defs : List S42} {t : S60} (h : Shp n st starts defs) {st' : Int} {starts' : List ByteArray} {defs' : List S42} (e : takeP st starts defs t = some (st', starts', defs')) : Shp (n + 1) st' starts' defs' := by
 have h0 := h.st0
 have keep : ∀ s : Int, 0 ≤ s ∧ s ≤ 6 → (3 ≤ s → 3 ≤ st) → (5 ≤ s → 5 ≤ st) → Shp (n + 1) s starts defs := fun s hs h3 h5 => by
  have := h.up
  exact ⟨hs, this.hs, this.hd, this.alts, this.conjs, this.items, fun hh => by
   obtain ⟨ds, nm, bs, a, e, f⟩ := h.last (h3 hh)
   exact ⟨ds, nm, bs, a, e, fun hh => f (h5 hh)⟩⟩
 have conj : 3 ≤ st → ∀ (neg : Bool) (s : Int), s = 5 ∨ s = 6 → ∀ its : List S48, its.length ≤ 1 → ∀ ds nm bs a, defs = ds ++ [⟨nm, bs ++ [a]⟩] → Shp (n + 1) s starts (ds ++ [⟨nm, bs ++ [a ++ [⟨neg, its⟩]]⟩]) := fun h3 neg s hs its hi ds nm bs a ed => by
  subst ed
  have ha := h.alts ⟨nm, bs ++ [a]⟩ (by simp)
  have hc := h.conjs ⟨nm, bs ++ [a]⟩ (by simp)
  have hh := h.items ⟨nm, bs ++ [a]⟩ (by simp)
  dsimp only at ha hc hh
  refine h.turn (by omega) (by simp at ha ⊢; omega) (fun x hx => ?_) (fun _ => ⟨bs, _, rfl, fun _ => ⟨a, neg, its, rfl⟩⟩)
  dsimp only at hx
  rcases List.mem_append.1 hx with hx | hx
  ·exact ⟨Nat.le_succ_of_le (hc x (List.mem_append_left _ hx)), fun c hcc => Nat.le_succ_of_le (hh x (List.mem_append_left _ hx) c hcc)⟩
  ·rw [List.mem_singleton.1 hx]
   have q1 := hc a (by simp)
   refine ⟨by rw [List.length_append, List.length_singleton]; omega, fun c hcc => ?_⟩
   rcases List.mem_append.1 hcc with hcc | hcc
   ·exact Nat.le_succ_of_le (hh a (by simp) c hcc)
   ·rw [List.mem_singleton.1 hcc]
    dsimp only
    omega
 have item : 5 ≤ st → Shp (n + 1) 6 starts (addItem t defs) := fun h5 => by
  obtain ⟨ds, nm, bs, a, ed, f⟩ := h.last (by omega)
  obtain ⟨cs, neg, its, rfl⟩ := f h5
  subst ed
  rw [addItem_at]
  have ha := h.alts ⟨nm, bs ++ [cs ++ [⟨neg, its⟩]]⟩ (by simp)
  have hc := h.conjs ⟨nm, bs ++ [cs ++ [⟨neg, its⟩]]⟩ (by simp)
  have hh := h.items ⟨nm, bs ++ [cs ++ [⟨neg, its⟩]]⟩ (by simp)
  dsimp only at ha hc hh
  refine h.turn (by omega) (by simp at ha ⊢; omega) (fun x hx => ?_) (fun _ => ⟨bs, _, rfl, fun _ => ⟨cs, neg, _, rfl⟩⟩)
  dsimp only at hx
  rcases List.mem_append.1 hx with hx | hx
  ·exact ⟨Nat.le_succ_of_le (hc x (List.mem_append_left _ hx)), fun c hcc => Nat.le_succ_of_le (hh x (List.mem_append_left _ hx) c hcc)⟩
  ·rw [List.mem_singleton.1 hx]
   have q1 := hc (cs ++ [⟨neg, its⟩]) (by simp)
   rw [List.length_append, List.length_singleton] at q1
   refine ⟨by rw [List.length_append, List.length_singleton]; omega, fun c hcc => ?_⟩
   rcases List.mem_append.1 hcc with hcc | hcc
   ·exact Nat.le_succ_of_le (hh (cs ++ [⟨neg, its⟩]) (by simp) c (List.mem_append_left _ hcc))
   ·rw [List.mem_singleton.1 hcc]
    have q2 := hh (cs ++ [⟨neg, its⟩]) (by simp) ⟨neg, its⟩ (by simp)
    dsimp only at q2 ⊢
    rw [List.length_append, List.length_singleton]
    omega
 unfold takeP at e
 by_cases c0 : st = 0
 ·rw [if_pos c0] at e
  by_cases k3 : t.f0 = 3
  ·rw [if_pos k3] at e
   obtain ⟨rfl, rfl, rfl⟩ := e
   exact keep 1 (by omega) (by omega) (by omega)
  ·rw [if_neg k3] at e
   by_cases k0 : t.f0 = 0
   ·rw [if_pos k0] at e
    obtain ⟨rfl, rfl, rfl⟩ := e
    have hm : ∀ x ∈ defs ++ [(⟨t.f2, [[]]⟩ : S42)], x ∈ defs ∨ x = ⟨t.f2, [[]]⟩ := fun x hx => by
     rcases List.mem_append.1 hx with hx | hx
     ·exact .inl hx
     ·exact .inr (List.mem_singleton.1 hx)
    refine ⟨by omega, Nat.le_succ_of_le h.hs, ?_, fun x hx => ?_, fun x hx a ha => ?_, fun x hx a ha c hc => ?_, fun _ => ⟨defs, t.f2, [], [], rfl, fun hh => absurd hh (by omega)⟩⟩
    ·have := h.hd
     rw [List.length_append, List.length_singleton]
     omega
    ·rcases hm x hx with hx | rfl
     ·exact Nat.le_succ_of_le (h.alts x hx)
     ·show 1 ≤ n + 1 + 1
      omega
    ·rcases hm x hx with hx | rfl
     ·exact Nat.le_succ_of_le (h.conjs x hx a ha)
     ·rw [List.mem_singleton.1 ha]
      exact Nat.zero_le _
    ·rcases hm x hx with hx | rfl
     ·exact Nat.le_succ_of_le (h.items x hx a ha c hc)
     ·rw [List.mem_singleton.1 ha] at hc
      cases hc
   ·rw [if_neg k0] at e
    cases e
 rw [if_neg c0] at e
 by_cases c1 : st = 1
 ·rw [if_pos c1] at e
  by_cases k0 : t.f0 = 0
  ·rw [if_pos k0] at e
   obtain ⟨rfl, rfl, rfl⟩ := e
   have := keep 2 (by omega) (by omega) (by omega)
   refine ⟨this.st0, ?_, this.hd, this.alts, this.conjs, this.items, this.last⟩
   have := h.hs
   rw [List.length_append, List.length_singleton]
   omega
  ·rw [if_neg k0] at e
   cases e
 rw [if_neg c1] at e
 by_cases c2 : st = 2
 ·rw [if_pos c2] at e
  by_cases k0 : t.f0 = 8
  ·rw [if_pos k0] at e
   obtain ⟨rfl, rfl, rfl⟩ := e
   exact keep 0 (by omega) (by omega) (by omega)
  ·rw [if_neg k0] at e
   cases e
 rw [if_neg c2] at e
 by_cases c3 : st = 3
 ·rw [if_pos c3] at e
  by_cases k0 : t.f0 = 4
  ·rw [if_pos k0] at e
   obtain ⟨rfl, rfl, rfl⟩ := e
   exact keep 4 (by omega) (by omega) (by omega)
  ·rw [if_neg k0] at e
   cases e
 rw [if_neg c3] at e
 by_cases c4 : st = 4
 ·rw [if_pos c4] at e
  obtain ⟨ds, nm, bs, a, ed, _⟩ := h.last (by omega)
  by_cases k7 : t.f0 = 7
  ·rw [if_pos k7] at e
   obtain ⟨rfl, rfl, rfl⟩ := e
   have := conj (by omega) true 5 (.inl rfl) [] (by simp) ds nm bs a ed
   rw [ed, addConj_at]
   exact this
  ·rw [if_neg k7] at e
   by_cases ki : isItemB t.f0 = true
   ·rw [if_pos ki] at e
    obtain ⟨rfl, rfl, rfl⟩ := e
    have := conj (by omega) false 6 (.inr rfl) [itemP t] (by simp) ds nm bs a ed
    rw [ed, addConj_at, addItem_at]
    exact this
   ·rw [if_neg ki] at e
    cases e
 rw [if_neg c4] at e
 by_cases c5 : st = 5
 ·rw [if_pos c5] at e
  by_cases ki : isItemB t.f0 = true
  ·rw [if_pos ki] at e
   obtain ⟨rfl, rfl, rfl⟩ := e
   exact item (by omega)
  ·rw [if_neg ki] at e
   cases e
 rw [if_neg c5] at e
 by_cases k5 : t.f0 = 5
 ·rw [if_pos k5] at e
  obtain ⟨rfl, rfl, rfl⟩ := e
  obtain ⟨ds, nm, bs, a, ed, _⟩ := h.last (by omega)
  subst ed
  rw [addAlt_at]
  have ha := h.alts ⟨nm, bs ++ [a]⟩ (by simp)
  have hc := h.conjs ⟨nm, bs ++ [a]⟩ (by simp)
  have hh := h.items ⟨nm, bs ++ [a]⟩ (by simp)
  dsimp only at ha hc hh
  refine h.turn (by omega) (by simp at ha ⊢; omega) (fun x hx => ?_) (fun _ => ⟨bs ++ [a], [], rfl, fun hh => absurd hh (by omega)⟩)
  dsimp only at hx
  rcases List.mem_append.1 hx with hx | hx
  ·exact ⟨Nat.le_succ_of_le (hc x hx), fun c hcc => Nat.le_succ_of_le (hh x hx c hcc)⟩
  ·rw [List.mem_singleton.1 hx]
   exact ⟨Nat.zero_le _, fun c hcc => by cases hcc⟩
 rw [if_neg k5] at e
 by_cases k6 : t.f0 = 6
 ·rw [if_pos k6] at e
  obtain ⟨rfl, rfl, rfl⟩ := e
  exact keep 4 (by omega) (by omega) (by omega)
 rw [if_neg k6] at e
 by_cases k8 : t.f0 = 8
 ·rw [if_pos k8] at e
  obtain ⟨rfl, rfl, rfl⟩ := e
  exact keep 0 (by omega) (by omega) (by omega)
 rw [if_neg k8] at e
 by_cases ki : isItemB t.f0 = true
 ·rw [if_pos ki] at e
  obtain ⟨rfl, rfl, rfl⟩ := e
  exact item (by omega)
 ·rw [if_neg ki] at e
  cases e
/-- The parser at g. -/
structure Pw (w : World) (base g : Nat) (st : Int) (starts : List ByteArray) (defs : List S42) : Prop where
 hbg : base ≤ g
 mem : ∃ vS vD, w.heap[g]? = some (.cells #[.int .i64 st, vS, vD] 56 (0, 0)) ∧ Kd.R Kd.string 9 w base (fun _ => True) vS starts ∧ Dz w base vD defs
theorem Kx.below {base : Nat} {w w1 : World} (h : Kx base w w1) : Below base w w1 := h.bel
theorem np_take (w : World) (base g tb tf n : Nat) (st : Int) (starts : List ByteArray) (defs : List S42) (t : S60) (hP : Pw w base g st starts defs) (hS : Shp n st starts defs) (hn : n ≤ 900000) (hb : base ≤ w.heap.size) (hT : TA w tb tf t) :
  Calls Try.prog 16 #[.pointer (some ⟨g, 0, none⟩), .pointer (some ⟨tb, tf, none⟩)] w fun e w' => ∃ b, e = .returned (.bool b) ∧ (b = (takeP st starts defs t).isSome ∧ (∀ s1 s2 s3, takeP st starts defs t = some (s1, s2, s3) → Pw w' base g s1 s2 s3) ∧ Kx base w w') := by
 obtain ⟨hbg, vS, vD, hg, hs, hz⟩ := hP
 have h0 := hS.st0
 have n1 := hS.hs
 have n2 := hS.hd
 have setSt : ∀ (s : Int), Pw (w.setCell ⟨g, 0, none⟩ (.int .i64 s)) base g s starts defs := fun s =>
  ⟨hbg, vS, vD, blk_put hg 0 _ rfl, Kd.R_set hs hg (by decide) 0 _, hz.move (Fz.set ⟨_, hg⟩ (by decide) 0 _)⟩
 have kSet : ∀ (s : Int), Kx base w (w.setCell ⟨g, 0, none⟩ (.int .i64 s)) := fun s => (Kx.refl base w).set hbg ⟨_, hg⟩ (by decide) 0 _
 have mk : ∀ (w' : World) (s : Int) (d : List S42), w'.heap[g]? = some (.cells #[.int .i64 s, vS, vD] 56 (0, 0)) → Dz w' base vD d → Ky base g w w' → Pw w' base g s starts d := fun w' s d h1 h2 h3 => by
  refine ⟨hbg, vS, vD, h1, Kd.R_mono (Kd.R_step (Kd.R_bound hs) (fun k hk hlt => ?_)) (fun _ _ => trivial), h2⟩
  obtain ⟨_, _, _, q, hq, hc⟩ := hk
  have : q = 9 := by simpa [Kd.string, Kd.scalar] using hq
  exact h3.same q k (by omega) hc
 by_cases c0 : st = 0
 ·subst c0
  refine (take_open w g tb tf vS vD hg (fun b w' => b = (takeP 0 starts defs t).isSome ∧ (∀ s1 s2 s3, takeP 0 starts defs t = some (s1, s2, s3) → Pw w' base g s1 s2 s3) ∧ Kx base w w') ?_)
  by_cases k3 : t.f0 = 3
  ·have e : takeP 0 starts defs t = some (1, starts, defs) := by unfold takeP; rw [if_pos rfl, if_pos k3]
   rw [e]
   refine (np_open3 w base g tb tf 0 vS vD t hg hbg hT k3).mono ?_
   rintro e1 w1 ⟨rfl, rfl⟩
   exact ⟨_, rfl, rfl, fun s1 s2 s3 h => by obtain ⟨rfl, rfl, rfl⟩ := h; exact setSt 1, kSet 1⟩
  ·by_cases k0 : t.f0 = 0
   ·have e : takeP 0 starts defs t = some (3, starts, defs ++ [⟨t.f2, [[]]⟩]) := by unfold takeP; rw [if_pos rfl, if_neg k3, if_pos k0]
    rw [e]
    refine (np_open0 w base g tb tf 0 vS vD t defs hg hb hbg hz hT (by omega) k0).mono ?_
    rintro e1 w1 ⟨rfl, ⟨v1, h1, h2⟩, h3⟩
    refine ⟨_, rfl, rfl, fun s1 s2 s3 h => ?_, h3.kx⟩
    obtain ⟨rfl, rfl, rfl⟩ := h
    refine ⟨hbg, vS, v1, h1, Kd.R_mono (Kd.R_step (Kd.R_bound hs) (fun k hk hlt => ?_)) (fun _ _ => trivial), h2⟩
    obtain ⟨_, _, _, q, hq, hc⟩ := hk
    have : q = 9 := by simpa [Kd.string, Kd.scalar] using hq
    exact h3.same q k (by omega) hc
   ·have e : takeP 0 starts defs t = none := by unfold takeP; rw [if_pos rfl, if_neg k3, if_neg k0]
    rw [e]
    refine (np_openN w g tb tf t hT k3 k0).mono ?_
    rintro e1 w1 ⟨rfl, hw⟩
    rw [hw]
    exact ⟨_, rfl, rfl, fun s1 s2 s3 h => (by cases h), Kx.refl _ _⟩
 by_cases c1 : st = 1
 ·subst c1
  have e : takeP 1 starts defs t = if t.f0 = 0 then some (2, starts ++ [t.f2], defs) else none := by unfold takeP; rw [if_neg (by decide), if_pos rfl]
  rw [e]
  refine (np_start w base g tb tf vS vD t starts defs hg hb hbg hs hz hT (by omega)).mono ?_
  rintro e1 w1 ⟨rfl, ⟨v1, h1, h2, h3⟩, h4⟩
  by_cases k0 : t.f0 = 0
  ·rw [if_pos k0, decide_eq_true k0]
   exact ⟨_, rfl, rfl, fun s1 s2 s3 h => by obtain ⟨rfl, rfl, rfl⟩ := h; exact ⟨hbg, v1, vD, h1, h2, h3⟩, h4⟩
  ·rw [if_neg k0, decide_eq_false k0]
   exact ⟨_, rfl, rfl, fun s1 s2 s3 h => (by cases h), h4⟩
 by_cases c2 : st = 2
 ·subst c2
  have e : takeP 2 starts defs t = if t.f0 = 8 then some (0, starts, defs) else none := by unfold takeP; rw [if_neg (by decide), if_neg (by decide), if_pos rfl]
  rw [e]
  refine (take_end w g tb tf vS vD t hg hT).mono ?_
  rintro e1 w1 ⟨b, rfl, rfl, rfl⟩
  by_cases k0 : t.f0 = 8
  ·rw [if_pos k0, decide_eq_true k0]
   exact ⟨_, rfl, rfl, fun s1 s2 s3 h => by obtain ⟨rfl, rfl, rfl⟩ := h; exact setSt 0, kSet 0⟩
  ·rw [if_neg k0, decide_eq_false k0]
   exact ⟨_, rfl, rfl, fun s1 s2 s3 h => (by cases h), kSet 0⟩
 by_cases c3 : st = 3
 ·subst c3
  have e : takeP 3 starts defs t = if t.f0 = 4 then some (4, starts, defs) else none := by unfold takeP; rw [if_neg (by decide), if_neg (by decide), if_neg (by decide), if_pos rfl]
  rw [e]
  refine (take_is w g tb tf vS vD t hg hT).mono ?_
  rintro e1 w1 ⟨b, rfl, rfl, rfl⟩
  by_cases k0 : t.f0 = 4
  ·rw [if_pos k0, decide_eq_true k0]
   exact ⟨_, rfl, rfl, fun s1 s2 s3 h => by obtain ⟨rfl, rfl, rfl⟩ := h; exact setSt 4, kSet 4⟩
  ·rw [if_neg k0, decide_eq_false k0]
   exact ⟨_, rfl, rfl, fun s1 s2 s3 h => (by cases h), kSet 4⟩
 obtain ⟨ds, nm, bs, a, ed, hlast⟩ := hS.last (by omega)
 subst ed
 have m1 := hS.alts ⟨nm, bs ++ [a]⟩ (by simp)
 have m2 := hS.conjs ⟨nm, bs ++ [a]⟩ (by simp) a (by simp)
 have m3 := hS.items ⟨nm, bs ++ [a]⟩ (by simp) a (by simp)
 rw [List.length_append, List.length_singleton] at n2 m1
 by_cases c4 : st = 4
 ·subst c4
  refine (take_conj w g tb tf vS vD hg (fun b w' => b = (takeP 4 starts (ds ++ [⟨nm, bs ++ [a]⟩]) t).isSome ∧ (∀ s1 s2 s3, takeP 4 starts (ds ++ [⟨nm, bs ++ [a]⟩]) t = some (s1, s2, s3) → Pw w' base g s1 s2 s3) ∧ Kx base w w') ?_)
  by_cases k7 : t.f0 = 7
  ·have e : takeP 4 starts (ds ++ [⟨nm, bs ++ [a]⟩]) t = some (5, starts, ds ++ [⟨nm, bs ++ [a ++ [⟨true, []⟩]]⟩]) := by unfold takeP; rw [if_neg (by decide), if_neg (by decide), if_neg (by decide), if_neg (by decide), if_pos rfl, if_pos k7, addConj_at]
   rw [e]
   refine (np_conj7 w base g tb tf 4 vS vD t ds nm bs a hg hb hbg hz hT (by omega) (by omega) (by omega) k7).mono ?_
   rintro e1 w1 ⟨rfl, h1, h2, h3⟩
   exact ⟨_, rfl, rfl, fun s1 s2 s3 h => by obtain ⟨rfl, rfl, rfl⟩ := h; exact mk w1 5 _ h1 h2 h3, h3.kx⟩
  ·cases ki : isItemB t.f0 with
   | true =>
    have e : takeP 4 starts (ds ++ [⟨nm, bs ++ [a]⟩]) t = some (6, starts, ds ++ [⟨nm, bs ++ [a ++ [⟨false, [] ++ [itemP t]⟩]]⟩]) := by unfold takeP; rw [if_neg (by decide), if_neg (by decide), if_neg (by decide), if_neg (by decide), if_pos rfl, if_neg k7, if_pos ki, addConj_at, addItem_at]
    rw [e]
    refine (np_conjI w base g tb tf 4 vS vD t ds nm bs a hg hb hbg hz hT (by omega) (by omega) (by omega) ki).mono ?_
    rintro e1 w1 ⟨rfl, h1, h2, h3⟩
    exact ⟨_, rfl, rfl, fun s1 s2 s3 h => by obtain ⟨rfl, rfl, rfl⟩ := h; exact mk w1 6 _ h1 h2 h3, h3.kx⟩
   | false =>
    have e : takeP 4 starts (ds ++ [⟨nm, bs ++ [a]⟩]) t = none := by unfold takeP; rw [if_neg (by decide), if_neg (by decide), if_neg (by decide), if_neg (by decide), if_pos rfl, if_neg k7, ki, if_neg (by decide)]
    rw [e]
    refine (np_conjN w g tb tf t hT ki k7).mono ?_
    rintro e1 w1 ⟨rfl, hw⟩
    rw [hw]
    exact ⟨_, rfl, rfl, fun s1 s2 s3 h => (by cases h), Kx.refl _ _⟩
 obtain ⟨cs, neg, its, rfl⟩ := hlast (by omega)
 have m4 := m3 ⟨neg, its⟩ (by simp)
 rw [List.length_append, List.length_singleton] at m2
 dsimp only at m4
 have hit := np_item w base g tb tf st vS vD t neg ds nm bs cs its hg hb hbg hz hT (by omega) (by omega) (by omega) (by omega)
 by_cases c5 : st = 5
 ·subst c5
  have e : takeP 5 starts (ds ++ [⟨nm, bs ++ [cs ++ [⟨neg, its⟩]]⟩]) t = if isItemB t.f0 then some (6, starts, ds ++ [⟨nm, bs ++ [cs ++ [⟨neg, its ++ [itemP t]⟩]]⟩]) else none := by unfold takeP; rw [if_neg (by decide), if_neg (by decide), if_neg (by decide), if_neg (by decide), if_neg (by decide), if_pos rfl, addItem_at]
  rw [e]
  refine (take_first w g tb tf vS vD t hg hT _ hit).mono ?_
  rintro e1 w1 ⟨b, rfl, hb1, h1, h2⟩
  refine ⟨b, rfl, ?_⟩
  cases ki : isItemB t.f0 with
  | true =>
   rw [ki] at hb1
   subst hb1
   rw [if_pos rfl]
   obtain ⟨q1, q2, q3⟩ := h1 rfl
   exact ⟨rfl, fun s1 s2 s3 h => by obtain ⟨rfl, rfl, rfl⟩ := h; exact mk w1 6 _ q1 q2 q3, q3.kx⟩
  | false =>
   rw [ki] at hb1
   subst hb1
   rw [if_neg (by decide), h2 rfl]
   exact ⟨rfl, fun s1 s2 s3 h => (by cases h), Kx.refl _ _⟩
 have c6 : st = 6 := by omega
 subst c6
 have e : takeP 6 starts (ds ++ [⟨nm, bs ++ [cs ++ [⟨neg, its⟩]]⟩]) t = if t.f0 = 5 then some (4, starts, ds ++ [⟨nm, (bs ++ [cs ++ [⟨neg, its⟩]]) ++ [[]]⟩]) else if t.f0 = 6 then some (4, starts, ds ++ [⟨nm, bs ++ [cs ++ [⟨neg, its⟩]]⟩]) else if t.f0 = 8 then some (0, starts, ds ++ [⟨nm, bs ++ [cs ++ [⟨neg, its⟩]]⟩]) else if isItemB t.f0 then some (6, starts, ds ++ [⟨nm, bs ++ [cs ++ [⟨neg, its ++ [itemP t]⟩]]⟩]) else none := by
  unfold takeP
  rw [if_neg (by decide), if_neg (by decide), if_neg (by decide), if_neg (by decide), if_neg (by decide), if_neg (by decide), addItem_at, addAlt_at]
 rw [e]
 clear e
 by_cases k5 : t.f0 = 5
 ·rw [if_pos k5]
  refine (take_items w g tb tf vS vD hg (fun b w' => b = true ∧ (∀ s1 s2 s3, some (4, starts, ds ++ [⟨nm, (bs ++ [cs ++ [⟨neg, its⟩]]) ++ [[]]⟩]) = some (s1, s2, s3) → Pw w' base g s1 s2 s3) ∧ Kx base w w') ?_)
  refine (np_bar w base g tb tf 6 vS vD t ds nm _ hg hb hbg hz hT (by omega) (by rw [List.length_append, List.length_singleton]; omega) k5).mono ?_
  rintro e1 w1 ⟨rfl, h1, h2, h3⟩
  exact ⟨_, rfl, rfl, fun s1 s2 s3 h => by obtain ⟨rfl, rfl, rfl⟩ := h; exact mk w1 4 _ h1 h2 h3, h3.kx⟩
 rw [if_neg k5]
 by_cases k6 : t.f0 = 6
 ·rw [if_pos k6]
  refine (take_items w g tb tf vS vD hg (fun b w' => b = true ∧ (∀ s1 s2 s3, some (4, starts, ds ++ [⟨nm, bs ++ [cs ++ [⟨neg, its⟩]]⟩]) = some (s1, s2, s3) → Pw w' base g s1 s2 s3) ∧ Kx base w w') ?_)
  refine (np_itemsS w base g tb tf 6 vS vD t 4 hg hT (.inl ⟨k6, rfl⟩)).mono ?_
  rintro e1 w1 ⟨rfl, rfl⟩
  exact ⟨_, rfl, rfl, fun s1 s2 s3 h => by obtain ⟨rfl, rfl, rfl⟩ := h; exact setSt 4, kSet 4⟩
 rw [if_neg k6]
 by_cases k8 : t.f0 = 8
 ·rw [if_pos k8]
  refine (take_items w g tb tf vS vD hg (fun b w' => b = true ∧ (∀ s1 s2 s3, some (0, starts, ds ++ [⟨nm, bs ++ [cs ++ [⟨neg, its⟩]]⟩]) = some (s1, s2, s3) → Pw w' base g s1 s2 s3) ∧ Kx base w w') ?_)
  refine (np_itemsS w base g tb tf 6 vS vD t 0 hg hT (.inr ⟨k8, rfl⟩)).mono ?_
  rintro e1 w1 ⟨rfl, rfl⟩
  exact ⟨_, rfl, rfl, fun s1 s2 s3 h => by obtain ⟨rfl, rfl, rfl⟩ := h; exact setSt 0, kSet 0⟩
 rw [if_neg k8]
 cases ki : isItemB t.f0 with
 | true =>
  rw [if_pos rfl]
  refine (take_items w g tb tf vS vD hg (fun b w' => b = true ∧ (∀ s1 s2 s3, some (6, starts, ds ++ [⟨nm, bs ++ [cs ++ [⟨neg, its ++ [itemP t]⟩]]⟩]) = some (s1, s2, s3) → Pw w' base g s1 s2 s3) ∧ Kx base w w') ?_)
  refine (np_itemsI w base g tb tf 6 vS vD t neg ds nm bs cs its hg hb hbg hz hT (by omega) (by omega) (by omega) (by omega) ki).mono ?_
  rintro e1 w1 ⟨rfl, h1, h2, h3⟩
  exact ⟨_, rfl, rfl, fun s1 s2 s3 h => by obtain ⟨rfl, rfl, rfl⟩ := h; exact mk w1 6 _ h1 h2 h3, h3.kx⟩
 | false =>
  rw [if_neg (by decide)]
  refine (take_items w g tb tf vS vD hg (fun b w' => b = false ∧ (∀ (s1 : Int) (s2 : List ByteArray) (s3 : List S42), none = some (s1, s2, s3) → Pw w' base g s1 s2 s3) ∧ Kx base w w') ?_)
  refine (np_itemsN w g tb tf t hT ki k5 k6 k8).mono ?_
  rintro e1 w1 ⟨rfl, hw⟩
  rw [hw]
  exact ⟨_, rfl, rfl, fun s1 s2 s3 h => (by cases h), Kx.refl _ _⟩
/-- All tokens: the state behind them, or where one may not come. -/
def runP : List S60 → Int → List ByteArray → List S42 → (Int × List ByteArray × List S42) ⊕ Int
 | [], st, starts, defs => .inl (st, starts, defs)
 | t :: ts, st, starts, defs => match takeP st starts defs t with
  | none => .inr t.f1
  | some q => runP ts q.1 q.2.1 q.2.2
theorem runP_cons (t : S60) (ts : List S60) (st : Int) (starts : List ByteArray) (defs : List S42) : runP (t :: ts) st starts defs = match takeP st starts defs t with
  | none => .inr t.f1
  | some q => runP ts q.1 q.2.1 q.2.2 := rfl
def parseL (n : Int) (ts : List S60) : List ByteArray × List S42 × Int × Int := match runP ts 0 [] [] with
 | .inr at_ => ([], [], at_, 300)
 | .inl q => if q.1 = 0 then (q.2.1, q.2.2, 0, 0) else ([], [], n, 300)
def note_Parse.f (k : Nat) (a0 : ByteArray) : Option (List ByteArray × List S42 × Int × Int) :=
 if (a0.size : Int) > 65536 then some ([], [], 0, 301)
 else (lex_Lex.f k a0).bind fun t => if t.2.2 = 0 then (if t.1.length ≤ 800000 then some (parseL (a0.size : Int) t.1) else none) else some ([], [], t.2.1, 300)
theorem note_Parse.mono : ∀ a0 k, LeO (note_Parse.f k a0) (note_Parse.f (k + 1) a0) := by
 intro a0 k
 unfold note_Parse.f
 repeat' first
   | (with_reducible exact lex_Lex.mono _ _)
   | (with_reducible exact LeO.refl _)
   | (with_reducible exact LeO.none _)
   | (with_reducible refine LeO.ite ?_ ?_)
   | (with_reducible refine LeO.bind ?_ (fun _ => ?_))
theorem tok_ta {w : World} {base : Nat} {v : Value} {ts : List S60} (h : Kd.R k60 60 w base (fun _ => True) v ts) (j : Nat) (hj : j < ts.length) : ∃ tb c, v = .slice (some ⟨tb, 0, none⟩) ts.length c ∧ TA w tb (j * 5) ts[j] := by
 obtain ⟨_, inner, ho, hl, hr⟩ := h
 obtain ⟨tb, c, rfl, _, _⟩ := ho.form (by omega)
 have hk := k60_openM (hr j ts[j] (List.getElem?_eq_getElem hj))
 have hsz : k60.sz = 5 := rfl
 rw [hsz] at hk hl
 have get : ∀ i u, i < 5 → ([.int .i64 ts[j].f0, .int .i64 ts[j].f1, .string ts[j].f2, .int .i64 ts[j].f3, .int .i64 ts[j].f4] : List Value)[i]? = some u → w.cell? ⟨tb, j * 5 + i, none⟩ = some u := fun i u hi hu => by
  rw [← hk, List.getElem?_take, if_pos hi, List.getElem?_drop] at hu
  have := ho.cells (g := tb) rfl (j * 5 + i) u hu
  rwa [add_plain] at this
 exact ⟨tb, c, rfl, get 0 _ (by omega) rfl, get 1 _ (by omega) rfl, get 2 _ (by omega) rfl, get 3 _ (by omega) rfl, get 4 _ (by omega) rfl, own_typed ho tb rfl⟩
theorem tok_keep {base b : Nat} {w w1 : World} (h : Kx base w w1) {v : Value} {ts : List S60} (hr : Kd.R k60 60 w b (fun _ => True) v ts) : Kd.R k60 60 w1 b (fun _ => True) v ts := by
 refine Kd.R_mono (Kd.R_step (Kd.R_bound hr) (fun k hk hlt => ?_)) (fun _ _ => trivial)
 obtain ⟨_, _, _, q, hq, hc⟩ := hk
 have : q = 60 := by simpa [show k60.E = [] from rfl] using hq
 exact h.same q k (by omega) hc
theorem TA.of_kx {base : Nat} {w w1 : World} (h : Kx base w w1) {tb tf : Nat} {t : S60} (hT : TA w tb tf t) : TA w1 tb tf t := by
 have e := h.same 60 tb (.inl rfl) hT.ty
 refine ⟨?_, ?_, ?_, ?_, ?_, h.tb (.inl rfl) hT.ty⟩
 ·exact (World.cell?_of_block (a := ⟨tb, tf, none⟩) e).trans hT.c0
 ·exact (World.cell?_of_block (a := ⟨tb, tf + 1, none⟩) e).trans hT.c1
 ·exact (World.cell?_of_block (a := ⟨tb, tf + 2, none⟩) e).trans hT.c2
 ·exact (World.cell?_of_block (a := ⟨tb, tf + 3, none⟩) e).trans hT.c3
 ·exact (World.cell?_of_block (a := ⟨tb, tf + 4, none⟩) e).trans hT.c4
set_option maxHeartbeats 8000000 in
set_option maxRecDepth 100000 in
theorem note_Parse.calls (k : Nat) (a0 : ByteArray) (r1 : List ByteArray) (r2 : List (S42)) (r3 : Int) (r4 : Int) (w : World) (h : note_Parse.f k a0 = some (r1, r2, r3, r4)) :
  Calls Try.prog 9 #[.string a0] w fun e w' => ∃ v0_ v1_ : Value, e = .returned (.tuple #[.agg #[v0_, v1_], .int .i64 r3, .int .i64 r4]) ∧ Kd.R Kd.string 9 w' w.heap.size (fun _ => True) v0_ r1 ∧ Kd.R k42 42 w' w.heap.size (fun _ => True) v1_ r2 ∧ Below w.heap.size w w' := by
 unfold note_Parse.f at h
 by_cases hsz : (a0.size : Int) > 65536
 ·rw [if_pos hsz] at h
  simp only [Option.some.injEq, Prod.mk.injEq] at h
  obtain ⟨rfl, rfl, rfl, rfl⟩ := h
  have t0 : decide ((65536 : Int) < a0.size) = true := decide_eq_true hsz
  go_enter Try.func9, Try.ntmps9
  go_wp2
  refine bodyPost_ret (results_ctt rfl _ _ w.heap.size 25 #[.slice none 0 0, .slice none 0 0] (0, 0) _ rfl (blk_new w _) Try.underlying25 rfl (by kernel_rfl)) rfl ?_
  exact ⟨_, _, rfl, Kd.R_nil _ _ _ _ _, Kd.R_nil _ _ _ _ _, (Below.refl _ _).alloc (Nat.le_refl _) _⟩
 rw [if_neg hsz, Option.bind_eq_some_iff] at h
 obtain ⟨⟨ts, at_, er⟩, hlex, h⟩ := h
 dsimp only at h
 have t0 : decide ((65536 : Int) < a0.size) = false := decide_eq_false (by omega)
 have HL := Aside0.mk hlex
 clear hlex
 by_cases her : er = 0
 case neg =>
  rw [if_neg her] at h
  simp only [Option.some.injEq, Prod.mk.injEq] at h
  obtain ⟨rfl, rfl, rfl, rfl⟩ := h
  have t1 : (er != 0) = true := bne_iff_ne.2 her
  go_enter Try.func9, Try.ntmps9
  go_wp2_with (first | (go_at_call 15; refine (lex_Lex.calls k a0 ts at_ er _ HL.out).mono ?_; rintro e w1 ⟨v0, rfl, hrow, hbl⟩; (have HRB := Aside0.mk ((hbl.block w.heap.size (by simp)).trans (blk_new w (.cells #[.slice none 0 0, .slice none 0 0] 25)))); (have HBL := Aside0.mk hbl); clear hbl hrow; (have c0 : w1.cell? ⟨w.heap.size, 0, none⟩ = some (.slice none 0 0) := (blk_cell HRB.out 0).trans rfl); (have c1 : w1.cell? ⟨w.heap.size, 1, none⟩ = some (.slice none 0 0) := (blk_cell HRB.out 1).trans rfl); (have f0 : w1.frozen? ⟨w.heap.size, 0, none⟩ = false := blk_frozen HRB.out 0); (have f1 : w1.frozen? ⟨w.heap.size, 1, none⟩ = false := blk_frozen HRB.out 1)))
  refine bodyPost_ret (results_ctt rfl _ _ w.heap.size 25 #[.slice none 0 0, .slice none 0 0] (0, 0) _ rfl (blk_put (blk_put HRB.out 0 _ rfl) 1 _ rfl) Try.underlying25 rfl (by kernel_rfl)) rfl ?_
  exact ⟨_, _, rfl, Kd.R_nil _ _ _ _ _, Kd.R_nil _ _ _ _ _, ((below_step ((Below.refl w.heap.size w).alloc (Nat.le_refl _) _) HBL.out).setCell (p := ⟨w.heap.size, 0, none⟩) (Nat.le_refl _) _).setCell (p := ⟨w.heap.size, 1, none⟩) (Nat.le_refl _) _⟩
 rw [if_pos her] at h
 subst her
 by_cases hts : ts.length ≤ 800000
 case neg => rw [if_neg hts] at h; cases h
 rw [if_pos hts] at h
 have Hr := Aside0.mk (Option.some.inj h)
 clear h
 go_enter Try.func9, Try.ntmps9
 go_wp2_with (first | (go_at_call 15; refine (lex_Lex.calls k a0 ts at_ 0 _ HL.out).mono ?_; rintro e w1 ⟨v0, rfl, hrow, hbl⟩; (obtain ⟨AT, cT, rfl⟩ := Kd.R_slice hrow); (have HRB := Aside0.mk ((hbl.block w.heap.size (by simp)).trans (blk_new w (.cells #[.slice none 0 0, .slice none 0 0] 25)))); (have HBL := Aside0.mk hbl); (have HTS := Aside0.mk hrow); clear hbl hrow))
 have HBW := Aside0.mk (below_step ((Below.refl w.heap.size w).alloc (Nat.le_refl _) (.cells #[.slice none 0 0, .slice none 0 0] 25)) HBL.out)
 have hs1 : w.heap.size < w1.heap.size := blk_lt HRB.out
 have HTW := Aside0.mk (Kd.R_below HTS.out ((Below.refl w1.heap.size w1).alloc (Nat.le_refl _) (.cells #[.int .i64 0, .slice none 0 0, .slice none 0 0] 56)))
 have HRW := Aside0.mk (blk_alloc HRB.out (.cells #[.int .i64 0, .slice none 0 0, .slice none 0 0] 56))
 have HWB := Aside0.mk (below_alloc_ HBW.out (Nat.le_refl _) (.cells #[.int .i64 0, .slice none 0 0, .slice none 0 0] 56))
 have HGN := Aside0.mk (blk_new w1 (.cells #[.int .i64 0, .slice none 0 0, .slice none 0 0] 56))
 clear HL HBL HTS HRB HBW
 generalize hg : w1.heap.size = g at *
 generalize w1.alloc (.cells #[.int .i64 0, .slice none 0 0, .slice none 0 0] 56) = W1 at *
 generalize (w.alloc (.cells #[.slice none 0 0, .slice none 0 0] 25)).heap.size = b0 at *
 clear hg
 go_loopw [28] (fun v wr => ∃ (i : Nat) (st : Int) (starts : List ByteArray) (defs : List S42), i ≤ ts.length ∧ v = .int .i64 i ∧ Aside0 (Pw wr w.heap.size g st starts defs) ∧ Aside0 (Shp i st starts defs) ∧ Aside0 (runP (ts.drop i) st starts defs = runP ts 0 [] []) ∧ Aside0 (Kx w.heap.size W1 wr)) (fun v _ => ts.length - (intOf v).toNat)
 case atStart => exact ⟨0, 0, [], [], by omega, rfl, ⟨⟨Nat.le_of_lt hs1, .slice none 0 0, .slice none 0 0, HGN.out, Kd.R_nil _ _ _ _ _, .inl ⟨rfl, rfl⟩⟩⟩, ⟨⟨by omega, by simp, by simp, by simp, by simp, by simp, fun h => absurd h (by omega)⟩⟩, ⟨rfl⟩, ⟨Kx.refl _ _⟩⟩
 case round =>
  obtain ⟨i, st, starts, defs, hi', rfl, hP, hS, hR, hK⟩ := hrel
  by_cases hlt : i < ts.length
  ·obtain ⟨tb, c, e, hT⟩ := tok_ta (tok_keep hK.out HTW.out) i hlt
   injection e with e1 e2 e3
   subst e1
   subst e3
   rw [List.drop_eq_getElem_cons hlt] at hR
   have HT := Aside0.mk hT
   clear hT
   generalize ts[i] = t at *
   have hsz1 : w.heap.size ≤ wr.heap.size := by
    have := hK.out.bel.size
    have := HWB.out.size
    omega
   have HRR := Aside0.mk ((hK.out.same 25 w.heap.size (.inr rfl) ⟨_, HRW.out⟩).trans HRW.out)
   cases hq : takeP st starts defs t with
   | none =>
    have HQ := Aside0.mk hq
    have hR2 := hR.out
    rw [runP_cons, hq] at hR2
    have HR2 := Aside0.mk (show runP ts 0 [] [] = .inr t.f1 from hR2.symm)
    clear hq hR hR2
    go_wp2_with (first | (go_at_call 16; refine (np_take wr w.heap.size g tb (i * 5) i st starts defs t hP.out hS.out (by omega) hsz1 HT.out).mono ?_; rintro e w2 ⟨b, rfl, hb2, _, hk2⟩; rw [HQ.out] at hb2; subst hb2; (have HT2 := Aside0.mk (TA.of_kx hk2 HT.out)); (have HR3 := Aside0.mk ((hk2.same 25 w.heap.size (.inr rfl) ⟨_, HRR.out⟩).trans HRR.out)); (have HK2 := Aside0.mk (hK.out.trans hk2)); clear hk2; (have c0 : w2.cell? ⟨w.heap.size, 0, none⟩ = some (.slice none 0 0) := (blk_cell HR3.out 0).trans rfl); (have c1 : w2.cell? ⟨w.heap.size, 1, none⟩ = some (.slice none 0 0) := (blk_cell HR3.out 1).trans rfl); (have f0 : w2.frozen? ⟨w.heap.size, 0, none⟩ = false := blk_frozen HR3.out 0); (have f1 : w2.frozen? ⟨w.heap.size, 1, none⟩ = false := blk_frozen HR3.out 1); (have ct := HT2.out.c1); (have hne : tb ≠ w.heap.size := HT2.out.ty.ne ⟨_, HR3.out⟩ (by decide)); (have ct2 : ((w2.setCell ⟨w.heap.size, 0, none⟩ (.slice none 0 0)).setCell ⟨w.heap.size, 1, none⟩ (.slice none 0 0)).cell? ⟨tb, i * 5 + 1, none⟩ = some (.int .i64 t.f1) := (World.cell?_of_block (a := ⟨tb, i * 5 + 1, none⟩) ((Below.heap_setCell _ ⟨w.heap.size, 1, none⟩ _ tb hne).trans (Below.heap_setCell w2 ⟨w.heap.size, 0, none⟩ _ tb hne))).trans ct)))
    go_region
    all_goals (try go_wp2)
    all_goals (
     have hp := Hr.out
     unfold parseL at hp
     rw [HR2.out] at hp
     simp only [Prod.mk.injEq] at hp
     obtain ⟨rfl, rfl, rfl, rfl⟩ := hp
     refine bodyPost_ret (results_ctt rfl _ _ w.heap.size 25 #[.slice none 0 0, .slice none 0 0] (0, 0) _ rfl (blk_drew (blk_put (blk_put HR3.out 0 _ rfl) 1 _ rfl)) Try.underlying25 rfl (by kernel_rfl)) rfl ?_
     exact ⟨_, _, rfl, Kd.R_nil _ _ _ _ _, Kd.R_nil _ _ _ _ _, (((HWB.out.trans HK2.out.bel).setCell (p := ⟨w.heap.size, 0, none⟩) (Nat.le_refl _) _).setCell (p := ⟨w.heap.size, 1, none⟩) (Nat.le_refl _) _).drew⟩)
   | some q =>
    obtain ⟨s1, s2, s3⟩ := q
    have HQ := Aside0.mk hq
    have hR2 := hR.out
    rw [runP_cons, hq] at hR2
    have HR2 := Aside0.mk (show runP (ts.drop (i + 1)) s1 s2 s3 = runP ts 0 [] [] from hR2)
    clear hq hR hR2
    go_wp2_with (first | (go_at_call 16; refine (np_take wr w.heap.size g tb (i * 5) i st starts defs t hP.out hS.out (by omega) hsz1 HT.out).mono ?_; rintro e w2 ⟨b, rfl, hb2, hp2, hk2⟩; rw [HQ.out] at hb2; subst hb2; (have HP2 := Aside0.mk (hp2 s1 s2 s3 HQ.out)); (have HK2 := Aside0.mk (hK.out.trans hk2)); clear hk2 hp2))
    go_roundw
    case rel => exact ⟨i + 1, s1, s2, s3, by omega, by go_num, HP2, ⟨takeP_shape hS.out HQ.out⟩, HR2, HK2⟩
    case measure => simp [intOf]; omega
  ·obtain rfl : i = ts.length := by omega
   rw [List.drop_length] at hR
   have HR2 := Aside0.mk (show runP ts 0 [] [] = .inl (st, starts, defs) from hR.out.symm)
   obtain ⟨hbg, vS, vD, hg, hs, hz⟩ := hP.out
   obtain ⟨AS, cS, rfl⟩ := Kd.R_slice hs
   obtain ⟨innerD, hoD, _⟩ := hz.own
   obtain ⟨AD, cD, rfl⟩ := own_slice hoD
   clear hoD
   have HG := Aside0.mk hg
   have HS := Aside0.mk hs
   have HZ := Aside0.mk hz
   have HRR := Aside0.mk ((hK.out.same 25 w.heap.size (.inr rfl) ⟨_, HRW.out⟩).trans HRW.out)
   clear hP hR hg hs hz
   have g0 : wr.cell? ⟨g, 0, none⟩ = some (.int .i64 st) := (blk_cell HG.out 0).trans rfl
   have g1 : wr.cell? ⟨g, 1, none⟩ = some (.slice AS starts.length cS) := (blk_cell HG.out 1).trans rfl
   have g2 : wr.cell? ⟨g, 2, none⟩ = some (.slice AD defs.length cD) := (blk_cell HG.out 2).trans rfl
   have c0 : wr.cell? ⟨w.heap.size, 0, none⟩ = some (.slice none 0 0) := (blk_cell HRR.out 0).trans rfl
   have c1 : wr.cell? ⟨w.heap.size, 1, none⟩ = some (.slice none 0 0) := (blk_cell HRR.out 1).trans rfl
   have f0 : wr.frozen? ⟨w.heap.size, 0, none⟩ = false := blk_frozen HRR.out 0
   have f1 : wr.frozen? ⟨w.heap.size, 1, none⟩ = false := blk_frozen HRR.out 1
   have hp := Hr.out
   unfold parseL at hp
   rw [HR2.out] at hp
   dsimp only at hp
   by_cases h0 : st = 0
   ·have b0 : (st != 0) = false := by simp [h0]
    rw [if_pos h0] at hp
    simp only [Prod.mk.injEq] at hp
    obtain ⟨rfl, rfl, rfl, rfl⟩ := hp
    go_wp2
    refine bodyPost_ret (results_ctt rfl _ _ w.heap.size 25 #[.slice AS starts.length cS, .slice AD defs.length cD] (0, 0) _ rfl (blk_put (blk_put HRR.out 0 _ rfl) 1 _ rfl) Try.underlying25 rfl (by kernel_rfl)) rfl ?_
    refine ⟨_, _, rfl, ?_, ?_, ?_⟩
    ·exact Kd.R_set (Kd.R_set HS.out HRR.out (by decide) _ _) (blk_put HRR.out 0 _ rfl) (by decide) _ _
    ·exact Kd.R_set (Kd.R_set HZ.out.row HRR.out (by decide) _ _) (blk_put HRR.out 0 _ rfl) (by decide) _ _
    ·exact ((HWB.out.trans hK.out.bel).setCell (p := ⟨w.heap.size, 0, none⟩) (Nat.le_refl _) _).setCell (p := ⟨w.heap.size, 1, none⟩) (Nat.le_refl _) _
   ·have b0 : (st != 0) = true := bne_iff_ne.2 h0
    rw [if_neg h0] at hp
    simp only [Prod.mk.injEq] at hp
    obtain ⟨rfl, rfl, rfl, rfl⟩ := hp
    go_wp2
    refine bodyPost_ret (results_ctt rfl _ _ w.heap.size 25 #[.slice none 0 0, .slice none 0 0] (0, 0) _ rfl (blk_put (blk_put HRR.out 0 _ rfl) 1 _ rfl) Try.underlying25 rfl (by kernel_rfl)) rfl ?_
    exact ⟨_, _, rfl, Kd.R_nil _ _ _ _ _, Kd.R_nil _ _ _ _ _, ((HWB.out.trans hK.out.bel).setCell (p := ⟨w.heap.size, 0, none⟩) (Nat.le_refl _) _).setCell (p := ⟨w.heap.size, 1, none⟩) (Nat.le_refl _) _⟩


end Go.Proofs.Ytmpilejhnolafaa.PPJ
