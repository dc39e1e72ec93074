-- written by a program of the session's (wip/myprint.py) out of the translation
import Derived.Test.YtdjnpgigdchfkaaPBLx0
import Derived.Test.YtdjnpgigdchfkaaPBLx6
import Derived.Test.YtdjnpgigdchfkaaPBLx9
namespace Go.Proofs.Ytdjnpgigdchfkaa.PBL
open Go.RowKit Go.Proofs.YtdjnpgigdchfkaaW.PrintWords Go.Proofs.YtdjnpgigdchfkaaW.PrintLast Go.Proofs.YtdjnpgigdchfkaaW.PrintMore
attribute [local go_sem] max2_int min2_int max_two min_two max_three min_three max_four min_four   -- for this text's walks alone
set_option linter.unusedVariables false
set_option linter.unusedSimpArgs false

/-! ### templelaw4_BuildLong: function 9 -/
/-! The parser's memory: definitions, the last one's alternatives, the last one's conjuncts, the last one's items: each a row of its own, the last element open. -/
abbrev kA43 : Kd (List S64) := Kd.slice 64 k64
def Cz (w : World) (base : Nat) (vC : Value) (a : List S64) (B : Nat → Prop) : Prop :=
 (a = [] ∧ vC = .slice none 0 0 ∧ ∀ k, ¬ B k) ∨
 ∃ cs neg its vI, a = cs ++ [⟨neg, its⟩] ∧ Op k64 64 w base (fun k => vI.ownBlock ≠ some k) vC cs [.bool neg, vI] ∧ Kd.R k61 61 w base (fun _ => True) vI its ∧ (∀ k, B k ↔ (vC.ownBlock = some k ∨ vI.ownBlock = some k))
def Az (w : World) (base : Nat) (vA : Value) (alts : List (List S64)) (B : Nat → Prop) : Prop :=
 ∃ bs a vC B', alts = bs ++ [a] ∧ Op kA43 65 w base (fun k => ¬ B' k) vA bs [vC] ∧ Cz w base vC a B' ∧ (∀ k, B k ↔ (vA.ownBlock = some k ∨ B' k))
def Dz (w : World) (base : Nat) (vD : Value) (defs : List S45) : Prop :=
 (defs = [] ∧ vD = .slice none 0 0) ∨
 ∃ ds nm alts vA B, defs = ds ++ [⟨nm, alts⟩] ∧ Op k45 45 w base (fun k => ¬ B k) vD ds [.string nm, vA] ∧ Az w base vA alts B
theorem Cz.typed {w : World} {base : Nat} {vC : Value} {a : List S64} {B : Nat → Prop} (h : Cz w base vC a B) {k : Nat} (hk : B k) : Tb w 64 k ∨ Tb w 61 k := by
 rcases h with ⟨_, _, hB⟩ | ⟨cs, neg, its, vI, _, ho, hr, hB⟩
 ·exact absurd hk (hB k)
 ·rcases (hB k).1 hk with h | h
  ·exact .inl (ho.tb h)
  ·exact .inr (R_typed hr h)
theorem Az.typed {w : World} {base : Nat} {vA : Value} {alts : List (List S64)} {B : Nat → Prop} (h : Az w base vA alts B) {k : Nat} (hk : B k) : Tb w 65 k ∨ Tb w 64 k ∨ Tb w 61 k := by
 obtain ⟨bs, a, vC, B', _, ho, hc, hB⟩ := h
 rcases (hB k).1 hk with h | h
 ·exact .inl (ho.tb h)
 ·exact .inr (hc.typed h)
theorem k61_E : k61.E = [] := rfl
theorem k64_E : k64.E = [61] := rfl
theorem kA43_E : kA43.E = [64, 61] := rfl
theorem k45_E : k45.E = [65, 64, 61] := rfl
/-- What is of other types may turn. -/
structure Fz (w w1 : World) : Prop where
 same : ∀ q k, (q = 45 ∨ q = 65 ∨ q = 64 ∨ q = 61) → Tb w q k → w1.heap[k]? = w.heap[k]?
theorem Cz.move {w w1 : World} {base : Nat} {vC : Value} {a : List S64} {B : Nat → Prop} (h : Cz w base vC a B) (F : Fz w w1) : Cz w1 base vC a B := by
 rcases h with ⟨h1, h2, h3⟩ | ⟨cs, neg, its, vI, h1, ho, hr, hB⟩
 ·exact .inl ⟨h1, h2, h3⟩
 ·refine .inr ⟨cs, neg, its, vI, h1, ?_, ?_, hB⟩
  ·refine (ho.typed.move (fun k hk hlt => ?_)).mono (fun k hk => hk.1)
   rcases hk with hk | ⟨_, q, hq, hc⟩
   ·exact F.same 64 k (by simp) (ho.tb hk)
   ·rw [k64_E, List.mem_singleton] at hq
    exact F.same q k (by simp [hq]) hc
  ·refine Kd.R_mono (Kd.R_step (Kd.R_bound hr) (fun k hk hlt => ?_)) (fun _ _ => trivial)
   obtain ⟨_, _, _, q, hq, hc⟩ := hk
   rw [k61_E, List.mem_singleton] at hq
   exact F.same q k (by simp [hq]) hc
theorem Az.move {w w1 : World} {base : Nat} {vA : Value} {alts : List (List S64)} {B : Nat → Prop} (h : Az w base vA alts B) (F : Fz w w1) : Az w1 base vA alts B := by
 obtain ⟨bs, a, vC, B', h1, ho, hc, hB⟩ := h
 refine ⟨bs, a, vC, B', h1, ?_, hc.move F, hB⟩
 refine (ho.typed.move (fun k hk hlt => ?_)).mono (fun k hk => hk.1)
 rcases hk with hk | ⟨_, q, hq, hc⟩
 ·exact F.same 65 k (by simp) (ho.tb hk)
 ·rw [kA43_E] at hq
  exact F.same q k (by simp at hq; omega) hc
theorem Dz.move {w w1 : World} {base : Nat} {vD : Value} {defs : List S45} (h : Dz w base vD defs) (F : Fz w w1) : Dz w1 base vD defs := by
 rcases h with ⟨h1, h2⟩ | ⟨ds, nm, alts, vA, B, h1, ho, ha⟩
 ·exact .inl ⟨h1, h2⟩
 ·refine .inr ⟨ds, nm, alts, vA, B, h1, ?_, ha.move F⟩
  refine (ho.typed.move (fun k hk hlt => ?_)).mono (fun k hk => hk.1)
  rcases hk with hk | ⟨_, q, hq, hc⟩
  ·exact F.same 45 k (by simp) (ho.tb hk)
  ·rw [k45_E] at hq
   exact F.same q k (by simp at hq; omega) hc
theorem Fz.refl (w : World) : Fz w w := ⟨fun _ _ _ _ => rfl⟩
theorem Fz.below {w w1 : World} (h : Below w.heap.size w w1) : Fz w w1 := ⟨fun q k _ hk => h.block k hk.lt⟩
theorem Fz.set {w : World} {g t : Nat} (hg : Tb w t g) (ht : t ≠ 45 ∧ t ≠ 65 ∧ t ≠ 64 ∧ t ≠ 61) (j : Nat) (u : Value) : Fz w (w.setCell ⟨g, j, none⟩ u) :=
 ⟨fun q k hq hk => Below.heap_setCell w ⟨g, j, none⟩ u k (hk.ne hg (by omega))⟩
/-! Closed rows out of open ones -/
theorem Cz.own {w : World} {base : Nat} {vC : Value} {a : List S64} {B : Nat → Prop} (h : Cz w base vC a B) : ∃ inner, w.ownsRow base 64 2 vC a.length inner ∧ Reps (k64.M w base (fun _ => True)) 2 a inner := by
 rcases h with ⟨rfl, rfl, _⟩ | ⟨cs, neg, its, vI, rfl, ho, hr, _⟩
 ·exact ⟨[], own_nil _ _ _ _, Reps.none _ _⟩
 ·exact (ho.mono (fun _ _ => trivial)).close (k64_mkM w base _ ⟨neg, its⟩ hr)
theorem Cz.row {w : World} {base : Nat} {vC : Value} {a : List S64} {B : Nat → Prop} (h : Cz w base vC a B) : Kd.R k64 64 w base (fun _ => True) vC a := by
 obtain ⟨inner, ho, hr⟩ := h.own
 refine ⟨fun _ _ => trivial, inner, ho, hr.imp_ (fun x cs hp => k64.M_mono (fun k hk => ⟨trivial, fun e => ?_⟩) (k64.M_bound hp))⟩
 obtain ⟨_, _, _, q, hq, hc⟩ := hk
 rw [k64_E, List.mem_singleton] at hq
 exact Tb.ne (q := q) (r := 64) hc (own_typed ho k e.symm) (by omega) rfl
theorem Az.own {w : World} {base : Nat} {vA : Value} {alts : List (List S64)} {B : Nat → Prop} (h : Az w base vA alts B) : ∃ inner, w.ownsRow base 65 1 vA alts.length inner ∧ Reps (kA43.M w base (fun _ => True)) 1 alts inner := by
 obtain ⟨bs, a, vC, B', rfl, ho, hc, hB⟩ := h
 exact (ho.mono (fun _ _ => trivial)).close ⟨vC, rfl, hc.row⟩
theorem Az.row {w : World} {base : Nat} {vA : Value} {alts : List (List S64)} {B : Nat → Prop} (h : Az w base vA alts B) : Kd.R kA43 65 w base (fun _ => True) vA alts := by
 obtain ⟨inner, ho, hr⟩ := h.own
 refine ⟨fun _ _ => trivial, inner, ho, hr.imp_ (fun x cs hp => kA43.M_mono (fun k hk => ⟨trivial, fun e => ?_⟩) (kA43.M_bound hp))⟩
 obtain ⟨_, _, _, q, hq, hc⟩ := hk
 rw [kA43_E] at hq
 exact Tb.ne (q := q) (r := 65) hc (own_typed ho k e.symm) (by simp at hq; omega) rfl
theorem Dz.own {w : World} {base : Nat} {vD : Value} {defs : List S45} (h : Dz w base vD defs) : ∃ inner, w.ownsRow base 45 2 vD defs.length inner ∧ Reps (k45.M w base (fun _ => True)) 2 defs inner := by
 rcases h with ⟨rfl, rfl⟩ | ⟨ds, nm, alts, vA, B, rfl, ho, ha⟩
 ·exact ⟨[], own_nil _ _ _ _, Reps.none _ _⟩
 ·exact (ho.mono (fun _ _ => trivial)).close (k45_mkM w base _ ⟨nm, alts⟩ ha.row)
theorem Dz.row {w : World} {base : Nat} {vD : Value} {defs : List S45} (h : Dz w base vD defs) : Kd.R k45 45 w base (fun _ => True) vD defs := by
 obtain ⟨inner, ho, hr⟩ := h.own
 refine ⟨fun _ _ => trivial, inner, ho, hr.imp_ (fun x cs hp => k45.M_mono (fun k hk => ⟨trivial, fun e => ?_⟩) (k45.M_bound hp))⟩
 obtain ⟨_, _, _, q, hq, hc⟩ := hk
 rw [k45_E] at hq
 exact Tb.ne (q := q) (r := 45) hc (own_typed ho k e.symm) (by simp at hq; omega) rfl
/-! What each append leaves -/
/-- An item behind the last conjunct's. -/
theorem zip_item {W w1 : World} {base : Nat} {vD vA vC vI v1 : Value} {ds : List S45} {nm : ByteArray} {bs : List (List S64)} {cs : List S64} {neg : Bool} {its its1 : List S61} {B B' : Nat → Prop} {gC nC cC : Nat}
  (h1 : Op k45 45 W base (fun k => ¬ B k) vD ds [.string nm, vA]) (h2 : Op kA43 65 W base (fun k => ¬ B' k) vA bs [vC]) (h3 : Op k64 64 W base (fun k => vI.ownBlock ≠ some k) vC cs [.bool neg, vI]) (h4 : Kd.R k61 61 W base (fun _ => True) vI its)
  (hB' : ∀ k, B' k ↔ (vC.ownBlock = some k ∨ vI.ownBlock = some k)) (hB : ∀ k, B k ↔ (vA.ownBlock = some k ∨ B' k)) (hC : vC = .slice (some ⟨gC, 0, none⟩) nC cC)
  (hg : W.grownBy w1 vI.ownBlock) (hat : At W vI v1) (ho : Kd.R k61 61 w1 base (fun _ => True) v1 its1) :
  Dz (w1.setCell ⟨gC, cs.length * 2 + 1, none⟩ v1) base vD (ds ++ [⟨nm, bs ++ [cs ++ [⟨neg, its1⟩]]⟩]) := by
 subst hC
 have tC : Tb W 64 gC := h3.tb rfl
 have tI : ∀ k, vI.ownBlock = some k → Tb W 61 k := fun k hk => R_typed h4 hk
 have tC1 : Tb w1 64 gC := by
  obtain ⟨c, hc⟩ := tC
  exact ⟨c, (hg.block gC (blk_lt hc) (fun e => Tb.ne ⟨c, hc⟩ (tI gC e.symm) (by decide) rfl)).trans hc⟩
 have tI1 : ∀ k, v1.ownBlock = some k → Tb w1 61 k := fun k hk => R_typed ho hk
 -- the conjuncts
 have c1 : Op k64 64 w1 base (fun k => vI.ownBlock ≠ some k ∧ k < W.heap.size ∧ Tb W 61 k) (.slice (some ⟨gC, 0, none⟩) nC cC) cs [.bool neg, vI] := by
  refine (h3.bound.move (fun k hk hlt => hg.block k hlt ?_)).mono (fun k hk => ⟨hk.1, hk.2.2.1, ?_⟩)
  ·rcases hk with hk | hk
   ·exact fun e => Tb.ne (h3.tb hk) (tI k e.symm) (by decide) rfl
   ·exact fun e => hk.1 e.symm
  ·obtain ⟨_, _, _, q, hq, hc⟩ := hk
   rw [k64_E, List.mem_singleton] at hq
   subst hq
   exact hc
 have c2 := c1.store (fun k hk => Tb.ne hk.2.2 tC (by decide)) 1 (by decide) v1 (by
  obtain ⟨A, c, e⟩ := Kd.R_slice ho
  rw [e]
  rfl)
 have c3 : Op k64 64 (w1.setCell ⟨gC, cs.length * 2 + 1, none⟩ v1) base (fun k => v1.ownBlock ≠ some k) (.slice (some ⟨gC, 0, none⟩) nC cC) cs [.bool neg, v1] :=
  Op.mono c2 (fun k hk e => hk.1 (hat.old e hk.2.1))
 have r3 : Kd.R k61 61 (w1.setCell ⟨gC, cs.length * 2 + 1, none⟩ v1) base (fun _ => True) v1 its1 := by
  refine Kd.R_mono (Kd.R_far (p := ⟨gC, cs.length * 2 + 1, none⟩) (Kd.R_bound ho) (fun k hk => ?_) v1) (fun _ _ => trivial)
  obtain ⟨_, _, _, q, hq, hc⟩ := hk
  rw [k61_E, List.mem_singleton] at hq
  exact Tb.ne (q := q) (r := 64) hc tC1 (by omega)
 -- the levels above
 have up : ∀ k, k < W.heap.size → ¬ (some k = vI.ownBlock) → k ≠ gC → (w1.setCell ⟨gC, cs.length * 2 + 1, none⟩ v1).heap[k]? = W.heap[k]? := fun k hlt h hc =>
  (Below.heap_setCell w1 ⟨gC, cs.length * 2 + 1, none⟩ v1 k hc).trans (hg.block k hlt h)
 have a3 : Op kA43 65 (w1.setCell ⟨gC, cs.length * 2 + 1, none⟩ v1) base (fun k => ¬ ((Value.slice (some ⟨gC, 0, none⟩) nC cC).ownBlock = some k ∨ v1.ownBlock = some k)) vA bs [.slice (some ⟨gC, 0, none⟩) nC cC] := by
  refine (h2.bound.move (fun k hk hlt => ?_)).mono (fun k hk => ?_)
  ·rcases hk with hk | hk
   ·exact up k hlt (fun e => Tb.ne (h2.tb hk) (tI k e.symm) (by decide) rfl) (Tb.ne (h2.tb hk) tC (by decide))
   ·exact up k hlt (fun e => hk.1 ((hB' k).2 (.inr e.symm))) (fun e => hk.1 ((hB' k).2 (.inl (by rw [e]; rfl))))
  ·rintro (e | e)
   ·exact hk.1 ((hB' k).2 (.inl e))
   ·exact hk.1 ((hB' k).2 (.inr (hat.old e hk.2.2.1)))
 have d3 : Op k45 45 (w1.setCell ⟨gC, cs.length * 2 + 1, none⟩ v1) base (fun k => ¬ (vA.ownBlock = some k ∨ ((Value.slice (some ⟨gC, 0, none⟩) nC cC).ownBlock = some k ∨ v1.ownBlock = some k))) vD ds [.string nm, vA] := by
  refine (h1.bound.move (fun k hk hlt => ?_)).mono (fun k hk => ?_)
  ·rcases hk with hk | hk
   ·exact up k hlt (fun e => Tb.ne (h1.tb hk) (tI k e.symm) (by decide) rfl) (Tb.ne (h1.tb hk) tC (by decide))
   ·exact up k hlt (fun e => hk.1 ((hB k).2 (.inr ((hB' k).2 (.inr e.symm))))) (fun e => hk.1 ((hB k).2 (.inr ((hB' k).2 (.inl (by rw [e]; rfl))))))
  ·rintro (e | e | e)
   ·exact hk.1 ((hB k).2 (.inl e))
   ·exact hk.1 ((hB k).2 (.inr ((hB' k).2 (.inl e))))
   ·exact hk.1 ((hB k).2 (.inr ((hB' k).2 (.inr (hat.old e hk.2.2.1)))))
 exact .inr ⟨ds, nm, _, vA, _, rfl, d3, bs, _, _, _, rfl, a3, .inr ⟨cs, neg, its1, v1, rfl, c3, r3, fun k => Iff.rfl⟩, fun k => Iff.rfl⟩
/-- A conjunct behind the last alternative's. -/
theorem zip_conj {W w1 : World} {base : Nat} {vD vA vC v1 : Value} {ds : List S45} {nm : ByteArray} {bs : List (List S64)} {a : List S64} {neg : Bool} {B B' : Nat → Prop} {gA nA cA : Nat} {inner : List Value}
  (h1 : Op k45 45 W base (fun k => ¬ B k) vD ds [.string nm, vA]) (h2 : Op kA43 65 W base (fun k => ¬ B' k) vA bs [vC]) (h3 : Cz W base vC a B')
  (hB : ∀ k, B k ↔ (vA.ownBlock = some k ∨ B' k)) (hA : vA = .slice (some ⟨gA, 0, none⟩) nA cA) (hin : Reps (k64.M W base (fun _ => True)) 2 a inner)
  (hC : ∀ k, vC.ownBlock = some k → Tb W 64 k ∧ B' k)
  (hg : W.grownBy w1 vC.ownBlock) (hat : At W vC v1) (ho : w1.ownsRow base 64 2 v1 (a.length + 1) (inner ++ [.bool neg, .slice none 0 0])) :
  Dz (w1.setCell ⟨gA, bs.length * 1 + 0, none⟩ v1) base vD (ds ++ [⟨nm, bs ++ [a ++ [⟨neg, []⟩]]⟩]) := by
 subst hA
 have tA : Tb W 65 gA := h2.tb rfl
 have tA1 : Tb w1 65 gA := by
  obtain ⟨c, hc⟩ := tA
  exact ⟨c, (hg.block gA (blk_lt hc) (fun e => Tb.ne ⟨c, hc⟩ (hC gA e.symm).1 (by decide) rfl)).trans hc⟩
 have c1 : Op k64 64 w1 base (fun k => Tb w1 61 k) v1 a [.bool neg, .slice none 0 0] := by
  have : Op k64 64 w1 base (fun k => k < W.heap.size ∧ Tb W 61 k) v1 a [.bool neg, .slice none 0 0] := by
   refine Op.made (w := W) ho rfl (hin.imp_ (fun x cs hp => k64.M_mono (fun k hk => ⟨hk.2.2.1, ?_⟩) (k64.M_bound hp))) rfl (by simp [Value.oneCell']) (fun k hk hlt => hg.block k hlt (fun e => Tb.ne hk.2 (hC k e.symm).1 (by decide) rfl))
   obtain ⟨_, _, _, q, hq, hc⟩ := hk
   rw [k64_E, List.mem_singleton] at hq
   subst hq
   exact hc
  refine this.bound.mono (fun k hk => ?_)
  obtain ⟨_, _, _, q, hq, hc⟩ := hk
  rw [k64_E, List.mem_singleton] at hq
  subst hq
  exact hc
 have c3 : Op k64 64 (w1.setCell ⟨gA, bs.length * 1 + 0, none⟩ v1) base (fun k => (Value.slice none 0 0).ownBlock ≠ some k) v1 a [.bool neg, .slice none 0 0] :=
  (c1.far (p := ⟨gA, bs.length * 1 + 0, none⟩) (fun e => Tb.ne (c1.tb e) tA1 (by decide) rfl) (fun k hk => Tb.ne hk tA1 (by decide)) v1).mono (fun k _ e => by cases e)
 have v1s : v1.oneCell' = true := by
  obtain ⟨A, c, e⟩ := own_slice ho
  rw [e]
  rfl
 have a1 : Op kA43 65 w1 base (fun k => ¬ B' k ∧ k < W.heap.size ∧ (Tb W 64 k ∨ Tb W 61 k)) (.slice (some ⟨gA, 0, none⟩) nA cA) bs [vC] := by
  refine (h2.bound.move (fun k hk hlt => hg.block k hlt ?_)).mono (fun k hk => ⟨hk.1, hk.2.2.1, ?_⟩)
  ·rcases hk with hk | hk
   ·exact fun e => Tb.ne (h2.tb hk) (hC k e.symm).1 (by decide) rfl
   ·exact fun e => hk.1 (hC k e.symm).2
  ·obtain ⟨_, _, _, q, hq, hc⟩ := hk
   rw [kA43_E] at hq
   rcases List.mem_cons.1 hq with rfl | hq
   ·exact .inl hc
   ·rw [List.mem_singleton] at hq
    subst hq
    exact .inr hc
 have a2 := a1.store (fun k hk => by
  rcases hk.2.2 with h | h
  ·exact Tb.ne h tA (by decide)
  ·exact Tb.ne h tA (by decide)) 0 (by decide) v1 v1s
 have a3 : Op kA43 65 (w1.setCell ⟨gA, bs.length * 1 + 0, none⟩ v1) base (fun k => ¬ (v1.ownBlock = some k ∨ (Value.slice none 0 0).ownBlock = some k)) (.slice (some ⟨gA, 0, none⟩) nA cA) bs [v1] :=
  Op.mono a2 (fun k hk e => by
   rcases e with e | e
   ·exact hk.1 (hC k (hat.old e hk.2.1)).2
   ·cases e)
 have d3 : Op k45 45 (w1.setCell ⟨gA, bs.length * 1 + 0, none⟩ v1) base (fun k => ¬ ((Value.slice (some ⟨gA, 0, none⟩) nA cA).ownBlock = some k ∨ (v1.ownBlock = some k ∨ (Value.slice none 0 0).ownBlock = some k))) vD ds [.string nm, .slice (some ⟨gA, 0, none⟩) nA cA] := by
  refine (h1.bound.move (fun k hk hlt => ?_)).mono (fun k hk => ?_)
  ·have hne : k ≠ gA ∧ ¬ (some k = vC.ownBlock) := by
    rcases hk with hk | hk
    ·exact ⟨Tb.ne (h1.tb hk) tA (by decide), fun e => Tb.ne (h1.tb hk) (hC k e.symm).1 (by decide) rfl⟩
    ·exact ⟨fun e => hk.1 ((hB k).2 (.inl (by rw [e]; rfl))), fun e => hk.1 ((hB k).2 (.inr (hC k e.symm).2))⟩
   exact (Below.heap_setCell w1 ⟨gA, bs.length * 1 + 0, none⟩ v1 k hne.1).trans (hg.block k hlt hne.2)
  ·rintro (e | e | e)
   ·exact hk.1 ((hB k).2 (.inl e))
   ·exact hk.1 ((hB k).2 (.inr (hC k (hat.old e hk.2.2.1)).2))
   ·cases e
 exact .inr ⟨ds, nm, _, _, _, rfl, d3, bs, _, _, _, rfl, a3, .inr ⟨a, neg, [], .slice none 0 0, rfl, c3, Kd.R_nil _ _ _ _ _, fun k => Iff.rfl⟩, fun k => Iff.rfl⟩
/-- An empty alternative behind the last definition's. -/
theorem zip_alt {W w1 : World} {base : Nat} {vD vA v1 : Value} {ds : List S45} {nm : ByteArray} {alts : List (List S64)} {B : Nat → Prop} {gD nD cD : Nat} {inner : List Value}
  (h1 : Op k45 45 W base (fun k => ¬ B k) vD ds [.string nm, vA]) (h2 : Az W base vA alts B) (hD : vD = .slice (some ⟨gD, 0, none⟩) nD cD) (hin : Reps (kA43.M W base (fun _ => True)) 1 alts inner)
  (hg : W.grownBy w1 vA.ownBlock) (hat : At W vA v1) (ho : w1.ownsRow base 65 1 v1 (alts.length + 1) (inner ++ [.slice none 0 0])) :
  Dz (w1.setCell ⟨gD, ds.length * 2 + 1, none⟩ v1) base vD (ds ++ [⟨nm, alts ++ [[]]⟩]) := by
 subst hD
 have tD : Tb W 45 gD := h1.tb rfl
 have hA : ∀ k, vA.ownBlock = some k → Tb W 65 k ∧ B k := by
  obtain ⟨bs, a, vC, B', _, ho2, hc, hB⟩ := h2
  exact fun k hk => ⟨ho2.tb hk, (hB k).2 (.inl hk)⟩
 have tD1 : Tb w1 45 gD := by
  obtain ⟨c, hc⟩ := tD
  exact ⟨c, (hg.block gD (blk_lt hc) (fun e => Tb.ne ⟨c, hc⟩ (hA gD e.symm).1 (by decide) rfl)).trans hc⟩
 have a1 : Op kA43 65 w1 base (fun k => Tb w1 64 k ∨ Tb w1 61 k) v1 alts [.slice none 0 0] := by
  have t : ∀ (w : World) (k : Nat), (∃ q, q ∈ kA43.E ∧ ∃ cells, w.heap[k]? = some (.cells cells q (0, 0))) → Tb w 64 k ∨ Tb w 61 k := fun w k ⟨q, hq, hc⟩ => by
   rw [kA43_E] at hq
   rcases List.mem_cons.1 hq with rfl | hq
   ·exact .inl hc
   ·rw [List.mem_singleton] at hq
    subst hq
    exact .inr hc
  have : Op kA43 65 w1 base (fun k => k < W.heap.size ∧ (Tb W 64 k ∨ Tb W 61 k)) v1 alts [.slice none 0 0] := by
   refine Op.made (w := W) ho rfl (hin.imp_ (fun x cs hp => kA43.M_mono (fun k hk => ⟨hk.2.2.1, t W k hk.2.2.2⟩) (kA43.M_bound hp))) rfl (by simp [Value.oneCell']) (fun k hk hlt => hg.block k hlt (fun e => ?_))
   rcases hk.2 with h | h
   ·exact Tb.ne h (hA k e.symm).1 (by decide) rfl
   ·exact Tb.ne h (hA k e.symm).1 (by decide) rfl
  exact this.bound.mono (fun k hk => t w1 k hk.2.2.2)
 have a3 : Op kA43 65 (w1.setCell ⟨gD, ds.length * 2 + 1, none⟩ v1) base (fun k => ¬ False) v1 alts [.slice none 0 0] :=
  (a1.far (p := ⟨gD, ds.length * 2 + 1, none⟩) (fun e => Tb.ne (a1.tb e) tD1 (by decide) rfl) (fun k hk => by
   rcases hk with h | h
   ·exact Tb.ne h tD1 (by decide)
   ·exact Tb.ne h tD1 (by decide)) v1).mono (fun k _ e => e)
 have v1s : v1.oneCell' = true := by
  obtain ⟨A, c, e⟩ := own_slice ho
  rw [e]
  rfl
 have d1 : Op k45 45 w1 base (fun k => ¬ B k ∧ k < W.heap.size ∧ ¬ Tb W 45 k) (.slice (some ⟨gD, 0, none⟩) nD cD) ds [.string nm, vA] := by
  refine (h1.bound.move (fun k hk hlt => hg.block k hlt ?_)).mono (fun k hk => ⟨hk.1, hk.2.2.1, fun e => ?_⟩)
  ·rcases hk with hk | hk
   ·exact fun e => Tb.ne (h1.tb hk) (hA k e.symm).1 (by decide) rfl
   ·exact fun e => hk.1 (hA k e.symm).2
  ·obtain ⟨_, _, _, q, hq, hc⟩ := hk
   rw [k45_E] at hq
   exact Tb.ne (q := q) (r := 45) hc e (by simp at hq; omega) rfl
 have d2 := d1.store (fun k hk e => hk.2.2 (e ▸ tD)) 1 (by decide) v1 v1s
 have d3 : Op k45 45 (w1.setCell ⟨gD, ds.length * 2 + 1, none⟩ v1) base (fun k => ¬ (v1.ownBlock = some k ∨ False)) (.slice (some ⟨gD, 0, none⟩) nD cD) ds [.string nm, v1] :=
  Op.mono d2 (fun k hk e => by
   rcases e with e | e
   ·exact hk.1 (hA k (hat.old e hk.2.1)).2
   ·exact e)
 exact .inr ⟨ds, nm, _, v1, _, rfl, d3, alts, [], .slice none 0 0, fun _ => False, rfl, a3, .inl ⟨rfl, rfl, fun _ h => h⟩, fun k => Iff.rfl⟩
/-- A definition behind the last. -/
theorem zip_def {W w1 : World} {base : Nat} {vD v1 : Value} {defs : List S45} {nm : ByteArray} {gA : Nat} {inner : List Value}
  (hgA : W.heap[gA]? = some (.cells #[.slice none 0 0] 65 (0, 0))) (hbA : base ≤ gA) (hin : Reps (k45.M W base (fun k => k ≠ gA)) 2 defs inner)
  (hD : ∀ k, vD.ownBlock = some k → Tb W 45 k)
  (hg : W.grownBy w1 vD.ownBlock) (ho : w1.ownsRow base 45 2 v1 (defs.length + 1) (inner ++ [.string nm, .slice (some ⟨gA, 0, none⟩) 1 1])) :
  Dz w1 base v1 (defs ++ [⟨nm, [[]]⟩]) := by
 have hA1 : w1.heap[gA]? = some (.cells #[.slice none 0 0] 65 (0, 0)) := (hg.block gA (blk_lt hgA) (fun e => Tb.ne ⟨_, hgA⟩ (hD gA e.symm) (by decide) rfl)).trans hgA
 have d1 : Op k45 45 w1 base (fun k => ¬ ((Value.slice (some ⟨gA, 0, none⟩) 1 1).ownBlock = some k ∨ False)) v1 defs [.string nm, .slice (some ⟨gA, 0, none⟩) 1 1] := by
  have : Op k45 45 w1 base (fun k => k ≠ gA ∧ ¬ Tb W 45 k) v1 defs [.string nm, .slice (some ⟨gA, 0, none⟩) 1 1] := by
   refine Op.made (w := W) ho rfl (hin.imp_ (fun x cs hp => k45.M_mono (fun k hk => ⟨hk.1, fun e => ?_⟩) (k45.M_bound hp))) rfl (by simp [Value.oneCell']) (fun k hk hlt => hg.block k hlt (fun e => hk.2 (hD k e.symm)))
   obtain ⟨_, _, _, q, hq, hc⟩ := hk
   rw [k45_E] at hq
   exact Tb.ne (q := q) (r := 45) hc e (by simp at hq; omega) rfl
  refine this.mono (fun k hk e => ?_)
  rcases e with e | e
  ·injection e with e
   exact hk.1 e.symm
  ·exact e
 have a1 : Op kA43 65 w1 base (fun k => ¬ False) (.slice (some ⟨gA, 0, none⟩) 1 1) [] [.slice none 0 0] := by
  refine ⟨[], ⟨rfl, .inr ⟨gA, 1, #[.slice none 0 0], rfl, hbA, hA1, Nat.le_refl _, by decide, rfl, rfl⟩⟩, Reps.none _ _, rfl, by simp [Value.oneCell']⟩
 exact .inr ⟨defs, nm, _, _, _, rfl, d1, [], [], .slice none 0 0, fun _ => False, rfl, a1, .inl ⟨rfl, rfl, fun _ h => h⟩, fun k => Iff.rfl⟩
theorem Dz.open {w : World} {base : Nat} {vD : Value} {ds : List S45} {nm : ByteArray} {alts : List (List S64)} (h : Dz w base vD (ds ++ [⟨nm, alts⟩])) :
  ∃ vA B, Op k45 45 w base (fun k => ¬ B k) vD ds [.string nm, vA] ∧ Az w base vA alts B := by
 rcases h with ⟨h, _⟩ | ⟨ds', nm', alts', vA, B, h, ho, ha⟩
 ·exact absurd h (by simp)
 ·obtain ⟨e1, e2⟩ := List.append_inj' h rfl
  subst e1
  injection e2 with e2 _
  injection e2 with h1 h2
  subst h1
  subst h2
  exact ⟨vA, B, ho, ha⟩
theorem Az.open {w : World} {base : Nat} {vA : Value} {bs : List (List S64)} {a : List S64} {B : Nat → Prop} (h : Az w base vA (bs ++ [a]) B) :
  ∃ vC B', Op kA43 65 w base (fun k => ¬ B' k) vA bs [vC] ∧ Cz w base vC a B' ∧ (∀ k, B k ↔ (vA.ownBlock = some k ∨ B' k)) := by
 obtain ⟨bs', a', vC, B', h, ho, hc, hB⟩ := h
 obtain ⟨e1, e2⟩ := List.append_inj' h rfl
 subst e1
 injection e2 with e2 _
 subst e2
 exact ⟨vC, B', ho, hc, hB⟩
theorem Cz.open {w : World} {base : Nat} {vC : Value} {cs : List S64} {neg : Bool} {its : List S61} {B : Nat → Prop} (h : Cz w base vC (cs ++ [⟨neg, its⟩]) B) :
  ∃ vI, Op k64 64 w base (fun k => vI.ownBlock ≠ some k) vC cs [.bool neg, vI] ∧ Kd.R k61 61 w base (fun _ => True) vI its ∧ (∀ k, B k ↔ (vC.ownBlock = some k ∨ vI.ownBlock = some k)) := by
 rcases h with ⟨h, _⟩ | ⟨cs', neg', its', vI, h, ho, hr, hB⟩
 ·exact absurd h (by simp)
 ·obtain ⟨e1, e2⟩ := List.append_inj' h rfl
  subst e1
  injection e2 with e2 _
  injection e2 with h1 h2
  subst h1
  subst h2
  exact ⟨vI, ho, hr, hB⟩
theorem Cz.blk {w : World} {base : Nat} {vC : Value} {a : List S64} {B : Nat → Prop} (h : Cz w base vC a B) : ∀ k, vC.ownBlock = some k → Tb w 64 k ∧ B k := by
 rcases h with ⟨_, rfl, _⟩ | ⟨cs, neg, its, vI, _, ho, _, hB⟩
 ·intro k hk
  cases hk
 ·exact fun k hk => ⟨ho.tb hk, (hB k).2 (.inl hk)⟩
theorem Dz.blk {w : World} {base : Nat} {vD : Value} {defs : List S45} (h : Dz w base vD defs) : ∀ k, vD.ownBlock = some k → Tb w 45 k := by
 rcases h with ⟨_, rfl⟩ | ⟨ds, nm, alts, vA, B, _, ho, _⟩
 ·intro k hk
  cases hk
 ·exact fun k hk => ho.tb hk
theorem below_alloc_ {B : Nat} {w W : World} (h : Below B w W) (hB : B ≤ w.heap.size) (o : Obj) : Below B w (W.alloc o) := h.alloc (Nat.le_trans hB h.size) o
theorem op_lit {α : Type} {d : Kd α} {e base g : Nat} {w : World} {ok : Nat → Prop} {cs : Array Value} {last : List Value} (hb : base ≤ g) (hblk : w.heap[g]? = some (.cells cs e (0, 0))) (hcs : cs.toList = last) (hl : last.length = d.sz) (h1 : ∀ u ∈ last, u.oneCell' = true) :
  Op d e w base ok (.slice (some ⟨g, 0, none⟩) 1 1) [] last := by
 refine ⟨[], ⟨?_, .inr ⟨g, 1, cs, rfl, hb, hblk, Nat.le_refl _, by decide, ?_, ?_⟩⟩, Reps.none _ _, hl, h1⟩
 ·rw [List.nil_append, hl, List.length_nil, Nat.zero_add, Nat.one_mul]
 ·rw [← Array.length_toList, hcs, hl, Nat.one_mul]
 ·rw [List.nil_append, List.length_nil, Nat.zero_add, Nat.one_mul, hcs, ← hl, List.take_length]
def zerosB (n : Nat) : ByteArray := strOfNums (List.replicate n 0)
def longIt (n : Nat) : S61 := ⟨1, zerosB n, 0, 0⟩
def longRaw (n i : Nat) : List S45 := [⟨⟨#[83]⟩, [[⟨false, List.replicate i (longIt n)⟩]]⟩]
def bl.T8 : Bool × List (List Nat × List Nat) := (true, [([], []), ([0], [0]), ([1], [1]), ([2], [2]), ([3], [3]), ([4], [4]), ([5], [5]), ([], []), ([7], [7]), ([8], [8]), ([9], [9]), ([10], [10]), ([11], [11]), ([12], [12]), ([13], [13]), ([14], [14]), ([15], [15]), ([], []), ([17, 17], [17]), ([18], [18]), ([19], [19]), ([20], [20]), ([16, 21], [16, 21]), ([6, 0, 1, 2, 3, 4, 5, 6, 7, 8, 9, 10, 11, 12, 13, 14, 15, 16, 17, 18, 19, 20, 21, 22], [6]), ([23, 0, 1, 2, 3, 4, 5, 6, 7, 8, 9, 10, 11, 12, 13, 14, 15, 16, 17, 18, 19, 20, 21, 22], [23]), ([24, 22, 22, 0, 1, 2, 3, 4, 5, 6, 7, 8, 9, 10, 11, 12, 13, 14, 15, 16, 17, 18, 19, 20, 21, 22], [22, 24])])
def bl.B8 : List Nat := [0, 1, 3, 7, 15, 31, 63, 0, 128, 384, 896, 1920, 3968, 8064, 16256, 32640, 65408, 0, 131072, 393216, 917504, 1966080, 4194176, 8388607, 16777215, 33554431]
theorem bl.tab8 : rtab .any (opsOf Try.f9 8) = bl.T8 := by kernel_rfl
theorem bl.bits8 : waitsOk bl.T8.2 bl.B8 = true := by kernel_rfl
def blf (k : Nat) (n q : Nat) : Option (Int × List ByteArray × List S51 × ByteArray × Int) := gram_Build.f k [⟨#[83]⟩] (longRaw n (1 + q))
/-- What the law asks of an answer. -/
def longOk (n q : Nat) (b : Int × List ByteArray × List S51 × ByteArray × Int) : Prop :=
 (64 < n * (1 + q) ∧ b.2.2.2.2 = 404 ∧ b.2.2.2.1 = ⟨#[]⟩ ∧ b.2.1 = []) ∨ (n * (1 + q) ≤ 64 ∧ b.2.2.2.2 = 0 ∧ ∃ x c, b.2.2.1 = [x] ∧ x.f1 = [c] ∧ c.f1.length = n * (1 + q))
def longB (n q : Nat) (b : Int × List ByteArray × List S51 × ByteArray × Int) : Bool :=
 if 64 < n * (1 + q) then decide (b.2.2.2.2 = 404) && b.2.2.2.1.data.toList.isEmpty && b.2.1.isEmpty
 else decide (b.2.2.2.2 = 0) && (match b.2.2.1 with | [x] => (match x.f1 with | [c] => decide (c.f1.length = n * (1 + q)) | _ => false) | _ => false)
theorem longB_ok {n q : Nat} {b : Int × List ByteArray × List S51 × ByteArray × Int} (h : longB n q b = true) : longOk n q b := by
 unfold longB at h
 split at h
 ·rename_i h0
  rw [Bool.and_eq_true, Bool.and_eq_true, decide_eq_true_eq, List.isEmpty_iff, List.isEmpty_iff] at h
  refine .inl ⟨h0, h.1.1, ?_, h.2⟩
  have := h.1.2
  cases hs : b.2.2.2.1 with
  | mk d =>
   rw [hs] at this
   congr 1
   exact Array.toList_inj.1 this
 ·rename_i h0
  rw [Bool.and_eq_true, decide_eq_true_eq] at h
  obtain ⟨h1, h2⟩ := h
  refine .inr ⟨by omega, h1, ?_⟩
  split at h2
  ·rename_i x hx
   split at h2
   ·rename_i c hc
    exact ⟨x, c, hx, hc, of_decide_eq_true h2⟩
   ·cases h2
  ·cases h2
def templelaw4_BuildLong.f (k : Nat) (a0 a1 : Int) : Option (Bool) :=
 (templelaw4_awake.f k).bind fun t => if t = true then
  if 0 ≤ Go.bits .and .i64 a0 63 ∧ Go.bits .and .i64 a0 63 ≤ 63 ∧ 0 ≤ Go.bits .and .i64 a1 3 ∧ Go.bits .and .i64 a1 3 ≤ 3 then
   (blf k (Go.bits .and .i64 a0 63).toNat (Go.bits .and .i64 a1 3).toNat).bind fun b => if longB (Go.bits .and .i64 a0 63).toNat (Go.bits .and .i64 a1 3).toNat b = true then some true else none
  else none
 else none
theorem templelaw4_BuildLong.mono : ∀ a0 a1 k, LeO (templelaw4_BuildLong.f k a0 a1) (templelaw4_BuildLong.f (k + 1) a0 a1) := by
 intro a0 a1 k
 unfold templelaw4_BuildLong.f blf
 repeat' first
   | (with_reducible exact templelaw4_awake.mono _)
   | (with_reducible exact gram_Build.mono _ _ _)
   | (with_reducible exact LeO.refl _)
   | (with_reducible exact LeO.none _)
   | (with_reducible refine LeO.ite ?_ ?_)
   | (with_reducible refine LeO.bind ?_ (fun _ => ?_))
set_option maxHeartbeats 8000000 in
set_option maxRecDepth 100000 in
theorem templelaw4_BuildLong.calls (k : Nat) (a0 : Int) (a1 : Int) (r : Bool) (w : World) (h : templelaw4_BuildLong.f k a0 a1 = some r) :
  Calls Try.prog 9 #[.int .i64 a0, .int .i64 a1] w fun e w' => e = .returned (.bool r) ∧ Below w.heap.size w w' := by
 unfold templelaw4_BuildLong.f at h
 rw [Option.bind_eq_some_iff] at h
 obtain ⟨t, ha, h⟩ := h
 cases t with
 | false => rw [if_neg (by decide)] at h; cases h
 | true =>
 rw [if_pos rfl] at h
 by_cases hrng : 0 ≤ Go.bits .and .i64 a0 63 ∧ Go.bits .and .i64 a0 63 ≤ 63 ∧ 0 ≤ Go.bits .and .i64 a1 3 ∧ Go.bits .and .i64 a1 3 ≤ 3
 case neg => rw [if_neg hrng] at h; cases h
 rw [if_pos hrng, Option.bind_eq_some_iff] at h
 obtain ⟨b, hb, h⟩ := h
 obtain ⟨g1, g2, g3, g4⟩ := hrng
 obtain ⟨n, hx⟩ := Int.eq_ofNat_of_zero_le g1
 obtain ⟨q, hy⟩ := Int.eq_ofNat_of_zero_le g3
 have hn : n ≤ 63 := by omega
 have hq : q ≤ 3 := by omega
 rw [hx, hy, Int.toNat_natCast, Int.toNat_natCast] at h
 rw [hx, hy, Int.toNat_natCast, Int.toNat_natCast] at hb
 by_cases hB : longB n q b = true
 case neg => rw [if_neg hB] at h; cases h
 rw [if_pos hB] at h
 obtain rfl := Option.some.inj h
 have HA := Aside0.mk ha
 have HBf := Aside0.mk hb
 have HOK := Aside0.mk (longB_ok hB)
 clear ha hb hB h g1 g2 g3 g4
 go_enter Try.func9, Try.ntmps9
 go_wp2_with (first | (go_at_call 20; refine (templelaw4_awake.calls k true _ HA.out).mono ?_; rintro e w1 ⟨rfl, hb1⟩; have HB1 := Aside0.mk hb1; clear hb1))
 have hbw := HB1.out.size
 have e1 : (w1.alloc (.cells #[.string ⟨#[83]⟩] 9)).heap.size = w1.heap.size + 1 := by simp
 have e2 : ((w1.alloc (.cells #[.string ⟨#[83]⟩] 9)).alloc (.cells #[.bool false, .slice none 0 0] 64)).heap.size = w1.heap.size + 1 + 1 := by simp
 have e3 : (((w1.alloc (.cells #[.string ⟨#[83]⟩] 9)).alloc (.cells #[.bool false, .slice none 0 0] 64)).alloc (.cells #[.slice (some ⟨w1.heap.size + 1, 0, none⟩) 1 1] 65)).heap.size = w1.heap.size + 1 + 1 + 1 := by simp
 have e4 : ((((w1.alloc (.cells #[.string ⟨#[83]⟩] 9)).alloc (.cells #[.bool false, .slice none 0 0] 64)).alloc (.cells #[.slice (some ⟨w1.heap.size + 1, 0, none⟩) 1 1] 65)).alloc (.cells #[.string ⟨#[83]⟩, .slice (some ⟨w1.heap.size + 1 + 1, 0, none⟩) 1 1] 45)).heap.size = w1.heap.size + 1 + 1 + 1 + 1 := by simp
 have b5 := blk_new ((((w1.alloc (.cells #[.string ⟨#[83]⟩] 9)).alloc (.cells #[.bool false, .slice none 0 0] 64)).alloc (.cells #[.slice (some ⟨w1.heap.size + 1, 0, none⟩) 1 1] 65)).alloc (.cells #[.string ⟨#[83]⟩, .slice (some ⟨w1.heap.size + 1 + 1, 0, none⟩) 1 1] 45)) (.cells #[.slice (some ⟨w1.heap.size, 0, none⟩) 1 1, .slice (some ⟨w1.heap.size + 1 + 1 + 1, 0, none⟩) 1 1] 25)
 have b4 := blk_alloc (blk_new (((w1.alloc (.cells #[.string ⟨#[83]⟩] 9)).alloc (.cells #[.bool false, .slice none 0 0] 64)).alloc (.cells #[.slice (some ⟨w1.heap.size + 1, 0, none⟩) 1 1] 65)) (.cells #[.string ⟨#[83]⟩, .slice (some ⟨w1.heap.size + 1 + 1, 0, none⟩) 1 1] 45)) (.cells #[.slice (some ⟨w1.heap.size, 0, none⟩) 1 1, .slice (some ⟨w1.heap.size + 1 + 1 + 1, 0, none⟩) 1 1] 25)
 have b3 := blk_alloc (blk_alloc (blk_new ((w1.alloc (.cells #[.string ⟨#[83]⟩] 9)).alloc (.cells #[.bool false, .slice none 0 0] 64)) (.cells #[.slice (some ⟨w1.heap.size + 1, 0, none⟩) 1 1] 65)) (.cells #[.string ⟨#[83]⟩, .slice (some ⟨w1.heap.size + 1 + 1, 0, none⟩) 1 1] 45)) (.cells #[.slice (some ⟨w1.heap.size, 0, none⟩) 1 1, .slice (some ⟨w1.heap.size + 1 + 1 + 1, 0, none⟩) 1 1] 25)
 have b2 := blk_alloc (blk_alloc (blk_alloc (blk_new (w1.alloc (.cells #[.string ⟨#[83]⟩] 9)) (.cells #[.bool false, .slice none 0 0] 64)) (.cells #[.slice (some ⟨w1.heap.size + 1, 0, none⟩) 1 1] 65)) (.cells #[.string ⟨#[83]⟩, .slice (some ⟨w1.heap.size + 1 + 1, 0, none⟩) 1 1] 45)) (.cells #[.slice (some ⟨w1.heap.size, 0, none⟩) 1 1, .slice (some ⟨w1.heap.size + 1 + 1 + 1, 0, none⟩) 1 1] 25)
 have b1 := blk_alloc (blk_alloc (blk_alloc (blk_alloc (blk_new w1 (.cells #[.string ⟨#[83]⟩] 9)) (.cells #[.bool false, .slice none 0 0] 64)) (.cells #[.slice (some ⟨w1.heap.size + 1, 0, none⟩) 1 1] 65)) (.cells #[.string ⟨#[83]⟩, .slice (some ⟨w1.heap.size + 1 + 1, 0, none⟩) 1 1] 45)) (.cells #[.slice (some ⟨w1.heap.size, 0, none⟩) 1 1, .slice (some ⟨w1.heap.size + 1 + 1 + 1, 0, none⟩) 1 1] 25)
 rw [e4] at b5
 rw [e3] at b4
 rw [e2] at b3
 rw [e1] at b2
 have HBW := Aside0.mk (below_alloc_ (below_alloc_ (below_alloc_ (below_alloc_ (below_alloc_ HB1.out (Nat.le_refl _) (.cells #[.string ⟨#[83]⟩] 9)) (Nat.le_refl _) (.cells #[.bool false, .slice none 0 0] 64)) (Nat.le_refl _) (.cells #[.slice (some ⟨w1.heap.size + 1, 0, none⟩) 1 1] 65)) (Nat.le_refl _) (.cells #[.string ⟨#[83]⟩, .slice (some ⟨w1.heap.size + 1 + 1, 0, none⟩) 1 1] 45)) (Nat.le_refl _) (.cells #[.slice (some ⟨w1.heap.size, 0, none⟩) 1 1, .slice (some ⟨w1.heap.size + 1 + 1 + 1, 0, none⟩) 1 1] 25))
 clear e1 e2 e3 e4
 generalize ((((w1.alloc (.cells #[.string ⟨#[83]⟩] 9)).alloc (.cells #[.bool false, .slice none 0 0] 64)).alloc (.cells #[.slice (some ⟨w1.heap.size + 1, 0, none⟩) 1 1] 65)).alloc (.cells #[.string ⟨#[83]⟩, .slice (some ⟨w1.heap.size + 1 + 1, 0, none⟩) 1 1] 45)).alloc (.cells #[.slice (some ⟨w1.heap.size, 0, none⟩) 1 1, .slice (some ⟨w1.heap.size + 1 + 1 + 1, 0, none⟩) 1 1] 25) = W0 at *
 have hS0 : Kd.R Kd.string 9 W0 w.heap.size (fun _ => True) (.slice (some ⟨w1.heap.size, 0, none⟩) 1 1) [(⟨#[83]⟩ : ByteArray)] :=
  (op_lit (ok := fun _ => False) (last := [.string ⟨#[83]⟩]) hbw b1 rfl rfl (by simp [Value.oneCell'])).row rfl (fun _ _ => trivial) (fun _ h => h.elim)
 have hZ0 : Dz W0 w.heap.size (.slice (some ⟨w1.heap.size + 1 + 1 + 1, 0, none⟩) 1 1) (longRaw n 0) :=
  .inr ⟨[], ⟨#[83]⟩, [[⟨false, []⟩]], .slice (some ⟨w1.heap.size + 1 + 1, 0, none⟩) 1 1, _, rfl, op_lit (by omega) b4 rfl rfl (by simp [Value.oneCell']),
   [], [⟨false, []⟩], .slice (some ⟨w1.heap.size + 1, 0, none⟩) 1 1, _, rfl, op_lit (by omega) b3 rfl rfl (by simp [Value.oneCell']),
   .inr ⟨[], false, [], .slice none 0 0, rfl, op_lit (by omega) b2 rfl rfl (by simp [Value.oneCell']), Kd.R_nil _ _ _ _ _, fun _ => Iff.rfl⟩, fun _ => Iff.rfl⟩
 have HR0 := Aside0.mk b5
 have HS0 := Aside0.mk hS0
 have HZ0 := Aside0.mk hZ0
 have hrv : w.heap.size ≤ w1.heap.size + 1 + 1 + 1 + 1 := by omega
 clear b1 b2 b3 b4 b5 hS0 hZ0 HB1 hbw
 generalize w1.heap.size + 1 + 1 + 1 + 1 = rv at *
 generalize w1.heap.size + 1 + 1 + 1 = gD at *
 generalize w1.heap.size + 1 + 1 = gA0 at *
 generalize w1.heap.size + 1 = gC0 at *
 generalize w1.heap.size = s0 at *
 go_loopw [8] (fun v wr => ∃ i : Nat, i ≤ 1 + q ∧ v = .int .i64 i ∧ Aside0 (wr.heap[rv]? = some (.cells #[.slice (some ⟨s0, 0, none⟩) 1 1, .slice (some ⟨gD, 0, none⟩) 1 1] 25 (0, 0))) ∧ Aside0 (Kd.R Kd.string 9 wr w.heap.size (fun _ => True) (.slice (some ⟨s0, 0, none⟩) 1 1) [(⟨#[83]⟩ : ByteArray)]) ∧ Aside0 (Dz wr w.heap.size (.slice (some ⟨gD, 0, none⟩) 1 1) (longRaw n i)) ∧ Aside0 (Below w.heap.size w wr)) (fun v _ => (1 + q) - (intOf v).toNat)
 case atStart => exact ⟨0, by omega, rfl, HR0, HS0, HZ0, HBW⟩
 case round =>
  obtain ⟨i, hi', rfl, hR, hS, hZ, hb⟩ := hrel
  clear HR0 HS0 HZ0 HBW
  by_cases hlt : i < 1 + q
  case neg =>
   obtain rfl : i = 1 + q := by omega
   obtain ⟨r1, r2, r3, r4, r5⟩ := b
   have HC1 := Aside0.mk (Kd.R_reads' hS.out)
   have HC2 := Aside0.mk (Kd.R_reads' hZ.out.row)
   have kR0 : wr.cell? ⟨rv, 0, none⟩ = some (.slice (some ⟨s0, 0, none⟩) 1 1) := (blk_cell hR.out 0).trans rfl
   have kR1 : wr.cell? ⟨rv, 1, none⟩ = some (.slice (some ⟨gD, 0, none⟩) 1 1) := (blk_cell hR.out 1).trans rfl
   clear hR hS hZ
   have hmul : wrap64 ((n : Int) * (1 + (q : Int))) = ((n * (1 + q) : Nat) : Int) := by
    have hle : n * (1 + q) ≤ 63 * 4 := Nat.mul_le_mul hn (by omega)
    have e : (n : Int) * (1 + (q : Int)) = ((n * (1 + q) : Nat) : Int) := by rw [Int.natCast_mul, Int.natCast_add]; rfl
    rw [e]
    unfold wrap64
    omega
   have hmi := Aside0.mk (show (n : Int) * (1 + (q : Int)) = ((n * (1 + q) : Nat) : Int) by rw [Int.natCast_mul, Int.natCast_add]; rfl)
   rcases HOK.out with ⟨ho, e5, e4, e2⟩ | ⟨ho, e5, x, c, e3, ec, el⟩
   ·dsimp only at e5 e4 e2
    subst e5 e4 e2
    have ht : decide ((64 : Int) < wrap64 ((n : Int) * (1 + (q : Int)))) = true := by rw [hmul]; exact decide_eq_true (by omega)
    go_wp2_with (first | (go_at_call 11; refine (gram_Build.calls k (some ⟨s0, 0, none⟩) 1 [⟨#[83]⟩] (some ⟨gD, 0, none⟩) 1 (longRaw n (1 + q)) r1 [] r3 ⟨#[]⟩ 404 wr HC1.out.2.2 (Nat.le_refl _) HC2.out.2.2 (Nat.le_refl _) HBf.out).mono ?_; rintro e w2 ⟨v1, v2, rfl, hv1, hv2, hb2⟩; (obtain ⟨A2, c2, rfl⟩ := Kd.R_slice hv1); (obtain ⟨A3, c3, rfl⟩ := Kd.R_slice hv2); (have HB2 := Aside0.mk (below_step hb.out hb2)); clear hv1 hv2 hb2) | (go_at_call 14; refine (templelaw0_Num.calls 404 404 _ rfl).mono ?_; rintro e w3 ⟨rfl, ⟨nd, rfl⟩⟩))
    ·go_ret
     exact ⟨rfl, pw_below_drewN (below_alloc_ HB2.out (Nat.le_refl _) _) _⟩
    all_goals exact absurd (by assumption : (n : Int) * (1 + (q : Int)) ≤ 64) (by rw [hmi.out]; omega)
   ·dsimp only at e5 e3
    subst e5 e3
    have ht : decide ((64 : Int) < wrap64 ((n : Int) * (1 + (q : Int)))) = false := by rw [hmul]; exact decide_eq_false (by omega)
    have hl1 : x.f1.length = 1 := by rw [ec]; rfl
    go_wp2_with (first | (go_at_call 11; refine (gram_Build.calls k (some ⟨s0, 0, none⟩) 1 [⟨#[83]⟩] (some ⟨gD, 0, none⟩) 1 (longRaw n (1 + q)) r1 r2 [x] r4 0 wr HC1.out.2.2 (Nat.le_refl _) HC2.out.2.2 (Nat.le_refl _) HBf.out).mono ?_; rintro e w2 ⟨v1, v2, rfl, hv1, hv2, hb2⟩; (obtain ⟨A2, c2, rfl⟩ := Kd.R_slice hv1); (obtain ⟨A3, c3, rfl⟩ := Kd.R_slice hv2); (obtain ⟨ad, A4, c4, rfl, y0, y1, y2, y3⟩ := at_T51 (Kd.R_reads' hv2).2.2 0 (by omega) (by simp)); (rw [show rd_T51 [x] 0 = x from rfl] at y0 y1 y2 y3); (obtain ⟨ad2, A5, c5, rfl, z0, z1, z2, z3⟩ := at_T54 y3 0 (by omega) (by rw [hl1]; decide)); (rw [show rd_T54 x.f1 0 = c from by rw [ec]; rfl] at z0 z1 z2 z3); (rw [hl1] at y1); (rw [el] at z1); (replace y1 : w2.cell? ⟨ad.block, ad.off + 1, none⟩ = _ := y1); (replace z1 : w2.cell? ⟨ad2.block, ad2.off + 1, none⟩ = _ := z1); (have Y1 := (World.cell?_alloc_lt w2 (.cells #[.int .i64 r1, .slice A2 r2.length c2, .slice (some ad) 1 c3] 28) _ (World.block_lt_of_cell? w2 _ y1)).trans y1); (have Z1 := (World.cell?_alloc_lt w2 (.cells #[.int .i64 r1, .slice A2 r2.length c2, .slice (some ad) 1 c3] 28) _ (World.block_lt_of_cell? w2 _ z1)).trans z1); (have HB2 := Aside0.mk (below_step hb.out hb2)); clear hv1 hv2 hb2) | (go_at_call 14; refine (templelaw0_Num.calls 0 0 _ rfl).mono ?_; rintro e w3 ⟨rfl, ⟨nd, rfl⟩⟩))
    ·exact absurd (by assumption : (64 : Int) < (n : Int) * (1 + (q : Int))) (by rw [hmi.out]; omega)
    ·go_ret
     exact ⟨rfl, pw_below_drewN (below_alloc_ HB2.out (Nat.le_refl _) _) _⟩
  obtain ⟨vA, B, h1, h2⟩ := Dz.open (ds := []) hZ.out
  obtain ⟨vC, B', h2, h3, hB⟩ := Az.open (bs := []) h2
  obtain ⟨vI, h3, h4, hB'⟩ := Cz.open (cs := []) h3
  obtain ⟨gD', cD', eD, bD, ltD, _, tD, cellD, frD⟩ := h1.form
  injection eD with eD1 eD2 eD3
  injection eD1 with eD1
  injection eD1 with eD1 eD4 eD5
  subst eD1
  clear eD2 eD3 eD4 eD5
  obtain ⟨gA, cA, rfl, bA, ltA, _, tA, cellA, frA⟩ := h2.form
  obtain ⟨gC, cC, rfl, bC, ltC, _, tC, cellC, frC⟩ := h3.form
  have kD : wr.cell? ⟨gD, 1, none⟩ = some (.slice (some ⟨gA, 0, none⟩) 1 cA) := cellD 1 _ rfl
  have kA : wr.cell? ⟨gA, 0, none⟩ = some (.slice (some ⟨gC, 0, none⟩) 1 cC) := cellA 0 _ rfl
  have kC := cellC 1 _ rfl
  rw [show ([] : List S64).length * k64.sz + 1 = 1 from rfl] at kC
  have kR : wr.cell? ⟨rv, 1, none⟩ = some (.slice (some ⟨gD, 0, none⟩) 1 1) := (blk_cell hR.out 1).trans rfl
  clear cellD cellA cellC frD frA frC
  obtain ⟨AI, cI, rfl⟩ := Kd.R_slice h4
  rw [List.length_replicate] at kC
  have hI : ∀ k, (Value.slice AI i cI).ownBlock = some k → Tb wr 61 k := fun k hk => R_typed h4 (by rw [List.length_replicate]; exact hk)
  rw [List.length_replicate] at h3 h4 hB'
  have HI := Aside0.mk hI
  have HI2 := Aside0.mk h4
  have H1 := Aside0.mk h1
  have H2 := Aside0.mk h2
  have H3 := Aside0.mk h3
  have HB_ := Aside0.mk hB
  have HB'_ := Aside0.mk hB'
  have TD := Aside0.mk (show Tb wr 45 gD from tD)
  have TA_ := Aside0.mk (show Tb wr 65 gA from tA)
  have TC := Aside0.mk (show Tb wr 64 gC from tC)
  have HR := hR
  have hsz1 : w.heap.size ≤ wr.heap.size := hb.out.size
  clear hI h1 h2 h3 h4 hB hB' tD tA tC
  have HMK := Aside0.mk (print_make (P := Try.prog) 68 5 .u8 1 Try.underlying68 (by kernel_rfl) (by decide) n (by omega))
  go_wp2
  refine start_ (n := 26) (S := fun w' => w'.cell? ⟨rv, 1, none⟩ = some (.slice (some ⟨gD, 0, none⟩) 1 1) ∧ w'.cell? ⟨gD, 1, none⟩ = some (.slice (some ⟨gA, 0, none⟩) 1 cA) ∧ w'.cell? ⟨gA, 0, none⟩ = some (.slice (some ⟨gC, 0, none⟩) 1 cC) ∧ w'.cell? ⟨gC, 1, none⟩ = some (.slice AI i cI)) (ds := [25]) #[false, false, false, false, false, false, false, false, false, false, false, false, false, false, false, false, false, false, false, false, false, false, false, false, false, false] (by kernel_rfl) rfl rfl ⟨kR, kD, kA, kC⟩ (fun hHeld => ?_)
  refine with_tabW bl.tab8 bl.bits8 (fun HT_ HW_ => ?_)
  refine pure_ (i := 0) (N := some 31) (v := ?_) (a' := ?_) #[true, false, false, false, false, false, false, false, false, false, false, false, false, false, false, false, false, false, false, false, false, false, false, false, false, false] rfl rfl (any_of HT_.out (by kernel_rfl)) (fun _ _ _ h => h) (Or.inl ⟨by rfl, ?_⟩) ?_ ?_
  rotate_left
  ·intro w'
   go_simp
   with_reducible rfl
  rotate_left
  ·simp only [Act.put, List.setIfInBounds_toArray, List.set_cons_zero, List.set_cons_succ, i64_w, i32_w]
   rfl
  refine pure_ (i := 7) (N := some 38) (v := ?_) (a' := ?_) #[true, false, false, false, false, false, false, true, false, false, false, false, false, false, false, false, false, false, false, false, false, false, false, false, false, false] rfl rfl (any_of HT_.out (by kernel_rfl)) (fun _ _ _ h => h) (Or.inl ⟨by rfl, ?_⟩) ?_ ?_
  rotate_left
  ·intro w'
   go_simp
   with_reducible rfl
  rotate_left
  ·simp only [Act.put, List.setIfInBounds_toArray, List.set_cons_zero, List.set_cons_succ, i64_w, i32_w]
   rfl
  refine pure_ (i := 17) (N := some 48) (v := ?_) (a' := ?_) #[true, false, false, false, false, false, false, true, false, false, false, false, false, false, false, false, false, true, false, false, false, false, false, false, false, false] rfl rfl (any_of HT_.out (by kernel_rfl)) (fun _ _ _ h => h) (Or.inl ⟨by rfl, ?_⟩) ?_ ?_
  rotate_left
  ·intro w'
   go_simp
   with_reducible rfl
  rotate_left
  ·simp only [Act.put, List.setIfInBounds_toArray, List.set_cons_zero, List.set_cons_succ, i64_w, i32_w]
   rfl
  refine take_ (i := 1) (N := some 32) (v := ?_) (a' := ?_) #[true, true, false, false, false, false, false, true, false, false, false, false, false, false, false, false, false, true, false, false, false, false, false, false, false, false] rfl rfl (take_ofW HT_.out HW_.out (by kernel_rfl)) (fun _ _ _ h => h) (Or.inl ⟨by rfl, ?_⟩) hHeld ?_ ?_
  rotate_left
  ·rintro w' ⟨s0, s1, s2, s3⟩
   go_simp
   with_reducible rfl
  rotate_left
  ·simp only [Act.put, List.setIfInBounds_toArray, List.set_cons_zero, List.set_cons_succ, i64_w, i32_w]
   rfl
  refine pure_ (i := 2) (N := some 33) (v := ?_) (a' := ?_) #[true, true, true, false, false, false, false, true, false, false, false, false, false, false, false, false, false, true, false, false, false, false, false, false, false, false] rfl rfl (any_of HT_.out (by kernel_rfl)) (fun _ _ _ h => h) (Or.inl ⟨by rfl, ?_⟩) ?_ ?_
  rotate_left
  ·intro w'
   go_simp
   with_reducible rfl
  rotate_left
  ·simp only [Act.put, List.setIfInBounds_toArray, List.set_cons_zero, List.set_cons_succ, i64_w, i32_w]
   rfl
  refine pure_ (i := 3) (N := some 34) (v := ?_) (a' := ?_) #[true, true, true, true, false, false, false, true, false, false, false, false, false, false, false, false, false, true, false, false, false, false, false, false, false, false] rfl rfl (any_of HT_.out (by kernel_rfl)) (fun _ _ _ h => h) (Or.inl ⟨by rfl, ?_⟩) ?_ ?_
  rotate_left
  ·intro w'
   go_simp
   with_reducible rfl
  rotate_left
  ·simp only [Act.put, List.setIfInBounds_toArray, List.set_cons_zero, List.set_cons_succ, i64_w, i32_w]
   rfl
  refine take_ (i := 4) (N := some 35) (v := ?_) (a' := ?_) #[true, true, true, true, true, false, false, true, false, false, false, false, false, false, false, false, false, true, false, false, false, false, false, false, false, false] rfl rfl (take_ofW HT_.out HW_.out (by kernel_rfl)) (fun _ _ _ h => h) (Or.inl ⟨by rfl, ?_⟩) hHeld ?_ ?_
  rotate_left
  ·rintro w' ⟨s0, s1, s2, s3⟩
   go_simp
   with_reducible rfl
  rotate_left
  ·simp only [Act.put, List.setIfInBounds_toArray, List.set_cons_zero, List.set_cons_succ, i64_w, i32_w]
   rfl
  refine pure_ (i := 5) (N := some 36) (v := ?_) (a' := ?_) #[true, true, true, true, true, true, false, true, false, false, false, false, false, false, false, false, false, true, false, false, false, false, false, false, false, false] rfl rfl (any_of HT_.out (by kernel_rfl)) (fun _ _ _ h => h) (Or.inl ⟨by rfl, ?_⟩) ?_ ?_
  rotate_left
  ·intro w'
   go_simp
   with_reducible rfl
  rotate_left
  ·simp only [Act.put, List.setIfInBounds_toArray, List.set_cons_zero, List.set_cons_succ, i64_w, i32_w]
   rfl
  refine take_ (i := 6) (N := some 37) (v := ?_) (a' := ?_) #[true, true, true, true, true, true, true, true, false, false, false, false, false, false, false, false, false, true, false, false, false, false, false, false, false, false] rfl rfl (take_ofW HT_.out HW_.out (by kernel_rfl)) (fun _ _ _ h => h) (Or.inl ⟨by rfl, ?_⟩) hHeld ?_ ?_
  rotate_left
  ·rintro w' ⟨s0, s1, s2, s3⟩
   go_simp
   with_reducible rfl
  rotate_left
  ·simp only [Act.put, List.setIfInBounds_toArray, List.set_cons_zero, List.set_cons_succ, i64_w, i32_w]
   rfl
  refine take_ (i := 8) (N := some 39) (v := ?_) (a' := ?_) #[true, true, true, true, true, true, true, true, true, false, false, false, false, false, false, false, false, true, false, false, false, false, false, false, false, false] rfl rfl (take_ofW HT_.out HW_.out (by kernel_rfl)) (fun _ _ _ h => h) (Or.inl ⟨by rfl, ?_⟩) hHeld ?_ ?_
  rotate_left
  ·rintro w' ⟨s0, s1, s2, s3⟩
   go_simp
   with_reducible rfl
  rotate_left
  ·simp only [Act.put, List.setIfInBounds_toArray, List.set_cons_zero, List.set_cons_succ, i64_w, i32_w]
   rfl
  refine pure_ (i := 9) (N := some 40) (v := ?_) (a' := ?_) #[true, true, true, true, true, true, true, true, true, true, false, false, false, false, false, false, false, true, false, false, false, false, false, false, false, false] rfl rfl (any_of HT_.out (by kernel_rfl)) (fun _ _ _ h => h) (Or.inl ⟨by rfl, ?_⟩) ?_ ?_
  rotate_left
  ·intro w'
   go_simp
   with_reducible rfl
  rotate_left
  ·simp only [Act.put, List.setIfInBounds_toArray, List.set_cons_zero, List.set_cons_succ, i64_w, i32_w]
   rfl
  refine pure_ (i := 10) (N := some 41) (v := ?_) (a' := ?_) #[true, true, true, true, true, true, true, true, true, true, true, false, false, false, false, false, false, true, false, false, false, false, false, false, false, false] rfl rfl (any_of HT_.out (by kernel_rfl)) (fun _ _ _ h => h) (Or.inl ⟨by rfl, ?_⟩) ?_ ?_
  rotate_left
  ·intro w'
   go_simp
   with_reducible rfl
  rotate_left
  ·simp only [Act.put, List.setIfInBounds_toArray, List.set_cons_zero, List.set_cons_succ, i64_w, i32_w]
   rfl
  refine take_ (i := 11) (N := some 42) (v := ?_) (a' := ?_) #[true, true, true, true, true, true, true, true, true, true, true, true, false, false, false, false, false, true, false, false, false, false, false, false, false, false] rfl rfl (take_ofW HT_.out HW_.out (by kernel_rfl)) (fun _ _ _ h => h) (Or.inl ⟨by rfl, ?_⟩) hHeld ?_ ?_
  rotate_left
  ·rintro w' ⟨s0, s1, s2, s3⟩
   go_simp
   with_reducible rfl
  rotate_left
  ·simp only [Act.put, List.setIfInBounds_toArray, List.set_cons_zero, List.set_cons_succ, i64_w, i32_w]
   rfl
  refine pure_ (i := 12) (N := some 43) (v := ?_) (a' := ?_) #[true, true, true, true, true, true, true, true, true, true, true, true, true, false, false, false, false, true, false, false, false, false, false, false, false, false] rfl rfl (any_of HT_.out (by kernel_rfl)) (fun _ _ _ h => h) (Or.inl ⟨by rfl, ?_⟩) ?_ ?_
  rotate_left
  ·intro w'
   go_simp
   with_reducible rfl
  rotate_left
  ·simp only [Act.put, List.setIfInBounds_toArray, List.set_cons_zero, List.set_cons_succ, i64_w, i32_w]
   rfl
  refine take_ (i := 13) (N := some 44) (v := ?_) (a' := ?_) #[true, true, true, true, true, true, true, true, true, true, true, true, true, true, false, false, false, true, false, false, false, false, false, false, false, false] rfl rfl (take_ofW HT_.out HW_.out (by kernel_rfl)) (fun _ _ _ h => h) (Or.inl ⟨by rfl, ?_⟩) hHeld ?_ ?_
  rotate_left
  ·rintro w' ⟨s0, s1, s2, s3⟩
   go_simp
   with_reducible rfl
  rotate_left
  ·simp only [Act.put, List.setIfInBounds_toArray, List.set_cons_zero, List.set_cons_succ, i64_w, i32_w]
   rfl
  refine pure_ (i := 14) (N := some 45) (v := ?_) (a' := ?_) #[true, true, true, true, true, true, true, true, true, true, true, true, true, true, true, false, false, true, false, false, false, false, false, false, false, false] rfl rfl (any_of HT_.out (by kernel_rfl)) (fun _ _ _ h => h) (Or.inl ⟨by rfl, ?_⟩) ?_ ?_
  rotate_left
  ·intro w'
   go_simp
   with_reducible rfl
  rotate_left
  ·simp only [Act.put, List.setIfInBounds_toArray, List.set_cons_zero, List.set_cons_succ, i64_w, i32_w]
   rfl
  refine pure_ (i := 15) (N := some 46) (v := ?_) (a' := ?_) #[true, true, true, true, true, true, true, true, true, true, true, true, true, true, true, true, false, true, false, false, false, false, false, false, false, false] rfl rfl (any_of HT_.out (by kernel_rfl)) (fun _ _ _ h => h) (Or.inl ⟨by rfl, ?_⟩) ?_ ?_
  rotate_left
  ·intro w'
   go_simp
   with_reducible rfl
  rotate_left
  ·simp only [Act.put, List.setIfInBounds_toArray, List.set_cons_zero, List.set_cons_succ, i64_w, i32_w]
   rfl
  refine take_ (i := 16) (N := some 47) (v := ?_) (a' := ?_) #[true, true, true, true, true, true, true, true, true, true, true, true, true, true, true, true, true, true, false, false, false, false, false, false, false, false] rfl rfl (take_ofW HT_.out HW_.out (by kernel_rfl)) (fun _ _ _ h => h) (Or.inl ⟨by rfl, ?_⟩) hHeld ?_ ?_
  rotate_left
  ·rintro w' ⟨s0, s1, s2, s3⟩
   go_simp
   with_reducible rfl
  rotate_left
  ·simp only [Act.put, List.setIfInBounds_toArray, List.set_cons_zero, List.set_cons_succ, i64_w, i32_w]
   rfl
  refine one_ (i := 18) (N := some 49) #[true, true, true, true, true, true, true, true, true, true, true, true, true, true, true, true, true, true, true, false, false, false, false, false, false, false] rfl rfl (one_of HT_.out (by kernel_rfl)) (by decide) (fun K hK => ?_)
  have hmk := HMK.out wr.drew
  refine value_ (v := .slice (some ⟨wr.heap.size, 0, none⟩) n n) (w1 := (wr.drew.alloc (.cells (madeCells #[.int .u8 0] n) 5))) (by rfl) rfl (by first | (go_simp; done) | (go_simp; rfl) | exact hmk) ?_
  refine hK.out _ _ ⟨((World.cell?_alloc_lt wr.drew (.cells (madeCells #[.int .u8 0] n) 5) _ (World.block_lt_of_cell? wr _ (kR))).trans (kR)), ((World.cell?_alloc_lt wr.drew (.cells (madeCells #[.int .u8 0] n) 5) _ (World.block_lt_of_cell? wr _ (kD))).trans (kD)), ((World.cell?_alloc_lt wr.drew (.cells (madeCells #[.int .u8 0] n) 5) _ (World.block_lt_of_cell? wr _ (kA))).trans (kA)), ((World.cell?_alloc_lt wr.drew (.cells (madeCells #[.int .u8 0] n) 5) _ (World.block_lt_of_cell? wr _ (kC))).trans (kC))⟩ (fun hHeld => ?_)
  clear hK K
  refine norm_ (a' := ?_) ?_ ?_
  rotate_left
  ·show Act.put _ (some 49) _ = _
   simp only [Act.put, List.setIfInBounds_toArray, List.set_cons_zero, List.set_cons_succ, i64_w, i32_w]
   rfl
  refine one_ (i := 19) (N := some 50) #[true, true, true, true, true, true, true, true, true, true, true, true, true, true, true, true, true, true, true, true, false, false, false, false, false, false] rfl rfl (one_of HT_.out (by kernel_rfl)) (by decide) (fun K hK => ?_)
  have hcv := own_string (P := Try.prog) Try.underlying68 Try.underlying5 Try.underlying9 (own_made wr.drew 0 5 .u8 n (Nat.zero_le _) (by omega))
  have hcv2 : Sem.run Try.prog (convert 68 9 (.slice (some ⟨wr.heap.size, 0, none⟩) n n)) (wr.alloc (.cells (madeCells #[.int .u8 0] n) 5)).drew = Result.ok (.string (zerosB n)) (wr.alloc (.cells (madeCells #[.int .u8 0] n) 5)).drew := hcv
  refine value_ (v := .string (zerosB n)) (w1 := (wr.drew.alloc (.cells (madeCells #[.int .u8 0] n) 5))) (by rfl) rfl (by go_simp; first | done | (rw [hcv2]; rfl)) ?_
  refine hK.out _ _ hHeld (fun hHeld => ?_)
  clear hK K
  refine norm_ (a' := ?_) ?_ ?_
  rotate_left
  ·show Act.put _ (some 50) _ = _
   simp only [Act.put, List.setIfInBounds_toArray, List.set_cons_zero, List.set_cons_succ, i64_w, i32_w]
   rfl
  refine take_ (i := 20) (N := some 51) (v := ?_) (a' := ?_) #[true, true, true, true, true, true, true, true, true, true, true, true, true, true, true, true, true, true, true, true, true, false, false, false, false, false] rfl rfl (take_ofW HT_.out HW_.out (by kernel_rfl)) (fun _ _ _ h => h) (Or.inl ⟨by rfl, ?_⟩) hHeld ?_ ?_
  rotate_left
  ·rintro w' ⟨s0, s1, s2, s3⟩
   go_simp
   with_reducible rfl
  rotate_left
  ·simp only [Act.put, List.setIfInBounds_toArray, List.set_cons_zero, List.set_cons_succ, i64_w, i32_w]
   rfl
  refine one_ (i := 21) (N := some 52) #[true, true, true, true, true, true, true, true, true, true, true, true, true, true, true, true, true, true, true, true, true, true, false, false, false, false] rfl rfl (one_of HT_.out (by kernel_rfl)) (by decide) (fun K hK => ?_)
  refine value_ (w1 := ?_) (v := ?_) (by rfl) rfl ?_ ?_
  rotate_left 2
  ·go_simp
   constructor
   ·rfl
   ·rfl
  refine hK.out _ _ ⟨((World.cell?_alloc_lt (wr.drew.alloc (.cells (madeCells #[.int .u8 0] n) 5)) _ _ (Nat.lt_trans (World.block_lt_of_cell? wr _ (kR)) (by simp))).trans ((World.cell?_alloc_lt wr.drew (.cells (madeCells #[.int .u8 0] n) 5) _ (World.block_lt_of_cell? wr _ (kR))).trans (kR))), ((World.cell?_alloc_lt (wr.drew.alloc (.cells (madeCells #[.int .u8 0] n) 5)) _ _ (Nat.lt_trans (World.block_lt_of_cell? wr _ (kD)) (by simp))).trans ((World.cell?_alloc_lt wr.drew (.cells (madeCells #[.int .u8 0] n) 5) _ (World.block_lt_of_cell? wr _ (kD))).trans (kD))), ((World.cell?_alloc_lt (wr.drew.alloc (.cells (madeCells #[.int .u8 0] n) 5)) _ _ (Nat.lt_trans (World.block_lt_of_cell? wr _ (kA)) (by simp))).trans ((World.cell?_alloc_lt wr.drew (.cells (madeCells #[.int .u8 0] n) 5) _ (World.block_lt_of_cell? wr _ (kA))).trans (kA))), ((World.cell?_alloc_lt (wr.drew.alloc (.cells (madeCells #[.int .u8 0] n) 5)) _ _ (Nat.lt_trans (World.block_lt_of_cell? wr _ (kC)) (by simp))).trans ((World.cell?_alloc_lt wr.drew (.cells (madeCells #[.int .u8 0] n) 5) _ (World.block_lt_of_cell? wr _ (kC))).trans (kC)))⟩ (fun hHeld => ?_)
  clear hK K
  refine norm_ (a' := ?_) ?_ ?_
  rotate_left
  ·show Act.put _ (some 52) _ = _
   simp only [Act.put, List.setIfInBounds_toArray, List.set_cons_zero, List.set_cons_succ, i64_w, i32_w]
   rfl
  refine one_ (i := 22) (N := some 53) #[true, true, true, true, true, true, true, true, true, true, true, true, true, true, true, true, true, true, true, true, true, true, true, false, false, false] rfl rfl (one_of HT_.out (by kernel_rfl)) (by decide) (fun K hK => ?_)
  refine Kd.R_append_step k61 (w0 := wr) (W := (wr.drew.alloc (.cells (madeCells #[.int .u8 0] n) 5))) w.heap.size (by rfl) (.tmp 47) (.tmp 52) 62 61 (.agg #[.int .i64 0, .string ⟨#[]⟩, .int .i64 0, .int .i64 0]) 40 rfl Try.underlying62 (by kernel_rfl) rfl (by decide) (by decide) (.slice AI i cI) (List.replicate i (longIt n)) (longIt n) [.int .i64 1, .string (zerosB n), .int .i64 0, .int .i64 0] (fun _ => True) (fun _ => False) (by first | rfl | (simp; done) | (simp [List.length_replicate]; rfl)) (by first | rfl | (simp; rfl)) (k61_mkM _ _ _ (longIt n)) (fun _ hk => hk.elim) (fun _ _ => trivial) (Kd.R_below HI2.out (below_alloc_ (pw_below_drewN (Below.refl wr.heap.size wr) 1) (Nat.le_refl _) _)) (below_alloc_ (Below.refl wr.heap.size wr).drew (Nat.le_refl _) _ |>.mono hsz1) (by simp; omega) (by simp; omega) ?_
  intro v1 w2 hown hb2 hgr hat
  obtain ⟨A1, c1, rfl⟩ := Kd.R_slice hown
  simp only [List.length_append, List.length_singleton, List.length_replicate] at hown hat
  have q0 := hgr.cell ((World.cell?_alloc_lt wr.drew (.cells (madeCells #[.int .u8 0] n) 5) _ (World.block_lt_of_cell? wr _ (kR))).trans (kR)) (fun e => Tb.ne ⟨_, HR.out⟩ (HI.out _ e.symm) (by decide) rfl)
  have q1 := hgr.cell ((World.cell?_alloc_lt wr.drew (.cells (madeCells #[.int .u8 0] n) 5) _ (World.block_lt_of_cell? wr _ (kD))).trans (kD)) (fun e => Tb.ne TD.out (HI.out _ e.symm) (by decide) rfl)
  have q2 := hgr.cell ((World.cell?_alloc_lt wr.drew (.cells (madeCells #[.int .u8 0] n) 5) _ (World.block_lt_of_cell? wr _ (kA))).trans (kA)) (fun e => Tb.ne TA_.out (HI.out _ e.symm) (by decide) rfl)
  have q3 := hgr.cell ((World.cell?_alloc_lt wr.drew (.cells (madeCells #[.int .u8 0] n) 5) _ (World.block_lt_of_cell? wr _ (kC))).trans (kC)) (fun e => Tb.ne TC.out (HI.out _ e.symm) (by decide) rfl)
  have fC2 : w2.frozen? ⟨gC, 1, none⟩ = false := by
    obtain ⟨c, hc⟩ := TC.out
    exact blk_frozen ((hgr.block gC (Nat.lt_trans (blk_lt hc) (by simp)) (fun e => Tb.ne ⟨c, hc⟩ (HI.out gC e.symm) (by decide) rfl)).trans ((Below.heap_alloc wr.drew _ gC (blk_lt hc)).trans hc)) 1
  have HP := Aside0.mk (And.intro hown (And.intro hb2 (And.intro hgr hat)))
  clear hown hb2 hgr hat
  refine hK.out _ _ ⟨q0, q1, q2, q3⟩ (fun hHeld => ?_)
  clear hK K
  refine norm_ (a' := ?_) ?_ ?_
  rotate_left
  ·show Act.put _ (some 53) _ = _
   simp only [Act.put, List.setIfInBounds_toArray, List.set_cons_zero, List.set_cons_succ, i64_w, i32_w]
   rfl
  refine pure_ (i := 23) (N := some 54) (v := ?_) (a' := ?_) #[true, true, true, true, true, true, true, true, true, true, true, true, true, true, true, true, true, true, true, true, true, true, true, true, false, false] rfl rfl (any_of HT_.out (by kernel_rfl)) (fun _ _ _ h => h) (Or.inl ⟨by rfl, ?_⟩) ?_ ?_
  rotate_left
  ·intro w'
   go_simp
   with_reducible rfl
  rotate_left
  ·simp only [Act.put, List.setIfInBounds_toArray, List.set_cons_zero, List.set_cons_succ, i64_w, i32_w]
   rfl
  refine pure_ (i := 24) (N := some 55) (v := ?_) (a' := ?_) #[true, true, true, true, true, true, true, true, true, true, true, true, true, true, true, true, true, true, true, true, true, true, true, true, true, false] rfl rfl (any_of HT_.out (by kernel_rfl)) (fun _ _ _ h => h) (Or.inl ⟨by rfl, ?_⟩) ?_ ?_
  rotate_left
  ·intro w'
   go_simp
   with_reducible rfl
  rotate_left
  ·simp only [Act.put, List.setIfInBounds_toArray, List.set_cons_zero, List.set_cons_succ, i64_w, i32_w]
   rfl
  refine last_ (i := 25) (N := none) #[true, true, true, true, true, true, true, true, true, true, true, true, true, true, true, true, true, true, true, true, true, true, true, true, true, true] rfl rfl (one_of HT_.out (by kernel_rfl)) (by decide) (fun K hK => ?_)
  have q0 := hHeld.1
  refine skip_ (w1 := ?_) (by rfl) rfl ?_ ?_
  rotate_left
  ·go_simp
   rfl
  refine hK.out _ _ ?_
  clear hK K
  refine done_ (done_of HT_.out (by kernel_rfl)) ?_
  obtain ⟨hown, hb2, hgr, hat⟩ := HP.out
  have wz := Aside0.mk (zip_item (W := wr.drew.alloc (.cells (madeCells #[.int .u8 0] n) 5)) (H1.out.below (below_alloc_ (pw_below_drewN (Below.refl wr.heap.size wr) 1) (Nat.le_refl _) _)) (H2.out.below (below_alloc_ (pw_below_drewN (Below.refl wr.heap.size wr) 1) (Nat.le_refl _) _)) (H3.out.below (below_alloc_ (pw_below_drewN (Below.refl wr.heap.size wr) 1) (Nat.le_refl _) _)) (Kd.R_below HI2.out (below_alloc_ (pw_below_drewN (Below.refl wr.heap.size wr) 1) (Nat.le_refl _) _)) HB'_.out HB_.out rfl hgr hat hown)
  have HB3 := Aside0.mk ((hb.out.trans hb2).setCell (p := ⟨gC, 1, none⟩) bC (.slice A1 (i + 1) c1))
  have old : ∀ (t k : Nat), t ≠ 61 ∧ t ≠ 64 → Tb wr t k → (w2.setCell ⟨gC, 1, none⟩ (.slice A1 (i + 1) c1)).heap[k]? = wr.heap[k]? := fun t k ht hk =>
   (Below.heap_setCell w2 ⟨gC, 1, none⟩ _ k (hk.ne TC.out ht.2)).trans ((hgr.block k (Nat.lt_trans hk.lt (by simp)) (fun e => Tb.ne hk (HI.out k e.symm) ht.1 rfl)).trans (Below.heap_alloc wr.drew _ k hk.lt))
  have HR3 := Aside0.mk ((old 25 rv (by decide) ⟨_, HR.out⟩).trans HR.out)
  have HS3 : Aside0 (Kd.R Kd.string 9 (w2.setCell ⟨gC, 1, none⟩ (.slice A1 (i + 1) c1)) w.heap.size (fun _ => True) (.slice (some ⟨s0, 0, none⟩) 1 1) [(⟨#[83]⟩ : ByteArray)]) := ⟨Kd.R_mono (Kd.R_step (Kd.R_bound hS.out) (fun k hk hlt => by
   obtain ⟨_, _, _, q', hq', hc⟩ := hk
   have : q' = 9 := by simpa [Kd.string, Kd.scalar] using hq'
   subst this
   exact old 9 k (by decide) hc)) (fun _ _ => trivial)⟩
  have HZ3 : Aside0 (Dz (w2.setCell ⟨gC, 1, none⟩ (.slice A1 (i + 1) c1)) w.heap.size (.slice (some ⟨gD, 0, none⟩) 1 1) (longRaw n (i + 1))) := ⟨by
   have := wz.out
   unfold longRaw
   rw [List.replicate_succ']
   exact this⟩
  clear HP hown hb2 hgr hat old wz HT_ HW_
  generalize w2.setCell ⟨gC, 1, none⟩ (.slice A1 (i + 1) c1) = w3 at *
  go_wp2
  go_roundw
  case rel => exact ⟨i + 1, by omega, by go_num, HR3, HS3, HZ3, HB3⟩
  case measure => simp [intOf]; omega


end Go.Proofs.Ytdjnpgigdchfkaa.PBL
