/- Layer 4, plain: what the document's Build answers is what the program's does (Builds). -/
import Derived.Test.YtdjnpgigdchfkaaL4Build
import Derived.Test.YtdjnpgigdchfkaaPBSx12
namespace Go.Proofs.Ytdjnpgigdchfkaa.PBS
open Go.RowKit Go.Proofs.YtdjnpgigdchfkaaW.PrintWords Go.Proofs.YtdjnpgigdchfkaaW.PrintLast
set_option linter.unusedVariables false
set_option linter.unusedSimpArgs false
theorem find_lt (s : ByteArray) (l : List ByteArray) : findB s l 0 < 0 ↔ s ∉ l := by
  by_cases h : s ∈ l
  · obtain ⟨j, hj, e, _⟩ := findB_get s l 0 h
    rw [e]
    exact ⟨fun h2 => by omega, fun h2 => absurd h h2⟩
  · have := findB_mem s l 0
    have e : findB s l 0 = -1 := by
      by_cases e : findB s l 0 = -1
      · exact e
      · exact absurd (this.1 e) h
    rw [e]
    exact ⟨fun _ => h, fun _ => by decide⟩
def askU (N : List ByteArray) (x : S61) : Bool := decide (x.f0 ≠ 0) || N.contains x.f1
theorem askU_eq (N : List ByteArray) : askN (numMi 0 N) = askU N := by
  funext x
  unfold askN askU
  rw [mfind_isSome]
theorem askU_true {N : List ByteArray} {x : S61} : askU N x = true ↔ (x.f0 ≠ 0 ∨ x.f1 ∈ N) := by
  unfold askU
  rw [Bool.or_eq_true, contains_mem, decide_eq_true_eq]

theorem unk_l3 (N : List ByteArray) (hN : N.length ≤ 4611686018427387904) (l0 : List ByteArray) (l1 : List S45) (i : Nat) (hi : i < l1.length) (a b : Int) (its : List S61) (hl : its.length ≤ 1048576) (R : ByteArray × Bool) :
    ∀ d j : Nat, j + d = its.length → ((its.drop j).find? (fun x => !askU N x) = none → Ev (fun k => templeref1_unknown.l2 k N (i : Int) a (wrap64 (b + 1)) l0 l1) R) → (∀ x, (its.drop j).find? (fun x => !askU N x) = some x → R = (x.f1, true)) →
      Ev (fun k => templeref1_unknown.l3 k N (i : Int) a b its (j : Int) l0 l1) R := by
  intro d
  induction d with
  | zero =>
    intro j hj h1 h2
    refine Ev.step (fun k => ?_) (h1 (by rw [show its.drop j = [] from List.drop_eq_nil_iff.2 (by omega)]; rfl))
    simp only [templeref1_unknown.l3]
    rw [if_neg (by omega)]
  | succ d ih =>
    intro j hj h1 h2
    have hlt : j < its.length := by omega
    rw [List.drop_eq_getElem_cons hlt] at h1 h2
    have e := rd_item its j hlt
    cases hb : askU N its[j] with
    | true =>
      have hn := ih (j + 1) (by omega) (fun h => h1 (by rw [List.find?_cons, hb]; exact h)) (fun x h => h2 x (by rw [List.find?_cons, hb]; exact h))
      by_cases h0 : its[j].f0 = 0
      · have hf : ¬ findB its[j].f1 N 0 < 0 := by
          rw [find_lt]
          intro hm
          exact (askU_true.1 hb).elim (fun h => h h0) hm
        refine Ev.step (fun k => ?_) (Ev.bind (f := fun k t => if t < 0 then some (its[j].f1, true) else templeref1_unknown.l3 k N (i : Int) a b its ((j + 1 : Nat) : Int) l0 l1) (ref_find N hN its[j].f1) (Ev.congr (fun k => if_neg hf) hn))
        simp only [templeref1_unknown.l3]
        rw [e, if_pos (by omega), if_pos (by omega), if_pos h0, wrap_nat j (by omega)]
      · refine Ev.step (fun k => ?_) hn
        simp only [templeref1_unknown.l3]
        rw [e, if_pos (by omega), if_pos (by omega), if_neg h0, wrap_nat j (by omega)]
    | false =>
      rw [h2 its[j] (by rw [List.find?_cons, hb]; rfl)]
      have hb2 : ¬ (its[j].f0 ≠ 0 ∨ its[j].f1 ∈ N) := fun h => by rw [askU_true.2 h] at hb; cases hb
      have h0 : its[j].f0 = 0 := Decidable.byContradiction (fun h => hb2 (.inl h))
      have hf : findB its[j].f1 N 0 < 0 := (find_lt _ _).2 (fun h => hb2 (.inr h))
      refine Ev.step (fun k => ?_) (Ev.bind (f := fun k t => if t < 0 then some (its[j].f1, true) else templeref1_unknown.l3 k N (i : Int) a b its ((j + 1 : Nat) : Int) l0 l1) (ref_find N hN its[j].f1) (Ev.congr (fun k => if_pos hf) (Ev.now _)))
      simp only [templeref1_unknown.l3]
      rw [e, if_pos (by omega), if_pos (by omega), if_pos h0, wrap_nat j (by omega)]
theorem unk_l2 (N : List ByteArray) (hN : N.length ≤ 4611686018427387904) (l0 : List ByteArray) (l1 : List S45) (i : Nat) (hi : i < l1.length) (a : Nat) (ha : a < l1[i].f1.length) (hl : l1[i].f1[a].length ≤ 1048576) (hc : ∀ c ∈ l1[i].f1[a], c.f1.length ≤ 1048576) (R : ByteArray × Bool) :
    ∀ d j : Nat, j + d = l1[i].f1[a].length → ((l1[i].f1[a].drop j).findSome? (fun c => c.f1.find? (fun x => !askU N x)) = none → Ev (fun k => templeref1_unknown.l1 k N (i : Int) (wrap64 ((a : Int) + 1)) l0 l1) R) → (∀ x, (l1[i].f1[a].drop j).findSome? (fun c => c.f1.find? (fun x => !askU N x)) = some x → R = (x.f1, true)) →
      Ev (fun k => templeref1_unknown.l2 k N (i : Int) (a : Int) (j : Int) l0 l1) R := by
  have e1 := rd_def l1 i hi
  have e2 := rd_alt l1[i].f1 a ha
  intro d
  induction d with
  | zero =>
    intro j hj h1 h2
    refine Ev.step (fun k => ?_) (h1 (by rw [show l1[i].f1[a].drop j = [] from List.drop_eq_nil_iff.2 (by omega)]; rfl))
    simp only [templeref1_unknown.l2]
    rw [e1, e2, if_pos (by omega), if_pos (by omega), if_pos (by omega), if_pos (by omega), if_neg (by omega)]
  | succ d ih =>
    intro j hj h1 h2
    have hlt : j < l1[i].f1[a].length := by omega
    rw [List.drop_eq_getElem_cons hlt, List.findSome?_cons] at h1 h2
    refine Ev.step (fun k => ?_) (unk_l3 N hN l0 l1 i hi (a : Int) (j : Int) l1[i].f1[a][j].f1 (hc _ (List.getElem_mem hlt)) R l1[i].f1[a][j].f1.length 0 (by omega) (fun h => ?_) (fun x h => h2 x (by rw [List.drop_zero] at h; rw [h])))
    · simp only [templeref1_unknown.l2]
      rw [e1, e2, if_pos (by omega), if_pos (by omega), if_pos (by omega), if_pos (by omega), if_pos (by omega), if_pos (by omega), rd_rconj _ j hlt]
      rfl
    · rw [List.drop_zero] at h
      rw [h] at h1 h2
      rw [wrap_nat j (by omega)]
      exact ih (j + 1) (by omega) h1 h2
theorem unk_l1 (N : List ByteArray) (hN : N.length ≤ 4611686018427387904) (l0 : List ByteArray) (l1 : List S45) (i : Nat) (hi : i < l1.length) (hl : l1[i].f1.length ≤ 1048576) (ha : ∀ a ∈ l1[i].f1, a.length ≤ 1048576 ∧ ∀ c ∈ a, c.f1.length ≤ 1048576) (R : ByteArray × Bool) :
    ∀ d j : Nat, j + d = l1[i].f1.length → ((l1[i].f1.drop j).findSome? (fun a => a.findSome? (fun c => c.f1.find? (fun x => !askU N x))) = none → Ev (fun k => templeref1_unknown.l0 k N (wrap64 ((i : Int) + 1)) l0 l1) R) → (∀ x, (l1[i].f1.drop j).findSome? (fun a => a.findSome? (fun c => c.f1.find? (fun x => !askU N x))) = some x → R = (x.f1, true)) →
      Ev (fun k => templeref1_unknown.l1 k N (i : Int) (j : Int) l0 l1) R := by
  have e1 := rd_def l1 i hi
  intro d
  induction d with
  | zero =>
    intro j hj h1 h2
    refine Ev.step (fun k => ?_) (h1 (by rw [show l1[i].f1.drop j = [] from List.drop_eq_nil_iff.2 (by omega)]; rfl))
    simp only [templeref1_unknown.l1]
    rw [e1, if_pos (by omega), if_pos (by omega), if_neg (by omega)]
  | succ d ih =>
    intro j hj h1 h2
    have hlt : j < l1[i].f1.length := by omega
    rw [List.drop_eq_getElem_cons hlt, List.findSome?_cons] at h1 h2
    obtain ⟨a0, a1⟩ := ha _ (List.getElem_mem hlt)
    refine Ev.step (fun k => ?_) (unk_l2 N hN l0 l1 i hi j hlt a0 a1 R l1[i].f1[j].length 0 (by omega) (fun h => ?_) (fun x h => h2 x (by rw [List.drop_zero] at h; rw [h])))
    · simp only [templeref1_unknown.l1]
      rw [e1, if_pos (by omega), if_pos (by omega), if_pos (by omega)]
      rfl
    · rw [List.drop_zero] at h
      rw [h] at h1 h2
      rw [wrap_nat j (by omega)]
      exact ih (j + 1) (by omega) h1 h2

theorem hol_l3 (l0 : List ByteArray) (l1 : List S45) (i : Nat) (hi : i < l1.length) (a b : Int) (its : List S61) (hl : its.length ≤ 1048576) (R : ByteArray × Bool) :
    ∀ d j : Nat, j + d = its.length → ((its.drop j).find? (fun x => !askR x) = none → Ev (fun k => templeref1_hollow.l2 k (i : Int) a (wrap64 (b + 1)) l0 l1) R) → (∀ x, (its.drop j).find? (fun x => !askR x) = some x → R = (l1[i].f0, true)) →
      Ev (fun k => templeref1_hollow.l3 k (i : Int) a b its (j : Int) l0 l1) R := by
  intro d
  induction d with
  | zero =>
    intro j hj h1 h2
    refine Ev.step (fun k => ?_) (h1 (by rw [show its.drop j = [] from List.drop_eq_nil_iff.2 (by omega)]; rfl))
    simp only [templeref1_hollow.l3]
    rw [if_neg (by omega)]
  | succ d ih =>
    intro j hj h1 h2
    have hlt : j < its.length := by omega
    rw [List.drop_eq_getElem_cons hlt] at h1 h2
    have e := rd_item its j hlt
    cases hb : askR its[j] with
    | true =>
      have hn := ih (j + 1) (by omega) (fun h => h1 (by rw [List.find?_cons, hb]; exact h)) (fun x h => h2 x (by rw [List.find?_cons, hb]; exact h))
      unfold askR at hb
      refine Ev.step (fun k => ?_) hn
      simp only [templeref1_hollow.l3]
      rw [e, if_pos (by omega), if_pos (by omega), wrap_nat j (by omega)]
      by_cases h2_ : its[j].f0 = 2
      · rw [if_pos h2_, if_neg (by simp [h2_] at hb; omega)]
      · rw [if_neg h2_]
    | false =>
      rw [h2 its[j] (by rw [List.find?_cons, hb]; rfl)]
      unfold askR at hb
      simp at hb
      refine Ev.step (f := fun _ => some (l1[i].f0, true)) (fun k => ?_) (Ev.now _)
      simp only [templeref1_hollow.l3]
      rw [e, if_pos (by omega), if_pos (by omega), if_pos hb.1, if_pos (by omega), if_pos (by omega), if_pos (by omega), rd_def l1 i hi]
theorem hol_l2 (l0 : List ByteArray) (l1 : List S45) (i : Nat) (hi : i < l1.length) (a : Nat) (ha : a < l1[i].f1.length) (hl : l1[i].f1[a].length ≤ 1048576) (hc : ∀ c ∈ l1[i].f1[a], c.f1.length ≤ 1048576) (R : ByteArray × Bool) :
    ∀ d j : Nat, j + d = l1[i].f1[a].length → ((l1[i].f1[a].drop j).findSome? (fun c => c.f1.find? (fun x => !askR x)) = none → Ev (fun k => templeref1_hollow.l1 k (i : Int) (wrap64 ((a : Int) + 1)) l0 l1) R) → (∀ x, (l1[i].f1[a].drop j).findSome? (fun c => c.f1.find? (fun x => !askR x)) = some x → R = (l1[i].f0, true)) →
      Ev (fun k => templeref1_hollow.l2 k (i : Int) (a : Int) (j : Int) l0 l1) R := by
  have e1 := rd_def l1 i hi
  have e2 := rd_alt l1[i].f1 a ha
  intro d
  induction d with
  | zero =>
    intro j hj h1 h2
    refine Ev.step (fun k => ?_) (h1 (by rw [show l1[i].f1[a].drop j = [] from List.drop_eq_nil_iff.2 (by omega)]; rfl))
    simp only [templeref1_hollow.l2]
    rw [e1, e2, if_pos (by omega), if_pos (by omega), if_pos (by omega), if_pos (by omega), if_neg (by omega)]
  | succ d ih =>
    intro j hj h1 h2
    have hlt : j < l1[i].f1[a].length := by omega
    rw [List.drop_eq_getElem_cons hlt, List.findSome?_cons] at h1 h2
    refine Ev.step (fun k => ?_) (hol_l3 l0 l1 i hi (a : Int) (j : Int) l1[i].f1[a][j].f1 (hc _ (List.getElem_mem hlt)) R l1[i].f1[a][j].f1.length 0 (by omega) (fun h => ?_) (fun x h => h2 x (by rw [List.drop_zero] at h; rw [h])))
    · simp only [templeref1_hollow.l2]
      rw [e1, e2, if_pos (by omega), if_pos (by omega), if_pos (by omega), if_pos (by omega), if_pos (by omega), if_pos (by omega), rd_rconj _ j hlt]
      rfl
    · rw [List.drop_zero] at h
      rw [h] at h1 h2
      rw [wrap_nat j (by omega)]
      exact ih (j + 1) (by omega) h1 h2
theorem hol_l1 (l0 : List ByteArray) (l1 : List S45) (i : Nat) (hi : i < l1.length) (hl : l1[i].f1.length ≤ 1048576) (ha : ∀ a ∈ l1[i].f1, a.length ≤ 1048576 ∧ ∀ c ∈ a, c.f1.length ≤ 1048576) (R : ByteArray × Bool) :
    ∀ d j : Nat, j + d = l1[i].f1.length → ((l1[i].f1.drop j).findSome? (fun a => a.findSome? (fun c => c.f1.find? (fun x => !askR x))) = none → Ev (fun k => templeref1_hollow.l0 k (wrap64 ((i : Int) + 1)) l0 l1) R) → (∀ x, (l1[i].f1.drop j).findSome? (fun a => a.findSome? (fun c => c.f1.find? (fun x => !askR x))) = some x → R = (l1[i].f0, true)) →
      Ev (fun k => templeref1_hollow.l1 k (i : Int) (j : Int) l0 l1) R := by
  have e1 := rd_def l1 i hi
  intro d
  induction d with
  | zero =>
    intro j hj h1 h2
    refine Ev.step (fun k => ?_) (h1 (by rw [show l1[i].f1.drop j = [] from List.drop_eq_nil_iff.2 (by omega)]; rfl))
    simp only [templeref1_hollow.l1]
    rw [e1, if_pos (by omega), if_pos (by omega), if_neg (by omega)]
  | succ d ih =>
    intro j hj h1 h2
    have hlt : j < l1[i].f1.length := by omega
    rw [List.drop_eq_getElem_cons hlt, List.findSome?_cons] at h1 h2
    obtain ⟨a0, a1⟩ := ha _ (List.getElem_mem hlt)
    refine Ev.step (fun k => ?_) (hol_l2 l0 l1 i hi j hlt a0 a1 R l1[i].f1[j].length 0 (by omega) (fun h => ?_) (fun x h => h2 x (by rw [List.drop_zero] at h; rw [h])))
    · simp only [templeref1_hollow.l1]
      rw [e1, if_pos (by omega), if_pos (by omega), if_pos (by omega)]
      rfl
    · rw [List.drop_zero] at h
      rw [h] at h1 h2
      rw [wrap_nat j (by omega)]
      exact ih (j + 1) (by omega) h1 h2
theorem empty_ba : rdOf ByteArray.empty ([] : List ByteArray) 0 = ByteArray.empty := rfl
/-- Each of the two answers' first part: what is unknown. -/
def unkL (N : List ByteArray) (l0 : List ByteArray) (l1 : List S45) : ByteArray × Bool :=
  if findB (rdOf ByteArray.empty l0 0) N 0 < 0 then (rdOf ByteArray.empty l0 0, true) else match badFrom (askU N) 0 l1 with
    | some q => (q.2.f1, true)
    | none => (⟨#[]⟩, false)
theorem unk_ev (N l0 : List ByteArray) (l1 : List S45) (hN : N.length ≤ 4611686018427387904) (h0 : 0 < l0.length) (hs : RawSmall l1) : Ev (fun k => templeref1_unknown.f k l0 l1 N) (unkL N l0 l1) := by
  have key : ∀ d i : Nat, i + d = l1.length → Ev (fun k => templeref1_unknown.l0 k N (i : Int) l0 l1) (match badFrom (askU N) i (l1.drop i) with | some q => (q.2.f1, true) | none => (⟨#[]⟩, false)) := by
    intro d
    induction d with
    | zero =>
      intro i hi
      rw [show l1.drop i = [] from List.drop_eq_nil_iff.2 (by omega)]
      refine Ev.step (f := fun _ => some (⟨#[]⟩, false)) (fun k => ?_) (Ev.now _)
      simp only [templeref1_unknown.l0]
      rw [if_neg (by omega)]
    | succ d ih =>
      intro i hi
      have hlt : i < l1.length := by omega
      have hm := List.getElem_mem hlt
      have hd := hs.defs
      have hle : l1[i].f1.length ≤ 1048576 := Nat.le_trans (le_sum_mem (List.mem_map_of_mem (f := fun d : S45 => d.f1.length) hm)) hs.rules
      rw [List.drop_eq_getElem_cons hlt]
      unfold badFrom
      refine Ev.step (fun k => ?_) (unk_l1 N hN l0 l1 i hlt hle (fun a ha => ⟨hs.conjs _ hm a ha, fun c hc => (hs.syms _ hm a ha c hc).1⟩) _ l1[i].f1.length 0 (by omega) (fun h => ?_) (fun x h => ?_))
      · simp only [templeref1_unknown.l0]
        rw [if_pos (by omega)]
        rfl
      · rw [List.drop_zero] at h
        rw [show badItem (askU N) l1[i] = none from h, wrap_nat i (by omega)]
        exact ih (i + 1) (by omega)
      · rw [List.drop_zero] at h
        rw [show badItem (askU N) l1[i] = some x from h]
  unfold unkL
  refine Ev.congr (f := fun k => (templeref1_find.f k N (rdOf ByteArray.empty l0 0)).bind fun t => if t < 0 then some (rdOf ByteArray.empty l0 0, true) else templeref1_unknown.l0 k N 0 l0 l1) (fun k => ?_) (Ev.bind (f := fun k t => if t < 0 then some (rdOf ByteArray.empty l0 0, true) else templeref1_unknown.l0 k N 0 l0 l1) (ref_find N hN _) ?_)
  · unfold templeref1_unknown.f
    rw [if_pos (by omega)]
  · by_cases h : findB (rdOf ByteArray.empty l0 0) N 0 < 0
    · simp only [if_pos h]
      exact Ev.now _
    · simp only [if_neg h]
      exact key l1.length 0 (by omega)
def holL (l1 : List S45) : ByteArray × Bool := match badFrom askR 0 l1 with
  | some q => ((rd_T45 l1 (q.1 : Int)).f0, true)
  | none => (⟨#[]⟩, false)
theorem hol_ev (l0 : List ByteArray) (l1 : List S45) (hs : RawSmall l1) : Ev (fun k => templeref1_hollow.f k l0 l1) (holL l1) := by
  have key : ∀ d i : Nat, i + d = l1.length → Ev (fun k => templeref1_hollow.l0 k (i : Int) l0 l1) (match badFrom askR i (l1.drop i) with | some q => ((rd_T45 l1 (q.1 : Int)).f0, true) | none => (⟨#[]⟩, false)) := by
    intro d
    induction d with
    | zero =>
      intro i hi
      rw [show l1.drop i = [] from List.drop_eq_nil_iff.2 (by omega)]
      refine Ev.step (f := fun _ => some (⟨#[]⟩, false)) (fun k => ?_) (Ev.now _)
      simp only [templeref1_hollow.l0]
      rw [if_neg (by omega)]
    | succ d ih =>
      intro i hi
      have hlt : i < l1.length := by omega
      have hm := List.getElem_mem hlt
      have hd := hs.defs
      have hle : l1[i].f1.length ≤ 1048576 := Nat.le_trans (le_sum_mem (List.mem_map_of_mem (f := fun d : S45 => d.f1.length) hm)) hs.rules
      rw [List.drop_eq_getElem_cons hlt]
      unfold badFrom
      refine Ev.step (fun k => ?_) (hol_l1 l0 l1 i hlt hle (fun a ha => ⟨hs.conjs _ hm a ha, fun c hc => (hs.syms _ hm a ha c hc).1⟩) _ l1[i].f1.length 0 (by omega) (fun h => ?_) (fun x h => ?_))
      · simp only [templeref1_hollow.l0]
        rw [if_pos (by omega)]
        rfl
      · rw [List.drop_zero] at h
        rw [show badItem askR l1[i] = none from h, wrap_nat i (by omega)]
        exact ih (i + 1) (by omega)
      · rw [List.drop_zero] at h
        rw [show badItem askR l1[i] = some x from h]
        dsimp only
        rw [rd_def l1 i hlt]
  exact Ev.congr (fun k => rfl) (key l1.length 0 (by omega))
/-! What the document makes of items: it stops where there are too many. -/
def symR (N : List ByteArray) (x : S61) : List S56 :=
  if x.f0 = 0 then [⟨findB x.f1 N 0, 0, 0⟩] else if x.f0 = 2 then [⟨-1, x.f2, x.f3⟩] else if x.f0 = 1 then (List.range x.f1.size).map (fun i : Nat => ⟨-1, bt x.f1 (i : Int), bt x.f1 (i : Int)⟩) else [⟨-2, 0, 0⟩]
def symT (N : List ByteArray) : List S61 → List S56 → List S56
  | [], out => out
  | x :: xs, out => if out.length ≤ 1024 then symT N xs (out ++ symR N x) else out
theorem syms_ev (N : List ByteArray) (hN : N.length ≤ 4611686018427387904) (its : List S61) (hl : its.length ≤ 1048576) (hz : ∀ x ∈ its, x.f1.size ≤ 1048576) : Ev (fun k => templeref1_symbols.f k its N) (symT N its []) := by
  have key : ∀ d j : Nat, j + d = its.length → ∀ out : List S56, out.length ≤ 2097152 → Ev (fun k => templeref1_symbols.l0 k its N out (j : Int)) (symT N (its.drop j) out) := by
    intro d
    induction d with
    | zero =>
      intro j hj out ho
      rw [show its.drop j = [] from List.drop_eq_nil_iff.2 (by omega)]
      refine Ev.step (f := fun k => templeref1_symbols.j1 k its N out (j : Int) false) (fun k => ?_) (Ev.step (f := fun _ => some out) (fun k => ?_) (Ev.now _))
      · simp only [templeref1_symbols.l0]
        rw [if_neg (by omega)]
      · simp only [templeref1_symbols.j1]
        rw [if_neg (by decide)]
    | succ d ih =>
      intro j hj out ho
      have hlt : j < its.length := by omega
      have e := rd_item its j hlt
      have hx := hz _ (List.getElem_mem hlt)
      rw [List.drop_eq_getElem_cons hlt]
      unfold symT
      by_cases h1 : out.length ≤ 1024
      case neg =>
        rw [if_neg h1]
        refine Ev.step (f := fun k => templeref1_symbols.j1 k its N out (j : Int) false) (fun k => ?_) (Ev.step (f := fun _ => some out) (fun k => ?_) (Ev.now _))
        · simp only [templeref1_symbols.l0]
          rw [if_pos (by omega), decide_eq_false (by omega)]
        · simp only [templeref1_symbols.j1]
          rw [if_neg (by decide)]
      rw [if_pos h1]
      refine Ev.step (f := fun k => templeref1_symbols.j1 k its N out (j : Int) true) (fun k => ?_) ?_
      · simp only [templeref1_symbols.l0]
        rw [if_pos (by omega), decide_eq_true (by omega)]
      unfold symR
      by_cases h0 : its[j].f0 = 0
      · rw [if_pos h0]
        refine Ev.step (fun k => ?_) (Ev.bind (f := fun k t => templeref1_symbols.l0 k its N (out ++ [⟨t, 0, 0⟩]) ((j + 1 : Nat) : Int)) (ref_find N hN its[j].f1) (ih (j + 1) (by omega) _ (by rw [List.length_append]; show out.length + 1 ≤ _; omega)))
        simp only [templeref1_symbols.j1]
        rw [if_pos trivial, e, if_pos (by omega), if_pos (by omega), if_pos h0, wrap_nat j (by omega)]
        congr 1
        funext t
        rw [if_pos (by omega)]
      rw [if_neg h0]
      by_cases h2 : its[j].f0 = 2
      · rw [if_pos h2]
        refine Ev.step (fun k => ?_) (ih (j + 1) (by omega) (out ++ [⟨-1, its[j].f2, its[j].f3⟩]) (by rw [List.length_append]; show out.length + 1 ≤ _; omega))
        simp only [templeref1_symbols.j1]
        rw [if_pos trivial, e, if_pos (by omega), if_pos (by omega), if_neg h0, if_pos h2, if_pos (by omega), wrap_nat j (by omega)]
      rw [if_neg h2]
      by_cases h3 : its[j].f0 = 1
      · rw [if_pos h3]
        refine Ev.step (fun k => ?_) (ev_down (l := fun k q => templeref1_symbols.l1 k its N (out ++ (List.range q).map (fun i : Nat => ⟨-1, bt its[j].f1 (i : Int), bt its[j].f1 (i : Int)⟩)) (j : Int) (q : Int) its[j].f0 its[j].f1 its[j].f2 its[j].f3) (n := its[j].f1.size) ?_ ?_ 0 (by omega))
        · simp only [templeref1_symbols.j1]
          rw [if_pos trivial, e, if_pos (by omega), if_pos (by omega), if_neg h0, if_neg h2, if_pos h3]
          simp
        · refine Ev.step (fun k => ?_) (ih (j + 1) (by omega) _ (by rw [List.length_append, List.length_map, List.length_range]; omega))
          simp only [templeref1_symbols.l1]
          rw [if_neg (by omega), wrap_nat j (by omega)]
        · intro q hq hn
          refine Ev.step (fun k => ?_) hn
          simp only [templeref1_symbols.l1]
          rw [if_pos (by omega), if_pos (by omega), if_pos (by rw [List.length_append, List.length_map, List.length_range]; omega), wrap_nat q (by omega), wrap_byte, range_snoc, List.append_assoc]
      · rw [if_neg h3]
        refine Ev.step (fun k => ?_) (ih (j + 1) (by omega) (out ++ [⟨-2, 0, 0⟩]) (by rw [List.length_append]; show out.length + 1 ≤ _; omega))
        simp only [templeref1_symbols.j1]
        rw [if_pos trivial, e, if_pos (by omega), if_pos (by omega), if_neg h0, if_neg h2, if_neg h3, if_pos (by omega), wrap_nat j (by omega)]
  exact Ev.congr (fun k => rfl) (key its.length 0 (by omega) [] (by simp))
theorem symT_short (N : List ByteArray) : ∀ (its : List S61) (out : List S56), (symT N its out).length ≤ 1024 → symT N its out = out ++ its.flatMap (symR N)
  | [], out, _ => by simp [symT]
  | x :: xs, out, h => by
    unfold symT at h ⊢
    by_cases h1 : out.length ≤ 1024
    · rw [if_pos h1] at h ⊢
      rw [symT_short N xs _ h, List.flatMap_cons, List.append_assoc]
    · rw [if_neg h1] at h
      exact absurd h h1
theorem symT_flat (N : List ByteArray) : ∀ (its : List S61) (out : List S56), (out ++ its.flatMap (symR N)).length ≤ 1024 → symT N its out = out ++ its.flatMap (symR N)
  | [], out, _ => by simp [symT]
  | x :: xs, out, h => by
    unfold symT
    rw [List.flatMap_cons, ← List.append_assoc] at h ⊢
    rw [if_pos (by rw [List.length_append, List.length_append] at h; omega)]
    exact symT_flat N xs _ h
def kindOk (x : S61) : Prop := x.f0 = 0 ∨ x.f0 = 1 ∨ x.f0 = 2
theorem sym_same {N : List ByteArray} {x : S61} (hk : kindOk x) (hn : x.f0 = 0 → x.f1 ∈ N) : symR N x = symsL (numMi 0 N) x := by
  unfold symR symsL
  rcases hk with h | h | h
  · rw [if_pos h, if_pos h]
    obtain ⟨j, hj, e, _⟩ := findB_get x.f1 N 0 (hn h)
    unfold mget
    rw [mfind_numMi, e, if_neg (by omega)]
    rfl
  · rw [if_neg (by omega), if_neg (by omega), if_pos h, if_neg (by omega), if_pos h]
  · rw [if_neg (by omega), if_pos h, if_neg (by omega), if_neg (by omega), if_pos h]
theorem flat_same {N : List ByteArray} : ∀ {its : List S61}, (∀ x ∈ its, kindOk x) → (∀ x ∈ its, x.f0 = 0 → x.f1 ∈ N) → its.flatMap (symR N) = its.flatMap (symsL (numMi 0 N))
  | [], _, _ => rfl
  | x :: xs, hk, hn => by
    rw [List.flatMap_cons, List.flatMap_cons, sym_same (hk x List.mem_cons_self) (hn x List.mem_cons_self), flat_same (fun y hy => hk y (List.mem_cons_of_mem _ hy)) (fun y hy => hn y (List.mem_cons_of_mem _ hy))]
theorem kind_R {N : List ByteArray} {n : Int} {its : List S61} (h : ∀ y ∈ its.flatMap (symR N), symB n y = true) : ∀ x ∈ its, kindOk x := by
  intro x hx
  by_cases h0 : x.f0 = 0
  · exact .inl h0
  by_cases h1 : x.f0 = 1
  · exact .inr (.inl h1)
  by_cases h2 : x.f0 = 2
  · exact .inr (.inr h2)
  have := h ⟨-2, 0, 0⟩ (List.mem_flatMap.2 ⟨x, hx, by unfold symR; rw [if_neg h0, if_neg h2, if_neg h1]; exact List.mem_singleton.2 rfl⟩)
  simp [symB] at this
theorem kind_L {m : MapP} {n : Int} {its : List S61} (h : ∀ y ∈ its.flatMap (symsL m), symB n y = true) : ∀ x ∈ its, kindOk x := by
  intro x hx
  by_cases h0 : x.f0 = 0
  · exact .inl h0
  by_cases h1 : x.f0 = 1
  · exact .inr (.inl h1)
  by_cases h2 : x.f0 = 2
  · exact .inr (.inr h2)
  have := h ⟨-1, -1, 0⟩ (List.mem_flatMap.2 ⟨x, hx, by unfold symsL; rw [if_neg h0, if_neg h1, if_neg h2]; exact List.mem_singleton.2 rfl⟩)
  simp [symB] at this
def conjR (N : List ByteArray) (c : S64) : S54 := ⟨c.f0, symT N c.f1 []⟩
theorem conj_same {N : List ByteArray} {n : Int} {c : S64} (hn : ∀ x ∈ c.f1, x.f0 = 0 → x.f1 ∈ N) (h : conjB n (conjR N c) = true ∨ conjB n (conjL (numMi 0 N) c) = true) : conjR N c = conjL (numMi 0 N) c := by
  unfold conjB conjR conjL at h
  unfold conjR conjL
  rcases h with h | h
  · rw [Bool.and_eq_true, decide_eq_true_eq, List.all_eq_true] at h
    dsimp only at h
    have e := symT_short N c.f1 [] (by omega)
    rw [List.nil_append] at e
    rw [e] at h ⊢
    rw [flat_same (kind_R h.2) hn]
  · rw [Bool.and_eq_true, decide_eq_true_eq, List.all_eq_true] at h
    dsimp only at h
    have hs := flat_same (N := N) (kind_L h.2) hn
    have e := symT_flat N c.f1 [] (by rw [List.nil_append, hs]; omega)
    rw [List.nil_append] at e
    rw [e, hs]
def altR (N : List ByteArray) (i : Nat) (a : List S64) : S51 := ⟨(i : Int), a.map (conjR N)⟩
def rulesR (N : List ByteArray) : Nat → List S45 → List S51
  | _, [] => []
  | i, d :: ds => d.f1.map (altR N i) ++ rulesR N (i + 1) ds
/-- The rules that the document makes: it stops where there are too many. -/
def rulesT (N : List ByteArray) : Nat → List S45 → List S51 → List S51
  | _, [], acc => acc
  | i, d :: ds, acc => if acc.length ≤ 256 then rulesT N (i + 1) ds (acc ++ d.f1.map (altR N i)) else acc
theorem rulesT_short (N : List ByteArray) : ∀ (ds : List S45) (i : Nat) (acc : List S51), (rulesT N i ds acc).length ≤ 256 → rulesT N i ds acc = acc ++ rulesR N i ds
  | [], i, acc, _ => by simp [rulesT, rulesR]
  | d :: ds, i, acc, h => by
    unfold rulesT at h ⊢
    by_cases h1 : acc.length ≤ 256
    · rw [if_pos h1] at h ⊢
      rw [rulesT_short N ds _ _ h, List.append_assoc]
      rfl
    · rw [if_neg h1] at h
      exact absurd h h1
theorem rulesT_flat (N : List ByteArray) : ∀ (ds : List S45) (i : Nat) (acc : List S51), (acc ++ rulesR N i ds).length ≤ 256 → rulesT N i ds acc = acc ++ rulesR N i ds
  | [], i, acc, _ => by simp [rulesT, rulesR]
  | d :: ds, i, acc, h => by
    unfold rulesT
    unfold rulesR at h ⊢
    rw [← List.append_assoc] at h ⊢
    rw [if_pos (by rw [List.length_append, List.length_append] at h; omega)]
    exact rulesT_flat N ds _ _ h
theorem rules_same {N : List ByteArray} : ∀ {ds : List S45} {i : Nat}, (∀ d ∈ ds, ∀ a ∈ d.f1, ∀ c ∈ a, conjR N c = conjL (numMi 0 N) c) → rulesR N i ds = rulesL (numMi 0 N) i ds
  | [], i, _ => rfl
  | d :: ds, i, h => by
    unfold rulesR rulesL
    rw [rules_same (fun e he => h e (List.mem_cons_of_mem _ he))]
    congr 1
    refine List.map_congr_left (fun a ha => ?_)
    unfold altR altL
    rw [List.map_congr_left (fun c hc => h d List.mem_cons_self a ha c hc)]
theorem mem_R {N : List ByteArray} : ∀ {ds : List S45} {i : Nat} {d : S45} {a : List S64}, d ∈ ds → a ∈ d.f1 → ∃ j, altR N j a ∈ rulesR N i ds
  | d' :: ds, i, d, a, h, ha => by
    unfold rulesR
    rcases List.mem_cons.1 h with rfl | h
    · exact ⟨i, List.mem_append_left _ (List.mem_map_of_mem ha)⟩
    · obtain ⟨j, hj⟩ := mem_R (i := i + 1) h ha
      exact ⟨j, List.mem_append_right _ hj⟩
theorem mem_L {m : MapP} : ∀ {ds : List S45} {i : Nat} {d : S45} {a : List S64}, d ∈ ds → a ∈ d.f1 → ∃ j, altL m j a ∈ rulesL m i ds
  | d' :: ds, i, d, a, h, ha => by
    unfold rulesL
    rcases List.mem_cons.1 h with rfl | h
    · exact ⟨i, List.mem_append_left _ (List.mem_map_of_mem ha)⟩
    · obtain ⟨j, hj⟩ := mem_L (i := i + 1) h ha
      exact ⟨j, List.mem_append_right _ hj⟩
theorem from_rule {n : Int} : ∀ {l : List S51} {h all : Int}, rulesFrom n h all l = true → ∀ x ∈ l, ruleB n x = true
  | y :: l, h, all, hf, x, hx => by
    unfold rulesFrom at hf
    rw [Bool.and_eq_true, Bool.and_eq_true] at hf
    rcases List.mem_cons.1 hx with rfl | hx
    · exact hf.1.1
    · exact from_rule hf.2 x hx
theorem may_rules {a : Int} {N : List ByteArray} {l : List S51} (h : mayB a N l = true) : l.length ≤ 256 ∧ ∀ x ∈ l, ruleB N.length x = true := by
  unfold mayB at h
  rw [Bool.and_eq_true, Bool.and_eq_true, Bool.and_eq_true, decide_eq_true_eq] at h
  exact ⟨h.1.1.2.2.2.2, from_rule h.1.2⟩
theorem rule_conj {n : Int} {r : S51} (h : ruleB n r = true) : ∀ c ∈ r.f1, conjB n c = true := by
  unfold ruleB at h
  rw [Bool.and_eq_true, List.all_eq_true] at h
  exact h.2
/-- Whether it may be is the same of both, and if it may be, they are the same. -/
theorem may_same (a : Int) (N : List ByteArray) (ds : List S45) (hn : ∀ d ∈ ds, ∀ al ∈ d.f1, ∀ c ∈ al, ∀ x ∈ c.f1, x.f0 = 0 → x.f1 ∈ N) :
    (if mayB a N (rulesT N 0 ds []) = true then (a, N, rulesT N 0 ds [], (⟨#[]⟩ : ByteArray), (0 : Int)) else (0, [], [], ⟨#[]⟩, 404)) = (if mayB a N (rulesL (numMi 0 N) 0 ds) = true then (a, N, rulesL (numMi 0 N) 0 ds, ⟨#[]⟩, 0) else (0, [], [], ⟨#[]⟩, 404)) := by
  by_cases h1 : mayB a N (rulesT N 0 ds []) = true
  · obtain ⟨hl, hr⟩ := may_rules h1
    have e := rulesT_short N ds 0 [] hl
    rw [List.nil_append] at e
    have e2 : rulesR N 0 ds = rulesL (numMi 0 N) 0 ds := rules_same (fun d hd al hal c hc => by
      obtain ⟨j, hj⟩ := mem_R (N := N) (i := 0) hd hal
      exact conj_same (n := N.length) (hn d hd al hal c hc) (.inl (rule_conj (hr _ (by rw [e]; exact hj)) _ (List.mem_map_of_mem hc))))
    rw [e, e2]
  · by_cases h2 : mayB a N (rulesL (numMi 0 N) 0 ds) = true
    · obtain ⟨hl, hr⟩ := may_rules h2
      have e2 : rulesR N 0 ds = rulesL (numMi 0 N) 0 ds := rules_same (fun d hd al hal c hc => by
        obtain ⟨j, hj⟩ := mem_L (m := numMi 0 N) (i := 0) hd hal
        exact conj_same (n := N.length) (hn d hd al hal c hc) (.inr (rule_conj (hr _ hj) _ (List.mem_map_of_mem hc))))
      have e := rulesT_flat N ds 0 [] (by rw [List.nil_append, e2]; exact hl)
      rw [List.nil_append] at e
      rw [e, e2]
    · rw [if_neg h1, if_neg h2]
/-! The document's Build -/
abbrev BuildA := Int × List ByteArray × List S51 × ByteArray × Int
theorem ref_l3 (N l0 : List ByteArray) (hN : N.length ≤ 4611686018427387904) (l1 : List S45) (s : Int) (rl : List S51) (i : Nat) (hi : i < l1.length) (a : Nat) (ha : a < l1[i].f1.length) (hl : l1[i].f1[a].length ≤ 1048576) (hc : ∀ c ∈ l1[i].f1[a], c.f1.length ≤ 1048576 ∧ ∀ x ∈ c.f1, x.f1.size ≤ 1048576) (hrl : rl.length ≤ 1048576) (R : BuildA)
    (hn : Ev (fun k => templeref1_Build.l2 k (i : Int) (wrap64 ((a : Int) + 1)) l0 l1 s N (rl ++ [altR N i l1[i].f1[a]])) R) : Ev (fun k => templeref1_Build.l3 k (i : Int) (a : Int) 0 l0 l1 s N rl (i : Int) []) R := by
  have e1 := rd_def l1 i hi
  have e2 := rd_alt l1[i].f1 a ha
  refine ev_down (l := fun k j => templeref1_Build.l3 k (i : Int) (a : Int) (j : Int) l0 l1 s N rl (i : Int) ((l1[i].f1[a].take j).map (conjR N))) (n := l1[i].f1[a].length) ?_ ?_ 0 (by omega)
  · refine Ev.step (fun k => ?_) hn
    simp only [templeref1_Build.l3]
    rw [e1, e2, if_pos (by omega), if_pos (by omega), if_pos (by omega), if_pos (by omega), if_neg (by omega), if_pos (by omega), List.take_length]
    rfl
  · intro j hj ih
    obtain ⟨c1, c2⟩ := hc _ (List.getElem_mem hj)
    refine Ev.step (fun k => ?_) (Ev.bind (f := fun k t => if ((l1[i].f1[a].take j).map (conjR N)).length < 4398046511104 then templeref1_Build.l3 k (i : Int) (a : Int) ((j + 1 : Nat) : Int) l0 l1 s N rl (i : Int) ((l1[i].f1[a].take j).map (conjR N) ++ [⟨l1[i].f1[a][j].f0, t⟩]) else none) (syms_ev N hN l1[i].f1[a][j].f1 c1 c2) ?_)
    · simp only [templeref1_Build.l3]
      rw [e1, e2, if_pos (by omega), if_pos (by omega), if_pos (by omega), if_pos (by omega), if_pos (by omega), if_pos (by omega), rd_rconj _ j hj, wrap_nat j (by omega)]
    · have h2 : ((l1[i].f1[a].take j).map (conjR N)).length < 4398046511104 := by rw [List.length_map, List.length_take]; omega
      simp only [if_pos h2]
      rw [List.take_succ_eq_append_getElem hj, List.map_append] at ih
      exact ih
theorem ref_l2 (N l0 : List ByteArray) (hN : N.length ≤ 4611686018427387904) (l1 : List S45) (s : Int) (rl : List S51) (i : Nat) (hi : i < l1.length) (hl : rl.length + l1[i].f1.length ≤ 1048576) (ha : ∀ a ∈ l1[i].f1, a.length ≤ 1048576 ∧ ∀ c ∈ a, c.f1.length ≤ 1048576 ∧ ∀ x ∈ c.f1, x.f1.size ≤ 1048576) (R : BuildA)
    (hn : Ev (fun k => templeref1_Build.l1 k (wrap64 ((i : Int) + 1)) l0 l1 s N (rl ++ l1[i].f1.map (altR N i))) R) : Ev (fun k => templeref1_Build.l2 k (i : Int) 0 l0 l1 s N rl) R := by
  have e1 := rd_def l1 i hi
  refine ev_down (l := fun k j => templeref1_Build.l2 k (i : Int) (j : Int) l0 l1 s N (rl ++ (l1[i].f1.take j).map (altR N i))) (n := l1[i].f1.length) ?_ ?_ 0 (by omega) |> fun h => by simpa using h
  · refine Ev.step (fun k => ?_) hn
    simp only [templeref1_Build.l2]
    rw [e1, if_pos (by omega), if_pos (by omega), if_neg (by omega), List.take_length]
  · intro j hj ih
    obtain ⟨a0, a1⟩ := ha _ (List.getElem_mem hj)
    refine Ev.step (fun k => ?_) (ref_l3 N l0 hN l1 s (rl ++ (l1[i].f1.take j).map (altR N i)) i hi j hj a0 a1 (by rw [List.length_append, List.length_map, List.length_take]; omega) R ?_)
    · simp only [templeref1_Build.l2]
      rw [e1, if_pos (by omega), if_pos (by omega), if_pos (by omega)]
    · rw [wrap_nat j (by omega)]
      rw [List.take_succ_eq_append_getElem hj, List.map_append, ← List.append_assoc] at ih
      exact ih
theorem ref_l1 (N l0 : List ByteArray) (hN : N.length ≤ 4611686018427387904) (l1 : List S45) (s : Int) (hs : RawSmall l1) : ∀ d i : Nat, i + d = l1.length → ∀ rl : List S51, rl.length ≤ ((l1.take i).map (fun d => d.f1.length)).sum →
    Ev (fun k => templeref1_Build.l1 k (i : Int) l0 l1 s N rl) (if mayB s N (rulesT N i (l1.drop i) rl) = true then (s, N, rulesT N i (l1.drop i) rl, ⟨#[]⟩, 0) else (0, [], [], ⟨#[]⟩, 404)) := by
  have stop : ∀ (i : Nat) (rl : List S51), Ev (fun k => templeref1_Build.j2 k (i : Int) false l0 l1 s N rl) (if mayB s N rl = true then (s, N, rl, ⟨#[]⟩, 0) else (0, [], [], ⟨#[]⟩, 404)) := by
    intro i rl
    refine Ev.step (fun k => ?_) (Ev.bind (f := fun k t => if t = true then some (s, N, rl, (⟨#[]⟩ : ByteArray), (0 : Int)) else some (0, [], [], ⟨#[]⟩, 404)) (ref_May s N rl) ?_)
    · simp only [templeref1_Build.j2]
      rw [if_neg (by decide)]
    · by_cases h : mayB s N rl = true
      · simp only [if_pos h]
        exact Ev.now _
      · simp only [if_neg h]
        exact Ev.now _
  intro d
  induction d with
  | zero =>
    intro i hi rl hrl
    rw [show l1.drop i = [] from List.drop_eq_nil_iff.2 (by omega)]
    refine Ev.step (fun k => ?_) (stop i rl)
    simp only [templeref1_Build.l1]
    rw [if_neg (by omega)]
  | succ d ih =>
    intro i hi rl hrl
    have hlt : i < l1.length := by omega
    have hm := List.getElem_mem hlt
    have hd := hs.defs
    have hr := hs.rules
    have e1 : (l1.map (fun d => d.f1.length)).sum = ((l1.take (i + 1)).map (fun d => d.f1.length)).sum + ((l1.drop (i + 1)).map (fun d => d.f1.length)).sum := by rw [← List.sum_append, ← List.map_append, List.take_append_drop]
    have e2 : ((l1.take (i + 1)).map (fun d => d.f1.length)).sum = ((l1.take i).map (fun d => d.f1.length)).sum + l1[i].f1.length := by rw [List.take_succ_eq_append_getElem hlt, List.map_append, List.sum_append]; simp
    rw [List.drop_eq_getElem_cons hlt]
    unfold rulesT
    by_cases h : rl.length ≤ 256
    case neg =>
      rw [if_neg h]
      refine Ev.step (fun k => ?_) (stop i rl)
      simp only [templeref1_Build.l1]
      rw [if_pos (by omega), decide_eq_false (by omega)]
    rw [if_pos h]
    refine Ev.step (f := fun k => templeref1_Build.j2 k (i : Int) true l0 l1 s N rl) (fun k => ?_) (Ev.step (fun k => ?_) (ref_l2 N l0 hN l1 s rl i hlt (by omega) (fun a ha => ⟨hs.conjs _ hm a ha, fun c hc => ⟨(hs.syms _ hm a ha c hc).1, (hs.syms _ hm a ha c hc).2.2⟩⟩) _ ?_))
    · simp only [templeref1_Build.l1]
      rw [if_pos (by omega), decide_eq_true (by omega)]
    · simp only [templeref1_Build.j2]
      rw [if_pos trivial]
    · rw [wrap_nat i (by omega)]
      exact ih (i + 1) (by omega) (rl ++ l1[i].f1.map (altR N i)) (by rw [List.length_append, List.length_map, e2]; omega)
theorem badFrom_none {p : S61 → Bool} : ∀ {l : List S45} {i : Nat}, badFrom p i l = none → ∀ d ∈ l, ∀ a ∈ d.f1, ∀ c ∈ a, ∀ x ∈ c.f1, p x = true
  | e :: l, i, h, d, hd, a, ha, c, hc, x, hx => by
    unfold badFrom at h
    cases hb : badItem p e with
    | some y => rw [hb] at h; cases h
    | none =>
      rw [hb] at h
      rcases List.mem_cons.1 hd with rfl | hd
      · unfold badItem at hb
        have h1 := List.findSome?_eq_none_iff.1 hb a ha
        have h2 := List.findSome?_eq_none_iff.1 h1 c hc
        have h3 := List.find?_eq_none.1 h2 x hx
        simpa using h3
      · exact badFrom_none h d hd a ha c hc x hx
/-- What the document's Build answers. -/
theorem ref_Build (l0 : List ByteArray) (l1 : List S45) (hs : RawSmall l1) : Ev (fun k => templeref1_Build.f k l0 l1) (buildL l0 l1) := by
  have hd := hs.defs
  have key : ∀ d i : Nat, i + d = l1.length → ∀ R : BuildA, (∀ s, dup ((l1.take i).map (·.f0)) ((l1.drop i).map (·.f0)) = some s → R = (0, [], [], s, 401)) →
      (dup ((l1.take i).map (·.f0)) ((l1.drop i).map (·.f0)) = none → Ev (fun k => templeref1_Build.l0 (k + 1) (l1.length : Int) l0 l1 0 (l1.map (·.f0))) R) → Ev (fun k => templeref1_Build.l0 k (i : Int) l0 l1 0 ((l1.take i).map (·.f0))) R := by
    intro d
    induction d with
    | zero =>
      intro i hi R h1 h2
      obtain rfl : i = l1.length := by omega
      rw [List.drop_length, List.take_length] at h2
      rw [List.take_length]
      obtain ⟨K, hK⟩ := h2 rfl
      refine ⟨K + 1, fun k hk => ?_⟩
      obtain ⟨k, rfl⟩ : ∃ q, k = q + 1 := ⟨k - 1, by omega⟩
      exact hK k (by omega)
    | succ d ih =>
      intro i hi R h1 h2
      have hlt : i < l1.length := by omega
      have e := rd_def l1 i hlt
      have hN : ((l1.take i).map (·.f0)).length ≤ 4611686018427387904 := by rw [List.length_map, List.length_take]; omega
      rw [List.drop_eq_getElem_cons hlt, List.map_cons] at h1 h2
      unfold dup at h1 h2
      refine Ev.step (fun k => ?_) (Ev.bind (f := fun k t => if t ≥ 0 then some (0, [], [], l1[i].f0, 401) else templeref1_Build.l0 k ((i + 1 : Nat) : Int) l0 l1 0 ((l1.take i).map (·.f0) ++ [l1[i].f0])) (ref_find _ hN l1[i].f0) ?_)
      · simp only [templeref1_Build.l0]
        rw [e, if_pos (by omega), if_pos (by omega), wrap_nat i (by omega), List.length_map, List.length_take]
        congr 1
        funext t
        rw [if_pos (show min i l1.length < 8796093022208 by omega)]
      · by_cases hc : l1[i].f0 ∈ (l1.take i).map (·.f0)
        · have hf : findB l1[i].f0 ((l1.take i).map (·.f0)) 0 ≥ 0 := by
            obtain ⟨j, hj, e2, _⟩ := findB_get _ _ 0 hc
            rw [e2]
            omega
          rw [if_pos ((contains_mem _ _).2 hc)] at h1
          simp only [if_pos hf]
          rw [h1 _ rfl]
          exact Ev.now _
        · have hf : ¬ findB l1[i].f0 ((l1.take i).map (·.f0)) 0 ≥ 0 := by
            have := (find_lt l1[i].f0 ((l1.take i).map (·.f0))).2 hc
            omega
          rw [if_neg (fun h => hc ((contains_mem _ _).1 h))] at h1 h2
          simp only [if_neg hf]
          have ee : (l1.take i).map (·.f0) ++ [l1[i].f0] = (l1.take (i + 1)).map (·.f0) := by rw [List.take_succ_eq_append_getElem hlt, List.map_append]; rfl
          rw [ee] at h1 h2 ⊢
          exact ih (i + 1) (by omega) R h1 h2
  refine Ev.congr (fun k => rfl) (key l1.length 0 (by omega) (buildL l0 l1) (fun s h => ?_) (fun h => ?_))
  · rw [List.drop_zero] at h
    unfold buildL
    rw [show dup [] (l1.map (·.f0)) = some s from h]
  rw [List.drop_zero] at h
  unfold buildL
  rw [show dup [] (l1.map (·.f0)) = none from h]
  dsimp only
  generalize hNe : l1.map (·.f0) = N
  have hN : N.length ≤ 4611686018427387904 := by rw [← hNe, List.length_map]; omega
  by_cases h1 : l0.length = 1
  case neg =>
    rw [if_pos h1]
    refine Ev.congr (f := fun _ => some _) (fun k => ?_) (Ev.now _)
    simp only [templeref1_Build.l0]
    rw [if_neg (by omega), if_neg (by omega)]
  rw [if_neg (by simpa using h1)]
  refine Ev.congr (fun k => ?_) (Ev.bind (f := fun k t => if t.2 = true then some (0, [], [], t.1, 402) else (templeref1_hollow.f k l0 l1).bind fun u => if u.2 = true then some (0, [], [], u.1, 403) else (templeref1_find.f k N (rdOf ByteArray.empty l0 0)).bind fun s => templeref1_Build.l1 k 0 l0 l1 s N []) (unk_ev N l0 l1 hN (by omega) hs) ?_)
  · simp only [templeref1_Build.l0]
    rw [if_neg (by omega), if_pos (by omega)]
    congr 1
    funext t
    split
    · rfl
    · congr 1
      funext u
      split
      · rfl
      · rw [if_pos (by omega)]
  unfold unkL
  by_cases h2 : findB (rdOf ByteArray.empty l0 0) N 0 < 0
  · rw [if_pos h2, mfind_numMi, if_pos (show findB (rdOf ByteArray.empty l0 0) N 0 = -1 by
      have := findB_mem (rdOf ByteArray.empty l0 0) N 0
      have h3 := (find_lt _ _).1 h2
      by_cases e : findB (rdOf ByteArray.empty l0 0) N 0 = -1
      · exact e
      · exact absurd (this.1 e) h3)]
    simp only [if_true]
    exact Ev.now _
  have hin : rdOf ByteArray.empty l0 0 ∈ N := Classical.byContradiction (fun h => h2 ((find_lt _ _).2 h))
  have hne : ¬ findB (rdOf ByteArray.empty l0 0) N 0 = -1 := by omega
  have hget : mget (numMi 0 N) (rdOf ByteArray.empty l0 0) = findB (rdOf ByteArray.empty l0 0) N 0 := by
    unfold mget
    rw [mfind_numMi, if_neg hne]
    rfl
  rw [if_neg h2, mfind_numMi, if_neg hne, if_neg (by simp), askU_eq, hget]
  cases hb : badFrom (askU N) 0 l1 with
  | some q =>
    simp only [if_true]
    exact Ev.now _
  | none =>
    simp only [Bool.false_eq_true, if_false]
    refine Ev.bind (f := fun k u => if u.2 = true then some (0, [], [], u.1, 403) else (templeref1_find.f k N (rdOf ByteArray.empty l0 0)).bind fun s => templeref1_Build.l1 k 0 l0 l1 s N []) (hol_ev l0 l1 hs) ?_
    unfold holL
    cases hr : badFrom askR 0 l1 with
    | some q =>
      simp only [if_true]
      exact Ev.now _
    | none =>
      simp only [Bool.false_eq_true, if_false]
      refine Ev.bind (f := fun k s => templeref1_Build.l1 k 0 l0 l1 s N []) (ref_find N hN _) ?_
      have := ref_l1 N l0 hN l1 (findB (rdOf ByteArray.empty l0 0) N 0) hs l1.length 0 (by omega) [] (by simp)
      rw [List.drop_zero, may_same _ N l1 (fun d hd a ha c hc x hx h0 => (askU_true.1 (badFrom_none hb d hd a ha c hc x hx)).elim (fun h => absurd h0 h) id)] at this
      exact this
end Go.Proofs.Ytdjnpgigdchfkaa.PBS
