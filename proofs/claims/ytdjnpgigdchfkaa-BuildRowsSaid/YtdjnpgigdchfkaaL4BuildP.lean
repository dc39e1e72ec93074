/- Layer 4, plain: what the program's Build answers. -/
import Derived.Test.YtdjnpgigdchfkaaL4MadeP
import Derived.Test.YtdjnpgigdchfkaaPBRx5
namespace Go.Proofs.Ytdjnpgigdchfkaa.PBR
open Go.RowKit Go.Proofs.YtdjnpgigdchfkaaW.PrintWords Go.Proofs.YtdjnpgigdchfkaaW.PrintLast
set_option linter.unusedVariables false
set_option linter.unusedSimpArgs false
theorem ba_beq (a b : ByteArray) : (a == b) = decide (a = b) := by
  have h1 : ∀ a : ByteArray, (a == a) = true := fun a => by
    cases a
    exact BEq.rfl (α := Array UInt8)
  have h2 : ∀ a b : ByteArray, (a == b) = true → a = b := fun a b h => by
    cases a
    cases b
    congr 1
    exact eq_of_beq (α := Array UInt8) h
  by_cases h : a = b
  · subst h
    rw [h1, decide_eq_true rfl]
  · rw [decide_eq_false h]
    cases hb : a == b with
    | false => rfl
    | true => exact absurd (h2 _ _ hb) h
def numMi : Nat → List ByteArray → MapP
  | _, [] => []
  | i, x :: xs => (x, (i : Int)) :: numMi (i + 1) xs
theorem numMi_snoc (x : ByteArray) : ∀ (l : List ByteArray) (i : Nat), numMi i (l ++ [x]) = numMi i l ++ [(x, ((i + l.length : Nat) : Int))]
  | [], i => rfl
  | y :: l, i => by
    show (y, (i : Int)) :: numMi (i + 1) (l ++ [x]) = (y, (i : Int)) :: (numMi (i + 1) l ++ [(x, ((i + (l.length + 1) : Nat) : Int))])
    rw [numMi_snoc x l (i + 1), show i + 1 + l.length = i + (l.length + 1) from by omega]
theorem mfind_numMi (s : ByteArray) : ∀ (l : List ByteArray) (i : Nat), mfind (numMi i l) s = if findB s l i = -1 then none else some (findB s l i)
  | [], i => rfl
  | y :: l, i => by
    have ih := mfind_numMi s l (i + 1)
    unfold mfind at ih ⊢
    show ((((y, (i : Int)) :: numMi (i + 1) l).find? (fun x => s == x.1)).map (·.2)) = _
    rw [List.find?_cons]
    unfold findB
    by_cases h : y = s
    · subst h
      rw [show (y == y) = true from by rw [ba_beq]; simp, if_pos rfl, if_neg (by omega)]
      rfl
    · rw [show (s == y) = false from by rw [ba_beq]; simp; exact fun e => h e.symm, if_neg h]
      exact ih
theorem findB_mem (s : ByteArray) : ∀ (l : List ByteArray) (i : Nat), (findB s l i ≠ -1) ↔ s ∈ l
  | [], i => by simp [findB]
  | y :: l, i => by
    have ih := findB_mem s l (i + 1)
    unfold findB
    by_cases h : y = s
    · rw [if_pos h, List.mem_cons]
      exact ⟨fun _ => .inl h.symm, fun _ => by omega⟩
    · rw [if_neg h, ih, List.mem_cons]
      exact ⟨fun e => .inr e, fun e => e.resolve_left (fun e2 => h e2.symm)⟩
theorem findB_get (s : ByteArray) : ∀ (l : List ByteArray) (i : Nat), s ∈ l → ∃ (j : Nat) (h : j < l.length), findB s l i = ((i + j : Nat) : Int) ∧ l[j] = s
  | [], i, h => by simp at h
  | y :: l, i, h => by
    unfold findB
    by_cases e : y = s
    · rw [if_pos e]
      exact ⟨0, by simp, rfl, e⟩
    · rw [if_neg e]
      obtain ⟨j, hj, e1, e2⟩ := findB_get s l (i + 1) ((List.mem_cons.1 h).resolve_left (fun e2 => e e2.symm))
      exact ⟨j + 1, by simpa using hj, by rw [e1, show i + 1 + j = i + (j + 1) from by omega], by simpa using e2⟩
theorem mfind_isSome (s : ByteArray) (l : List ByteArray) : (mfind (numMi 0 l) s).isSome = l.contains s := by
  rw [mfind_numMi, Bool.eq_iff_iff, contains_mem, ← findB_mem s l 0]
  by_cases h : findB s l 0 = -1
  · simp [h]
  · simp [h]
def dup (P : List ByteArray) : List ByteArray → Option ByteArray
  | [] => none
  | x :: xs => if P.contains x then some x else dup (P ++ [x]) xs
theorem numF_eq : ∀ (l : List S45) (P : List ByteArray), numF (numMi 0 P) (P.length : Int) l = match dup P (l.map (·.f0)) with | some s => ([], s, false) | none => (numMi 0 (P ++ l.map (·.f0)), ⟨#[]⟩, true)
  | [], P => by
    rw [List.map_nil, List.append_nil]
    rfl
  | d :: l, P => by
    rw [List.map_cons]
    unfold numF dup
    rw [mfind_isSome]
    cases h : P.contains d.f0 with
    | true => rw [if_pos rfl, if_pos rfl]
    | false =>
      rw [if_neg (by decide), if_neg (by decide)]
      have ih := numF_eq l (P ++ [d.f0])
      rw [numMi_snoc, List.length_append, List.length_singleton, Nat.zero_add] at ih
      rw [show ((P.length : Int) + 1) = ((P.length + 1 : Nat) : Int) from by omega, ih, List.append_assoc]
      rfl
def cntB (s : ByteArray) (l : List ByteArray) : Nat := l.countP (fun x => decide (x = s))
theorem cntB_mem {s : ByteArray} {l : List ByteArray} (h : s ∈ l) : 1 ≤ cntB s l := by
  unfold cntB
  exact List.countP_pos_iff.2 ⟨s, h, by simp⟩
theorem cntB_not {s : ByteArray} {l : List ByteArray} (h : s ∉ l) : cntB s l = 0 := by
  unfold cntB
  rw [List.countP_eq_zero]
  intro x hx
  simp only [decide_eq_true_eq]
  rintro rfl
  exact h hx
theorem cntB_append (s : ByteArray) (a b : List ByteArray) : cntB s (a ++ b) = cntB s a + cntB s b := by unfold cntB; exact List.countP_append
theorem dup_some : ∀ (l P : List ByteArray) (s : ByteArray), dup P l = some s → 2 ≤ cntB s (P ++ l)
  | [], P, s, h => by cases h
  | x :: l, P, s, h => by
    unfold dup at h
    cases hc : P.contains x with
    | true =>
      rw [hc, if_pos rfl] at h
      injection h with h
      subst h
      have h1 := cntB_mem ((contains_mem _ _).1 hc)
      have h2 : 1 ≤ cntB x (x :: l) := cntB_mem (List.mem_cons_self)
      rw [cntB_append]
      omega
    | false =>
      rw [hc, if_neg (by decide)] at h
      have := dup_some l (P ++ [x]) s h
      rwa [List.append_assoc] at this
theorem dup_none : ∀ (l P : List ByteArray) (s : ByteArray), dup P l = none → cntB s P ≤ 1 → cntB s (P ++ l) ≤ 1
  | [], P, s, _, h => by rwa [List.append_nil]
  | x :: l, P, s, h, hp => by
    unfold dup at h
    cases hc : P.contains x with
    | true => rw [hc, if_pos rfl] at h; cases h
    | false =>
      rw [hc, if_neg (by decide)] at h
      have := dup_none l (P ++ [x]) s h ?_
      · rwa [List.append_assoc] at this
      · rw [cntB_append]
        by_cases e : x = s
        · subst e
          rw [cntB_not (fun hm => by rw [(contains_mem _ _).2 hm] at hc; cases hc)]
          have : cntB x [x] ≤ 1 := List.countP_le_length
          omega
        · rw [cntB_not (l := [x]) (fun hm => e (List.mem_singleton.1 hm).symm)]
          exact hp
theorem dup_nil_cnt {l : List ByteArray} (h : dup [] l = none) (s : ByteArray) : cntB s l ≤ 1 := dup_none l [] s h (by unfold cntB; simp)
/-- The first item that a question says no to, and in which definition. -/
def badItem (p : S61 → Bool) (d : S45) : Option S61 := d.f1.findSome? (fun a => a.findSome? (fun c => c.f1.find? (fun x => !p x)))
def badFrom (p : S61 → Bool) : Nat → List S45 → Option (Nat × S61)
  | _, [] => none
  | i, d :: ds => match badItem p d with
    | some x => some (i, x)
    | none => badFrom p (i + 1) ds
theorem badFrom_lt (p : S61 → Bool) : ∀ (l : List S45) (i j : Nat) (x : S61), badFrom p i l = some (j, x) → i ≤ j ∧ j < i + l.length
  | [], i, j, x, h => by cases h
  | d :: l, i, j, x, h => by
    unfold badFrom at h
    cases hb : badItem p d with
    | some y =>
      rw [hb] at h
      injection h with h
      injection h with h1 h2
      subst h1
      exact ⟨Nat.le_refl _, by simp⟩
    | none =>
      rw [hb] at h
      have := badFrom_lt p l (i + 1) j x h
      rw [List.length_cons]
      omega
def toldB (o : Option (Nat × S61)) : Int × ByteArray × Bool := match o with
  | none => (0, ⟨#[]⟩, true)
  | some q => ((q.1 : Int), q.2.f1, false)
def askN (m : MapP) (x : S61) : Bool := decide (x.f0 ≠ 0) || (mfind m x.f1).isSome
def askR (x : S61) : Bool := decide (x.f0 ≠ 2) || decide (x.f2 ≤ x.f3)
theorem le_sum_mem {x : Nat} : ∀ {l : List Nat}, x ∈ l → x ≤ l.sum
  | y :: l, h => by
    rw [List.sum_cons]
    rcases List.mem_cons.1 h with rfl | h
    · omega
    · have := le_sum_mem h
      omega
theorem items_find (m : MapP) (l1 : List S45) (x7 x14 x15 x23 x24 x29 x30 : Int) (d1 : List (List S64)) (alt : List S64) (c : S64) (hc : c.f1.length ≤ 1048576) (R : Int × ByteArray × Bool)
    (hn : c.f1.find? (fun x => !askN m x) = none → Ev (fun k => gram_items.l2 k l1 m x7 x14 x15 d1 x23 x24 alt x29 (wrap64 (x30 + 1))) R)
    (hy : ∀ x, c.f1.find? (fun x => !askN m x) = some x → R = (x7, x.f1, false)) :
    Ev (fun k => gram_items.l3 k l1 m x7 x14 x15 d1 x23 x24 alt x29 x30 (c.f1.length : Int) 0 c.f0 c.f1) R := by
  have key : ∀ d j : Nat, j + d = c.f1.length → (((c.f1.drop j).find? (fun x => !askN m x) = none → Ev (fun k => gram_items.l2 k l1 m x7 x14 x15 d1 x23 x24 alt x29 (wrap64 (x30 + 1))) R)) → (∀ x, (c.f1.drop j).find? (fun x => !askN m x) = some x → R = (x7, x.f1, false)) → Ev (fun k => gram_items.l3 k l1 m x7 x14 x15 d1 x23 x24 alt x29 x30 (c.f1.length : Int) (j : Int) c.f0 c.f1) R := by
    intro d
    induction d with
    | zero =>
      intro j hj h1 h2
      refine Ev.step (fun k => ?_) (h1 (by rw [show c.f1.drop j = [] from List.drop_eq_nil_iff.2 (by omega)]; rfl))
      simp only [gram_items.l3]
      rw [if_neg (by omega)]
    | succ d ih =>
      intro j hj h1 h2
      have hlt : j < c.f1.length := by omega
      rw [List.drop_eq_getElem_cons hlt] at h1 h2
      have ha : gram_Build_1.f c.f1 (j : Int) m = some (askN m c.f1[j]) := by
        unfold gram_Build_1.f
        rw [if_pos (by omega), rd_item c.f1 j hlt]
        rfl
      cases hb : askN m c.f1[j] with
      | true =>
        refine Ev.step (fun k => ?_) (ih (j + 1) (by omega) (fun h => h1 (by rw [List.find?_cons, hb]; exact h)) (fun x h => h2 x (by rw [List.find?_cons, hb]; exact h)))
        simp only [gram_items.l3]
        rw [if_pos (by omega), if_pos (by omega), if_pos (by omega), ha, Option.bind_some, hb, if_pos rfl, wrap_nat j (by omega)]
      | false =>
        rw [h2 c.f1[j] (by rw [List.find?_cons, hb]; rfl)]
        refine Ev.step (f := fun _ => some (x7, c.f1[j].f1, false)) (fun k => ?_) (Ev.now _)
        simp only [gram_items.l3]
        rw [if_pos (by omega), if_pos (by omega), if_pos (by omega), ha, Option.bind_some, hb, if_neg (by decide), rd_item c.f1 j hlt]
  exact key c.f1.length 0 (by omega) hn hy
theorem items_l2 (m : MapP) (l1 : List S45) (x7 x14 x15 x23 x24 : Int) (d1 : List (List S64)) (alt : List S64) (hl : alt.length ≤ 1048576) (hc : ∀ c ∈ alt, c.f1.length ≤ 1048576) (R : Int × ByteArray × Bool) :
    ∀ d j : Nat, j + d = alt.length → ((alt.drop j).findSome? (fun c => c.f1.find? (fun x => !askN m x)) = none → Ev (fun k => gram_items.l1 k l1 m x7 x14 x15 d1 x23 (wrap64 (x24 + 1))) R) → (∀ x, (alt.drop j).findSome? (fun c => c.f1.find? (fun x => !askN m x)) = some x → R = (x7, x.f1, false)) → Ev (fun k => gram_items.l2 k l1 m x7 x14 x15 d1 x23 x24 alt (alt.length : Int) (j : Int)) R := by
  intro d
  induction d with
  | zero =>
    intro j hj h1 h2
    refine Ev.step (fun k => ?_) (h1 (by rw [show alt.drop j = [] from List.drop_eq_nil_iff.2 (by omega)]; rfl))
    simp only [gram_items.l2]
    rw [if_neg (by omega)]
  | succ d ih =>
    intro j hj h1 h2
    have hlt : j < alt.length := by omega
    rw [List.drop_eq_getElem_cons hlt, List.findSome?_cons] at h1 h2
    refine Ev.step (fun k => ?_) (items_find m l1 x7 x14 x15 x23 x24 (alt.length : Int) (j : Int) d1 alt alt[j] (hc _ (List.getElem_mem hlt)) R (fun h => ?_) (fun x h => h2 x (by rw [h])))
    · simp only [gram_items.l2]
      rw [if_pos (by omega), if_pos (by omega), if_pos (by omega), rd_rconj alt j hlt]
    · rw [h] at h1 h2
      rw [wrap_nat j (by omega)]
      exact ih (j + 1) (by omega) h1 h2
theorem items_l1 (m : MapP) (l1 : List S45) (x7 x14 x15 : Int) (d1 : List (List S64)) (hl : d1.length ≤ 1048576) (ha : ∀ a ∈ d1, a.length ≤ 1048576 ∧ ∀ c ∈ a, c.f1.length ≤ 1048576) (R : Int × ByteArray × Bool) :
    ∀ d j : Nat, j + d = d1.length → ((d1.drop j).findSome? (fun a => a.findSome? (fun c => c.f1.find? (fun x => !askN m x))) = none → Ev (fun k => gram_items.l0 k l1 m x14 (wrap64 (x15 + 1))) R) → (∀ x, (d1.drop j).findSome? (fun a => a.findSome? (fun c => c.f1.find? (fun x => !askN m x))) = some x → R = (x7, x.f1, false)) → Ev (fun k => gram_items.l1 k l1 m x7 x14 x15 d1 (d1.length : Int) (j : Int)) R := by
  intro d
  induction d with
  | zero =>
    intro j hj h1 h2
    refine Ev.step (fun k => ?_) (h1 (by rw [show d1.drop j = [] from List.drop_eq_nil_iff.2 (by omega)]; rfl))
    simp only [gram_items.l1]
    rw [if_neg (by omega)]
  | succ d ih =>
    intro j hj h1 h2
    have hlt : j < d1.length := by omega
    rw [List.drop_eq_getElem_cons hlt, List.findSome?_cons] at h1 h2
    obtain ⟨a0, a1⟩ := ha _ (List.getElem_mem hlt)
    refine Ev.step (fun k => ?_) (items_l2 m l1 x7 x14 x15 (d1.length : Int) (j : Int) d1 d1[j] a0 a1 R d1[j].length 0 (by omega) (fun h => ?_) (fun x h => h2 x (by rw [List.drop_zero] at h; rw [h])))
    · simp only [gram_items.l1]
      rw [if_pos (by omega), if_pos (by omega), if_pos (by omega), rd_alt d1 j hlt]
      rfl
    · rw [List.drop_zero] at h
      rw [h] at h1 h2
      rw [wrap_nat j (by omega)]
      exact ih (j + 1) (by omega) h1 h2
theorem items_ev (m : MapP) (l1 : List S45) (hs : RawSmall l1) : Ev (fun k => gram_items.f k l1 m) (toldB (badFrom (askN m) 0 l1)) := by
  have key : ∀ d i : Nat, i + d = l1.length → Ev (fun k => gram_items.l0 k l1 m (l1.length : Int) (i : Int)) (toldB (badFrom (askN m) i (l1.drop i))) := by
    intro d
    induction d with
    | zero =>
      intro i hi
      rw [show l1.drop i = [] from List.drop_eq_nil_iff.2 (by omega)]
      refine Ev.step (f := fun _ => some (0, ⟨#[]⟩, true)) (fun k => ?_) (Ev.now _)
      simp only [gram_items.l0]
      rw [if_neg (by omega)]
    | succ d ih =>
      intro i hi
      have hlt : i < l1.length := by omega
      have hm := List.getElem_mem hlt
      have hd := hs.defs
      have hle : l1[i].f1.length ≤ 1048576 := Nat.le_trans (le_sum_mem (List.mem_map_of_mem (f := fun d : S45 => d.f1.length) hm)) hs.rules
      rw [List.drop_eq_getElem_cons hlt]
      unfold badFrom
      refine Ev.step (fun k => ?_) (items_l1 m l1 (i : Int) (l1.length : Int) (i : Int) l1[i].f1 hle (fun a ha => ⟨hs.conjs _ hm a ha, fun c hc => (hs.syms _ hm a ha c hc).1⟩) _ l1[i].f1.length 0 (by omega) (fun h => ?_) (fun x h => ?_))
      · simp only [gram_items.l0]
        rw [if_pos (by omega), if_pos (by omega), if_pos (by omega), rd_def l1 i hlt]
        rfl
      · rw [List.drop_zero] at h
        rw [show badItem (askN m) l1[i] = none from h, wrap_nat i (by omega)]
        exact ih (i + 1) (by omega)
      · rw [List.drop_zero] at h
        rw [show badItem (askN m) l1[i] = some x from h]
        rfl
  exact Ev.congr (fun k => rfl) (key l1.length 0 (by omega))
theorem items2_find (m : MapP) (l1 : List S45) (x7 x14 x15 x23 x24 x29 x30 : Int) (d1 : List (List S64)) (alt : List S64) (c : S64) (hc : c.f1.length ≤ 1048576) (R : Int × ByteArray × Bool)
    (hn : c.f1.find? (fun x => !askR x) = none → Ev (fun k => gram_items2.l2 k l1 m x7 x14 x15 d1 x23 x24 alt x29 (wrap64 (x30 + 1))) R)
    (hy : ∀ x, c.f1.find? (fun x => !askR x) = some x → R = (x7, x.f1, false)) :
    Ev (fun k => gram_items2.l3 k l1 m x7 x14 x15 d1 x23 x24 alt x29 x30 (c.f1.length : Int) 0 c.f0 c.f1) R := by
  have key : ∀ d j : Nat, j + d = c.f1.length → (((c.f1.drop j).find? (fun x => !askR x) = none → Ev (fun k => gram_items2.l2 k l1 m x7 x14 x15 d1 x23 x24 alt x29 (wrap64 (x30 + 1))) R)) → (∀ x, (c.f1.drop j).find? (fun x => !askR x) = some x → R = (x7, x.f1, false)) → Ev (fun k => gram_items2.l3 k l1 m x7 x14 x15 d1 x23 x24 alt x29 x30 (c.f1.length : Int) (j : Int) c.f0 c.f1) R := by
    intro d
    induction d with
    | zero =>
      intro j hj h1 h2
      refine Ev.step (fun k => ?_) (h1 (by rw [show c.f1.drop j = [] from List.drop_eq_nil_iff.2 (by omega)]; rfl))
      simp only [gram_items2.l3]
      rw [if_neg (by omega)]
    | succ d ih =>
      intro j hj h1 h2
      have hlt : j < c.f1.length := by omega
      rw [List.drop_eq_getElem_cons hlt] at h1 h2
      have ha : gram_Build_2.f c.f1 (j : Int) m = some (askR c.f1[j]) := by
        unfold gram_Build_2.f
        rw [if_pos (by omega), rd_item c.f1 j hlt]
        rfl
      cases hb : askR c.f1[j] with
      | true =>
        refine Ev.step (fun k => ?_) (ih (j + 1) (by omega) (fun h => h1 (by rw [List.find?_cons, hb]; exact h)) (fun x h => h2 x (by rw [List.find?_cons, hb]; exact h)))
        simp only [gram_items2.l3]
        rw [if_pos (by omega), if_pos (by omega), if_pos (by omega), ha, Option.bind_some, hb, if_pos rfl, wrap_nat j (by omega)]
      | false =>
        rw [h2 c.f1[j] (by rw [List.find?_cons, hb]; rfl)]
        refine Ev.step (f := fun _ => some (x7, c.f1[j].f1, false)) (fun k => ?_) (Ev.now _)
        simp only [gram_items2.l3]
        rw [if_pos (by omega), if_pos (by omega), if_pos (by omega), ha, Option.bind_some, hb, if_neg (by decide), rd_item c.f1 j hlt]
  exact key c.f1.length 0 (by omega) hn hy
theorem items2_l2 (m : MapP) (l1 : List S45) (x7 x14 x15 x23 x24 : Int) (d1 : List (List S64)) (alt : List S64) (hl : alt.length ≤ 1048576) (hc : ∀ c ∈ alt, c.f1.length ≤ 1048576) (R : Int × ByteArray × Bool) :
    ∀ d j : Nat, j + d = alt.length → ((alt.drop j).findSome? (fun c => c.f1.find? (fun x => !askR x)) = none → Ev (fun k => gram_items2.l1 k l1 m x7 x14 x15 d1 x23 (wrap64 (x24 + 1))) R) → (∀ x, (alt.drop j).findSome? (fun c => c.f1.find? (fun x => !askR x)) = some x → R = (x7, x.f1, false)) → Ev (fun k => gram_items2.l2 k l1 m x7 x14 x15 d1 x23 x24 alt (alt.length : Int) (j : Int)) R := by
  intro d
  induction d with
  | zero =>
    intro j hj h1 h2
    refine Ev.step (fun k => ?_) (h1 (by rw [show alt.drop j = [] from List.drop_eq_nil_iff.2 (by omega)]; rfl))
    simp only [gram_items2.l2]
    rw [if_neg (by omega)]
  | succ d ih =>
    intro j hj h1 h2
    have hlt : j < alt.length := by omega
    rw [List.drop_eq_getElem_cons hlt, List.findSome?_cons] at h1 h2
    refine Ev.step (fun k => ?_) (items2_find m l1 x7 x14 x15 x23 x24 (alt.length : Int) (j : Int) d1 alt alt[j] (hc _ (List.getElem_mem hlt)) R (fun h => ?_) (fun x h => h2 x (by rw [h])))
    · simp only [gram_items2.l2]
      rw [if_pos (by omega), if_pos (by omega), if_pos (by omega), rd_rconj alt j hlt]
    · rw [h] at h1 h2
      rw [wrap_nat j (by omega)]
      exact ih (j + 1) (by omega) h1 h2
theorem items2_l1 (m : MapP) (l1 : List S45) (x7 x14 x15 : Int) (d1 : List (List S64)) (hl : d1.length ≤ 1048576) (ha : ∀ a ∈ d1, a.length ≤ 1048576 ∧ ∀ c ∈ a, c.f1.length ≤ 1048576) (R : Int × ByteArray × Bool) :
    ∀ d j : Nat, j + d = d1.length → ((d1.drop j).findSome? (fun a => a.findSome? (fun c => c.f1.find? (fun x => !askR x))) = none → Ev (fun k => gram_items2.l0 k l1 m x14 (wrap64 (x15 + 1))) R) → (∀ x, (d1.drop j).findSome? (fun a => a.findSome? (fun c => c.f1.find? (fun x => !askR x))) = some x → R = (x7, x.f1, false)) → Ev (fun k => gram_items2.l1 k l1 m x7 x14 x15 d1 (d1.length : Int) (j : Int)) R := by
  intro d
  induction d with
  | zero =>
    intro j hj h1 h2
    refine Ev.step (fun k => ?_) (h1 (by rw [show d1.drop j = [] from List.drop_eq_nil_iff.2 (by omega)]; rfl))
    simp only [gram_items2.l1]
    rw [if_neg (by omega)]
  | succ d ih =>
    intro j hj h1 h2
    have hlt : j < d1.length := by omega
    rw [List.drop_eq_getElem_cons hlt, List.findSome?_cons] at h1 h2
    obtain ⟨a0, a1⟩ := ha _ (List.getElem_mem hlt)
    refine Ev.step (fun k => ?_) (items2_l2 m l1 x7 x14 x15 (d1.length : Int) (j : Int) d1 d1[j] a0 a1 R d1[j].length 0 (by omega) (fun h => ?_) (fun x h => h2 x (by rw [List.drop_zero] at h; rw [h])))
    · simp only [gram_items2.l1]
      rw [if_pos (by omega), if_pos (by omega), if_pos (by omega), rd_alt d1 j hlt]
      rfl
    · rw [List.drop_zero] at h
      rw [h] at h1 h2
      rw [wrap_nat j (by omega)]
      exact ih (j + 1) (by omega) h1 h2
theorem items2_ev (m : MapP) (l1 : List S45) (hs : RawSmall l1) : Ev (fun k => gram_items2.f k l1 m) (toldB (badFrom (askR) 0 l1)) := by
  have key : ∀ d i : Nat, i + d = l1.length → Ev (fun k => gram_items2.l0 k l1 m (l1.length : Int) (i : Int)) (toldB (badFrom (askR) i (l1.drop i))) := by
    intro d
    induction d with
    | zero =>
      intro i hi
      rw [show l1.drop i = [] from List.drop_eq_nil_iff.2 (by omega)]
      refine Ev.step (f := fun _ => some (0, ⟨#[]⟩, true)) (fun k => ?_) (Ev.now _)
      simp only [gram_items2.l0]
      rw [if_neg (by omega)]
    | succ d ih =>
      intro i hi
      have hlt : i < l1.length := by omega
      have hm := List.getElem_mem hlt
      have hd := hs.defs
      have hle : l1[i].f1.length ≤ 1048576 := Nat.le_trans (le_sum_mem (List.mem_map_of_mem (f := fun d : S45 => d.f1.length) hm)) hs.rules
      rw [List.drop_eq_getElem_cons hlt]
      unfold badFrom
      refine Ev.step (fun k => ?_) (items2_l1 m l1 (i : Int) (l1.length : Int) (i : Int) l1[i].f1 hle (fun a ha => ⟨hs.conjs _ hm a ha, fun c hc => (hs.syms _ hm a ha c hc).1⟩) _ l1[i].f1.length 0 (by omega) (fun h => ?_) (fun x h => ?_))
      · simp only [gram_items2.l0]
        rw [if_pos (by omega), if_pos (by omega), if_pos (by omega), rd_def l1 i hlt]
        rfl
      · rw [List.drop_zero] at h
        rw [show badItem (askR) l1[i] = none from h, wrap_nat i (by omega)]
        exact ih (i + 1) (by omega)
      · rw [List.drop_zero] at h
        rw [show badItem (askR) l1[i] = some x from h]
        rfl
  exact Ev.congr (fun k => rfl) (key l1.length 0 (by omega))
def buildL (l0 : List ByteArray) (l1 : List S45) : Int × List ByteArray × List S51 × ByteArray × Int :=
  match dup [] (l1.map (·.f0)) with
  | some s => (0, [], [], s, 401)
  | none =>
    if l0.length ≠ 1 then (0, [], [], ⟨#[]⟩, 400)
    else if mfind (numMi 0 (l1.map (·.f0))) (rdOf ByteArray.empty l0 0) = none then (0, [], [], rdOf ByteArray.empty l0 0, 402)
    else match badFrom (askN (numMi 0 (l1.map (·.f0)))) 0 l1 with
      | some q => (0, [], [], q.2.f1, 402)
      | none => match badFrom askR 0 l1 with
        | some q => (0, [], [], (rd_T45 l1 (q.1 : Int)).f0, 403)
        | none => if mayB (mget (numMi 0 (l1.map (·.f0))) (rdOf ByteArray.empty l0 0)) (l1.map (·.f0)) (rulesL (numMi 0 (l1.map (·.f0))) 0 l1) = true then (mget (numMi 0 (l1.map (·.f0))) (rdOf ByteArray.empty l0 0), l1.map (·.f0), rulesL (numMi 0 (l1.map (·.f0))) 0 l1, ⟨#[]⟩, 0) else (0, [], [], ⟨#[]⟩, 404)
theorem build_ev (l0 : List ByteArray) (l1 : List S45) (hs : RawSmall l1) : Ev (fun k => gram_Build.f k l0 l1) (buildL l0 l1) := by
  have hd := hs.defs
  have hn : numF [] 0 l1 = match dup [] (l1.map (·.f0)) with | some s => ([], s, false) | none => (numMi 0 (l1.map (·.f0)), ⟨#[]⟩, true) := numF_eq l1 []
  unfold buildL
  cases hq : dup [] (l1.map (·.f0)) with
  | some s =>
    rw [hq] at hn
    refine ⟨0, fun k _ => ?_⟩
    show gram_Build.f k l0 l1 = _
    unfold gram_Build.f
    rw [hn, if_pos (by omega), if_pos rfl]
  | none =>
    rw [hq] at hn
    dsimp only at hn ⊢
    by_cases h1 : l0.length ≠ 1
    · rw [if_pos h1]
      refine ⟨0, fun k _ => ?_⟩
      show gram_Build.f k l0 l1 = _
      unfold gram_Build.f
      rw [hn, if_pos (by omega), if_neg (fun h_ => Bool.noConfusion h_), if_pos h1]
    rw [if_neg h1]
    by_cases h2 : mfind (numMi 0 (l1.map (·.f0))) (rdOf ByteArray.empty l0 0) = none
    · rw [if_pos h2]
      refine ⟨0, fun k _ => ?_⟩
      show gram_Build.f k l0 l1 = _
      unfold gram_Build.f
      rw [hn, if_pos (by omega), if_neg (fun h_ => Bool.noConfusion h_), if_neg h1, if_pos h2]
    rw [if_neg h2]
    obtain ⟨K1, e1⟩ := items_ev (numMi 0 (l1.map (·.f0))) l1 hs
    obtain ⟨K2, e2⟩ := items2_ev (numMi 0 (l1.map (·.f0))) l1 hs
    obtain ⟨K3, e3⟩ := made_ev (numMi 0 (l1.map (·.f0))) l0 l1 (by omega) hs
    refine ⟨K1 + K2 + K3, fun k hk => ?_⟩
    show gram_Build.f k l0 l1 = _
    unfold gram_Build.f
    rw [hn, if_pos (by omega), if_neg (fun h_ => Bool.noConfusion h_), if_neg h1, if_neg h2]
    dsimp only
    rw [show gram_items.f k l1 (numMi 0 (l1.map (·.f0))) = _ from e1 k (by omega), Option.bind_some, show gram_items2.f k l1 (numMi 0 (l1.map (·.f0))) = _ from e2 k (by omega), Option.bind_some, show gram_made.f k l0 l1 (numMi 0 (l1.map (·.f0))) = _ from e3 k (by omega), Option.bind_some]
    cases hb : badFrom (askN (numMi 0 (l1.map (·.f0)))) 0 l1 with
    | some q => rw [if_pos (by rfl)]; rfl
    | none =>
      rw [if_neg (by decide)]
      cases hb2 : badFrom askR 0 l1 with
      | some q =>
        have hlt := badFrom_lt askR l1 0 q.1 q.2 (by rw [hb2])
        rw [if_pos (by rfl), if_pos (by show 0 ≤ (q.1 : Int) ∧ (q.1 : Int) < _; omega)]
        rfl
      | none =>
        rw [if_neg (by decide)]
        dsimp only
        split <;> rfl
end Go.Proofs.Ytdjnpgigdchfkaa.PBR
