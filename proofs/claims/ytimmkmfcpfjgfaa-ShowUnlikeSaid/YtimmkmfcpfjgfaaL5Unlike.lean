/- Layer 5, plain: a grammar's text tells the grammar (unique reading). -/
import Derived.Test.YtimmkmfcpfjgfaaL5UBase
import Derived.Test.YtimmkmfcpfjgfaaL5Help
namespace Go.Proofs.Ytimmkmfcpfjgfaa.PSU
open Go.RowKit Go.Proofs.YtimmkmfcpfjgfaaW.PrintWords Go.Proofs.YtimmkmfcpfjgfaaW.PrintLast
set_option linter.unusedVariables false
set_option linter.unusedSimpArgs false
/-! A row of bytes, unique reading -/
def chD : List UInt8 → UInt8
  | [92, 120, a, b] => (16 * (if a.toNat < 58 then a.toNat - 48 else a.toNat - 87) + (if b.toNat < 58 then b.toNat - 48 else b.toNat - 87)).toUInt8
  | [92, c] => c
  | [c] => c
  | _ => 0
def chN : List UInt8 → Nat
  | x :: y :: _ => if x = 92 then (if y = 120 then 4 else 2) else 1
  | _ => 1
theorem u8_all {p : UInt8 → Prop} (h : ∀ n, n < 256 → p n.toUInt8) (c : UInt8) : p c := by
  have := h c.toNat c.toNat_lt
  rwa [show c.toNat.toUInt8 = c from by simp] at this
set_option maxRecDepth 100000 in
theorem chD_34 : ∀ n, n < 256 → chD (chT n.toUInt8 34) = n.toUInt8 := by decide +kernel
set_option maxRecDepth 100000 in
theorem chD_39 : ∀ n, n < 256 → chD (chT n.toUInt8 39) = n.toUInt8 := by decide +kernel
theorem chD_eq (q : UInt8) (hq : q = 34 ∨ q = 39) (c : UInt8) : chD (chT c q) = c := by
  rcases hq with rfl | rfl
  · exact u8_all (p := fun c => chD (chT c 34) = c) chD_34 c
  · exact u8_all (p := fun c => chD (chT c 39) = c) chD_39 c
theorem chN_eq (q : UInt8) (hq : q = 34 ∨ q = 39) (c : UInt8) (s : List UInt8) : chN (chT c q ++ s) = (chT c q).length := by
  unfold chT
  split
  · rfl
  rename_i h1
  split
  · rename_i h2
    have : c ≠ 120 := by
      rintro rfl
      rcases hq with rfl | rfl <;> revert h2 <;> decide
    show (if (92 : UInt8) = 92 then (if c = 120 then 4 else 2) else 1) = 2
    rw [if_pos rfl, if_neg this]
  · rename_i h2
    cases s with
    | nil => rfl
    | cons y s =>
      show (if c = 92 then (if y = 120 then 4 else 2) else 1) = 1
      rw [if_neg (fun e => h2 (.inr e))]
theorem ch_uni (q : UInt8) (hq : q = 34 ∨ q = 39) (c d : UInt8) (s t : List UInt8) (h : chT c q ++ s = chT d q ++ t) : c = d ∧ s = t := by
  have hl : (chT c q).length = (chT d q).length := by rw [← chN_eq q hq c s, ← chN_eq q hq d t, h]
  obtain ⟨h1, h2⟩ := List.append_inj h hl
  exact ⟨by rw [← chD_eq q hq c, ← chD_eq q hq d, h1], h2⟩
set_option maxRecDepth 100000 in
theorem ch_ne34 : ∀ n, n < 256 → ((chT n.toUInt8 34).head? == some 34) = false := by decide +kernel
set_option maxRecDepth 100000 in
theorem ch_ne39 : ∀ n, n < 256 → ((chT n.toUInt8 39).head? == none) = false := by decide +kernel
theorem ch_first (c : UInt8) : ∃ x r, chT c 34 = x :: r ∧ x ≠ 34 := by
  have h := u8_all (p := fun c => ((chT c 34).head? == some 34) = false) ch_ne34 c
  unfold chT at h ⊢
  split
  · exact ⟨92, _, rfl, by decide⟩
  · split
    · exact ⟨92, _, rfl, by decide⟩
    · rename_i h1 h2
      exact ⟨c, [], rfl, fun e => h2 (.inl e)⟩
theorem sing_uni : ∀ (a b : List UInt8) (s t : List UInt8), singT a ++ 34 :: s = singT b ++ 34 :: t → a = b ∧ s = t
  | [], [], s, t, h => by
    have h : 34 :: s = 34 :: t := h
    exact ⟨rfl, (List.cons.inj h).2⟩
  | [], d :: b, s, t, h => by
    obtain ⟨x, r, e, hx⟩ := ch_first d
    have h : 34 :: s = (chT d 34 ++ singT b) ++ 34 :: t := h
    rw [e] at h
    exact absurd (List.cons.inj h).1.symm hx
  | c :: a, [], s, t, h => by
    obtain ⟨x, r, e, hx⟩ := ch_first c
    have h : (chT c 34 ++ singT a) ++ 34 :: s = 34 :: t := h
    rw [e] at h
    exact absurd (List.cons.inj h).1 hx
  | c :: a, d :: b, s, t, h => by
    have h : (chT c 34 ++ singT a) ++ 34 :: s = (chT d 34 ++ singT b) ++ 34 :: t := h
    rw [List.append_assoc, List.append_assoc] at h
    obtain ⟨e1, h⟩ := ch_uni 34 (.inl rfl) c d _ _ h
    obtain ⟨e2, h⟩ := sing_uni a b s t h
    exact ⟨by rw [e1, e2], h⟩
theorem end_uni (c d : UInt8) (s t : List UInt8) (h : endT c ++ s = endT d ++ t) : c = d ∧ s = t := by
  unfold endT at h
  simp only [List.append_assoc] at h
  have h := (List.append_inj h rfl).2
  obtain ⟨e, h⟩ := ch_uni 39 (.inr rfl) c d _ _ h
  exact ⟨e, (List.append_inj h rfl).2⟩
/-! Names: a byte of a name, and what ends it -/
def isNm (x : UInt8) : Bool := moreI (x.toNat : Int)
def okNm (l : List UInt8) : Prop := l ≠ [] ∧ ∀ x ∈ l, isNm x = true
def stop (s : List UInt8) : Prop := ∃ x r, s = x :: r ∧ isNm x = false
theorem nm_uni : ∀ (a b s t : List UInt8), (∀ x ∈ a, isNm x = true) → (∀ x ∈ b, isNm x = true) → stop s → stop t → a ++ s = b ++ t → a = b ∧ s = t
  | [], [], s, t, _, _, _, _, h => ⟨rfl, h⟩
  | [], d :: b, s, t, _, hb, hs, _, h => by
    obtain ⟨x, r, rfl, hx⟩ := hs
    have := (List.cons.inj h).1
    rw [this, hb d List.mem_cons_self] at hx
    cases hx
  | c :: a, [], s, t, ha, _, _, ht, h => by
    obtain ⟨x, r, rfl, hx⟩ := ht
    have := (List.cons.inj h).1
    rw [← this, ha c List.mem_cons_self] at hx
    cases hx
  | c :: a, d :: b, s, t, ha, hb, hs, ht, h => by
    obtain ⟨e1, h⟩ := List.cons.inj (show c :: (a ++ s) = d :: (b ++ t) from h)
    obtain ⟨e2, h⟩ := nm_uni a b s t (fun x hx => ha x (List.mem_cons_of_mem _ hx)) (fun x hx => hb x (List.mem_cons_of_mem _ hx)) hs ht h
    exact ⟨by rw [e1, e2], h⟩
/-! Parts -/
def okP : Part → Prop
  | .call s => okNm s.data.toList
  | _ => True
theorem ba_of {a b : ByteArray} (h : a.data.toList = b.data.toList) : a = b := by
  cases a
  cases b
  congr 1
  exact Array.toList_inj.1 h
def fstP : Part → UInt8 → Prop
  | .call _, x => isNm x = true
  | .span _ _, x => x = 39
  | .single _, x => x = 34
/-- The first byte of a part. -/
theorem part_first (p : Part) (hp : okP p) (s : List UInt8) : ∃ x r, partT p ++ s = x :: r ∧ fstP p x := by
  cases p with
  | call b =>
    obtain ⟨h0, h1⟩ := hp
    cases hb : b.data.toList with
    | nil => exact absurd hb h0
    | cons x r => exact ⟨x, r ++ s, by show b.data.toList ++ s = _; rw [hb]; rfl, h1 x (by rw [hb]; exact List.mem_cons_self)⟩
  | span a b => exact ⟨39, _, rfl, rfl⟩
  | single b => exact ⟨34, _, rfl, rfl⟩
theorem part_uni (p q : Part) (s t : List UInt8) (hp : okP p) (hq : okP q) (hs : stop s) (ht : stop t) (h : partT p ++ s = partT q ++ t) : p = q ∧ s = t := by
  obtain ⟨x, r, e, hx⟩ := part_first p hp s
  obtain ⟨y, r', e', hy⟩ := part_first q hq t
  have hxy : x = y := by rw [e, e'] at h; exact (List.cons.inj h).1
  subst hxy
  have n39 : isNm 39 = false := by decide
  have n34 : isNm 34 = false := by decide
  cases p with
  | call a =>
    cases q with
    | call b =>
      obtain ⟨e, h⟩ := nm_uni a.data.toList b.data.toList s t hp.2 hq.2 hs ht h
      exact ⟨by rw [ba_of e], h⟩
    | span c d => dsimp only [fstP] at hx hy; rw [hy, n39] at hx; cases hx
    | single b => dsimp only [fstP] at hx hy; rw [hy, n34] at hx; cases hx
  | span a b =>
    cases q with
    | call c => dsimp only [fstP] at hx hy; rw [hx, n39] at hy; cases hy
    | span c d =>
      have h : (endT a ++ [46, 46] ++ endT b) ++ s = (endT c ++ [46, 46] ++ endT d) ++ t := h
      simp only [List.append_assoc] at h
      obtain ⟨e1, h⟩ := end_uni a c _ _ h
      obtain ⟨e2, h⟩ := end_uni b d _ _ (List.append_inj h rfl).2
      exact ⟨by rw [e1, e2], h⟩
    | single b => dsimp only [fstP] at hx hy; rw [hx] at hy; exact absurd hy (by decide)
  | single a =>
    cases q with
    | call c => dsimp only [fstP] at hx hy; rw [hx, n34] at hy; cases hy
    | span c d => dsimp only [fstP] at hx hy; rw [hx] at hy; exact absurd hy (by decide)
    | single b =>
      have h : ([34] ++ singT a.data.toList ++ [34]) ++ s = ([34] ++ singT b.data.toList ++ [34]) ++ t := h
      simp only [List.append_assoc] at h
      obtain ⟨e, h⟩ := sing_uni _ _ s t (List.append_inj h rfl).2
      exact ⟨by rw [ba_of e], h⟩
/-! Rows with something between -/
structure Uni {α : Type} (enc : α → List UInt8) (ok : α → Prop) (F : List UInt8 → Prop) : Prop where
  one : ∀ x y s t, ok x → ok y → F s → F t → enc x ++ s = enc y ++ t → x = y ∧ s = t
theorem tail_uni {α : Type} {enc : α → List UInt8} {ok : α → Prop} {F G : List UInt8 → Prop} {sep : List UInt8} (U : Uni enc ok F) (hF : ∀ y r, ok y → F (sep ++ enc y ++ r)) (hG : ∀ s, G s → F s) (hN : ∀ y r, ok y → ¬ G (sep ++ enc y ++ r)) :
    ∀ (xs ys : List α) (s t : List UInt8), (∀ x ∈ xs, ok x) → (∀ y ∈ ys, ok y) → G s → G t → xs.flatMap (fun y => sep ++ enc y) ++ s = ys.flatMap (fun y => sep ++ enc y) ++ t → xs = ys ∧ s = t
  | [], [], s, t, _, _, _, _, h => ⟨rfl, h⟩
  | [], d :: b, s, t, _, hb, hs, _, h => by
    refine absurd hs (?_)
    have h : s = ((sep ++ enc d) ++ b.flatMap (fun y => sep ++ enc y)) ++ t := h
    rw [h, List.append_assoc]
    exact hN d _ (hb d List.mem_cons_self)
  | c :: a, [], s, t, ha, _, _, ht, h => by
    refine absurd ht (?_)
    have h : ((sep ++ enc c) ++ a.flatMap (fun y => sep ++ enc y)) ++ s = t := h
    rw [← h, List.append_assoc]
    exact hN c _ (ha c List.mem_cons_self)
  | c :: a, d :: b, s, t, ha, hb, hs, ht, h => by
    have h : ((sep ++ enc c) ++ a.flatMap (fun y => sep ++ enc y)) ++ s = ((sep ++ enc d) ++ b.flatMap (fun y => sep ++ enc y)) ++ t := h
    simp only [List.append_assoc] at h
    have h := (List.append_inj h rfl).2
    have fa : ∀ (l : List α) (s : List UInt8), (∀ x ∈ l, ok x) → G s → F (l.flatMap (fun y => sep ++ enc y) ++ s) := fun l s hl hs => by
      cases l with
      | nil => exact hG s hs
      | cons x l =>
        show F (((sep ++ enc x) ++ l.flatMap (fun y => sep ++ enc y)) ++ s)
        rw [List.append_assoc]
        exact hF x _ (hl x List.mem_cons_self)
    obtain ⟨e1, h⟩ := U.one c d _ _ (ha c List.mem_cons_self) (hb d List.mem_cons_self) (fa a s (fun x hx => ha x (List.mem_cons_of_mem _ hx)) hs) (fa b t (fun x hx => hb x (List.mem_cons_of_mem _ hx)) ht) h
    obtain ⟨e2, h⟩ := tail_uni U hF hG hN a b s t (fun x hx => ha x (List.mem_cons_of_mem _ hx)) (fun x hx => hb x (List.mem_cons_of_mem _ hx)) hs ht h
    exact ⟨by rw [e1, e2], h⟩
theorem sep_uni {α : Type} {enc : α → List UInt8} {ok : α → Prop} {F G : List UInt8 → Prop} {sep : List UInt8} (U : Uni enc ok F) (hF : ∀ y r, ok y → F (sep ++ enc y ++ r)) (hG : ∀ s, G s → F s) (hN : ∀ y r, ok y → ¬ G (sep ++ enc y ++ r)) :
    Uni (sepT sep enc) (fun xs => xs ≠ [] ∧ ∀ x ∈ xs, ok x) G := ⟨by
  rintro (_ | ⟨x, xs⟩) (_ | ⟨y, ys⟩) s t ⟨h1, h2⟩ ⟨h3, h4⟩ hs ht h
  · exact absurd rfl h1
  · exact absurd rfl h1
  · exact absurd rfl h3
  · have h : (enc x ++ xs.flatMap (fun y => sep ++ enc y)) ++ s = (enc y ++ ys.flatMap (fun y => sep ++ enc y)) ++ t := h
    simp only [List.append_assoc] at h
    have fa : ∀ (l : List α) (s : List UInt8), (∀ x ∈ l, ok x) → G s → F (l.flatMap (fun y => sep ++ enc y) ++ s) := fun l s hl hs => by
      cases l with
      | nil => exact hG s hs
      | cons x l =>
        show F (((sep ++ enc x) ++ l.flatMap (fun y => sep ++ enc y)) ++ s)
        rw [List.append_assoc]
        exact hF x _ (hl x List.mem_cons_self)
    have hx := fun z hz => h2 z (List.mem_cons_of_mem x hz)
    have hy := fun z hz => h4 z (List.mem_cons_of_mem y hz)
    obtain ⟨e1, h⟩ := U.one x y _ _ (h2 x List.mem_cons_self) (h4 y List.mem_cons_self) (fa xs s hx hs) (fa ys t hy ht) h
    obtain ⟨e2, h⟩ := tail_uni U hF hG hN xs ys s t hx hy hs ht h
    exact ⟨by rw [e1, e2], h⟩⟩
/-- What may stand behind a row of parts, of conjuncts, of alternatives. -/
def tl3 (s : List UInt8) : Prop := ∃ r, s = 59 :: r
def tl2 (s : List UInt8) : Prop := tl3 s ∨ ∃ r, s = 32 :: 124 :: r
def tl1 (s : List UInt8) : Prop := tl2 s ∨ ∃ r, s = 32 :: 38 :: r
theorem parts_uni : Uni partsT (fun ps => ps ≠ [] ∧ ∀ p ∈ ps, okP p) tl1 := by
  refine sep_uni (F := stop) ⟨part_uni⟩ (fun y r _ => ⟨32, _, rfl, by decide⟩) ?_ ?_
  · rintro s ((⟨r, rfl⟩ | ⟨r, rfl⟩) | ⟨r, rfl⟩)
    · exact ⟨59, _, rfl, by decide⟩
    · exact ⟨32, _, rfl, by decide⟩
    · exact ⟨32, _, rfl, by decide⟩
  · intro y r hy h
    obtain ⟨x, r', e, hx⟩ := part_first y hy r
    rw [List.append_assoc, e] at h
    have n124 : isNm 124 = false := by decide
    have n38 : isNm 38 = false := by decide
    have hc : x = 124 ∨ x = 38 := by
      rcases h with (⟨r2, h⟩ | ⟨r2, h⟩) | ⟨r2, h⟩
      · exact absurd (List.cons.inj h).1 (by decide)
      · exact .inl (List.cons.inj (List.cons.inj h).2).1
      · exact .inr (List.cons.inj (List.cons.inj h).2).1
    cases y with
    | call b =>
      dsimp only [fstP] at hx
      rcases hc with rfl | rfl
      · rw [n124] at hx; cases hx
      · rw [n38] at hx; cases hx
    | span a b =>
      dsimp only [fstP] at hx
      subst hx
      revert hc
      decide
    | single b =>
      dsimp only [fstP] at hx
      subst hx
      revert hc
      decide
/-- A conjunct as it is read: its mark, its parts. -/
def rcT (c : Bool × List Part) : List UInt8 := negT c.1 ++ partsT c.2
def okC (c : Bool × List Part) : Prop := c.2 ≠ [] ∧ ∀ p ∈ c.2, okP p
theorem parts_first (ps : List Part) (h : ps ≠ [] ∧ ∀ p ∈ ps, okP p) (s : List UInt8) : ∃ x r, partsT ps ++ s = x :: r ∧ x ≠ 126 ∧ x ≠ 32 := by
  obtain ⟨h0, h1⟩ := h
  cases ps with
  | nil => exact absurd rfl h0
  | cons p ps =>
    obtain ⟨x, r, e, hx⟩ := part_first p (h1 p List.mem_cons_self) (ps.flatMap (fun y => [32] ++ partT y) ++ s)
    refine ⟨x, r, by rw [← e]; show (partT p ++ _) ++ s = _; rw [List.append_assoc], ?_⟩
    have n126 : isNm 126 = false := by decide
    have n32 : isNm 32 = false := by decide
    cases p with
    | call b =>
      dsimp only [fstP] at hx
      exact ⟨fun e => (by rw [e, n126] at hx; cases hx), fun e => (by rw [e, n32] at hx; cases hx)⟩
    | span a b => dsimp only [fstP] at hx; subst hx; decide
    | single b => dsimp only [fstP] at hx; subst hx; decide
theorem conj_uni : Uni rcT okC tl1 := ⟨by
  rintro ⟨a, ps⟩ ⟨b, qs⟩ s t hp hq hs ht h
  unfold rcT at h
  obtain ⟨x, r, e, hx⟩ := parts_first ps hp s
  obtain ⟨y, r', e', hy⟩ := parts_first qs hq t
  simp only [List.append_assoc] at h
  have key : a = b := by
    cases a <;> cases b
    · rfl
    · exfalso
      have h : partsT ps ++ s = 126 :: (partsT qs ++ t) := h
      rw [e] at h
      exact hx.1 (List.cons.inj h).1
    · exfalso
      have h : 126 :: (partsT ps ++ s) = partsT qs ++ t := h
      rw [e'] at h
      exact hy.1 (List.cons.inj h).1.symm
    · rfl
  subst key
  obtain ⟨e, h⟩ := parts_uni.one ps qs s t hp hq hs ht (List.append_inj h rfl).2
  exact ⟨by rw [show ps = qs from e], h⟩⟩
theorem rule_uni : Uni (sepT [32, 38, 32] rcT) (fun cs => cs ≠ [] ∧ ∀ c ∈ cs, okC c) tl2 := by
  refine sep_uni (F := tl1) conj_uni (fun y r _ => .inr ⟨_, rfl⟩) (fun s h => .inl h) ?_
  rintro y r hy (⟨r2, h⟩ | ⟨r2, h⟩)
  · exact absurd (List.cons.inj h).1 (by decide)
  · exact absurd (List.cons.inj (List.cons.inj h).2).1 (by decide)
/-! The whole -/
/-- A rule as it is read: its head's name, its head, its conjuncts. -/
structure RdR where
  nm : List UInt8
  hd : Int
  cs : List (Bool × List Part)
def okR (r : RdR) : Prop := okNm r.nm ∧ r.cs ≠ [] ∧ ∀ c ∈ r.cs, okC c
def topR (p : Int) (r : RdR) : List UInt8 := if p ≠ r.hd then r.nm ++ [32, 61, 32] else [32, 124, 32]
def botR (r : RdR) : List RdR → List UInt8
  | [] => [59, 10]
  | q :: _ => if q.hd ≠ r.hd then [59, 10] else []
def txR (p : Int) : List RdR → List UInt8
  | [] => []
  | r :: rs => topR p r ++ (sepT [32, 38, 32] rcT r.cs ++ (botR r rs ++ txR r.hd rs))
def stepR (p : Int) : List RdR → Prop
  | [] => True
  | r :: rs => (r.hd = p ∨ r.hd = p + 1) ∧ okR r ∧ stepR r.hd rs
/-- The names of the heads that begin. -/
def nmsR (p : Int) : List RdR → List (List UInt8)
  | [] => []
  | r :: rs => (if p ≠ r.hd then [r.nm] else []) ++ nmsR r.hd rs
theorem tail_ok (r : RdR) (rs : List RdR) (h : stepR r.hd rs) : tl2 (botR r rs ++ txR r.hd rs) := by
  cases rs with
  | nil => exact .inl ⟨_, rfl⟩
  | cons q rs =>
    show tl2 ((if q.hd ≠ r.hd then [59, 10] else []) ++ (topR r.hd q ++ _))
    by_cases e : q.hd ≠ r.hd
    · rw [if_pos e]
      exact .inl ⟨_, rfl⟩
    · rw [if_neg e]
      unfold topR
      rw [if_neg (fun h2 => e (fun h3 => h2 h3.symm))]
      exact .inr ⟨_, rfl⟩
theorem top_uni (p : Int) (r r' : RdR) (s s' : List UInt8) (h1 : (r.hd = p ∨ r.hd = p + 1) ∧ okR r) (h2 : (r'.hd = p ∨ r'.hd = p + 1) ∧ okR r') (h : topR p r ++ s = topR p r' ++ s') :
    r.hd = r'.hd ∧ (p ≠ r.hd → r.nm = r'.nm) ∧ s = s' := by
  unfold topR at h
  have nm32 : ∀ (q : RdR) (z : List UInt8), okR q → ∃ x y, (q.nm ++ [32, 61, 32]) ++ z = x :: y ∧ x ≠ 32 := fun q z hq => by
    obtain ⟨⟨h0, h1⟩, _⟩ := hq
    cases hn : q.nm with
    | nil => exact absurd hn h0
    | cons x y =>
      refine ⟨x, _, rfl, ?_⟩
      rintro rfl
      have := h1 32 (by rw [hn]; exact List.mem_cons_self)
      revert this
      decide
  by_cases a : p ≠ r.hd
  · by_cases b : p ≠ r'.hd
    · rw [if_pos a, if_pos b, List.append_assoc, List.append_assoc] at h
      obtain ⟨e, h⟩ := nm_uni _ _ _ _ h1.2.1.2 h2.2.1.2 ⟨32, _, rfl, by decide⟩ ⟨32, _, rfl, by decide⟩ h
      exact ⟨by omega, fun _ => e, List.append_cancel_left (show [32, 61, 32] ++ s = [32, 61, 32] ++ s' from h)⟩
    · rw [if_pos a, if_neg b] at h
      obtain ⟨x, y, e, hx⟩ := nm32 r s h1.2
      rw [e] at h
      exact absurd (List.cons.inj h).1 hx
  · by_cases b : p ≠ r'.hd
    · rw [if_neg a, if_pos b] at h
      obtain ⟨x, y, e, hx⟩ := nm32 r' s' h2.2
      rw [e] at h
      exact absurd (List.cons.inj h).1.symm hx
    · rw [if_neg a, if_neg b] at h
      exact ⟨by omega, fun e => absurd e a, List.append_cancel_left (show [32, 124, 32] ++ s = [32, 124, 32] ++ s' from h)⟩
theorem bot_uni (r r' : RdR) (rs rs' : List RdR) (he : r.hd = r'.hd) (h1 : stepR r.hd rs) (h2 : stepR r'.hd rs') (h : botR r rs ++ txR r.hd rs = botR r' rs' ++ txR r'.hd rs') : txR r.hd rs = txR r.hd rs' := by
  have bad : ∀ (r : RdR) (q : RdR) (rs : List RdR) (z : List UInt8), ¬ q.hd ≠ r.hd → botR r (q :: rs) ++ txR r.hd (q :: rs) ≠ 59 :: z := fun r q rs z e h => by
    have h : (if q.hd ≠ r.hd then [59, 10] else []) ++ ((if r.hd ≠ q.hd then q.nm ++ [32, 61, 32] else [32, 124, 32]) ++ (sepT [32, 38, 32] rcT q.cs ++ (botR q rs ++ txR q.hd rs))) = 59 :: z := h
    rw [if_neg e, if_neg (fun h2 => e (fun h3 => h2 h3.symm))] at h
    exact absurd (List.cons.inj h).1 (by decide)
  rw [← he] at h
  cases rs with
  | nil =>
    cases rs' with
    | nil => rfl
    | cons q' rs' =>
      by_cases e : q'.hd ≠ r'.hd
      · have hb : botR r' (q' :: rs') = [59, 10] := if_pos e
        rw [hb] at h
        exact (List.append_inj h rfl).2
      · have := bad r' q' rs' _ e (by rw [← he]; exact h.symm)
        exact this.elim
  | cons q rs =>
    by_cases e : q.hd ≠ r.hd
    · have hb : botR r (q :: rs) = [59, 10] := if_pos e
      rw [hb] at h
      cases rs' with
      | nil => exact (List.append_inj h rfl).2
      | cons q' rs' =>
        by_cases e' : q'.hd ≠ r'.hd
        · have hb : botR r' (q' :: rs') = [59, 10] := if_pos e'
          rw [hb] at h
          exact (List.append_inj h rfl).2
        · exact (bad r' q' rs' _ e' (by rw [← he]; exact h.symm)).elim
    · have hb : botR r (q :: rs) = [] := if_neg e
      cases rs' with
      | nil => exact (bad r q rs _ e h).elim
      | cons q' rs' =>
        by_cases e' : q'.hd ≠ r'.hd
        · have hb' : botR r' (q' :: rs') = [59, 10] := if_pos e'
          rw [hb'] at h
          exact (bad r q rs _ e h).elim
        · have hb' : botR r' (q' :: rs') = [] := if_neg e'
          rw [hb, hb'] at h
          exact h
theorem tx_ne (p : Int) (r : RdR) (rs : List RdR) : txR p (r :: rs) ≠ [] := by
  show topR p r ++ _ ≠ []
  unfold topR
  split <;> simp
theorem tx_uni : ∀ (rs rs' : List RdR) (p : Int), stepR p rs → stepR p rs' → txR p rs = txR p rs' → rs.map (·.hd) = rs'.map (·.hd) ∧ rs.map (·.cs) = rs'.map (·.cs) ∧ nmsR p rs = nmsR p rs'
  | [], [], p, _, _, _ => ⟨rfl, rfl, rfl⟩
  | [], r' :: rs', p, _, _, h => absurd h.symm (tx_ne p r' rs')
  | r :: rs, [], p, _, _, h => absurd h (tx_ne p r rs)
  | r :: rs, r' :: rs', p, ⟨a1, a2, a3⟩, ⟨b1, b2, b3⟩, h => by
    obtain ⟨e1, e2, h⟩ := top_uni p r r' _ _ ⟨a1, a2⟩ ⟨b1, b2⟩ h
    obtain ⟨e3, h⟩ := rule_uni.one r.cs r'.cs _ _ a2.2 b2.2 (tail_ok r rs a3) (tail_ok r' rs' b3) h
    have h := bot_uni r r' rs rs' e1 a3 b3 h
    obtain ⟨c1, c2, c3⟩ := tx_uni rs rs' r.hd a3 (e1 ▸ b3) h
    refine ⟨by rw [List.map_cons, List.map_cons, e1, c1], by rw [List.map_cons, List.map_cons, e3, c2], ?_⟩
    show (if p ≠ r.hd then [r.nm] else []) ++ nmsR r.hd rs = (if p ≠ r'.hd then [r'.nm] else []) ++ nmsR r'.hd rs'
    rw [c3, ← e1]
    congr 1
    by_cases q : p ≠ r.hd
    · rw [if_pos q, if_pos q, e2 q]
    · rw [if_neg q, if_neg q]
/-! What is read is what was shown -/
theorem okNm_of {s : ByteArray} (h : nameOk s = true) : okNm s.data.toList := by
  unfold nameOk at h
  rw [Bool.and_eq_true, Bool.and_eq_true, decide_eq_true_eq] at h
  obtain ⟨⟨h1, _⟩, _, h2⟩ := h
  refine ⟨fun e => ?_, fun x hx => ?_⟩
  · have h0 : s.data.size = 0 := by rw [← Array.length_toList, e]; rfl
    have h3 : 1 ≤ s.data.size := h1
    omega
  · obtain ⟨i, hi, rfl⟩ := List.getElem_of_mem hx
    rw [Array.length_toList] at hi
    have := List.all_eq_true.1 h2 i (List.mem_range.2 hi)
    unfold bt at this
    rw [dif_pos (show ((i : Nat) : Int).toNat < s.size from by rw [Int.toNat_natCast]; exact hi)] at this
    unfold isNm
    simp only [Int.toNat_natCast] at this
    exact this
theorem namesFrom_all : ∀ (l seen : List ByteArray), namesFrom seen l = true → (∀ x ∈ l, nameOk x = true) ∧ (∀ x ∈ l, x ∉ seen) ∧ l.Nodup
  | [], _, _ => ⟨fun _ h => by simp at h, fun _ h => by simp at h, List.nodup_nil⟩
  | y :: l, seen, h => by
    unfold namesFrom at h
    rw [Bool.and_eq_true, Bool.and_eq_true] at h
    obtain ⟨⟨h1, h2⟩, h3⟩ := h
    obtain ⟨a, b, c⟩ := namesFrom_all l _ h3
    have hy : y ∉ seen := fun hm => by
      rw [(contains_mem seen y).2 hm] at h2
      cases h2
    refine ⟨fun x hx => ?_, fun x hx => ?_, ?_⟩
    · rcases List.mem_cons.1 hx with rfl | hx
      · exact h1
      · exact a x hx
    · rcases List.mem_cons.1 hx with rfl | hx
      · exact hy
      · exact fun hm => b x hx (List.mem_append_left _ hm)
    · exact List.nodup_cons.2 ⟨fun hm => b y hm (List.mem_append_right _ (List.mem_singleton.2 rfl)), c⟩
def rdR (ns : List ByteArray) (r : S44) : RdR := ⟨(nmAt ns r.f0).data.toList, r.f0, r.f1.map (fun c => (c.f0, partsL ns c.f1))⟩
theorem sep_map {α β : Type} (sep : List UInt8) (f : β → List UInt8) (g : α → β) (l : List α) : sepT sep (fun x => f (g x)) l = sepT sep f (l.map g) := by
  cases l with
  | nil => rfl
  | cons x l =>
    show f (g x) ++ l.flatMap (fun y => sep ++ f (g y)) = f (g x) ++ (l.map g).flatMap (fun y => sep ++ f y)
    rw [List.flatMap_map]
theorem ruleT_rd (ns : List ByteArray) (r : S44) : ruleT ns r = sepT [32, 38, 32] rcT (rdR ns r).cs := sep_map [32, 38, 32] rcT (fun c : S41 => (c.f0, partsL ns c.f1)) r.f1
def prevI (rs : List S44) (i : Nat) : Int := if i = 0 then -1 else (rAt rs (i - 1)).f0
theorem rounds_tx (ns : List ByteArray) (rs : List S44) (h0 : ∀ r ∈ rs, 0 ≤ r.f0) : ∀ d i, i + d = rs.length → roundsT ns rs i ++ txR (prevI rs i) ((rs.drop i).map (rdR ns)) = roundsT ns rs rs.length := by
  intro d
  induction d with
  | zero =>
    intro i hi
    obtain rfl : i = rs.length := by omega
    rw [List.drop_length]
    exact List.append_nil _
  | succ d ih =>
    intro i hi
    have hlt : i < rs.length := by omega
    rw [← ih (i + 1) (by omega), List.drop_eq_getElem_cons hlt, List.map_cons]
    have hr : rAt rs i = rs[i] := rd_rule rs i hlt
    have e0 : prevI rs (i + 1) = rs[i].f0 := by
      unfold prevI
      rw [if_neg (by omega), show i + 1 - 1 = i from by omega, hr]
    have e1 : topR (prevI rs i) (rdR ns rs[i]) = topT ns rs i := by
      unfold topR topT prevI
      rw [hr]
      show (if (if i = 0 then (-1 : Int) else (rAt rs (i - 1)).f0) ≠ rs[i].f0 then (nmAt ns rs[i].f0).data.toList ++ [32, 61, 32] else [32, 124, 32]) = _
      by_cases hi0 : i = 0
      · have := h0 _ (List.getElem_mem hlt)
        rw [if_pos hi0, if_pos (by omega), if_pos (.inl hi0)]
      · rw [if_neg hi0]
        by_cases q : (rAt rs (i - 1)).f0 ≠ rs[i].f0
        · rw [if_pos q, if_pos (.inr q)]
        · rw [if_neg q, if_neg (fun h => h.elim hi0 q)]
    have e2 : botR (rdR ns rs[i]) ((rs.drop (i + 1)).map (rdR ns)) = botT rs i := by
      unfold botT
      rw [hr]
      by_cases he : i + 1 = rs.length
      · rw [if_pos (.inl he), he, List.drop_length]
        rfl
      · have hlt2 : i + 1 < rs.length := by omega
        rw [List.drop_eq_getElem_cons hlt2, show rAt rs (i + 1) = rs[i + 1] from rd_rule rs (i + 1) hlt2]
        show (if rs[i + 1].f0 ≠ rs[i].f0 then [59, 10] else []) = _
        by_cases q : rs[i + 1].f0 ≠ rs[i].f0
        · rw [if_pos q, if_pos (.inr q)]
        · rw [if_neg q, if_neg (fun h => h.elim he q)]
    show roundsT ns rs i ++ (topR (prevI rs i) (rdR ns rs[i]) ++ (sepT [32, 38, 32] rcT (rdR ns rs[i]).cs ++ (botR (rdR ns rs[i]) ((rs.drop (i + 1)).map (rdR ns)) ++ txR rs[i].f0 ((rs.drop (i + 1)).map (rdR ns))))) = (roundsT ns rs i ++ topT ns rs i ++ ruleT ns (rAt rs i) ++ botT rs i) ++ _
    rw [e0, e1, e2, ← ruleT_rd, hr]
    simp only [List.append_assoc]
theorem addP_okP (ns : List ByteArray) (hns : ∀ x ∈ ns, okNm x.data.toList) : ∀ (q : List S38) (P : List Part), (∀ p ∈ P, okP p) → (∀ s ∈ q, symB ns.length s = true) → ∀ p ∈ q.foldl (addP ns) P, okP p
  | [], P, hP, _ => hP
  | s :: q, P, hP, hq => by
    refine addP_okP ns hns q (addP ns P s) ?_ (fun x hx => hq x (List.mem_cons_of_mem _ hx))
    have hs := hq s List.mem_cons_self
    unfold addP
    split
    · rename_i h0
      intro p hp
      rcases List.mem_append.1 hp with hp | hp
      · exact hP p hp
      · rw [List.mem_singleton.1 hp]
        unfold symB at hs
        rw [if_neg (by omega)] at hs
        have := of_decide_eq_true hs
        refine hns _ ?_
        unfold nmAt
        rw [List.getD_eq_getElem?_getD, List.getElem?_eq_getElem (show s.f0.toNat < ns.length from by omega)]
        exact List.getElem_mem _
    · split
      · intro p hp
        rcases List.mem_append.1 hp with hp | hp
        · exact hP p hp
        · rw [List.mem_singleton.1 hp]
          trivial
      · split
        · intro p hp
          rcases List.mem_or_eq_of_mem_set hp with hp | rfl
          · exact hP p hp
          · trivial
        · intro p hp
          rcases List.mem_append.1 hp with hp | hp
          · exact hP p hp
          · rw [List.mem_singleton.1 hp]
            trivial
theorem partsL_ok (ns : List ByteArray) (hns : ∀ x ∈ ns, okNm x.data.toList) (q : List S38) (hq : ∀ s ∈ q, symB ns.length s = true) : partsL ns q ≠ [] ∧ ∀ p ∈ partsL ns q, okP p := by
  unfold partsL
  split
  · refine ⟨by simp, fun p hp => ?_⟩
    rw [List.mem_singleton.1 hp]
    trivial
  · rename_i h
    exact ⟨h, addP_okP ns hns q [] (fun p hp => by simp at hp) hq⟩
theorem conjB_all {n : Int} {c : S41} (h : conjB n c = true) : ∀ s ∈ c.f1, symB n s = true := by
  unfold conjB at h
  rw [Bool.and_eq_true] at h
  exact List.all_eq_true.1 h.2
theorem okR_of (ns : List ByteArray) (hns : ∀ x ∈ ns, okNm x.data.toList) (r : S44) (hr : ruleB ns.length r = true) (h0 : 0 ≤ r.f0) (h1 : r.f0 < ns.length) : okR (rdR ns r) := by
  refine ⟨?_, ?_, ?_⟩
  · refine hns _ ?_
    unfold nmAt
    rw [List.getD_eq_getElem?_getD, List.getElem?_eq_getElem (show r.f0.toNat < ns.length from by omega)]
    exact List.getElem_mem _
  · unfold ruleB at hr
    rw [Bool.and_eq_true, decide_eq_true_eq] at hr
    intro e
    have := congrArg List.length e
    unfold rdR at this
    simp at this
    have h2 := hr.1
    rw [this] at h2
    simp at h2
  · intro c hc
    obtain ⟨d, hd, rfl⟩ := List.mem_map.1 hc
    exact partsL_ok ns hns d.f1 (conjB_all (List.all_eq_true.1 (ruleB_all hr) d hd))
theorem step_of (ns : List ByteArray) (hns : ∀ x ∈ ns, okNm x.data.toList) : ∀ (rs : List S44) (head all : Int), rulesFrom ns.length head all rs = true → (∀ r ∈ rs, 0 ≤ r.f0) → stepR head (rs.map (rdR ns))
  | [], _, _, _, _ => trivial
  | r :: rs, head, all, h, h0 => by
    have hm := rulesFrom_mem _ _ _ _ h r List.mem_cons_self
    unfold rulesFrom at h
    rw [Bool.and_eq_true, Bool.and_eq_true, decide_eq_true_eq] at h
    obtain ⟨⟨h1, h2⟩, h3⟩ := h
    refine ⟨?_, okR_of ns hns r h1 (h0 r List.mem_cons_self) (by omega), step_of ns hns rs _ _ h3 (fun x hx => h0 x (List.mem_cons_of_mem _ hx))⟩
    show r.f0 = head ∨ r.f0 = head + 1
    omega
theorem nms_of (ns : List ByteArray) : ∀ (rs : List S44) (head all : Int), rulesFrom ns.length head all rs = true → -1 ≤ head → nmsR head (rs.map (rdR ns)) = (ns.drop (head + 1).toNat).map (fun x => x.data.toList)
  | [], head, all, h, hh => by
    unfold rulesFrom at h
    have h := eq_of_beq h
    rw [List.drop_eq_nil_iff.2 (by omega)]
    rfl
  | r :: rs, head, all, h, hh => by
    have hm := rulesFrom_mem _ _ _ _ h r List.mem_cons_self
    unfold rulesFrom at h
    rw [Bool.and_eq_true, Bool.and_eq_true, decide_eq_true_eq] at h
    obtain ⟨⟨h1, h2⟩, h3⟩ := h
    have ih := nms_of ns rs _ _ h3 (by omega)
    show (if head ≠ r.f0 then [(nmAt ns r.f0).data.toList] else []) ++ nmsR r.f0 (rs.map (rdR ns)) = _
    rw [ih]
    by_cases q : head ≠ r.f0
    · rw [if_pos q]
      have hlt : (head + 1).toNat < ns.length := by omega
      rw [List.drop_eq_getElem_cons hlt, List.map_cons]
      have e1 : r.f0.toNat = (head + 1).toNat := by omega
      have e2 : nmAt ns r.f0 = ns[(head + 1).toNat] := by
        unfold nmAt
        rw [e1, List.getD_eq_getElem?_getD, List.getElem?_eq_getElem hlt]
        rfl
      rw [e2, show (r.f0 + 1).toNat = (head + 1).toNat + 1 from by omega]
      rfl
    · rw [if_neg q, show r.f0 = head from by omega]
      rfl
/-! Symbols out of parts -/
def ixN (ns : List ByteArray) (s : ByteArray) : Int := ((ns.findIdx (fun x => decide (x = s)) : Nat) : Int)
theorem ixN_at {ns : List ByteArray} (hd : ns.Nodup) (i : Int) (h0 : 0 ≤ i) (h1 : i < ns.length) : ixN ns (nmAt ns i) = i := by
  have hlt : i.toNat < ns.length := by omega
  have e : nmAt ns i = ns[i.toNat] := by
    unfold nmAt
    rw [List.getD_eq_getElem?_getD, List.getElem?_eq_getElem hlt]
    rfl
  have : ns.findIdx (fun x => decide (x = ns[i.toNat])) = i.toNat := by
    rw [List.findIdx_eq hlt]
    refine ⟨by simp, fun j hj => ?_⟩
    rw [decide_eq_false_iff_not]
    intro e
    have := (List.getElem_inj (xs := ns) (h₀ := by omega) (h₁ := hlt) hd).1 e
    omega
  unfold ixN
  rw [e, this]
  omega
def expP (ns : List ByteArray) : Part → List S38
  | .call s => [⟨ixN ns s, 0, 0⟩]
  | .span a b => [⟨-1, (a.toNat : Int), (b.toNat : Int)⟩]
  | .single s => s.data.toList.map (fun b : UInt8 => ⟨-1, (b.toNat : Int), (b.toNat : Int)⟩)
theorem b8_nat (x : Int) (h0 : 0 ≤ x) (h1 : x ≤ 255) : ((b8 x).toNat : Int) = x := by
  unfold b8
  rw [show x.toNat.toUInt8.toNat = x.toNat % 256 from by simp]
  omega
theorem set_last {α : Type} (P : List α) (b c : α) (h : P.getLast? = some b) : ∃ Q, P = Q ++ [b] ∧ P.set (P.length - 1) c = Q ++ [c] := by
  obtain ⟨Q, rfl⟩ := List.getLast?_eq_some_iff.1 h
  exact ⟨Q, rfl, by simp⟩
theorem exp_add {ns : List ByteArray} (hd : ns.Nodup) (P : List Part) (s : S38) (hs : symB ns.length s = true) : (addP ns P s).flatMap (expP ns) = P.flatMap (expP ns) ++ [s] := by
  obtain ⟨a, b, c⟩ := s
  unfold symB at hs
  unfold addP
  dsimp only at hs ⊢
  by_cases h0 : 0 ≤ a
  · rw [if_neg (by omega)] at hs
    obtain ⟨h1, h2, rfl, rfl⟩ := of_decide_eq_true hs
    rw [if_pos h0, List.flatMap_append]
    show P.flatMap (expP ns) ++ [⟨ixN ns (nmAt ns a), 0, 0⟩] = _
    rw [ixN_at hd a h0 h2]
  · rw [if_neg h0]
    by_cases ha : a = -1
    · subst ha
      rw [if_pos rfl] at hs
      have hs := of_decide_eq_true hs
      by_cases hbc : b < c
      · rw [if_pos hbc, List.flatMap_append]
        show P.flatMap (expP ns) ++ [⟨-1, ((b8 b).toNat : Int), ((b8 c).toNat : Int)⟩] = _
        rw [b8_nat b (by omega) (by omega), b8_nat c (by omega) (by omega)]
      · obtain rfl : b = c := by omega
        rw [if_neg hbc]
        have eb := b8_nat b (by omega) (by omega)
        split
        · rename_i t ht
          obtain ⟨Q, rfl, e⟩ := set_last P _ (Part.single (t ++ ⟨#[b8 b]⟩)) ht
          rw [e, List.flatMap_append, List.flatMap_append, List.append_assoc]
          congr 1
          show (t ++ ⟨#[b8 b]⟩ : ByteArray).data.toList.map _ ++ [] = (t.data.toList.map _ ++ []) ++ _
          rw [ByteArray.data_append, Array.toList_append, List.map_append, List.append_nil, List.append_nil]
          show _ ++ [(⟨-1, ((b8 b).toNat : Int), ((b8 b).toNat : Int)⟩ : S38)] = _
          rw [eb]
        · rw [List.flatMap_append]
          show _ ++ [(⟨-1, ((b8 b).toNat : Int), ((b8 b).toNat : Int)⟩ : S38)] = _
          rw [eb]
    · rw [if_neg ha] at hs
      exact absurd (of_decide_eq_true hs).1 h0
theorem exp_adds {ns : List ByteArray} (hd : ns.Nodup) : ∀ (q : List S38) (P : List Part), (∀ s ∈ q, symB ns.length s = true) → (q.foldl (addP ns) P).flatMap (expP ns) = P.flatMap (expP ns) ++ q
  | [], P, _ => (List.append_nil _).symm
  | s :: q, P, h => by
    show (q.foldl (addP ns) (addP ns P s)).flatMap (expP ns) = _
    rw [exp_adds hd q _ (fun x hx => h x (List.mem_cons_of_mem _ hx)), exp_add hd P s (h s List.mem_cons_self), List.append_assoc]
    rfl
theorem exp_parts {ns : List ByteArray} (hd : ns.Nodup) (q : List S38) (h : ∀ s ∈ q, symB ns.length s = true) : (partsL ns q).flatMap (expP ns) = q := by
  have e : (addsP ns q).flatMap (expP ns) = q := exp_adds hd q [] h
  unfold partsL
  split
  · rename_i h0
    rw [h0] at e
    exact e
  · exact e
theorem conjs_inj {ns : List ByteArray} (hd : ns.Nodup) : ∀ (l m : List S41), (∀ c ∈ l, conjB ns.length c = true) → (∀ c ∈ m, conjB ns.length c = true) → l.map (fun c => (c.f0, partsL ns c.f1)) = m.map (fun c => (c.f0, partsL ns c.f1)) → l = m
  | [], [], _, _, _ => rfl
  | [], d :: m, _, _, h => by cases h
  | c :: l, [], _, _, h => by cases h
  | c :: l, d :: m, hl, hm, h => by
    rw [List.map_cons, List.map_cons] at h
    injection h with h1 h2
    injection h1 with h3 h4
    have e := congrArg (fun p => p.flatMap (expP ns)) h4
    rw [exp_parts hd _ (conjB_all (hl c List.mem_cons_self)), exp_parts hd _ (conjB_all (hm d List.mem_cons_self))] at e
    have ecd : c = d := by
      cases c
      cases d
      dsimp only at e h3
      rw [h3, e]
    rw [ecd, conjs_inj hd l m (fun x hx => hl x (List.mem_cons_of_mem _ hx)) (fun x hx => hm x (List.mem_cons_of_mem _ hx)) h2]
theorem rules_inj {ns : List ByteArray} (hd : ns.Nodup) : ∀ (l m : List S44), (∀ r ∈ l, ruleB ns.length r = true) → (∀ r ∈ m, ruleB ns.length r = true) → (l.map (rdR ns)).map (·.hd) = (m.map (rdR ns)).map (·.hd) → (l.map (rdR ns)).map (·.cs) = (m.map (rdR ns)).map (·.cs) → l = m
  | [], [], _, _, _, _ => rfl
  | [], d :: m, _, _, h, _ => by cases h
  | c :: l, [], _, _, h, _ => by cases h
  | c :: l, d :: m, hl, hm, h, k => by
    simp only [List.map_cons] at h k
    injection h with h1 h2
    injection k with k1 k2
    have e := conjs_inj hd c.f1 d.f1 (List.all_eq_true.1 (ruleB_all (hl c List.mem_cons_self))) (List.all_eq_true.1 (ruleB_all (hm d List.mem_cons_self))) k1
    have ecd : c = d := by
      cases c
      cases d
      dsimp only [rdR] at e h1
      rw [h1, e]
    rw [ecd, rules_inj hd l m (fun x hx => hl x (List.mem_cons_of_mem _ hx)) (fun x hx => hm x (List.mem_cons_of_mem _ hx)) h2 k2]
theorem names_inj : ∀ (l m : List ByteArray), l.map (fun x => x.data.toList) = m.map (fun x => x.data.toList) → l = m
  | [], [], _ => rfl
  | [], d :: m, h => by cases h
  | c :: l, [], h => by cases h
  | c :: l, d :: m, h => by
    rw [List.map_cons, List.map_cons] at h
    injection h with h1 h2
    rw [ba_of h1, names_inj l m h2]
/-- What a grammar that may be is, for this purpose. -/
theorem may_parts {st : Int} {ns : List ByteArray} {rs : List S44} (h : mayB st ns rs = true) : (∀ x ∈ ns, okNm x.data.toList) ∧ ns.Nodup ∧ 0 ≤ st ∧ st < ns.length ∧ rulesFrom ns.length (-1) 0 rs = true ∧ (∀ r ∈ rs, 0 ≤ r.f0) ∧ (∀ r ∈ rs, ruleB ns.length r = true) := by
  unfold mayB at h
  rw [Bool.and_eq_true, Bool.and_eq_true, Bool.and_eq_true] at h
  obtain ⟨⟨⟨h1, h2⟩, h3⟩, h4⟩ := h
  unfold namesOk at h1
  rw [Bool.and_eq_true] at h1
  obtain ⟨a, _, c⟩ := namesFrom_all ns [] h1.2
  have h2 := of_decide_eq_true h2
  have h4 := of_decide_eq_true h4
  have hm := rulesFrom_mem _ _ _ _ h3
  refine ⟨fun x hx => okNm_of (a x hx), c, h2.1, h2.2.1, h3, ?_, fun r hr => (hm r hr).1⟩
  cases rs with
  | nil => exact fun r hr => by simp at hr
  | cons r0 rs =>
    have h0 : r0.f0 = 0 := h4
    unfold rulesFrom at h3
    rw [Bool.and_eq_true] at h3
    have hm2 := rulesFrom_mem _ _ _ _ h3.2
    intro r hr
    rcases List.mem_cons.1 hr with rfl | hr
    · omega
    · have := (hm2 r hr).2.1
      omega
theorem show_inj {st st' : Int} {ns ns' : List ByteArray} {rs rs' : List S44} (h : mayB st ns rs = true) (h' : mayB st' ns' rs' = true) (e : showT st ns rs = showT st' ns' rs') : st = st' ∧ ns = ns' ∧ rs = rs' := by
  obtain ⟨a1, a2, a3, a4, a5, a6, a7⟩ := may_parts h
  obtain ⟨b1, b2, b3, b4, b5, b6, b7⟩ := may_parts h'
  have mem : ∀ (st : Int) (ns : List ByteArray), 0 ≤ st → st < ns.length → nmAt ns st ∈ ns := fun st ns h0 h1 => by
    unfold nmAt
    rw [List.getD_eq_getElem?_getD, List.getElem?_eq_getElem (show st.toNat < ns.length from by omega)]
    exact List.getElem_mem _
  unfold showT headT at e
  simp only [List.append_assoc] at e
  have e := (List.append_inj e rfl).2
  obtain ⟨n1, e⟩ := nm_uni _ _ _ _ (a1 _ (mem st ns a3 a4)).2 (b1 _ (mem st' ns' b3 b4)).2 ⟨59, _, rfl, by decide⟩ ⟨59, _, rfl, by decide⟩ e
  have e := (List.append_inj (s₁ := [59, 10]) (s₂ := [59, 10]) e rfl).2
  rw [← rounds_tx ns rs a6 rs.length 0 (by omega), ← rounds_tx ns' rs' b6 rs'.length 0 (by omega)] at e
  have e : txR (-1) (rs.map (rdR ns)) = txR (-1) (rs'.map (rdR ns')) := e
  obtain ⟨u1, u2, u3⟩ := tx_uni _ _ (-1) (step_of ns a1 rs _ _ a5 a6) (step_of ns' b1 rs' _ _ b5 b6) e
  rw [nms_of ns rs _ _ a5 (by omega), nms_of ns' rs' _ _ b5 (by omega)] at u3
  have en : ns = ns' := names_inj _ _ u3
  subst en
  have hst : st = st' := by
    rw [← ixN_at a2 st a3 a4, ← ixN_at a2 st' b3 b4, ba_of n1]
  exact ⟨hst, rfl, rules_inj a2 rs rs' a7 b7 u1 u2⟩
end Go.Proofs.Ytimmkmfcpfjgfaa.PSU
