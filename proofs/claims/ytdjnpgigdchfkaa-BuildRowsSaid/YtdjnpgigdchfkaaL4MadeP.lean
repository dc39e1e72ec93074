/- Layer 4, plain: what the program makes of declarations: symbols, conjuncts, rules; the first item that a question says no to. -/
import Derived.Test.YtdjnpgigdchfkaaL4Plain
import Derived.Test.YtdjnpgigdchfkaaPBRx4
import Derived.Test.YtdjnpgigdchfkaaPBRx2
namespace Go.Proofs.Ytdjnpgigdchfkaa.PBR
open Go.RowKit Go.Proofs.YtdjnpgigdchfkaaW.PrintWords Go.Proofs.YtdjnpgigdchfkaaW.PrintLast
set_option linter.unusedVariables false
set_option linter.unusedSimpArgs false
theorem rd_def (xs : List S45) (i : Nat) (h : i < xs.length) : rd_T45 xs (i : Int) = xs[i] := by
  unfold rd_T45
  rw [Int.toNat_natCast, List.getD_eq_getElem?_getD, List.getElem?_eq_getElem h]
  rfl
theorem rd_rconj (xs : List S64) (i : Nat) (h : i < xs.length) : rd_T64 xs (i : Int) = xs[i] := by
  unfold rd_T64
  rw [Int.toNat_natCast, List.getD_eq_getElem?_getD, List.getElem?_eq_getElem h]
  rfl
theorem rd_item (xs : List S61) (i : Nat) (h : i < xs.length) : rd_T61 xs (i : Int) = xs[i] := by
  unfold rd_T61
  rw [Int.toNat_natCast, List.getD_eq_getElem?_getD, List.getElem?_eq_getElem h]
  rfl
theorem rd_alt (xs : List (List S64)) (i : Nat) (h : i < xs.length) : rd_L11 xs (i : Int) = xs[i] := by
  unfold rd_L11
  rw [Int.toNat_natCast, List.getD_eq_getElem?_getD, List.getElem?_eq_getElem h]
  rfl
/-- A loop that counts upward, told from its end. -/
theorem ev_down {α : Type} {l : Nat → Nat → Option α} {n : Nat} {R : α} (hb : Ev (fun k => l k n) R) (hs : ∀ i, i < n → Ev (fun k => l k (i + 1)) R → Ev (fun k => l k i) R) : ∀ i, i ≤ n → Ev (fun k => l k i) R := by
  have key : ∀ d i, i + d = n → Ev (fun k => l k i) R := by
    intro d
    induction d with
    | zero =>
      intro i hi
      obtain rfl : i = n := by omega
      exact hb
    | succ d ih =>
      intro i hi
      exact hs i (by omega) (ih (i + 1) (by omega))
  intro i hi
  exact key (n - i) i (by omega)
theorem wrap_byte (s : ByteArray) (i : Int) : wrap64 (bt s i) = bt s i := by
  have := bt_range s i
  unfold wrap64
  omega
def symsL (m : MapP) (x : S61) : List S56 :=
  if x.f0 = 0 then [⟨mget m x.f1, 0, 0⟩] else if x.f0 = 1 then (List.range x.f1.size).map (fun i : Nat => ⟨-1, bt x.f1 (i : Int), bt x.f1 (i : Int)⟩) else if x.f0 = 2 then [⟨-1, x.f2, x.f3⟩] else [⟨-1, -1, 0⟩]
theorem range_snoc {α : Type} (f : Nat → α) (n : Nat) : (List.range (n + 1)).map f = (List.range n).map f ++ [f n] := by
  rw [List.range_succ, List.map_append]
  rfl
theorem symbols_ev (l : List S61) (m : MapP) (i : Nat) (hi : i < l.length) (hs : l[i].f1.size < 5864062014805) : Ev (fun k => gram_symbols.f k l (i : Int) m) (symsL m l[i]) := by
  have e := rd_item l i hi
  unfold gram_symbols.f symsL
  refine Ev.congr (f := fun k => if l[i].f0 = 0 then some [⟨mget m l[i].f1, 0, 0⟩] else if l[i].f0 = 1 then gram_symbols.l0 k l (i : Int) [] (l[i].f1.size : Int) 0 else if l[i].f0 = 2 then some [⟨-1, l[i].f2, l[i].f3⟩] else some [⟨-1, -1, 0⟩]) (fun k => ?_) ?_
  · rw [if_pos (by omega), if_pos (by omega), e]
  by_cases h0 : l[i].f0 = 0
  · simp only [h0, if_true]
    exact Ev.now _
  by_cases h1 : l[i].f0 = 1
  · simp only [h1, if_true]
    rw [if_neg (by decide)]
    have key := ev_down (l := fun k j => gram_symbols.l0 k l (i : Int) ((List.range j).map (fun q : Nat => ⟨-1, bt l[i].f1 (q : Int), bt l[i].f1 (q : Int)⟩)) (l[i].f1.size : Int) (j : Int)) (n := l[i].f1.size) (R := (List.range l[i].f1.size).map (fun q : Nat => ⟨-1, bt l[i].f1 (q : Int), bt l[i].f1 (q : Int)⟩))
      (Ev.step (f := fun _ => some _) (fun k => by simp only [gram_symbols.l0]; rw [if_neg (by omega)]) (Ev.now _))
      (fun j hj h => Ev.step (fun k => by simp only [gram_symbols.l0]; rw [e, if_pos (by omega), if_pos (by omega), if_pos (by omega), if_pos (by omega), if_pos (by omega), List.length_map, List.length_range, if_pos (by omega), wrap_byte, wrap_nat j (by omega), range_snoc]) h) 0 (by omega)
    exact key
  by_cases h2 : l[i].f0 = 2
  · simp only [h2, if_true]
    rw [if_neg (by decide), if_neg (by decide)]
    exact Ev.now _
  · simp only [h0, h1, h2, if_false]
    exact Ev.now _
def conjL (m : MapP) (c : S64) : S54 := ⟨c.f0, c.f1.flatMap (symsL m)⟩
def altL (m : MapP) (i : Nat) (a : List S64) : S51 := ⟨(i : Int), a.map (conjL m)⟩
def rulesL (m : MapP) : Nat → List S45 → List S51
  | _, [] => []
  | i, d :: ds => d.f1.map (altL m i) ++ rulesL m (i + 1) ds
/-- What is declared is small. -/
structure RawSmall (l : List S45) : Prop where
  defs : l.length ≤ 1048576
  rules : (l.map (fun d => d.f1.length)).sum ≤ 1048576
  conjs : ∀ d ∈ l, ∀ a ∈ d.f1, a.length ≤ 1048576
  syms : ∀ d ∈ l, ∀ a ∈ d.f1, ∀ c ∈ a, c.f1.length ≤ 1048576 ∧ (∀ m : MapP, (c.f1.flatMap (symsL m)).length ≤ 1048576) ∧ ∀ x ∈ c.f1, x.f1.size ≤ 1048576
section
variable (m : MapP) (l1 : List S45) (st : Int) (nm : List ByteArray)
theorem made_l3 (x6 x28 x29 x43 x44 x51 x52 h : Int) (d1 : List (List S64)) (alt : List S64) (rl : List S51) (ca : List S54) (c : S64) (R : Int × List ByteArray × List S51)
    (h1 : c.f1.length ≤ 1048576) (h2 : (c.f1.flatMap (symsL m)).length ≤ 1048576) (h3 : ∀ x ∈ c.f1, x.f1.size ≤ 1048576) (hca : ca.length ≤ 1048576)
    (hn : Ev (fun k => gram_made.l2 k m x6 l1 x28 x29 d1 x43 x44 alt x51 (wrap64 (x52 + 1)) st nm rl h (ca ++ [conjL m c])) R) :
    Ev (fun k => gram_made.l3 k m x6 l1 x28 x29 d1 x43 x44 alt x51 x52 (c.f1.length : Int) 0 st nm rl h ca c.f0 c.f1 c.f0 []) R := by
  refine ev_down (l := fun k j => gram_made.l3 k m x6 l1 x28 x29 d1 x43 x44 alt x51 x52 (c.f1.length : Int) (j : Int) st nm rl h ca c.f0 c.f1 c.f0 ((c.f1.take j).flatMap (symsL m))) (n := c.f1.length) ?_ ?_ 0 (by omega)
  · refine Ev.step (fun k => ?_) hn
    simp only [gram_made.l3]
    rw [if_neg (by omega), if_pos (by omega), List.take_length]
    rfl
  · intro j hj ih
    obtain ⟨K, hK⟩ := symbols_ev c.f1 m j hj (by have := h3 _ (List.getElem_mem hj); omega)
    obtain ⟨K2, hK2⟩ := ih
    refine ⟨K + K2 + 1, fun k hk => ?_⟩
    obtain ⟨k, rfl⟩ : ∃ q, k = q + 1 := ⟨k - 1, by omega⟩
    have hlen : ((c.f1.take j).flatMap (symsL m)).length + (symsL m c.f1[j]).length < 5864062014805 := by
      have e : c.f1.flatMap (symsL m) = (c.f1.take (j + 1)).flatMap (symsL m) ++ (c.f1.drop (j + 1)).flatMap (symsL m) := by rw [← List.flatMap_append, List.take_append_drop]
      have e2 : (c.f1.take (j + 1)).flatMap (symsL m) = (c.f1.take j).flatMap (symsL m) ++ symsL m c.f1[j] := by rw [List.take_succ_eq_append_getElem hj, List.flatMap_append]; simp
      rw [e, e2, List.length_append, List.length_append] at h2
      omega
    show gram_made.l3 (k + 1) _ _ _ _ _ _ _ _ _ _ _ _ _ _ _ _ _ _ _ _ _ _ = _
    simp only [gram_made.l3]
    rw [if_pos (by omega), if_pos (by omega), if_pos (by omega), (show gram_symbols.f k c.f1 (j : Int) m = _ from hK k (by omega)), Option.bind_some, if_pos hlen, wrap_nat j (by omega)]
    have := hK2 k (by omega)
    rw [List.take_succ_eq_append_getElem hj, List.flatMap_append] at this
    simpa using this
theorem made_l2 (x6 x28 x29 x43 x44 h : Int) (d1 : List (List S64)) (alt : List S64) (rl : List S51) (R : Int × List ByteArray × List S51)
    (h0 : alt.length ≤ 1048576) (h1 : ∀ c ∈ alt, c.f1.length ≤ 1048576 ∧ (c.f1.flatMap (symsL m)).length ≤ 1048576 ∧ ∀ x ∈ c.f1, x.f1.size ≤ 1048576) (hrl : rl.length ≤ 1048576)
    (hn : Ev (fun k => gram_made.l1 k m x6 l1 x28 x29 d1 x43 (wrap64 (x44 + 1)) st nm (rl ++ [⟨h, alt.map (conjL m)⟩])) R) :
    Ev (fun k => gram_made.l2 k m x6 l1 x28 x29 d1 x43 x44 alt (alt.length : Int) 0 st nm rl h []) R := by
  refine ev_down (l := fun k j => gram_made.l2 k m x6 l1 x28 x29 d1 x43 x44 alt (alt.length : Int) (j : Int) st nm rl h ((alt.take j).map (conjL m))) (n := alt.length) ?_ ?_ 0 (by omega)
  · refine Ev.step (fun k => ?_) hn
    simp only [gram_made.l2]
    rw [if_neg (by omega), if_pos (by omega), List.take_length]
  · intro j hj ih
    obtain ⟨a1, a2, a3⟩ := h1 _ (List.getElem_mem hj)
    refine Ev.step (fun k => ?_) (made_l3 m l1 st nm x6 x28 x29 x43 x44 (alt.length : Int) (j : Int) h d1 alt rl ((alt.take j).map (conjL m)) alt[j] R a1 a2 a3 (by rw [List.length_map, List.length_take]; omega) ?_)
    · simp only [gram_made.l2]
      rw [if_pos (by omega), if_pos (by omega), if_pos (by omega), rd_rconj alt j hj]
    · rw [wrap_nat j (by omega)]
      rw [List.take_succ_eq_append_getElem hj, List.map_append] at ih
      exact ih
theorem made_l1 (i : Nat) (x28 x29 : Int) (d1 : List (List S64)) (rl : List S51) (R : Int × List ByteArray × List S51)
    (h0 : rl.length + d1.length ≤ 1048576) (h1 : ∀ a ∈ d1, a.length ≤ 1048576 ∧ ∀ c ∈ a, c.f1.length ≤ 1048576 ∧ (c.f1.flatMap (symsL m)).length ≤ 1048576 ∧ ∀ x ∈ c.f1, x.f1.size ≤ 1048576)
    (hn : Ev (fun k => gram_made.l0 k m l1 x28 (wrap64 (x29 + 1)) st nm (rl ++ d1.map (altL m i))) R) :
    Ev (fun k => gram_made.l1 k m (i : Int) l1 x28 x29 d1 (d1.length : Int) 0 st nm rl) R := by
  refine ev_down (l := fun k j => gram_made.l1 k m (i : Int) l1 x28 x29 d1 (d1.length : Int) (j : Int) st nm (rl ++ (d1.take j).map (altL m i))) (n := d1.length) ?_ ?_ 0 (by omega) |> fun h => by simpa using h
  · refine Ev.step (fun k => ?_) hn
    simp only [gram_made.l1]
    rw [if_neg (by omega), List.take_length]
  · intro j hj ih
    obtain ⟨a0, a1⟩ := h1 _ (List.getElem_mem hj)
    refine Ev.step (fun k => ?_) (made_l2 m l1 st nm (i : Int) x28 x29 (d1.length : Int) (j : Int) (i : Int) d1 d1[j] (rl ++ (d1.take j).map (altL m i)) R a0 a1 (by rw [List.length_append, List.length_map, List.length_take]; omega) ?_)
    · simp only [gram_made.l1]
      rw [if_pos (by omega), if_pos (by omega), if_pos (by omega), rd_alt d1 j hj]
    · rw [wrap_nat j (by omega)]
      rw [List.take_succ_eq_append_getElem hj, List.map_append, ← List.append_assoc] at ih
      exact ih
end
theorem rulesL_append (m : MapP) : ∀ (a b : List S45) (i : Nat), rulesL m i (a ++ b) = rulesL m i a ++ rulesL m (i + a.length) b
  | [], b, i => by simp [rulesL]
  | d :: a, b, i => by
    rw [List.cons_append]
    show d.f1.map (altL m i) ++ rulesL m (i + 1) (a ++ b) = (d.f1.map (altL m i) ++ rulesL m (i + 1) a) ++ rulesL m (i + (d :: a).length) b
    rw [rulesL_append m a b (i + 1), List.append_assoc, List.length_cons, show i + 1 + a.length = i + (a.length + 1) from by omega]
theorem rulesL_length (m : MapP) : ∀ (a : List S45) (i : Nat), (rulesL m i a).length = (a.map (fun d => d.f1.length)).sum
  | [], i => rfl
  | d :: a, i => by
    unfold rulesL
    rw [List.length_append, List.length_map, rulesL_length m a (i + 1), List.map_cons, List.sum_cons]
theorem made_ev (m : MapP) (l0 : List ByteArray) (l1 : List S45) (h0 : 0 < l0.length) (hs : RawSmall l1) :
    Ev (fun k => gram_made.f k l0 l1 m) (mget m (rdOf ByteArray.empty l0 0), l1.map (·.f0), rulesL m 0 l1) := by
  refine Ev.congr (f := fun k => gram_made.l0 k m l1 (l1.length : Int) 0 (mget m (rdOf ByteArray.empty l0 0)) [] []) (fun k => ?_) ?_
  · unfold gram_made.f
    rw [if_pos (by omega)]
  refine ev_down (l := fun k j => gram_made.l0 k m l1 (l1.length : Int) (j : Int) (mget m (rdOf ByteArray.empty l0 0)) ((l1.take j).map (·.f0)) (rulesL m 0 (l1.take j))) (n := l1.length) ?_ ?_ 0 (by omega)
  · refine Ev.step (f := fun _ => some _) (fun k => ?_) (Ev.now _)
    simp only [gram_made.l0]
    rw [if_neg (by omega), List.take_length]
  · intro j hj ih
    have hd := hs.defs
    have hm := List.getElem_mem hj
    have hr := hs.rules
    have e1 : (l1.map (fun d => d.f1.length)).sum = ((l1.take (j + 1)).map (fun d => d.f1.length)).sum + ((l1.drop (j + 1)).map (fun d => d.f1.length)).sum := by rw [← List.sum_append, ← List.map_append, List.take_append_drop]
    have e2 : ((l1.take (j + 1)).map (fun d => d.f1.length)).sum = ((l1.take j).map (fun d => d.f1.length)).sum + l1[j].f1.length := by rw [List.take_succ_eq_append_getElem hj, List.map_append, List.sum_append]; simp
    refine Ev.step (fun k => ?_) (made_l1 m l1 (mget m (rdOf ByteArray.empty l0 0)) ((l1.take j).map (·.f0) ++ [l1[j].f0]) j (l1.length : Int) (j : Int) l1[j].f1 (rulesL m 0 (l1.take j)) _ (by rw [rulesL_length]; omega) (fun a ha => ⟨hs.conjs _ hm a ha, fun c hc => ⟨(hs.syms _ hm a ha c hc).1, (hs.syms _ hm a ha c hc).2.1 m, (hs.syms _ hm a ha c hc).2.2⟩⟩) ?_)
    · simp only [gram_made.l0]
      rw [if_pos (by omega), if_pos (by omega), if_pos (by omega), List.length_map, List.length_take, if_pos (by omega), rd_def l1 j hj]
    · rw [wrap_nat j (by omega)]
      rw [List.take_succ_eq_append_getElem hj, List.map_append, rulesL_append, List.length_take, Nat.min_eq_left (by omega)] at ih
      simpa [rulesL] using ih
end Go.Proofs.Ytdjnpgigdchfkaa.PBR
