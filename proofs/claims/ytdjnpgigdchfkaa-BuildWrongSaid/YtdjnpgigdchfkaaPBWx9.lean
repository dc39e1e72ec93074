-- written by a program of the session's (wip/myprint.py) out of the translation
import Derived.Test.YtdjnpgigdchfkaaPBWx0
import Derived.Test.YtdjnpgigdchfkaaPBWx6
import Derived.Test.YtdjnpgigdchfkaaPBWx8
namespace Go.Proofs.Ytdjnpgigdchfkaa.PBW
open Go.RowKit Go.Proofs.YtdjnpgigdchfkaaW.PrintWords Go.Proofs.YtdjnpgigdchfkaaW.PrintLast Go.Proofs.YtdjnpgigdchfkaaW.PrintMore
attribute [local go_sem] max2_int min2_int max_two min_two max_three min_three max_four min_four   -- for this text's walks alone
set_option linter.unusedVariables false
set_option linter.unusedSimpArgs false

/-! ### templelaw4_BuildWrong: function 8 -/
def bwr13.T13 : Bool × List (List Nat × List Nat) := (true, [([], []), ([0], [0]), ([1], [1]), ([2], [2]), ([3], [3]), ([4], [4]), ([5], [5]), ([], []), ([7], [7]), ([8], [8]), ([9], [9]), ([10], [10]), ([11], [11]), ([12], [12]), ([13], [13]), ([14], [14]), ([15], [15]), ([], []), ([17], [17]), ([16, 18], [16, 18]), ([6, 0, 1, 2, 3, 4, 5, 6, 7, 8, 9, 10, 11, 12, 13, 14, 15, 16, 17, 18, 19], [6]), ([20, 0, 1, 2, 3, 4, 5, 6, 7, 8, 9, 10, 11, 12, 13, 14, 15, 16, 17, 18, 19], [20]), ([21, 19, 19, 0, 1, 2, 3, 4, 5, 6, 7, 8, 9, 10, 11, 12, 13, 14, 15, 16, 17, 18, 19], [19, 21])])
def bwr13.B13 : List Nat := [0, 1, 3, 7, 15, 31, 63, 0, 128, 384, 896, 1920, 3968, 8064, 16256, 32640, 65408, 0, 131072, 524160, 1048575, 2097151, 4194303]
theorem bwr13.tab13 : rtab .any (opsOf Try.f8 13) = bwr13.T13 := by kernel_rfl
theorem bwr13.bits13 : waitsOk bwr13.T13.2 bwr13.B13 = true := by kernel_rfl
def bwr6.T6 : Bool × List (List Nat × List Nat) := (true, [([], []), ([0], [0]), ([1], [1]), ([2], [2]), ([3], [3]), ([], []), ([4, 0, 1, 2, 3, 4, 5], [4]), ([6, 5, 0, 1, 2, 3, 4, 5], [5, 6])])
def bwr6.B6 : List Nat := [0, 1, 3, 7, 15, 0, 63, 127]
theorem bwr6.tab6 : rtab .any (opsOf Try.f8 6) = bwr6.T6 := by kernel_rfl
theorem bwr6.bits6 : waitsOk bwr6.T6.2 bwr6.B6 = true := by kernel_rfl
/-- A row of its own: what it says leans on its own block alone. -/
def RowT {α : Type} (d : Kd α) (e : Nat) (w : World) (base : Nat) (v : Value) (xs : List α) : Prop := d.R e w base (fun k => some k = v.ownBlock) v xs
theorem RowT.of {α : Type} {d : Kd α} {e base : Nat} {w : World} {ok : Nat → Prop} {v : Value} {xs : List α} (hE : d.E = []) (h : d.R e w base ok v xs) : RowT d e w base v xs := Kd.R_tight hE h
theorem RowT.box {α : Type} {d : Kd α} {e base : Nat} {w w1 : World} {v : Value} {xs : List α} (h : RowT d e w base v xs) (hb : Below w.heap.size w w1) : RowT d e w1 base v xs := Kd.R_below h hb
theorem RowT.lit {α : Type} {d : Kd α} {e base : Nat} {w w1 : World} {v : Value} {xs : List α} (h : RowT d e w base v xs) (hg : w.grownBy w1 none) : RowT d e w1 base v xs := Kd.R_step h (fun k _ hlt => hg.block k hlt (by simp))
theorem RowT.other {α β : Type} {d : Kd α} {d' : Kd β} {e e' base : Nat} {w w1 : World} {v v' : Value} {xs : List α} {ys : List β} (h : RowT d e w base v xs) (h' : RowT d' e' w base v' ys) (hne : e ≠ e') (hg : w.grownBy w1 v'.ownBlock) : RowT d e w1 base v xs :=
 Kd.R_step h (fun k hk hlt => hg.block k hlt (fun he => by
  obtain ⟨c1, h1⟩ := Kd.R_typed h k hk.symm
  obtain ⟨c2, h2⟩ := Kd.R_typed h' k he.symm
  rw [h1] at h2
  injection h2 with h2
  injection h2 with _ h2
  exact hne h2))
theorem RowT.set {α : Type} {d : Kd α} {e t base : Nat} {w : World} {v : Value} {xs : List α} (h : RowT d e w base v xs) {g : Nat} {cs : Array Value} (hg : w.heap[g]? = some (.cells cs t (0, 0))) (hne : e ≠ t) (j : Nat) (u : Value) : RowT d e (w.setCell ⟨g, j, none⟩ u) base v xs :=
 Kd.R_far h (fun k hk => fun he => by
  have he : k = g := he
  obtain ⟨c1, h1⟩ := Kd.R_typed h k hk.symm
  rw [he, hg] at h1
  injection h1 with h1
  injection h1 with _ h1
  exact hne h1.symm) u
/-- Two rows' cells, told again as what they say. -/
theorem rows_C {α : Type} {d : Kd α} {w : World} {A : Option Addr} {xs ys : List α} {rows rows' : List (List Value)} (hl : rows.length = xs.length) (hl' : rows'.length = ys.length) (h : (Kd.raw d.sz).C w A (rows ++ rows').length (rows ++ rows'))
  (h1 : ∀ (j : Nat) (x : α) (c : List Value), xs[j]? = some x → rows[j]? = some c → d.K w x c) (h2 : ∀ (j : Nat) (x : α) (c : List Value), ys[j]? = some x → rows'[j]? = some c → d.K w x c) : d.C w A (xs ++ ys).length (xs ++ ys) := by
 obtain ⟨h3, h4, h5⟩ := h
 have e : (rows ++ rows').length = (xs ++ ys).length := by rw [List.length_append, List.length_append, hl, hl']
 refine ⟨rfl, by rw [← e]; exact h4, fun hn => ?_⟩
 obtain ⟨ad, hA, hc⟩ := h5 (by rw [e]; exact hn)
 refine ⟨ad, hA, fun j p hp => ?_⟩
 have hj : j < (xs ++ ys).length := (List.getElem?_eq_some_iff.1 hp).1
 have hr : (rows ++ rows')[j]? = some ((rows ++ rows')[j]'(by omega)) := List.getElem?_eq_getElem (by omega)
 obtain ⟨c, g1, ⟨rfl, _, _⟩, g2⟩ := hc j _ hr
 refine ⟨_, g1, ?_, g2⟩
 rcases Nat.lt_or_ge j xs.length with hx | hx
 ·rw [List.getElem?_append_left hx] at hp
  rw [List.getElem?_append_left (by omega)] at hr
  exact h1 j p _ hp hr
 ·rw [List.getElem?_append_right hx] at hp
  rw [List.getElem?_append_right (by omega), hl] at hr
  exact h2 _ p _ hp hr
theorem bw_X {W : World} {gC gI gS gI1 gC1 gD gB : Nat} (hI : W.heap[gI]? = some (.cells #[.int .i64 0, .string ⟨#[84]⟩, .int .i64 0, .int .i64 0] 61 (0, 0))) (hC : W.heap[gC]? = some (.cells #[.bool false, .slice (some ⟨gI, 0, none⟩) 1 1] 64 (0, 0))) (n1 : gI ≠ gS ∧ gI ≠ gI1 ∧ gI ≠ gC1 ∧ gI ≠ gD ∧ gI ≠ gB) (n2 : gC ≠ gS ∧ gC ≠ gI1 ∧ gC ≠ gC1 ∧ gC ≠ gD ∧ gC ≠ gB) :
  Kd.F k64 W (fun k => k ≠ gS ∧ k ≠ gI1 ∧ k ≠ gC1 ∧ k ≠ gD ∧ k ≠ gB) (some ⟨gC, 0, none⟩) 1 [⟨false, [⟨0, ⟨#[84]⟩, 0, 0⟩]⟩] := fun W' h => by
 have hI' := (h gI n1 (blk_lt hI)).trans hI
 have hC' := (h gC n2 (blk_lt hC)).trans hC
 have c1 : Kd.C k61 W' (some ⟨gI, 0, none⟩) [(⟨0, ⟨#[84]⟩, 0, 0⟩ : S61)].length [⟨0, ⟨#[84]⟩, 0, 0⟩] := C_lit hI' (Reps.c4 (k61_mk W' ⟨0, ⟨#[84]⟩, 0, 0⟩) (Reps.none _ _)) (by decide)
 exact C_lit hC' (Reps.c2 (k64_mk W' ⟨false, [⟨0, ⟨#[84]⟩, 0, 0⟩]⟩ (by decide) c1) (Reps.none _ _)) (by decide)
/-- A row that lies whole in its block is a row of its own. -/
theorem bw_row {α : Type} {d : Kd α} {e base : Nat} {w : World} {g : Nat} {cs : Array Value} {xs : List α} {n : Nat} (hg : w.heap[g]? = some (.cells cs e (0, 0))) (hb : base ≤ g) (hn : n = xs.length) (hr : Reps (d.M w base (fun _ => False)) d.sz xs cs.toList) (hl : xs.length ≤ 1000) : d.R e w base (fun k => k = g) (.slice (some ⟨g, 0, none⟩) n n) xs := by
 subst hn
 refine ⟨fun k hk => ?_, cs.toList, ⟨hr.1, .inr ⟨g, xs.length, cs, rfl, hb, hg, Nat.le_refl _, ?_, ?_, ?_⟩⟩, hr.imp_ (fun _ _ hp => d.M_mono (fun _ h => h.elim) hp)⟩
 ·simpa [Value.ownBlock] using hk.symm
 ·exact Nat.le_trans hl (by decide)
 ·rw [← Array.length_toList, hr.1]
 ·rw [← hr.1, List.take_length]
theorem bw_item {w : World} {g : Nat} {s : ByteArray} {k lo hi : Int} (h : w.heap[g]? = some (.cells #[.int .i64 k, .string s, .int .i64 lo, .int .i64 hi] 61 (0, 0))) : Kd.C k61 w (some ⟨g, 0, none⟩) [(⟨k, s, lo, hi⟩ : S61)].length [⟨k, s, lo, hi⟩] := C_lit h (Reps.c4 (k61_mk w ⟨k, s, lo, hi⟩) (Reps.none _ _)) (by simp)
theorem bw_raw {w : World} {A B : Option Addr} {n c m d : Nat} : Reps ((Kd.raw 2).M w 0 (fun _ => False)) 2 [[.string ⟨#[83]⟩, .slice A n c], [.string ⟨#[84]⟩, .slice B m d]] [.string ⟨#[83]⟩, .slice A n c, .string ⟨#[84]⟩, .slice B m d] :=
 Reps.c2 ⟨rfl, rfl, by simp [Value.oneCell']⟩ (Reps.c2 ⟨rfl, rfl, by simp [Value.oneCell']⟩ (Reps.none _ _))
theorem bw_info64 : (Try.prog.info? 64).map (fun i => (i.zero, i.size, i.bytes)) = some (some (.agg #[.bool false, .slice none 0 0]), 2, 32) := by kernel_rfl
theorem bw_info61 : (Try.prog.info? 61).map (fun i => (i.zero, i.size, i.bytes)) = some (some (.agg #[.int .i64 0, .string ⟨#[]⟩, .int .i64 0, .int .i64 0]), 4, 40) := by kernel_rfl
theorem bw_info45 : (Try.prog.info? 45).map (fun i => (i.zero, i.size, i.bytes)) = some (some (.agg #[.string ⟨#[]⟩, .slice none 0 0]), 2, 40) := by kernel_rfl
theorem bw_info9 : (Try.prog.info? 9).map (fun i => (i.zero, i.size, i.bytes)) = some (some (.string ⟨#[]⟩), 1, 16) := by kernel_rfl
theorem bw_two {α : Type} {d : Kd α} {w : World} {x y : α} {c e : List Value} (h : d.K w x c) (h' : d.K w y e) : ∀ (j : Nat) (z : α) (u : List Value), [x, y][j]? = some z → [c, e][j]? = some u → d.K w z u
 | 0, z, u, h1, h2 => by
  obtain rfl := Option.some.inj h1
  obtain rfl := Option.some.inj h2
  exact h
 | 1, z, u, h1, h2 => by
  obtain rfl := Option.some.inj h1
  obtain rfl := Option.some.inj h2
  exact h'
 | j + 2, z, u, h1, h2 => by simp at h1
theorem bw_defs {W : World} {gA0 gC1 gA1 : Nat} {A B : Option Addr} {n c m d : Nat} {X : List S64} {I : List S61} (h0 : W.heap[gA0]? = some (.cells #[.slice A n c] 65 (0, 0))) (hC : W.heap[gC1]? = some (.cells #[.bool false, .slice B m d] 64 (0, 0))) (h1 : W.heap[gA1]? = some (.cells #[.slice (some ⟨gC1, 0, none⟩) 1 1] 65 (0, 0))) (hX : Kd.C k64 W A X.length X) (hn : n = X.length) (lX : n ≤ c) (hI : Kd.C k61 W B I.length I) (hm : m = I.length) (lI : m ≤ d) : k45.K W ⟨⟨#[83]⟩, [X]⟩ [.string ⟨#[83]⟩, .slice (some ⟨gA0, 0, none⟩) 1 1] ∧ k45.K W ⟨⟨#[84]⟩, [[⟨false, I⟩]]⟩ [.string ⟨#[84]⟩, .slice (some ⟨gA1, 0, none⟩) 1 1] := by
 subst hn hm
 have cC : Kd.C k64 W (some ⟨gC1, 0, none⟩) [(⟨false, I⟩ : S64)].length [⟨false, I⟩] := C_lit hC (Reps.c2 (k64_mk W ⟨false, I⟩ lI hI) (Reps.none _ _)) (by simp)
 have cA : Kd.C (Kd.slice 64 k64) W (some ⟨gA0, 0, none⟩) [(X : List S64)].length [X] := C_lit h0 (Reps.one ⟨_, _, rfl, lX, hX⟩ (Reps.none _ _)) (by simp)
 have cB : Kd.C (Kd.slice 64 k64) W (some ⟨gA1, 0, none⟩) [[(⟨false, I⟩ : S64)]].length [[⟨false, I⟩]] := C_lit h1 (Reps.one ⟨_, _, rfl, Nat.le_refl _, cC⟩ (Reps.none _ _)) (by simp)
 exact ⟨k45_mk W ⟨⟨#[83]⟩, [X]⟩ (Nat.le_refl _) cA, k45_mk W ⟨⟨#[84]⟩, [[⟨false, I⟩]]⟩ (Nat.le_refl _) cB⟩
theorem bw_more (W : World) : k45.K W ⟨⟨#[84]⟩, []⟩ [.string ⟨#[84]⟩, .slice none 0 0] ∧ k45.K W ⟨⟨#[83]⟩, []⟩ [.string ⟨#[83]⟩, .slice none 0 0] := ⟨k45_mk W ⟨⟨#[84]⟩, []⟩ (Nat.le_refl _) (Kd.C_nil (Kd.slice 64 k64) W), k45_mk W ⟨⟨#[83]⟩, []⟩ (Nat.le_refl _) (Kd.C_nil (Kd.slice 64 k64) W)⟩
theorem bw_num (e : Int) : templelaw0_Num.f e = some e := rfl
def bwC0 (b16 : Bool) : List S64 := cond b16 (List.replicate 9 ⟨false, []⟩) [⟨false, [⟨0, ⟨#[84]⟩, 0, 0⟩]⟩]
def bwIts (b8 b4 : Bool) : List S61 := ⟨2, ⟨#[]⟩, cond b8 3 1, 2⟩ :: cond b4 [⟨0, ⟨#[85]⟩, 0, 0⟩] []
def bwDefs (b16 b8 b4 b1 : Bool) : List S45 := ⟨⟨#[83]⟩, [bwC0 b16]⟩ :: ⟨⟨#[84]⟩, [[⟨false, bwIts b8 b4⟩]]⟩ :: cond b1 [⟨⟨#[84]⟩, []⟩, ⟨⟨#[83]⟩, []⟩] []
def bwSt (b2 : Bool) : List ByteArray := ⟨#[83]⟩ :: cond b2 [⟨#[83]⟩] []
def bwN (b16 b8 b4 b2 b1 : Bool) : Int := cond b1 401 (cond b2 400 (cond b4 402 (cond b8 403 (cond b16 404 0))))
def bwT (b16 b8 b4 b2 b1 : Bool) : ByteArray := cond b1 ⟨#[84]⟩ (cond b2 ⟨#[]⟩ (cond b4 ⟨#[85]⟩ (cond b8 ⟨#[84]⟩ ⟨#[]⟩)))
def bwF (k : Nat) (b16 b8 b4 b2 b1 : Bool) : Option Bool :=
 (gram_Build.f k (bwSt b2) (bwDefs b16 b8 b4 b1)).bind fun b => if b.2.2.2.2 = bwN b16 b8 b4 b2 b1 ∧ b.2.2.2.1.data.toList = (bwT b16 b8 b4 b2 b1).data.toList ∧ (b.2.1.length = 2 ↔ bwN b16 b8 b4 b2 b1 = 0) then some true else none
def bwBit (a0 n : Int) : Bool := decide (Go.bits .and .i64 a0 n = n)
def templelaw4_BuildWrong.f (k : Nat) (a0 : Int) : Option (Bool) :=
 (templelaw4_awake.f k).bind fun z => if z = true then bwF k (bwBit a0 16) (bwBit a0 8) (bwBit a0 4) (bwBit a0 2) (bwBit a0 1) else none
theorem templelaw4_BuildWrong.mono : ∀ a0 k, LeO (templelaw4_BuildWrong.f k a0) (templelaw4_BuildWrong.f (k + 1) a0) := by
 intro a0 k
 unfold templelaw4_BuildWrong.f bwF
 repeat' first
   | (with_reducible exact templelaw4_awake.mono _)
   | (with_reducible exact gram_Build.mono _ _ _)
   | (with_reducible exact LeO.refl _)
   | (with_reducible exact LeO.none _)
   | (with_reducible refine LeO.ite ?_ ?_)
   | (with_reducible refine LeO.bind ?_ (fun _ => ?_))
set_option maxHeartbeats 40000000 in
set_option maxRecDepth 100000 in
theorem templelaw4_BuildWrong.calls (k : Nat) (a0 : Int) (r : Bool) (w : World) (h : templelaw4_BuildWrong.f k a0 = some r) :
  Calls Try.prog 8 #[.int .i64 a0] w fun e w' => e = .returned (.bool r) ∧ Below w.heap.size w w' := by
 unfold templelaw4_BuildWrong.f at h
 replace h := Option.bind_eq_some_iff.1 h
 obtain ⟨z, hz, h⟩ := h
 cases z with
 | false => rw [if_neg (by decide)] at h; cases h
 | true =>
 rw [if_pos rfl] at h
 unfold bwF at h
 replace h := Option.bind_eq_some_iff.1 h
 obtain ⟨⟨r1, r2, r3, r4, r5⟩, hB, h⟩ := h
 dsimp only at h
 by_cases hp : r5 = bwN (bwBit a0 16) (bwBit a0 8) (bwBit a0 4) (bwBit a0 2) (bwBit a0 1) ∧ r4.data.toList = (bwT (bwBit a0 16) (bwBit a0 8) (bwBit a0 4) (bwBit a0 2) (bwBit a0 1)).data.toList ∧ (r2.length = 2 ↔ bwN (bwBit a0 16) (bwBit a0 8) (bwBit a0 4) (bwBit a0 2) (bwBit a0 1) = 0)
 case neg => rw [if_neg hp] at h; cases h
 rw [if_pos hp] at h
 obtain rfl := Option.some.inj h
 obtain ⟨h5, h4, hl⟩ := hp
 have h4 : r4 = bwT (bwBit a0 16) (bwBit a0 8) (bwBit a0 4) (bwBit a0 2) (bwBit a0 1) := by
  cases r4 with
  | mk d =>
   cases hq : bwT (bwBit a0 16) (bwBit a0 8) (bwBit a0 4) (bwBit a0 2) (bwBit a0 1) with
   | mk d' =>
    rw [hq] at h4
    congr 1
    exact Array.toList_inj.1 h4
 subst h5 h4
 have FZ := Aside0.mk hz
 have t16 : (Go.bits .and .i64 a0 16 == 16) = bwBit a0 16 := by unfold bwBit; rw [Bool.eq_iff_iff]; simp
 have t8 : (Go.bits .and .i64 a0 8 == 8) = bwBit a0 8 := by unfold bwBit; rw [Bool.eq_iff_iff]; simp
 have t4 : (Go.bits .and .i64 a0 4 == 4) = bwBit a0 4 := by unfold bwBit; rw [Bool.eq_iff_iff]; simp
 have t2 : (Go.bits .and .i64 a0 2 == 2) = bwBit a0 2 := by unfold bwBit; rw [Bool.eq_iff_iff]; simp
 have t1 : (Go.bits .and .i64 a0 1 == 1) = bwBit a0 1 := by unfold bwBit; rw [Bool.eq_iff_iff]; simp
 clear h hz
 go_enter Try.func8, Try.ntmps8
 go_upto_region 4 with (first | (go_at_call 20; (with_reducible refine (templelaw4_awake.calls k true _ FZ.out).mono ?_); rintro e w1 ⟨rfl, hb1⟩; have HB1 := Aside0.mk hb1; clear hb1))
 have m0 := (blk_alloc (blk_alloc (blk_alloc (blk_alloc (blk_alloc (blk_alloc (blk_alloc (blk_alloc (blk_new w1 (.cells #[.string ⟨#[83]⟩] 9)) (.cells #[.int .i64 0, .string ⟨#[84]⟩, .int .i64 0, .int .i64 0] 61)) (.cells #[.bool false, .slice (some ⟨w1.heap.size + 1, 0, none⟩) 1 1] 64)) (.cells #[.slice (some ⟨w1.heap.size + 1 + 1, 0, none⟩) 1 1] 65)) (.cells #[.int .i64 2, .string ⟨#[]⟩, .int .i64 1, .int .i64 2] 61)) (.cells #[.bool false, .slice (some ⟨w1.heap.size + 1 + 1 + 1 + 1, 0, none⟩) 1 1] 64)) (.cells #[.slice (some ⟨w1.heap.size + 1 + 1 + 1 + 1 + 1, 0, none⟩) 1 1] 65)) (.cells #[.string ⟨#[83]⟩, .slice (some ⟨w1.heap.size + 1 + 1 + 1, 0, none⟩) 1 1, .string ⟨#[84]⟩, .slice (some ⟨w1.heap.size + 1 + 1 + 1 + 1 + 1 + 1, 0, none⟩) 1 1] 45)) (.cells #[.slice (some ⟨w1.heap.size, 0, none⟩) 1 1, .slice (some ⟨w1.heap.size + 1 + 1 + 1 + 1 + 1 + 1 + 1, 0, none⟩) 2 2] 25))
 have m1 := (blk_alloc (blk_alloc (blk_alloc (blk_alloc (blk_alloc (blk_alloc (blk_alloc (blk_new (w1.alloc (.cells #[.string ⟨#[83]⟩] 9)) (.cells #[.int .i64 0, .string ⟨#[84]⟩, .int .i64 0, .int .i64 0] 61)) (.cells #[.bool false, .slice (some ⟨w1.heap.size + 1, 0, none⟩) 1 1] 64)) (.cells #[.slice (some ⟨w1.heap.size + 1 + 1, 0, none⟩) 1 1] 65)) (.cells #[.int .i64 2, .string ⟨#[]⟩, .int .i64 1, .int .i64 2] 61)) (.cells #[.bool false, .slice (some ⟨w1.heap.size + 1 + 1 + 1 + 1, 0, none⟩) 1 1] 64)) (.cells #[.slice (some ⟨w1.heap.size + 1 + 1 + 1 + 1 + 1, 0, none⟩) 1 1] 65)) (.cells #[.string ⟨#[83]⟩, .slice (some ⟨w1.heap.size + 1 + 1 + 1, 0, none⟩) 1 1, .string ⟨#[84]⟩, .slice (some ⟨w1.heap.size + 1 + 1 + 1 + 1 + 1 + 1, 0, none⟩) 1 1] 45)) (.cells #[.slice (some ⟨w1.heap.size, 0, none⟩) 1 1, .slice (some ⟨w1.heap.size + 1 + 1 + 1 + 1 + 1 + 1 + 1, 0, none⟩) 2 2] 25))
 have e1 : (w1.alloc (.cells #[.string ⟨#[83]⟩] 9)).heap.size = w1.heap.size + 1 := by simp
 rw [e1] at m1
 clear e1
 have m2 := (blk_alloc (blk_alloc (blk_alloc (blk_alloc (blk_alloc (blk_alloc (blk_new ((w1.alloc (.cells #[.string ⟨#[83]⟩] 9)).alloc (.cells #[.int .i64 0, .string ⟨#[84]⟩, .int .i64 0, .int .i64 0] 61)) (.cells #[.bool false, .slice (some ⟨w1.heap.size + 1, 0, none⟩) 1 1] 64)) (.cells #[.slice (some ⟨w1.heap.size + 1 + 1, 0, none⟩) 1 1] 65)) (.cells #[.int .i64 2, .string ⟨#[]⟩, .int .i64 1, .int .i64 2] 61)) (.cells #[.bool false, .slice (some ⟨w1.heap.size + 1 + 1 + 1 + 1, 0, none⟩) 1 1] 64)) (.cells #[.slice (some ⟨w1.heap.size + 1 + 1 + 1 + 1 + 1, 0, none⟩) 1 1] 65)) (.cells #[.string ⟨#[83]⟩, .slice (some ⟨w1.heap.size + 1 + 1 + 1, 0, none⟩) 1 1, .string ⟨#[84]⟩, .slice (some ⟨w1.heap.size + 1 + 1 + 1 + 1 + 1 + 1, 0, none⟩) 1 1] 45)) (.cells #[.slice (some ⟨w1.heap.size, 0, none⟩) 1 1, .slice (some ⟨w1.heap.size + 1 + 1 + 1 + 1 + 1 + 1 + 1, 0, none⟩) 2 2] 25))
 have e2 : ((w1.alloc (.cells #[.string ⟨#[83]⟩] 9)).alloc (.cells #[.int .i64 0, .string ⟨#[84]⟩, .int .i64 0, .int .i64 0] 61)).heap.size = w1.heap.size + 1 + 1 := by simp
 rw [e2] at m2
 clear e2
 have m3 := (blk_alloc (blk_alloc (blk_alloc (blk_alloc (blk_alloc (blk_new (((w1.alloc (.cells #[.string ⟨#[83]⟩] 9)).alloc (.cells #[.int .i64 0, .string ⟨#[84]⟩, .int .i64 0, .int .i64 0] 61)).alloc (.cells #[.bool false, .slice (some ⟨w1.heap.size + 1, 0, none⟩) 1 1] 64)) (.cells #[.slice (some ⟨w1.heap.size + 1 + 1, 0, none⟩) 1 1] 65)) (.cells #[.int .i64 2, .string ⟨#[]⟩, .int .i64 1, .int .i64 2] 61)) (.cells #[.bool false, .slice (some ⟨w1.heap.size + 1 + 1 + 1 + 1, 0, none⟩) 1 1] 64)) (.cells #[.slice (some ⟨w1.heap.size + 1 + 1 + 1 + 1 + 1, 0, none⟩) 1 1] 65)) (.cells #[.string ⟨#[83]⟩, .slice (some ⟨w1.heap.size + 1 + 1 + 1, 0, none⟩) 1 1, .string ⟨#[84]⟩, .slice (some ⟨w1.heap.size + 1 + 1 + 1 + 1 + 1 + 1, 0, none⟩) 1 1] 45)) (.cells #[.slice (some ⟨w1.heap.size, 0, none⟩) 1 1, .slice (some ⟨w1.heap.size + 1 + 1 + 1 + 1 + 1 + 1 + 1, 0, none⟩) 2 2] 25))
 have e3 : (((w1.alloc (.cells #[.string ⟨#[83]⟩] 9)).alloc (.cells #[.int .i64 0, .string ⟨#[84]⟩, .int .i64 0, .int .i64 0] 61)).alloc (.cells #[.bool false, .slice (some ⟨w1.heap.size + 1, 0, none⟩) 1 1] 64)).heap.size = w1.heap.size + 1 + 1 + 1 := by simp
 rw [e3] at m3
 clear e3
 have m4 := (blk_alloc (blk_alloc (blk_alloc (blk_alloc (blk_new ((((w1.alloc (.cells #[.string ⟨#[83]⟩] 9)).alloc (.cells #[.int .i64 0, .string ⟨#[84]⟩, .int .i64 0, .int .i64 0] 61)).alloc (.cells #[.bool false, .slice (some ⟨w1.heap.size + 1, 0, none⟩) 1 1] 64)).alloc (.cells #[.slice (some ⟨w1.heap.size + 1 + 1, 0, none⟩) 1 1] 65)) (.cells #[.int .i64 2, .string ⟨#[]⟩, .int .i64 1, .int .i64 2] 61)) (.cells #[.bool false, .slice (some ⟨w1.heap.size + 1 + 1 + 1 + 1, 0, none⟩) 1 1] 64)) (.cells #[.slice (some ⟨w1.heap.size + 1 + 1 + 1 + 1 + 1, 0, none⟩) 1 1] 65)) (.cells #[.string ⟨#[83]⟩, .slice (some ⟨w1.heap.size + 1 + 1 + 1, 0, none⟩) 1 1, .string ⟨#[84]⟩, .slice (some ⟨w1.heap.size + 1 + 1 + 1 + 1 + 1 + 1, 0, none⟩) 1 1] 45)) (.cells #[.slice (some ⟨w1.heap.size, 0, none⟩) 1 1, .slice (some ⟨w1.heap.size + 1 + 1 + 1 + 1 + 1 + 1 + 1, 0, none⟩) 2 2] 25))
 have e4 : ((((w1.alloc (.cells #[.string ⟨#[83]⟩] 9)).alloc (.cells #[.int .i64 0, .string ⟨#[84]⟩, .int .i64 0, .int .i64 0] 61)).alloc (.cells #[.bool false, .slice (some ⟨w1.heap.size + 1, 0, none⟩) 1 1] 64)).alloc (.cells #[.slice (some ⟨w1.heap.size + 1 + 1, 0, none⟩) 1 1] 65)).heap.size = w1.heap.size + 1 + 1 + 1 + 1 := by simp
 rw [e4] at m4
 clear e4
 have m5 := (blk_alloc (blk_alloc (blk_alloc (blk_new (((((w1.alloc (.cells #[.string ⟨#[83]⟩] 9)).alloc (.cells #[.int .i64 0, .string ⟨#[84]⟩, .int .i64 0, .int .i64 0] 61)).alloc (.cells #[.bool false, .slice (some ⟨w1.heap.size + 1, 0, none⟩) 1 1] 64)).alloc (.cells #[.slice (some ⟨w1.heap.size + 1 + 1, 0, none⟩) 1 1] 65)).alloc (.cells #[.int .i64 2, .string ⟨#[]⟩, .int .i64 1, .int .i64 2] 61)) (.cells #[.bool false, .slice (some ⟨w1.heap.size + 1 + 1 + 1 + 1, 0, none⟩) 1 1] 64)) (.cells #[.slice (some ⟨w1.heap.size + 1 + 1 + 1 + 1 + 1, 0, none⟩) 1 1] 65)) (.cells #[.string ⟨#[83]⟩, .slice (some ⟨w1.heap.size + 1 + 1 + 1, 0, none⟩) 1 1, .string ⟨#[84]⟩, .slice (some ⟨w1.heap.size + 1 + 1 + 1 + 1 + 1 + 1, 0, none⟩) 1 1] 45)) (.cells #[.slice (some ⟨w1.heap.size, 0, none⟩) 1 1, .slice (some ⟨w1.heap.size + 1 + 1 + 1 + 1 + 1 + 1 + 1, 0, none⟩) 2 2] 25))
 have e5 : (((((w1.alloc (.cells #[.string ⟨#[83]⟩] 9)).alloc (.cells #[.int .i64 0, .string ⟨#[84]⟩, .int .i64 0, .int .i64 0] 61)).alloc (.cells #[.bool false, .slice (some ⟨w1.heap.size + 1, 0, none⟩) 1 1] 64)).alloc (.cells #[.slice (some ⟨w1.heap.size + 1 + 1, 0, none⟩) 1 1] 65)).alloc (.cells #[.int .i64 2, .string ⟨#[]⟩, .int .i64 1, .int .i64 2] 61)).heap.size = w1.heap.size + 1 + 1 + 1 + 1 + 1 := by simp
 rw [e5] at m5
 clear e5
 have m6 := (blk_alloc (blk_alloc (blk_new ((((((w1.alloc (.cells #[.string ⟨#[83]⟩] 9)).alloc (.cells #[.int .i64 0, .string ⟨#[84]⟩, .int .i64 0, .int .i64 0] 61)).alloc (.cells #[.bool false, .slice (some ⟨w1.heap.size + 1, 0, none⟩) 1 1] 64)).alloc (.cells #[.slice (some ⟨w1.heap.size + 1 + 1, 0, none⟩) 1 1] 65)).alloc (.cells #[.int .i64 2, .string ⟨#[]⟩, .int .i64 1, .int .i64 2] 61)).alloc (.cells #[.bool false, .slice (some ⟨w1.heap.size + 1 + 1 + 1 + 1, 0, none⟩) 1 1] 64)) (.cells #[.slice (some ⟨w1.heap.size + 1 + 1 + 1 + 1 + 1, 0, none⟩) 1 1] 65)) (.cells #[.string ⟨#[83]⟩, .slice (some ⟨w1.heap.size + 1 + 1 + 1, 0, none⟩) 1 1, .string ⟨#[84]⟩, .slice (some ⟨w1.heap.size + 1 + 1 + 1 + 1 + 1 + 1, 0, none⟩) 1 1] 45)) (.cells #[.slice (some ⟨w1.heap.size, 0, none⟩) 1 1, .slice (some ⟨w1.heap.size + 1 + 1 + 1 + 1 + 1 + 1 + 1, 0, none⟩) 2 2] 25))
 have e6 : ((((((w1.alloc (.cells #[.string ⟨#[83]⟩] 9)).alloc (.cells #[.int .i64 0, .string ⟨#[84]⟩, .int .i64 0, .int .i64 0] 61)).alloc (.cells #[.bool false, .slice (some ⟨w1.heap.size + 1, 0, none⟩) 1 1] 64)).alloc (.cells #[.slice (some ⟨w1.heap.size + 1 + 1, 0, none⟩) 1 1] 65)).alloc (.cells #[.int .i64 2, .string ⟨#[]⟩, .int .i64 1, .int .i64 2] 61)).alloc (.cells #[.bool false, .slice (some ⟨w1.heap.size + 1 + 1 + 1 + 1, 0, none⟩) 1 1] 64)).heap.size = w1.heap.size + 1 + 1 + 1 + 1 + 1 + 1 := by simp
 rw [e6] at m6
 clear e6
 have m7 := (blk_alloc (blk_new (((((((w1.alloc (.cells #[.string ⟨#[83]⟩] 9)).alloc (.cells #[.int .i64 0, .string ⟨#[84]⟩, .int .i64 0, .int .i64 0] 61)).alloc (.cells #[.bool false, .slice (some ⟨w1.heap.size + 1, 0, none⟩) 1 1] 64)).alloc (.cells #[.slice (some ⟨w1.heap.size + 1 + 1, 0, none⟩) 1 1] 65)).alloc (.cells #[.int .i64 2, .string ⟨#[]⟩, .int .i64 1, .int .i64 2] 61)).alloc (.cells #[.bool false, .slice (some ⟨w1.heap.size + 1 + 1 + 1 + 1, 0, none⟩) 1 1] 64)).alloc (.cells #[.slice (some ⟨w1.heap.size + 1 + 1 + 1 + 1 + 1, 0, none⟩) 1 1] 65)) (.cells #[.string ⟨#[83]⟩, .slice (some ⟨w1.heap.size + 1 + 1 + 1, 0, none⟩) 1 1, .string ⟨#[84]⟩, .slice (some ⟨w1.heap.size + 1 + 1 + 1 + 1 + 1 + 1, 0, none⟩) 1 1] 45)) (.cells #[.slice (some ⟨w1.heap.size, 0, none⟩) 1 1, .slice (some ⟨w1.heap.size + 1 + 1 + 1 + 1 + 1 + 1 + 1, 0, none⟩) 2 2] 25))
 have e7 : (((((((w1.alloc (.cells #[.string ⟨#[83]⟩] 9)).alloc (.cells #[.int .i64 0, .string ⟨#[84]⟩, .int .i64 0, .int .i64 0] 61)).alloc (.cells #[.bool false, .slice (some ⟨w1.heap.size + 1, 0, none⟩) 1 1] 64)).alloc (.cells #[.slice (some ⟨w1.heap.size + 1 + 1, 0, none⟩) 1 1] 65)).alloc (.cells #[.int .i64 2, .string ⟨#[]⟩, .int .i64 1, .int .i64 2] 61)).alloc (.cells #[.bool false, .slice (some ⟨w1.heap.size + 1 + 1 + 1 + 1, 0, none⟩) 1 1] 64)).alloc (.cells #[.slice (some ⟨w1.heap.size + 1 + 1 + 1 + 1 + 1, 0, none⟩) 1 1] 65)).heap.size = w1.heap.size + 1 + 1 + 1 + 1 + 1 + 1 + 1 := by simp
 rw [e7] at m7
 clear e7
 have m8 := (blk_new ((((((((w1.alloc (.cells #[.string ⟨#[83]⟩] 9)).alloc (.cells #[.int .i64 0, .string ⟨#[84]⟩, .int .i64 0, .int .i64 0] 61)).alloc (.cells #[.bool false, .slice (some ⟨w1.heap.size + 1, 0, none⟩) 1 1] 64)).alloc (.cells #[.slice (some ⟨w1.heap.size + 1 + 1, 0, none⟩) 1 1] 65)).alloc (.cells #[.int .i64 2, .string ⟨#[]⟩, .int .i64 1, .int .i64 2] 61)).alloc (.cells #[.bool false, .slice (some ⟨w1.heap.size + 1 + 1 + 1 + 1, 0, none⟩) 1 1] 64)).alloc (.cells #[.slice (some ⟨w1.heap.size + 1 + 1 + 1 + 1 + 1, 0, none⟩) 1 1] 65)).alloc (.cells #[.string ⟨#[83]⟩, .slice (some ⟨w1.heap.size + 1 + 1 + 1, 0, none⟩) 1 1, .string ⟨#[84]⟩, .slice (some ⟨w1.heap.size + 1 + 1 + 1 + 1 + 1 + 1, 0, none⟩) 1 1] 45)) (.cells #[.slice (some ⟨w1.heap.size, 0, none⟩) 1 1, .slice (some ⟨w1.heap.size + 1 + 1 + 1 + 1 + 1 + 1 + 1, 0, none⟩) 2 2] 25))
 have e8 : ((((((((w1.alloc (.cells #[.string ⟨#[83]⟩] 9)).alloc (.cells #[.int .i64 0, .string ⟨#[84]⟩, .int .i64 0, .int .i64 0] 61)).alloc (.cells #[.bool false, .slice (some ⟨w1.heap.size + 1, 0, none⟩) 1 1] 64)).alloc (.cells #[.slice (some ⟨w1.heap.size + 1 + 1, 0, none⟩) 1 1] 65)).alloc (.cells #[.int .i64 2, .string ⟨#[]⟩, .int .i64 1, .int .i64 2] 61)).alloc (.cells #[.bool false, .slice (some ⟨w1.heap.size + 1 + 1 + 1 + 1, 0, none⟩) 1 1] 64)).alloc (.cells #[.slice (some ⟨w1.heap.size + 1 + 1 + 1 + 1 + 1, 0, none⟩) 1 1] 65)).alloc (.cells #[.string ⟨#[83]⟩, .slice (some ⟨w1.heap.size + 1 + 1 + 1, 0, none⟩) 1 1, .string ⟨#[84]⟩, .slice (some ⟨w1.heap.size + 1 + 1 + 1 + 1 + 1 + 1, 0, none⟩) 1 1] 45)).heap.size = w1.heap.size + 1 + 1 + 1 + 1 + 1 + 1 + 1 + 1 := by simp
 rw [e8] at m8
 clear e8
 have hb := below_alloc (below_alloc (below_alloc (below_alloc (below_alloc (below_alloc (below_alloc (below_alloc (below_alloc (Below.refl w1.heap.size w1) (.cells #[.string ⟨#[83]⟩] 9)) (.cells #[.int .i64 0, .string ⟨#[84]⟩, .int .i64 0, .int .i64 0] 61)) (.cells #[.bool false, .slice (some ⟨w1.heap.size + 1, 0, none⟩) 1 1] 64)) (.cells #[.slice (some ⟨w1.heap.size + 1 + 1, 0, none⟩) 1 1] 65)) (.cells #[.int .i64 2, .string ⟨#[]⟩, .int .i64 1, .int .i64 2] 61)) (.cells #[.bool false, .slice (some ⟨w1.heap.size + 1 + 1 + 1 + 1, 0, none⟩) 1 1] 64)) (.cells #[.slice (some ⟨w1.heap.size + 1 + 1 + 1 + 1 + 1, 0, none⟩) 1 1] 65)) (.cells #[.string ⟨#[83]⟩, .slice (some ⟨w1.heap.size + 1 + 1 + 1, 0, none⟩) 1 1, .string ⟨#[84]⟩, .slice (some ⟨w1.heap.size + 1 + 1 + 1 + 1 + 1 + 1, 0, none⟩) 1 1] 45)) (.cells #[.slice (some ⟨w1.heap.size, 0, none⟩) 1 1, .slice (some ⟨w1.heap.size + 1 + 1 + 1 + 1 + 1 + 1 + 1, 0, none⟩) 2 2] 25)
 have HW := Aside0.mk (HB1.out.trans (hb.mono HB1.out.size))
 have l0 : w.heap.size ≤ w1.heap.size := HB1.out.size
 have l1 : w1.heap.size < w1.heap.size + 1 := Nat.lt_succ_self _
 have l2 : w1.heap.size + 1 < w1.heap.size + 1 + 1 := Nat.lt_succ_self _
 have l3 : w1.heap.size + 1 + 1 < w1.heap.size + 1 + 1 + 1 := Nat.lt_succ_self _
 have l4 : w1.heap.size + 1 + 1 + 1 < w1.heap.size + 1 + 1 + 1 + 1 := Nat.lt_succ_self _
 have l5 : w1.heap.size + 1 + 1 + 1 + 1 < w1.heap.size + 1 + 1 + 1 + 1 + 1 := Nat.lt_succ_self _
 have l6 : w1.heap.size + 1 + 1 + 1 + 1 + 1 < w1.heap.size + 1 + 1 + 1 + 1 + 1 + 1 := Nat.lt_succ_self _
 have l7 : w1.heap.size + 1 + 1 + 1 + 1 + 1 + 1 < w1.heap.size + 1 + 1 + 1 + 1 + 1 + 1 + 1 := Nat.lt_succ_self _
 have l8 : w1.heap.size + 1 + 1 + 1 + 1 + 1 + 1 + 1 < w1.heap.size + 1 + 1 + 1 + 1 + 1 + 1 + 1 + 1 := Nat.lt_succ_self _
 generalize (((((((((w1.alloc (.cells #[.string ⟨#[83]⟩] 9)).alloc (.cells #[.int .i64 0, .string ⟨#[84]⟩, .int .i64 0, .int .i64 0] 61)).alloc (.cells #[.bool false, .slice (some ⟨w1.heap.size + 1, 0, none⟩) 1 1] 64)).alloc (.cells #[.slice (some ⟨w1.heap.size + 1 + 1, 0, none⟩) 1 1] 65)).alloc (.cells #[.int .i64 2, .string ⟨#[]⟩, .int .i64 1, .int .i64 2] 61)).alloc (.cells #[.bool false, .slice (some ⟨w1.heap.size + 1 + 1 + 1 + 1, 0, none⟩) 1 1] 64)).alloc (.cells #[.slice (some ⟨w1.heap.size + 1 + 1 + 1 + 1 + 1, 0, none⟩) 1 1] 65)).alloc (.cells #[.string ⟨#[83]⟩, .slice (some ⟨w1.heap.size + 1 + 1 + 1, 0, none⟩) 1 1, .string ⟨#[84]⟩, .slice (some ⟨w1.heap.size + 1 + 1 + 1 + 1 + 1 + 1, 0, none⟩) 1 1] 45)).alloc (.cells #[.slice (some ⟨w1.heap.size, 0, none⟩) 1 1, .slice (some ⟨w1.heap.size + 1 + 1 + 1 + 1 + 1 + 1 + 1, 0, none⟩) 2 2] 25)) = W0 at *
 generalize w1.heap.size + 1 + 1 + 1 + 1 + 1 + 1 + 1 + 1 = gB at *
 generalize w1.heap.size + 1 + 1 + 1 + 1 + 1 + 1 + 1 = gD at *
 generalize w1.heap.size + 1 + 1 + 1 + 1 + 1 + 1 = gA1 at *
 generalize w1.heap.size + 1 + 1 + 1 + 1 + 1 = gC1 at *
 generalize w1.heap.size + 1 + 1 + 1 + 1 = gI1 at *
 generalize w1.heap.size + 1 + 1 + 1 = gA0 at *
 generalize w1.heap.size + 1 + 1 = gC0 at *
 generalize w1.heap.size + 1 = gI0 at *
 generalize w1.heap.size = gS at *
 have HX := Aside0.mk (bw_X m1 m2 (gS := gS) (gI1 := gI1) (gC1 := gC1) (gD := gD) (gB := gB) ⟨by omega, by omega, by omega, by omega, by omega⟩ ⟨by omega, by omega, by omega, by omega, by omega⟩)
 have HS := Aside0.mk m0
 have H0 := Aside0.mk m3
 have HI := Aside0.mk m4
 have HC := Aside0.mk m5
 have H1 := Aside0.mk m6
 have HD := Aside0.mk m7
 have HB := Aside0.mk m8
 clear m0 m1 m2 m3 m4 m5 m6 m7 m8 hb HB1 FZ
 generalize bwBit a0 16 = b16 at *
 generalize bwBit a0 8 = b8 at *
 generalize bwBit a0 4 = b4 at *
 generalize bwBit a0 2 = b2 at *
 generalize bwBit a0 1 = b1 at *
 have FB := Aside0.mk hB
 have FL := Aside0.mk hl
 clear hB hl
 cases b16
 ·skip
  cases b8
  ·skip
   cases b4
   ·skip
    cases b2
    ·skip
     cases b1
     ·skip
      go_upto_region 24 with (fail)
      have cS : Kd.C Kd.string W0 (some ⟨gS, 0, none⟩) [(⟨#[83]⟩ : ByteArray)].length [⟨#[83]⟩] := C_lit HS.out (Reps.one rfl (Reps.none _ _)) (by decide)
      have lS : [(⟨#[83]⟩ : ByteArray)].length ≤ 1 := Nat.le_refl _
      have cI := bw_item HI.out
      have lI : (1 : Nat) ≤ 1 := Nat.le_refl _
      have cX := Kd.F_now HX.out
      have lX := Nat.le_refl 1
      have kD := bw_defs H0.out HC.out H1.out cX rfl lX cI rfl lI
      have cD : Kd.C k45 W0 (some ⟨gD, 0, none⟩) ([⟨⟨#[83]⟩, [[⟨false, [⟨0, ⟨#[84]⟩, 0, 0⟩]⟩]]⟩, ⟨⟨#[84]⟩, [[⟨false, [⟨2, ⟨#[]⟩, 1, 2⟩]⟩]]⟩] : List S45).length [⟨⟨#[83]⟩, [[⟨false, [⟨0, ⟨#[84]⟩, 0, 0⟩]⟩]]⟩, ⟨⟨#[84]⟩, [[⟨false, [⟨2, ⟨#[]⟩, 1, 2⟩]⟩]]⟩] := C_lit HD.out (Reps.c2 kD.1 (Reps.c2 kD.2 (Reps.none _ _))) (by decide)
      have lD : (2 : Nat) ≤ 2 := Nat.le_refl _
      have FB2 := Aside0.mk (show gram_Build.f k [⟨#[83]⟩] [⟨⟨#[83]⟩, [[⟨false, [⟨0, ⟨#[84]⟩, 0, 0⟩]⟩]]⟩, ⟨⟨#[84]⟩, [[⟨false, [⟨2, ⟨#[]⟩, 1, 2⟩]⟩]]⟩] = some (r1, r2, r3, ⟨#[]⟩, 0) from FB.out)
      have tl := (show (r2.length = 2 ↔ (0 : Int) = 0) from FL.out)
      have tL : ((r2.length : Int) == 2) = true := by rw [tl.2 rfl]; rfl
      have k0 : W0.cell? ⟨gB, 0, none⟩ = some (.slice (some ⟨gS, 0, none⟩) 1 1) := (blk_cell HB.out 0).trans rfl
      have k1 : W0.cell? ⟨gB, 1, none⟩ = some (.slice (some ⟨gD, 0, none⟩) 2 2) := (blk_cell HB.out 1).trans rfl
      have Z := Aside0.mk (And.intro cS (And.intro lS (And.intro cD (And.intro lD HW.out))))
      clear cS lS cD lD cI lI cX lX kD tl FB FL
      go_wp2_with (first | (go_at_call 14; (with_reducible refine (templelaw0_Num.calls 0 0 _ (bw_num 0)).mono ?_); rintro e w' ⟨rfl, ⟨nd, rfl⟩⟩) | (go_at_call 11; refine (gram_Build.calls k _ _ [⟨#[83]⟩] _ _ [⟨⟨#[83]⟩, [[⟨false, [⟨0, ⟨#[84]⟩, 0, 0⟩]⟩]]⟩, ⟨⟨#[84]⟩, [[⟨false, [⟨2, ⟨#[]⟩, 1, 2⟩]⟩]]⟩] r1 r2 r3 ⟨#[]⟩ 0 _ Z.out.1 Z.out.2.1 Z.out.2.2.1 Z.out.2.2.2.1 FB2.out).mono ?_; rintro e w2 ⟨v1, v2, rfl, h1, h2, hbq⟩; (obtain ⟨Aq, cq, rfl⟩ := Kd.R_slice h1); (obtain ⟨Ar, cr, rfl⟩ := Kd.R_slice h2); have Y := Aside0.mk hbq; clear h1 h2 hbq))
      go_ret
      exact ⟨by first | rfl | simp | simp [tL], pw_below_drewN (below_alloc (Z.out.2.2.2.2.trans (Y.out.mono Z.out.2.2.2.2.size)) _) _⟩
     ·skip
      go_upto_region 21 with (fail)
      have k0 : W0.cell? ⟨gB, 1, none⟩ = some (.slice (some ⟨gD, 0, none⟩) 2 2) := (blk_cell HB.out 1).trans rfl
      have kg : W0.cell? ⟨gB, 0, none⟩ = some (.slice (some ⟨gS, 0, none⟩) 1 1) := (blk_cell HB.out 0).trans rfl
      have hal := below_alloc (Below.refl W0.heap.size W0) (.cells #[.string ⟨#[84]⟩, .slice none 0 0, .string ⟨#[83]⟩, .slice none 0 0] 45)
      have hRD := Aside0.mk (bw_row (d := Kd.raw 2) (base := w.heap.size) (n := 2) (xs := [[.string ⟨#[83]⟩, .slice (some ⟨gA0, 0, none⟩) 1 1], [.string ⟨#[84]⟩, .slice (some ⟨gA1, 0, none⟩) 1 1]]) (blk_alloc HD.out (.cells #[.string ⟨#[84]⟩, .slice none 0 0, .string ⟨#[83]⟩, .slice none 0 0] 45)) (by omega) rfl (bw_raw (w := w)) (by simp))
      have hRL := Aside0.mk (C_lit (d := Kd.raw 2) (xs := [[.string ⟨#[84]⟩, .slice none 0 0], [.string ⟨#[83]⟩, .slice none 0 0]]) (blk_new W0 (.cells #[.string ⟨#[84]⟩, .slice none 0 0, .string ⟨#[83]⟩, .slice none 0 0] 45)) (Reps.c2 ⟨rfl, rfl, by simp [Value.oneCell']⟩ (Reps.c2 ⟨rfl, rfl, by simp [Value.oneCell']⟩ (Reps.none _ _))) (by decide))
      have hlt := Aside0.mk (below_alloc HW.out (.cells #[.string ⟨#[84]⟩, .slice none 0 0, .string ⟨#[83]⟩, .slice none 0 0] 45))
      go_upto_region 22 with (first | ((with_reducible refine gate_builtin (b := .append) (xs := #[.tmp 88, .tmp 91]) rfl ?_); at_builtin; refine Kd.R_append_rows (Kd.raw 2) (w0 := w) w.heap.size rfl (.tmp 88) (.tmp 91) 23 45 (.agg #[.string ⟨#[]⟩, .slice none 0 0]) 40 rfl Try.underlying23 bw_info45 rfl (by decide) (by omega) (.slice (some ⟨gD, 0, none⟩) 2 2) [[.string ⟨#[83]⟩, .slice (some ⟨gA0, 0, none⟩) 1 1], [.string ⟨#[84]⟩, .slice (some ⟨gA1, 0, none⟩) 1 1]] [[.string ⟨#[84]⟩, .slice none 0 0], [.string ⟨#[83]⟩, .slice none 0 0]] _ _ _ (fun _ => True) (fun _ => False) rfl rfl (Kd.R_mono hRD.out (fun _ _ => trivial)) hRL.out (fun _ _ h => h) (fun _ h => h.elim) (fun _ _ => trivial) hlt.out hlt.out.size (by simp) ?_; intro v1 w1 ho hb hg hat; (obtain ⟨Ad, cd, e1⟩ := Kd.R_slice ho); subst e1; have hmv := fun (g : Nat) (cs : Array Value) (e : Nat) (h : W0.heap[g]? = some (.cells cs e (0, 0))) (hn : g ≠ gD) => (hg.block g (blk_lt ((hal.block g (blk_lt h)).trans h)) (by simp [Value.ownBlock]; exact hn)).trans ((hal.block g (blk_lt h)).trans h); have ps := (blk_cell (hmv gB _ _ HB.out (by omega)) 1).trans rfl; have pf := blk_frozen (hmv gB _ _ HB.out (by omega)) 1))
      have hDn := Aside0.mk (RowT.set (RowT.of rfl ho) (hmv gB _ _ HB.out (by omega)) (by decide) 1 (.slice Ad 4 cd))
      have hRW := Aside0.mk hRD.out
      have mB := Aside0.mk (blk_put (hmv gB _ _ HB.out (by omega)) 1 (.slice Ad 4 cd) rfl)
      have mS := Aside0.mk (blk_far (hmv gS _ _ HS.out (by omega)) (p := ⟨gB, 1, none⟩) (by show gS ≠ gB; omega) (.slice Ad 4 cd))
      have mA0 := Aside0.mk (blk_far (hmv gA0 _ _ H0.out (by omega)) (p := ⟨gB, 1, none⟩) (by show gA0 ≠ gB; omega) (.slice Ad 4 cd))
      have mA1 := Aside0.mk (blk_far (hmv gA1 _ _ H1.out (by omega)) (p := ⟨gB, 1, none⟩) (by show gA1 ≠ gB; omega) (.slice Ad 4 cd))
      have mC1 := Aside0.mk (blk_far (hmv gC1 _ _ HC.out (by omega)) (p := ⟨gB, 1, none⟩) (by show gC1 ≠ gB; omega) (.slice Ad 4 cd))
      have mI := Aside0.mk (blk_far (hmv gI1 _ _ HI.out (by omega)) (p := ⟨gB, 1, none⟩) (by show gI1 ≠ gB; omega) (.slice Ad 4 cd))
      have mX := Aside0.mk (Kd.F_far (Kd.F_grown (Kd.F_below HX.out hal) hg (fun k hk he => hk.2.2.2.1 (by simpa [Value.ownBlock] using he))) (p := ⟨gB, 1, none⟩) (fun k hk => hk.2.2.2.2) (.slice Ad 4 cd))
      have mW := Aside0.mk (hb.setCell (p := ⟨gB, 1, none⟩) (by show w.heap.size ≤ gB; omega) (.slice Ad 4 cd))
      clear HB HS H0 H1 HC HI HX HW HD hRD hRL hRW hlt hmv hal k0 kg ps pf ho hb hg hat
      generalize w1.setCell ⟨gB, 1, none⟩ (.slice Ad 4 cd) = W1 at *
      have HB1 := mB
      have HS1 := mS
      have HA01 := mA0
      have HA11 := mA1
      have HC11 := mC1
      have HI1 := mI
      have HX1 := mX
      have HW := mW
      clear mW mB mS mA0 mA1 mC1 mI mX
      go_upto_region 24 with (fail)
      have cS : Kd.C Kd.string W1 (some ⟨gS, 0, none⟩) [(⟨#[83]⟩ : ByteArray)].length [⟨#[83]⟩] := C_lit HS1.out (Reps.one rfl (Reps.none _ _)) (by decide)
      have lS : [(⟨#[83]⟩ : ByteArray)].length ≤ 1 := Nat.le_refl _
      have cI := bw_item HI1.out
      have lI : (1 : Nat) ≤ 1 := Nat.le_refl _
      have cX := Kd.F_now HX1.out
      have lX := Nat.le_refl 1
      have kD := bw_defs HA01.out HC11.out HA11.out cX rfl lX cI rfl lI
      have kM := bw_more W1
      have cD := rows_C (d := k45) (xs := [⟨⟨#[83]⟩, [[⟨false, [⟨0, ⟨#[84]⟩, 0, 0⟩]⟩]]⟩, ⟨⟨#[84]⟩, [[⟨false, [⟨2, ⟨#[]⟩, 1, 2⟩]⟩]]⟩]) (ys := [⟨⟨#[84]⟩, []⟩, ⟨⟨#[83]⟩, []⟩]) rfl rfl (Kd.R_reads' hDn.out).2.2 (bw_two kD.1 kD.2) (bw_two kM.1 kM.2)
      have lD := (Kd.R_reads' hDn.out).2.1
      have FB2 := Aside0.mk (show gram_Build.f k [⟨#[83]⟩] [⟨⟨#[83]⟩, [[⟨false, [⟨0, ⟨#[84]⟩, 0, 0⟩]⟩]]⟩, ⟨⟨#[84]⟩, [[⟨false, [⟨2, ⟨#[]⟩, 1, 2⟩]⟩]]⟩, ⟨⟨#[84]⟩, []⟩, ⟨⟨#[83]⟩, []⟩] = some (r1, r2, r3, ⟨#[84]⟩, 401) from FB.out)
      have tl := (show (r2.length = 2 ↔ (401 : Int) = 0) from FL.out)
      have tL : ((r2.length : Int) == 2) = false := by rw [beq_eq_false_iff_ne]; intro h9; exact absurd (tl.1 (by omega)) (by decide)
      have k0 : W1.cell? ⟨gB, 0, none⟩ = some (.slice (some ⟨gS, 0, none⟩) 1 1) := (blk_cell HB1.out 0).trans rfl
      have k1 : W1.cell? ⟨gB, 1, none⟩ = some (.slice Ad 4 cd) := (blk_cell HB1.out 1).trans rfl
      have Z := Aside0.mk (And.intro cS (And.intro lS (And.intro cD (And.intro lD HW.out))))
      clear cS lS cD lD cI lI cX lX kD tl FB FL kM
      go_wp2_with (first | (go_at_call 14; (with_reducible refine (templelaw0_Num.calls 401 401 _ (bw_num 401)).mono ?_); rintro e w' ⟨rfl, ⟨nd, rfl⟩⟩) | (go_at_call 11; refine (gram_Build.calls k _ _ [⟨#[83]⟩] _ _ [⟨⟨#[83]⟩, [[⟨false, [⟨0, ⟨#[84]⟩, 0, 0⟩]⟩]]⟩, ⟨⟨#[84]⟩, [[⟨false, [⟨2, ⟨#[]⟩, 1, 2⟩]⟩]]⟩, ⟨⟨#[84]⟩, []⟩, ⟨⟨#[83]⟩, []⟩] r1 r2 r3 ⟨#[84]⟩ 401 _ Z.out.1 Z.out.2.1 Z.out.2.2.1 Z.out.2.2.2.1 FB2.out).mono ?_; rintro e w2 ⟨v1, v2, rfl, h1, h2, hbq⟩; (obtain ⟨Aq, cq, rfl⟩ := Kd.R_slice h1); (obtain ⟨Ar, cr, rfl⟩ := Kd.R_slice h2); have Y := Aside0.mk hbq; clear h1 h2 hbq))
      go_ret
      exact ⟨by first | rfl | simp | simp [tL], pw_below_drewN (below_alloc (Z.out.2.2.2.2.trans (Y.out.mono Z.out.2.2.2.2.size)) _) _⟩
    ·skip
     go_upto_region 17 with (fail)
     have k0 : W0.cell? ⟨gB, 0, none⟩ = some (.slice (some ⟨gS, 0, none⟩) 1 1) := (blk_cell HB.out 0).trans rfl
     have kg : W0.cell? ⟨gB, 1, none⟩ = some (.slice (some ⟨gD, 0, none⟩) 2 2) := (blk_cell HB.out 1).trans rfl
     have kf := blk_frozen HB.out 0
     have hRS := Aside0.mk (bw_row (d := Kd.string) (base := w.heap.size) (n := 1) (xs := [⟨#[83]⟩]) HS.out (by omega) rfl (Reps.one rfl (Reps.none _ _)) (by decide))
     go_upto_region 18 with (first | ((with_reducible refine gate_builtin (b := .append) (xs := #[.tmp 80, .tmp 81]) rfl ?_); at_builtin; refine Kd.R_append Kd.string (w0 := w) (W := W0) w.heap.size rfl (.tmp 80) (.tmp 81) 22 9 (.string ⟨#[]⟩) 16 rfl Try.underlying22 bw_info9 rfl (by decide) (by omega) (.slice (some ⟨gS, 0, none⟩) 1 1) [⟨#[83]⟩] ⟨#[83]⟩ [.string ⟨#[83]⟩] (fun _ => True) (fun _ => False) rfl (by first | (go_simp; done) | (go_simp; rfl)) rfl (fun _ hk => hk.elim) (fun _ _ => trivial) (Kd.R_mono hRS.out (fun _ _ => trivial)) HW.out HW.out.size (by simp) ?_; intro v1 w1 ho hb hg hat; (obtain ⟨As, cs, e1⟩ := Kd.R_slice ho); subst e1; have hmv := fun (g : Nat) (cs : Array Value) (e : Nat) (h : W0.heap[g]? = some (.cells cs e (0, 0))) (hn : g ≠ gS) => (hg.block g (blk_lt h) (by simp [Value.ownBlock]; exact hn)).trans h; have ps := (blk_cell (hmv gB _ _ HB.out (by omega)) 0).trans rfl; have pf := blk_frozen (hmv gB _ _ HB.out (by omega)) 0))
     have hSn := Aside0.mk (RowT.set (RowT.of rfl ho) (hmv gB _ _ HB.out (by omega)) (by decide) 0 (.slice As 2 cs))
     have mB := Aside0.mk (blk_put (hmv gB _ _ HB.out (by omega)) 0 (.slice As 2 cs) rfl)
     have mD := Aside0.mk (blk_far (hmv gD _ _ HD.out (by omega)) (p := ⟨gB, 0, none⟩) (by show gD ≠ gB; omega) (.slice As 2 cs))
     have mA0 := Aside0.mk (blk_far (hmv gA0 _ _ H0.out (by omega)) (p := ⟨gB, 0, none⟩) (by show gA0 ≠ gB; omega) (.slice As 2 cs))
     have mA1 := Aside0.mk (blk_far (hmv gA1 _ _ H1.out (by omega)) (p := ⟨gB, 0, none⟩) (by show gA1 ≠ gB; omega) (.slice As 2 cs))
     have mC1 := Aside0.mk (blk_far (hmv gC1 _ _ HC.out (by omega)) (p := ⟨gB, 0, none⟩) (by show gC1 ≠ gB; omega) (.slice As 2 cs))
     have mI := Aside0.mk (blk_far (hmv gI1 _ _ HI.out (by omega)) (p := ⟨gB, 0, none⟩) (by show gI1 ≠ gB; omega) (.slice As 2 cs))
     have mX := Aside0.mk (Kd.F_far (Kd.F_grown HX.out hg (fun k hk he => hk.1 (by simpa [Value.ownBlock] using he))) (p := ⟨gB, 0, none⟩) (fun k hk => hk.2.2.2.2) (.slice As 2 cs))
     have mW := Aside0.mk (hb.setCell (p := ⟨gB, 0, none⟩) (by show w.heap.size ≤ gB; omega) (.slice As 2 cs))
     clear HB HD H0 H1 HC HI HX HW HS hRS hmv k0 kg kf ps pf ho hb hg hat
     generalize w1.setCell ⟨gB, 0, none⟩ (.slice As 2 cs) = W1 at *
     have HB1 := mB
     have HD1 := mD
     have HA01 := mA0
     have HA11 := mA1
     have HC11 := mC1
     have HI1 := mI
     have HX1 := mX
     have HW := mW
     clear mW mB mD mA0 mA1 mC1 mI mX
     cases b1
     ·skip
      go_upto_region 24 with (fail)
      have cS := (Kd.R_reads' hSn.out).2.2
      have lS := (Kd.R_reads' hSn.out).2.1
      have cI := bw_item HI1.out
      have lI : (1 : Nat) ≤ 1 := Nat.le_refl _
      have cX := Kd.F_now HX1.out
      have lX := Nat.le_refl 1
      have kD := bw_defs HA01.out HC11.out HA11.out cX rfl lX cI rfl lI
      have cD : Kd.C k45 W1 (some ⟨gD, 0, none⟩) ([⟨⟨#[83]⟩, [[⟨false, [⟨0, ⟨#[84]⟩, 0, 0⟩]⟩]]⟩, ⟨⟨#[84]⟩, [[⟨false, [⟨2, ⟨#[]⟩, 1, 2⟩]⟩]]⟩] : List S45).length [⟨⟨#[83]⟩, [[⟨false, [⟨0, ⟨#[84]⟩, 0, 0⟩]⟩]]⟩, ⟨⟨#[84]⟩, [[⟨false, [⟨2, ⟨#[]⟩, 1, 2⟩]⟩]]⟩] := C_lit HD1.out (Reps.c2 kD.1 (Reps.c2 kD.2 (Reps.none _ _))) (by decide)
      have lD : (2 : Nat) ≤ 2 := Nat.le_refl _
      have FB2 := Aside0.mk (show gram_Build.f k [⟨#[83]⟩, ⟨#[83]⟩] [⟨⟨#[83]⟩, [[⟨false, [⟨0, ⟨#[84]⟩, 0, 0⟩]⟩]]⟩, ⟨⟨#[84]⟩, [[⟨false, [⟨2, ⟨#[]⟩, 1, 2⟩]⟩]]⟩] = some (r1, r2, r3, ⟨#[]⟩, 400) from FB.out)
      have tl := (show (r2.length = 2 ↔ (400 : Int) = 0) from FL.out)
      have tL : ((r2.length : Int) == 2) = false := by rw [beq_eq_false_iff_ne]; intro h9; exact absurd (tl.1 (by omega)) (by decide)
      have k0 : W1.cell? ⟨gB, 0, none⟩ = some (.slice As 2 cs) := (blk_cell HB1.out 0).trans rfl
      have k1 : W1.cell? ⟨gB, 1, none⟩ = some (.slice (some ⟨gD, 0, none⟩) 2 2) := (blk_cell HB1.out 1).trans rfl
      have Z := Aside0.mk (And.intro cS (And.intro lS (And.intro cD (And.intro lD HW.out))))
      clear cS lS cD lD cI lI cX lX kD tl FB FL
      go_wp2_with (first | (go_at_call 14; (with_reducible refine (templelaw0_Num.calls 400 400 _ (bw_num 400)).mono ?_); rintro e w' ⟨rfl, ⟨nd, rfl⟩⟩) | (go_at_call 11; refine (gram_Build.calls k _ _ [⟨#[83]⟩, ⟨#[83]⟩] _ _ [⟨⟨#[83]⟩, [[⟨false, [⟨0, ⟨#[84]⟩, 0, 0⟩]⟩]]⟩, ⟨⟨#[84]⟩, [[⟨false, [⟨2, ⟨#[]⟩, 1, 2⟩]⟩]]⟩] r1 r2 r3 ⟨#[]⟩ 400 _ Z.out.1 Z.out.2.1 Z.out.2.2.1 Z.out.2.2.2.1 FB2.out).mono ?_; rintro e w2 ⟨v1, v2, rfl, h1, h2, hbq⟩; (obtain ⟨Aq, cq, rfl⟩ := Kd.R_slice h1); (obtain ⟨Ar, cr, rfl⟩ := Kd.R_slice h2); have Y := Aside0.mk hbq; clear h1 h2 hbq))
      go_ret
      exact ⟨by first | rfl | simp | simp [tL], pw_below_drewN (below_alloc (Z.out.2.2.2.2.trans (Y.out.mono Z.out.2.2.2.2.size)) _) _⟩
     ·skip
      go_upto_region 21 with (fail)
      have k0 : W1.cell? ⟨gB, 1, none⟩ = some (.slice (some ⟨gD, 0, none⟩) 2 2) := (blk_cell HB1.out 1).trans rfl
      have kg : W1.cell? ⟨gB, 0, none⟩ = some (.slice As 2 cs) := (blk_cell HB1.out 0).trans rfl
      have hal := below_alloc (Below.refl W1.heap.size W1) (.cells #[.string ⟨#[84]⟩, .slice none 0 0, .string ⟨#[83]⟩, .slice none 0 0] 45)
      have hRD := Aside0.mk (bw_row (d := Kd.raw 2) (base := w.heap.size) (n := 2) (xs := [[.string ⟨#[83]⟩, .slice (some ⟨gA0, 0, none⟩) 1 1], [.string ⟨#[84]⟩, .slice (some ⟨gA1, 0, none⟩) 1 1]]) (blk_alloc HD1.out (.cells #[.string ⟨#[84]⟩, .slice none 0 0, .string ⟨#[83]⟩, .slice none 0 0] 45)) (by omega) rfl (bw_raw (w := w)) (by simp))
      have hRL := Aside0.mk (C_lit (d := Kd.raw 2) (xs := [[.string ⟨#[84]⟩, .slice none 0 0], [.string ⟨#[83]⟩, .slice none 0 0]]) (blk_new W1 (.cells #[.string ⟨#[84]⟩, .slice none 0 0, .string ⟨#[83]⟩, .slice none 0 0] 45)) (Reps.c2 ⟨rfl, rfl, by simp [Value.oneCell']⟩ (Reps.c2 ⟨rfl, rfl, by simp [Value.oneCell']⟩ (Reps.none _ _))) (by decide))
      have hlt := Aside0.mk (below_alloc HW.out (.cells #[.string ⟨#[84]⟩, .slice none 0 0, .string ⟨#[83]⟩, .slice none 0 0] 45))
      go_upto_region 22 with (first | ((with_reducible refine gate_builtin (b := .append) (xs := #[.tmp 88, .tmp 91]) rfl ?_); at_builtin; refine Kd.R_append_rows (Kd.raw 2) (w0 := w) w.heap.size rfl (.tmp 88) (.tmp 91) 23 45 (.agg #[.string ⟨#[]⟩, .slice none 0 0]) 40 rfl Try.underlying23 bw_info45 rfl (by decide) (by omega) (.slice (some ⟨gD, 0, none⟩) 2 2) [[.string ⟨#[83]⟩, .slice (some ⟨gA0, 0, none⟩) 1 1], [.string ⟨#[84]⟩, .slice (some ⟨gA1, 0, none⟩) 1 1]] [[.string ⟨#[84]⟩, .slice none 0 0], [.string ⟨#[83]⟩, .slice none 0 0]] _ _ _ (fun _ => True) (fun _ => False) rfl rfl (Kd.R_mono hRD.out (fun _ _ => trivial)) hRL.out (fun _ _ h => h) (fun _ h => h.elim) (fun _ _ => trivial) hlt.out hlt.out.size (by simp) ?_; intro v1 w1 ho hb hg hat; (obtain ⟨Ad, cd, e1⟩ := Kd.R_slice ho); subst e1; have hmv := fun (g : Nat) (cs : Array Value) (e : Nat) (h : W1.heap[g]? = some (.cells cs e (0, 0))) (hn : g ≠ gD) => (hg.block g (blk_lt ((hal.block g (blk_lt h)).trans h)) (by simp [Value.ownBlock]; exact hn)).trans ((hal.block g (blk_lt h)).trans h); have ps := (blk_cell (hmv gB _ _ HB1.out (by omega)) 1).trans rfl; have pf := blk_frozen (hmv gB _ _ HB1.out (by omega)) 1))
      have hDn := Aside0.mk (RowT.set (RowT.of rfl ho) (hmv gB _ _ HB1.out (by omega)) (by decide) 1 (.slice Ad 4 cd))
      have hRW := Aside0.mk hRD.out
      have mB := Aside0.mk (blk_put (hmv gB _ _ HB1.out (by omega)) 1 (.slice Ad 4 cd) rfl)
      have mA0 := Aside0.mk (blk_far (hmv gA0 _ _ HA01.out (by omega)) (p := ⟨gB, 1, none⟩) (by show gA0 ≠ gB; omega) (.slice Ad 4 cd))
      have mA1 := Aside0.mk (blk_far (hmv gA1 _ _ HA11.out (by omega)) (p := ⟨gB, 1, none⟩) (by show gA1 ≠ gB; omega) (.slice Ad 4 cd))
      have mC1 := Aside0.mk (blk_far (hmv gC1 _ _ HC11.out (by omega)) (p := ⟨gB, 1, none⟩) (by show gC1 ≠ gB; omega) (.slice Ad 4 cd))
      have mI := Aside0.mk (blk_far (hmv gI1 _ _ HI1.out (by omega)) (p := ⟨gB, 1, none⟩) (by show gI1 ≠ gB; omega) (.slice Ad 4 cd))
      have mX := Aside0.mk (Kd.F_far (Kd.F_grown (Kd.F_below HX1.out hal) hg (fun k hk he => hk.2.2.2.1 (by simpa [Value.ownBlock] using he))) (p := ⟨gB, 1, none⟩) (fun k hk => hk.2.2.2.2) (.slice Ad 4 cd))
      have mS := Aside0.mk (RowT.set (RowT.other (RowT.box hSn.out hal) (RowT.of rfl hRD.out) (by decide) hg) (hmv gB _ _ HB1.out (by omega)) (by decide) 1 (.slice Ad 4 cd))
      have mW := Aside0.mk (hb.setCell (p := ⟨gB, 1, none⟩) (by show w.heap.size ≤ gB; omega) (.slice Ad 4 cd))
      clear HB1 HA01 HA11 HC11 HI1 HX1 hSn HW HD1 hRD hRL hRW hlt hmv hal k0 kg ps pf ho hb hg hat
      generalize w1.setCell ⟨gB, 1, none⟩ (.slice Ad 4 cd) = W2 at *
      have HB2 := mB
      have HA02 := mA0
      have HA12 := mA1
      have HC12 := mC1
      have HI2 := mI
      have HX2 := mX
      have HS2 := mS
      have HW := mW
      clear mW mB mA0 mA1 mC1 mI mX mS
      go_upto_region 24 with (fail)
      have cS := (Kd.R_reads' HS2.out).2.2
      have lS := (Kd.R_reads' HS2.out).2.1
      have cI := bw_item HI2.out
      have lI : (1 : Nat) ≤ 1 := Nat.le_refl _
      have cX := Kd.F_now HX2.out
      have lX := Nat.le_refl 1
      have kD := bw_defs HA02.out HC12.out HA12.out cX rfl lX cI rfl lI
      have kM := bw_more W2
      have cD := rows_C (d := k45) (xs := [⟨⟨#[83]⟩, [[⟨false, [⟨0, ⟨#[84]⟩, 0, 0⟩]⟩]]⟩, ⟨⟨#[84]⟩, [[⟨false, [⟨2, ⟨#[]⟩, 1, 2⟩]⟩]]⟩]) (ys := [⟨⟨#[84]⟩, []⟩, ⟨⟨#[83]⟩, []⟩]) rfl rfl (Kd.R_reads' hDn.out).2.2 (bw_two kD.1 kD.2) (bw_two kM.1 kM.2)
      have lD := (Kd.R_reads' hDn.out).2.1
      have FB2 := Aside0.mk (show gram_Build.f k [⟨#[83]⟩, ⟨#[83]⟩] [⟨⟨#[83]⟩, [[⟨false, [⟨0, ⟨#[84]⟩, 0, 0⟩]⟩]]⟩, ⟨⟨#[84]⟩, [[⟨false, [⟨2, ⟨#[]⟩, 1, 2⟩]⟩]]⟩, ⟨⟨#[84]⟩, []⟩, ⟨⟨#[83]⟩, []⟩] = some (r1, r2, r3, ⟨#[84]⟩, 401) from FB.out)
      have tl := (show (r2.length = 2 ↔ (401 : Int) = 0) from FL.out)
      have tL : ((r2.length : Int) == 2) = false := by rw [beq_eq_false_iff_ne]; intro h9; exact absurd (tl.1 (by omega)) (by decide)
      have k0 : W2.cell? ⟨gB, 0, none⟩ = some (.slice As 2 cs) := (blk_cell HB2.out 0).trans rfl
      have k1 : W2.cell? ⟨gB, 1, none⟩ = some (.slice Ad 4 cd) := (blk_cell HB2.out 1).trans rfl
      have Z := Aside0.mk (And.intro cS (And.intro lS (And.intro cD (And.intro lD HW.out))))
      clear cS lS cD lD cI lI cX lX kD tl FB FL kM
      go_wp2_with (first | (go_at_call 14; (with_reducible refine (templelaw0_Num.calls 401 401 _ (bw_num 401)).mono ?_); rintro e w' ⟨rfl, ⟨nd, rfl⟩⟩) | (go_at_call 11; refine (gram_Build.calls k _ _ [⟨#[83]⟩, ⟨#[83]⟩] _ _ [⟨⟨#[83]⟩, [[⟨false, [⟨0, ⟨#[84]⟩, 0, 0⟩]⟩]]⟩, ⟨⟨#[84]⟩, [[⟨false, [⟨2, ⟨#[]⟩, 1, 2⟩]⟩]]⟩, ⟨⟨#[84]⟩, []⟩, ⟨⟨#[83]⟩, []⟩] r1 r2 r3 ⟨#[84]⟩ 401 _ Z.out.1 Z.out.2.1 Z.out.2.2.1 Z.out.2.2.2.1 FB2.out).mono ?_; rintro e w2 ⟨v1, v2, rfl, h1, h2, hbq⟩; (obtain ⟨Aq, cq, rfl⟩ := Kd.R_slice h1); (obtain ⟨Ar, cr, rfl⟩ := Kd.R_slice h2); have Y := Aside0.mk hbq; clear h1 h2 hbq))
      go_ret
      exact ⟨by first | rfl | simp | simp [tL], pw_below_drewN (below_alloc (Z.out.2.2.2.2.trans (Y.out.mono Z.out.2.2.2.2.size)) _) _⟩
   ·skip
    go_upto_region 13 with (fail)
    have hSz : ∀ w', Below W0.heap.size W0 w' → w'.cell? ⟨gB, 1, none⟩ = some (.slice (some ⟨gD, 0, none⟩) 2 2) ∧ w'.cell? ⟨gD, 3, none⟩ = some (.slice (some ⟨gA1, 0, none⟩) 1 1) ∧ w'.cell? ⟨gA1, 0, none⟩ = some (.slice (some ⟨gC1, 0, none⟩) 1 1) ∧ w'.cell? ⟨gC1, 1, none⟩ = some (.slice (some ⟨gI1, 0, none⟩) 1 1) ∧ w'.frozen? ⟨gC1, 1, none⟩ = false ∧ Aside0 (Below W0.heap.size W0 w') := fun w' h => ⟨(blk_cell ((h.block gB (blk_lt HB.out)).trans HB.out) 1).trans rfl, (blk_cell ((h.block gD (blk_lt HD.out)).trans HD.out) 3).trans rfl, (blk_cell ((h.block gA1 (blk_lt H1.out)).trans H1.out) 0).trans rfl, (blk_cell ((h.block gC1 (blk_lt HC.out)).trans HC.out) 1).trans rfl, blk_frozen ((h.block gC1 (blk_lt HC.out)).trans HC.out) 1, ⟨h⟩⟩
    have hb0 := (Below.refl W0.heap.size W0).drew
    have hRI := Aside0.mk (bw_row (d := k61) (base := w.heap.size) (n := 1) (xs := [⟨2, ⟨#[]⟩, 1, 2⟩]) HI.out (by omega) rfl (Reps.c4 (k61_mkM _ _ _ ⟨2, ⟨#[]⟩, 1, 2⟩) (Reps.none _ _)) (by decide))
    refine start_ (n := 23) (S := fun w' => w'.cell? ⟨gB, 1, none⟩ = some (.slice (some ⟨gD, 0, none⟩) 2 2) ∧ w'.cell? ⟨gD, 3, none⟩ = some (.slice (some ⟨gA1, 0, none⟩) 1 1) ∧ w'.cell? ⟨gA1, 0, none⟩ = some (.slice (some ⟨gC1, 0, none⟩) 1 1) ∧ w'.cell? ⟨gC1, 1, none⟩ = some (.slice (some ⟨gI1, 0, none⟩) 1 1) ∧ w'.frozen? ⟨gC1, 1, none⟩ = false) (ds := [22]) #[false, false, false, false, false, false, false, false, false, false, false, false, false, false, false, false, false, false, false, false, false, false, false] (by kernel_rfl) rfl rfl ⟨(hSz _ hb0).1, (hSz _ hb0).2.1, (hSz _ hb0).2.2.1, (hSz _ hb0).2.2.2.1, (hSz _ hb0).2.2.2.2.1⟩ (fun hHeld => ?_)
    refine with_tabW bwr13.tab13 bwr13.bits13 (fun HT_ HW_ => ?_)
    refine pure_ (i := 0) (N := some 54) (v := ?_) (a' := ?_) #[true, false, false, false, false, false, false, false, false, false, false, false, false, false, false, false, false, false, false, false, false, false, false] rfl rfl (any_of HT_.out (by kernel_rfl)) (fun _ _ _ h => h) (Or.inl ⟨by rfl, ?_⟩) ?_ ?_
    rotate_left
    ·intro w'
     go_simp
     with_reducible rfl
    rotate_left
    ·simp only [Act.put, List.setIfInBounds_toArray, List.set_cons_zero, List.set_cons_succ, i64_w, i32_w]
     rfl
    refine pure_ (i := 7) (N := some 61) (v := ?_) (a' := ?_) #[true, false, false, false, false, false, false, true, false, false, false, false, false, false, false, false, false, false, false, false, false, false, false] rfl rfl (any_of HT_.out (by kernel_rfl)) (fun _ _ _ h => h) (Or.inl ⟨by rfl, ?_⟩) ?_ ?_
    rotate_left
    ·intro w'
     go_simp
     with_reducible rfl
    rotate_left
    ·simp only [Act.put, List.setIfInBounds_toArray, List.set_cons_zero, List.set_cons_succ, i64_w, i32_w]
     rfl
    refine take_ (i := 1) (N := some 55) (v := ?_) (a' := ?_) #[true, true, false, false, false, false, false, true, false, false, false, false, false, false, false, false, false, false, false, false, false, false, false] rfl rfl (take_ofW HT_.out HW_.out (by kernel_rfl)) (fun _ _ _ h => h) (Or.inl ⟨by rfl, ?_⟩) hHeld ?_ ?_
    rotate_left
    ·rintro w' ⟨s0, s1, s2, s3, s4⟩
     go_simp
     with_reducible rfl
    rotate_left
    ·simp only [Act.put, List.setIfInBounds_toArray, List.set_cons_zero, List.set_cons_succ, i64_w, i32_w]
     rfl
    refine pure_ (i := 2) (N := some 56) (v := ?_) (a' := ?_) #[true, true, true, false, false, false, false, true, false, false, false, false, false, false, false, false, false, false, false, false, false, false, false] rfl rfl (any_of HT_.out (by kernel_rfl)) (fun _ _ _ h => h) (Or.inl ⟨by rfl, ?_⟩) ?_ ?_
    rotate_left
    ·intro w'
     go_simp
     with_reducible rfl
    rotate_left
    ·simp only [Act.put, List.setIfInBounds_toArray, List.set_cons_zero, List.set_cons_succ, i64_w, i32_w]
     rfl
    refine pure_ (i := 3) (N := some 57) (v := ?_) (a' := ?_) #[true, true, true, true, false, false, false, true, false, false, false, false, false, false, false, false, false, false, false, false, false, false, false] rfl rfl (any_of HT_.out (by kernel_rfl)) (fun _ _ _ h => h) (Or.inl ⟨by rfl, ?_⟩) ?_ ?_
    rotate_left
    ·intro w'
     go_simp
     with_reducible rfl
    rotate_left
    ·simp only [Act.put, List.setIfInBounds_toArray, List.set_cons_zero, List.set_cons_succ, i64_w, i32_w]
     rfl
    refine take_ (i := 4) (N := some 58) (v := ?_) (a' := ?_) #[true, true, true, true, true, false, false, true, false, false, false, false, false, false, false, false, false, false, false, false, false, false, false] rfl rfl (take_ofW HT_.out HW_.out (by kernel_rfl)) (fun _ _ _ h => h) (Or.inl ⟨by rfl, ?_⟩) hHeld ?_ ?_
    rotate_left
    ·rintro w' ⟨s0, s1, s2, s3, s4⟩
     go_simp
     with_reducible rfl
    rotate_left
    ·simp only [Act.put, List.setIfInBounds_toArray, List.set_cons_zero, List.set_cons_succ, i64_w, i32_w]
     rfl
    refine pure_ (i := 5) (N := some 59) (v := ?_) (a' := ?_) #[true, true, true, true, true, true, false, true, false, false, false, false, false, false, false, false, false, false, false, false, false, false, false] rfl rfl (any_of HT_.out (by kernel_rfl)) (fun _ _ _ h => h) (Or.inl ⟨by rfl, ?_⟩) ?_ ?_
    rotate_left
    ·intro w'
     go_simp
     with_reducible rfl
    rotate_left
    ·simp only [Act.put, List.setIfInBounds_toArray, List.set_cons_zero, List.set_cons_succ, i64_w, i32_w]
     rfl
    refine take_ (i := 6) (N := some 60) (v := ?_) (a' := ?_) #[true, true, true, true, true, true, true, true, false, false, false, false, false, false, false, false, false, false, false, false, false, false, false] rfl rfl (take_ofW HT_.out HW_.out (by kernel_rfl)) (fun _ _ _ h => h) (Or.inl ⟨by rfl, ?_⟩) hHeld ?_ ?_
    rotate_left
    ·rintro w' ⟨s0, s1, s2, s3, s4⟩
     go_simp
     with_reducible rfl
    rotate_left
    ·simp only [Act.put, List.setIfInBounds_toArray, List.set_cons_zero, List.set_cons_succ, i64_w, i32_w]
     rfl
    refine take_ (i := 8) (N := some 62) (v := ?_) (a' := ?_) #[true, true, true, true, true, true, true, true, true, false, false, false, false, false, false, false, false, false, false, false, false, false, false] rfl rfl (take_ofW HT_.out HW_.out (by kernel_rfl)) (fun _ _ _ h => h) (Or.inl ⟨by rfl, ?_⟩) hHeld ?_ ?_
    rotate_left
    ·rintro w' ⟨s0, s1, s2, s3, s4⟩
     go_simp
     with_reducible rfl
    rotate_left
    ·simp only [Act.put, List.setIfInBounds_toArray, List.set_cons_zero, List.set_cons_succ, i64_w, i32_w]
     rfl
    refine pure_ (i := 9) (N := some 63) (v := ?_) (a' := ?_) #[true, true, true, true, true, true, true, true, true, true, false, false, false, false, false, false, false, false, false, false, false, false, false] rfl rfl (any_of HT_.out (by kernel_rfl)) (fun _ _ _ h => h) (Or.inl ⟨by rfl, ?_⟩) ?_ ?_
    rotate_left
    ·intro w'
     go_simp
     with_reducible rfl
    rotate_left
    ·simp only [Act.put, List.setIfInBounds_toArray, List.set_cons_zero, List.set_cons_succ, i64_w, i32_w]
     rfl
    refine pure_ (i := 10) (N := some 64) (v := ?_) (a' := ?_) #[true, true, true, true, true, true, true, true, true, true, true, false, false, false, false, false, false, false, false, false, false, false, false] rfl rfl (any_of HT_.out (by kernel_rfl)) (fun _ _ _ h => h) (Or.inl ⟨by rfl, ?_⟩) ?_ ?_
    rotate_left
    ·intro w'
     go_simp
     with_reducible rfl
    rotate_left
    ·simp only [Act.put, List.setIfInBounds_toArray, List.set_cons_zero, List.set_cons_succ, i64_w, i32_w]
     rfl
    refine take_ (i := 11) (N := some 65) (v := ?_) (a' := ?_) #[true, true, true, true, true, true, true, true, true, true, true, true, false, false, false, false, false, false, false, false, false, false, false] rfl rfl (take_ofW HT_.out HW_.out (by kernel_rfl)) (fun _ _ _ h => h) (Or.inl ⟨by rfl, ?_⟩) hHeld ?_ ?_
    rotate_left
    ·rintro w' ⟨s0, s1, s2, s3, s4⟩
     go_simp
     with_reducible rfl
    rotate_left
    ·simp only [Act.put, List.setIfInBounds_toArray, List.set_cons_zero, List.set_cons_succ, i64_w, i32_w]
     rfl
    refine pure_ (i := 12) (N := some 66) (v := ?_) (a' := ?_) #[true, true, true, true, true, true, true, true, true, true, true, true, true, false, false, false, false, false, false, false, false, false, false] rfl rfl (any_of HT_.out (by kernel_rfl)) (fun _ _ _ h => h) (Or.inl ⟨by rfl, ?_⟩) ?_ ?_
    rotate_left
    ·intro w'
     go_simp
     with_reducible rfl
    rotate_left
    ·simp only [Act.put, List.setIfInBounds_toArray, List.set_cons_zero, List.set_cons_succ, i64_w, i32_w]
     rfl
    refine take_ (i := 13) (N := some 67) (v := ?_) (a' := ?_) #[true, true, true, true, true, true, true, true, true, true, true, true, true, true, false, false, false, false, false, false, false, false, false] rfl rfl (take_ofW HT_.out HW_.out (by kernel_rfl)) (fun _ _ _ h => h) (Or.inl ⟨by rfl, ?_⟩) hHeld ?_ ?_
    rotate_left
    ·rintro w' ⟨s0, s1, s2, s3, s4⟩
     go_simp
     with_reducible rfl
    rotate_left
    ·simp only [Act.put, List.setIfInBounds_toArray, List.set_cons_zero, List.set_cons_succ, i64_w, i32_w]
     rfl
    refine pure_ (i := 14) (N := some 68) (v := ?_) (a' := ?_) #[true, true, true, true, true, true, true, true, true, true, true, true, true, true, true, false, false, false, false, false, false, false, false] rfl rfl (any_of HT_.out (by kernel_rfl)) (fun _ _ _ h => h) (Or.inl ⟨by rfl, ?_⟩) ?_ ?_
    rotate_left
    ·intro w'
     go_simp
     with_reducible rfl
    rotate_left
    ·simp only [Act.put, List.setIfInBounds_toArray, List.set_cons_zero, List.set_cons_succ, i64_w, i32_w]
     rfl
    refine pure_ (i := 15) (N := some 69) (v := ?_) (a' := ?_) #[true, true, true, true, true, true, true, true, true, true, true, true, true, true, true, true, false, false, false, false, false, false, false] rfl rfl (any_of HT_.out (by kernel_rfl)) (fun _ _ _ h => h) (Or.inl ⟨by rfl, ?_⟩) ?_ ?_
    rotate_left
    ·intro w'
     go_simp
     with_reducible rfl
    rotate_left
    ·simp only [Act.put, List.setIfInBounds_toArray, List.set_cons_zero, List.set_cons_succ, i64_w, i32_w]
     rfl
    refine take_ (i := 16) (N := some 70) (v := ?_) (a' := ?_) #[true, true, true, true, true, true, true, true, true, true, true, true, true, true, true, true, true, false, false, false, false, false, false] rfl rfl (take_ofW HT_.out HW_.out (by kernel_rfl)) (fun _ _ _ h => h) (Or.inl ⟨by rfl, ?_⟩) hHeld ?_ ?_
    rotate_left
    ·rintro w' ⟨s0, s1, s2, s3, s4⟩
     go_simp
     with_reducible rfl
    rotate_left
    ·simp only [Act.put, List.setIfInBounds_toArray, List.set_cons_zero, List.set_cons_succ, i64_w, i32_w]
     rfl
    refine take_ (i := 17) (N := some 71) (v := ?_) (a' := ?_) #[true, true, true, true, true, true, true, true, true, true, true, true, true, true, true, true, true, true, false, false, false, false, false] rfl rfl (take_ofW HT_.out HW_.out (by kernel_rfl)) (fun _ _ _ h => h) (Or.inl ⟨by rfl, ?_⟩) hHeld ?_ ?_
    rotate_left
    ·rintro w' ⟨s0, s1, s2, s3, s4⟩
     go_simp
     with_reducible rfl
    rotate_left
    ·simp only [Act.put, List.setIfInBounds_toArray, List.set_cons_zero, List.set_cons_succ, i64_w, i32_w]
     rfl
    refine one_ (i := 18) (N := some 72) #[true, true, true, true, true, true, true, true, true, true, true, true, true, true, true, true, true, true, true, false, false, false, false] rfl rfl (one_of HT_.out (by kernel_rfl)) (by decide) (fun K hK => ?_)
    refine value_ (w1 := ?_) (v := ?_) (by rfl) rfl ?_ ?_
    rotate_left 2
    ·go_simp
     constructor
     ·rfl
     ·rfl
    refine hK.out _ _ ⟨(hSz _ (below_alloc hb0 (.cells #[.int .i64 0, .string ⟨#[85]⟩, .int .i64 0, .int .i64 0] 61))).1, (hSz _ (below_alloc hb0 (.cells #[.int .i64 0, .string ⟨#[85]⟩, .int .i64 0, .int .i64 0] 61))).2.1, (hSz _ (below_alloc hb0 (.cells #[.int .i64 0, .string ⟨#[85]⟩, .int .i64 0, .int .i64 0] 61))).2.2.1, (hSz _ (below_alloc hb0 (.cells #[.int .i64 0, .string ⟨#[85]⟩, .int .i64 0, .int .i64 0] 61))).2.2.2.1, (hSz _ (below_alloc hb0 (.cells #[.int .i64 0, .string ⟨#[85]⟩, .int .i64 0, .int .i64 0] 61))).2.2.2.2.1⟩ (fun hHeld => ?_)
    clear hK K
    refine norm_ (a' := ?_) ?_ ?_
    rotate_left
    ·show Act.put _ (some 72) _ = _
     simp only [Act.put, List.setIfInBounds_toArray, List.set_cons_zero, List.set_cons_succ, i64_w, i32_w]
     rfl
    refine one_ (i := 19) (N := some 73) #[true, true, true, true, true, true, true, true, true, true, true, true, true, true, true, true, true, true, true, true, false, false, false] rfl rfl (one_of HT_.out (by kernel_rfl)) (by decide) (fun K hK => ?_)
    refine Kd.R_append_step k61 (w0 := w) (W := W0.drew) w.heap.size (by rfl) (.tmp 70) (.tmp 72) 62 61 (.agg #[.int .i64 0, .string ⟨#[]⟩, .int .i64 0, .int .i64 0]) 40 rfl Try.underlying62 bw_info61 rfl (by decide) (by decide) (.slice (some ⟨gI1, 0, none⟩) 1 1) [⟨2, ⟨#[]⟩, 1, 2⟩] ⟨0, ⟨#[85]⟩, 0, 0⟩ [.int .i64 0, .string ⟨#[85]⟩, .int .i64 0, .int .i64 0] (fun _ => True) (fun _ => False) rfl rfl (k61_mkM _ _ _ ⟨0, ⟨#[85]⟩, 0, 0⟩) (fun _ hk => hk.elim) (fun _ _ => trivial) (Kd.R_mono (Kd.R_drew hRI.out) (fun _ _ => trivial)) HW.out.drew HW.out.size (by simp) ?_
    intro v1 w1 ho hb hg hat
    obtain ⟨Ai, ci, e1⟩ := Kd.R_slice ho
    subst e1
    have hgB := fun (g : Nat) (cs : Array Value) (e : Nat) (h : W0.heap[g]? = some (.cells cs e (0, 0))) (hn : g ≠ gI1) => (hg.block g (blk_lt h) (by simp [Value.ownBlock]; exact hn)).trans h
    refine hK.out _ _ ⟨(blk_cell (hgB gB _ _ HB.out (by omega)) 1).trans rfl, (blk_cell (hgB gD _ _ HD.out (by omega)) 3).trans rfl, (blk_cell (hgB gA1 _ _ H1.out (by omega)) 0).trans rfl, (blk_cell (hgB gC1 _ _ HC.out (by omega)) 1).trans rfl, blk_frozen (hgB gC1 _ _ HC.out (by omega)) 1⟩ (fun hHeld => ?_)
    clear hK K
    refine norm_ (a' := ?_) ?_ ?_
    rotate_left
    ·show Act.put _ (some 73) _ = _
     simp only [Act.put, List.setIfInBounds_toArray, List.set_cons_zero, List.set_cons_succ, i64_w, i32_w]
     rfl
    refine pure_ (i := 20) (N := some 74) (v := ?_) (a' := ?_) #[true, true, true, true, true, true, true, true, true, true, true, true, true, true, true, true, true, true, true, true, true, false, false] rfl rfl (any_of HT_.out (by kernel_rfl)) (fun _ _ _ h => h) (Or.inl ⟨by rfl, ?_⟩) ?_ ?_
    rotate_left
    ·intro w'
     go_simp
     with_reducible rfl
    rotate_left
    ·simp only [Act.put, List.setIfInBounds_toArray, List.set_cons_zero, List.set_cons_succ, i64_w, i32_w]
     rfl
    refine pure_ (i := 21) (N := some 75) (v := ?_) (a' := ?_) #[true, true, true, true, true, true, true, true, true, true, true, true, true, true, true, true, true, true, true, true, true, true, false] rfl rfl (any_of HT_.out (by kernel_rfl)) (fun _ _ _ h => h) (Or.inl ⟨by rfl, ?_⟩) ?_ ?_
    rotate_left
    ·intro w'
     go_simp
     with_reducible rfl
    rotate_left
    ·simp only [Act.put, List.setIfInBounds_toArray, List.set_cons_zero, List.set_cons_succ, i64_w, i32_w]
     rfl
    refine last_ (i := 22) (N := none) #[true, true, true, true, true, true, true, true, true, true, true, true, true, true, true, true, true, true, true, true, true, true, true] rfl rfl (one_of HT_.out (by kernel_rfl)) (by decide) (fun K hK => ?_)
    have q0 := hHeld.2.2.2.1
    have q1 := hHeld.2.2.2.2
    refine skip_ (w1 := ?_) (by rfl) rfl ?_ ?_
    rotate_left
    ·go_simp
     rfl
    refine hK.out _ _ ?_
    clear hK K
    refine done_ (done_of HT_.out (by kernel_rfl)) ?_
    have hIn := Aside0.mk (And.intro (Kd.F_far (p := ⟨gC1, 1, none⟩) (Kd.F_mono (ok' := fun k => k ≠ gS ∧ k ≠ gC1 ∧ k ≠ gD ∧ k ≠ gB) (Kd.R_F (Kd.R_types (Kd.R_types (Kd.R_types (Kd.R_types ho (hgB gS _ _ HS.out (by omega)) (by decide)) (hgB gC1 _ _ HC.out (by omega)) (by decide)) (hgB gD _ _ HD.out (by omega)) (by decide)) (hgB gB _ _ HB.out (by omega)) (by decide))) (fun k hk => ⟨hk.1.1.1.2, hk.1.1.2, hk.1.2, hk.2⟩)) (fun k hk => hk.2.1) (.slice Ai 2 ci)) (Kd.R_reads' ho).2.1)
    have mB := Aside0.mk (blk_far (hgB gB _ _ HB.out (by omega)) (p := ⟨gC1, 1, none⟩) (by show gB ≠ gC1; omega) (.slice Ai 2 ci))
    have mS := Aside0.mk (blk_far (hgB gS _ _ HS.out (by omega)) (p := ⟨gC1, 1, none⟩) (by show gS ≠ gC1; omega) (.slice Ai 2 ci))
    have mD := Aside0.mk (blk_far (hgB gD _ _ HD.out (by omega)) (p := ⟨gC1, 1, none⟩) (by show gD ≠ gC1; omega) (.slice Ai 2 ci))
    have mA0 := Aside0.mk (blk_far (hgB gA0 _ _ H0.out (by omega)) (p := ⟨gC1, 1, none⟩) (by show gA0 ≠ gC1; omega) (.slice Ai 2 ci))
    have mA1 := Aside0.mk (blk_far (hgB gA1 _ _ H1.out (by omega)) (p := ⟨gC1, 1, none⟩) (by show gA1 ≠ gC1; omega) (.slice Ai 2 ci))
    have mC1 := Aside0.mk (blk_put (hgB gC1 _ _ HC.out (by omega)) 1 (.slice Ai 2 ci) rfl)
    have mX := Aside0.mk (Kd.F_far (Kd.F_grown (Kd.F_drew HX.out) hg (fun k hk he => hk.2.1 (by simpa [Value.ownBlock] using he))) (p := ⟨gC1, 1, none⟩) (fun k hk => hk.2.2.1) (.slice Ai 2 ci))
    have mW := Aside0.mk (hb.setCell (p := ⟨gC1, 1, none⟩) (by show w.heap.size ≤ gC1; omega) (.slice Ai 2 ci))
    clear HB HS HD H0 H1 HC HX HW HI hRI hgB hSz hb0 HT_ HW_ hHeld q0 q1 ho hb hg hat
    generalize w1.setCell ⟨gC1, 1, none⟩ (.slice Ai 2 ci) = W1 at *
    have HB1 := mB
    have HS1 := mS
    have HD1 := mD
    have HA01 := mA0
    have HA11 := mA1
    have HC11 := mC1
    have HX1 := mX
    have HW := mW
    clear mW mB mS mD mA0 mA1 mC1 mX
    have HI1 := Aside0.mk hIn.out.1
    have hIC := Aside0.mk hIn.out.2
    clear hIn
    cases b2
    ·skip
     cases b1
     ·skip
      go_upto_region 24 with (fail)
      have cS : Kd.C Kd.string W1 (some ⟨gS, 0, none⟩) [(⟨#[83]⟩ : ByteArray)].length [⟨#[83]⟩] := C_lit HS1.out (Reps.one rfl (Reps.none _ _)) (by decide)
      have lS : [(⟨#[83]⟩ : ByteArray)].length ≤ 1 := Nat.le_refl _
      have cI := Kd.F_now HI1.out
      have lI := hIC.out
      have cX := Kd.F_now HX1.out
      have lX := Nat.le_refl 1
      have kD := bw_defs HA01.out HC11.out HA11.out cX rfl lX cI rfl lI
      have cD : Kd.C k45 W1 (some ⟨gD, 0, none⟩) ([⟨⟨#[83]⟩, [[⟨false, [⟨0, ⟨#[84]⟩, 0, 0⟩]⟩]]⟩, ⟨⟨#[84]⟩, [[⟨false, [⟨2, ⟨#[]⟩, 1, 2⟩, ⟨0, ⟨#[85]⟩, 0, 0⟩]⟩]]⟩] : List S45).length [⟨⟨#[83]⟩, [[⟨false, [⟨0, ⟨#[84]⟩, 0, 0⟩]⟩]]⟩, ⟨⟨#[84]⟩, [[⟨false, [⟨2, ⟨#[]⟩, 1, 2⟩, ⟨0, ⟨#[85]⟩, 0, 0⟩]⟩]]⟩] := C_lit HD1.out (Reps.c2 kD.1 (Reps.c2 kD.2 (Reps.none _ _))) (by decide)
      have lD : (2 : Nat) ≤ 2 := Nat.le_refl _
      have FB2 := Aside0.mk (show gram_Build.f k [⟨#[83]⟩] [⟨⟨#[83]⟩, [[⟨false, [⟨0, ⟨#[84]⟩, 0, 0⟩]⟩]]⟩, ⟨⟨#[84]⟩, [[⟨false, [⟨2, ⟨#[]⟩, 1, 2⟩, ⟨0, ⟨#[85]⟩, 0, 0⟩]⟩]]⟩] = some (r1, r2, r3, ⟨#[85]⟩, 402) from FB.out)
      have tl := (show (r2.length = 2 ↔ (402 : Int) = 0) from FL.out)
      have tL : ((r2.length : Int) == 2) = false := by rw [beq_eq_false_iff_ne]; intro h9; exact absurd (tl.1 (by omega)) (by decide)
      have k0 : W1.cell? ⟨gB, 0, none⟩ = some (.slice (some ⟨gS, 0, none⟩) 1 1) := (blk_cell HB1.out 0).trans rfl
      have k1 : W1.cell? ⟨gB, 1, none⟩ = some (.slice (some ⟨gD, 0, none⟩) 2 2) := (blk_cell HB1.out 1).trans rfl
      have Z := Aside0.mk (And.intro cS (And.intro lS (And.intro cD (And.intro lD HW.out))))
      clear cS lS cD lD cI lI cX lX kD tl FB FL
      go_wp2_with (first | (go_at_call 14; (with_reducible refine (templelaw0_Num.calls 402 402 _ (bw_num 402)).mono ?_); rintro e w' ⟨rfl, ⟨nd, rfl⟩⟩) | (go_at_call 11; refine (gram_Build.calls k _ _ [⟨#[83]⟩] _ _ [⟨⟨#[83]⟩, [[⟨false, [⟨0, ⟨#[84]⟩, 0, 0⟩]⟩]]⟩, ⟨⟨#[84]⟩, [[⟨false, [⟨2, ⟨#[]⟩, 1, 2⟩, ⟨0, ⟨#[85]⟩, 0, 0⟩]⟩]]⟩] r1 r2 r3 ⟨#[85]⟩ 402 _ Z.out.1 Z.out.2.1 Z.out.2.2.1 Z.out.2.2.2.1 FB2.out).mono ?_; rintro e w2 ⟨v1, v2, rfl, h1, h2, hbq⟩; (obtain ⟨Aq, cq, rfl⟩ := Kd.R_slice h1); (obtain ⟨Ar, cr, rfl⟩ := Kd.R_slice h2); have Y := Aside0.mk hbq; clear h1 h2 hbq))
      go_ret
      exact ⟨by first | rfl | simp | simp [tL], pw_below_drewN (below_alloc (Z.out.2.2.2.2.trans (Y.out.mono Z.out.2.2.2.2.size)) _) _⟩
     ·skip
      go_upto_region 21 with (fail)
      have k0 : W1.cell? ⟨gB, 1, none⟩ = some (.slice (some ⟨gD, 0, none⟩) 2 2) := (blk_cell HB1.out 1).trans rfl
      have kg : W1.cell? ⟨gB, 0, none⟩ = some (.slice (some ⟨gS, 0, none⟩) 1 1) := (blk_cell HB1.out 0).trans rfl
      have hal := below_alloc (Below.refl W1.heap.size W1) (.cells #[.string ⟨#[84]⟩, .slice none 0 0, .string ⟨#[83]⟩, .slice none 0 0] 45)
      have hRD := Aside0.mk (bw_row (d := Kd.raw 2) (base := w.heap.size) (n := 2) (xs := [[.string ⟨#[83]⟩, .slice (some ⟨gA0, 0, none⟩) 1 1], [.string ⟨#[84]⟩, .slice (some ⟨gA1, 0, none⟩) 1 1]]) (blk_alloc HD1.out (.cells #[.string ⟨#[84]⟩, .slice none 0 0, .string ⟨#[83]⟩, .slice none 0 0] 45)) (by omega) rfl (bw_raw (w := w)) (by simp))
      have hRL := Aside0.mk (C_lit (d := Kd.raw 2) (xs := [[.string ⟨#[84]⟩, .slice none 0 0], [.string ⟨#[83]⟩, .slice none 0 0]]) (blk_new W1 (.cells #[.string ⟨#[84]⟩, .slice none 0 0, .string ⟨#[83]⟩, .slice none 0 0] 45)) (Reps.c2 ⟨rfl, rfl, by simp [Value.oneCell']⟩ (Reps.c2 ⟨rfl, rfl, by simp [Value.oneCell']⟩ (Reps.none _ _))) (by decide))
      have hlt := Aside0.mk (below_alloc HW.out (.cells #[.string ⟨#[84]⟩, .slice none 0 0, .string ⟨#[83]⟩, .slice none 0 0] 45))
      go_upto_region 22 with (first | ((with_reducible refine gate_builtin (b := .append) (xs := #[.tmp 88, .tmp 91]) rfl ?_); at_builtin; refine Kd.R_append_rows (Kd.raw 2) (w0 := w) w.heap.size rfl (.tmp 88) (.tmp 91) 23 45 (.agg #[.string ⟨#[]⟩, .slice none 0 0]) 40 rfl Try.underlying23 bw_info45 rfl (by decide) (by omega) (.slice (some ⟨gD, 0, none⟩) 2 2) [[.string ⟨#[83]⟩, .slice (some ⟨gA0, 0, none⟩) 1 1], [.string ⟨#[84]⟩, .slice (some ⟨gA1, 0, none⟩) 1 1]] [[.string ⟨#[84]⟩, .slice none 0 0], [.string ⟨#[83]⟩, .slice none 0 0]] _ _ _ (fun _ => True) (fun _ => False) rfl rfl (Kd.R_mono hRD.out (fun _ _ => trivial)) hRL.out (fun _ _ h => h) (fun _ h => h.elim) (fun _ _ => trivial) hlt.out hlt.out.size (by simp) ?_; intro v1 w1 ho hb hg hat; (obtain ⟨Ad, cd, e1⟩ := Kd.R_slice ho); subst e1; have hmv := fun (g : Nat) (cs : Array Value) (e : Nat) (h : W1.heap[g]? = some (.cells cs e (0, 0))) (hn : g ≠ gD) => (hg.block g (blk_lt ((hal.block g (blk_lt h)).trans h)) (by simp [Value.ownBlock]; exact hn)).trans ((hal.block g (blk_lt h)).trans h); have ps := (blk_cell (hmv gB _ _ HB1.out (by omega)) 1).trans rfl; have pf := blk_frozen (hmv gB _ _ HB1.out (by omega)) 1))
      have hDn := Aside0.mk (RowT.set (RowT.of rfl ho) (hmv gB _ _ HB1.out (by omega)) (by decide) 1 (.slice Ad 4 cd))
      have hRW := Aside0.mk hRD.out
      have mB := Aside0.mk (blk_put (hmv gB _ _ HB1.out (by omega)) 1 (.slice Ad 4 cd) rfl)
      have mS := Aside0.mk (blk_far (hmv gS _ _ HS1.out (by omega)) (p := ⟨gB, 1, none⟩) (by show gS ≠ gB; omega) (.slice Ad 4 cd))
      have mA0 := Aside0.mk (blk_far (hmv gA0 _ _ HA01.out (by omega)) (p := ⟨gB, 1, none⟩) (by show gA0 ≠ gB; omega) (.slice Ad 4 cd))
      have mA1 := Aside0.mk (blk_far (hmv gA1 _ _ HA11.out (by omega)) (p := ⟨gB, 1, none⟩) (by show gA1 ≠ gB; omega) (.slice Ad 4 cd))
      have mC1 := Aside0.mk (blk_far (hmv gC1 _ _ HC11.out (by omega)) (p := ⟨gB, 1, none⟩) (by show gC1 ≠ gB; omega) (.slice Ad 4 cd))
      have mX := Aside0.mk (Kd.F_far (Kd.F_grown (Kd.F_below HX1.out hal) hg (fun k hk he => hk.2.2.2.1 (by simpa [Value.ownBlock] using he))) (p := ⟨gB, 1, none⟩) (fun k hk => hk.2.2.2.2) (.slice Ad 4 cd))
      have mI := Aside0.mk (Kd.F_far (Kd.F_grown (Kd.F_below HI1.out hal) hg (fun k hk he => hk.2.2.1 (by simpa [Value.ownBlock] using he))) (p := ⟨gB, 1, none⟩) (fun k hk => hk.2.2.2) (.slice Ad 4 cd))
      have mW := Aside0.mk (hb.setCell (p := ⟨gB, 1, none⟩) (by show w.heap.size ≤ gB; omega) (.slice Ad 4 cd))
      clear HB1 HS1 HA01 HA11 HC11 HX1 HI1 HW HD1 hRD hRL hRW hlt hmv hal k0 kg ps pf ho hb hg hat
      generalize w1.setCell ⟨gB, 1, none⟩ (.slice Ad 4 cd) = W2 at *
      have HB2 := mB
      have HS2 := mS
      have HA02 := mA0
      have HA12 := mA1
      have HC12 := mC1
      have HX2 := mX
      have HI2 := mI
      have HW := mW
      clear mW mB mS mA0 mA1 mC1 mX mI
      go_upto_region 24 with (fail)
      have cS : Kd.C Kd.string W2 (some ⟨gS, 0, none⟩) [(⟨#[83]⟩ : ByteArray)].length [⟨#[83]⟩] := C_lit HS2.out (Reps.one rfl (Reps.none _ _)) (by decide)
      have lS : [(⟨#[83]⟩ : ByteArray)].length ≤ 1 := Nat.le_refl _
      have cI := Kd.F_now HI2.out
      have lI := hIC.out
      have cX := Kd.F_now HX2.out
      have lX := Nat.le_refl 1
      have kD := bw_defs HA02.out HC12.out HA12.out cX rfl lX cI rfl lI
      have kM := bw_more W2
      have cD := rows_C (d := k45) (xs := [⟨⟨#[83]⟩, [[⟨false, [⟨0, ⟨#[84]⟩, 0, 0⟩]⟩]]⟩, ⟨⟨#[84]⟩, [[⟨false, [⟨2, ⟨#[]⟩, 1, 2⟩, ⟨0, ⟨#[85]⟩, 0, 0⟩]⟩]]⟩]) (ys := [⟨⟨#[84]⟩, []⟩, ⟨⟨#[83]⟩, []⟩]) rfl rfl (Kd.R_reads' hDn.out).2.2 (bw_two kD.1 kD.2) (bw_two kM.1 kM.2)
      have lD := (Kd.R_reads' hDn.out).2.1
      have FB2 := Aside0.mk (show gram_Build.f k [⟨#[83]⟩] [⟨⟨#[83]⟩, [[⟨false, [⟨0, ⟨#[84]⟩, 0, 0⟩]⟩]]⟩, ⟨⟨#[84]⟩, [[⟨false, [⟨2, ⟨#[]⟩, 1, 2⟩, ⟨0, ⟨#[85]⟩, 0, 0⟩]⟩]]⟩, ⟨⟨#[84]⟩, []⟩, ⟨⟨#[83]⟩, []⟩] = some (r1, r2, r3, ⟨#[84]⟩, 401) from FB.out)
      have tl := (show (r2.length = 2 ↔ (401 : Int) = 0) from FL.out)
      have tL : ((r2.length : Int) == 2) = false := by rw [beq_eq_false_iff_ne]; intro h9; exact absurd (tl.1 (by omega)) (by decide)
      have k0 : W2.cell? ⟨gB, 0, none⟩ = some (.slice (some ⟨gS, 0, none⟩) 1 1) := (blk_cell HB2.out 0).trans rfl
      have k1 : W2.cell? ⟨gB, 1, none⟩ = some (.slice Ad 4 cd) := (blk_cell HB2.out 1).trans rfl
      have Z := Aside0.mk (And.intro cS (And.intro lS (And.intro cD (And.intro lD HW.out))))
      clear cS lS cD lD cI lI cX lX kD tl FB FL kM
      go_wp2_with (first | (go_at_call 14; (with_reducible refine (templelaw0_Num.calls 401 401 _ (bw_num 401)).mono ?_); rintro e w' ⟨rfl, ⟨nd, rfl⟩⟩) | (go_at_call 11; refine (gram_Build.calls k _ _ [⟨#[83]⟩] _ _ [⟨⟨#[83]⟩, [[⟨false, [⟨0, ⟨#[84]⟩, 0, 0⟩]⟩]]⟩, ⟨⟨#[84]⟩, [[⟨false, [⟨2, ⟨#[]⟩, 1, 2⟩, ⟨0, ⟨#[85]⟩, 0, 0⟩]⟩]]⟩, ⟨⟨#[84]⟩, []⟩, ⟨⟨#[83]⟩, []⟩] r1 r2 r3 ⟨#[84]⟩ 401 _ Z.out.1 Z.out.2.1 Z.out.2.2.1 Z.out.2.2.2.1 FB2.out).mono ?_; rintro e w2 ⟨v1, v2, rfl, h1, h2, hbq⟩; (obtain ⟨Aq, cq, rfl⟩ := Kd.R_slice h1); (obtain ⟨Ar, cr, rfl⟩ := Kd.R_slice h2); have Y := Aside0.mk hbq; clear h1 h2 hbq))
      go_ret
      exact ⟨by first | rfl | simp | simp [tL], pw_below_drewN (below_alloc (Z.out.2.2.2.2.trans (Y.out.mono Z.out.2.2.2.2.size)) _) _⟩
    ·skip
     go_upto_region 17 with (fail)
     have k0 : W1.cell? ⟨gB, 0, none⟩ = some (.slice (some ⟨gS, 0, none⟩) 1 1) := (blk_cell HB1.out 0).trans rfl
     have kg : W1.cell? ⟨gB, 1, none⟩ = some (.slice (some ⟨gD, 0, none⟩) 2 2) := (blk_cell HB1.out 1).trans rfl
     have kf := blk_frozen HB1.out 0
     have hRS := Aside0.mk (bw_row (d := Kd.string) (base := w.heap.size) (n := 1) (xs := [⟨#[83]⟩]) HS1.out (by omega) rfl (Reps.one rfl (Reps.none _ _)) (by decide))
     go_upto_region 18 with (first | ((with_reducible refine gate_builtin (b := .append) (xs := #[.tmp 80, .tmp 81]) rfl ?_); at_builtin; refine Kd.R_append Kd.string (w0 := w) (W := W1) w.heap.size rfl (.tmp 80) (.tmp 81) 22 9 (.string ⟨#[]⟩) 16 rfl Try.underlying22 bw_info9 rfl (by decide) (by omega) (.slice (some ⟨gS, 0, none⟩) 1 1) [⟨#[83]⟩] ⟨#[83]⟩ [.string ⟨#[83]⟩] (fun _ => True) (fun _ => False) rfl (by first | (go_simp; done) | (go_simp; rfl)) rfl (fun _ hk => hk.elim) (fun _ _ => trivial) (Kd.R_mono hRS.out (fun _ _ => trivial)) HW.out HW.out.size (by simp) ?_; intro v1 w1 ho hb hg hat; (obtain ⟨As, cs, e1⟩ := Kd.R_slice ho); subst e1; have hmv := fun (g : Nat) (cs : Array Value) (e : Nat) (h : W1.heap[g]? = some (.cells cs e (0, 0))) (hn : g ≠ gS) => (hg.block g (blk_lt h) (by simp [Value.ownBlock]; exact hn)).trans h; have ps := (blk_cell (hmv gB _ _ HB1.out (by omega)) 0).trans rfl; have pf := blk_frozen (hmv gB _ _ HB1.out (by omega)) 0))
     have hSn := Aside0.mk (RowT.set (RowT.of rfl ho) (hmv gB _ _ HB1.out (by omega)) (by decide) 0 (.slice As 2 cs))
     have mB := Aside0.mk (blk_put (hmv gB _ _ HB1.out (by omega)) 0 (.slice As 2 cs) rfl)
     have mD := Aside0.mk (blk_far (hmv gD _ _ HD1.out (by omega)) (p := ⟨gB, 0, none⟩) (by show gD ≠ gB; omega) (.slice As 2 cs))
     have mA0 := Aside0.mk (blk_far (hmv gA0 _ _ HA01.out (by omega)) (p := ⟨gB, 0, none⟩) (by show gA0 ≠ gB; omega) (.slice As 2 cs))
     have mA1 := Aside0.mk (blk_far (hmv gA1 _ _ HA11.out (by omega)) (p := ⟨gB, 0, none⟩) (by show gA1 ≠ gB; omega) (.slice As 2 cs))
     have mC1 := Aside0.mk (blk_far (hmv gC1 _ _ HC11.out (by omega)) (p := ⟨gB, 0, none⟩) (by show gC1 ≠ gB; omega) (.slice As 2 cs))
     have mX := Aside0.mk (Kd.F_far (Kd.F_grown HX1.out hg (fun k hk he => hk.1 (by simpa [Value.ownBlock] using he))) (p := ⟨gB, 0, none⟩) (fun k hk => hk.2.2.2.2) (.slice As 2 cs))
     have mI := Aside0.mk (Kd.F_far (Kd.F_grown HI1.out hg (fun k hk he => hk.1 (by simpa [Value.ownBlock] using he))) (p := ⟨gB, 0, none⟩) (fun k hk => hk.2.2.2) (.slice As 2 cs))
     have mW := Aside0.mk (hb.setCell (p := ⟨gB, 0, none⟩) (by show w.heap.size ≤ gB; omega) (.slice As 2 cs))
     clear HB1 HD1 HA01 HA11 HC11 HX1 HI1 HW HS1 hRS hmv k0 kg kf ps pf ho hb hg hat
     generalize w1.setCell ⟨gB, 0, none⟩ (.slice As 2 cs) = W2 at *
     have HB2 := mB
     have HD2 := mD
     have HA02 := mA0
     have HA12 := mA1
     have HC12 := mC1
     have HX2 := mX
     have HI2 := mI
     have HW := mW
     clear mW mB mD mA0 mA1 mC1 mX mI
     cases b1
     ·skip
      go_upto_region 24 with (fail)
      have cS := (Kd.R_reads' hSn.out).2.2
      have lS := (Kd.R_reads' hSn.out).2.1
      have cI := Kd.F_now HI2.out
      have lI := hIC.out
      have cX := Kd.F_now HX2.out
      have lX := Nat.le_refl 1
      have kD := bw_defs HA02.out HC12.out HA12.out cX rfl lX cI rfl lI
      have cD : Kd.C k45 W2 (some ⟨gD, 0, none⟩) ([⟨⟨#[83]⟩, [[⟨false, [⟨0, ⟨#[84]⟩, 0, 0⟩]⟩]]⟩, ⟨⟨#[84]⟩, [[⟨false, [⟨2, ⟨#[]⟩, 1, 2⟩, ⟨0, ⟨#[85]⟩, 0, 0⟩]⟩]]⟩] : List S45).length [⟨⟨#[83]⟩, [[⟨false, [⟨0, ⟨#[84]⟩, 0, 0⟩]⟩]]⟩, ⟨⟨#[84]⟩, [[⟨false, [⟨2, ⟨#[]⟩, 1, 2⟩, ⟨0, ⟨#[85]⟩, 0, 0⟩]⟩]]⟩] := C_lit HD2.out (Reps.c2 kD.1 (Reps.c2 kD.2 (Reps.none _ _))) (by decide)
      have lD : (2 : Nat) ≤ 2 := Nat.le_refl _
      have FB2 := Aside0.mk (show gram_Build.f k [⟨#[83]⟩, ⟨#[83]⟩] [⟨⟨#[83]⟩, [[⟨false, [⟨0, ⟨#[84]⟩, 0, 0⟩]⟩]]⟩, ⟨⟨#[84]⟩, [[⟨false, [⟨2, ⟨#[]⟩, 1, 2⟩, ⟨0, ⟨#[85]⟩, 0, 0⟩]⟩]]⟩] = some (r1, r2, r3, ⟨#[]⟩, 400) from FB.out)
      have tl := (show (r2.length = 2 ↔ (400 : Int) = 0) from FL.out)
      have tL : ((r2.length : Int) == 2) = false := by rw [beq_eq_false_iff_ne]; intro h9; exact absurd (tl.1 (by omega)) (by decide)
      have k0 : W2.cell? ⟨gB, 0, none⟩ = some (.slice As 2 cs) := (blk_cell HB2.out 0).trans rfl
      have k1 : W2.cell? ⟨gB, 1, none⟩ = some (.slice (some ⟨gD, 0, none⟩) 2 2) := (blk_cell HB2.out 1).trans rfl
      have Z := Aside0.mk (And.intro cS (And.intro lS (And.intro cD (And.intro lD HW.out))))
      clear cS lS cD lD cI lI cX lX kD tl FB FL
      go_wp2_with (first | (go_at_call 14; (with_reducible refine (templelaw0_Num.calls 400 400 _ (bw_num 400)).mono ?_); rintro e w' ⟨rfl, ⟨nd, rfl⟩⟩) | (go_at_call 11; refine (gram_Build.calls k _ _ [⟨#[83]⟩, ⟨#[83]⟩] _ _ [⟨⟨#[83]⟩, [[⟨false, [⟨0, ⟨#[84]⟩, 0, 0⟩]⟩]]⟩, ⟨⟨#[84]⟩, [[⟨false, [⟨2, ⟨#[]⟩, 1, 2⟩, ⟨0, ⟨#[85]⟩, 0, 0⟩]⟩]]⟩] r1 r2 r3 ⟨#[]⟩ 400 _ Z.out.1 Z.out.2.1 Z.out.2.2.1 Z.out.2.2.2.1 FB2.out).mono ?_; rintro e w2 ⟨v1, v2, rfl, h1, h2, hbq⟩; (obtain ⟨Aq, cq, rfl⟩ := Kd.R_slice h1); (obtain ⟨Ar, cr, rfl⟩ := Kd.R_slice h2); have Y := Aside0.mk hbq; clear h1 h2 hbq))
      go_ret
      exact ⟨by first | rfl | simp | simp [tL], pw_below_drewN (below_alloc (Z.out.2.2.2.2.trans (Y.out.mono Z.out.2.2.2.2.size)) _) _⟩
     ·skip
      go_upto_region 21 with (fail)
      have k0 : W2.cell? ⟨gB, 1, none⟩ = some (.slice (some ⟨gD, 0, none⟩) 2 2) := (blk_cell HB2.out 1).trans rfl
      have kg : W2.cell? ⟨gB, 0, none⟩ = some (.slice As 2 cs) := (blk_cell HB2.out 0).trans rfl
      have hal := below_alloc (Below.refl W2.heap.size W2) (.cells #[.string ⟨#[84]⟩, .slice none 0 0, .string ⟨#[83]⟩, .slice none 0 0] 45)
      have hRD := Aside0.mk (bw_row (d := Kd.raw 2) (base := w.heap.size) (n := 2) (xs := [[.string ⟨#[83]⟩, .slice (some ⟨gA0, 0, none⟩) 1 1], [.string ⟨#[84]⟩, .slice (some ⟨gA1, 0, none⟩) 1 1]]) (blk_alloc HD2.out (.cells #[.string ⟨#[84]⟩, .slice none 0 0, .string ⟨#[83]⟩, .slice none 0 0] 45)) (by omega) rfl (bw_raw (w := w)) (by simp))
      have hRL := Aside0.mk (C_lit (d := Kd.raw 2) (xs := [[.string ⟨#[84]⟩, .slice none 0 0], [.string ⟨#[83]⟩, .slice none 0 0]]) (blk_new W2 (.cells #[.string ⟨#[84]⟩, .slice none 0 0, .string ⟨#[83]⟩, .slice none 0 0] 45)) (Reps.c2 ⟨rfl, rfl, by simp [Value.oneCell']⟩ (Reps.c2 ⟨rfl, rfl, by simp [Value.oneCell']⟩ (Reps.none _ _))) (by decide))
      have hlt := Aside0.mk (below_alloc HW.out (.cells #[.string ⟨#[84]⟩, .slice none 0 0, .string ⟨#[83]⟩, .slice none 0 0] 45))
      go_upto_region 22 with (first | ((with_reducible refine gate_builtin (b := .append) (xs := #[.tmp 88, .tmp 91]) rfl ?_); at_builtin; refine Kd.R_append_rows (Kd.raw 2) (w0 := w) w.heap.size rfl (.tmp 88) (.tmp 91) 23 45 (.agg #[.string ⟨#[]⟩, .slice none 0 0]) 40 rfl Try.underlying23 bw_info45 rfl (by decide) (by omega) (.slice (some ⟨gD, 0, none⟩) 2 2) [[.string ⟨#[83]⟩, .slice (some ⟨gA0, 0, none⟩) 1 1], [.string ⟨#[84]⟩, .slice (some ⟨gA1, 0, none⟩) 1 1]] [[.string ⟨#[84]⟩, .slice none 0 0], [.string ⟨#[83]⟩, .slice none 0 0]] _ _ _ (fun _ => True) (fun _ => False) rfl rfl (Kd.R_mono hRD.out (fun _ _ => trivial)) hRL.out (fun _ _ h => h) (fun _ h => h.elim) (fun _ _ => trivial) hlt.out hlt.out.size (by simp) ?_; intro v1 w1 ho hb hg hat; (obtain ⟨Ad, cd, e1⟩ := Kd.R_slice ho); subst e1; have hmv := fun (g : Nat) (cs : Array Value) (e : Nat) (h : W2.heap[g]? = some (.cells cs e (0, 0))) (hn : g ≠ gD) => (hg.block g (blk_lt ((hal.block g (blk_lt h)).trans h)) (by simp [Value.ownBlock]; exact hn)).trans ((hal.block g (blk_lt h)).trans h); have ps := (blk_cell (hmv gB _ _ HB2.out (by omega)) 1).trans rfl; have pf := blk_frozen (hmv gB _ _ HB2.out (by omega)) 1))
      have hDn := Aside0.mk (RowT.set (RowT.of rfl ho) (hmv gB _ _ HB2.out (by omega)) (by decide) 1 (.slice Ad 4 cd))
      have hRW := Aside0.mk hRD.out
      have mB := Aside0.mk (blk_put (hmv gB _ _ HB2.out (by omega)) 1 (.slice Ad 4 cd) rfl)
      have mA0 := Aside0.mk (blk_far (hmv gA0 _ _ HA02.out (by omega)) (p := ⟨gB, 1, none⟩) (by show gA0 ≠ gB; omega) (.slice Ad 4 cd))
      have mA1 := Aside0.mk (blk_far (hmv gA1 _ _ HA12.out (by omega)) (p := ⟨gB, 1, none⟩) (by show gA1 ≠ gB; omega) (.slice Ad 4 cd))
      have mC1 := Aside0.mk (blk_far (hmv gC1 _ _ HC12.out (by omega)) (p := ⟨gB, 1, none⟩) (by show gC1 ≠ gB; omega) (.slice Ad 4 cd))
      have mX := Aside0.mk (Kd.F_far (Kd.F_grown (Kd.F_below HX2.out hal) hg (fun k hk he => hk.2.2.2.1 (by simpa [Value.ownBlock] using he))) (p := ⟨gB, 1, none⟩) (fun k hk => hk.2.2.2.2) (.slice Ad 4 cd))
      have mI := Aside0.mk (Kd.F_far (Kd.F_grown (Kd.F_below HI2.out hal) hg (fun k hk he => hk.2.2.1 (by simpa [Value.ownBlock] using he))) (p := ⟨gB, 1, none⟩) (fun k hk => hk.2.2.2) (.slice Ad 4 cd))
      have mS := Aside0.mk (RowT.set (RowT.other (RowT.box hSn.out hal) (RowT.of rfl hRD.out) (by decide) hg) (hmv gB _ _ HB2.out (by omega)) (by decide) 1 (.slice Ad 4 cd))
      have mW := Aside0.mk (hb.setCell (p := ⟨gB, 1, none⟩) (by show w.heap.size ≤ gB; omega) (.slice Ad 4 cd))
      clear HB2 HA02 HA12 HC12 HX2 HI2 hSn HW HD2 hRD hRL hRW hlt hmv hal k0 kg ps pf ho hb hg hat
      generalize w1.setCell ⟨gB, 1, none⟩ (.slice Ad 4 cd) = W3 at *
      have HB3 := mB
      have HA03 := mA0
      have HA13 := mA1
      have HC13 := mC1
      have HX3 := mX
      have HI3 := mI
      have HS3 := mS
      have HW := mW
      clear mW mB mA0 mA1 mC1 mX mI mS
      go_upto_region 24 with (fail)
      have cS := (Kd.R_reads' HS3.out).2.2
      have lS := (Kd.R_reads' HS3.out).2.1
      have cI := Kd.F_now HI3.out
      have lI := hIC.out
      have cX := Kd.F_now HX3.out
      have lX := Nat.le_refl 1
      have kD := bw_defs HA03.out HC13.out HA13.out cX rfl lX cI rfl lI
      have kM := bw_more W3
      have cD := rows_C (d := k45) (xs := [⟨⟨#[83]⟩, [[⟨false, [⟨0, ⟨#[84]⟩, 0, 0⟩]⟩]]⟩, ⟨⟨#[84]⟩, [[⟨false, [⟨2, ⟨#[]⟩, 1, 2⟩, ⟨0, ⟨#[85]⟩, 0, 0⟩]⟩]]⟩]) (ys := [⟨⟨#[84]⟩, []⟩, ⟨⟨#[83]⟩, []⟩]) rfl rfl (Kd.R_reads' hDn.out).2.2 (bw_two kD.1 kD.2) (bw_two kM.1 kM.2)
      have lD := (Kd.R_reads' hDn.out).2.1
      have FB2 := Aside0.mk (show gram_Build.f k [⟨#[83]⟩, ⟨#[83]⟩] [⟨⟨#[83]⟩, [[⟨false, [⟨0, ⟨#[84]⟩, 0, 0⟩]⟩]]⟩, ⟨⟨#[84]⟩, [[⟨false, [⟨2, ⟨#[]⟩, 1, 2⟩, ⟨0, ⟨#[85]⟩, 0, 0⟩]⟩]]⟩, ⟨⟨#[84]⟩, []⟩, ⟨⟨#[83]⟩, []⟩] = some (r1, r2, r3, ⟨#[84]⟩, 401) from FB.out)
      have tl := (show (r2.length = 2 ↔ (401 : Int) = 0) from FL.out)
      have tL : ((r2.length : Int) == 2) = false := by rw [beq_eq_false_iff_ne]; intro h9; exact absurd (tl.1 (by omega)) (by decide)
      have k0 : W3.cell? ⟨gB, 0, none⟩ = some (.slice As 2 cs) := (blk_cell HB3.out 0).trans rfl
      have k1 : W3.cell? ⟨gB, 1, none⟩ = some (.slice Ad 4 cd) := (blk_cell HB3.out 1).trans rfl
      have Z := Aside0.mk (And.intro cS (And.intro lS (And.intro cD (And.intro lD HW.out))))
      clear cS lS cD lD cI lI cX lX kD tl FB FL kM
      go_wp2_with (first | (go_at_call 14; (with_reducible refine (templelaw0_Num.calls 401 401 _ (bw_num 401)).mono ?_); rintro e w' ⟨rfl, ⟨nd, rfl⟩⟩) | (go_at_call 11; refine (gram_Build.calls k _ _ [⟨#[83]⟩, ⟨#[83]⟩] _ _ [⟨⟨#[83]⟩, [[⟨false, [⟨0, ⟨#[84]⟩, 0, 0⟩]⟩]]⟩, ⟨⟨#[84]⟩, [[⟨false, [⟨2, ⟨#[]⟩, 1, 2⟩, ⟨0, ⟨#[85]⟩, 0, 0⟩]⟩]]⟩, ⟨⟨#[84]⟩, []⟩, ⟨⟨#[83]⟩, []⟩] r1 r2 r3 ⟨#[84]⟩ 401 _ Z.out.1 Z.out.2.1 Z.out.2.2.1 Z.out.2.2.2.1 FB2.out).mono ?_; rintro e w2 ⟨v1, v2, rfl, h1, h2, hbq⟩; (obtain ⟨Aq, cq, rfl⟩ := Kd.R_slice h1); (obtain ⟨Ar, cr, rfl⟩ := Kd.R_slice h2); have Y := Aside0.mk hbq; clear h1 h2 hbq))
      go_ret
      exact ⟨by first | rfl | simp | simp [tL], pw_below_drewN (below_alloc (Z.out.2.2.2.2.trans (Y.out.mono Z.out.2.2.2.2.size)) _) _⟩
  ·skip
   go_upto_region 9 with (fail)
   have k0 : W0.cell? ⟨gB, 1, none⟩ = some (.slice (some ⟨gD, 0, none⟩) 2 2) := (blk_cell HB.out 1).trans rfl
   have k1 : W0.cell? ⟨gD, 3, none⟩ = some (.slice (some ⟨gA1, 0, none⟩) 1 1) := (blk_cell HD.out 3).trans rfl
   have k2 : W0.cell? ⟨gA1, 0, none⟩ = some (.slice (some ⟨gC1, 0, none⟩) 1 1) := (blk_cell H1.out 0).trans rfl
   have k3 : W0.cell? ⟨gC1, 1, none⟩ = some (.slice (some ⟨gI1, 0, none⟩) 1 1) := (blk_cell HC.out 1).trans rfl
   have k4 : W0.cell? ⟨gI1, 2, none⟩ = some (.int .i64 1) := (blk_cell HI.out 2).trans rfl
   have kf := blk_frozen HI.out 2
   go_upto_region 10 with (fail)
   have mB := Aside0.mk (blk_far HB.out (p := ⟨gI1, 2, none⟩) (by show gB ≠ gI1; omega) (.int .i64 3))
   have mS := Aside0.mk (blk_far HS.out (p := ⟨gI1, 2, none⟩) (by show gS ≠ gI1; omega) (.int .i64 3))
   have mD := Aside0.mk (blk_far HD.out (p := ⟨gI1, 2, none⟩) (by show gD ≠ gI1; omega) (.int .i64 3))
   have mA0 := Aside0.mk (blk_far H0.out (p := ⟨gI1, 2, none⟩) (by show gA0 ≠ gI1; omega) (.int .i64 3))
   have mA1 := Aside0.mk (blk_far H1.out (p := ⟨gI1, 2, none⟩) (by show gA1 ≠ gI1; omega) (.int .i64 3))
   have mC1 := Aside0.mk (blk_far HC.out (p := ⟨gI1, 2, none⟩) (by show gC1 ≠ gI1; omega) (.int .i64 3))
   have mI := Aside0.mk (blk_put HI.out 2 (.int .i64 3) rfl)
   have mX := Aside0.mk (Kd.F_far HX.out (p := ⟨gI1, 2, none⟩) (fun k hk => hk.2.1) (.int .i64 3))
   have mW := Aside0.mk (HW.out.setCell (p := ⟨gI1, 2, none⟩) (by show w.heap.size ≤ gI1; omega) (.int .i64 3))
   clear HB HS HD H0 H1 HC HI HX HW k0 k1 k2 k3 k4 kf
   generalize W0.setCell ⟨gI1, 2, none⟩ (.int .i64 3) = W1 at *
   have HB1 := mB
   have HS1 := mS
   have HD1 := mD
   have HA01 := mA0
   have HA11 := mA1
   have HC11 := mC1
   have HI1 := mI
   have HX1 := mX
   have HW := mW
   clear mW mB mS mD mA0 mA1 mC1 mI mX
   cases b4
   ·skip
    cases b2
    ·skip
     cases b1
     ·skip
      go_upto_region 24 with (fail)
      have cS : Kd.C Kd.string W1 (some ⟨gS, 0, none⟩) [(⟨#[83]⟩ : ByteArray)].length [⟨#[83]⟩] := C_lit HS1.out (Reps.one rfl (Reps.none _ _)) (by decide)
      have lS : [(⟨#[83]⟩ : ByteArray)].length ≤ 1 := Nat.le_refl _
      have cI := bw_item HI1.out
      have lI : (1 : Nat) ≤ 1 := Nat.le_refl _
      have cX := Kd.F_now HX1.out
      have lX := Nat.le_refl 1
      have kD := bw_defs HA01.out HC11.out HA11.out cX rfl lX cI rfl lI
      have cD : Kd.C k45 W1 (some ⟨gD, 0, none⟩) ([⟨⟨#[83]⟩, [[⟨false, [⟨0, ⟨#[84]⟩, 0, 0⟩]⟩]]⟩, ⟨⟨#[84]⟩, [[⟨false, [⟨2, ⟨#[]⟩, 3, 2⟩]⟩]]⟩] : List S45).length [⟨⟨#[83]⟩, [[⟨false, [⟨0, ⟨#[84]⟩, 0, 0⟩]⟩]]⟩, ⟨⟨#[84]⟩, [[⟨false, [⟨2, ⟨#[]⟩, 3, 2⟩]⟩]]⟩] := C_lit HD1.out (Reps.c2 kD.1 (Reps.c2 kD.2 (Reps.none _ _))) (by decide)
      have lD : (2 : Nat) ≤ 2 := Nat.le_refl _
      have FB2 := Aside0.mk (show gram_Build.f k [⟨#[83]⟩] [⟨⟨#[83]⟩, [[⟨false, [⟨0, ⟨#[84]⟩, 0, 0⟩]⟩]]⟩, ⟨⟨#[84]⟩, [[⟨false, [⟨2, ⟨#[]⟩, 3, 2⟩]⟩]]⟩] = some (r1, r2, r3, ⟨#[84]⟩, 403) from FB.out)
      have tl := (show (r2.length = 2 ↔ (403 : Int) = 0) from FL.out)
      have tL : ((r2.length : Int) == 2) = false := by rw [beq_eq_false_iff_ne]; intro h9; exact absurd (tl.1 (by omega)) (by decide)
      have k0 : W1.cell? ⟨gB, 0, none⟩ = some (.slice (some ⟨gS, 0, none⟩) 1 1) := (blk_cell HB1.out 0).trans rfl
      have k1 : W1.cell? ⟨gB, 1, none⟩ = some (.slice (some ⟨gD, 0, none⟩) 2 2) := (blk_cell HB1.out 1).trans rfl
      have Z := Aside0.mk (And.intro cS (And.intro lS (And.intro cD (And.intro lD HW.out))))
      clear cS lS cD lD cI lI cX lX kD tl FB FL
      go_wp2_with (first | (go_at_call 14; (with_reducible refine (templelaw0_Num.calls 403 403 _ (bw_num 403)).mono ?_); rintro e w' ⟨rfl, ⟨nd, rfl⟩⟩) | (go_at_call 11; refine (gram_Build.calls k _ _ [⟨#[83]⟩] _ _ [⟨⟨#[83]⟩, [[⟨false, [⟨0, ⟨#[84]⟩, 0, 0⟩]⟩]]⟩, ⟨⟨#[84]⟩, [[⟨false, [⟨2, ⟨#[]⟩, 3, 2⟩]⟩]]⟩] r1 r2 r3 ⟨#[84]⟩ 403 _ Z.out.1 Z.out.2.1 Z.out.2.2.1 Z.out.2.2.2.1 FB2.out).mono ?_; rintro e w2 ⟨v1, v2, rfl, h1, h2, hbq⟩; (obtain ⟨Aq, cq, rfl⟩ := Kd.R_slice h1); (obtain ⟨Ar, cr, rfl⟩ := Kd.R_slice h2); have Y := Aside0.mk hbq; clear h1 h2 hbq))
      go_ret
      exact ⟨by first | rfl | simp | simp [tL], pw_below_drewN (below_alloc (Z.out.2.2.2.2.trans (Y.out.mono Z.out.2.2.2.2.size)) _) _⟩
     ·skip
      go_upto_region 21 with (fail)
      have k0 : W1.cell? ⟨gB, 1, none⟩ = some (.slice (some ⟨gD, 0, none⟩) 2 2) := (blk_cell HB1.out 1).trans rfl
      have kg : W1.cell? ⟨gB, 0, none⟩ = some (.slice (some ⟨gS, 0, none⟩) 1 1) := (blk_cell HB1.out 0).trans rfl
      have hal := below_alloc (Below.refl W1.heap.size W1) (.cells #[.string ⟨#[84]⟩, .slice none 0 0, .string ⟨#[83]⟩, .slice none 0 0] 45)
      have hRD := Aside0.mk (bw_row (d := Kd.raw 2) (base := w.heap.size) (n := 2) (xs := [[.string ⟨#[83]⟩, .slice (some ⟨gA0, 0, none⟩) 1 1], [.string ⟨#[84]⟩, .slice (some ⟨gA1, 0, none⟩) 1 1]]) (blk_alloc HD1.out (.cells #[.string ⟨#[84]⟩, .slice none 0 0, .string ⟨#[83]⟩, .slice none 0 0] 45)) (by omega) rfl (bw_raw (w := w)) (by simp))
      have hRL := Aside0.mk (C_lit (d := Kd.raw 2) (xs := [[.string ⟨#[84]⟩, .slice none 0 0], [.string ⟨#[83]⟩, .slice none 0 0]]) (blk_new W1 (.cells #[.string ⟨#[84]⟩, .slice none 0 0, .string ⟨#[83]⟩, .slice none 0 0] 45)) (Reps.c2 ⟨rfl, rfl, by simp [Value.oneCell']⟩ (Reps.c2 ⟨rfl, rfl, by simp [Value.oneCell']⟩ (Reps.none _ _))) (by decide))
      have hlt := Aside0.mk (below_alloc HW.out (.cells #[.string ⟨#[84]⟩, .slice none 0 0, .string ⟨#[83]⟩, .slice none 0 0] 45))
      go_upto_region 22 with (first | ((with_reducible refine gate_builtin (b := .append) (xs := #[.tmp 88, .tmp 91]) rfl ?_); at_builtin; refine Kd.R_append_rows (Kd.raw 2) (w0 := w) w.heap.size rfl (.tmp 88) (.tmp 91) 23 45 (.agg #[.string ⟨#[]⟩, .slice none 0 0]) 40 rfl Try.underlying23 bw_info45 rfl (by decide) (by omega) (.slice (some ⟨gD, 0, none⟩) 2 2) [[.string ⟨#[83]⟩, .slice (some ⟨gA0, 0, none⟩) 1 1], [.string ⟨#[84]⟩, .slice (some ⟨gA1, 0, none⟩) 1 1]] [[.string ⟨#[84]⟩, .slice none 0 0], [.string ⟨#[83]⟩, .slice none 0 0]] _ _ _ (fun _ => True) (fun _ => False) rfl rfl (Kd.R_mono hRD.out (fun _ _ => trivial)) hRL.out (fun _ _ h => h) (fun _ h => h.elim) (fun _ _ => trivial) hlt.out hlt.out.size (by simp) ?_; intro v1 w1 ho hb hg hat; (obtain ⟨Ad, cd, e1⟩ := Kd.R_slice ho); subst e1; have hmv := fun (g : Nat) (cs : Array Value) (e : Nat) (h : W1.heap[g]? = some (.cells cs e (0, 0))) (hn : g ≠ gD) => (hg.block g (blk_lt ((hal.block g (blk_lt h)).trans h)) (by simp [Value.ownBlock]; exact hn)).trans ((hal.block g (blk_lt h)).trans h); have ps := (blk_cell (hmv gB _ _ HB1.out (by omega)) 1).trans rfl; have pf := blk_frozen (hmv gB _ _ HB1.out (by omega)) 1))
      have hDn := Aside0.mk (RowT.set (RowT.of rfl ho) (hmv gB _ _ HB1.out (by omega)) (by decide) 1 (.slice Ad 4 cd))
      have hRW := Aside0.mk hRD.out
      have mB := Aside0.mk (blk_put (hmv gB _ _ HB1.out (by omega)) 1 (.slice Ad 4 cd) rfl)
      have mS := Aside0.mk (blk_far (hmv gS _ _ HS1.out (by omega)) (p := ⟨gB, 1, none⟩) (by show gS ≠ gB; omega) (.slice Ad 4 cd))
      have mA0 := Aside0.mk (blk_far (hmv gA0 _ _ HA01.out (by omega)) (p := ⟨gB, 1, none⟩) (by show gA0 ≠ gB; omega) (.slice Ad 4 cd))
      have mA1 := Aside0.mk (blk_far (hmv gA1 _ _ HA11.out (by omega)) (p := ⟨gB, 1, none⟩) (by show gA1 ≠ gB; omega) (.slice Ad 4 cd))
      have mC1 := Aside0.mk (blk_far (hmv gC1 _ _ HC11.out (by omega)) (p := ⟨gB, 1, none⟩) (by show gC1 ≠ gB; omega) (.slice Ad 4 cd))
      have mI := Aside0.mk (blk_far (hmv gI1 _ _ HI1.out (by omega)) (p := ⟨gB, 1, none⟩) (by show gI1 ≠ gB; omega) (.slice Ad 4 cd))
      have mX := Aside0.mk (Kd.F_far (Kd.F_grown (Kd.F_below HX1.out hal) hg (fun k hk he => hk.2.2.2.1 (by simpa [Value.ownBlock] using he))) (p := ⟨gB, 1, none⟩) (fun k hk => hk.2.2.2.2) (.slice Ad 4 cd))
      have mW := Aside0.mk (hb.setCell (p := ⟨gB, 1, none⟩) (by show w.heap.size ≤ gB; omega) (.slice Ad 4 cd))
      clear HB1 HS1 HA01 HA11 HC11 HI1 HX1 HW HD1 hRD hRL hRW hlt hmv hal k0 kg ps pf ho hb hg hat
      generalize w1.setCell ⟨gB, 1, none⟩ (.slice Ad 4 cd) = W2 at *
      have HB2 := mB
      have HS2 := mS
      have HA02 := mA0
      have HA12 := mA1
      have HC12 := mC1
      have HI2 := mI
      have HX2 := mX
      have HW := mW
      clear mW mB mS mA0 mA1 mC1 mI mX
      go_upto_region 24 with (fail)
      have cS : Kd.C Kd.string W2 (some ⟨gS, 0, none⟩) [(⟨#[83]⟩ : ByteArray)].length [⟨#[83]⟩] := C_lit HS2.out (Reps.one rfl (Reps.none _ _)) (by decide)
      have lS : [(⟨#[83]⟩ : ByteArray)].length ≤ 1 := Nat.le_refl _
      have cI := bw_item HI2.out
      have lI : (1 : Nat) ≤ 1 := Nat.le_refl _
      have cX := Kd.F_now HX2.out
      have lX := Nat.le_refl 1
      have kD := bw_defs HA02.out HC12.out HA12.out cX rfl lX cI rfl lI
      have kM := bw_more W2
      have cD := rows_C (d := k45) (xs := [⟨⟨#[83]⟩, [[⟨false, [⟨0, ⟨#[84]⟩, 0, 0⟩]⟩]]⟩, ⟨⟨#[84]⟩, [[⟨false, [⟨2, ⟨#[]⟩, 3, 2⟩]⟩]]⟩]) (ys := [⟨⟨#[84]⟩, []⟩, ⟨⟨#[83]⟩, []⟩]) rfl rfl (Kd.R_reads' hDn.out).2.2 (bw_two kD.1 kD.2) (bw_two kM.1 kM.2)
      have lD := (Kd.R_reads' hDn.out).2.1
      have FB2 := Aside0.mk (show gram_Build.f k [⟨#[83]⟩] [⟨⟨#[83]⟩, [[⟨false, [⟨0, ⟨#[84]⟩, 0, 0⟩]⟩]]⟩, ⟨⟨#[84]⟩, [[⟨false, [⟨2, ⟨#[]⟩, 3, 2⟩]⟩]]⟩, ⟨⟨#[84]⟩, []⟩, ⟨⟨#[83]⟩, []⟩] = some (r1, r2, r3, ⟨#[84]⟩, 401) from FB.out)
      have tl := (show (r2.length = 2 ↔ (401 : Int) = 0) from FL.out)
      have tL : ((r2.length : Int) == 2) = false := by rw [beq_eq_false_iff_ne]; intro h9; exact absurd (tl.1 (by omega)) (by decide)
      have k0 : W2.cell? ⟨gB, 0, none⟩ = some (.slice (some ⟨gS, 0, none⟩) 1 1) := (blk_cell HB2.out 0).trans rfl
      have k1 : W2.cell? ⟨gB, 1, none⟩ = some (.slice Ad 4 cd) := (blk_cell HB2.out 1).trans rfl
      have Z := Aside0.mk (And.intro cS (And.intro lS (And.intro cD (And.intro lD HW.out))))
      clear cS lS cD lD cI lI cX lX kD tl FB FL kM
      go_wp2_with (first | (go_at_call 14; (with_reducible refine (templelaw0_Num.calls 401 401 _ (bw_num 401)).mono ?_); rintro e w' ⟨rfl, ⟨nd, rfl⟩⟩) | (go_at_call 11; refine (gram_Build.calls k _ _ [⟨#[83]⟩] _ _ [⟨⟨#[83]⟩, [[⟨false, [⟨0, ⟨#[84]⟩, 0, 0⟩]⟩]]⟩, ⟨⟨#[84]⟩, [[⟨false, [⟨2, ⟨#[]⟩, 3, 2⟩]⟩]]⟩, ⟨⟨#[84]⟩, []⟩, ⟨⟨#[83]⟩, []⟩] r1 r2 r3 ⟨#[84]⟩ 401 _ Z.out.1 Z.out.2.1 Z.out.2.2.1 Z.out.2.2.2.1 FB2.out).mono ?_; rintro e w2 ⟨v1, v2, rfl, h1, h2, hbq⟩; (obtain ⟨Aq, cq, rfl⟩ := Kd.R_slice h1); (obtain ⟨Ar, cr, rfl⟩ := Kd.R_slice h2); have Y := Aside0.mk hbq; clear h1 h2 hbq))
      go_ret
      exact ⟨by first | rfl | simp | simp [tL], pw_below_drewN (below_alloc (Z.out.2.2.2.2.trans (Y.out.mono Z.out.2.2.2.2.size)) _) _⟩
    ·skip
     go_upto_region 17 with (fail)
     have k0 : W1.cell? ⟨gB, 0, none⟩ = some (.slice (some ⟨gS, 0, none⟩) 1 1) := (blk_cell HB1.out 0).trans rfl
     have kg : W1.cell? ⟨gB, 1, none⟩ = some (.slice (some ⟨gD, 0, none⟩) 2 2) := (blk_cell HB1.out 1).trans rfl
     have kf := blk_frozen HB1.out 0
     have hRS := Aside0.mk (bw_row (d := Kd.string) (base := w.heap.size) (n := 1) (xs := [⟨#[83]⟩]) HS1.out (by omega) rfl (Reps.one rfl (Reps.none _ _)) (by decide))
     go_upto_region 18 with (first | ((with_reducible refine gate_builtin (b := .append) (xs := #[.tmp 80, .tmp 81]) rfl ?_); at_builtin; refine Kd.R_append Kd.string (w0 := w) (W := W1) w.heap.size rfl (.tmp 80) (.tmp 81) 22 9 (.string ⟨#[]⟩) 16 rfl Try.underlying22 bw_info9 rfl (by decide) (by omega) (.slice (some ⟨gS, 0, none⟩) 1 1) [⟨#[83]⟩] ⟨#[83]⟩ [.string ⟨#[83]⟩] (fun _ => True) (fun _ => False) rfl (by first | (go_simp; done) | (go_simp; rfl)) rfl (fun _ hk => hk.elim) (fun _ _ => trivial) (Kd.R_mono hRS.out (fun _ _ => trivial)) HW.out HW.out.size (by simp) ?_; intro v1 w1 ho hb hg hat; (obtain ⟨As, cs, e1⟩ := Kd.R_slice ho); subst e1; have hmv := fun (g : Nat) (cs : Array Value) (e : Nat) (h : W1.heap[g]? = some (.cells cs e (0, 0))) (hn : g ≠ gS) => (hg.block g (blk_lt h) (by simp [Value.ownBlock]; exact hn)).trans h; have ps := (blk_cell (hmv gB _ _ HB1.out (by omega)) 0).trans rfl; have pf := blk_frozen (hmv gB _ _ HB1.out (by omega)) 0))
     have hSn := Aside0.mk (RowT.set (RowT.of rfl ho) (hmv gB _ _ HB1.out (by omega)) (by decide) 0 (.slice As 2 cs))
     have mB := Aside0.mk (blk_put (hmv gB _ _ HB1.out (by omega)) 0 (.slice As 2 cs) rfl)
     have mD := Aside0.mk (blk_far (hmv gD _ _ HD1.out (by omega)) (p := ⟨gB, 0, none⟩) (by show gD ≠ gB; omega) (.slice As 2 cs))
     have mA0 := Aside0.mk (blk_far (hmv gA0 _ _ HA01.out (by omega)) (p := ⟨gB, 0, none⟩) (by show gA0 ≠ gB; omega) (.slice As 2 cs))
     have mA1 := Aside0.mk (blk_far (hmv gA1 _ _ HA11.out (by omega)) (p := ⟨gB, 0, none⟩) (by show gA1 ≠ gB; omega) (.slice As 2 cs))
     have mC1 := Aside0.mk (blk_far (hmv gC1 _ _ HC11.out (by omega)) (p := ⟨gB, 0, none⟩) (by show gC1 ≠ gB; omega) (.slice As 2 cs))
     have mI := Aside0.mk (blk_far (hmv gI1 _ _ HI1.out (by omega)) (p := ⟨gB, 0, none⟩) (by show gI1 ≠ gB; omega) (.slice As 2 cs))
     have mX := Aside0.mk (Kd.F_far (Kd.F_grown HX1.out hg (fun k hk he => hk.1 (by simpa [Value.ownBlock] using he))) (p := ⟨gB, 0, none⟩) (fun k hk => hk.2.2.2.2) (.slice As 2 cs))
     have mW := Aside0.mk (hb.setCell (p := ⟨gB, 0, none⟩) (by show w.heap.size ≤ gB; omega) (.slice As 2 cs))
     clear HB1 HD1 HA01 HA11 HC11 HI1 HX1 HW HS1 hRS hmv k0 kg kf ps pf ho hb hg hat
     generalize w1.setCell ⟨gB, 0, none⟩ (.slice As 2 cs) = W2 at *
     have HB2 := mB
     have HD2 := mD
     have HA02 := mA0
     have HA12 := mA1
     have HC12 := mC1
     have HI2 := mI
     have HX2 := mX
     have HW := mW
     clear mW mB mD mA0 mA1 mC1 mI mX
     cases b1
     ·skip
      go_upto_region 24 with (fail)
      have cS := (Kd.R_reads' hSn.out).2.2
      have lS := (Kd.R_reads' hSn.out).2.1
      have cI := bw_item HI2.out
      have lI : (1 : Nat) ≤ 1 := Nat.le_refl _
      have cX := Kd.F_now HX2.out
      have lX := Nat.le_refl 1
      have kD := bw_defs HA02.out HC12.out HA12.out cX rfl lX cI rfl lI
      have cD : Kd.C k45 W2 (some ⟨gD, 0, none⟩) ([⟨⟨#[83]⟩, [[⟨false, [⟨0, ⟨#[84]⟩, 0, 0⟩]⟩]]⟩, ⟨⟨#[84]⟩, [[⟨false, [⟨2, ⟨#[]⟩, 3, 2⟩]⟩]]⟩] : List S45).length [⟨⟨#[83]⟩, [[⟨false, [⟨0, ⟨#[84]⟩, 0, 0⟩]⟩]]⟩, ⟨⟨#[84]⟩, [[⟨false, [⟨2, ⟨#[]⟩, 3, 2⟩]⟩]]⟩] := C_lit HD2.out (Reps.c2 kD.1 (Reps.c2 kD.2 (Reps.none _ _))) (by decide)
      have lD : (2 : Nat) ≤ 2 := Nat.le_refl _
      have FB2 := Aside0.mk (show gram_Build.f k [⟨#[83]⟩, ⟨#[83]⟩] [⟨⟨#[83]⟩, [[⟨false, [⟨0, ⟨#[84]⟩, 0, 0⟩]⟩]]⟩, ⟨⟨#[84]⟩, [[⟨false, [⟨2, ⟨#[]⟩, 3, 2⟩]⟩]]⟩] = some (r1, r2, r3, ⟨#[]⟩, 400) from FB.out)
      have tl := (show (r2.length = 2 ↔ (400 : Int) = 0) from FL.out)
      have tL : ((r2.length : Int) == 2) = false := by rw [beq_eq_false_iff_ne]; intro h9; exact absurd (tl.1 (by omega)) (by decide)
      have k0 : W2.cell? ⟨gB, 0, none⟩ = some (.slice As 2 cs) := (blk_cell HB2.out 0).trans rfl
      have k1 : W2.cell? ⟨gB, 1, none⟩ = some (.slice (some ⟨gD, 0, none⟩) 2 2) := (blk_cell HB2.out 1).trans rfl
      have Z := Aside0.mk (And.intro cS (And.intro lS (And.intro cD (And.intro lD HW.out))))
      clear cS lS cD lD cI lI cX lX kD tl FB FL
      go_wp2_with (first | (go_at_call 14; (with_reducible refine (templelaw0_Num.calls 400 400 _ (bw_num 400)).mono ?_); rintro e w' ⟨rfl, ⟨nd, rfl⟩⟩) | (go_at_call 11; refine (gram_Build.calls k _ _ [⟨#[83]⟩, ⟨#[83]⟩] _ _ [⟨⟨#[83]⟩, [[⟨false, [⟨0, ⟨#[84]⟩, 0, 0⟩]⟩]]⟩, ⟨⟨#[84]⟩, [[⟨false, [⟨2, ⟨#[]⟩, 3, 2⟩]⟩]]⟩] r1 r2 r3 ⟨#[]⟩ 400 _ Z.out.1 Z.out.2.1 Z.out.2.2.1 Z.out.2.2.2.1 FB2.out).mono ?_; rintro e w2 ⟨v1, v2, rfl, h1, h2, hbq⟩; (obtain ⟨Aq, cq, rfl⟩ := Kd.R_slice h1); (obtain ⟨Ar, cr, rfl⟩ := Kd.R_slice h2); have Y := Aside0.mk hbq; clear h1 h2 hbq))
      go_ret
      exact ⟨by first | rfl | simp | simp [tL], pw_below_drewN (below_alloc (Z.out.2.2.2.2.trans (Y.out.mono Z.out.2.2.2.2.size)) _) _⟩
     ·skip
      go_upto_region 21 with (fail)
      have k0 : W2.cell? ⟨gB, 1, none⟩ = some (.slice (some ⟨gD, 0, none⟩) 2 2) := (blk_cell HB2.out 1).trans rfl
      have kg : W2.cell? ⟨gB, 0, none⟩ = some (.slice As 2 cs) := (blk_cell HB2.out 0).trans rfl
      have hal := below_alloc (Below.refl W2.heap.size W2) (.cells #[.string ⟨#[84]⟩, .slice none 0 0, .string ⟨#[83]⟩, .slice none 0 0] 45)
      have hRD := Aside0.mk (bw_row (d := Kd.raw 2) (base := w.heap.size) (n := 2) (xs := [[.string ⟨#[83]⟩, .slice (some ⟨gA0, 0, none⟩) 1 1], [.string ⟨#[84]⟩, .slice (some ⟨gA1, 0, none⟩) 1 1]]) (blk_alloc HD2.out (.cells #[.string ⟨#[84]⟩, .slice none 0 0, .string ⟨#[83]⟩, .slice none 0 0] 45)) (by omega) rfl (bw_raw (w := w)) (by simp))
      have hRL := Aside0.mk (C_lit (d := Kd.raw 2) (xs := [[.string ⟨#[84]⟩, .slice none 0 0], [.string ⟨#[83]⟩, .slice none 0 0]]) (blk_new W2 (.cells #[.string ⟨#[84]⟩, .slice none 0 0, .string ⟨#[83]⟩, .slice none 0 0] 45)) (Reps.c2 ⟨rfl, rfl, by simp [Value.oneCell']⟩ (Reps.c2 ⟨rfl, rfl, by simp [Value.oneCell']⟩ (Reps.none _ _))) (by decide))
      have hlt := Aside0.mk (below_alloc HW.out (.cells #[.string ⟨#[84]⟩, .slice none 0 0, .string ⟨#[83]⟩, .slice none 0 0] 45))
      go_upto_region 22 with (first | ((with_reducible refine gate_builtin (b := .append) (xs := #[.tmp 88, .tmp 91]) rfl ?_); at_builtin; refine Kd.R_append_rows (Kd.raw 2) (w0 := w) w.heap.size rfl (.tmp 88) (.tmp 91) 23 45 (.agg #[.string ⟨#[]⟩, .slice none 0 0]) 40 rfl Try.underlying23 bw_info45 rfl (by decide) (by omega) (.slice (some ⟨gD, 0, none⟩) 2 2) [[.string ⟨#[83]⟩, .slice (some ⟨gA0, 0, none⟩) 1 1], [.string ⟨#[84]⟩, .slice (some ⟨gA1, 0, none⟩) 1 1]] [[.string ⟨#[84]⟩, .slice none 0 0], [.string ⟨#[83]⟩, .slice none 0 0]] _ _ _ (fun _ => True) (fun _ => False) rfl rfl (Kd.R_mono hRD.out (fun _ _ => trivial)) hRL.out (fun _ _ h => h) (fun _ h => h.elim) (fun _ _ => trivial) hlt.out hlt.out.size (by simp) ?_; intro v1 w1 ho hb hg hat; (obtain ⟨Ad, cd, e1⟩ := Kd.R_slice ho); subst e1; have hmv := fun (g : Nat) (cs : Array Value) (e : Nat) (h : W2.heap[g]? = some (.cells cs e (0, 0))) (hn : g ≠ gD) => (hg.block g (blk_lt ((hal.block g (blk_lt h)).trans h)) (by simp [Value.ownBlock]; exact hn)).trans ((hal.block g (blk_lt h)).trans h); have ps := (blk_cell (hmv gB _ _ HB2.out (by omega)) 1).trans rfl; have pf := blk_frozen (hmv gB _ _ HB2.out (by omega)) 1))
      have hDn := Aside0.mk (RowT.set (RowT.of rfl ho) (hmv gB _ _ HB2.out (by omega)) (by decide) 1 (.slice Ad 4 cd))
      have hRW := Aside0.mk hRD.out
      have mB := Aside0.mk (blk_put (hmv gB _ _ HB2.out (by omega)) 1 (.slice Ad 4 cd) rfl)
      have mA0 := Aside0.mk (blk_far (hmv gA0 _ _ HA02.out (by omega)) (p := ⟨gB, 1, none⟩) (by show gA0 ≠ gB; omega) (.slice Ad 4 cd))
      have mA1 := Aside0.mk (blk_far (hmv gA1 _ _ HA12.out (by omega)) (p := ⟨gB, 1, none⟩) (by show gA1 ≠ gB; omega) (.slice Ad 4 cd))
      have mC1 := Aside0.mk (blk_far (hmv gC1 _ _ HC12.out (by omega)) (p := ⟨gB, 1, none⟩) (by show gC1 ≠ gB; omega) (.slice Ad 4 cd))
      have mI := Aside0.mk (blk_far (hmv gI1 _ _ HI2.out (by omega)) (p := ⟨gB, 1, none⟩) (by show gI1 ≠ gB; omega) (.slice Ad 4 cd))
      have mX := Aside0.mk (Kd.F_far (Kd.F_grown (Kd.F_below HX2.out hal) hg (fun k hk he => hk.2.2.2.1 (by simpa [Value.ownBlock] using he))) (p := ⟨gB, 1, none⟩) (fun k hk => hk.2.2.2.2) (.slice Ad 4 cd))
      have mS := Aside0.mk (RowT.set (RowT.other (RowT.box hSn.out hal) (RowT.of rfl hRD.out) (by decide) hg) (hmv gB _ _ HB2.out (by omega)) (by decide) 1 (.slice Ad 4 cd))
      have mW := Aside0.mk (hb.setCell (p := ⟨gB, 1, none⟩) (by show w.heap.size ≤ gB; omega) (.slice Ad 4 cd))
      clear HB2 HA02 HA12 HC12 HI2 HX2 hSn HW HD2 hRD hRL hRW hlt hmv hal k0 kg ps pf ho hb hg hat
      generalize w1.setCell ⟨gB, 1, none⟩ (.slice Ad 4 cd) = W3 at *
      have HB3 := mB
      have HA03 := mA0
      have HA13 := mA1
      have HC13 := mC1
      have HI3 := mI
      have HX3 := mX
      have HS3 := mS
      have HW := mW
      clear mW mB mA0 mA1 mC1 mI mX mS
      go_upto_region 24 with (fail)
      have cS := (Kd.R_reads' HS3.out).2.2
      have lS := (Kd.R_reads' HS3.out).2.1
      have cI := bw_item HI3.out
      have lI : (1 : Nat) ≤ 1 := Nat.le_refl _
      have cX := Kd.F_now HX3.out
      have lX := Nat.le_refl 1
      have kD := bw_defs HA03.out HC13.out HA13.out cX rfl lX cI rfl lI
      have kM := bw_more W3
      have cD := rows_C (d := k45) (xs := [⟨⟨#[83]⟩, [[⟨false, [⟨0, ⟨#[84]⟩, 0, 0⟩]⟩]]⟩, ⟨⟨#[84]⟩, [[⟨false, [⟨2, ⟨#[]⟩, 3, 2⟩]⟩]]⟩]) (ys := [⟨⟨#[84]⟩, []⟩, ⟨⟨#[83]⟩, []⟩]) rfl rfl (Kd.R_reads' hDn.out).2.2 (bw_two kD.1 kD.2) (bw_two kM.1 kM.2)
      have lD := (Kd.R_reads' hDn.out).2.1
      have FB2 := Aside0.mk (show gram_Build.f k [⟨#[83]⟩, ⟨#[83]⟩] [⟨⟨#[83]⟩, [[⟨false, [⟨0, ⟨#[84]⟩, 0, 0⟩]⟩]]⟩, ⟨⟨#[84]⟩, [[⟨false, [⟨2, ⟨#[]⟩, 3, 2⟩]⟩]]⟩, ⟨⟨#[84]⟩, []⟩, ⟨⟨#[83]⟩, []⟩] = some (r1, r2, r3, ⟨#[84]⟩, 401) from FB.out)
      have tl := (show (r2.length = 2 ↔ (401 : Int) = 0) from FL.out)
      have tL : ((r2.length : Int) == 2) = false := by rw [beq_eq_false_iff_ne]; intro h9; exact absurd (tl.1 (by omega)) (by decide)
      have k0 : W3.cell? ⟨gB, 0, none⟩ = some (.slice As 2 cs) := (blk_cell HB3.out 0).trans rfl
      have k1 : W3.cell? ⟨gB, 1, none⟩ = some (.slice Ad 4 cd) := (blk_cell HB3.out 1).trans rfl
      have Z := Aside0.mk (And.intro cS (And.intro lS (And.intro cD (And.intro lD HW.out))))
      clear cS lS cD lD cI lI cX lX kD tl FB FL kM
      go_wp2_with (first | (go_at_call 14; (with_reducible refine (templelaw0_Num.calls 401 401 _ (bw_num 401)).mono ?_); rintro e w' ⟨rfl, ⟨nd, rfl⟩⟩) | (go_at_call 11; refine (gram_Build.calls k _ _ [⟨#[83]⟩, ⟨#[83]⟩] _ _ [⟨⟨#[83]⟩, [[⟨false, [⟨0, ⟨#[84]⟩, 0, 0⟩]⟩]]⟩, ⟨⟨#[84]⟩, [[⟨false, [⟨2, ⟨#[]⟩, 3, 2⟩]⟩]]⟩, ⟨⟨#[84]⟩, []⟩, ⟨⟨#[83]⟩, []⟩] r1 r2 r3 ⟨#[84]⟩ 401 _ Z.out.1 Z.out.2.1 Z.out.2.2.1 Z.out.2.2.2.1 FB2.out).mono ?_; rintro e w2 ⟨v1, v2, rfl, h1, h2, hbq⟩; (obtain ⟨Aq, cq, rfl⟩ := Kd.R_slice h1); (obtain ⟨Ar, cr, rfl⟩ := Kd.R_slice h2); have Y := Aside0.mk hbq; clear h1 h2 hbq))
      go_ret
      exact ⟨by first | rfl | simp | simp [tL], pw_below_drewN (below_alloc (Z.out.2.2.2.2.trans (Y.out.mono Z.out.2.2.2.2.size)) _) _⟩
   ·skip
    go_upto_region 13 with (fail)
    have hSz : ∀ w', Below W1.heap.size W1 w' → w'.cell? ⟨gB, 1, none⟩ = some (.slice (some ⟨gD, 0, none⟩) 2 2) ∧ w'.cell? ⟨gD, 3, none⟩ = some (.slice (some ⟨gA1, 0, none⟩) 1 1) ∧ w'.cell? ⟨gA1, 0, none⟩ = some (.slice (some ⟨gC1, 0, none⟩) 1 1) ∧ w'.cell? ⟨gC1, 1, none⟩ = some (.slice (some ⟨gI1, 0, none⟩) 1 1) ∧ w'.frozen? ⟨gC1, 1, none⟩ = false ∧ Aside0 (Below W1.heap.size W1 w') := fun w' h => ⟨(blk_cell ((h.block gB (blk_lt HB1.out)).trans HB1.out) 1).trans rfl, (blk_cell ((h.block gD (blk_lt HD1.out)).trans HD1.out) 3).trans rfl, (blk_cell ((h.block gA1 (blk_lt HA11.out)).trans HA11.out) 0).trans rfl, (blk_cell ((h.block gC1 (blk_lt HC11.out)).trans HC11.out) 1).trans rfl, blk_frozen ((h.block gC1 (blk_lt HC11.out)).trans HC11.out) 1, ⟨h⟩⟩
    have hb0 := (Below.refl W1.heap.size W1).drew
    have hRI := Aside0.mk (bw_row (d := k61) (base := w.heap.size) (n := 1) (xs := [⟨2, ⟨#[]⟩, 3, 2⟩]) HI1.out (by omega) rfl (Reps.c4 (k61_mkM _ _ _ ⟨2, ⟨#[]⟩, 3, 2⟩) (Reps.none _ _)) (by decide))
    refine start_ (n := 23) (S := fun w' => w'.cell? ⟨gB, 1, none⟩ = some (.slice (some ⟨gD, 0, none⟩) 2 2) ∧ w'.cell? ⟨gD, 3, none⟩ = some (.slice (some ⟨gA1, 0, none⟩) 1 1) ∧ w'.cell? ⟨gA1, 0, none⟩ = some (.slice (some ⟨gC1, 0, none⟩) 1 1) ∧ w'.cell? ⟨gC1, 1, none⟩ = some (.slice (some ⟨gI1, 0, none⟩) 1 1) ∧ w'.frozen? ⟨gC1, 1, none⟩ = false) (ds := [22]) #[false, false, false, false, false, false, false, false, false, false, false, false, false, false, false, false, false, false, false, false, false, false, false] (by kernel_rfl) rfl rfl ⟨(hSz _ hb0).1, (hSz _ hb0).2.1, (hSz _ hb0).2.2.1, (hSz _ hb0).2.2.2.1, (hSz _ hb0).2.2.2.2.1⟩ (fun hHeld => ?_)
    refine with_tabW bwr13.tab13 bwr13.bits13 (fun HT_ HW_ => ?_)
    refine pure_ (i := 0) (N := some 54) (v := ?_) (a' := ?_) #[true, false, false, false, false, false, false, false, false, false, false, false, false, false, false, false, false, false, false, false, false, false, false] rfl rfl (any_of HT_.out (by kernel_rfl)) (fun _ _ _ h => h) (Or.inl ⟨by rfl, ?_⟩) ?_ ?_
    rotate_left
    ·intro w'
     go_simp
     with_reducible rfl
    rotate_left
    ·simp only [Act.put, List.setIfInBounds_toArray, List.set_cons_zero, List.set_cons_succ, i64_w, i32_w]
     rfl
    refine pure_ (i := 7) (N := some 61) (v := ?_) (a' := ?_) #[true, false, false, false, false, false, false, true, false, false, false, false, false, false, false, false, false, false, false, false, false, false, false] rfl rfl (any_of HT_.out (by kernel_rfl)) (fun _ _ _ h => h) (Or.inl ⟨by rfl, ?_⟩) ?_ ?_
    rotate_left
    ·intro w'
     go_simp
     with_reducible rfl
    rotate_left
    ·simp only [Act.put, List.setIfInBounds_toArray, List.set_cons_zero, List.set_cons_succ, i64_w, i32_w]
     rfl
    refine take_ (i := 1) (N := some 55) (v := ?_) (a' := ?_) #[true, true, false, false, false, false, false, true, false, false, false, false, false, false, false, false, false, false, false, false, false, false, false] rfl rfl (take_ofW HT_.out HW_.out (by kernel_rfl)) (fun _ _ _ h => h) (Or.inl ⟨by rfl, ?_⟩) hHeld ?_ ?_
    rotate_left
    ·rintro w' ⟨s0, s1, s2, s3, s4⟩
     go_simp
     with_reducible rfl
    rotate_left
    ·simp only [Act.put, List.setIfInBounds_toArray, List.set_cons_zero, List.set_cons_succ, i64_w, i32_w]
     rfl
    refine pure_ (i := 2) (N := some 56) (v := ?_) (a' := ?_) #[true, true, true, false, false, false, false, true, false, false, false, false, false, false, false, false, false, false, false, false, false, false, false] rfl rfl (any_of HT_.out (by kernel_rfl)) (fun _ _ _ h => h) (Or.inl ⟨by rfl, ?_⟩) ?_ ?_
    rotate_left
    ·intro w'
     go_simp
     with_reducible rfl
    rotate_left
    ·simp only [Act.put, List.setIfInBounds_toArray, List.set_cons_zero, List.set_cons_succ, i64_w, i32_w]
     rfl
    refine pure_ (i := 3) (N := some 57) (v := ?_) (a' := ?_) #[true, true, true, true, false, false, false, true, false, false, false, false, false, false, false, false, false, false, false, false, false, false, false] rfl rfl (any_of HT_.out (by kernel_rfl)) (fun _ _ _ h => h) (Or.inl ⟨by rfl, ?_⟩) ?_ ?_
    rotate_left
    ·intro w'
     go_simp
     with_reducible rfl
    rotate_left
    ·simp only [Act.put, List.setIfInBounds_toArray, List.set_cons_zero, List.set_cons_succ, i64_w, i32_w]
     rfl
    refine take_ (i := 4) (N := some 58) (v := ?_) (a' := ?_) #[true, true, true, true, true, false, false, true, false, false, false, false, false, false, false, false, false, false, false, false, false, false, false] rfl rfl (take_ofW HT_.out HW_.out (by kernel_rfl)) (fun _ _ _ h => h) (Or.inl ⟨by rfl, ?_⟩) hHeld ?_ ?_
    rotate_left
    ·rintro w' ⟨s0, s1, s2, s3, s4⟩
     go_simp
     with_reducible rfl
    rotate_left
    ·simp only [Act.put, List.setIfInBounds_toArray, List.set_cons_zero, List.set_cons_succ, i64_w, i32_w]
     rfl
    refine pure_ (i := 5) (N := some 59) (v := ?_) (a' := ?_) #[true, true, true, true, true, true, false, true, false, false, false, false, false, false, false, false, false, false, false, false, false, false, false] rfl rfl (any_of HT_.out (by kernel_rfl)) (fun _ _ _ h => h) (Or.inl ⟨by rfl, ?_⟩) ?_ ?_
    rotate_left
    ·intro w'
     go_simp
     with_reducible rfl
    rotate_left
    ·simp only [Act.put, List.setIfInBounds_toArray, List.set_cons_zero, List.set_cons_succ, i64_w, i32_w]
     rfl
    refine take_ (i := 6) (N := some 60) (v := ?_) (a' := ?_) #[true, true, true, true, true, true, true, true, false, false, false, false, false, false, false, false, false, false, false, false, false, false, false] rfl rfl (take_ofW HT_.out HW_.out (by kernel_rfl)) (fun _ _ _ h => h) (Or.inl ⟨by rfl, ?_⟩) hHeld ?_ ?_
    rotate_left
    ·rintro w' ⟨s0, s1, s2, s3, s4⟩
     go_simp
     with_reducible rfl
    rotate_left
    ·simp only [Act.put, List.setIfInBounds_toArray, List.set_cons_zero, List.set_cons_succ, i64_w, i32_w]
     rfl
    refine take_ (i := 8) (N := some 62) (v := ?_) (a' := ?_) #[true, true, true, true, true, true, true, true, true, false, false, false, false, false, false, false, false, false, false, false, false, false, false] rfl rfl (take_ofW HT_.out HW_.out (by kernel_rfl)) (fun _ _ _ h => h) (Or.inl ⟨by rfl, ?_⟩) hHeld ?_ ?_
    rotate_left
    ·rintro w' ⟨s0, s1, s2, s3, s4⟩
     go_simp
     with_reducible rfl
    rotate_left
    ·simp only [Act.put, List.setIfInBounds_toArray, List.set_cons_zero, List.set_cons_succ, i64_w, i32_w]
     rfl
    refine pure_ (i := 9) (N := some 63) (v := ?_) (a' := ?_) #[true, true, true, true, true, true, true, true, true, true, false, false, false, false, false, false, false, false, false, false, false, false, false] rfl rfl (any_of HT_.out (by kernel_rfl)) (fun _ _ _ h => h) (Or.inl ⟨by rfl, ?_⟩) ?_ ?_
    rotate_left
    ·intro w'
     go_simp
     with_reducible rfl
    rotate_left
    ·simp only [Act.put, List.setIfInBounds_toArray, List.set_cons_zero, List.set_cons_succ, i64_w, i32_w]
     rfl
    refine pure_ (i := 10) (N := some 64) (v := ?_) (a' := ?_) #[true, true, true, true, true, true, true, true, true, true, true, false, false, false, false, false, false, false, false, false, false, false, false] rfl rfl (any_of HT_.out (by kernel_rfl)) (fun _ _ _ h => h) (Or.inl ⟨by rfl, ?_⟩) ?_ ?_
    rotate_left
    ·intro w'
     go_simp
     with_reducible rfl
    rotate_left
    ·simp only [Act.put, List.setIfInBounds_toArray, List.set_cons_zero, List.set_cons_succ, i64_w, i32_w]
     rfl
    refine take_ (i := 11) (N := some 65) (v := ?_) (a' := ?_) #[true, true, true, true, true, true, true, true, true, true, true, true, false, false, false, false, false, false, false, false, false, false, false] rfl rfl (take_ofW HT_.out HW_.out (by kernel_rfl)) (fun _ _ _ h => h) (Or.inl ⟨by rfl, ?_⟩) hHeld ?_ ?_
    rotate_left
    ·rintro w' ⟨s0, s1, s2, s3, s4⟩
     go_simp
     with_reducible rfl
    rotate_left
    ·simp only [Act.put, List.setIfInBounds_toArray, List.set_cons_zero, List.set_cons_succ, i64_w, i32_w]
     rfl
    refine pure_ (i := 12) (N := some 66) (v := ?_) (a' := ?_) #[true, true, true, true, true, true, true, true, true, true, true, true, true, false, false, false, false, false, false, false, false, false, false] rfl rfl (any_of HT_.out (by kernel_rfl)) (fun _ _ _ h => h) (Or.inl ⟨by rfl, ?_⟩) ?_ ?_
    rotate_left
    ·intro w'
     go_simp
     with_reducible rfl
    rotate_left
    ·simp only [Act.put, List.setIfInBounds_toArray, List.set_cons_zero, List.set_cons_succ, i64_w, i32_w]
     rfl
    refine take_ (i := 13) (N := some 67) (v := ?_) (a' := ?_) #[true, true, true, true, true, true, true, true, true, true, true, true, true, true, false, false, false, false, false, false, false, false, false] rfl rfl (take_ofW HT_.out HW_.out (by kernel_rfl)) (fun _ _ _ h => h) (Or.inl ⟨by rfl, ?_⟩) hHeld ?_ ?_
    rotate_left
    ·rintro w' ⟨s0, s1, s2, s3, s4⟩
     go_simp
     with_reducible rfl
    rotate_left
    ·simp only [Act.put, List.setIfInBounds_toArray, List.set_cons_zero, List.set_cons_succ, i64_w, i32_w]
     rfl
    refine pure_ (i := 14) (N := some 68) (v := ?_) (a' := ?_) #[true, true, true, true, true, true, true, true, true, true, true, true, true, true, true, false, false, false, false, false, false, false, false] rfl rfl (any_of HT_.out (by kernel_rfl)) (fun _ _ _ h => h) (Or.inl ⟨by rfl, ?_⟩) ?_ ?_
    rotate_left
    ·intro w'
     go_simp
     with_reducible rfl
    rotate_left
    ·simp only [Act.put, List.setIfInBounds_toArray, List.set_cons_zero, List.set_cons_succ, i64_w, i32_w]
     rfl
    refine pure_ (i := 15) (N := some 69) (v := ?_) (a' := ?_) #[true, true, true, true, true, true, true, true, true, true, true, true, true, true, true, true, false, false, false, false, false, false, false] rfl rfl (any_of HT_.out (by kernel_rfl)) (fun _ _ _ h => h) (Or.inl ⟨by rfl, ?_⟩) ?_ ?_
    rotate_left
    ·intro w'
     go_simp
     with_reducible rfl
    rotate_left
    ·simp only [Act.put, List.setIfInBounds_toArray, List.set_cons_zero, List.set_cons_succ, i64_w, i32_w]
     rfl
    refine take_ (i := 16) (N := some 70) (v := ?_) (a' := ?_) #[true, true, true, true, true, true, true, true, true, true, true, true, true, true, true, true, true, false, false, false, false, false, false] rfl rfl (take_ofW HT_.out HW_.out (by kernel_rfl)) (fun _ _ _ h => h) (Or.inl ⟨by rfl, ?_⟩) hHeld ?_ ?_
    rotate_left
    ·rintro w' ⟨s0, s1, s2, s3, s4⟩
     go_simp
     with_reducible rfl
    rotate_left
    ·simp only [Act.put, List.setIfInBounds_toArray, List.set_cons_zero, List.set_cons_succ, i64_w, i32_w]
     rfl
    refine take_ (i := 17) (N := some 71) (v := ?_) (a' := ?_) #[true, true, true, true, true, true, true, true, true, true, true, true, true, true, true, true, true, true, false, false, false, false, false] rfl rfl (take_ofW HT_.out HW_.out (by kernel_rfl)) (fun _ _ _ h => h) (Or.inl ⟨by rfl, ?_⟩) hHeld ?_ ?_
    rotate_left
    ·rintro w' ⟨s0, s1, s2, s3, s4⟩
     go_simp
     with_reducible rfl
    rotate_left
    ·simp only [Act.put, List.setIfInBounds_toArray, List.set_cons_zero, List.set_cons_succ, i64_w, i32_w]
     rfl
    refine one_ (i := 18) (N := some 72) #[true, true, true, true, true, true, true, true, true, true, true, true, true, true, true, true, true, true, true, false, false, false, false] rfl rfl (one_of HT_.out (by kernel_rfl)) (by decide) (fun K hK => ?_)
    refine value_ (w1 := ?_) (v := ?_) (by rfl) rfl ?_ ?_
    rotate_left 2
    ·go_simp
     constructor
     ·rfl
     ·rfl
    refine hK.out _ _ ⟨(hSz _ (below_alloc hb0 (.cells #[.int .i64 0, .string ⟨#[85]⟩, .int .i64 0, .int .i64 0] 61))).1, (hSz _ (below_alloc hb0 (.cells #[.int .i64 0, .string ⟨#[85]⟩, .int .i64 0, .int .i64 0] 61))).2.1, (hSz _ (below_alloc hb0 (.cells #[.int .i64 0, .string ⟨#[85]⟩, .int .i64 0, .int .i64 0] 61))).2.2.1, (hSz _ (below_alloc hb0 (.cells #[.int .i64 0, .string ⟨#[85]⟩, .int .i64 0, .int .i64 0] 61))).2.2.2.1, (hSz _ (below_alloc hb0 (.cells #[.int .i64 0, .string ⟨#[85]⟩, .int .i64 0, .int .i64 0] 61))).2.2.2.2.1⟩ (fun hHeld => ?_)
    clear hK K
    refine norm_ (a' := ?_) ?_ ?_
    rotate_left
    ·show Act.put _ (some 72) _ = _
     simp only [Act.put, List.setIfInBounds_toArray, List.set_cons_zero, List.set_cons_succ, i64_w, i32_w]
     rfl
    refine one_ (i := 19) (N := some 73) #[true, true, true, true, true, true, true, true, true, true, true, true, true, true, true, true, true, true, true, true, false, false, false] rfl rfl (one_of HT_.out (by kernel_rfl)) (by decide) (fun K hK => ?_)
    refine Kd.R_append_step k61 (w0 := w) (W := W1.drew) w.heap.size (by rfl) (.tmp 70) (.tmp 72) 62 61 (.agg #[.int .i64 0, .string ⟨#[]⟩, .int .i64 0, .int .i64 0]) 40 rfl Try.underlying62 bw_info61 rfl (by decide) (by decide) (.slice (some ⟨gI1, 0, none⟩) 1 1) [⟨2, ⟨#[]⟩, 3, 2⟩] ⟨0, ⟨#[85]⟩, 0, 0⟩ [.int .i64 0, .string ⟨#[85]⟩, .int .i64 0, .int .i64 0] (fun _ => True) (fun _ => False) rfl rfl (k61_mkM _ _ _ ⟨0, ⟨#[85]⟩, 0, 0⟩) (fun _ hk => hk.elim) (fun _ _ => trivial) (Kd.R_mono (Kd.R_drew hRI.out) (fun _ _ => trivial)) HW.out.drew HW.out.size (by simp) ?_
    intro v1 w1 ho hb hg hat
    obtain ⟨Ai, ci, e1⟩ := Kd.R_slice ho
    subst e1
    have hgB := fun (g : Nat) (cs : Array Value) (e : Nat) (h : W1.heap[g]? = some (.cells cs e (0, 0))) (hn : g ≠ gI1) => (hg.block g (blk_lt h) (by simp [Value.ownBlock]; exact hn)).trans h
    refine hK.out _ _ ⟨(blk_cell (hgB gB _ _ HB1.out (by omega)) 1).trans rfl, (blk_cell (hgB gD _ _ HD1.out (by omega)) 3).trans rfl, (blk_cell (hgB gA1 _ _ HA11.out (by omega)) 0).trans rfl, (blk_cell (hgB gC1 _ _ HC11.out (by omega)) 1).trans rfl, blk_frozen (hgB gC1 _ _ HC11.out (by omega)) 1⟩ (fun hHeld => ?_)
    clear hK K
    refine norm_ (a' := ?_) ?_ ?_
    rotate_left
    ·show Act.put _ (some 73) _ = _
     simp only [Act.put, List.setIfInBounds_toArray, List.set_cons_zero, List.set_cons_succ, i64_w, i32_w]
     rfl
    refine pure_ (i := 20) (N := some 74) (v := ?_) (a' := ?_) #[true, true, true, true, true, true, true, true, true, true, true, true, true, true, true, true, true, true, true, true, true, false, false] rfl rfl (any_of HT_.out (by kernel_rfl)) (fun _ _ _ h => h) (Or.inl ⟨by rfl, ?_⟩) ?_ ?_
    rotate_left
    ·intro w'
     go_simp
     with_reducible rfl
    rotate_left
    ·simp only [Act.put, List.setIfInBounds_toArray, List.set_cons_zero, List.set_cons_succ, i64_w, i32_w]
     rfl
    refine pure_ (i := 21) (N := some 75) (v := ?_) (a' := ?_) #[true, true, true, true, true, true, true, true, true, true, true, true, true, true, true, true, true, true, true, true, true, true, false] rfl rfl (any_of HT_.out (by kernel_rfl)) (fun _ _ _ h => h) (Or.inl ⟨by rfl, ?_⟩) ?_ ?_
    rotate_left
    ·intro w'
     go_simp
     with_reducible rfl
    rotate_left
    ·simp only [Act.put, List.setIfInBounds_toArray, List.set_cons_zero, List.set_cons_succ, i64_w, i32_w]
     rfl
    refine last_ (i := 22) (N := none) #[true, true, true, true, true, true, true, true, true, true, true, true, true, true, true, true, true, true, true, true, true, true, true] rfl rfl (one_of HT_.out (by kernel_rfl)) (by decide) (fun K hK => ?_)
    have q0 := hHeld.2.2.2.1
    have q1 := hHeld.2.2.2.2
    refine skip_ (w1 := ?_) (by rfl) rfl ?_ ?_
    rotate_left
    ·go_simp
     rfl
    refine hK.out _ _ ?_
    clear hK K
    refine done_ (done_of HT_.out (by kernel_rfl)) ?_
    have hIn := Aside0.mk (And.intro (Kd.F_far (p := ⟨gC1, 1, none⟩) (Kd.F_mono (ok' := fun k => k ≠ gS ∧ k ≠ gC1 ∧ k ≠ gD ∧ k ≠ gB) (Kd.R_F (Kd.R_types (Kd.R_types (Kd.R_types (Kd.R_types ho (hgB gS _ _ HS1.out (by omega)) (by decide)) (hgB gC1 _ _ HC11.out (by omega)) (by decide)) (hgB gD _ _ HD1.out (by omega)) (by decide)) (hgB gB _ _ HB1.out (by omega)) (by decide))) (fun k hk => ⟨hk.1.1.1.2, hk.1.1.2, hk.1.2, hk.2⟩)) (fun k hk => hk.2.1) (.slice Ai 2 ci)) (Kd.R_reads' ho).2.1)
    have mB := Aside0.mk (blk_far (hgB gB _ _ HB1.out (by omega)) (p := ⟨gC1, 1, none⟩) (by show gB ≠ gC1; omega) (.slice Ai 2 ci))
    have mS := Aside0.mk (blk_far (hgB gS _ _ HS1.out (by omega)) (p := ⟨gC1, 1, none⟩) (by show gS ≠ gC1; omega) (.slice Ai 2 ci))
    have mD := Aside0.mk (blk_far (hgB gD _ _ HD1.out (by omega)) (p := ⟨gC1, 1, none⟩) (by show gD ≠ gC1; omega) (.slice Ai 2 ci))
    have mA0 := Aside0.mk (blk_far (hgB gA0 _ _ HA01.out (by omega)) (p := ⟨gC1, 1, none⟩) (by show gA0 ≠ gC1; omega) (.slice Ai 2 ci))
    have mA1 := Aside0.mk (blk_far (hgB gA1 _ _ HA11.out (by omega)) (p := ⟨gC1, 1, none⟩) (by show gA1 ≠ gC1; omega) (.slice Ai 2 ci))
    have mC1 := Aside0.mk (blk_put (hgB gC1 _ _ HC11.out (by omega)) 1 (.slice Ai 2 ci) rfl)
    have mX := Aside0.mk (Kd.F_far (Kd.F_grown (Kd.F_drew HX1.out) hg (fun k hk he => hk.2.1 (by simpa [Value.ownBlock] using he))) (p := ⟨gC1, 1, none⟩) (fun k hk => hk.2.2.1) (.slice Ai 2 ci))
    have mW := Aside0.mk (hb.setCell (p := ⟨gC1, 1, none⟩) (by show w.heap.size ≤ gC1; omega) (.slice Ai 2 ci))
    clear HB1 HS1 HD1 HA01 HA11 HC11 HX1 HW HI1 hRI hgB hSz hb0 HT_ HW_ hHeld q0 q1 ho hb hg hat
    generalize w1.setCell ⟨gC1, 1, none⟩ (.slice Ai 2 ci) = W2 at *
    have HB2 := mB
    have HS2 := mS
    have HD2 := mD
    have HA02 := mA0
    have HA12 := mA1
    have HC12 := mC1
    have HX2 := mX
    have HW := mW
    clear mW mB mS mD mA0 mA1 mC1 mX
    have HI2 := Aside0.mk hIn.out.1
    have hIC := Aside0.mk hIn.out.2
    clear hIn
    cases b2
    ·skip
     cases b1
     ·skip
      go_upto_region 24 with (fail)
      have cS : Kd.C Kd.string W2 (some ⟨gS, 0, none⟩) [(⟨#[83]⟩ : ByteArray)].length [⟨#[83]⟩] := C_lit HS2.out (Reps.one rfl (Reps.none _ _)) (by decide)
      have lS : [(⟨#[83]⟩ : ByteArray)].length ≤ 1 := Nat.le_refl _
      have cI := Kd.F_now HI2.out
      have lI := hIC.out
      have cX := Kd.F_now HX2.out
      have lX := Nat.le_refl 1
      have kD := bw_defs HA02.out HC12.out HA12.out cX rfl lX cI rfl lI
      have cD : Kd.C k45 W2 (some ⟨gD, 0, none⟩) ([⟨⟨#[83]⟩, [[⟨false, [⟨0, ⟨#[84]⟩, 0, 0⟩]⟩]]⟩, ⟨⟨#[84]⟩, [[⟨false, [⟨2, ⟨#[]⟩, 3, 2⟩, ⟨0, ⟨#[85]⟩, 0, 0⟩]⟩]]⟩] : List S45).length [⟨⟨#[83]⟩, [[⟨false, [⟨0, ⟨#[84]⟩, 0, 0⟩]⟩]]⟩, ⟨⟨#[84]⟩, [[⟨false, [⟨2, ⟨#[]⟩, 3, 2⟩, ⟨0, ⟨#[85]⟩, 0, 0⟩]⟩]]⟩] := C_lit HD2.out (Reps.c2 kD.1 (Reps.c2 kD.2 (Reps.none _ _))) (by decide)
      have lD : (2 : Nat) ≤ 2 := Nat.le_refl _
      have FB2 := Aside0.mk (show gram_Build.f k [⟨#[83]⟩] [⟨⟨#[83]⟩, [[⟨false, [⟨0, ⟨#[84]⟩, 0, 0⟩]⟩]]⟩, ⟨⟨#[84]⟩, [[⟨false, [⟨2, ⟨#[]⟩, 3, 2⟩, ⟨0, ⟨#[85]⟩, 0, 0⟩]⟩]]⟩] = some (r1, r2, r3, ⟨#[85]⟩, 402) from FB.out)
      have tl := (show (r2.length = 2 ↔ (402 : Int) = 0) from FL.out)
      have tL : ((r2.length : Int) == 2) = false := by rw [beq_eq_false_iff_ne]; intro h9; exact absurd (tl.1 (by omega)) (by decide)
      have k0 : W2.cell? ⟨gB, 0, none⟩ = some (.slice (some ⟨gS, 0, none⟩) 1 1) := (blk_cell HB2.out 0).trans rfl
      have k1 : W2.cell? ⟨gB, 1, none⟩ = some (.slice (some ⟨gD, 0, none⟩) 2 2) := (blk_cell HB2.out 1).trans rfl
      have Z := Aside0.mk (And.intro cS (And.intro lS (And.intro cD (And.intro lD HW.out))))
      clear cS lS cD lD cI lI cX lX kD tl FB FL
      go_wp2_with (first | (go_at_call 14; (with_reducible refine (templelaw0_Num.calls 402 402 _ (bw_num 402)).mono ?_); rintro e w' ⟨rfl, ⟨nd, rfl⟩⟩) | (go_at_call 11; refine (gram_Build.calls k _ _ [⟨#[83]⟩] _ _ [⟨⟨#[83]⟩, [[⟨false, [⟨0, ⟨#[84]⟩, 0, 0⟩]⟩]]⟩, ⟨⟨#[84]⟩, [[⟨false, [⟨2, ⟨#[]⟩, 3, 2⟩, ⟨0, ⟨#[85]⟩, 0, 0⟩]⟩]]⟩] r1 r2 r3 ⟨#[85]⟩ 402 _ Z.out.1 Z.out.2.1 Z.out.2.2.1 Z.out.2.2.2.1 FB2.out).mono ?_; rintro e w2 ⟨v1, v2, rfl, h1, h2, hbq⟩; (obtain ⟨Aq, cq, rfl⟩ := Kd.R_slice h1); (obtain ⟨Ar, cr, rfl⟩ := Kd.R_slice h2); have Y := Aside0.mk hbq; clear h1 h2 hbq))
      go_ret
      exact ⟨by first | rfl | simp | simp [tL], pw_below_drewN (below_alloc (Z.out.2.2.2.2.trans (Y.out.mono Z.out.2.2.2.2.size)) _) _⟩
     ·skip
      go_upto_region 21 with (fail)
      have k0 : W2.cell? ⟨gB, 1, none⟩ = some (.slice (some ⟨gD, 0, none⟩) 2 2) := (blk_cell HB2.out 1).trans rfl
      have kg : W2.cell? ⟨gB, 0, none⟩ = some (.slice (some ⟨gS, 0, none⟩) 1 1) := (blk_cell HB2.out 0).trans rfl
      have hal := below_alloc (Below.refl W2.heap.size W2) (.cells #[.string ⟨#[84]⟩, .slice none 0 0, .string ⟨#[83]⟩, .slice none 0 0] 45)
      have hRD := Aside0.mk (bw_row (d := Kd.raw 2) (base := w.heap.size) (n := 2) (xs := [[.string ⟨#[83]⟩, .slice (some ⟨gA0, 0, none⟩) 1 1], [.string ⟨#[84]⟩, .slice (some ⟨gA1, 0, none⟩) 1 1]]) (blk_alloc HD2.out (.cells #[.string ⟨#[84]⟩, .slice none 0 0, .string ⟨#[83]⟩, .slice none 0 0] 45)) (by omega) rfl (bw_raw (w := w)) (by simp))
      have hRL := Aside0.mk (C_lit (d := Kd.raw 2) (xs := [[.string ⟨#[84]⟩, .slice none 0 0], [.string ⟨#[83]⟩, .slice none 0 0]]) (blk_new W2 (.cells #[.string ⟨#[84]⟩, .slice none 0 0, .string ⟨#[83]⟩, .slice none 0 0] 45)) (Reps.c2 ⟨rfl, rfl, by simp [Value.oneCell']⟩ (Reps.c2 ⟨rfl, rfl, by simp [Value.oneCell']⟩ (Reps.none _ _))) (by decide))
      have hlt := Aside0.mk (below_alloc HW.out (.cells #[.string ⟨#[84]⟩, .slice none 0 0, .string ⟨#[83]⟩, .slice none 0 0] 45))
      go_upto_region 22 with (first | ((with_reducible refine gate_builtin (b := .append) (xs := #[.tmp 88, .tmp 91]) rfl ?_); at_builtin; refine Kd.R_append_rows (Kd.raw 2) (w0 := w) w.heap.size rfl (.tmp 88) (.tmp 91) 23 45 (.agg #[.string ⟨#[]⟩, .slice none 0 0]) 40 rfl Try.underlying23 bw_info45 rfl (by decide) (by omega) (.slice (some ⟨gD, 0, none⟩) 2 2) [[.string ⟨#[83]⟩, .slice (some ⟨gA0, 0, none⟩) 1 1], [.string ⟨#[84]⟩, .slice (some ⟨gA1, 0, none⟩) 1 1]] [[.string ⟨#[84]⟩, .slice none 0 0], [.string ⟨#[83]⟩, .slice none 0 0]] _ _ _ (fun _ => True) (fun _ => False) rfl rfl (Kd.R_mono hRD.out (fun _ _ => trivial)) hRL.out (fun _ _ h => h) (fun _ h => h.elim) (fun _ _ => trivial) hlt.out hlt.out.size (by simp) ?_; intro v1 w1 ho hb hg hat; (obtain ⟨Ad, cd, e1⟩ := Kd.R_slice ho); subst e1; have hmv := fun (g : Nat) (cs : Array Value) (e : Nat) (h : W2.heap[g]? = some (.cells cs e (0, 0))) (hn : g ≠ gD) => (hg.block g (blk_lt ((hal.block g (blk_lt h)).trans h)) (by simp [Value.ownBlock]; exact hn)).trans ((hal.block g (blk_lt h)).trans h); have ps := (blk_cell (hmv gB _ _ HB2.out (by omega)) 1).trans rfl; have pf := blk_frozen (hmv gB _ _ HB2.out (by omega)) 1))
      have hDn := Aside0.mk (RowT.set (RowT.of rfl ho) (hmv gB _ _ HB2.out (by omega)) (by decide) 1 (.slice Ad 4 cd))
      have hRW := Aside0.mk hRD.out
      have mB := Aside0.mk (blk_put (hmv gB _ _ HB2.out (by omega)) 1 (.slice Ad 4 cd) rfl)
      have mS := Aside0.mk (blk_far (hmv gS _ _ HS2.out (by omega)) (p := ⟨gB, 1, none⟩) (by show gS ≠ gB; omega) (.slice Ad 4 cd))
      have mA0 := Aside0.mk (blk_far (hmv gA0 _ _ HA02.out (by omega)) (p := ⟨gB, 1, none⟩) (by show gA0 ≠ gB; omega) (.slice Ad 4 cd))
      have mA1 := Aside0.mk (blk_far (hmv gA1 _ _ HA12.out (by omega)) (p := ⟨gB, 1, none⟩) (by show gA1 ≠ gB; omega) (.slice Ad 4 cd))
      have mC1 := Aside0.mk (blk_far (hmv gC1 _ _ HC12.out (by omega)) (p := ⟨gB, 1, none⟩) (by show gC1 ≠ gB; omega) (.slice Ad 4 cd))
      have mX := Aside0.mk (Kd.F_far (Kd.F_grown (Kd.F_below HX2.out hal) hg (fun k hk he => hk.2.2.2.1 (by simpa [Value.ownBlock] using he))) (p := ⟨gB, 1, none⟩) (fun k hk => hk.2.2.2.2) (.slice Ad 4 cd))
      have mI := Aside0.mk (Kd.F_far (Kd.F_grown (Kd.F_below HI2.out hal) hg (fun k hk he => hk.2.2.1 (by simpa [Value.ownBlock] using he))) (p := ⟨gB, 1, none⟩) (fun k hk => hk.2.2.2) (.slice Ad 4 cd))
      have mW := Aside0.mk (hb.setCell (p := ⟨gB, 1, none⟩) (by show w.heap.size ≤ gB; omega) (.slice Ad 4 cd))
      clear HB2 HS2 HA02 HA12 HC12 HX2 HI2 HW HD2 hRD hRL hRW hlt hmv hal k0 kg ps pf ho hb hg hat
      generalize w1.setCell ⟨gB, 1, none⟩ (.slice Ad 4 cd) = W3 at *
      have HB3 := mB
      have HS3 := mS
      have HA03 := mA0
      have HA13 := mA1
      have HC13 := mC1
      have HX3 := mX
      have HI3 := mI
      have HW := mW
      clear mW mB mS mA0 mA1 mC1 mX mI
      go_upto_region 24 with (fail)
      have cS : Kd.C Kd.string W3 (some ⟨gS, 0, none⟩) [(⟨#[83]⟩ : ByteArray)].length [⟨#[83]⟩] := C_lit HS3.out (Reps.one rfl (Reps.none _ _)) (by decide)
      have lS : [(⟨#[83]⟩ : ByteArray)].length ≤ 1 := Nat.le_refl _
      have cI := Kd.F_now HI3.out
      have lI := hIC.out
      have cX := Kd.F_now HX3.out
      have lX := Nat.le_refl 1
      have kD := bw_defs HA03.out HC13.out HA13.out cX rfl lX cI rfl lI
      have kM := bw_more W3
      have cD := rows_C (d := k45) (xs := [⟨⟨#[83]⟩, [[⟨false, [⟨0, ⟨#[84]⟩, 0, 0⟩]⟩]]⟩, ⟨⟨#[84]⟩, [[⟨false, [⟨2, ⟨#[]⟩, 3, 2⟩, ⟨0, ⟨#[85]⟩, 0, 0⟩]⟩]]⟩]) (ys := [⟨⟨#[84]⟩, []⟩, ⟨⟨#[83]⟩, []⟩]) rfl rfl (Kd.R_reads' hDn.out).2.2 (bw_two kD.1 kD.2) (bw_two kM.1 kM.2)
      have lD := (Kd.R_reads' hDn.out).2.1
      have FB2 := Aside0.mk (show gram_Build.f k [⟨#[83]⟩] [⟨⟨#[83]⟩, [[⟨false, [⟨0, ⟨#[84]⟩, 0, 0⟩]⟩]]⟩, ⟨⟨#[84]⟩, [[⟨false, [⟨2, ⟨#[]⟩, 3, 2⟩, ⟨0, ⟨#[85]⟩, 0, 0⟩]⟩]]⟩, ⟨⟨#[84]⟩, []⟩, ⟨⟨#[83]⟩, []⟩] = some (r1, r2, r3, ⟨#[84]⟩, 401) from FB.out)
      have tl := (show (r2.length = 2 ↔ (401 : Int) = 0) from FL.out)
      have tL : ((r2.length : Int) == 2) = false := by rw [beq_eq_false_iff_ne]; intro h9; exact absurd (tl.1 (by omega)) (by decide)
      have k0 : W3.cell? ⟨gB, 0, none⟩ = some (.slice (some ⟨gS, 0, none⟩) 1 1) := (blk_cell HB3.out 0).trans rfl
      have k1 : W3.cell? ⟨gB, 1, none⟩ = some (.slice Ad 4 cd) := (blk_cell HB3.out 1).trans rfl
      have Z := Aside0.mk (And.intro cS (And.intro lS (And.intro cD (And.intro lD HW.out))))
      clear cS lS cD lD cI lI cX lX kD tl FB FL kM
      go_wp2_with (first | (go_at_call 14; (with_reducible refine (templelaw0_Num.calls 401 401 _ (bw_num 401)).mono ?_); rintro e w' ⟨rfl, ⟨nd, rfl⟩⟩) | (go_at_call 11; refine (gram_Build.calls k _ _ [⟨#[83]⟩] _ _ [⟨⟨#[83]⟩, [[⟨false, [⟨0, ⟨#[84]⟩, 0, 0⟩]⟩]]⟩, ⟨⟨#[84]⟩, [[⟨false, [⟨2, ⟨#[]⟩, 3, 2⟩, ⟨0, ⟨#[85]⟩, 0, 0⟩]⟩]]⟩, ⟨⟨#[84]⟩, []⟩, ⟨⟨#[83]⟩, []⟩] r1 r2 r3 ⟨#[84]⟩ 401 _ Z.out.1 Z.out.2.1 Z.out.2.2.1 Z.out.2.2.2.1 FB2.out).mono ?_; rintro e w2 ⟨v1, v2, rfl, h1, h2, hbq⟩; (obtain ⟨Aq, cq, rfl⟩ := Kd.R_slice h1); (obtain ⟨Ar, cr, rfl⟩ := Kd.R_slice h2); have Y := Aside0.mk hbq; clear h1 h2 hbq))
      go_ret
      exact ⟨by first | rfl | simp | simp [tL], pw_below_drewN (below_alloc (Z.out.2.2.2.2.trans (Y.out.mono Z.out.2.2.2.2.size)) _) _⟩
    ·skip
     go_upto_region 17 with (fail)
     have k0 : W2.cell? ⟨gB, 0, none⟩ = some (.slice (some ⟨gS, 0, none⟩) 1 1) := (blk_cell HB2.out 0).trans rfl
     have kg : W2.cell? ⟨gB, 1, none⟩ = some (.slice (some ⟨gD, 0, none⟩) 2 2) := (blk_cell HB2.out 1).trans rfl
     have kf := blk_frozen HB2.out 0
     have hRS := Aside0.mk (bw_row (d := Kd.string) (base := w.heap.size) (n := 1) (xs := [⟨#[83]⟩]) HS2.out (by omega) rfl (Reps.one rfl (Reps.none _ _)) (by decide))
     go_upto_region 18 with (first | ((with_reducible refine gate_builtin (b := .append) (xs := #[.tmp 80, .tmp 81]) rfl ?_); at_builtin; refine Kd.R_append Kd.string (w0 := w) (W := W2) w.heap.size rfl (.tmp 80) (.tmp 81) 22 9 (.string ⟨#[]⟩) 16 rfl Try.underlying22 bw_info9 rfl (by decide) (by omega) (.slice (some ⟨gS, 0, none⟩) 1 1) [⟨#[83]⟩] ⟨#[83]⟩ [.string ⟨#[83]⟩] (fun _ => True) (fun _ => False) rfl (by first | (go_simp; done) | (go_simp; rfl)) rfl (fun _ hk => hk.elim) (fun _ _ => trivial) (Kd.R_mono hRS.out (fun _ _ => trivial)) HW.out HW.out.size (by simp) ?_; intro v1 w1 ho hb hg hat; (obtain ⟨As, cs, e1⟩ := Kd.R_slice ho); subst e1; have hmv := fun (g : Nat) (cs : Array Value) (e : Nat) (h : W2.heap[g]? = some (.cells cs e (0, 0))) (hn : g ≠ gS) => (hg.block g (blk_lt h) (by simp [Value.ownBlock]; exact hn)).trans h; have ps := (blk_cell (hmv gB _ _ HB2.out (by omega)) 0).trans rfl; have pf := blk_frozen (hmv gB _ _ HB2.out (by omega)) 0))
     have hSn := Aside0.mk (RowT.set (RowT.of rfl ho) (hmv gB _ _ HB2.out (by omega)) (by decide) 0 (.slice As 2 cs))
     have mB := Aside0.mk (blk_put (hmv gB _ _ HB2.out (by omega)) 0 (.slice As 2 cs) rfl)
     have mD := Aside0.mk (blk_far (hmv gD _ _ HD2.out (by omega)) (p := ⟨gB, 0, none⟩) (by show gD ≠ gB; omega) (.slice As 2 cs))
     have mA0 := Aside0.mk (blk_far (hmv gA0 _ _ HA02.out (by omega)) (p := ⟨gB, 0, none⟩) (by show gA0 ≠ gB; omega) (.slice As 2 cs))
     have mA1 := Aside0.mk (blk_far (hmv gA1 _ _ HA12.out (by omega)) (p := ⟨gB, 0, none⟩) (by show gA1 ≠ gB; omega) (.slice As 2 cs))
     have mC1 := Aside0.mk (blk_far (hmv gC1 _ _ HC12.out (by omega)) (p := ⟨gB, 0, none⟩) (by show gC1 ≠ gB; omega) (.slice As 2 cs))
     have mX := Aside0.mk (Kd.F_far (Kd.F_grown HX2.out hg (fun k hk he => hk.1 (by simpa [Value.ownBlock] using he))) (p := ⟨gB, 0, none⟩) (fun k hk => hk.2.2.2.2) (.slice As 2 cs))
     have mI := Aside0.mk (Kd.F_far (Kd.F_grown HI2.out hg (fun k hk he => hk.1 (by simpa [Value.ownBlock] using he))) (p := ⟨gB, 0, none⟩) (fun k hk => hk.2.2.2) (.slice As 2 cs))
     have mW := Aside0.mk (hb.setCell (p := ⟨gB, 0, none⟩) (by show w.heap.size ≤ gB; omega) (.slice As 2 cs))
     clear HB2 HD2 HA02 HA12 HC12 HX2 HI2 HW HS2 hRS hmv k0 kg kf ps pf ho hb hg hat
     generalize w1.setCell ⟨gB, 0, none⟩ (.slice As 2 cs) = W3 at *
     have HB3 := mB
     have HD3 := mD
     have HA03 := mA0
     have HA13 := mA1
     have HC13 := mC1
     have HX3 := mX
     have HI3 := mI
     have HW := mW
     clear mW mB mD mA0 mA1 mC1 mX mI
     cases b1
     ·skip
      go_upto_region 24 with (fail)
      have cS := (Kd.R_reads' hSn.out).2.2
      have lS := (Kd.R_reads' hSn.out).2.1
      have cI := Kd.F_now HI3.out
      have lI := hIC.out
      have cX := Kd.F_now HX3.out
      have lX := Nat.le_refl 1
      have kD := bw_defs HA03.out HC13.out HA13.out cX rfl lX cI rfl lI
      have cD : Kd.C k45 W3 (some ⟨gD, 0, none⟩) ([⟨⟨#[83]⟩, [[⟨false, [⟨0, ⟨#[84]⟩, 0, 0⟩]⟩]]⟩, ⟨⟨#[84]⟩, [[⟨false, [⟨2, ⟨#[]⟩, 3, 2⟩, ⟨0, ⟨#[85]⟩, 0, 0⟩]⟩]]⟩] : List S45).length [⟨⟨#[83]⟩, [[⟨false, [⟨0, ⟨#[84]⟩, 0, 0⟩]⟩]]⟩, ⟨⟨#[84]⟩, [[⟨false, [⟨2, ⟨#[]⟩, 3, 2⟩, ⟨0, ⟨#[85]⟩, 0, 0⟩]⟩]]⟩] := C_lit HD3.out (Reps.c2 kD.1 (Reps.c2 kD.2 (Reps.none _ _))) (by decide)
      have lD : (2 : Nat) ≤ 2 := Nat.le_refl _
      have FB2 := Aside0.mk (show gram_Build.f k [⟨#[83]⟩, ⟨#[83]⟩] [⟨⟨#[83]⟩, [[⟨false, [⟨0, ⟨#[84]⟩, 0, 0⟩]⟩]]⟩, ⟨⟨#[84]⟩, [[⟨false, [⟨2, ⟨#[]⟩, 3, 2⟩, ⟨0, ⟨#[85]⟩, 0, 0⟩]⟩]]⟩] = some (r1, r2, r3, ⟨#[]⟩, 400) from FB.out)
      have tl := (show (r2.length = 2 ↔ (400 : Int) = 0) from FL.out)
      have tL : ((r2.length : Int) == 2) = false := by rw [beq_eq_false_iff_ne]; intro h9; exact absurd (tl.1 (by omega)) (by decide)
      have k0 : W3.cell? ⟨gB, 0, none⟩ = some (.slice As 2 cs) := (blk_cell HB3.out 0).trans rfl
      have k1 : W3.cell? ⟨gB, 1, none⟩ = some (.slice (some ⟨gD, 0, none⟩) 2 2) := (blk_cell HB3.out 1).trans rfl
      have Z := Aside0.mk (And.intro cS (And.intro lS (And.intro cD (And.intro lD HW.out))))
      clear cS lS cD lD cI lI cX lX kD tl FB FL
      go_wp2_with (first | (go_at_call 14; (with_reducible refine (templelaw0_Num.calls 400 400 _ (bw_num 400)).mono ?_); rintro e w' ⟨rfl, ⟨nd, rfl⟩⟩) | (go_at_call 11; refine (gram_Build.calls k _ _ [⟨#[83]⟩, ⟨#[83]⟩] _ _ [⟨⟨#[83]⟩, [[⟨false, [⟨0, ⟨#[84]⟩, 0, 0⟩]⟩]]⟩, ⟨⟨#[84]⟩, [[⟨false, [⟨2, ⟨#[]⟩, 3, 2⟩, ⟨0, ⟨#[85]⟩, 0, 0⟩]⟩]]⟩] r1 r2 r3 ⟨#[]⟩ 400 _ Z.out.1 Z.out.2.1 Z.out.2.2.1 Z.out.2.2.2.1 FB2.out).mono ?_; rintro e w2 ⟨v1, v2, rfl, h1, h2, hbq⟩; (obtain ⟨Aq, cq, rfl⟩ := Kd.R_slice h1); (obtain ⟨Ar, cr, rfl⟩ := Kd.R_slice h2); have Y := Aside0.mk hbq; clear h1 h2 hbq))
      go_ret
      exact ⟨by first | rfl | simp | simp [tL], pw_below_drewN (below_alloc (Z.out.2.2.2.2.trans (Y.out.mono Z.out.2.2.2.2.size)) _) _⟩
     ·skip
      go_upto_region 21 with (fail)
      have k0 : W3.cell? ⟨gB, 1, none⟩ = some (.slice (some ⟨gD, 0, none⟩) 2 2) := (blk_cell HB3.out 1).trans rfl
      have kg : W3.cell? ⟨gB, 0, none⟩ = some (.slice As 2 cs) := (blk_cell HB3.out 0).trans rfl
      have hal := below_alloc (Below.refl W3.heap.size W3) (.cells #[.string ⟨#[84]⟩, .slice none 0 0, .string ⟨#[83]⟩, .slice none 0 0] 45)
      have hRD := Aside0.mk (bw_row (d := Kd.raw 2) (base := w.heap.size) (n := 2) (xs := [[.string ⟨#[83]⟩, .slice (some ⟨gA0, 0, none⟩) 1 1], [.string ⟨#[84]⟩, .slice (some ⟨gA1, 0, none⟩) 1 1]]) (blk_alloc HD3.out (.cells #[.string ⟨#[84]⟩, .slice none 0 0, .string ⟨#[83]⟩, .slice none 0 0] 45)) (by omega) rfl (bw_raw (w := w)) (by simp))
      have hRL := Aside0.mk (C_lit (d := Kd.raw 2) (xs := [[.string ⟨#[84]⟩, .slice none 0 0], [.string ⟨#[83]⟩, .slice none 0 0]]) (blk_new W3 (.cells #[.string ⟨#[84]⟩, .slice none 0 0, .string ⟨#[83]⟩, .slice none 0 0] 45)) (Reps.c2 ⟨rfl, rfl, by simp [Value.oneCell']⟩ (Reps.c2 ⟨rfl, rfl, by simp [Value.oneCell']⟩ (Reps.none _ _))) (by decide))
      have hlt := Aside0.mk (below_alloc HW.out (.cells #[.string ⟨#[84]⟩, .slice none 0 0, .string ⟨#[83]⟩, .slice none 0 0] 45))
      go_upto_region 22 with (first | ((with_reducible refine gate_builtin (b := .append) (xs := #[.tmp 88, .tmp 91]) rfl ?_); at_builtin; refine Kd.R_append_rows (Kd.raw 2) (w0 := w) w.heap.size rfl (.tmp 88) (.tmp 91) 23 45 (.agg #[.string ⟨#[]⟩, .slice none 0 0]) 40 rfl Try.underlying23 bw_info45 rfl (by decide) (by omega) (.slice (some ⟨gD, 0, none⟩) 2 2) [[.string ⟨#[83]⟩, .slice (some ⟨gA0, 0, none⟩) 1 1], [.string ⟨#[84]⟩, .slice (some ⟨gA1, 0, none⟩) 1 1]] [[.string ⟨#[84]⟩, .slice none 0 0], [.string ⟨#[83]⟩, .slice none 0 0]] _ _ _ (fun _ => True) (fun _ => False) rfl rfl (Kd.R_mono hRD.out (fun _ _ => trivial)) hRL.out (fun _ _ h => h) (fun _ h => h.elim) (fun _ _ => trivial) hlt.out hlt.out.size (by simp) ?_; intro v1 w1 ho hb hg hat; (obtain ⟨Ad, cd, e1⟩ := Kd.R_slice ho); subst e1; have hmv := fun (g : Nat) (cs : Array Value) (e : Nat) (h : W3.heap[g]? = some (.cells cs e (0, 0))) (hn : g ≠ gD) => (hg.block g (blk_lt ((hal.block g (blk_lt h)).trans h)) (by simp [Value.ownBlock]; exact hn)).trans ((hal.block g (blk_lt h)).trans h); have ps := (blk_cell (hmv gB _ _ HB3.out (by omega)) 1).trans rfl; have pf := blk_frozen (hmv gB _ _ HB3.out (by omega)) 1))
      have hDn := Aside0.mk (RowT.set (RowT.of rfl ho) (hmv gB _ _ HB3.out (by omega)) (by decide) 1 (.slice Ad 4 cd))
      have hRW := Aside0.mk hRD.out
      have mB := Aside0.mk (blk_put (hmv gB _ _ HB3.out (by omega)) 1 (.slice Ad 4 cd) rfl)
      have mA0 := Aside0.mk (blk_far (hmv gA0 _ _ HA03.out (by omega)) (p := ⟨gB, 1, none⟩) (by show gA0 ≠ gB; omega) (.slice Ad 4 cd))
      have mA1 := Aside0.mk (blk_far (hmv gA1 _ _ HA13.out (by omega)) (p := ⟨gB, 1, none⟩) (by show gA1 ≠ gB; omega) (.slice Ad 4 cd))
      have mC1 := Aside0.mk (blk_far (hmv gC1 _ _ HC13.out (by omega)) (p := ⟨gB, 1, none⟩) (by show gC1 ≠ gB; omega) (.slice Ad 4 cd))
      have mX := Aside0.mk (Kd.F_far (Kd.F_grown (Kd.F_below HX3.out hal) hg (fun k hk he => hk.2.2.2.1 (by simpa [Value.ownBlock] using he))) (p := ⟨gB, 1, none⟩) (fun k hk => hk.2.2.2.2) (.slice Ad 4 cd))
      have mI := Aside0.mk (Kd.F_far (Kd.F_grown (Kd.F_below HI3.out hal) hg (fun k hk he => hk.2.2.1 (by simpa [Value.ownBlock] using he))) (p := ⟨gB, 1, none⟩) (fun k hk => hk.2.2.2) (.slice Ad 4 cd))
      have mS := Aside0.mk (RowT.set (RowT.other (RowT.box hSn.out hal) (RowT.of rfl hRD.out) (by decide) hg) (hmv gB _ _ HB3.out (by omega)) (by decide) 1 (.slice Ad 4 cd))
      have mW := Aside0.mk (hb.setCell (p := ⟨gB, 1, none⟩) (by show w.heap.size ≤ gB; omega) (.slice Ad 4 cd))
      clear HB3 HA03 HA13 HC13 HX3 HI3 hSn HW HD3 hRD hRL hRW hlt hmv hal k0 kg ps pf ho hb hg hat
      generalize w1.setCell ⟨gB, 1, none⟩ (.slice Ad 4 cd) = W4 at *
      have HB4 := mB
      have HA04 := mA0
      have HA14 := mA1
      have HC14 := mC1
      have HX4 := mX
      have HI4 := mI
      have HS4 := mS
      have HW := mW
      clear mW mB mA0 mA1 mC1 mX mI mS
      go_upto_region 24 with (fail)
      have cS := (Kd.R_reads' HS4.out).2.2
      have lS := (Kd.R_reads' HS4.out).2.1
      have cI := Kd.F_now HI4.out
      have lI := hIC.out
      have cX := Kd.F_now HX4.out
      have lX := Nat.le_refl 1
      have kD := bw_defs HA04.out HC14.out HA14.out cX rfl lX cI rfl lI
      have kM := bw_more W4
      have cD := rows_C (d := k45) (xs := [⟨⟨#[83]⟩, [[⟨false, [⟨0, ⟨#[84]⟩, 0, 0⟩]⟩]]⟩, ⟨⟨#[84]⟩, [[⟨false, [⟨2, ⟨#[]⟩, 3, 2⟩, ⟨0, ⟨#[85]⟩, 0, 0⟩]⟩]]⟩]) (ys := [⟨⟨#[84]⟩, []⟩, ⟨⟨#[83]⟩, []⟩]) rfl rfl (Kd.R_reads' hDn.out).2.2 (bw_two kD.1 kD.2) (bw_two kM.1 kM.2)
      have lD := (Kd.R_reads' hDn.out).2.1
      have FB2 := Aside0.mk (show gram_Build.f k [⟨#[83]⟩, ⟨#[83]⟩] [⟨⟨#[83]⟩, [[⟨false, [⟨0, ⟨#[84]⟩, 0, 0⟩]⟩]]⟩, ⟨⟨#[84]⟩, [[⟨false, [⟨2, ⟨#[]⟩, 3, 2⟩, ⟨0, ⟨#[85]⟩, 0, 0⟩]⟩]]⟩, ⟨⟨#[84]⟩, []⟩, ⟨⟨#[83]⟩, []⟩] = some (r1, r2, r3, ⟨#[84]⟩, 401) from FB.out)
      have tl := (show (r2.length = 2 ↔ (401 : Int) = 0) from FL.out)
      have tL : ((r2.length : Int) == 2) = false := by rw [beq_eq_false_iff_ne]; intro h9; exact absurd (tl.1 (by omega)) (by decide)
      have k0 : W4.cell? ⟨gB, 0, none⟩ = some (.slice As 2 cs) := (blk_cell HB4.out 0).trans rfl
      have k1 : W4.cell? ⟨gB, 1, none⟩ = some (.slice Ad 4 cd) := (blk_cell HB4.out 1).trans rfl
      have Z := Aside0.mk (And.intro cS (And.intro lS (And.intro cD (And.intro lD HW.out))))
      clear cS lS cD lD cI lI cX lX kD tl FB FL kM
      go_wp2_with (first | (go_at_call 14; (with_reducible refine (templelaw0_Num.calls 401 401 _ (bw_num 401)).mono ?_); rintro e w' ⟨rfl, ⟨nd, rfl⟩⟩) | (go_at_call 11; refine (gram_Build.calls k _ _ [⟨#[83]⟩, ⟨#[83]⟩] _ _ [⟨⟨#[83]⟩, [[⟨false, [⟨0, ⟨#[84]⟩, 0, 0⟩]⟩]]⟩, ⟨⟨#[84]⟩, [[⟨false, [⟨2, ⟨#[]⟩, 3, 2⟩, ⟨0, ⟨#[85]⟩, 0, 0⟩]⟩]]⟩, ⟨⟨#[84]⟩, []⟩, ⟨⟨#[83]⟩, []⟩] r1 r2 r3 ⟨#[84]⟩ 401 _ Z.out.1 Z.out.2.1 Z.out.2.2.1 Z.out.2.2.2.1 FB2.out).mono ?_; rintro e w2 ⟨v1, v2, rfl, h1, h2, hbq⟩; (obtain ⟨Aq, cq, rfl⟩ := Kd.R_slice h1); (obtain ⟨Ar, cr, rfl⟩ := Kd.R_slice h2); have Y := Aside0.mk hbq; clear h1 h2 hbq))
      go_ret
      exact ⟨by first | rfl | simp | simp [tL], pw_below_drewN (below_alloc (Z.out.2.2.2.2.trans (Y.out.mono Z.out.2.2.2.2.size)) _) _⟩
 ·skip
  go_upto_region 6 with (fail)
  have hSz : ∀ w', Below W0.heap.size W0 w' → w'.cell? ⟨gB, 1, none⟩ = some (.slice (some ⟨gD, 0, none⟩) 2 2) ∧ w'.cell? ⟨gD, 1, none⟩ = some (.slice (some ⟨gA0, 0, none⟩) 1 1) ∧ w'.cell? ⟨gA0, 0, none⟩ = some (.slice (some ⟨gC0, 0, none⟩) 1 1) ∧ w'.frozen? ⟨gA0, 0, none⟩ = false ∧ Aside0 (Below W0.heap.size W0 w') := fun w' h => ⟨(blk_cell ((h.block gB (blk_lt HB.out)).trans HB.out) 1).trans rfl, (blk_cell ((h.block gD (blk_lt HD.out)).trans HD.out) 1).trans rfl, (blk_cell ((h.block gA0 (blk_lt H0.out)).trans H0.out) 0).trans rfl, blk_frozen ((h.block gA0 (blk_lt H0.out)).trans H0.out) 0, ⟨h⟩⟩
  have hb0 := (Below.refl W0.heap.size W0).drew
  refine start_ (n := 8) (S := fun w' => w'.cell? ⟨gB, 1, none⟩ = some (.slice (some ⟨gD, 0, none⟩) 2 2) ∧ w'.cell? ⟨gD, 1, none⟩ = some (.slice (some ⟨gA0, 0, none⟩) 1 1) ∧ w'.cell? ⟨gA0, 0, none⟩ = some (.slice (some ⟨gC0, 0, none⟩) 1 1) ∧ w'.frozen? ⟨gA0, 0, none⟩ = false ∧ Aside0 (Below W0.heap.size W0 w')) (ds := [7]) #[false, false, false, false, false, false, false, false] (by kernel_rfl) rfl rfl ⟨(hSz _ hb0).1, (hSz _ hb0).2.1, (hSz _ hb0).2.2.1, (hSz _ hb0).2.2.2.1, (hSz _ hb0).2.2.2.2⟩ (fun hHeld => ?_)
  refine with_tabW bwr6.tab6 bwr6.bits6 (fun HT_ HW_ => ?_)
  refine pure_ (i := 0) (N := some 29) (v := ?_) (a' := ?_) #[true, false, false, false, false, false, false, false] rfl rfl (any_of HT_.out (by kernel_rfl)) (fun _ _ _ h => h) (Or.inl ⟨by rfl, ?_⟩) ?_ ?_
  rotate_left
  ·intro w'
   go_simp
   with_reducible rfl
  rotate_left
  ·simp only [Act.put, List.setIfInBounds_toArray, List.set_cons_zero, List.set_cons_succ, i64_w, i32_w]
   rfl
  refine take_ (i := 1) (N := some 30) (v := ?_) (a' := ?_) #[true, true, false, false, false, false, false, false] rfl rfl (take_ofW HT_.out HW_.out (by kernel_rfl)) (fun _ _ _ h => h) (Or.inl ⟨by rfl, ?_⟩) hHeld ?_ ?_
  rotate_left
  ·rintro w' ⟨s0, s1, s2, s3, s4⟩
   go_simp
   with_reducible rfl
  rotate_left
  ·simp only [Act.put, List.setIfInBounds_toArray, List.set_cons_zero, List.set_cons_succ, i64_w, i32_w]
   rfl
  refine pure_ (i := 2) (N := some 31) (v := ?_) (a' := ?_) #[true, true, true, false, false, false, false, false] rfl rfl (any_of HT_.out (by kernel_rfl)) (fun _ _ _ h => h) (Or.inl ⟨by rfl, ?_⟩) ?_ ?_
  rotate_left
  ·intro w'
   go_simp
   with_reducible rfl
  rotate_left
  ·simp only [Act.put, List.setIfInBounds_toArray, List.set_cons_zero, List.set_cons_succ, i64_w, i32_w]
   rfl
  refine pure_ (i := 3) (N := some 32) (v := ?_) (a' := ?_) #[true, true, true, true, false, false, false, false] rfl rfl (any_of HT_.out (by kernel_rfl)) (fun _ _ _ h => h) (Or.inl ⟨by rfl, ?_⟩) ?_ ?_
  rotate_left
  ·intro w'
   go_simp
   with_reducible rfl
  rotate_left
  ·simp only [Act.put, List.setIfInBounds_toArray, List.set_cons_zero, List.set_cons_succ, i64_w, i32_w]
   rfl
  refine take_ (i := 4) (N := some 33) (v := ?_) (a' := ?_) #[true, true, true, true, true, false, false, false] rfl rfl (take_ofW HT_.out HW_.out (by kernel_rfl)) (fun _ _ _ h => h) (Or.inl ⟨by rfl, ?_⟩) hHeld ?_ ?_
  rotate_left
  ·rintro w' ⟨s0, s1, s2, s3, s4⟩
   go_simp
   with_reducible rfl
  rotate_left
  ·simp only [Act.put, List.setIfInBounds_toArray, List.set_cons_zero, List.set_cons_succ, i64_w, i32_w]
   rfl
  refine one_ (i := 5) (N := some 34) #[true, true, true, true, true, true, false, false] rfl rfl (one_of HT_.out (by kernel_rfl)) (by decide) (fun K hK => ?_)
  refine Kd.R_make_step k64 (w0 := W0) W0.heap.size 64 (by rfl) rfl 65 (.const (.int .i64 9)) (.const (.int .i64 9)) rfl 9 rfl rfl Try.underlying65 (.agg #[.bool false, .slice none 0 0]) 32 bw_info64 rfl (by decide) (by decide) ⟨false, []⟩ (ok := fun _ => True) (okp := fun _ => True) (k64_mkM _ _ _ ⟨false, []⟩ (Kd.R_nil _ _ _ _ _)) (fun _ _ => trivial) trivial (by decide) (by decide) hb0 hb0.size ?_
  intro v1 w1 ho hb hg hat
  rw [show (9 : Int).toNat = 9 from rfl] at ho
  obtain ⟨Am, cm, e1⟩ := Kd.R_slice ho
  rw [List.length_replicate] at e1
  subst e1
  refine hK.out _ _ ⟨(hSz _ hb).1, (hSz _ hb).2.1, (hSz _ hb).2.2.1, (hSz _ hb).2.2.2.1, (hSz _ hb).2.2.2.2⟩ (fun hHeld => ?_)
  clear hK K
  refine norm_ (a' := ?_) ?_ ?_
  rotate_left
  ·show Act.put _ (some 34) _ = _
   simp only [Act.put, List.setIfInBounds_toArray, List.set_cons_zero, List.set_cons_succ, i64_w, i32_w]
   rfl
  refine pure_ (i := 6) (N := some 35) (v := ?_) (a' := ?_) #[true, true, true, true, true, true, true, false] rfl rfl (any_of HT_.out (by kernel_rfl)) (fun _ _ _ h => h) (Or.inl ⟨by rfl, ?_⟩) ?_ ?_
  rotate_left
  ·intro w'
   go_simp
   with_reducible rfl
  rotate_left
  ·simp only [Act.put, List.setIfInBounds_toArray, List.set_cons_zero, List.set_cons_succ, i64_w, i32_w]
   rfl
  refine last_ (i := 7) (N := none) #[true, true, true, true, true, true, true, true] rfl rfl (one_of HT_.out (by kernel_rfl)) (by decide) (fun K hK => ?_)
  have q0 := hHeld.2.2.1
  have q1 := hHeld.2.2.2.1
  refine skip_ (w1 := ?_) (by rfl) rfl ?_ ?_
  rotate_left
  ·go_simp
   rfl
  refine hK.out _ _ ?_
  clear hK K
  refine done_ (done_of HT_.out (by kernel_rfl)) ?_
  have hlt0 := blk_lt H0.out
  have hXn := Kd.F_mono (ok' := fun k => W0.heap.size ≤ k) (Kd.F_far (p := ⟨gA0, 0, none⟩) (Kd.R_F (Kd.R_mono (Kd.R_bound ho) (fun k hk => hk.2.1))) (fun k hk => by show k ≠ gA0; have : W0.heap.size ≤ k := hk; omega) (.slice Am 9 cm)) (fun k hk => hk)
  have hXl := (Kd.R_reads' ho).2.1
  have lts := And.intro (blk_lt HS.out) (And.intro (blk_lt HI.out) (And.intro (blk_lt HC.out) (And.intro (blk_lt HD.out) (blk_lt HB.out))))
  have hXm := Aside0.mk (And.intro (Kd.F_mono (ok' := fun k => k ≠ gS ∧ k ≠ gI1 ∧ k ≠ gC1 ∧ k ≠ gD ∧ k ≠ gB) hXn (fun k hk => by have : W0.heap.size ≤ k := hk; obtain ⟨l1, l2, l3, l4, l5⟩ := lts; exact ⟨by omega, by omega, by omega, by omega, by omega⟩)) hXl)
  have mB := Aside0.mk (blk_far ((hb.block gB (blk_lt HB.out)).trans HB.out) (p := ⟨gA0, 0, none⟩) (by show gB ≠ gA0; omega) (.slice Am 9 cm))
  have mS := Aside0.mk (blk_far ((hb.block gS (blk_lt HS.out)).trans HS.out) (p := ⟨gA0, 0, none⟩) (by show gS ≠ gA0; omega) (.slice Am 9 cm))
  have mD := Aside0.mk (blk_far ((hb.block gD (blk_lt HD.out)).trans HD.out) (p := ⟨gA0, 0, none⟩) (by show gD ≠ gA0; omega) (.slice Am 9 cm))
  have mA0 := Aside0.mk (blk_put ((hb.block gA0 (blk_lt H0.out)).trans H0.out) 0 (.slice Am 9 cm) rfl)
  have mA1 := Aside0.mk (blk_far ((hb.block gA1 (blk_lt H1.out)).trans H1.out) (p := ⟨gA0, 0, none⟩) (by show gA1 ≠ gA0; omega) (.slice Am 9 cm))
  have mC1 := Aside0.mk (blk_far ((hb.block gC1 (blk_lt HC.out)).trans HC.out) (p := ⟨gA0, 0, none⟩) (by show gC1 ≠ gA0; omega) (.slice Am 9 cm))
  have mI := Aside0.mk (blk_far ((hb.block gI1 (blk_lt HI.out)).trans HI.out) (p := ⟨gA0, 0, none⟩) (by show gI1 ≠ gA0; omega) (.slice Am 9 cm))
  have mW := Aside0.mk (HW.out.trans (hb.mono HW.out.size) |>.setCell (p := ⟨gA0, 0, none⟩) (by show w.heap.size ≤ gA0; omega) (.slice Am 9 cm))
  clear HB HS HD H0 H1 HC HI HW HX hXn hXl lts hlt0 hSz hb0 HT_ HW_ hHeld q0 q1 ho hb hg hat
  generalize w1.setCell ⟨gA0, 0, none⟩ (.slice Am 9 cm) = W1 at *
  have HB1 := mB
  have HS1 := mS
  have HD1 := mD
  have HA01 := mA0
  have HA11 := mA1
  have HC11 := mC1
  have HI1 := mI
  have HW := mW
  clear mW mB mS mD mA0 mA1 mC1 mI
  have hXc := hXm.out.2
  have hXc : 9 ≤ cm := hXc
  have HX1 := Aside0.mk hXm.out.1
  clear hXm
  have hXC := Aside0.mk hXc
  clear hXc
  cases b8
  ·skip
   cases b4
   ·skip
    cases b2
    ·skip
     cases b1
     ·skip
      go_upto_region 24 with (fail)
      have cS : Kd.C Kd.string W1 (some ⟨gS, 0, none⟩) [(⟨#[83]⟩ : ByteArray)].length [⟨#[83]⟩] := C_lit HS1.out (Reps.one rfl (Reps.none _ _)) (by decide)
      have lS : [(⟨#[83]⟩ : ByteArray)].length ≤ 1 := Nat.le_refl _
      have cI := bw_item HI1.out
      have lI : (1 : Nat) ≤ 1 := Nat.le_refl _
      have cX := Kd.F_now HX1.out
      have lX := hXC.out
      have kD := bw_defs HA01.out HC11.out HA11.out cX rfl lX cI rfl lI
      have cD : Kd.C k45 W1 (some ⟨gD, 0, none⟩) ([⟨⟨#[83]⟩, [(List.replicate 9 ⟨false, []⟩)]⟩, ⟨⟨#[84]⟩, [[⟨false, [⟨2, ⟨#[]⟩, 1, 2⟩]⟩]]⟩] : List S45).length [⟨⟨#[83]⟩, [(List.replicate 9 ⟨false, []⟩)]⟩, ⟨⟨#[84]⟩, [[⟨false, [⟨2, ⟨#[]⟩, 1, 2⟩]⟩]]⟩] := C_lit HD1.out (Reps.c2 kD.1 (Reps.c2 kD.2 (Reps.none _ _))) (by decide)
      have lD : (2 : Nat) ≤ 2 := Nat.le_refl _
      have FB2 := Aside0.mk (show gram_Build.f k [⟨#[83]⟩] [⟨⟨#[83]⟩, [(List.replicate 9 ⟨false, []⟩)]⟩, ⟨⟨#[84]⟩, [[⟨false, [⟨2, ⟨#[]⟩, 1, 2⟩]⟩]]⟩] = some (r1, r2, r3, ⟨#[]⟩, 404) from FB.out)
      have tl := (show (r2.length = 2 ↔ (404 : Int) = 0) from FL.out)
      have tL : ((r2.length : Int) == 2) = false := by rw [beq_eq_false_iff_ne]; intro h9; exact absurd (tl.1 (by omega)) (by decide)
      have k0 : W1.cell? ⟨gB, 0, none⟩ = some (.slice (some ⟨gS, 0, none⟩) 1 1) := (blk_cell HB1.out 0).trans rfl
      have k1 : W1.cell? ⟨gB, 1, none⟩ = some (.slice (some ⟨gD, 0, none⟩) 2 2) := (blk_cell HB1.out 1).trans rfl
      have Z := Aside0.mk (And.intro cS (And.intro lS (And.intro cD (And.intro lD HW.out))))
      clear cS lS cD lD cI lI cX lX kD tl FB FL
      go_wp2_with (first | (go_at_call 14; (with_reducible refine (templelaw0_Num.calls 404 404 _ (bw_num 404)).mono ?_); rintro e w' ⟨rfl, ⟨nd, rfl⟩⟩) | (go_at_call 11; refine (gram_Build.calls k _ _ [⟨#[83]⟩] _ _ [⟨⟨#[83]⟩, [(List.replicate 9 ⟨false, []⟩)]⟩, ⟨⟨#[84]⟩, [[⟨false, [⟨2, ⟨#[]⟩, 1, 2⟩]⟩]]⟩] r1 r2 r3 ⟨#[]⟩ 404 _ Z.out.1 Z.out.2.1 Z.out.2.2.1 Z.out.2.2.2.1 FB2.out).mono ?_; rintro e w2 ⟨v1, v2, rfl, h1, h2, hbq⟩; (obtain ⟨Aq, cq, rfl⟩ := Kd.R_slice h1); (obtain ⟨Ar, cr, rfl⟩ := Kd.R_slice h2); have Y := Aside0.mk hbq; clear h1 h2 hbq))
      go_ret
      exact ⟨by first | rfl | simp | simp [tL], pw_below_drewN (below_alloc (Z.out.2.2.2.2.trans (Y.out.mono Z.out.2.2.2.2.size)) _) _⟩
     ·skip
      go_upto_region 21 with (fail)
      have k0 : W1.cell? ⟨gB, 1, none⟩ = some (.slice (some ⟨gD, 0, none⟩) 2 2) := (blk_cell HB1.out 1).trans rfl
      have kg : W1.cell? ⟨gB, 0, none⟩ = some (.slice (some ⟨gS, 0, none⟩) 1 1) := (blk_cell HB1.out 0).trans rfl
      have hal := below_alloc (Below.refl W1.heap.size W1) (.cells #[.string ⟨#[84]⟩, .slice none 0 0, .string ⟨#[83]⟩, .slice none 0 0] 45)
      have hRD := Aside0.mk (bw_row (d := Kd.raw 2) (base := w.heap.size) (n := 2) (xs := [[.string ⟨#[83]⟩, .slice (some ⟨gA0, 0, none⟩) 1 1], [.string ⟨#[84]⟩, .slice (some ⟨gA1, 0, none⟩) 1 1]]) (blk_alloc HD1.out (.cells #[.string ⟨#[84]⟩, .slice none 0 0, .string ⟨#[83]⟩, .slice none 0 0] 45)) (by omega) rfl (bw_raw (w := w)) (by simp))
      have hRL := Aside0.mk (C_lit (d := Kd.raw 2) (xs := [[.string ⟨#[84]⟩, .slice none 0 0], [.string ⟨#[83]⟩, .slice none 0 0]]) (blk_new W1 (.cells #[.string ⟨#[84]⟩, .slice none 0 0, .string ⟨#[83]⟩, .slice none 0 0] 45)) (Reps.c2 ⟨rfl, rfl, by simp [Value.oneCell']⟩ (Reps.c2 ⟨rfl, rfl, by simp [Value.oneCell']⟩ (Reps.none _ _))) (by decide))
      have hlt := Aside0.mk (below_alloc HW.out (.cells #[.string ⟨#[84]⟩, .slice none 0 0, .string ⟨#[83]⟩, .slice none 0 0] 45))
      go_upto_region 22 with (first | ((with_reducible refine gate_builtin (b := .append) (xs := #[.tmp 88, .tmp 91]) rfl ?_); at_builtin; refine Kd.R_append_rows (Kd.raw 2) (w0 := w) w.heap.size rfl (.tmp 88) (.tmp 91) 23 45 (.agg #[.string ⟨#[]⟩, .slice none 0 0]) 40 rfl Try.underlying23 bw_info45 rfl (by decide) (by omega) (.slice (some ⟨gD, 0, none⟩) 2 2) [[.string ⟨#[83]⟩, .slice (some ⟨gA0, 0, none⟩) 1 1], [.string ⟨#[84]⟩, .slice (some ⟨gA1, 0, none⟩) 1 1]] [[.string ⟨#[84]⟩, .slice none 0 0], [.string ⟨#[83]⟩, .slice none 0 0]] _ _ _ (fun _ => True) (fun _ => False) rfl rfl (Kd.R_mono hRD.out (fun _ _ => trivial)) hRL.out (fun _ _ h => h) (fun _ h => h.elim) (fun _ _ => trivial) hlt.out hlt.out.size (by simp) ?_; intro v1 w1 ho hb hg hat; (obtain ⟨Ad, cd, e1⟩ := Kd.R_slice ho); subst e1; have hmv := fun (g : Nat) (cs : Array Value) (e : Nat) (h : W1.heap[g]? = some (.cells cs e (0, 0))) (hn : g ≠ gD) => (hg.block g (blk_lt ((hal.block g (blk_lt h)).trans h)) (by simp [Value.ownBlock]; exact hn)).trans ((hal.block g (blk_lt h)).trans h); have ps := (blk_cell (hmv gB _ _ HB1.out (by omega)) 1).trans rfl; have pf := blk_frozen (hmv gB _ _ HB1.out (by omega)) 1))
      have hDn := Aside0.mk (RowT.set (RowT.of rfl ho) (hmv gB _ _ HB1.out (by omega)) (by decide) 1 (.slice Ad 4 cd))
      have hRW := Aside0.mk hRD.out
      have mB := Aside0.mk (blk_put (hmv gB _ _ HB1.out (by omega)) 1 (.slice Ad 4 cd) rfl)
      have mS := Aside0.mk (blk_far (hmv gS _ _ HS1.out (by omega)) (p := ⟨gB, 1, none⟩) (by show gS ≠ gB; omega) (.slice Ad 4 cd))
      have mA0 := Aside0.mk (blk_far (hmv gA0 _ _ HA01.out (by omega)) (p := ⟨gB, 1, none⟩) (by show gA0 ≠ gB; omega) (.slice Ad 4 cd))
      have mA1 := Aside0.mk (blk_far (hmv gA1 _ _ HA11.out (by omega)) (p := ⟨gB, 1, none⟩) (by show gA1 ≠ gB; omega) (.slice Ad 4 cd))
      have mC1 := Aside0.mk (blk_far (hmv gC1 _ _ HC11.out (by omega)) (p := ⟨gB, 1, none⟩) (by show gC1 ≠ gB; omega) (.slice Ad 4 cd))
      have mI := Aside0.mk (blk_far (hmv gI1 _ _ HI1.out (by omega)) (p := ⟨gB, 1, none⟩) (by show gI1 ≠ gB; omega) (.slice Ad 4 cd))
      have mX := Aside0.mk (Kd.F_far (Kd.F_grown (Kd.F_below HX1.out hal) hg (fun k hk he => hk.2.2.2.1 (by simpa [Value.ownBlock] using he))) (p := ⟨gB, 1, none⟩) (fun k hk => hk.2.2.2.2) (.slice Ad 4 cd))
      have mW := Aside0.mk (hb.setCell (p := ⟨gB, 1, none⟩) (by show w.heap.size ≤ gB; omega) (.slice Ad 4 cd))
      clear HB1 HS1 HA01 HA11 HC11 HI1 HX1 HW HD1 hRD hRL hRW hlt hmv hal k0 kg ps pf ho hb hg hat
      generalize w1.setCell ⟨gB, 1, none⟩ (.slice Ad 4 cd) = W2 at *
      have HB2 := mB
      have HS2 := mS
      have HA02 := mA0
      have HA12 := mA1
      have HC12 := mC1
      have HI2 := mI
      have HX2 := mX
      have HW := mW
      clear mW mB mS mA0 mA1 mC1 mI mX
      go_upto_region 24 with (fail)
      have cS : Kd.C Kd.string W2 (some ⟨gS, 0, none⟩) [(⟨#[83]⟩ : ByteArray)].length [⟨#[83]⟩] := C_lit HS2.out (Reps.one rfl (Reps.none _ _)) (by decide)
      have lS : [(⟨#[83]⟩ : ByteArray)].length ≤ 1 := Nat.le_refl _
      have cI := bw_item HI2.out
      have lI : (1 : Nat) ≤ 1 := Nat.le_refl _
      have cX := Kd.F_now HX2.out
      have lX := hXC.out
      have kD := bw_defs HA02.out HC12.out HA12.out cX rfl lX cI rfl lI
      have kM := bw_more W2
      have cD := rows_C (d := k45) (xs := [⟨⟨#[83]⟩, [(List.replicate 9 ⟨false, []⟩)]⟩, ⟨⟨#[84]⟩, [[⟨false, [⟨2, ⟨#[]⟩, 1, 2⟩]⟩]]⟩]) (ys := [⟨⟨#[84]⟩, []⟩, ⟨⟨#[83]⟩, []⟩]) rfl rfl (Kd.R_reads' hDn.out).2.2 (bw_two kD.1 kD.2) (bw_two kM.1 kM.2)
      have lD := (Kd.R_reads' hDn.out).2.1
      have FB2 := Aside0.mk (show gram_Build.f k [⟨#[83]⟩] [⟨⟨#[83]⟩, [(List.replicate 9 ⟨false, []⟩)]⟩, ⟨⟨#[84]⟩, [[⟨false, [⟨2, ⟨#[]⟩, 1, 2⟩]⟩]]⟩, ⟨⟨#[84]⟩, []⟩, ⟨⟨#[83]⟩, []⟩] = some (r1, r2, r3, ⟨#[84]⟩, 401) from FB.out)
      have tl := (show (r2.length = 2 ↔ (401 : Int) = 0) from FL.out)
      have tL : ((r2.length : Int) == 2) = false := by rw [beq_eq_false_iff_ne]; intro h9; exact absurd (tl.1 (by omega)) (by decide)
      have k0 : W2.cell? ⟨gB, 0, none⟩ = some (.slice (some ⟨gS, 0, none⟩) 1 1) := (blk_cell HB2.out 0).trans rfl
      have k1 : W2.cell? ⟨gB, 1, none⟩ = some (.slice Ad 4 cd) := (blk_cell HB2.out 1).trans rfl
      have Z := Aside0.mk (And.intro cS (And.intro lS (And.intro cD (And.intro lD HW.out))))
      clear cS lS cD lD cI lI cX lX kD tl FB FL kM
      go_wp2_with (first | (go_at_call 14; (with_reducible refine (templelaw0_Num.calls 401 401 _ (bw_num 401)).mono ?_); rintro e w' ⟨rfl, ⟨nd, rfl⟩⟩) | (go_at_call 11; refine (gram_Build.calls k _ _ [⟨#[83]⟩] _ _ [⟨⟨#[83]⟩, [(List.replicate 9 ⟨false, []⟩)]⟩, ⟨⟨#[84]⟩, [[⟨false, [⟨2, ⟨#[]⟩, 1, 2⟩]⟩]]⟩, ⟨⟨#[84]⟩, []⟩, ⟨⟨#[83]⟩, []⟩] r1 r2 r3 ⟨#[84]⟩ 401 _ Z.out.1 Z.out.2.1 Z.out.2.2.1 Z.out.2.2.2.1 FB2.out).mono ?_; rintro e w2 ⟨v1, v2, rfl, h1, h2, hbq⟩; (obtain ⟨Aq, cq, rfl⟩ := Kd.R_slice h1); (obtain ⟨Ar, cr, rfl⟩ := Kd.R_slice h2); have Y := Aside0.mk hbq; clear h1 h2 hbq))
      go_ret
      exact ⟨by first | rfl | simp | simp [tL], pw_below_drewN (below_alloc (Z.out.2.2.2.2.trans (Y.out.mono Z.out.2.2.2.2.size)) _) _⟩
    ·skip
     go_upto_region 17 with (fail)
     have k0 : W1.cell? ⟨gB, 0, none⟩ = some (.slice (some ⟨gS, 0, none⟩) 1 1) := (blk_cell HB1.out 0).trans rfl
     have kg : W1.cell? ⟨gB, 1, none⟩ = some (.slice (some ⟨gD, 0, none⟩) 2 2) := (blk_cell HB1.out 1).trans rfl
     have kf := blk_frozen HB1.out 0
     have hRS := Aside0.mk (bw_row (d := Kd.string) (base := w.heap.size) (n := 1) (xs := [⟨#[83]⟩]) HS1.out (by omega) rfl (Reps.one rfl (Reps.none _ _)) (by decide))
     go_upto_region 18 with (first | ((with_reducible refine gate_builtin (b := .append) (xs := #[.tmp 80, .tmp 81]) rfl ?_); at_builtin; refine Kd.R_append Kd.string (w0 := w) (W := W1) w.heap.size rfl (.tmp 80) (.tmp 81) 22 9 (.string ⟨#[]⟩) 16 rfl Try.underlying22 bw_info9 rfl (by decide) (by omega) (.slice (some ⟨gS, 0, none⟩) 1 1) [⟨#[83]⟩] ⟨#[83]⟩ [.string ⟨#[83]⟩] (fun _ => True) (fun _ => False) rfl (by first | (go_simp; done) | (go_simp; rfl)) rfl (fun _ hk => hk.elim) (fun _ _ => trivial) (Kd.R_mono hRS.out (fun _ _ => trivial)) HW.out HW.out.size (by simp) ?_; intro v1 w1 ho hb hg hat; (obtain ⟨As, cs, e1⟩ := Kd.R_slice ho); subst e1; have hmv := fun (g : Nat) (cs : Array Value) (e : Nat) (h : W1.heap[g]? = some (.cells cs e (0, 0))) (hn : g ≠ gS) => (hg.block g (blk_lt h) (by simp [Value.ownBlock]; exact hn)).trans h; have ps := (blk_cell (hmv gB _ _ HB1.out (by omega)) 0).trans rfl; have pf := blk_frozen (hmv gB _ _ HB1.out (by omega)) 0))
     have hSn := Aside0.mk (RowT.set (RowT.of rfl ho) (hmv gB _ _ HB1.out (by omega)) (by decide) 0 (.slice As 2 cs))
     have mB := Aside0.mk (blk_put (hmv gB _ _ HB1.out (by omega)) 0 (.slice As 2 cs) rfl)
     have mD := Aside0.mk (blk_far (hmv gD _ _ HD1.out (by omega)) (p := ⟨gB, 0, none⟩) (by show gD ≠ gB; omega) (.slice As 2 cs))
     have mA0 := Aside0.mk (blk_far (hmv gA0 _ _ HA01.out (by omega)) (p := ⟨gB, 0, none⟩) (by show gA0 ≠ gB; omega) (.slice As 2 cs))
     have mA1 := Aside0.mk (blk_far (hmv gA1 _ _ HA11.out (by omega)) (p := ⟨gB, 0, none⟩) (by show gA1 ≠ gB; omega) (.slice As 2 cs))
     have mC1 := Aside0.mk (blk_far (hmv gC1 _ _ HC11.out (by omega)) (p := ⟨gB, 0, none⟩) (by show gC1 ≠ gB; omega) (.slice As 2 cs))
     have mI := Aside0.mk (blk_far (hmv gI1 _ _ HI1.out (by omega)) (p := ⟨gB, 0, none⟩) (by show gI1 ≠ gB; omega) (.slice As 2 cs))
     have mX := Aside0.mk (Kd.F_far (Kd.F_grown HX1.out hg (fun k hk he => hk.1 (by simpa [Value.ownBlock] using he))) (p := ⟨gB, 0, none⟩) (fun k hk => hk.2.2.2.2) (.slice As 2 cs))
     have mW := Aside0.mk (hb.setCell (p := ⟨gB, 0, none⟩) (by show w.heap.size ≤ gB; omega) (.slice As 2 cs))
     clear HB1 HD1 HA01 HA11 HC11 HI1 HX1 HW HS1 hRS hmv k0 kg kf ps pf ho hb hg hat
     generalize w1.setCell ⟨gB, 0, none⟩ (.slice As 2 cs) = W2 at *
     have HB2 := mB
     have HD2 := mD
     have HA02 := mA0
     have HA12 := mA1
     have HC12 := mC1
     have HI2 := mI
     have HX2 := mX
     have HW := mW
     clear mW mB mD mA0 mA1 mC1 mI mX
     cases b1
     ·skip
      go_upto_region 24 with (fail)
      have cS := (Kd.R_reads' hSn.out).2.2
      have lS := (Kd.R_reads' hSn.out).2.1
      have cI := bw_item HI2.out
      have lI : (1 : Nat) ≤ 1 := Nat.le_refl _
      have cX := Kd.F_now HX2.out
      have lX := hXC.out
      have kD := bw_defs HA02.out HC12.out HA12.out cX rfl lX cI rfl lI
      have cD : Kd.C k45 W2 (some ⟨gD, 0, none⟩) ([⟨⟨#[83]⟩, [(List.replicate 9 ⟨false, []⟩)]⟩, ⟨⟨#[84]⟩, [[⟨false, [⟨2, ⟨#[]⟩, 1, 2⟩]⟩]]⟩] : List S45).length [⟨⟨#[83]⟩, [(List.replicate 9 ⟨false, []⟩)]⟩, ⟨⟨#[84]⟩, [[⟨false, [⟨2, ⟨#[]⟩, 1, 2⟩]⟩]]⟩] := C_lit HD2.out (Reps.c2 kD.1 (Reps.c2 kD.2 (Reps.none _ _))) (by decide)
      have lD : (2 : Nat) ≤ 2 := Nat.le_refl _
      have FB2 := Aside0.mk (show gram_Build.f k [⟨#[83]⟩, ⟨#[83]⟩] [⟨⟨#[83]⟩, [(List.replicate 9 ⟨false, []⟩)]⟩, ⟨⟨#[84]⟩, [[⟨false, [⟨2, ⟨#[]⟩, 1, 2⟩]⟩]]⟩] = some (r1, r2, r3, ⟨#[]⟩, 400) from FB.out)
      have tl := (show (r2.length = 2 ↔ (400 : Int) = 0) from FL.out)
      have tL : ((r2.length : Int) == 2) = false := by rw [beq_eq_false_iff_ne]; intro h9; exact absurd (tl.1 (by omega)) (by decide)
      have k0 : W2.cell? ⟨gB, 0, none⟩ = some (.slice As 2 cs) := (blk_cell HB2.out 0).trans rfl
      have k1 : W2.cell? ⟨gB, 1, none⟩ = some (.slice (some ⟨gD, 0, none⟩) 2 2) := (blk_cell HB2.out 1).trans rfl
      have Z := Aside0.mk (And.intro cS (And.intro lS (And.intro cD (And.intro lD HW.out))))
      clear cS lS cD lD cI lI cX lX kD tl FB FL
      go_wp2_with (first | (go_at_call 14; (with_reducible refine (templelaw0_Num.calls 400 400 _ (bw_num 400)).mono ?_); rintro e w' ⟨rfl, ⟨nd, rfl⟩⟩) | (go_at_call 11; refine (gram_Build.calls k _ _ [⟨#[83]⟩, ⟨#[83]⟩] _ _ [⟨⟨#[83]⟩, [(List.replicate 9 ⟨false, []⟩)]⟩, ⟨⟨#[84]⟩, [[⟨false, [⟨2, ⟨#[]⟩, 1, 2⟩]⟩]]⟩] r1 r2 r3 ⟨#[]⟩ 400 _ Z.out.1 Z.out.2.1 Z.out.2.2.1 Z.out.2.2.2.1 FB2.out).mono ?_; rintro e w2 ⟨v1, v2, rfl, h1, h2, hbq⟩; (obtain ⟨Aq, cq, rfl⟩ := Kd.R_slice h1); (obtain ⟨Ar, cr, rfl⟩ := Kd.R_slice h2); have Y := Aside0.mk hbq; clear h1 h2 hbq))
      go_ret
      exact ⟨by first | rfl | simp | simp [tL], pw_below_drewN (below_alloc (Z.out.2.2.2.2.trans (Y.out.mono Z.out.2.2.2.2.size)) _) _⟩
     ·skip
      go_upto_region 21 with (fail)
      have k0 : W2.cell? ⟨gB, 1, none⟩ = some (.slice (some ⟨gD, 0, none⟩) 2 2) := (blk_cell HB2.out 1).trans rfl
      have kg : W2.cell? ⟨gB, 0, none⟩ = some (.slice As 2 cs) := (blk_cell HB2.out 0).trans rfl
      have hal := below_alloc (Below.refl W2.heap.size W2) (.cells #[.string ⟨#[84]⟩, .slice none 0 0, .string ⟨#[83]⟩, .slice none 0 0] 45)
      have hRD := Aside0.mk (bw_row (d := Kd.raw 2) (base := w.heap.size) (n := 2) (xs := [[.string ⟨#[83]⟩, .slice (some ⟨gA0, 0, none⟩) 1 1], [.string ⟨#[84]⟩, .slice (some ⟨gA1, 0, none⟩) 1 1]]) (blk_alloc HD2.out (.cells #[.string ⟨#[84]⟩, .slice none 0 0, .string ⟨#[83]⟩, .slice none 0 0] 45)) (by omega) rfl (bw_raw (w := w)) (by simp))
      have hRL := Aside0.mk (C_lit (d := Kd.raw 2) (xs := [[.string ⟨#[84]⟩, .slice none 0 0], [.string ⟨#[83]⟩, .slice none 0 0]]) (blk_new W2 (.cells #[.string ⟨#[84]⟩, .slice none 0 0, .string ⟨#[83]⟩, .slice none 0 0] 45)) (Reps.c2 ⟨rfl, rfl, by simp [Value.oneCell']⟩ (Reps.c2 ⟨rfl, rfl, by simp [Value.oneCell']⟩ (Reps.none _ _))) (by decide))
      have hlt := Aside0.mk (below_alloc HW.out (.cells #[.string ⟨#[84]⟩, .slice none 0 0, .string ⟨#[83]⟩, .slice none 0 0] 45))
      go_upto_region 22 with (first | ((with_reducible refine gate_builtin (b := .append) (xs := #[.tmp 88, .tmp 91]) rfl ?_); at_builtin; refine Kd.R_append_rows (Kd.raw 2) (w0 := w) w.heap.size rfl (.tmp 88) (.tmp 91) 23 45 (.agg #[.string ⟨#[]⟩, .slice none 0 0]) 40 rfl Try.underlying23 bw_info45 rfl (by decide) (by omega) (.slice (some ⟨gD, 0, none⟩) 2 2) [[.string ⟨#[83]⟩, .slice (some ⟨gA0, 0, none⟩) 1 1], [.string ⟨#[84]⟩, .slice (some ⟨gA1, 0, none⟩) 1 1]] [[.string ⟨#[84]⟩, .slice none 0 0], [.string ⟨#[83]⟩, .slice none 0 0]] _ _ _ (fun _ => True) (fun _ => False) rfl rfl (Kd.R_mono hRD.out (fun _ _ => trivial)) hRL.out (fun _ _ h => h) (fun _ h => h.elim) (fun _ _ => trivial) hlt.out hlt.out.size (by simp) ?_; intro v1 w1 ho hb hg hat; (obtain ⟨Ad, cd, e1⟩ := Kd.R_slice ho); subst e1; have hmv := fun (g : Nat) (cs : Array Value) (e : Nat) (h : W2.heap[g]? = some (.cells cs e (0, 0))) (hn : g ≠ gD) => (hg.block g (blk_lt ((hal.block g (blk_lt h)).trans h)) (by simp [Value.ownBlock]; exact hn)).trans ((hal.block g (blk_lt h)).trans h); have ps := (blk_cell (hmv gB _ _ HB2.out (by omega)) 1).trans rfl; have pf := blk_frozen (hmv gB _ _ HB2.out (by omega)) 1))
      have hDn := Aside0.mk (RowT.set (RowT.of rfl ho) (hmv gB _ _ HB2.out (by omega)) (by decide) 1 (.slice Ad 4 cd))
      have hRW := Aside0.mk hRD.out
      have mB := Aside0.mk (blk_put (hmv gB _ _ HB2.out (by omega)) 1 (.slice Ad 4 cd) rfl)
      have mA0 := Aside0.mk (blk_far (hmv gA0 _ _ HA02.out (by omega)) (p := ⟨gB, 1, none⟩) (by show gA0 ≠ gB; omega) (.slice Ad 4 cd))
      have mA1 := Aside0.mk (blk_far (hmv gA1 _ _ HA12.out (by omega)) (p := ⟨gB, 1, none⟩) (by show gA1 ≠ gB; omega) (.slice Ad 4 cd))
      have mC1 := Aside0.mk (blk_far (hmv gC1 _ _ HC12.out (by omega)) (p := ⟨gB, 1, none⟩) (by show gC1 ≠ gB; omega) (.slice Ad 4 cd))
      have mI := Aside0.mk (blk_far (hmv gI1 _ _ HI2.out (by omega)) (p := ⟨gB, 1, none⟩) (by show gI1 ≠ gB; omega) (.slice Ad 4 cd))
      have mX := Aside0.mk (Kd.F_far (Kd.F_grown (Kd.F_below HX2.out hal) hg (fun k hk he => hk.2.2.2.1 (by simpa [Value.ownBlock] using he))) (p := ⟨gB, 1, none⟩) (fun k hk => hk.2.2.2.2) (.slice Ad 4 cd))
      have mS := Aside0.mk (RowT.set (RowT.other (RowT.box hSn.out hal) (RowT.of rfl hRD.out) (by decide) hg) (hmv gB _ _ HB2.out (by omega)) (by decide) 1 (.slice Ad 4 cd))
      have mW := Aside0.mk (hb.setCell (p := ⟨gB, 1, none⟩) (by show w.heap.size ≤ gB; omega) (.slice Ad 4 cd))
      clear HB2 HA02 HA12 HC12 HI2 HX2 hSn HW HD2 hRD hRL hRW hlt hmv hal k0 kg ps pf ho hb hg hat
      generalize w1.setCell ⟨gB, 1, none⟩ (.slice Ad 4 cd) = W3 at *
      have HB3 := mB
      have HA03 := mA0
      have HA13 := mA1
      have HC13 := mC1
      have HI3 := mI
      have HX3 := mX
      have HS3 := mS
      have HW := mW
      clear mW mB mA0 mA1 mC1 mI mX mS
      go_upto_region 24 with (fail)
      have cS := (Kd.R_reads' HS3.out).2.2
      have lS := (Kd.R_reads' HS3.out).2.1
      have cI := bw_item HI3.out
      have lI : (1 : Nat) ≤ 1 := Nat.le_refl _
      have cX := Kd.F_now HX3.out
      have lX := hXC.out
      have kD := bw_defs HA03.out HC13.out HA13.out cX rfl lX cI rfl lI
      have kM := bw_more W3
      have cD := rows_C (d := k45) (xs := [⟨⟨#[83]⟩, [(List.replicate 9 ⟨false, []⟩)]⟩, ⟨⟨#[84]⟩, [[⟨false, [⟨2, ⟨#[]⟩, 1, 2⟩]⟩]]⟩]) (ys := [⟨⟨#[84]⟩, []⟩, ⟨⟨#[83]⟩, []⟩]) rfl rfl (Kd.R_reads' hDn.out).2.2 (bw_two kD.1 kD.2) (bw_two kM.1 kM.2)
      have lD := (Kd.R_reads' hDn.out).2.1
      have FB2 := Aside0.mk (show gram_Build.f k [⟨#[83]⟩, ⟨#[83]⟩] [⟨⟨#[83]⟩, [(List.replicate 9 ⟨false, []⟩)]⟩, ⟨⟨#[84]⟩, [[⟨false, [⟨2, ⟨#[]⟩, 1, 2⟩]⟩]]⟩, ⟨⟨#[84]⟩, []⟩, ⟨⟨#[83]⟩, []⟩] = some (r1, r2, r3, ⟨#[84]⟩, 401) from FB.out)
      have tl := (show (r2.length = 2 ↔ (401 : Int) = 0) from FL.out)
      have tL : ((r2.length : Int) == 2) = false := by rw [beq_eq_false_iff_ne]; intro h9; exact absurd (tl.1 (by omega)) (by decide)
      have k0 : W3.cell? ⟨gB, 0, none⟩ = some (.slice As 2 cs) := (blk_cell HB3.out 0).trans rfl
      have k1 : W3.cell? ⟨gB, 1, none⟩ = some (.slice Ad 4 cd) := (blk_cell HB3.out 1).trans rfl
      have Z := Aside0.mk (And.intro cS (And.intro lS (And.intro cD (And.intro lD HW.out))))
      clear cS lS cD lD cI lI cX lX kD tl FB FL kM
      go_wp2_with (first | (go_at_call 14; (with_reducible refine (templelaw0_Num.calls 401 401 _ (bw_num 401)).mono ?_); rintro e w' ⟨rfl, ⟨nd, rfl⟩⟩) | (go_at_call 11; refine (gram_Build.calls k _ _ [⟨#[83]⟩, ⟨#[83]⟩] _ _ [⟨⟨#[83]⟩, [(List.replicate 9 ⟨false, []⟩)]⟩, ⟨⟨#[84]⟩, [[⟨false, [⟨2, ⟨#[]⟩, 1, 2⟩]⟩]]⟩, ⟨⟨#[84]⟩, []⟩, ⟨⟨#[83]⟩, []⟩] r1 r2 r3 ⟨#[84]⟩ 401 _ Z.out.1 Z.out.2.1 Z.out.2.2.1 Z.out.2.2.2.1 FB2.out).mono ?_; rintro e w2 ⟨v1, v2, rfl, h1, h2, hbq⟩; (obtain ⟨Aq, cq, rfl⟩ := Kd.R_slice h1); (obtain ⟨Ar, cr, rfl⟩ := Kd.R_slice h2); have Y := Aside0.mk hbq; clear h1 h2 hbq))
      go_ret
      exact ⟨by first | rfl | simp | simp [tL], pw_below_drewN (below_alloc (Z.out.2.2.2.2.trans (Y.out.mono Z.out.2.2.2.2.size)) _) _⟩
   ·skip
    go_upto_region 13 with (fail)
    have hSz : ∀ w', Below W1.heap.size W1 w' → w'.cell? ⟨gB, 1, none⟩ = some (.slice (some ⟨gD, 0, none⟩) 2 2) ∧ w'.cell? ⟨gD, 3, none⟩ = some (.slice (some ⟨gA1, 0, none⟩) 1 1) ∧ w'.cell? ⟨gA1, 0, none⟩ = some (.slice (some ⟨gC1, 0, none⟩) 1 1) ∧ w'.cell? ⟨gC1, 1, none⟩ = some (.slice (some ⟨gI1, 0, none⟩) 1 1) ∧ w'.frozen? ⟨gC1, 1, none⟩ = false ∧ Aside0 (Below W1.heap.size W1 w') := fun w' h => ⟨(blk_cell ((h.block gB (blk_lt HB1.out)).trans HB1.out) 1).trans rfl, (blk_cell ((h.block gD (blk_lt HD1.out)).trans HD1.out) 3).trans rfl, (blk_cell ((h.block gA1 (blk_lt HA11.out)).trans HA11.out) 0).trans rfl, (blk_cell ((h.block gC1 (blk_lt HC11.out)).trans HC11.out) 1).trans rfl, blk_frozen ((h.block gC1 (blk_lt HC11.out)).trans HC11.out) 1, ⟨h⟩⟩
    have hb0 := (Below.refl W1.heap.size W1).drew
    have hRI := Aside0.mk (bw_row (d := k61) (base := w.heap.size) (n := 1) (xs := [⟨2, ⟨#[]⟩, 1, 2⟩]) HI1.out (by omega) rfl (Reps.c4 (k61_mkM _ _ _ ⟨2, ⟨#[]⟩, 1, 2⟩) (Reps.none _ _)) (by decide))
    refine start_ (n := 23) (S := fun w' => w'.cell? ⟨gB, 1, none⟩ = some (.slice (some ⟨gD, 0, none⟩) 2 2) ∧ w'.cell? ⟨gD, 3, none⟩ = some (.slice (some ⟨gA1, 0, none⟩) 1 1) ∧ w'.cell? ⟨gA1, 0, none⟩ = some (.slice (some ⟨gC1, 0, none⟩) 1 1) ∧ w'.cell? ⟨gC1, 1, none⟩ = some (.slice (some ⟨gI1, 0, none⟩) 1 1) ∧ w'.frozen? ⟨gC1, 1, none⟩ = false) (ds := [22]) #[false, false, false, false, false, false, false, false, false, false, false, false, false, false, false, false, false, false, false, false, false, false, false] (by kernel_rfl) rfl rfl ⟨(hSz _ hb0).1, (hSz _ hb0).2.1, (hSz _ hb0).2.2.1, (hSz _ hb0).2.2.2.1, (hSz _ hb0).2.2.2.2.1⟩ (fun hHeld => ?_)
    refine with_tabW bwr13.tab13 bwr13.bits13 (fun HT_ HW_ => ?_)
    refine pure_ (i := 0) (N := some 54) (v := ?_) (a' := ?_) #[true, false, false, false, false, false, false, false, false, false, false, false, false, false, false, false, false, false, false, false, false, false, false] rfl rfl (any_of HT_.out (by kernel_rfl)) (fun _ _ _ h => h) (Or.inl ⟨by rfl, ?_⟩) ?_ ?_
    rotate_left
    ·intro w'
     go_simp
     with_reducible rfl
    rotate_left
    ·simp only [Act.put, List.setIfInBounds_toArray, List.set_cons_zero, List.set_cons_succ, i64_w, i32_w]
     rfl
    refine pure_ (i := 7) (N := some 61) (v := ?_) (a' := ?_) #[true, false, false, false, false, false, false, true, false, false, false, false, false, false, false, false, false, false, false, false, false, false, false] rfl rfl (any_of HT_.out (by kernel_rfl)) (fun _ _ _ h => h) (Or.inl ⟨by rfl, ?_⟩) ?_ ?_
    rotate_left
    ·intro w'
     go_simp
     with_reducible rfl
    rotate_left
    ·simp only [Act.put, List.setIfInBounds_toArray, List.set_cons_zero, List.set_cons_succ, i64_w, i32_w]
     rfl
    refine take_ (i := 1) (N := some 55) (v := ?_) (a' := ?_) #[true, true, false, false, false, false, false, true, false, false, false, false, false, false, false, false, false, false, false, false, false, false, false] rfl rfl (take_ofW HT_.out HW_.out (by kernel_rfl)) (fun _ _ _ h => h) (Or.inl ⟨by rfl, ?_⟩) hHeld ?_ ?_
    rotate_left
    ·rintro w' ⟨s0, s1, s2, s3, s4⟩
     go_simp
     with_reducible rfl
    rotate_left
    ·simp only [Act.put, List.setIfInBounds_toArray, List.set_cons_zero, List.set_cons_succ, i64_w, i32_w]
     rfl
    refine pure_ (i := 2) (N := some 56) (v := ?_) (a' := ?_) #[true, true, true, false, false, false, false, true, false, false, false, false, false, false, false, false, false, false, false, false, false, false, false] rfl rfl (any_of HT_.out (by kernel_rfl)) (fun _ _ _ h => h) (Or.inl ⟨by rfl, ?_⟩) ?_ ?_
    rotate_left
    ·intro w'
     go_simp
     with_reducible rfl
    rotate_left
    ·simp only [Act.put, List.setIfInBounds_toArray, List.set_cons_zero, List.set_cons_succ, i64_w, i32_w]
     rfl
    refine pure_ (i := 3) (N := some 57) (v := ?_) (a' := ?_) #[true, true, true, true, false, false, false, true, false, false, false, false, false, false, false, false, false, false, false, false, false, false, false] rfl rfl (any_of HT_.out (by kernel_rfl)) (fun _ _ _ h => h) (Or.inl ⟨by rfl, ?_⟩) ?_ ?_
    rotate_left
    ·intro w'
     go_simp
     with_reducible rfl
    rotate_left
    ·simp only [Act.put, List.setIfInBounds_toArray, List.set_cons_zero, List.set_cons_succ, i64_w, i32_w]
     rfl
    refine take_ (i := 4) (N := some 58) (v := ?_) (a' := ?_) #[true, true, true, true, true, false, false, true, false, false, false, false, false, false, false, false, false, false, false, false, false, false, false] rfl rfl (take_ofW HT_.out HW_.out (by kernel_rfl)) (fun _ _ _ h => h) (Or.inl ⟨by rfl, ?_⟩) hHeld ?_ ?_
    rotate_left
    ·rintro w' ⟨s0, s1, s2, s3, s4⟩
     go_simp
     with_reducible rfl
    rotate_left
    ·simp only [Act.put, List.setIfInBounds_toArray, List.set_cons_zero, List.set_cons_succ, i64_w, i32_w]
     rfl
    refine pure_ (i := 5) (N := some 59) (v := ?_) (a' := ?_) #[true, true, true, true, true, true, false, true, false, false, false, false, false, false, false, false, false, false, false, false, false, false, false] rfl rfl (any_of HT_.out (by kernel_rfl)) (fun _ _ _ h => h) (Or.inl ⟨by rfl, ?_⟩) ?_ ?_
    rotate_left
    ·intro w'
     go_simp
     with_reducible rfl
    rotate_left
    ·simp only [Act.put, List.setIfInBounds_toArray, List.set_cons_zero, List.set_cons_succ, i64_w, i32_w]
     rfl
    refine take_ (i := 6) (N := some 60) (v := ?_) (a' := ?_) #[true, true, true, true, true, true, true, true, false, false, false, false, false, false, false, false, false, false, false, false, false, false, false] rfl rfl (take_ofW HT_.out HW_.out (by kernel_rfl)) (fun _ _ _ h => h) (Or.inl ⟨by rfl, ?_⟩) hHeld ?_ ?_
    rotate_left
    ·rintro w' ⟨s0, s1, s2, s3, s4⟩
     go_simp
     with_reducible rfl
    rotate_left
    ·simp only [Act.put, List.setIfInBounds_toArray, List.set_cons_zero, List.set_cons_succ, i64_w, i32_w]
     rfl
    refine take_ (i := 8) (N := some 62) (v := ?_) (a' := ?_) #[true, true, true, true, true, true, true, true, true, false, false, false, false, false, false, false, false, false, false, false, false, false, false] rfl rfl (take_ofW HT_.out HW_.out (by kernel_rfl)) (fun _ _ _ h => h) (Or.inl ⟨by rfl, ?_⟩) hHeld ?_ ?_
    rotate_left
    ·rintro w' ⟨s0, s1, s2, s3, s4⟩
     go_simp
     with_reducible rfl
    rotate_left
    ·simp only [Act.put, List.setIfInBounds_toArray, List.set_cons_zero, List.set_cons_succ, i64_w, i32_w]
     rfl
    refine pure_ (i := 9) (N := some 63) (v := ?_) (a' := ?_) #[true, true, true, true, true, true, true, true, true, true, false, false, false, false, false, false, false, false, false, false, false, false, false] rfl rfl (any_of HT_.out (by kernel_rfl)) (fun _ _ _ h => h) (Or.inl ⟨by rfl, ?_⟩) ?_ ?_
    rotate_left
    ·intro w'
     go_simp
     with_reducible rfl
    rotate_left
    ·simp only [Act.put, List.setIfInBounds_toArray, List.set_cons_zero, List.set_cons_succ, i64_w, i32_w]
     rfl
    refine pure_ (i := 10) (N := some 64) (v := ?_) (a' := ?_) #[true, true, true, true, true, true, true, true, true, true, true, false, false, false, false, false, false, false, false, false, false, false, false] rfl rfl (any_of HT_.out (by kernel_rfl)) (fun _ _ _ h => h) (Or.inl ⟨by rfl, ?_⟩) ?_ ?_
    rotate_left
    ·intro w'
     go_simp
     with_reducible rfl
    rotate_left
    ·simp only [Act.put, List.setIfInBounds_toArray, List.set_cons_zero, List.set_cons_succ, i64_w, i32_w]
     rfl
    refine take_ (i := 11) (N := some 65) (v := ?_) (a' := ?_) #[true, true, true, true, true, true, true, true, true, true, true, true, false, false, false, false, false, false, false, false, false, false, false] rfl rfl (take_ofW HT_.out HW_.out (by kernel_rfl)) (fun _ _ _ h => h) (Or.inl ⟨by rfl, ?_⟩) hHeld ?_ ?_
    rotate_left
    ·rintro w' ⟨s0, s1, s2, s3, s4⟩
     go_simp
     with_reducible rfl
    rotate_left
    ·simp only [Act.put, List.setIfInBounds_toArray, List.set_cons_zero, List.set_cons_succ, i64_w, i32_w]
     rfl
    refine pure_ (i := 12) (N := some 66) (v := ?_) (a' := ?_) #[true, true, true, true, true, true, true, true, true, true, true, true, true, false, false, false, false, false, false, false, false, false, false] rfl rfl (any_of HT_.out (by kernel_rfl)) (fun _ _ _ h => h) (Or.inl ⟨by rfl, ?_⟩) ?_ ?_
    rotate_left
    ·intro w'
     go_simp
     with_reducible rfl
    rotate_left
    ·simp only [Act.put, List.setIfInBounds_toArray, List.set_cons_zero, List.set_cons_succ, i64_w, i32_w]
     rfl
    refine take_ (i := 13) (N := some 67) (v := ?_) (a' := ?_) #[true, true, true, true, true, true, true, true, true, true, true, true, true, true, false, false, false, false, false, false, false, false, false] rfl rfl (take_ofW HT_.out HW_.out (by kernel_rfl)) (fun _ _ _ h => h) (Or.inl ⟨by rfl, ?_⟩) hHeld ?_ ?_
    rotate_left
    ·rintro w' ⟨s0, s1, s2, s3, s4⟩
     go_simp
     with_reducible rfl
    rotate_left
    ·simp only [Act.put, List.setIfInBounds_toArray, List.set_cons_zero, List.set_cons_succ, i64_w, i32_w]
     rfl
    refine pure_ (i := 14) (N := some 68) (v := ?_) (a' := ?_) #[true, true, true, true, true, true, true, true, true, true, true, true, true, true, true, false, false, false, false, false, false, false, false] rfl rfl (any_of HT_.out (by kernel_rfl)) (fun _ _ _ h => h) (Or.inl ⟨by rfl, ?_⟩) ?_ ?_
    rotate_left
    ·intro w'
     go_simp
     with_reducible rfl
    rotate_left
    ·simp only [Act.put, List.setIfInBounds_toArray, List.set_cons_zero, List.set_cons_succ, i64_w, i32_w]
     rfl
    refine pure_ (i := 15) (N := some 69) (v := ?_) (a' := ?_) #[true, true, true, true, true, true, true, true, true, true, true, true, true, true, true, true, false, false, false, false, false, false, false] rfl rfl (any_of HT_.out (by kernel_rfl)) (fun _ _ _ h => h) (Or.inl ⟨by rfl, ?_⟩) ?_ ?_
    rotate_left
    ·intro w'
     go_simp
     with_reducible rfl
    rotate_left
    ·simp only [Act.put, List.setIfInBounds_toArray, List.set_cons_zero, List.set_cons_succ, i64_w, i32_w]
     rfl
    refine take_ (i := 16) (N := some 70) (v := ?_) (a' := ?_) #[true, true, true, true, true, true, true, true, true, true, true, true, true, true, true, true, true, false, false, false, false, false, false] rfl rfl (take_ofW HT_.out HW_.out (by kernel_rfl)) (fun _ _ _ h => h) (Or.inl ⟨by rfl, ?_⟩) hHeld ?_ ?_
    rotate_left
    ·rintro w' ⟨s0, s1, s2, s3, s4⟩
     go_simp
     with_reducible rfl
    rotate_left
    ·simp only [Act.put, List.setIfInBounds_toArray, List.set_cons_zero, List.set_cons_succ, i64_w, i32_w]
     rfl
    refine take_ (i := 17) (N := some 71) (v := ?_) (a' := ?_) #[true, true, true, true, true, true, true, true, true, true, true, true, true, true, true, true, true, true, false, false, false, false, false] rfl rfl (take_ofW HT_.out HW_.out (by kernel_rfl)) (fun _ _ _ h => h) (Or.inl ⟨by rfl, ?_⟩) hHeld ?_ ?_
    rotate_left
    ·rintro w' ⟨s0, s1, s2, s3, s4⟩
     go_simp
     with_reducible rfl
    rotate_left
    ·simp only [Act.put, List.setIfInBounds_toArray, List.set_cons_zero, List.set_cons_succ, i64_w, i32_w]
     rfl
    refine one_ (i := 18) (N := some 72) #[true, true, true, true, true, true, true, true, true, true, true, true, true, true, true, true, true, true, true, false, false, false, false] rfl rfl (one_of HT_.out (by kernel_rfl)) (by decide) (fun K hK => ?_)
    refine value_ (w1 := ?_) (v := ?_) (by rfl) rfl ?_ ?_
    rotate_left 2
    ·go_simp
     constructor
     ·rfl
     ·rfl
    refine hK.out _ _ ⟨(hSz _ (below_alloc hb0 (.cells #[.int .i64 0, .string ⟨#[85]⟩, .int .i64 0, .int .i64 0] 61))).1, (hSz _ (below_alloc hb0 (.cells #[.int .i64 0, .string ⟨#[85]⟩, .int .i64 0, .int .i64 0] 61))).2.1, (hSz _ (below_alloc hb0 (.cells #[.int .i64 0, .string ⟨#[85]⟩, .int .i64 0, .int .i64 0] 61))).2.2.1, (hSz _ (below_alloc hb0 (.cells #[.int .i64 0, .string ⟨#[85]⟩, .int .i64 0, .int .i64 0] 61))).2.2.2.1, (hSz _ (below_alloc hb0 (.cells #[.int .i64 0, .string ⟨#[85]⟩, .int .i64 0, .int .i64 0] 61))).2.2.2.2.1⟩ (fun hHeld => ?_)
    clear hK K
    refine norm_ (a' := ?_) ?_ ?_
    rotate_left
    ·show Act.put _ (some 72) _ = _
     simp only [Act.put, List.setIfInBounds_toArray, List.set_cons_zero, List.set_cons_succ, i64_w, i32_w]
     rfl
    refine one_ (i := 19) (N := some 73) #[true, true, true, true, true, true, true, true, true, true, true, true, true, true, true, true, true, true, true, true, false, false, false] rfl rfl (one_of HT_.out (by kernel_rfl)) (by decide) (fun K hK => ?_)
    refine Kd.R_append_step k61 (w0 := w) (W := W1.drew) w.heap.size (by rfl) (.tmp 70) (.tmp 72) 62 61 (.agg #[.int .i64 0, .string ⟨#[]⟩, .int .i64 0, .int .i64 0]) 40 rfl Try.underlying62 bw_info61 rfl (by decide) (by decide) (.slice (some ⟨gI1, 0, none⟩) 1 1) [⟨2, ⟨#[]⟩, 1, 2⟩] ⟨0, ⟨#[85]⟩, 0, 0⟩ [.int .i64 0, .string ⟨#[85]⟩, .int .i64 0, .int .i64 0] (fun _ => True) (fun _ => False) rfl rfl (k61_mkM _ _ _ ⟨0, ⟨#[85]⟩, 0, 0⟩) (fun _ hk => hk.elim) (fun _ _ => trivial) (Kd.R_mono (Kd.R_drew hRI.out) (fun _ _ => trivial)) HW.out.drew HW.out.size (by simp) ?_
    intro v1 w1 ho hb hg hat
    obtain ⟨Ai, ci, e1⟩ := Kd.R_slice ho
    subst e1
    have hgB := fun (g : Nat) (cs : Array Value) (e : Nat) (h : W1.heap[g]? = some (.cells cs e (0, 0))) (hn : g ≠ gI1) => (hg.block g (blk_lt h) (by simp [Value.ownBlock]; exact hn)).trans h
    refine hK.out _ _ ⟨(blk_cell (hgB gB _ _ HB1.out (by omega)) 1).trans rfl, (blk_cell (hgB gD _ _ HD1.out (by omega)) 3).trans rfl, (blk_cell (hgB gA1 _ _ HA11.out (by omega)) 0).trans rfl, (blk_cell (hgB gC1 _ _ HC11.out (by omega)) 1).trans rfl, blk_frozen (hgB gC1 _ _ HC11.out (by omega)) 1⟩ (fun hHeld => ?_)
    clear hK K
    refine norm_ (a' := ?_) ?_ ?_
    rotate_left
    ·show Act.put _ (some 73) _ = _
     simp only [Act.put, List.setIfInBounds_toArray, List.set_cons_zero, List.set_cons_succ, i64_w, i32_w]
     rfl
    refine pure_ (i := 20) (N := some 74) (v := ?_) (a' := ?_) #[true, true, true, true, true, true, true, true, true, true, true, true, true, true, true, true, true, true, true, true, true, false, false] rfl rfl (any_of HT_.out (by kernel_rfl)) (fun _ _ _ h => h) (Or.inl ⟨by rfl, ?_⟩) ?_ ?_
    rotate_left
    ·intro w'
     go_simp
     with_reducible rfl
    rotate_left
    ·simp only [Act.put, List.setIfInBounds_toArray, List.set_cons_zero, List.set_cons_succ, i64_w, i32_w]
     rfl
    refine pure_ (i := 21) (N := some 75) (v := ?_) (a' := ?_) #[true, true, true, true, true, true, true, true, true, true, true, true, true, true, true, true, true, true, true, true, true, true, false] rfl rfl (any_of HT_.out (by kernel_rfl)) (fun _ _ _ h => h) (Or.inl ⟨by rfl, ?_⟩) ?_ ?_
    rotate_left
    ·intro w'
     go_simp
     with_reducible rfl
    rotate_left
    ·simp only [Act.put, List.setIfInBounds_toArray, List.set_cons_zero, List.set_cons_succ, i64_w, i32_w]
     rfl
    refine last_ (i := 22) (N := none) #[true, true, true, true, true, true, true, true, true, true, true, true, true, true, true, true, true, true, true, true, true, true, true] rfl rfl (one_of HT_.out (by kernel_rfl)) (by decide) (fun K hK => ?_)
    have q0 := hHeld.2.2.2.1
    have q1 := hHeld.2.2.2.2
    refine skip_ (w1 := ?_) (by rfl) rfl ?_ ?_
    rotate_left
    ·go_simp
     rfl
    refine hK.out _ _ ?_
    clear hK K
    refine done_ (done_of HT_.out (by kernel_rfl)) ?_
    have hIn := Aside0.mk (And.intro (Kd.F_far (p := ⟨gC1, 1, none⟩) (Kd.F_mono (ok' := fun k => k ≠ gS ∧ k ≠ gC1 ∧ k ≠ gD ∧ k ≠ gB) (Kd.R_F (Kd.R_types (Kd.R_types (Kd.R_types (Kd.R_types ho (hgB gS _ _ HS1.out (by omega)) (by decide)) (hgB gC1 _ _ HC11.out (by omega)) (by decide)) (hgB gD _ _ HD1.out (by omega)) (by decide)) (hgB gB _ _ HB1.out (by omega)) (by decide))) (fun k hk => ⟨hk.1.1.1.2, hk.1.1.2, hk.1.2, hk.2⟩)) (fun k hk => hk.2.1) (.slice Ai 2 ci)) (Kd.R_reads' ho).2.1)
    have mB := Aside0.mk (blk_far (hgB gB _ _ HB1.out (by omega)) (p := ⟨gC1, 1, none⟩) (by show gB ≠ gC1; omega) (.slice Ai 2 ci))
    have mS := Aside0.mk (blk_far (hgB gS _ _ HS1.out (by omega)) (p := ⟨gC1, 1, none⟩) (by show gS ≠ gC1; omega) (.slice Ai 2 ci))
    have mD := Aside0.mk (blk_far (hgB gD _ _ HD1.out (by omega)) (p := ⟨gC1, 1, none⟩) (by show gD ≠ gC1; omega) (.slice Ai 2 ci))
    have mA0 := Aside0.mk (blk_far (hgB gA0 _ _ HA01.out (by omega)) (p := ⟨gC1, 1, none⟩) (by show gA0 ≠ gC1; omega) (.slice Ai 2 ci))
    have mA1 := Aside0.mk (blk_far (hgB gA1 _ _ HA11.out (by omega)) (p := ⟨gC1, 1, none⟩) (by show gA1 ≠ gC1; omega) (.slice Ai 2 ci))
    have mC1 := Aside0.mk (blk_put (hgB gC1 _ _ HC11.out (by omega)) 1 (.slice Ai 2 ci) rfl)
    have mX := Aside0.mk (Kd.F_far (Kd.F_grown (Kd.F_drew HX1.out) hg (fun k hk he => hk.2.1 (by simpa [Value.ownBlock] using he))) (p := ⟨gC1, 1, none⟩) (fun k hk => hk.2.2.1) (.slice Ai 2 ci))
    have mW := Aside0.mk (hb.setCell (p := ⟨gC1, 1, none⟩) (by show w.heap.size ≤ gC1; omega) (.slice Ai 2 ci))
    clear HB1 HS1 HD1 HA01 HA11 HC11 HX1 HW HI1 hRI hgB hSz hb0 HT_ HW_ hHeld q0 q1 ho hb hg hat
    generalize w1.setCell ⟨gC1, 1, none⟩ (.slice Ai 2 ci) = W2 at *
    have HB2 := mB
    have HS2 := mS
    have HD2 := mD
    have HA02 := mA0
    have HA12 := mA1
    have HC12 := mC1
    have HX2 := mX
    have HW := mW
    clear mW mB mS mD mA0 mA1 mC1 mX
    have HI2 := Aside0.mk hIn.out.1
    have hIC := Aside0.mk hIn.out.2
    clear hIn
    cases b2
    ·skip
     cases b1
     ·skip
      go_upto_region 24 with (fail)
      have cS : Kd.C Kd.string W2 (some ⟨gS, 0, none⟩) [(⟨#[83]⟩ : ByteArray)].length [⟨#[83]⟩] := C_lit HS2.out (Reps.one rfl (Reps.none _ _)) (by decide)
      have lS : [(⟨#[83]⟩ : ByteArray)].length ≤ 1 := Nat.le_refl _
      have cI := Kd.F_now HI2.out
      have lI := hIC.out
      have cX := Kd.F_now HX2.out
      have lX := hXC.out
      have kD := bw_defs HA02.out HC12.out HA12.out cX rfl lX cI rfl lI
      have cD : Kd.C k45 W2 (some ⟨gD, 0, none⟩) ([⟨⟨#[83]⟩, [(List.replicate 9 ⟨false, []⟩)]⟩, ⟨⟨#[84]⟩, [[⟨false, [⟨2, ⟨#[]⟩, 1, 2⟩, ⟨0, ⟨#[85]⟩, 0, 0⟩]⟩]]⟩] : List S45).length [⟨⟨#[83]⟩, [(List.replicate 9 ⟨false, []⟩)]⟩, ⟨⟨#[84]⟩, [[⟨false, [⟨2, ⟨#[]⟩, 1, 2⟩, ⟨0, ⟨#[85]⟩, 0, 0⟩]⟩]]⟩] := C_lit HD2.out (Reps.c2 kD.1 (Reps.c2 kD.2 (Reps.none _ _))) (by decide)
      have lD : (2 : Nat) ≤ 2 := Nat.le_refl _
      have FB2 := Aside0.mk (show gram_Build.f k [⟨#[83]⟩] [⟨⟨#[83]⟩, [(List.replicate 9 ⟨false, []⟩)]⟩, ⟨⟨#[84]⟩, [[⟨false, [⟨2, ⟨#[]⟩, 1, 2⟩, ⟨0, ⟨#[85]⟩, 0, 0⟩]⟩]]⟩] = some (r1, r2, r3, ⟨#[85]⟩, 402) from FB.out)
      have tl := (show (r2.length = 2 ↔ (402 : Int) = 0) from FL.out)
      have tL : ((r2.length : Int) == 2) = false := by rw [beq_eq_false_iff_ne]; intro h9; exact absurd (tl.1 (by omega)) (by decide)
      have k0 : W2.cell? ⟨gB, 0, none⟩ = some (.slice (some ⟨gS, 0, none⟩) 1 1) := (blk_cell HB2.out 0).trans rfl
      have k1 : W2.cell? ⟨gB, 1, none⟩ = some (.slice (some ⟨gD, 0, none⟩) 2 2) := (blk_cell HB2.out 1).trans rfl
      have Z := Aside0.mk (And.intro cS (And.intro lS (And.intro cD (And.intro lD HW.out))))
      clear cS lS cD lD cI lI cX lX kD tl FB FL
      go_wp2_with (first | (go_at_call 14; (with_reducible refine (templelaw0_Num.calls 402 402 _ (bw_num 402)).mono ?_); rintro e w' ⟨rfl, ⟨nd, rfl⟩⟩) | (go_at_call 11; refine (gram_Build.calls k _ _ [⟨#[83]⟩] _ _ [⟨⟨#[83]⟩, [(List.replicate 9 ⟨false, []⟩)]⟩, ⟨⟨#[84]⟩, [[⟨false, [⟨2, ⟨#[]⟩, 1, 2⟩, ⟨0, ⟨#[85]⟩, 0, 0⟩]⟩]]⟩] r1 r2 r3 ⟨#[85]⟩ 402 _ Z.out.1 Z.out.2.1 Z.out.2.2.1 Z.out.2.2.2.1 FB2.out).mono ?_; rintro e w2 ⟨v1, v2, rfl, h1, h2, hbq⟩; (obtain ⟨Aq, cq, rfl⟩ := Kd.R_slice h1); (obtain ⟨Ar, cr, rfl⟩ := Kd.R_slice h2); have Y := Aside0.mk hbq; clear h1 h2 hbq))
      go_ret
      exact ⟨by first | rfl | simp | simp [tL], pw_below_drewN (below_alloc (Z.out.2.2.2.2.trans (Y.out.mono Z.out.2.2.2.2.size)) _) _⟩
     ·skip
      go_upto_region 21 with (fail)
      have k0 : W2.cell? ⟨gB, 1, none⟩ = some (.slice (some ⟨gD, 0, none⟩) 2 2) := (blk_cell HB2.out 1).trans rfl
      have kg : W2.cell? ⟨gB, 0, none⟩ = some (.slice (some ⟨gS, 0, none⟩) 1 1) := (blk_cell HB2.out 0).trans rfl
      have hal := below_alloc (Below.refl W2.heap.size W2) (.cells #[.string ⟨#[84]⟩, .slice none 0 0, .string ⟨#[83]⟩, .slice none 0 0] 45)
      have hRD := Aside0.mk (bw_row (d := Kd.raw 2) (base := w.heap.size) (n := 2) (xs := [[.string ⟨#[83]⟩, .slice (some ⟨gA0, 0, none⟩) 1 1], [.string ⟨#[84]⟩, .slice (some ⟨gA1, 0, none⟩) 1 1]]) (blk_alloc HD2.out (.cells #[.string ⟨#[84]⟩, .slice none 0 0, .string ⟨#[83]⟩, .slice none 0 0] 45)) (by omega) rfl (bw_raw (w := w)) (by simp))
      have hRL := Aside0.mk (C_lit (d := Kd.raw 2) (xs := [[.string ⟨#[84]⟩, .slice none 0 0], [.string ⟨#[83]⟩, .slice none 0 0]]) (blk_new W2 (.cells #[.string ⟨#[84]⟩, .slice none 0 0, .string ⟨#[83]⟩, .slice none 0 0] 45)) (Reps.c2 ⟨rfl, rfl, by simp [Value.oneCell']⟩ (Reps.c2 ⟨rfl, rfl, by simp [Value.oneCell']⟩ (Reps.none _ _))) (by decide))
      have hlt := Aside0.mk (below_alloc HW.out (.cells #[.string ⟨#[84]⟩, .slice none 0 0, .string ⟨#[83]⟩, .slice none 0 0] 45))
      go_upto_region 22 with (first | ((with_reducible refine gate_builtin (b := .append) (xs := #[.tmp 88, .tmp 91]) rfl ?_); at_builtin; refine Kd.R_append_rows (Kd.raw 2) (w0 := w) w.heap.size rfl (.tmp 88) (.tmp 91) 23 45 (.agg #[.string ⟨#[]⟩, .slice none 0 0]) 40 rfl Try.underlying23 bw_info45 rfl (by decide) (by omega) (.slice (some ⟨gD, 0, none⟩) 2 2) [[.string ⟨#[83]⟩, .slice (some ⟨gA0, 0, none⟩) 1 1], [.string ⟨#[84]⟩, .slice (some ⟨gA1, 0, none⟩) 1 1]] [[.string ⟨#[84]⟩, .slice none 0 0], [.string ⟨#[83]⟩, .slice none 0 0]] _ _ _ (fun _ => True) (fun _ => False) rfl rfl (Kd.R_mono hRD.out (fun _ _ => trivial)) hRL.out (fun _ _ h => h) (fun _ h => h.elim) (fun _ _ => trivial) hlt.out hlt.out.size (by simp) ?_; intro v1 w1 ho hb hg hat; (obtain ⟨Ad, cd, e1⟩ := Kd.R_slice ho); subst e1; have hmv := fun (g : Nat) (cs : Array Value) (e : Nat) (h : W2.heap[g]? = some (.cells cs e (0, 0))) (hn : g ≠ gD) => (hg.block g (blk_lt ((hal.block g (blk_lt h)).trans h)) (by simp [Value.ownBlock]; exact hn)).trans ((hal.block g (blk_lt h)).trans h); have ps := (blk_cell (hmv gB _ _ HB2.out (by omega)) 1).trans rfl; have pf := blk_frozen (hmv gB _ _ HB2.out (by omega)) 1))
      have hDn := Aside0.mk (RowT.set (RowT.of rfl ho) (hmv gB _ _ HB2.out (by omega)) (by decide) 1 (.slice Ad 4 cd))
      have hRW := Aside0.mk hRD.out
      have mB := Aside0.mk (blk_put (hmv gB _ _ HB2.out (by omega)) 1 (.slice Ad 4 cd) rfl)
      have mS := Aside0.mk (blk_far (hmv gS _ _ HS2.out (by omega)) (p := ⟨gB, 1, none⟩) (by show gS ≠ gB; omega) (.slice Ad 4 cd))
      have mA0 := Aside0.mk (blk_far (hmv gA0 _ _ HA02.out (by omega)) (p := ⟨gB, 1, none⟩) (by show gA0 ≠ gB; omega) (.slice Ad 4 cd))
      have mA1 := Aside0.mk (blk_far (hmv gA1 _ _ HA12.out (by omega)) (p := ⟨gB, 1, none⟩) (by show gA1 ≠ gB; omega) (.slice Ad 4 cd))
      have mC1 := Aside0.mk (blk_far (hmv gC1 _ _ HC12.out (by omega)) (p := ⟨gB, 1, none⟩) (by show gC1 ≠ gB; omega) (.slice Ad 4 cd))
      have mX := Aside0.mk (Kd.F_far (Kd.F_grown (Kd.F_below HX2.out hal) hg (fun k hk he => hk.2.2.2.1 (by simpa [Value.ownBlock] using he))) (p := ⟨gB, 1, none⟩) (fun k hk => hk.2.2.2.2) (.slice Ad 4 cd))
      have mI := Aside0.mk (Kd.F_far (Kd.F_grown (Kd.F_below HI2.out hal) hg (fun k hk he => hk.2.2.1 (by simpa [Value.ownBlock] using he))) (p := ⟨gB, 1, none⟩) (fun k hk => hk.2.2.2) (.slice Ad 4 cd))
      have mW := Aside0.mk (hb.setCell (p := ⟨gB, 1, none⟩) (by show w.heap.size ≤ gB; omega) (.slice Ad 4 cd))
      clear HB2 HS2 HA02 HA12 HC12 HX2 HI2 HW HD2 hRD hRL hRW hlt hmv hal k0 kg ps pf ho hb hg hat
      generalize w1.setCell ⟨gB, 1, none⟩ (.slice Ad 4 cd) = W3 at *
      have HB3 := mB
      have HS3 := mS
      have HA03 := mA0
      have HA13 := mA1
      have HC13 := mC1
      have HX3 := mX
      have HI3 := mI
      have HW := mW
      clear mW mB mS mA0 mA1 mC1 mX mI
      go_upto_region 24 with (fail)
      have cS : Kd.C Kd.string W3 (some ⟨gS, 0, none⟩) [(⟨#[83]⟩ : ByteArray)].length [⟨#[83]⟩] := C_lit HS3.out (Reps.one rfl (Reps.none _ _)) (by decide)
      have lS : [(⟨#[83]⟩ : ByteArray)].length ≤ 1 := Nat.le_refl _
      have cI := Kd.F_now HI3.out
      have lI := hIC.out
      have cX := Kd.F_now HX3.out
      have lX := hXC.out
      have kD := bw_defs HA03.out HC13.out HA13.out cX rfl lX cI rfl lI
      have kM := bw_more W3
      have cD := rows_C (d := k45) (xs := [⟨⟨#[83]⟩, [(List.replicate 9 ⟨false, []⟩)]⟩, ⟨⟨#[84]⟩, [[⟨false, [⟨2, ⟨#[]⟩, 1, 2⟩, ⟨0, ⟨#[85]⟩, 0, 0⟩]⟩]]⟩]) (ys := [⟨⟨#[84]⟩, []⟩, ⟨⟨#[83]⟩, []⟩]) rfl rfl (Kd.R_reads' hDn.out).2.2 (bw_two kD.1 kD.2) (bw_two kM.1 kM.2)
      have lD := (Kd.R_reads' hDn.out).2.1
      have FB2 := Aside0.mk (show gram_Build.f k [⟨#[83]⟩] [⟨⟨#[83]⟩, [(List.replicate 9 ⟨false, []⟩)]⟩, ⟨⟨#[84]⟩, [[⟨false, [⟨2, ⟨#[]⟩, 1, 2⟩, ⟨0, ⟨#[85]⟩, 0, 0⟩]⟩]]⟩, ⟨⟨#[84]⟩, []⟩, ⟨⟨#[83]⟩, []⟩] = some (r1, r2, r3, ⟨#[84]⟩, 401) from FB.out)
      have tl := (show (r2.length = 2 ↔ (401 : Int) = 0) from FL.out)
      have tL : ((r2.length : Int) == 2) = false := by rw [beq_eq_false_iff_ne]; intro h9; exact absurd (tl.1 (by omega)) (by decide)
      have k0 : W3.cell? ⟨gB, 0, none⟩ = some (.slice (some ⟨gS, 0, none⟩) 1 1) := (blk_cell HB3.out 0).trans rfl
      have k1 : W3.cell? ⟨gB, 1, none⟩ = some (.slice Ad 4 cd) := (blk_cell HB3.out 1).trans rfl
      have Z := Aside0.mk (And.intro cS (And.intro lS (And.intro cD (And.intro lD HW.out))))
      clear cS lS cD lD cI lI cX lX kD tl FB FL kM
      go_wp2_with (first | (go_at_call 14; (with_reducible refine (templelaw0_Num.calls 401 401 _ (bw_num 401)).mono ?_); rintro e w' ⟨rfl, ⟨nd, rfl⟩⟩) | (go_at_call 11; refine (gram_Build.calls k _ _ [⟨#[83]⟩] _ _ [⟨⟨#[83]⟩, [(List.replicate 9 ⟨false, []⟩)]⟩, ⟨⟨#[84]⟩, [[⟨false, [⟨2, ⟨#[]⟩, 1, 2⟩, ⟨0, ⟨#[85]⟩, 0, 0⟩]⟩]]⟩, ⟨⟨#[84]⟩, []⟩, ⟨⟨#[83]⟩, []⟩] r1 r2 r3 ⟨#[84]⟩ 401 _ Z.out.1 Z.out.2.1 Z.out.2.2.1 Z.out.2.2.2.1 FB2.out).mono ?_; rintro e w2 ⟨v1, v2, rfl, h1, h2, hbq⟩; (obtain ⟨Aq, cq, rfl⟩ := Kd.R_slice h1); (obtain ⟨Ar, cr, rfl⟩ := Kd.R_slice h2); have Y := Aside0.mk hbq; clear h1 h2 hbq))
      go_ret
      exact ⟨by first | rfl | simp | simp [tL], pw_below_drewN (below_alloc (Z.out.2.2.2.2.trans (Y.out.mono Z.out.2.2.2.2.size)) _) _⟩
    ·skip
     go_upto_region 17 with (fail)
     have k0 : W2.cell? ⟨gB, 0, none⟩ = some (.slice (some ⟨gS, 0, none⟩) 1 1) := (blk_cell HB2.out 0).trans rfl
     have kg : W2.cell? ⟨gB, 1, none⟩ = some (.slice (some ⟨gD, 0, none⟩) 2 2) := (blk_cell HB2.out 1).trans rfl
     have kf := blk_frozen HB2.out 0
     have hRS := Aside0.mk (bw_row (d := Kd.string) (base := w.heap.size) (n := 1) (xs := [⟨#[83]⟩]) HS2.out (by omega) rfl (Reps.one rfl (Reps.none _ _)) (by decide))
     go_upto_region 18 with (first | ((with_reducible refine gate_builtin (b := .append) (xs := #[.tmp 80, .tmp 81]) rfl ?_); at_builtin; refine Kd.R_append Kd.string (w0 := w) (W := W2) w.heap.size rfl (.tmp 80) (.tmp 81) 22 9 (.string ⟨#[]⟩) 16 rfl Try.underlying22 bw_info9 rfl (by decide) (by omega) (.slice (some ⟨gS, 0, none⟩) 1 1) [⟨#[83]⟩] ⟨#[83]⟩ [.string ⟨#[83]⟩] (fun _ => True) (fun _ => False) rfl (by first | (go_simp; done) | (go_simp; rfl)) rfl (fun _ hk => hk.elim) (fun _ _ => trivial) (Kd.R_mono hRS.out (fun _ _ => trivial)) HW.out HW.out.size (by simp) ?_; intro v1 w1 ho hb hg hat; (obtain ⟨As, cs, e1⟩ := Kd.R_slice ho); subst e1; have hmv := fun (g : Nat) (cs : Array Value) (e : Nat) (h : W2.heap[g]? = some (.cells cs e (0, 0))) (hn : g ≠ gS) => (hg.block g (blk_lt h) (by simp [Value.ownBlock]; exact hn)).trans h; have ps := (blk_cell (hmv gB _ _ HB2.out (by omega)) 0).trans rfl; have pf := blk_frozen (hmv gB _ _ HB2.out (by omega)) 0))
     have hSn := Aside0.mk (RowT.set (RowT.of rfl ho) (hmv gB _ _ HB2.out (by omega)) (by decide) 0 (.slice As 2 cs))
     have mB := Aside0.mk (blk_put (hmv gB _ _ HB2.out (by omega)) 0 (.slice As 2 cs) rfl)
     have mD := Aside0.mk (blk_far (hmv gD _ _ HD2.out (by omega)) (p := ⟨gB, 0, none⟩) (by show gD ≠ gB; omega) (.slice As 2 cs))
     have mA0 := Aside0.mk (blk_far (hmv gA0 _ _ HA02.out (by omega)) (p := ⟨gB, 0, none⟩) (by show gA0 ≠ gB; omega) (.slice As 2 cs))
     have mA1 := Aside0.mk (blk_far (hmv gA1 _ _ HA12.out (by omega)) (p := ⟨gB, 0, none⟩) (by show gA1 ≠ gB; omega) (.slice As 2 cs))
     have mC1 := Aside0.mk (blk_far (hmv gC1 _ _ HC12.out (by omega)) (p := ⟨gB, 0, none⟩) (by show gC1 ≠ gB; omega) (.slice As 2 cs))
     have mX := Aside0.mk (Kd.F_far (Kd.F_grown HX2.out hg (fun k hk he => hk.1 (by simpa [Value.ownBlock] using he))) (p := ⟨gB, 0, none⟩) (fun k hk => hk.2.2.2.2) (.slice As 2 cs))
     have mI := Aside0.mk (Kd.F_far (Kd.F_grown HI2.out hg (fun k hk he => hk.1 (by simpa [Value.ownBlock] using he))) (p := ⟨gB, 0, none⟩) (fun k hk => hk.2.2.2) (.slice As 2 cs))
     have mW := Aside0.mk (hb.setCell (p := ⟨gB, 0, none⟩) (by show w.heap.size ≤ gB; omega) (.slice As 2 cs))
     clear HB2 HD2 HA02 HA12 HC12 HX2 HI2 HW HS2 hRS hmv k0 kg kf ps pf ho hb hg hat
     generalize w1.setCell ⟨gB, 0, none⟩ (.slice As 2 cs) = W3 at *
     have HB3 := mB
     have HD3 := mD
     have HA03 := mA0
     have HA13 := mA1
     have HC13 := mC1
     have HX3 := mX
     have HI3 := mI
     have HW := mW
     clear mW mB mD mA0 mA1 mC1 mX mI
     cases b1
     ·skip
      go_upto_region 24 with (fail)
      have cS := (Kd.R_reads' hSn.out).2.2
      have lS := (Kd.R_reads' hSn.out).2.1
      have cI := Kd.F_now HI3.out
      have lI := hIC.out
      have cX := Kd.F_now HX3.out
      have lX := hXC.out
      have kD := bw_defs HA03.out HC13.out HA13.out cX rfl lX cI rfl lI
      have cD : Kd.C k45 W3 (some ⟨gD, 0, none⟩) ([⟨⟨#[83]⟩, [(List.replicate 9 ⟨false, []⟩)]⟩, ⟨⟨#[84]⟩, [[⟨false, [⟨2, ⟨#[]⟩, 1, 2⟩, ⟨0, ⟨#[85]⟩, 0, 0⟩]⟩]]⟩] : List S45).length [⟨⟨#[83]⟩, [(List.replicate 9 ⟨false, []⟩)]⟩, ⟨⟨#[84]⟩, [[⟨false, [⟨2, ⟨#[]⟩, 1, 2⟩, ⟨0, ⟨#[85]⟩, 0, 0⟩]⟩]]⟩] := C_lit HD3.out (Reps.c2 kD.1 (Reps.c2 kD.2 (Reps.none _ _))) (by decide)
      have lD : (2 : Nat) ≤ 2 := Nat.le_refl _
      have FB2 := Aside0.mk (show gram_Build.f k [⟨#[83]⟩, ⟨#[83]⟩] [⟨⟨#[83]⟩, [(List.replicate 9 ⟨false, []⟩)]⟩, ⟨⟨#[84]⟩, [[⟨false, [⟨2, ⟨#[]⟩, 1, 2⟩, ⟨0, ⟨#[85]⟩, 0, 0⟩]⟩]]⟩] = some (r1, r2, r3, ⟨#[]⟩, 400) from FB.out)
      have tl := (show (r2.length = 2 ↔ (400 : Int) = 0) from FL.out)
      have tL : ((r2.length : Int) == 2) = false := by rw [beq_eq_false_iff_ne]; intro h9; exact absurd (tl.1 (by omega)) (by decide)
      have k0 : W3.cell? ⟨gB, 0, none⟩ = some (.slice As 2 cs) := (blk_cell HB3.out 0).trans rfl
      have k1 : W3.cell? ⟨gB, 1, none⟩ = some (.slice (some ⟨gD, 0, none⟩) 2 2) := (blk_cell HB3.out 1).trans rfl
      have Z := Aside0.mk (And.intro cS (And.intro lS (And.intro cD (And.intro lD HW.out))))
      clear cS lS cD lD cI lI cX lX kD tl FB FL
      go_wp2_with (first | (go_at_call 14; (with_reducible refine (templelaw0_Num.calls 400 400 _ (bw_num 400)).mono ?_); rintro e w' ⟨rfl, ⟨nd, rfl⟩⟩) | (go_at_call 11; refine (gram_Build.calls k _ _ [⟨#[83]⟩, ⟨#[83]⟩] _ _ [⟨⟨#[83]⟩, [(List.replicate 9 ⟨false, []⟩)]⟩, ⟨⟨#[84]⟩, [[⟨false, [⟨2, ⟨#[]⟩, 1, 2⟩, ⟨0, ⟨#[85]⟩, 0, 0⟩]⟩]]⟩] r1 r2 r3 ⟨#[]⟩ 400 _ Z.out.1 Z.out.2.1 Z.out.2.2.1 Z.out.2.2.2.1 FB2.out).mono ?_; rintro e w2 ⟨v1, v2, rfl, h1, h2, hbq⟩; (obtain ⟨Aq, cq, rfl⟩ := Kd.R_slice h1); (obtain ⟨Ar, cr, rfl⟩ := Kd.R_slice h2); have Y := Aside0.mk hbq; clear h1 h2 hbq))
      go_ret
      exact ⟨by first | rfl | simp | simp [tL], pw_below_drewN (below_alloc (Z.out.2.2.2.2.trans (Y.out.mono Z.out.2.2.2.2.size)) _) _⟩
     ·skip
      go_upto_region 21 with (fail)
      have k0 : W3.cell? ⟨gB, 1, none⟩ = some (.slice (some ⟨gD, 0, none⟩) 2 2) := (blk_cell HB3.out 1).trans rfl
      have kg : W3.cell? ⟨gB, 0, none⟩ = some (.slice As 2 cs) := (blk_cell HB3.out 0).trans rfl
      have hal := below_alloc (Below.refl W3.heap.size W3) (.cells #[.string ⟨#[84]⟩, .slice none 0 0, .string ⟨#[83]⟩, .slice none 0 0] 45)
      have hRD := Aside0.mk (bw_row (d := Kd.raw 2) (base := w.heap.size) (n := 2) (xs := [[.string ⟨#[83]⟩, .slice (some ⟨gA0, 0, none⟩) 1 1], [.string ⟨#[84]⟩, .slice (some ⟨gA1, 0, none⟩) 1 1]]) (blk_alloc HD3.out (.cells #[.string ⟨#[84]⟩, .slice none 0 0, .string ⟨#[83]⟩, .slice none 0 0] 45)) (by omega) rfl (bw_raw (w := w)) (by simp))
      have hRL := Aside0.mk (C_lit (d := Kd.raw 2) (xs := [[.string ⟨#[84]⟩, .slice none 0 0], [.string ⟨#[83]⟩, .slice none 0 0]]) (blk_new W3 (.cells #[.string ⟨#[84]⟩, .slice none 0 0, .string ⟨#[83]⟩, .slice none 0 0] 45)) (Reps.c2 ⟨rfl, rfl, by simp [Value.oneCell']⟩ (Reps.c2 ⟨rfl, rfl, by simp [Value.oneCell']⟩ (Reps.none _ _))) (by decide))
      have hlt := Aside0.mk (below_alloc HW.out (.cells #[.string ⟨#[84]⟩, .slice none 0 0, .string ⟨#[83]⟩, .slice none 0 0] 45))
      go_upto_region 22 with (first | ((with_reducible refine gate_builtin (b := .append) (xs := #[.tmp 88, .tmp 91]) rfl ?_); at_builtin; refine Kd.R_append_rows (Kd.raw 2) (w0 := w) w.heap.size rfl (.tmp 88) (.tmp 91) 23 45 (.agg #[.string ⟨#[]⟩, .slice none 0 0]) 40 rfl Try.underlying23 bw_info45 rfl (by decide) (by omega) (.slice (some ⟨gD, 0, none⟩) 2 2) [[.string ⟨#[83]⟩, .slice (some ⟨gA0, 0, none⟩) 1 1], [.string ⟨#[84]⟩, .slice (some ⟨gA1, 0, none⟩) 1 1]] [[.string ⟨#[84]⟩, .slice none 0 0], [.string ⟨#[83]⟩, .slice none 0 0]] _ _ _ (fun _ => True) (fun _ => False) rfl rfl (Kd.R_mono hRD.out (fun _ _ => trivial)) hRL.out (fun _ _ h => h) (fun _ h => h.elim) (fun _ _ => trivial) hlt.out hlt.out.size (by simp) ?_; intro v1 w1 ho hb hg hat; (obtain ⟨Ad, cd, e1⟩ := Kd.R_slice ho); subst e1; have hmv := fun (g : Nat) (cs : Array Value) (e : Nat) (h : W3.heap[g]? = some (.cells cs e (0, 0))) (hn : g ≠ gD) => (hg.block g (blk_lt ((hal.block g (blk_lt h)).trans h)) (by simp [Value.ownBlock]; exact hn)).trans ((hal.block g (blk_lt h)).trans h); have ps := (blk_cell (hmv gB _ _ HB3.out (by omega)) 1).trans rfl; have pf := blk_frozen (hmv gB _ _ HB3.out (by omega)) 1))
      have hDn := Aside0.mk (RowT.set (RowT.of rfl ho) (hmv gB _ _ HB3.out (by omega)) (by decide) 1 (.slice Ad 4 cd))
      have hRW := Aside0.mk hRD.out
      have mB := Aside0.mk (blk_put (hmv gB _ _ HB3.out (by omega)) 1 (.slice Ad 4 cd) rfl)
      have mA0 := Aside0.mk (blk_far (hmv gA0 _ _ HA03.out (by omega)) (p := ⟨gB, 1, none⟩) (by show gA0 ≠ gB; omega) (.slice Ad 4 cd))
      have mA1 := Aside0.mk (blk_far (hmv gA1 _ _ HA13.out (by omega)) (p := ⟨gB, 1, none⟩) (by show gA1 ≠ gB; omega) (.slice Ad 4 cd))
      have mC1 := Aside0.mk (blk_far (hmv gC1 _ _ HC13.out (by omega)) (p := ⟨gB, 1, none⟩) (by show gC1 ≠ gB; omega) (.slice Ad 4 cd))
      have mX := Aside0.mk (Kd.F_far (Kd.F_grown (Kd.F_below HX3.out hal) hg (fun k hk he => hk.2.2.2.1 (by simpa [Value.ownBlock] using he))) (p := ⟨gB, 1, none⟩) (fun k hk => hk.2.2.2.2) (.slice Ad 4 cd))
      have mI := Aside0.mk (Kd.F_far (Kd.F_grown (Kd.F_below HI3.out hal) hg (fun k hk he => hk.2.2.1 (by simpa [Value.ownBlock] using he))) (p := ⟨gB, 1, none⟩) (fun k hk => hk.2.2.2) (.slice Ad 4 cd))
      have mS := Aside0.mk (RowT.set (RowT.other (RowT.box hSn.out hal) (RowT.of rfl hRD.out) (by decide) hg) (hmv gB _ _ HB3.out (by omega)) (by decide) 1 (.slice Ad 4 cd))
      have mW := Aside0.mk (hb.setCell (p := ⟨gB, 1, none⟩) (by show w.heap.size ≤ gB; omega) (.slice Ad 4 cd))
      clear HB3 HA03 HA13 HC13 HX3 HI3 hSn HW HD3 hRD hRL hRW hlt hmv hal k0 kg ps pf ho hb hg hat
      generalize w1.setCell ⟨gB, 1, none⟩ (.slice Ad 4 cd) = W4 at *
      have HB4 := mB
      have HA04 := mA0
      have HA14 := mA1
      have HC14 := mC1
      have HX4 := mX
      have HI4 := mI
      have HS4 := mS
      have HW := mW
      clear mW mB mA0 mA1 mC1 mX mI mS
      go_upto_region 24 with (fail)
      have cS := (Kd.R_reads' HS4.out).2.2
      have lS := (Kd.R_reads' HS4.out).2.1
      have cI := Kd.F_now HI4.out
      have lI := hIC.out
      have cX := Kd.F_now HX4.out
      have lX := hXC.out
      have kD := bw_defs HA04.out HC14.out HA14.out cX rfl lX cI rfl lI
      have kM := bw_more W4
      have cD := rows_C (d := k45) (xs := [⟨⟨#[83]⟩, [(List.replicate 9 ⟨false, []⟩)]⟩, ⟨⟨#[84]⟩, [[⟨false, [⟨2, ⟨#[]⟩, 1, 2⟩, ⟨0, ⟨#[85]⟩, 0, 0⟩]⟩]]⟩]) (ys := [⟨⟨#[84]⟩, []⟩, ⟨⟨#[83]⟩, []⟩]) rfl rfl (Kd.R_reads' hDn.out).2.2 (bw_two kD.1 kD.2) (bw_two kM.1 kM.2)
      have lD := (Kd.R_reads' hDn.out).2.1
      have FB2 := Aside0.mk (show gram_Build.f k [⟨#[83]⟩, ⟨#[83]⟩] [⟨⟨#[83]⟩, [(List.replicate 9 ⟨false, []⟩)]⟩, ⟨⟨#[84]⟩, [[⟨false, [⟨2, ⟨#[]⟩, 1, 2⟩, ⟨0, ⟨#[85]⟩, 0, 0⟩]⟩]]⟩, ⟨⟨#[84]⟩, []⟩, ⟨⟨#[83]⟩, []⟩] = some (r1, r2, r3, ⟨#[84]⟩, 401) from FB.out)
      have tl := (show (r2.length = 2 ↔ (401 : Int) = 0) from FL.out)
      have tL : ((r2.length : Int) == 2) = false := by rw [beq_eq_false_iff_ne]; intro h9; exact absurd (tl.1 (by omega)) (by decide)
      have k0 : W4.cell? ⟨gB, 0, none⟩ = some (.slice As 2 cs) := (blk_cell HB4.out 0).trans rfl
      have k1 : W4.cell? ⟨gB, 1, none⟩ = some (.slice Ad 4 cd) := (blk_cell HB4.out 1).trans rfl
      have Z := Aside0.mk (And.intro cS (And.intro lS (And.intro cD (And.intro lD HW.out))))
      clear cS lS cD lD cI lI cX lX kD tl FB FL kM
      go_wp2_with (first | (go_at_call 14; (with_reducible refine (templelaw0_Num.calls 401 401 _ (bw_num 401)).mono ?_); rintro e w' ⟨rfl, ⟨nd, rfl⟩⟩) | (go_at_call 11; refine (gram_Build.calls k _ _ [⟨#[83]⟩, ⟨#[83]⟩] _ _ [⟨⟨#[83]⟩, [(List.replicate 9 ⟨false, []⟩)]⟩, ⟨⟨#[84]⟩, [[⟨false, [⟨2, ⟨#[]⟩, 1, 2⟩, ⟨0, ⟨#[85]⟩, 0, 0⟩]⟩]]⟩, ⟨⟨#[84]⟩, []⟩, ⟨⟨#[83]⟩, []⟩] r1 r2 r3 ⟨#[84]⟩ 401 _ Z.out.1 Z.out.2.1 Z.out.2.2.1 Z.out.2.2.2.1 FB2.out).mono ?_; rintro e w2 ⟨v1, v2, rfl, h1, h2, hbq⟩; (obtain ⟨Aq, cq, rfl⟩ := Kd.R_slice h1); (obtain ⟨Ar, cr, rfl⟩ := Kd.R_slice h2); have Y := Aside0.mk hbq; clear h1 h2 hbq))
      go_ret
      exact ⟨by first | rfl | simp | simp [tL], pw_below_drewN (below_alloc (Z.out.2.2.2.2.trans (Y.out.mono Z.out.2.2.2.2.size)) _) _⟩
  ·skip
   go_upto_region 9 with (fail)
   have k0 : W1.cell? ⟨gB, 1, none⟩ = some (.slice (some ⟨gD, 0, none⟩) 2 2) := (blk_cell HB1.out 1).trans rfl
   have k1 : W1.cell? ⟨gD, 3, none⟩ = some (.slice (some ⟨gA1, 0, none⟩) 1 1) := (blk_cell HD1.out 3).trans rfl
   have k2 : W1.cell? ⟨gA1, 0, none⟩ = some (.slice (some ⟨gC1, 0, none⟩) 1 1) := (blk_cell HA11.out 0).trans rfl
   have k3 : W1.cell? ⟨gC1, 1, none⟩ = some (.slice (some ⟨gI1, 0, none⟩) 1 1) := (blk_cell HC11.out 1).trans rfl
   have k4 : W1.cell? ⟨gI1, 2, none⟩ = some (.int .i64 1) := (blk_cell HI1.out 2).trans rfl
   have kf := blk_frozen HI1.out 2
   go_upto_region 10 with (fail)
   have mB := Aside0.mk (blk_far HB1.out (p := ⟨gI1, 2, none⟩) (by show gB ≠ gI1; omega) (.int .i64 3))
   have mS := Aside0.mk (blk_far HS1.out (p := ⟨gI1, 2, none⟩) (by show gS ≠ gI1; omega) (.int .i64 3))
   have mD := Aside0.mk (blk_far HD1.out (p := ⟨gI1, 2, none⟩) (by show gD ≠ gI1; omega) (.int .i64 3))
   have mA0 := Aside0.mk (blk_far HA01.out (p := ⟨gI1, 2, none⟩) (by show gA0 ≠ gI1; omega) (.int .i64 3))
   have mA1 := Aside0.mk (blk_far HA11.out (p := ⟨gI1, 2, none⟩) (by show gA1 ≠ gI1; omega) (.int .i64 3))
   have mC1 := Aside0.mk (blk_far HC11.out (p := ⟨gI1, 2, none⟩) (by show gC1 ≠ gI1; omega) (.int .i64 3))
   have mI := Aside0.mk (blk_put HI1.out 2 (.int .i64 3) rfl)
   have mX := Aside0.mk (Kd.F_far HX1.out (p := ⟨gI1, 2, none⟩) (fun k hk => hk.2.1) (.int .i64 3))
   have mW := Aside0.mk (HW.out.setCell (p := ⟨gI1, 2, none⟩) (by show w.heap.size ≤ gI1; omega) (.int .i64 3))
   clear HB1 HS1 HD1 HA01 HA11 HC11 HI1 HX1 HW k0 k1 k2 k3 k4 kf
   generalize W1.setCell ⟨gI1, 2, none⟩ (.int .i64 3) = W2 at *
   have HB2 := mB
   have HS2 := mS
   have HD2 := mD
   have HA02 := mA0
   have HA12 := mA1
   have HC12 := mC1
   have HI2 := mI
   have HX2 := mX
   have HW := mW
   clear mW mB mS mD mA0 mA1 mC1 mI mX
   cases b4
   ·skip
    cases b2
    ·skip
     cases b1
     ·skip
      go_upto_region 24 with (fail)
      have cS : Kd.C Kd.string W2 (some ⟨gS, 0, none⟩) [(⟨#[83]⟩ : ByteArray)].length [⟨#[83]⟩] := C_lit HS2.out (Reps.one rfl (Reps.none _ _)) (by decide)
      have lS : [(⟨#[83]⟩ : ByteArray)].length ≤ 1 := Nat.le_refl _
      have cI := bw_item HI2.out
      have lI : (1 : Nat) ≤ 1 := Nat.le_refl _
      have cX := Kd.F_now HX2.out
      have lX := hXC.out
      have kD := bw_defs HA02.out HC12.out HA12.out cX rfl lX cI rfl lI
      have cD : Kd.C k45 W2 (some ⟨gD, 0, none⟩) ([⟨⟨#[83]⟩, [(List.replicate 9 ⟨false, []⟩)]⟩, ⟨⟨#[84]⟩, [[⟨false, [⟨2, ⟨#[]⟩, 3, 2⟩]⟩]]⟩] : List S45).length [⟨⟨#[83]⟩, [(List.replicate 9 ⟨false, []⟩)]⟩, ⟨⟨#[84]⟩, [[⟨false, [⟨2, ⟨#[]⟩, 3, 2⟩]⟩]]⟩] := C_lit HD2.out (Reps.c2 kD.1 (Reps.c2 kD.2 (Reps.none _ _))) (by decide)
      have lD : (2 : Nat) ≤ 2 := Nat.le_refl _
      have FB2 := Aside0.mk (show gram_Build.f k [⟨#[83]⟩] [⟨⟨#[83]⟩, [(List.replicate 9 ⟨false, []⟩)]⟩, ⟨⟨#[84]⟩, [[⟨false, [⟨2, ⟨#[]⟩, 3, 2⟩]⟩]]⟩] = some (r1, r2, r3, ⟨#[84]⟩, 403) from FB.out)
      have tl := (show (r2.length = 2 ↔ (403 : Int) = 0) from FL.out)
      have tL : ((r2.length : Int) == 2) = false := by rw [beq_eq_false_iff_ne]; intro h9; exact absurd (tl.1 (by omega)) (by decide)
      have k0 : W2.cell? ⟨gB, 0, none⟩ = some (.slice (some ⟨gS, 0, none⟩) 1 1) := (blk_cell HB2.out 0).trans rfl
      have k1 : W2.cell? ⟨gB, 1, none⟩ = some (.slice (some ⟨gD, 0, none⟩) 2 2) := (blk_cell HB2.out 1).trans rfl
      have Z := Aside0.mk (And.intro cS (And.intro lS (And.intro cD (And.intro lD HW.out))))
      clear cS lS cD lD cI lI cX lX kD tl FB FL
      go_wp2_with (first | (go_at_call 14; (with_reducible refine (templelaw0_Num.calls 403 403 _ (bw_num 403)).mono ?_); rintro e w' ⟨rfl, ⟨nd, rfl⟩⟩) | (go_at_call 11; refine (gram_Build.calls k _ _ [⟨#[83]⟩] _ _ [⟨⟨#[83]⟩, [(List.replicate 9 ⟨false, []⟩)]⟩, ⟨⟨#[84]⟩, [[⟨false, [⟨2, ⟨#[]⟩, 3, 2⟩]⟩]]⟩] r1 r2 r3 ⟨#[84]⟩ 403 _ Z.out.1 Z.out.2.1 Z.out.2.2.1 Z.out.2.2.2.1 FB2.out).mono ?_; rintro e w2 ⟨v1, v2, rfl, h1, h2, hbq⟩; (obtain ⟨Aq, cq, rfl⟩ := Kd.R_slice h1); (obtain ⟨Ar, cr, rfl⟩ := Kd.R_slice h2); have Y := Aside0.mk hbq; clear h1 h2 hbq))
      go_ret
      exact ⟨by first | rfl | simp | simp [tL], pw_below_drewN (below_alloc (Z.out.2.2.2.2.trans (Y.out.mono Z.out.2.2.2.2.size)) _) _⟩
     ·skip
      go_upto_region 21 with (fail)
      have k0 : W2.cell? ⟨gB, 1, none⟩ = some (.slice (some ⟨gD, 0, none⟩) 2 2) := (blk_cell HB2.out 1).trans rfl
      have kg : W2.cell? ⟨gB, 0, none⟩ = some (.slice (some ⟨gS, 0, none⟩) 1 1) := (blk_cell HB2.out 0).trans rfl
      have hal := below_alloc (Below.refl W2.heap.size W2) (.cells #[.string ⟨#[84]⟩, .slice none 0 0, .string ⟨#[83]⟩, .slice none 0 0] 45)
      have hRD := Aside0.mk (bw_row (d := Kd.raw 2) (base := w.heap.size) (n := 2) (xs := [[.string ⟨#[83]⟩, .slice (some ⟨gA0, 0, none⟩) 1 1], [.string ⟨#[84]⟩, .slice (some ⟨gA1, 0, none⟩) 1 1]]) (blk_alloc HD2.out (.cells #[.string ⟨#[84]⟩, .slice none 0 0, .string ⟨#[83]⟩, .slice none 0 0] 45)) (by omega) rfl (bw_raw (w := w)) (by simp))
      have hRL := Aside0.mk (C_lit (d := Kd.raw 2) (xs := [[.string ⟨#[84]⟩, .slice none 0 0], [.string ⟨#[83]⟩, .slice none 0 0]]) (blk_new W2 (.cells #[.string ⟨#[84]⟩, .slice none 0 0, .string ⟨#[83]⟩, .slice none 0 0] 45)) (Reps.c2 ⟨rfl, rfl, by simp [Value.oneCell']⟩ (Reps.c2 ⟨rfl, rfl, by simp [Value.oneCell']⟩ (Reps.none _ _))) (by decide))
      have hlt := Aside0.mk (below_alloc HW.out (.cells #[.string ⟨#[84]⟩, .slice none 0 0, .string ⟨#[83]⟩, .slice none 0 0] 45))
      go_upto_region 22 with (first | ((with_reducible refine gate_builtin (b := .append) (xs := #[.tmp 88, .tmp 91]) rfl ?_); at_builtin; refine Kd.R_append_rows (Kd.raw 2) (w0 := w) w.heap.size rfl (.tmp 88) (.tmp 91) 23 45 (.agg #[.string ⟨#[]⟩, .slice none 0 0]) 40 rfl Try.underlying23 bw_info45 rfl (by decide) (by omega) (.slice (some ⟨gD, 0, none⟩) 2 2) [[.string ⟨#[83]⟩, .slice (some ⟨gA0, 0, none⟩) 1 1], [.string ⟨#[84]⟩, .slice (some ⟨gA1, 0, none⟩) 1 1]] [[.string ⟨#[84]⟩, .slice none 0 0], [.string ⟨#[83]⟩, .slice none 0 0]] _ _ _ (fun _ => True) (fun _ => False) rfl rfl (Kd.R_mono hRD.out (fun _ _ => trivial)) hRL.out (fun _ _ h => h) (fun _ h => h.elim) (fun _ _ => trivial) hlt.out hlt.out.size (by simp) ?_; intro v1 w1 ho hb hg hat; (obtain ⟨Ad, cd, e1⟩ := Kd.R_slice ho); subst e1; have hmv := fun (g : Nat) (cs : Array Value) (e : Nat) (h : W2.heap[g]? = some (.cells cs e (0, 0))) (hn : g ≠ gD) => (hg.block g (blk_lt ((hal.block g (blk_lt h)).trans h)) (by simp [Value.ownBlock]; exact hn)).trans ((hal.block g (blk_lt h)).trans h); have ps := (blk_cell (hmv gB _ _ HB2.out (by omega)) 1).trans rfl; have pf := blk_frozen (hmv gB _ _ HB2.out (by omega)) 1))
      have hDn := Aside0.mk (RowT.set (RowT.of rfl ho) (hmv gB _ _ HB2.out (by omega)) (by decide) 1 (.slice Ad 4 cd))
      have hRW := Aside0.mk hRD.out
      have mB := Aside0.mk (blk_put (hmv gB _ _ HB2.out (by omega)) 1 (.slice Ad 4 cd) rfl)
      have mS := Aside0.mk (blk_far (hmv gS _ _ HS2.out (by omega)) (p := ⟨gB, 1, none⟩) (by show gS ≠ gB; omega) (.slice Ad 4 cd))
      have mA0 := Aside0.mk (blk_far (hmv gA0 _ _ HA02.out (by omega)) (p := ⟨gB, 1, none⟩) (by show gA0 ≠ gB; omega) (.slice Ad 4 cd))
      have mA1 := Aside0.mk (blk_far (hmv gA1 _ _ HA12.out (by omega)) (p := ⟨gB, 1, none⟩) (by show gA1 ≠ gB; omega) (.slice Ad 4 cd))
      have mC1 := Aside0.mk (blk_far (hmv gC1 _ _ HC12.out (by omega)) (p := ⟨gB, 1, none⟩) (by show gC1 ≠ gB; omega) (.slice Ad 4 cd))
      have mI := Aside0.mk (blk_far (hmv gI1 _ _ HI2.out (by omega)) (p := ⟨gB, 1, none⟩) (by show gI1 ≠ gB; omega) (.slice Ad 4 cd))
      have mX := Aside0.mk (Kd.F_far (Kd.F_grown (Kd.F_below HX2.out hal) hg (fun k hk he => hk.2.2.2.1 (by simpa [Value.ownBlock] using he))) (p := ⟨gB, 1, none⟩) (fun k hk => hk.2.2.2.2) (.slice Ad 4 cd))
      have mW := Aside0.mk (hb.setCell (p := ⟨gB, 1, none⟩) (by show w.heap.size ≤ gB; omega) (.slice Ad 4 cd))
      clear HB2 HS2 HA02 HA12 HC12 HI2 HX2 HW HD2 hRD hRL hRW hlt hmv hal k0 kg ps pf ho hb hg hat
      generalize w1.setCell ⟨gB, 1, none⟩ (.slice Ad 4 cd) = W3 at *
      have HB3 := mB
      have HS3 := mS
      have HA03 := mA0
      have HA13 := mA1
      have HC13 := mC1
      have HI3 := mI
      have HX3 := mX
      have HW := mW
      clear mW mB mS mA0 mA1 mC1 mI mX
      go_upto_region 24 with (fail)
      have cS : Kd.C Kd.string W3 (some ⟨gS, 0, none⟩) [(⟨#[83]⟩ : ByteArray)].length [⟨#[83]⟩] := C_lit HS3.out (Reps.one rfl (Reps.none _ _)) (by decide)
      have lS : [(⟨#[83]⟩ : ByteArray)].length ≤ 1 := Nat.le_refl _
      have cI := bw_item HI3.out
      have lI : (1 : Nat) ≤ 1 := Nat.le_refl _
      have cX := Kd.F_now HX3.out
      have lX := hXC.out
      have kD := bw_defs HA03.out HC13.out HA13.out cX rfl lX cI rfl lI
      have kM := bw_more W3
      have cD := rows_C (d := k45) (xs := [⟨⟨#[83]⟩, [(List.replicate 9 ⟨false, []⟩)]⟩, ⟨⟨#[84]⟩, [[⟨false, [⟨2, ⟨#[]⟩, 3, 2⟩]⟩]]⟩]) (ys := [⟨⟨#[84]⟩, []⟩, ⟨⟨#[83]⟩, []⟩]) rfl rfl (Kd.R_reads' hDn.out).2.2 (bw_two kD.1 kD.2) (bw_two kM.1 kM.2)
      have lD := (Kd.R_reads' hDn.out).2.1
      have FB2 := Aside0.mk (show gram_Build.f k [⟨#[83]⟩] [⟨⟨#[83]⟩, [(List.replicate 9 ⟨false, []⟩)]⟩, ⟨⟨#[84]⟩, [[⟨false, [⟨2, ⟨#[]⟩, 3, 2⟩]⟩]]⟩, ⟨⟨#[84]⟩, []⟩, ⟨⟨#[83]⟩, []⟩] = some (r1, r2, r3, ⟨#[84]⟩, 401) from FB.out)
      have tl := (show (r2.length = 2 ↔ (401 : Int) = 0) from FL.out)
      have tL : ((r2.length : Int) == 2) = false := by rw [beq_eq_false_iff_ne]; intro h9; exact absurd (tl.1 (by omega)) (by decide)
      have k0 : W3.cell? ⟨gB, 0, none⟩ = some (.slice (some ⟨gS, 0, none⟩) 1 1) := (blk_cell HB3.out 0).trans rfl
      have k1 : W3.cell? ⟨gB, 1, none⟩ = some (.slice Ad 4 cd) := (blk_cell HB3.out 1).trans rfl
      have Z := Aside0.mk (And.intro cS (And.intro lS (And.intro cD (And.intro lD HW.out))))
      clear cS lS cD lD cI lI cX lX kD tl FB FL kM
      go_wp2_with (first | (go_at_call 14; (with_reducible refine (templelaw0_Num.calls 401 401 _ (bw_num 401)).mono ?_); rintro e w' ⟨rfl, ⟨nd, rfl⟩⟩) | (go_at_call 11; refine (gram_Build.calls k _ _ [⟨#[83]⟩] _ _ [⟨⟨#[83]⟩, [(List.replicate 9 ⟨false, []⟩)]⟩, ⟨⟨#[84]⟩, [[⟨false, [⟨2, ⟨#[]⟩, 3, 2⟩]⟩]]⟩, ⟨⟨#[84]⟩, []⟩, ⟨⟨#[83]⟩, []⟩] r1 r2 r3 ⟨#[84]⟩ 401 _ Z.out.1 Z.out.2.1 Z.out.2.2.1 Z.out.2.2.2.1 FB2.out).mono ?_; rintro e w2 ⟨v1, v2, rfl, h1, h2, hbq⟩; (obtain ⟨Aq, cq, rfl⟩ := Kd.R_slice h1); (obtain ⟨Ar, cr, rfl⟩ := Kd.R_slice h2); have Y := Aside0.mk hbq; clear h1 h2 hbq))
      go_ret
      exact ⟨by first | rfl | simp | simp [tL], pw_below_drewN (below_alloc (Z.out.2.2.2.2.trans (Y.out.mono Z.out.2.2.2.2.size)) _) _⟩
    ·skip
     go_upto_region 17 with (fail)
     have k0 : W2.cell? ⟨gB, 0, none⟩ = some (.slice (some ⟨gS, 0, none⟩) 1 1) := (blk_cell HB2.out 0).trans rfl
     have kg : W2.cell? ⟨gB, 1, none⟩ = some (.slice (some ⟨gD, 0, none⟩) 2 2) := (blk_cell HB2.out 1).trans rfl
     have kf := blk_frozen HB2.out 0
     have hRS := Aside0.mk (bw_row (d := Kd.string) (base := w.heap.size) (n := 1) (xs := [⟨#[83]⟩]) HS2.out (by omega) rfl (Reps.one rfl (Reps.none _ _)) (by decide))
     go_upto_region 18 with (first | ((with_reducible refine gate_builtin (b := .append) (xs := #[.tmp 80, .tmp 81]) rfl ?_); at_builtin; refine Kd.R_append Kd.string (w0 := w) (W := W2) w.heap.size rfl (.tmp 80) (.tmp 81) 22 9 (.string ⟨#[]⟩) 16 rfl Try.underlying22 bw_info9 rfl (by decide) (by omega) (.slice (some ⟨gS, 0, none⟩) 1 1) [⟨#[83]⟩] ⟨#[83]⟩ [.string ⟨#[83]⟩] (fun _ => True) (fun _ => False) rfl (by first | (go_simp; done) | (go_simp; rfl)) rfl (fun _ hk => hk.elim) (fun _ _ => trivial) (Kd.R_mono hRS.out (fun _ _ => trivial)) HW.out HW.out.size (by simp) ?_; intro v1 w1 ho hb hg hat; (obtain ⟨As, cs, e1⟩ := Kd.R_slice ho); subst e1; have hmv := fun (g : Nat) (cs : Array Value) (e : Nat) (h : W2.heap[g]? = some (.cells cs e (0, 0))) (hn : g ≠ gS) => (hg.block g (blk_lt h) (by simp [Value.ownBlock]; exact hn)).trans h; have ps := (blk_cell (hmv gB _ _ HB2.out (by omega)) 0).trans rfl; have pf := blk_frozen (hmv gB _ _ HB2.out (by omega)) 0))
     have hSn := Aside0.mk (RowT.set (RowT.of rfl ho) (hmv gB _ _ HB2.out (by omega)) (by decide) 0 (.slice As 2 cs))
     have mB := Aside0.mk (blk_put (hmv gB _ _ HB2.out (by omega)) 0 (.slice As 2 cs) rfl)
     have mD := Aside0.mk (blk_far (hmv gD _ _ HD2.out (by omega)) (p := ⟨gB, 0, none⟩) (by show gD ≠ gB; omega) (.slice As 2 cs))
     have mA0 := Aside0.mk (blk_far (hmv gA0 _ _ HA02.out (by omega)) (p := ⟨gB, 0, none⟩) (by show gA0 ≠ gB; omega) (.slice As 2 cs))
     have mA1 := Aside0.mk (blk_far (hmv gA1 _ _ HA12.out (by omega)) (p := ⟨gB, 0, none⟩) (by show gA1 ≠ gB; omega) (.slice As 2 cs))
     have mC1 := Aside0.mk (blk_far (hmv gC1 _ _ HC12.out (by omega)) (p := ⟨gB, 0, none⟩) (by show gC1 ≠ gB; omega) (.slice As 2 cs))
     have mI := Aside0.mk (blk_far (hmv gI1 _ _ HI2.out (by omega)) (p := ⟨gB, 0, none⟩) (by show gI1 ≠ gB; omega) (.slice As 2 cs))
     have mX := Aside0.mk (Kd.F_far (Kd.F_grown HX2.out hg (fun k hk he => hk.1 (by simpa [Value.ownBlock] using he))) (p := ⟨gB, 0, none⟩) (fun k hk => hk.2.2.2.2) (.slice As 2 cs))
     have mW := Aside0.mk (hb.setCell (p := ⟨gB, 0, none⟩) (by show w.heap.size ≤ gB; omega) (.slice As 2 cs))
     clear HB2 HD2 HA02 HA12 HC12 HI2 HX2 HW HS2 hRS hmv k0 kg kf ps pf ho hb hg hat
     generalize w1.setCell ⟨gB, 0, none⟩ (.slice As 2 cs) = W3 at *
     have HB3 := mB
     have HD3 := mD
     have HA03 := mA0
     have HA13 := mA1
     have HC13 := mC1
     have HI3 := mI
     have HX3 := mX
     have HW := mW
     clear mW mB mD mA0 mA1 mC1 mI mX
     cases b1
     ·skip
      go_upto_region 24 with (fail)
      have cS := (Kd.R_reads' hSn.out).2.2
      have lS := (Kd.R_reads' hSn.out).2.1
      have cI := bw_item HI3.out
      have lI : (1 : Nat) ≤ 1 := Nat.le_refl _
      have cX := Kd.F_now HX3.out
      have lX := hXC.out
      have kD := bw_defs HA03.out HC13.out HA13.out cX rfl lX cI rfl lI
      have cD : Kd.C k45 W3 (some ⟨gD, 0, none⟩) ([⟨⟨#[83]⟩, [(List.replicate 9 ⟨false, []⟩)]⟩, ⟨⟨#[84]⟩, [[⟨false, [⟨2, ⟨#[]⟩, 3, 2⟩]⟩]]⟩] : List S45).length [⟨⟨#[83]⟩, [(List.replicate 9 ⟨false, []⟩)]⟩, ⟨⟨#[84]⟩, [[⟨false, [⟨2, ⟨#[]⟩, 3, 2⟩]⟩]]⟩] := C_lit HD3.out (Reps.c2 kD.1 (Reps.c2 kD.2 (Reps.none _ _))) (by decide)
      have lD : (2 : Nat) ≤ 2 := Nat.le_refl _
      have FB2 := Aside0.mk (show gram_Build.f k [⟨#[83]⟩, ⟨#[83]⟩] [⟨⟨#[83]⟩, [(List.replicate 9 ⟨false, []⟩)]⟩, ⟨⟨#[84]⟩, [[⟨false, [⟨2, ⟨#[]⟩, 3, 2⟩]⟩]]⟩] = some (r1, r2, r3, ⟨#[]⟩, 400) from FB.out)
      have tl := (show (r2.length = 2 ↔ (400 : Int) = 0) from FL.out)
      have tL : ((r2.length : Int) == 2) = false := by rw [beq_eq_false_iff_ne]; intro h9; exact absurd (tl.1 (by omega)) (by decide)
      have k0 : W3.cell? ⟨gB, 0, none⟩ = some (.slice As 2 cs) := (blk_cell HB3.out 0).trans rfl
      have k1 : W3.cell? ⟨gB, 1, none⟩ = some (.slice (some ⟨gD, 0, none⟩) 2 2) := (blk_cell HB3.out 1).trans rfl
      have Z := Aside0.mk (And.intro cS (And.intro lS (And.intro cD (And.intro lD HW.out))))
      clear cS lS cD lD cI lI cX lX kD tl FB FL
      go_wp2_with (first | (go_at_call 14; (with_reducible refine (templelaw0_Num.calls 400 400 _ (bw_num 400)).mono ?_); rintro e w' ⟨rfl, ⟨nd, rfl⟩⟩) | (go_at_call 11; refine (gram_Build.calls k _ _ [⟨#[83]⟩, ⟨#[83]⟩] _ _ [⟨⟨#[83]⟩, [(List.replicate 9 ⟨false, []⟩)]⟩, ⟨⟨#[84]⟩, [[⟨false, [⟨2, ⟨#[]⟩, 3, 2⟩]⟩]]⟩] r1 r2 r3 ⟨#[]⟩ 400 _ Z.out.1 Z.out.2.1 Z.out.2.2.1 Z.out.2.2.2.1 FB2.out).mono ?_; rintro e w2 ⟨v1, v2, rfl, h1, h2, hbq⟩; (obtain ⟨Aq, cq, rfl⟩ := Kd.R_slice h1); (obtain ⟨Ar, cr, rfl⟩ := Kd.R_slice h2); have Y := Aside0.mk hbq; clear h1 h2 hbq))
      go_ret
      exact ⟨by first | rfl | simp | simp [tL], pw_below_drewN (below_alloc (Z.out.2.2.2.2.trans (Y.out.mono Z.out.2.2.2.2.size)) _) _⟩
     ·skip
      go_upto_region 21 with (fail)
      have k0 : W3.cell? ⟨gB, 1, none⟩ = some (.slice (some ⟨gD, 0, none⟩) 2 2) := (blk_cell HB3.out 1).trans rfl
      have kg : W3.cell? ⟨gB, 0, none⟩ = some (.slice As 2 cs) := (blk_cell HB3.out 0).trans rfl
      have hal := below_alloc (Below.refl W3.heap.size W3) (.cells #[.string ⟨#[84]⟩, .slice none 0 0, .string ⟨#[83]⟩, .slice none 0 0] 45)
      have hRD := Aside0.mk (bw_row (d := Kd.raw 2) (base := w.heap.size) (n := 2) (xs := [[.string ⟨#[83]⟩, .slice (some ⟨gA0, 0, none⟩) 1 1], [.string ⟨#[84]⟩, .slice (some ⟨gA1, 0, none⟩) 1 1]]) (blk_alloc HD3.out (.cells #[.string ⟨#[84]⟩, .slice none 0 0, .string ⟨#[83]⟩, .slice none 0 0] 45)) (by omega) rfl (bw_raw (w := w)) (by simp))
      have hRL := Aside0.mk (C_lit (d := Kd.raw 2) (xs := [[.string ⟨#[84]⟩, .slice none 0 0], [.string ⟨#[83]⟩, .slice none 0 0]]) (blk_new W3 (.cells #[.string ⟨#[84]⟩, .slice none 0 0, .string ⟨#[83]⟩, .slice none 0 0] 45)) (Reps.c2 ⟨rfl, rfl, by simp [Value.oneCell']⟩ (Reps.c2 ⟨rfl, rfl, by simp [Value.oneCell']⟩ (Reps.none _ _))) (by decide))
      have hlt := Aside0.mk (below_alloc HW.out (.cells #[.string ⟨#[84]⟩, .slice none 0 0, .string ⟨#[83]⟩, .slice none 0 0] 45))
      go_upto_region 22 with (first | ((with_reducible refine gate_builtin (b := .append) (xs := #[.tmp 88, .tmp 91]) rfl ?_); at_builtin; refine Kd.R_append_rows (Kd.raw 2) (w0 := w) w.heap.size rfl (.tmp 88) (.tmp 91) 23 45 (.agg #[.string ⟨#[]⟩, .slice none 0 0]) 40 rfl Try.underlying23 bw_info45 rfl (by decide) (by omega) (.slice (some ⟨gD, 0, none⟩) 2 2) [[.string ⟨#[83]⟩, .slice (some ⟨gA0, 0, none⟩) 1 1], [.string ⟨#[84]⟩, .slice (some ⟨gA1, 0, none⟩) 1 1]] [[.string ⟨#[84]⟩, .slice none 0 0], [.string ⟨#[83]⟩, .slice none 0 0]] _ _ _ (fun _ => True) (fun _ => False) rfl rfl (Kd.R_mono hRD.out (fun _ _ => trivial)) hRL.out (fun _ _ h => h) (fun _ h => h.elim) (fun _ _ => trivial) hlt.out hlt.out.size (by simp) ?_; intro v1 w1 ho hb hg hat; (obtain ⟨Ad, cd, e1⟩ := Kd.R_slice ho); subst e1; have hmv := fun (g : Nat) (cs : Array Value) (e : Nat) (h : W3.heap[g]? = some (.cells cs e (0, 0))) (hn : g ≠ gD) => (hg.block g (blk_lt ((hal.block g (blk_lt h)).trans h)) (by simp [Value.ownBlock]; exact hn)).trans ((hal.block g (blk_lt h)).trans h); have ps := (blk_cell (hmv gB _ _ HB3.out (by omega)) 1).trans rfl; have pf := blk_frozen (hmv gB _ _ HB3.out (by omega)) 1))
      have hDn := Aside0.mk (RowT.set (RowT.of rfl ho) (hmv gB _ _ HB3.out (by omega)) (by decide) 1 (.slice Ad 4 cd))
      have hRW := Aside0.mk hRD.out
      have mB := Aside0.mk (blk_put (hmv gB _ _ HB3.out (by omega)) 1 (.slice Ad 4 cd) rfl)
      have mA0 := Aside0.mk (blk_far (hmv gA0 _ _ HA03.out (by omega)) (p := ⟨gB, 1, none⟩) (by show gA0 ≠ gB; omega) (.slice Ad 4 cd))
      have mA1 := Aside0.mk (blk_far (hmv gA1 _ _ HA13.out (by omega)) (p := ⟨gB, 1, none⟩) (by show gA1 ≠ gB; omega) (.slice Ad 4 cd))
      have mC1 := Aside0.mk (blk_far (hmv gC1 _ _ HC13.out (by omega)) (p := ⟨gB, 1, none⟩) (by show gC1 ≠ gB; omega) (.slice Ad 4 cd))
      have mI := Aside0.mk (blk_far (hmv gI1 _ _ HI3.out (by omega)) (p := ⟨gB, 1, none⟩) (by show gI1 ≠ gB; omega) (.slice Ad 4 cd))
      have mX := Aside0.mk (Kd.F_far (Kd.F_grown (Kd.F_below HX3.out hal) hg (fun k hk he => hk.2.2.2.1 (by simpa [Value.ownBlock] using he))) (p := ⟨gB, 1, none⟩) (fun k hk => hk.2.2.2.2) (.slice Ad 4 cd))
      have mS := Aside0.mk (RowT.set (RowT.other (RowT.box hSn.out hal) (RowT.of rfl hRD.out) (by decide) hg) (hmv gB _ _ HB3.out (by omega)) (by decide) 1 (.slice Ad 4 cd))
      have mW := Aside0.mk (hb.setCell (p := ⟨gB, 1, none⟩) (by show w.heap.size ≤ gB; omega) (.slice Ad 4 cd))
      clear HB3 HA03 HA13 HC13 HI3 HX3 hSn HW HD3 hRD hRL hRW hlt hmv hal k0 kg ps pf ho hb hg hat
      generalize w1.setCell ⟨gB, 1, none⟩ (.slice Ad 4 cd) = W4 at *
      have HB4 := mB
      have HA04 := mA0
      have HA14 := mA1
      have HC14 := mC1
      have HI4 := mI
      have HX4 := mX
      have HS4 := mS
      have HW := mW
      clear mW mB mA0 mA1 mC1 mI mX mS
      go_upto_region 24 with (fail)
      have cS := (Kd.R_reads' HS4.out).2.2
      have lS := (Kd.R_reads' HS4.out).2.1
      have cI := bw_item HI4.out
      have lI : (1 : Nat) ≤ 1 := Nat.le_refl _
      have cX := Kd.F_now HX4.out
      have lX := hXC.out
      have kD := bw_defs HA04.out HC14.out HA14.out cX rfl lX cI rfl lI
      have kM := bw_more W4
      have cD := rows_C (d := k45) (xs := [⟨⟨#[83]⟩, [(List.replicate 9 ⟨false, []⟩)]⟩, ⟨⟨#[84]⟩, [[⟨false, [⟨2, ⟨#[]⟩, 3, 2⟩]⟩]]⟩]) (ys := [⟨⟨#[84]⟩, []⟩, ⟨⟨#[83]⟩, []⟩]) rfl rfl (Kd.R_reads' hDn.out).2.2 (bw_two kD.1 kD.2) (bw_two kM.1 kM.2)
      have lD := (Kd.R_reads' hDn.out).2.1
      have FB2 := Aside0.mk (show gram_Build.f k [⟨#[83]⟩, ⟨#[83]⟩] [⟨⟨#[83]⟩, [(List.replicate 9 ⟨false, []⟩)]⟩, ⟨⟨#[84]⟩, [[⟨false, [⟨2, ⟨#[]⟩, 3, 2⟩]⟩]]⟩, ⟨⟨#[84]⟩, []⟩, ⟨⟨#[83]⟩, []⟩] = some (r1, r2, r3, ⟨#[84]⟩, 401) from FB.out)
      have tl := (show (r2.length = 2 ↔ (401 : Int) = 0) from FL.out)
      have tL : ((r2.length : Int) == 2) = false := by rw [beq_eq_false_iff_ne]; intro h9; exact absurd (tl.1 (by omega)) (by decide)
      have k0 : W4.cell? ⟨gB, 0, none⟩ = some (.slice As 2 cs) := (blk_cell HB4.out 0).trans rfl
      have k1 : W4.cell? ⟨gB, 1, none⟩ = some (.slice Ad 4 cd) := (blk_cell HB4.out 1).trans rfl
      have Z := Aside0.mk (And.intro cS (And.intro lS (And.intro cD (And.intro lD HW.out))))
      clear cS lS cD lD cI lI cX lX kD tl FB FL kM
      go_wp2_with (first | (go_at_call 14; (with_reducible refine (templelaw0_Num.calls 401 401 _ (bw_num 401)).mono ?_); rintro e w' ⟨rfl, ⟨nd, rfl⟩⟩) | (go_at_call 11; refine (gram_Build.calls k _ _ [⟨#[83]⟩, ⟨#[83]⟩] _ _ [⟨⟨#[83]⟩, [(List.replicate 9 ⟨false, []⟩)]⟩, ⟨⟨#[84]⟩, [[⟨false, [⟨2, ⟨#[]⟩, 3, 2⟩]⟩]]⟩, ⟨⟨#[84]⟩, []⟩, ⟨⟨#[83]⟩, []⟩] r1 r2 r3 ⟨#[84]⟩ 401 _ Z.out.1 Z.out.2.1 Z.out.2.2.1 Z.out.2.2.2.1 FB2.out).mono ?_; rintro e w2 ⟨v1, v2, rfl, h1, h2, hbq⟩; (obtain ⟨Aq, cq, rfl⟩ := Kd.R_slice h1); (obtain ⟨Ar, cr, rfl⟩ := Kd.R_slice h2); have Y := Aside0.mk hbq; clear h1 h2 hbq))
      go_ret
      exact ⟨by first | rfl | simp | simp [tL], pw_below_drewN (below_alloc (Z.out.2.2.2.2.trans (Y.out.mono Z.out.2.2.2.2.size)) _) _⟩
   ·skip
    go_upto_region 13 with (fail)
    have hSz : ∀ w', Below W2.heap.size W2 w' → w'.cell? ⟨gB, 1, none⟩ = some (.slice (some ⟨gD, 0, none⟩) 2 2) ∧ w'.cell? ⟨gD, 3, none⟩ = some (.slice (some ⟨gA1, 0, none⟩) 1 1) ∧ w'.cell? ⟨gA1, 0, none⟩ = some (.slice (some ⟨gC1, 0, none⟩) 1 1) ∧ w'.cell? ⟨gC1, 1, none⟩ = some (.slice (some ⟨gI1, 0, none⟩) 1 1) ∧ w'.frozen? ⟨gC1, 1, none⟩ = false ∧ Aside0 (Below W2.heap.size W2 w') := fun w' h => ⟨(blk_cell ((h.block gB (blk_lt HB2.out)).trans HB2.out) 1).trans rfl, (blk_cell ((h.block gD (blk_lt HD2.out)).trans HD2.out) 3).trans rfl, (blk_cell ((h.block gA1 (blk_lt HA12.out)).trans HA12.out) 0).trans rfl, (blk_cell ((h.block gC1 (blk_lt HC12.out)).trans HC12.out) 1).trans rfl, blk_frozen ((h.block gC1 (blk_lt HC12.out)).trans HC12.out) 1, ⟨h⟩⟩
    have hb0 := (Below.refl W2.heap.size W2).drew
    have hRI := Aside0.mk (bw_row (d := k61) (base := w.heap.size) (n := 1) (xs := [⟨2, ⟨#[]⟩, 3, 2⟩]) HI2.out (by omega) rfl (Reps.c4 (k61_mkM _ _ _ ⟨2, ⟨#[]⟩, 3, 2⟩) (Reps.none _ _)) (by decide))
    refine start_ (n := 23) (S := fun w' => w'.cell? ⟨gB, 1, none⟩ = some (.slice (some ⟨gD, 0, none⟩) 2 2) ∧ w'.cell? ⟨gD, 3, none⟩ = some (.slice (some ⟨gA1, 0, none⟩) 1 1) ∧ w'.cell? ⟨gA1, 0, none⟩ = some (.slice (some ⟨gC1, 0, none⟩) 1 1) ∧ w'.cell? ⟨gC1, 1, none⟩ = some (.slice (some ⟨gI1, 0, none⟩) 1 1) ∧ w'.frozen? ⟨gC1, 1, none⟩ = false) (ds := [22]) #[false, false, false, false, false, false, false, false, false, false, false, false, false, false, false, false, false, false, false, false, false, false, false] (by kernel_rfl) rfl rfl ⟨(hSz _ hb0).1, (hSz _ hb0).2.1, (hSz _ hb0).2.2.1, (hSz _ hb0).2.2.2.1, (hSz _ hb0).2.2.2.2.1⟩ (fun hHeld => ?_)
    refine with_tabW bwr13.tab13 bwr13.bits13 (fun HT_ HW_ => ?_)
    refine pure_ (i := 0) (N := some 54) (v := ?_) (a' := ?_) #[true, false, false, false, false, false, false, false, false, false, false, false, false, false, false, false, false, false, false, false, false, false, false] rfl rfl (any_of HT_.out (by kernel_rfl)) (fun _ _ _ h => h) (Or.inl ⟨by rfl, ?_⟩) ?_ ?_
    rotate_left
    ·intro w'
     go_simp
     with_reducible rfl
    rotate_left
    ·simp only [Act.put, List.setIfInBounds_toArray, List.set_cons_zero, List.set_cons_succ, i64_w, i32_w]
     rfl
    refine pure_ (i := 7) (N := some 61) (v := ?_) (a' := ?_) #[true, false, false, false, false, false, false, true, false, false, false, false, false, false, false, false, false, false, false, false, false, false, false] rfl rfl (any_of HT_.out (by kernel_rfl)) (fun _ _ _ h => h) (Or.inl ⟨by rfl, ?_⟩) ?_ ?_
    rotate_left
    ·intro w'
     go_simp
     with_reducible rfl
    rotate_left
    ·simp only [Act.put, List.setIfInBounds_toArray, List.set_cons_zero, List.set_cons_succ, i64_w, i32_w]
     rfl
    refine take_ (i := 1) (N := some 55) (v := ?_) (a' := ?_) #[true, true, false, false, false, false, false, true, false, false, false, false, false, false, false, false, false, false, false, false, false, false, false] rfl rfl (take_ofW HT_.out HW_.out (by kernel_rfl)) (fun _ _ _ h => h) (Or.inl ⟨by rfl, ?_⟩) hHeld ?_ ?_
    rotate_left
    ·rintro w' ⟨s0, s1, s2, s3, s4⟩
     go_simp
     with_reducible rfl
    rotate_left
    ·simp only [Act.put, List.setIfInBounds_toArray, List.set_cons_zero, List.set_cons_succ, i64_w, i32_w]
     rfl
    refine pure_ (i := 2) (N := some 56) (v := ?_) (a' := ?_) #[true, true, true, false, false, false, false, true, false, false, false, false, false, false, false, false, false, false, false, false, false, false, false] rfl rfl (any_of HT_.out (by kernel_rfl)) (fun _ _ _ h => h) (Or.inl ⟨by rfl, ?_⟩) ?_ ?_
    rotate_left
    ·intro w'
     go_simp
     with_reducible rfl
    rotate_left
    ·simp only [Act.put, List.setIfInBounds_toArray, List.set_cons_zero, List.set_cons_succ, i64_w, i32_w]
     rfl
    refine pure_ (i := 3) (N := some 57) (v := ?_) (a' := ?_) #[true, true, true, true, false, false, false, true, false, false, false, false, false, false, false, false, false, false, false, false, false, false, false] rfl rfl (any_of HT_.out (by kernel_rfl)) (fun _ _ _ h => h) (Or.inl ⟨by rfl, ?_⟩) ?_ ?_
    rotate_left
    ·intro w'
     go_simp
     with_reducible rfl
    rotate_left
    ·simp only [Act.put, List.setIfInBounds_toArray, List.set_cons_zero, List.set_cons_succ, i64_w, i32_w]
     rfl
    refine take_ (i := 4) (N := some 58) (v := ?_) (a' := ?_) #[true, true, true, true, true, false, false, true, false, false, false, false, false, false, false, false, false, false, false, false, false, false, false] rfl rfl (take_ofW HT_.out HW_.out (by kernel_rfl)) (fun _ _ _ h => h) (Or.inl ⟨by rfl, ?_⟩) hHeld ?_ ?_
    rotate_left
    ·rintro w' ⟨s0, s1, s2, s3, s4⟩
     go_simp
     with_reducible rfl
    rotate_left
    ·simp only [Act.put, List.setIfInBounds_toArray, List.set_cons_zero, List.set_cons_succ, i64_w, i32_w]
     rfl
    refine pure_ (i := 5) (N := some 59) (v := ?_) (a' := ?_) #[true, true, true, true, true, true, false, true, false, false, false, false, false, false, false, false, false, false, false, false, false, false, false] rfl rfl (any_of HT_.out (by kernel_rfl)) (fun _ _ _ h => h) (Or.inl ⟨by rfl, ?_⟩) ?_ ?_
    rotate_left
    ·intro w'
     go_simp
     with_reducible rfl
    rotate_left
    ·simp only [Act.put, List.setIfInBounds_toArray, List.set_cons_zero, List.set_cons_succ, i64_w, i32_w]
     rfl
    refine take_ (i := 6) (N := some 60) (v := ?_) (a' := ?_) #[true, true, true, true, true, true, true, true, false, false, false, false, false, false, false, false, false, false, false, false, false, false, false] rfl rfl (take_ofW HT_.out HW_.out (by kernel_rfl)) (fun _ _ _ h => h) (Or.inl ⟨by rfl, ?_⟩) hHeld ?_ ?_
    rotate_left
    ·rintro w' ⟨s0, s1, s2, s3, s4⟩
     go_simp
     with_reducible rfl
    rotate_left
    ·simp only [Act.put, List.setIfInBounds_toArray, List.set_cons_zero, List.set_cons_succ, i64_w, i32_w]
     rfl
    refine take_ (i := 8) (N := some 62) (v := ?_) (a' := ?_) #[true, true, true, true, true, true, true, true, true, false, false, false, false, false, false, false, false, false, false, false, false, false, false] rfl rfl (take_ofW HT_.out HW_.out (by kernel_rfl)) (fun _ _ _ h => h) (Or.inl ⟨by rfl, ?_⟩) hHeld ?_ ?_
    rotate_left
    ·rintro w' ⟨s0, s1, s2, s3, s4⟩
     go_simp
     with_reducible rfl
    rotate_left
    ·simp only [Act.put, List.setIfInBounds_toArray, List.set_cons_zero, List.set_cons_succ, i64_w, i32_w]
     rfl
    refine pure_ (i := 9) (N := some 63) (v := ?_) (a' := ?_) #[true, true, true, true, true, true, true, true, true, true, false, false, false, false, false, false, false, false, false, false, false, false, false] rfl rfl (any_of HT_.out (by kernel_rfl)) (fun _ _ _ h => h) (Or.inl ⟨by rfl, ?_⟩) ?_ ?_
    rotate_left
    ·intro w'
     go_simp
     with_reducible rfl
    rotate_left
    ·simp only [Act.put, List.setIfInBounds_toArray, List.set_cons_zero, List.set_cons_succ, i64_w, i32_w]
     rfl
    refine pure_ (i := 10) (N := some 64) (v := ?_) (a' := ?_) #[true, true, true, true, true, true, true, true, true, true, true, false, false, false, false, false, false, false, false, false, false, false, false] rfl rfl (any_of HT_.out (by kernel_rfl)) (fun _ _ _ h => h) (Or.inl ⟨by rfl, ?_⟩) ?_ ?_
    rotate_left
    ·intro w'
     go_simp
     with_reducible rfl
    rotate_left
    ·simp only [Act.put, List.setIfInBounds_toArray, List.set_cons_zero, List.set_cons_succ, i64_w, i32_w]
     rfl
    refine take_ (i := 11) (N := some 65) (v := ?_) (a' := ?_) #[true, true, true, true, true, true, true, true, true, true, true, true, false, false, false, false, false, false, false, false, false, false, false] rfl rfl (take_ofW HT_.out HW_.out (by kernel_rfl)) (fun _ _ _ h => h) (Or.inl ⟨by rfl, ?_⟩) hHeld ?_ ?_
    rotate_left
    ·rintro w' ⟨s0, s1, s2, s3, s4⟩
     go_simp
     with_reducible rfl
    rotate_left
    ·simp only [Act.put, List.setIfInBounds_toArray, List.set_cons_zero, List.set_cons_succ, i64_w, i32_w]
     rfl
    refine pure_ (i := 12) (N := some 66) (v := ?_) (a' := ?_) #[true, true, true, true, true, true, true, true, true, true, true, true, true, false, false, false, false, false, false, false, false, false, false] rfl rfl (any_of HT_.out (by kernel_rfl)) (fun _ _ _ h => h) (Or.inl ⟨by rfl, ?_⟩) ?_ ?_
    rotate_left
    ·intro w'
     go_simp
     with_reducible rfl
    rotate_left
    ·simp only [Act.put, List.setIfInBounds_toArray, List.set_cons_zero, List.set_cons_succ, i64_w, i32_w]
     rfl
    refine take_ (i := 13) (N := some 67) (v := ?_) (a' := ?_) #[true, true, true, true, true, true, true, true, true, true, true, true, true, true, false, false, false, false, false, false, false, false, false] rfl rfl (take_ofW HT_.out HW_.out (by kernel_rfl)) (fun _ _ _ h => h) (Or.inl ⟨by rfl, ?_⟩) hHeld ?_ ?_
    rotate_left
    ·rintro w' ⟨s0, s1, s2, s3, s4⟩
     go_simp
     with_reducible rfl
    rotate_left
    ·simp only [Act.put, List.setIfInBounds_toArray, List.set_cons_zero, List.set_cons_succ, i64_w, i32_w]
     rfl
    refine pure_ (i := 14) (N := some 68) (v := ?_) (a' := ?_) #[true, true, true, true, true, true, true, true, true, true, true, true, true, true, true, false, false, false, false, false, false, false, false] rfl rfl (any_of HT_.out (by kernel_rfl)) (fun _ _ _ h => h) (Or.inl ⟨by rfl, ?_⟩) ?_ ?_
    rotate_left
    ·intro w'
     go_simp
     with_reducible rfl
    rotate_left
    ·simp only [Act.put, List.setIfInBounds_toArray, List.set_cons_zero, List.set_cons_succ, i64_w, i32_w]
     rfl
    refine pure_ (i := 15) (N := some 69) (v := ?_) (a' := ?_) #[true, true, true, true, true, true, true, true, true, true, true, true, true, true, true, true, false, false, false, false, false, false, false] rfl rfl (any_of HT_.out (by kernel_rfl)) (fun _ _ _ h => h) (Or.inl ⟨by rfl, ?_⟩) ?_ ?_
    rotate_left
    ·intro w'
     go_simp
     with_reducible rfl
    rotate_left
    ·simp only [Act.put, List.setIfInBounds_toArray, List.set_cons_zero, List.set_cons_succ, i64_w, i32_w]
     rfl
    refine take_ (i := 16) (N := some 70) (v := ?_) (a' := ?_) #[true, true, true, true, true, true, true, true, true, true, true, true, true, true, true, true, true, false, false, false, false, false, false] rfl rfl (take_ofW HT_.out HW_.out (by kernel_rfl)) (fun _ _ _ h => h) (Or.inl ⟨by rfl, ?_⟩) hHeld ?_ ?_
    rotate_left
    ·rintro w' ⟨s0, s1, s2, s3, s4⟩
     go_simp
     with_reducible rfl
    rotate_left
    ·simp only [Act.put, List.setIfInBounds_toArray, List.set_cons_zero, List.set_cons_succ, i64_w, i32_w]
     rfl
    refine take_ (i := 17) (N := some 71) (v := ?_) (a' := ?_) #[true, true, true, true, true, true, true, true, true, true, true, true, true, true, true, true, true, true, false, false, false, false, false] rfl rfl (take_ofW HT_.out HW_.out (by kernel_rfl)) (fun _ _ _ h => h) (Or.inl ⟨by rfl, ?_⟩) hHeld ?_ ?_
    rotate_left
    ·rintro w' ⟨s0, s1, s2, s3, s4⟩
     go_simp
     with_reducible rfl
    rotate_left
    ·simp only [Act.put, List.setIfInBounds_toArray, List.set_cons_zero, List.set_cons_succ, i64_w, i32_w]
     rfl
    refine one_ (i := 18) (N := some 72) #[true, true, true, true, true, true, true, true, true, true, true, true, true, true, true, true, true, true, true, false, false, false, false] rfl rfl (one_of HT_.out (by kernel_rfl)) (by decide) (fun K hK => ?_)
    refine value_ (w1 := ?_) (v := ?_) (by rfl) rfl ?_ ?_
    rotate_left 2
    ·go_simp
     constructor
     ·rfl
     ·rfl
    refine hK.out _ _ ⟨(hSz _ (below_alloc hb0 (.cells #[.int .i64 0, .string ⟨#[85]⟩, .int .i64 0, .int .i64 0] 61))).1, (hSz _ (below_alloc hb0 (.cells #[.int .i64 0, .string ⟨#[85]⟩, .int .i64 0, .int .i64 0] 61))).2.1, (hSz _ (below_alloc hb0 (.cells #[.int .i64 0, .string ⟨#[85]⟩, .int .i64 0, .int .i64 0] 61))).2.2.1, (hSz _ (below_alloc hb0 (.cells #[.int .i64 0, .string ⟨#[85]⟩, .int .i64 0, .int .i64 0] 61))).2.2.2.1, (hSz _ (below_alloc hb0 (.cells #[.int .i64 0, .string ⟨#[85]⟩, .int .i64 0, .int .i64 0] 61))).2.2.2.2.1⟩ (fun hHeld => ?_)
    clear hK K
    refine norm_ (a' := ?_) ?_ ?_
    rotate_left
    ·show Act.put _ (some 72) _ = _
     simp only [Act.put, List.setIfInBounds_toArray, List.set_cons_zero, List.set_cons_succ, i64_w, i32_w]
     rfl
    refine one_ (i := 19) (N := some 73) #[true, true, true, true, true, true, true, true, true, true, true, true, true, true, true, true, true, true, true, true, false, false, false] rfl rfl (one_of HT_.out (by kernel_rfl)) (by decide) (fun K hK => ?_)
    refine Kd.R_append_step k61 (w0 := w) (W := W2.drew) w.heap.size (by rfl) (.tmp 70) (.tmp 72) 62 61 (.agg #[.int .i64 0, .string ⟨#[]⟩, .int .i64 0, .int .i64 0]) 40 rfl Try.underlying62 bw_info61 rfl (by decide) (by decide) (.slice (some ⟨gI1, 0, none⟩) 1 1) [⟨2, ⟨#[]⟩, 3, 2⟩] ⟨0, ⟨#[85]⟩, 0, 0⟩ [.int .i64 0, .string ⟨#[85]⟩, .int .i64 0, .int .i64 0] (fun _ => True) (fun _ => False) rfl rfl (k61_mkM _ _ _ ⟨0, ⟨#[85]⟩, 0, 0⟩) (fun _ hk => hk.elim) (fun _ _ => trivial) (Kd.R_mono (Kd.R_drew hRI.out) (fun _ _ => trivial)) HW.out.drew HW.out.size (by simp) ?_
    intro v1 w1 ho hb hg hat
    obtain ⟨Ai, ci, e1⟩ := Kd.R_slice ho
    subst e1
    have hgB := fun (g : Nat) (cs : Array Value) (e : Nat) (h : W2.heap[g]? = some (.cells cs e (0, 0))) (hn : g ≠ gI1) => (hg.block g (blk_lt h) (by simp [Value.ownBlock]; exact hn)).trans h
    refine hK.out _ _ ⟨(blk_cell (hgB gB _ _ HB2.out (by omega)) 1).trans rfl, (blk_cell (hgB gD _ _ HD2.out (by omega)) 3).trans rfl, (blk_cell (hgB gA1 _ _ HA12.out (by omega)) 0).trans rfl, (blk_cell (hgB gC1 _ _ HC12.out (by omega)) 1).trans rfl, blk_frozen (hgB gC1 _ _ HC12.out (by omega)) 1⟩ (fun hHeld => ?_)
    clear hK K
    refine norm_ (a' := ?_) ?_ ?_
    rotate_left
    ·show Act.put _ (some 73) _ = _
     simp only [Act.put, List.setIfInBounds_toArray, List.set_cons_zero, List.set_cons_succ, i64_w, i32_w]
     rfl
    refine pure_ (i := 20) (N := some 74) (v := ?_) (a' := ?_) #[true, true, true, true, true, true, true, true, true, true, true, true, true, true, true, true, true, true, true, true, true, false, false] rfl rfl (any_of HT_.out (by kernel_rfl)) (fun _ _ _ h => h) (Or.inl ⟨by rfl, ?_⟩) ?_ ?_
    rotate_left
    ·intro w'
     go_simp
     with_reducible rfl
    rotate_left
    ·simp only [Act.put, List.setIfInBounds_toArray, List.set_cons_zero, List.set_cons_succ, i64_w, i32_w]
     rfl
    refine pure_ (i := 21) (N := some 75) (v := ?_) (a' := ?_) #[true, true, true, true, true, true, true, true, true, true, true, true, true, true, true, true, true, true, true, true, true, true, false] rfl rfl (any_of HT_.out (by kernel_rfl)) (fun _ _ _ h => h) (Or.inl ⟨by rfl, ?_⟩) ?_ ?_
    rotate_left
    ·intro w'
     go_simp
     with_reducible rfl
    rotate_left
    ·simp only [Act.put, List.setIfInBounds_toArray, List.set_cons_zero, List.set_cons_succ, i64_w, i32_w]
     rfl
    refine last_ (i := 22) (N := none) #[true, true, true, true, true, true, true, true, true, true, true, true, true, true, true, true, true, true, true, true, true, true, true] rfl rfl (one_of HT_.out (by kernel_rfl)) (by decide) (fun K hK => ?_)
    have q0 := hHeld.2.2.2.1
    have q1 := hHeld.2.2.2.2
    refine skip_ (w1 := ?_) (by rfl) rfl ?_ ?_
    rotate_left
    ·go_simp
     rfl
    refine hK.out _ _ ?_
    clear hK K
    refine done_ (done_of HT_.out (by kernel_rfl)) ?_
    have hIn := Aside0.mk (And.intro (Kd.F_far (p := ⟨gC1, 1, none⟩) (Kd.F_mono (ok' := fun k => k ≠ gS ∧ k ≠ gC1 ∧ k ≠ gD ∧ k ≠ gB) (Kd.R_F (Kd.R_types (Kd.R_types (Kd.R_types (Kd.R_types ho (hgB gS _ _ HS2.out (by omega)) (by decide)) (hgB gC1 _ _ HC12.out (by omega)) (by decide)) (hgB gD _ _ HD2.out (by omega)) (by decide)) (hgB gB _ _ HB2.out (by omega)) (by decide))) (fun k hk => ⟨hk.1.1.1.2, hk.1.1.2, hk.1.2, hk.2⟩)) (fun k hk => hk.2.1) (.slice Ai 2 ci)) (Kd.R_reads' ho).2.1)
    have mB := Aside0.mk (blk_far (hgB gB _ _ HB2.out (by omega)) (p := ⟨gC1, 1, none⟩) (by show gB ≠ gC1; omega) (.slice Ai 2 ci))
    have mS := Aside0.mk (blk_far (hgB gS _ _ HS2.out (by omega)) (p := ⟨gC1, 1, none⟩) (by show gS ≠ gC1; omega) (.slice Ai 2 ci))
    have mD := Aside0.mk (blk_far (hgB gD _ _ HD2.out (by omega)) (p := ⟨gC1, 1, none⟩) (by show gD ≠ gC1; omega) (.slice Ai 2 ci))
    have mA0 := Aside0.mk (blk_far (hgB gA0 _ _ HA02.out (by omega)) (p := ⟨gC1, 1, none⟩) (by show gA0 ≠ gC1; omega) (.slice Ai 2 ci))
    have mA1 := Aside0.mk (blk_far (hgB gA1 _ _ HA12.out (by omega)) (p := ⟨gC1, 1, none⟩) (by show gA1 ≠ gC1; omega) (.slice Ai 2 ci))
    have mC1 := Aside0.mk (blk_put (hgB gC1 _ _ HC12.out (by omega)) 1 (.slice Ai 2 ci) rfl)
    have mX := Aside0.mk (Kd.F_far (Kd.F_grown (Kd.F_drew HX2.out) hg (fun k hk he => hk.2.1 (by simpa [Value.ownBlock] using he))) (p := ⟨gC1, 1, none⟩) (fun k hk => hk.2.2.1) (.slice Ai 2 ci))
    have mW := Aside0.mk (hb.setCell (p := ⟨gC1, 1, none⟩) (by show w.heap.size ≤ gC1; omega) (.slice Ai 2 ci))
    clear HB2 HS2 HD2 HA02 HA12 HC12 HX2 HW HI2 hRI hgB hSz hb0 HT_ HW_ hHeld q0 q1 ho hb hg hat
    generalize w1.setCell ⟨gC1, 1, none⟩ (.slice Ai 2 ci) = W3 at *
    have HB3 := mB
    have HS3 := mS
    have HD3 := mD
    have HA03 := mA0
    have HA13 := mA1
    have HC13 := mC1
    have HX3 := mX
    have HW := mW
    clear mW mB mS mD mA0 mA1 mC1 mX
    have HI3 := Aside0.mk hIn.out.1
    have hIC := Aside0.mk hIn.out.2
    clear hIn
    cases b2
    ·skip
     cases b1
     ·skip
      go_upto_region 24 with (fail)
      have cS : Kd.C Kd.string W3 (some ⟨gS, 0, none⟩) [(⟨#[83]⟩ : ByteArray)].length [⟨#[83]⟩] := C_lit HS3.out (Reps.one rfl (Reps.none _ _)) (by decide)
      have lS : [(⟨#[83]⟩ : ByteArray)].length ≤ 1 := Nat.le_refl _
      have cI := Kd.F_now HI3.out
      have lI := hIC.out
      have cX := Kd.F_now HX3.out
      have lX := hXC.out
      have kD := bw_defs HA03.out HC13.out HA13.out cX rfl lX cI rfl lI
      have cD : Kd.C k45 W3 (some ⟨gD, 0, none⟩) ([⟨⟨#[83]⟩, [(List.replicate 9 ⟨false, []⟩)]⟩, ⟨⟨#[84]⟩, [[⟨false, [⟨2, ⟨#[]⟩, 3, 2⟩, ⟨0, ⟨#[85]⟩, 0, 0⟩]⟩]]⟩] : List S45).length [⟨⟨#[83]⟩, [(List.replicate 9 ⟨false, []⟩)]⟩, ⟨⟨#[84]⟩, [[⟨false, [⟨2, ⟨#[]⟩, 3, 2⟩, ⟨0, ⟨#[85]⟩, 0, 0⟩]⟩]]⟩] := C_lit HD3.out (Reps.c2 kD.1 (Reps.c2 kD.2 (Reps.none _ _))) (by decide)
      have lD : (2 : Nat) ≤ 2 := Nat.le_refl _
      have FB2 := Aside0.mk (show gram_Build.f k [⟨#[83]⟩] [⟨⟨#[83]⟩, [(List.replicate 9 ⟨false, []⟩)]⟩, ⟨⟨#[84]⟩, [[⟨false, [⟨2, ⟨#[]⟩, 3, 2⟩, ⟨0, ⟨#[85]⟩, 0, 0⟩]⟩]]⟩] = some (r1, r2, r3, ⟨#[85]⟩, 402) from FB.out)
      have tl := (show (r2.length = 2 ↔ (402 : Int) = 0) from FL.out)
      have tL : ((r2.length : Int) == 2) = false := by rw [beq_eq_false_iff_ne]; intro h9; exact absurd (tl.1 (by omega)) (by decide)
      have k0 : W3.cell? ⟨gB, 0, none⟩ = some (.slice (some ⟨gS, 0, none⟩) 1 1) := (blk_cell HB3.out 0).trans rfl
      have k1 : W3.cell? ⟨gB, 1, none⟩ = some (.slice (some ⟨gD, 0, none⟩) 2 2) := (blk_cell HB3.out 1).trans rfl
      have Z := Aside0.mk (And.intro cS (And.intro lS (And.intro cD (And.intro lD HW.out))))
      clear cS lS cD lD cI lI cX lX kD tl FB FL
      go_wp2_with (first | (go_at_call 14; (with_reducible refine (templelaw0_Num.calls 402 402 _ (bw_num 402)).mono ?_); rintro e w' ⟨rfl, ⟨nd, rfl⟩⟩) | (go_at_call 11; refine (gram_Build.calls k _ _ [⟨#[83]⟩] _ _ [⟨⟨#[83]⟩, [(List.replicate 9 ⟨false, []⟩)]⟩, ⟨⟨#[84]⟩, [[⟨false, [⟨2, ⟨#[]⟩, 3, 2⟩, ⟨0, ⟨#[85]⟩, 0, 0⟩]⟩]]⟩] r1 r2 r3 ⟨#[85]⟩ 402 _ Z.out.1 Z.out.2.1 Z.out.2.2.1 Z.out.2.2.2.1 FB2.out).mono ?_; rintro e w2 ⟨v1, v2, rfl, h1, h2, hbq⟩; (obtain ⟨Aq, cq, rfl⟩ := Kd.R_slice h1); (obtain ⟨Ar, cr, rfl⟩ := Kd.R_slice h2); have Y := Aside0.mk hbq; clear h1 h2 hbq))
      go_ret
      exact ⟨by first | rfl | simp | simp [tL], pw_below_drewN (below_alloc (Z.out.2.2.2.2.trans (Y.out.mono Z.out.2.2.2.2.size)) _) _⟩
     ·skip
      go_upto_region 21 with (fail)
      have k0 : W3.cell? ⟨gB, 1, none⟩ = some (.slice (some ⟨gD, 0, none⟩) 2 2) := (blk_cell HB3.out 1).trans rfl
      have kg : W3.cell? ⟨gB, 0, none⟩ = some (.slice (some ⟨gS, 0, none⟩) 1 1) := (blk_cell HB3.out 0).trans rfl
      have hal := below_alloc (Below.refl W3.heap.size W3) (.cells #[.string ⟨#[84]⟩, .slice none 0 0, .string ⟨#[83]⟩, .slice none 0 0] 45)
      have hRD := Aside0.mk (bw_row (d := Kd.raw 2) (base := w.heap.size) (n := 2) (xs := [[.string ⟨#[83]⟩, .slice (some ⟨gA0, 0, none⟩) 1 1], [.string ⟨#[84]⟩, .slice (some ⟨gA1, 0, none⟩) 1 1]]) (blk_alloc HD3.out (.cells #[.string ⟨#[84]⟩, .slice none 0 0, .string ⟨#[83]⟩, .slice none 0 0] 45)) (by omega) rfl (bw_raw (w := w)) (by simp))
      have hRL := Aside0.mk (C_lit (d := Kd.raw 2) (xs := [[.string ⟨#[84]⟩, .slice none 0 0], [.string ⟨#[83]⟩, .slice none 0 0]]) (blk_new W3 (.cells #[.string ⟨#[84]⟩, .slice none 0 0, .string ⟨#[83]⟩, .slice none 0 0] 45)) (Reps.c2 ⟨rfl, rfl, by simp [Value.oneCell']⟩ (Reps.c2 ⟨rfl, rfl, by simp [Value.oneCell']⟩ (Reps.none _ _))) (by decide))
      have hlt := Aside0.mk (below_alloc HW.out (.cells #[.string ⟨#[84]⟩, .slice none 0 0, .string ⟨#[83]⟩, .slice none 0 0] 45))
      go_upto_region 22 with (first | ((with_reducible refine gate_builtin (b := .append) (xs := #[.tmp 88, .tmp 91]) rfl ?_); at_builtin; refine Kd.R_append_rows (Kd.raw 2) (w0 := w) w.heap.size rfl (.tmp 88) (.tmp 91) 23 45 (.agg #[.string ⟨#[]⟩, .slice none 0 0]) 40 rfl Try.underlying23 bw_info45 rfl (by decide) (by omega) (.slice (some ⟨gD, 0, none⟩) 2 2) [[.string ⟨#[83]⟩, .slice (some ⟨gA0, 0, none⟩) 1 1], [.string ⟨#[84]⟩, .slice (some ⟨gA1, 0, none⟩) 1 1]] [[.string ⟨#[84]⟩, .slice none 0 0], [.string ⟨#[83]⟩, .slice none 0 0]] _ _ _ (fun _ => True) (fun _ => False) rfl rfl (Kd.R_mono hRD.out (fun _ _ => trivial)) hRL.out (fun _ _ h => h) (fun _ h => h.elim) (fun _ _ => trivial) hlt.out hlt.out.size (by simp) ?_; intro v1 w1 ho hb hg hat; (obtain ⟨Ad, cd, e1⟩ := Kd.R_slice ho); subst e1; have hmv := fun (g : Nat) (cs : Array Value) (e : Nat) (h : W3.heap[g]? = some (.cells cs e (0, 0))) (hn : g ≠ gD) => (hg.block g (blk_lt ((hal.block g (blk_lt h)).trans h)) (by simp [Value.ownBlock]; exact hn)).trans ((hal.block g (blk_lt h)).trans h); have ps := (blk_cell (hmv gB _ _ HB3.out (by omega)) 1).trans rfl; have pf := blk_frozen (hmv gB _ _ HB3.out (by omega)) 1))
      have hDn := Aside0.mk (RowT.set (RowT.of rfl ho) (hmv gB _ _ HB3.out (by omega)) (by decide) 1 (.slice Ad 4 cd))
      have hRW := Aside0.mk hRD.out
      have mB := Aside0.mk (blk_put (hmv gB _ _ HB3.out (by omega)) 1 (.slice Ad 4 cd) rfl)
      have mS := Aside0.mk (blk_far (hmv gS _ _ HS3.out (by omega)) (p := ⟨gB, 1, none⟩) (by show gS ≠ gB; omega) (.slice Ad 4 cd))
      have mA0 := Aside0.mk (blk_far (hmv gA0 _ _ HA03.out (by omega)) (p := ⟨gB, 1, none⟩) (by show gA0 ≠ gB; omega) (.slice Ad 4 cd))
      have mA1 := Aside0.mk (blk_far (hmv gA1 _ _ HA13.out (by omega)) (p := ⟨gB, 1, none⟩) (by show gA1 ≠ gB; omega) (.slice Ad 4 cd))
      have mC1 := Aside0.mk (blk_far (hmv gC1 _ _ HC13.out (by omega)) (p := ⟨gB, 1, none⟩) (by show gC1 ≠ gB; omega) (.slice Ad 4 cd))
      have mX := Aside0.mk (Kd.F_far (Kd.F_grown (Kd.F_below HX3.out hal) hg (fun k hk he => hk.2.2.2.1 (by simpa [Value.ownBlock] using he))) (p := ⟨gB, 1, none⟩) (fun k hk => hk.2.2.2.2) (.slice Ad 4 cd))
      have mI := Aside0.mk (Kd.F_far (Kd.F_grown (Kd.F_below HI3.out hal) hg (fun k hk he => hk.2.2.1 (by simpa [Value.ownBlock] using he))) (p := ⟨gB, 1, none⟩) (fun k hk => hk.2.2.2) (.slice Ad 4 cd))
      have mW := Aside0.mk (hb.setCell (p := ⟨gB, 1, none⟩) (by show w.heap.size ≤ gB; omega) (.slice Ad 4 cd))
      clear HB3 HS3 HA03 HA13 HC13 HX3 HI3 HW HD3 hRD hRL hRW hlt hmv hal k0 kg ps pf ho hb hg hat
      generalize w1.setCell ⟨gB, 1, none⟩ (.slice Ad 4 cd) = W4 at *
      have HB4 := mB
      have HS4 := mS
      have HA04 := mA0
      have HA14 := mA1
      have HC14 := mC1
      have HX4 := mX
      have HI4 := mI
      have HW := mW
      clear mW mB mS mA0 mA1 mC1 mX mI
      go_upto_region 24 with (fail)
      have cS : Kd.C Kd.string W4 (some ⟨gS, 0, none⟩) [(⟨#[83]⟩ : ByteArray)].length [⟨#[83]⟩] := C_lit HS4.out (Reps.one rfl (Reps.none _ _)) (by decide)
      have lS : [(⟨#[83]⟩ : ByteArray)].length ≤ 1 := Nat.le_refl _
      have cI := Kd.F_now HI4.out
      have lI := hIC.out
      have cX := Kd.F_now HX4.out
      have lX := hXC.out
      have kD := bw_defs HA04.out HC14.out HA14.out cX rfl lX cI rfl lI
      have kM := bw_more W4
      have cD := rows_C (d := k45) (xs := [⟨⟨#[83]⟩, [(List.replicate 9 ⟨false, []⟩)]⟩, ⟨⟨#[84]⟩, [[⟨false, [⟨2, ⟨#[]⟩, 3, 2⟩, ⟨0, ⟨#[85]⟩, 0, 0⟩]⟩]]⟩]) (ys := [⟨⟨#[84]⟩, []⟩, ⟨⟨#[83]⟩, []⟩]) rfl rfl (Kd.R_reads' hDn.out).2.2 (bw_two kD.1 kD.2) (bw_two kM.1 kM.2)
      have lD := (Kd.R_reads' hDn.out).2.1
      have FB2 := Aside0.mk (show gram_Build.f k [⟨#[83]⟩] [⟨⟨#[83]⟩, [(List.replicate 9 ⟨false, []⟩)]⟩, ⟨⟨#[84]⟩, [[⟨false, [⟨2, ⟨#[]⟩, 3, 2⟩, ⟨0, ⟨#[85]⟩, 0, 0⟩]⟩]]⟩, ⟨⟨#[84]⟩, []⟩, ⟨⟨#[83]⟩, []⟩] = some (r1, r2, r3, ⟨#[84]⟩, 401) from FB.out)
      have tl := (show (r2.length = 2 ↔ (401 : Int) = 0) from FL.out)
      have tL : ((r2.length : Int) == 2) = false := by rw [beq_eq_false_iff_ne]; intro h9; exact absurd (tl.1 (by omega)) (by decide)
      have k0 : W4.cell? ⟨gB, 0, none⟩ = some (.slice (some ⟨gS, 0, none⟩) 1 1) := (blk_cell HB4.out 0).trans rfl
      have k1 : W4.cell? ⟨gB, 1, none⟩ = some (.slice Ad 4 cd) := (blk_cell HB4.out 1).trans rfl
      have Z := Aside0.mk (And.intro cS (And.intro lS (And.intro cD (And.intro lD HW.out))))
      clear cS lS cD lD cI lI cX lX kD tl FB FL kM
      go_wp2_with (first | (go_at_call 14; (with_reducible refine (templelaw0_Num.calls 401 401 _ (bw_num 401)).mono ?_); rintro e w' ⟨rfl, ⟨nd, rfl⟩⟩) | (go_at_call 11; refine (gram_Build.calls k _ _ [⟨#[83]⟩] _ _ [⟨⟨#[83]⟩, [(List.replicate 9 ⟨false, []⟩)]⟩, ⟨⟨#[84]⟩, [[⟨false, [⟨2, ⟨#[]⟩, 3, 2⟩, ⟨0, ⟨#[85]⟩, 0, 0⟩]⟩]]⟩, ⟨⟨#[84]⟩, []⟩, ⟨⟨#[83]⟩, []⟩] r1 r2 r3 ⟨#[84]⟩ 401 _ Z.out.1 Z.out.2.1 Z.out.2.2.1 Z.out.2.2.2.1 FB2.out).mono ?_; rintro e w2 ⟨v1, v2, rfl, h1, h2, hbq⟩; (obtain ⟨Aq, cq, rfl⟩ := Kd.R_slice h1); (obtain ⟨Ar, cr, rfl⟩ := Kd.R_slice h2); have Y := Aside0.mk hbq; clear h1 h2 hbq))
      go_ret
      exact ⟨by first | rfl | simp | simp [tL], pw_below_drewN (below_alloc (Z.out.2.2.2.2.trans (Y.out.mono Z.out.2.2.2.2.size)) _) _⟩
    ·skip
     go_upto_region 17 with (fail)
     have k0 : W3.cell? ⟨gB, 0, none⟩ = some (.slice (some ⟨gS, 0, none⟩) 1 1) := (blk_cell HB3.out 0).trans rfl
     have kg : W3.cell? ⟨gB, 1, none⟩ = some (.slice (some ⟨gD, 0, none⟩) 2 2) := (blk_cell HB3.out 1).trans rfl
     have kf := blk_frozen HB3.out 0
     have hRS := Aside0.mk (bw_row (d := Kd.string) (base := w.heap.size) (n := 1) (xs := [⟨#[83]⟩]) HS3.out (by omega) rfl (Reps.one rfl (Reps.none _ _)) (by decide))
     go_upto_region 18 with (first | ((with_reducible refine gate_builtin (b := .append) (xs := #[.tmp 80, .tmp 81]) rfl ?_); at_builtin; refine Kd.R_append Kd.string (w0 := w) (W := W3) w.heap.size rfl (.tmp 80) (.tmp 81) 22 9 (.string ⟨#[]⟩) 16 rfl Try.underlying22 bw_info9 rfl (by decide) (by omega) (.slice (some ⟨gS, 0, none⟩) 1 1) [⟨#[83]⟩] ⟨#[83]⟩ [.string ⟨#[83]⟩] (fun _ => True) (fun _ => False) rfl (by first | (go_simp; done) | (go_simp; rfl)) rfl (fun _ hk => hk.elim) (fun _ _ => trivial) (Kd.R_mono hRS.out (fun _ _ => trivial)) HW.out HW.out.size (by simp) ?_; intro v1 w1 ho hb hg hat; (obtain ⟨As, cs, e1⟩ := Kd.R_slice ho); subst e1; have hmv := fun (g : Nat) (cs : Array Value) (e : Nat) (h : W3.heap[g]? = some (.cells cs e (0, 0))) (hn : g ≠ gS) => (hg.block g (blk_lt h) (by simp [Value.ownBlock]; exact hn)).trans h; have ps := (blk_cell (hmv gB _ _ HB3.out (by omega)) 0).trans rfl; have pf := blk_frozen (hmv gB _ _ HB3.out (by omega)) 0))
     have hSn := Aside0.mk (RowT.set (RowT.of rfl ho) (hmv gB _ _ HB3.out (by omega)) (by decide) 0 (.slice As 2 cs))
     have mB := Aside0.mk (blk_put (hmv gB _ _ HB3.out (by omega)) 0 (.slice As 2 cs) rfl)
     have mD := Aside0.mk (blk_far (hmv gD _ _ HD3.out (by omega)) (p := ⟨gB, 0, none⟩) (by show gD ≠ gB; omega) (.slice As 2 cs))
     have mA0 := Aside0.mk (blk_far (hmv gA0 _ _ HA03.out (by omega)) (p := ⟨gB, 0, none⟩) (by show gA0 ≠ gB; omega) (.slice As 2 cs))
     have mA1 := Aside0.mk (blk_far (hmv gA1 _ _ HA13.out (by omega)) (p := ⟨gB, 0, none⟩) (by show gA1 ≠ gB; omega) (.slice As 2 cs))
     have mC1 := Aside0.mk (blk_far (hmv gC1 _ _ HC13.out (by omega)) (p := ⟨gB, 0, none⟩) (by show gC1 ≠ gB; omega) (.slice As 2 cs))
     have mX := Aside0.mk (Kd.F_far (Kd.F_grown HX3.out hg (fun k hk he => hk.1 (by simpa [Value.ownBlock] using he))) (p := ⟨gB, 0, none⟩) (fun k hk => hk.2.2.2.2) (.slice As 2 cs))
     have mI := Aside0.mk (Kd.F_far (Kd.F_grown HI3.out hg (fun k hk he => hk.1 (by simpa [Value.ownBlock] using he))) (p := ⟨gB, 0, none⟩) (fun k hk => hk.2.2.2) (.slice As 2 cs))
     have mW := Aside0.mk (hb.setCell (p := ⟨gB, 0, none⟩) (by show w.heap.size ≤ gB; omega) (.slice As 2 cs))
     clear HB3 HD3 HA03 HA13 HC13 HX3 HI3 HW HS3 hRS hmv k0 kg kf ps pf ho hb hg hat
     generalize w1.setCell ⟨gB, 0, none⟩ (.slice As 2 cs) = W4 at *
     have HB4 := mB
     have HD4 := mD
     have HA04 := mA0
     have HA14 := mA1
     have HC14 := mC1
     have HX4 := mX
     have HI4 := mI
     have HW := mW
     clear mW mB mD mA0 mA1 mC1 mX mI
     cases b1
     ·skip
      go_upto_region 24 with (fail)
      have cS := (Kd.R_reads' hSn.out).2.2
      have lS := (Kd.R_reads' hSn.out).2.1
      have cI := Kd.F_now HI4.out
      have lI := hIC.out
      have cX := Kd.F_now HX4.out
      have lX := hXC.out
      have kD := bw_defs HA04.out HC14.out HA14.out cX rfl lX cI rfl lI
      have cD : Kd.C k45 W4 (some ⟨gD, 0, none⟩) ([⟨⟨#[83]⟩, [(List.replicate 9 ⟨false, []⟩)]⟩, ⟨⟨#[84]⟩, [[⟨false, [⟨2, ⟨#[]⟩, 3, 2⟩, ⟨0, ⟨#[85]⟩, 0, 0⟩]⟩]]⟩] : List S45).length [⟨⟨#[83]⟩, [(List.replicate 9 ⟨false, []⟩)]⟩, ⟨⟨#[84]⟩, [[⟨false, [⟨2, ⟨#[]⟩, 3, 2⟩, ⟨0, ⟨#[85]⟩, 0, 0⟩]⟩]]⟩] := C_lit HD4.out (Reps.c2 kD.1 (Reps.c2 kD.2 (Reps.none _ _))) (by decide)
      have lD : (2 : Nat) ≤ 2 := Nat.le_refl _
      have FB2 := Aside0.mk (show gram_Build.f k [⟨#[83]⟩, ⟨#[83]⟩] [⟨⟨#[83]⟩, [(List.replicate 9 ⟨false, []⟩)]⟩, ⟨⟨#[84]⟩, [[⟨false, [⟨2, ⟨#[]⟩, 3, 2⟩, ⟨0, ⟨#[85]⟩, 0, 0⟩]⟩]]⟩] = some (r1, r2, r3, ⟨#[]⟩, 400) from FB.out)
      have tl := (show (r2.length = 2 ↔ (400 : Int) = 0) from FL.out)
      have tL : ((r2.length : Int) == 2) = false := by rw [beq_eq_false_iff_ne]; intro h9; exact absurd (tl.1 (by omega)) (by decide)
      have k0 : W4.cell? ⟨gB, 0, none⟩ = some (.slice As 2 cs) := (blk_cell HB4.out 0).trans rfl
      have k1 : W4.cell? ⟨gB, 1, none⟩ = some (.slice (some ⟨gD, 0, none⟩) 2 2) := (blk_cell HB4.out 1).trans rfl
      have Z := Aside0.mk (And.intro cS (And.intro lS (And.intro cD (And.intro lD HW.out))))
      clear cS lS cD lD cI lI cX lX kD tl FB FL
      go_wp2_with (first | (go_at_call 14; (with_reducible refine (templelaw0_Num.calls 400 400 _ (bw_num 400)).mono ?_); rintro e w' ⟨rfl, ⟨nd, rfl⟩⟩) | (go_at_call 11; refine (gram_Build.calls k _ _ [⟨#[83]⟩, ⟨#[83]⟩] _ _ [⟨⟨#[83]⟩, [(List.replicate 9 ⟨false, []⟩)]⟩, ⟨⟨#[84]⟩, [[⟨false, [⟨2, ⟨#[]⟩, 3, 2⟩, ⟨0, ⟨#[85]⟩, 0, 0⟩]⟩]]⟩] r1 r2 r3 ⟨#[]⟩ 400 _ Z.out.1 Z.out.2.1 Z.out.2.2.1 Z.out.2.2.2.1 FB2.out).mono ?_; rintro e w2 ⟨v1, v2, rfl, h1, h2, hbq⟩; (obtain ⟨Aq, cq, rfl⟩ := Kd.R_slice h1); (obtain ⟨Ar, cr, rfl⟩ := Kd.R_slice h2); have Y := Aside0.mk hbq; clear h1 h2 hbq))
      go_ret
      exact ⟨by first | rfl | simp | simp [tL], pw_below_drewN (below_alloc (Z.out.2.2.2.2.trans (Y.out.mono Z.out.2.2.2.2.size)) _) _⟩
     ·skip
      go_upto_region 21 with (fail)
      have k0 : W4.cell? ⟨gB, 1, none⟩ = some (.slice (some ⟨gD, 0, none⟩) 2 2) := (blk_cell HB4.out 1).trans rfl
      have kg : W4.cell? ⟨gB, 0, none⟩ = some (.slice As 2 cs) := (blk_cell HB4.out 0).trans rfl
      have hal := below_alloc (Below.refl W4.heap.size W4) (.cells #[.string ⟨#[84]⟩, .slice none 0 0, .string ⟨#[83]⟩, .slice none 0 0] 45)
      have hRD := Aside0.mk (bw_row (d := Kd.raw 2) (base := w.heap.size) (n := 2) (xs := [[.string ⟨#[83]⟩, .slice (some ⟨gA0, 0, none⟩) 1 1], [.string ⟨#[84]⟩, .slice (some ⟨gA1, 0, none⟩) 1 1]]) (blk_alloc HD4.out (.cells #[.string ⟨#[84]⟩, .slice none 0 0, .string ⟨#[83]⟩, .slice none 0 0] 45)) (by omega) rfl (bw_raw (w := w)) (by simp))
      have hRL := Aside0.mk (C_lit (d := Kd.raw 2) (xs := [[.string ⟨#[84]⟩, .slice none 0 0], [.string ⟨#[83]⟩, .slice none 0 0]]) (blk_new W4 (.cells #[.string ⟨#[84]⟩, .slice none 0 0, .string ⟨#[83]⟩, .slice none 0 0] 45)) (Reps.c2 ⟨rfl, rfl, by simp [Value.oneCell']⟩ (Reps.c2 ⟨rfl, rfl, by simp [Value.oneCell']⟩ (Reps.none _ _))) (by decide))
      have hlt := Aside0.mk (below_alloc HW.out (.cells #[.string ⟨#[84]⟩, .slice none 0 0, .string ⟨#[83]⟩, .slice none 0 0] 45))
      go_upto_region 22 with (first | ((with_reducible refine gate_builtin (b := .append) (xs := #[.tmp 88, .tmp 91]) rfl ?_); at_builtin; refine Kd.R_append_rows (Kd.raw 2) (w0 := w) w.heap.size rfl (.tmp 88) (.tmp 91) 23 45 (.agg #[.string ⟨#[]⟩, .slice none 0 0]) 40 rfl Try.underlying23 bw_info45 rfl (by decide) (by omega) (.slice (some ⟨gD, 0, none⟩) 2 2) [[.string ⟨#[83]⟩, .slice (some ⟨gA0, 0, none⟩) 1 1], [.string ⟨#[84]⟩, .slice (some ⟨gA1, 0, none⟩) 1 1]] [[.string ⟨#[84]⟩, .slice none 0 0], [.string ⟨#[83]⟩, .slice none 0 0]] _ _ _ (fun _ => True) (fun _ => False) rfl rfl (Kd.R_mono hRD.out (fun _ _ => trivial)) hRL.out (fun _ _ h => h) (fun _ h => h.elim) (fun _ _ => trivial) hlt.out hlt.out.size (by simp) ?_; intro v1 w1 ho hb hg hat; (obtain ⟨Ad, cd, e1⟩ := Kd.R_slice ho); subst e1; have hmv := fun (g : Nat) (cs : Array Value) (e : Nat) (h : W4.heap[g]? = some (.cells cs e (0, 0))) (hn : g ≠ gD) => (hg.block g (blk_lt ((hal.block g (blk_lt h)).trans h)) (by simp [Value.ownBlock]; exact hn)).trans ((hal.block g (blk_lt h)).trans h); have ps := (blk_cell (hmv gB _ _ HB4.out (by omega)) 1).trans rfl; have pf := blk_frozen (hmv gB _ _ HB4.out (by omega)) 1))
      have hDn := Aside0.mk (RowT.set (RowT.of rfl ho) (hmv gB _ _ HB4.out (by omega)) (by decide) 1 (.slice Ad 4 cd))
      have hRW := Aside0.mk hRD.out
      have mB := Aside0.mk (blk_put (hmv gB _ _ HB4.out (by omega)) 1 (.slice Ad 4 cd) rfl)
      have mA0 := Aside0.mk (blk_far (hmv gA0 _ _ HA04.out (by omega)) (p := ⟨gB, 1, none⟩) (by show gA0 ≠ gB; omega) (.slice Ad 4 cd))
      have mA1 := Aside0.mk (blk_far (hmv gA1 _ _ HA14.out (by omega)) (p := ⟨gB, 1, none⟩) (by show gA1 ≠ gB; omega) (.slice Ad 4 cd))
      have mC1 := Aside0.mk (blk_far (hmv gC1 _ _ HC14.out (by omega)) (p := ⟨gB, 1, none⟩) (by show gC1 ≠ gB; omega) (.slice Ad 4 cd))
      have mX := Aside0.mk (Kd.F_far (Kd.F_grown (Kd.F_below HX4.out hal) hg (fun k hk he => hk.2.2.2.1 (by simpa [Value.ownBlock] using he))) (p := ⟨gB, 1, none⟩) (fun k hk => hk.2.2.2.2) (.slice Ad 4 cd))
      have mI := Aside0.mk (Kd.F_far (Kd.F_grown (Kd.F_below HI4.out hal) hg (fun k hk he => hk.2.2.1 (by simpa [Value.ownBlock] using he))) (p := ⟨gB, 1, none⟩) (fun k hk => hk.2.2.2) (.slice Ad 4 cd))
      have mS := Aside0.mk (RowT.set (RowT.other (RowT.box hSn.out hal) (RowT.of rfl hRD.out) (by decide) hg) (hmv gB _ _ HB4.out (by omega)) (by decide) 1 (.slice Ad 4 cd))
      have mW := Aside0.mk (hb.setCell (p := ⟨gB, 1, none⟩) (by show w.heap.size ≤ gB; omega) (.slice Ad 4 cd))
      clear HB4 HA04 HA14 HC14 HX4 HI4 hSn HW HD4 hRD hRL hRW hlt hmv hal k0 kg ps pf ho hb hg hat
      generalize w1.setCell ⟨gB, 1, none⟩ (.slice Ad 4 cd) = W5 at *
      have HB5 := mB
      have HA05 := mA0
      have HA15 := mA1
      have HC15 := mC1
      have HX5 := mX
      have HI5 := mI
      have HS5 := mS
      have HW := mW
      clear mW mB mA0 mA1 mC1 mX mI mS
      go_upto_region 24 with (fail)
      have cS := (Kd.R_reads' HS5.out).2.2
      have lS := (Kd.R_reads' HS5.out).2.1
      have cI := Kd.F_now HI5.out
      have lI := hIC.out
      have cX := Kd.F_now HX5.out
      have lX := hXC.out
      have kD := bw_defs HA05.out HC15.out HA15.out cX rfl lX cI rfl lI
      have kM := bw_more W5
      have cD := rows_C (d := k45) (xs := [⟨⟨#[83]⟩, [(List.replicate 9 ⟨false, []⟩)]⟩, ⟨⟨#[84]⟩, [[⟨false, [⟨2, ⟨#[]⟩, 3, 2⟩, ⟨0, ⟨#[85]⟩, 0, 0⟩]⟩]]⟩]) (ys := [⟨⟨#[84]⟩, []⟩, ⟨⟨#[83]⟩, []⟩]) rfl rfl (Kd.R_reads' hDn.out).2.2 (bw_two kD.1 kD.2) (bw_two kM.1 kM.2)
      have lD := (Kd.R_reads' hDn.out).2.1
      have FB2 := Aside0.mk (show gram_Build.f k [⟨#[83]⟩, ⟨#[83]⟩] [⟨⟨#[83]⟩, [(List.replicate 9 ⟨false, []⟩)]⟩, ⟨⟨#[84]⟩, [[⟨false, [⟨2, ⟨#[]⟩, 3, 2⟩, ⟨0, ⟨#[85]⟩, 0, 0⟩]⟩]]⟩, ⟨⟨#[84]⟩, []⟩, ⟨⟨#[83]⟩, []⟩] = some (r1, r2, r3, ⟨#[84]⟩, 401) from FB.out)
      have tl := (show (r2.length = 2 ↔ (401 : Int) = 0) from FL.out)
      have tL : ((r2.length : Int) == 2) = false := by rw [beq_eq_false_iff_ne]; intro h9; exact absurd (tl.1 (by omega)) (by decide)
      have k0 : W5.cell? ⟨gB, 0, none⟩ = some (.slice As 2 cs) := (blk_cell HB5.out 0).trans rfl
      have k1 : W5.cell? ⟨gB, 1, none⟩ = some (.slice Ad 4 cd) := (blk_cell HB5.out 1).trans rfl
      have Z := Aside0.mk (And.intro cS (And.intro lS (And.intro cD (And.intro lD HW.out))))
      clear cS lS cD lD cI lI cX lX kD tl FB FL kM
      go_wp2_with (first | (go_at_call 14; (with_reducible refine (templelaw0_Num.calls 401 401 _ (bw_num 401)).mono ?_); rintro e w' ⟨rfl, ⟨nd, rfl⟩⟩) | (go_at_call 11; refine (gram_Build.calls k _ _ [⟨#[83]⟩, ⟨#[83]⟩] _ _ [⟨⟨#[83]⟩, [(List.replicate 9 ⟨false, []⟩)]⟩, ⟨⟨#[84]⟩, [[⟨false, [⟨2, ⟨#[]⟩, 3, 2⟩, ⟨0, ⟨#[85]⟩, 0, 0⟩]⟩]]⟩, ⟨⟨#[84]⟩, []⟩, ⟨⟨#[83]⟩, []⟩] r1 r2 r3 ⟨#[84]⟩ 401 _ Z.out.1 Z.out.2.1 Z.out.2.2.1 Z.out.2.2.2.1 FB2.out).mono ?_; rintro e w2 ⟨v1, v2, rfl, h1, h2, hbq⟩; (obtain ⟨Aq, cq, rfl⟩ := Kd.R_slice h1); (obtain ⟨Ar, cr, rfl⟩ := Kd.R_slice h2); have Y := Aside0.mk hbq; clear h1 h2 hbq))
      go_ret
      exact ⟨by first | rfl | simp | simp [tL], pw_below_drewN (below_alloc (Z.out.2.2.2.2.trans (Y.out.mono Z.out.2.2.2.2.size)) _) _⟩



end Go.Proofs.Ytdjnpgigdchfkaa.PBW
