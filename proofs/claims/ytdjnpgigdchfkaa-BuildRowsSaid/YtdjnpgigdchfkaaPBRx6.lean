-- written by a program of the session's (wip/myprint.py) out of the translation
import Derived.Test.YtdjnpgigdchfkaaPBRx0
import Derived.Test.YtdjnpgigdchfkaaPBRx5
namespace Go.Proofs.Ytdjnpgigdchfkaa.PBR
open Go.RowKit Go.Proofs.YtdjnpgigdchfkaaW.PrintWords Go.Proofs.YtdjnpgigdchfkaaW.PrintLast Go.Proofs.YtdjnpgigdchfkaaW.PrintMore
attribute [local go_sem] max2_int min2_int max_two min_two max_three min_three max_four min_four   -- for this text's walks alone
set_option linter.unusedVariables false
set_option linter.unusedSimpArgs false

/-! ### templelaw4_BuildRows: function 7 -/
def br19.T19 : Bool × List (List Nat × List Nat) := (true, [([], []), ([0], [0]), ([], []), ([2], [2]), ([3], [3]), ([], []), ([5], [5]), ([], []), ([], []), ([], []), ([8, 9], [8, 9]), ([10], [10]), ([7, 11], [7, 11]), ([12], [12]), ([13], [13]), ([], []), ([15], [15]), ([6, 14, 16], [6, 14, 16]), ([4, 17], [4, 17]), ([18], [18]), ([19], [19]), ([1, 20], [1, 20]), ([0, 1, 2, 3, 4, 5, 6, 7, 8, 9, 10, 11, 12, 13, 14, 15, 16, 17, 18, 19, 20, 21], []), ([22, 21, 21, 0, 1, 2, 3, 4, 5, 6, 7, 8, 9, 10, 11, 12, 13, 14, 15, 16, 17, 18, 19, 20, 21], [21, 22])])
def br19.B19 : List Nat := [0, 1, 0, 4, 12, 0, 32, 0, 0, 0, 768, 1792, 3968, 8064, 16256, 0, 32768, 131040, 262140, 524284, 1048572, 2097151, 4194303, 8388607]
theorem br19.tab19 : rtab .any (opsOf Try.f7 19) = br19.T19 := by kernel_rfl
theorem br19.bits19 : waitsOk br19.T19.2 br19.B19 = true := by kernel_rfl
def br24.T24 : Bool × List (List Nat × List Nat) := (true, [([], []), ([0], [0]), ([], []), ([], []), ([2, 3], [2, 3]), ([4], [4]), ([], []), ([], []), ([6, 7], [6, 7]), ([8], [8]), ([5, 9], [5, 9]), ([10], [10]), ([1, 11], [1, 11]), ([0, 1, 2, 3, 4, 5, 6, 7, 8, 9, 10, 11, 12], []), ([13, 12, 12, 0, 1, 2, 3, 4, 5, 6, 7, 8, 9, 10, 11, 12], [12, 13])])
def br24.B24 : List Nat := [0, 1, 0, 0, 12, 28, 0, 0, 192, 448, 1020, 2044, 4095, 8191, 16383]
theorem br24.tab24 : rtab .any (opsOf Try.f7 24) = br24.T24 := by kernel_rfl
theorem br24.bits24 : waitsOk br24.T24.2 br24.B24 = true := by kernel_rfl
def brNm : List ByteArray := [⟨#[98]⟩, ⟨#[97]⟩, ⟨#[99]⟩]
def brN (i : Nat) : ByteArray := rdOf ByteArray.empty brNm (i : Int)
def brT (s : ByteArray) : ByteArray := if 20 < s.size then s.extract 0 20 else s
def brK (l : List Int) (i : Nat) : Nat := if i < l.length then 1 + (Go.bits .and .i64 (rd l (i : Int)) 3).toNat else 1
def brIt (t : ByteArray) (i j : Nat) : List S61 := [⟨1, t, 0, 0⟩, ⟨0, brN ((i + j) % 3), 0, 0⟩, ⟨2, ⟨#[]⟩, (j : Int), 9⟩]
def brAlt (t : ByteArray) (i j : Nat) : List S64 := [⟨decide (j % 2 = 1), brIt t i j⟩]
def brDef (t : ByteArray) (i k : Nat) : S45 := ⟨brN i, (List.range k).map (brAlt t i)⟩
def brDefs (t : ByteArray) (K : Nat → Nat) (n : Nat) : List S45 := (List.range n).map (fun i => brDef t i (K i))
def brBy (t : ByteArray) (m : Nat) : List S56 := (List.range m).map (fun q : Nat => ⟨-1, bt t (q : Int), bt t (q : Int)⟩)
def brSeq (t : ByteArray) (i j : Nat) : List S56 := brBy t t.size ++ [⟨(((i + j) % 3 : Nat) : Int), 0, 0⟩, ⟨-1, (j : Int), 9⟩]
def brRule (t : ByteArray) (i j : Nat) : S51 := ⟨(i : Int), [⟨decide (j % 2 = 1), brSeq t i j⟩]⟩
def brWant (t : ByteArray) (K : Nat → Nat) : Nat → List S51
 | 0 => []
 | n + 1 => brWant t K n ++ (List.range (K n)).map (brRule t n)
def brS (a : Int) : Nat := (a % 18446744073709551616 % 3).toNat
def templelaw4_BuildRows.f (k : Nat) (l0 : List Int) (a1 : ByteArray) (a2 : Int) : Option (Bool) :=
 (templelaw4_awake.f k).bind fun z => if z = true then
  (gram_Build.f k [brN (brS a2)] (brDefs (brT a1) (brK l0) 3)).bind fun G =>
   if G.1 = (brS a2 : Int) ∧ G.2.1 = brNm ∧ G.2.2.1 = brWant (brT a1) (brK l0) 3 ∧ G.2.2.2.2 = 0 then some true else none
 else none
theorem templelaw4_BuildRows.mono : ∀ l0 a1 a2 k, LeO (templelaw4_BuildRows.f k l0 a1 a2) (templelaw4_BuildRows.f (k + 1) l0 a1 a2) := by
 intro l0 a1 a2 k
 unfold templelaw4_BuildRows.f
 repeat' first
   | (with_reducible exact templelaw4_awake.mono _)
   | (with_reducible exact gram_Build.mono _ _ _)
   | (with_reducible exact LeO.refl _)
   | (with_reducible exact LeO.none _)
   | (with_reducible refine LeO.ite ?_ ?_)
   | (with_reducible refine LeO.bind ?_ (fun _ => ?_))
theorem range_snoc' {α : Type} (f : Nat → α) (n : Nat) : (List.range (n + 1)).map f = (List.range n).map f ++ [f n] := by
 rw [List.range_succ, List.map_append, List.map_singleton]
theorem br_and_pow (a : Int) (n : Nat) (hn : n ≤ 63) : Go.bits .and .i64 a (((2 ^ n - 1 : Nat) : Int)) = IntKind.i64.wrap (a % (2 ^ n : Nat)) := by
 have hp : (2 : Nat) ^ n ≤ 2 ^ 63 := Nat.pow_le_pow_right (by decide) hn
 have h : Go.bits .and .i64 a (((2 ^ n - 1 : Nat) : Int)) = IntKind.i64.wrap (((BitVec.ofInt 64 a) &&& (BitVec.ofInt 64 (((2 ^ n - 1 : Nat) : Int)))).toNat : Int) := rfl
 rw [h, BitVec.toNat_and, BitVec.toNat_ofInt, BitVec.toNat_ofInt]
 have e1 : ((((2 ^ n - 1 : Nat) : Int)) % (2 ^ 64 : Nat)).toNat = 2 ^ n - 1 := by
  have : ((2 ^ 64 : Nat) : Int) = 18446744073709551616 := by decide
  have h63 : (2 : Nat) ^ 63 = 9223372036854775808 := by decide
  rw [this]
  omega
 rw [e1, Nat.and_two_pow_sub_one_eq_mod]
 congr 1
 have e2 : ((a % (2 ^ 64 : Nat)).toNat : Int) = a % (2 ^ 64 : Nat) := Int.toNat_of_nonneg (Int.emod_nonneg _ (by decide))
 rw [Int.natCast_emod, e2]
 exact Int.emod_emod_of_dvd a (by
  obtain ⟨d, hd⟩ : ∃ d, 64 = n + d := ⟨64 - n, by omega⟩
  exact ⟨((2 ^ d : Nat) : Int), by rw [show (2 : Nat) ^ 64 = 2 ^ (n + d) from congrArg (fun e => 2 ^ e) hd, Nat.pow_add]; exact Int.natCast_mul _ _⟩)
theorem br_and3 (x : Int) : 0 ≤ Go.bits .and .i64 x 3 ∧ Go.bits .and .i64 x 3 ≤ 3 := by
 have h := br_and_pow x 2 (by decide)
 rw [show (((2 ^ 2 - 1 : Nat) : Int)) = 3 from rfl] at h
 rw [h]
 have : IntKind.i64.wrap (x % (2 ^ 2 : Nat)) = x % 4 := by
  rw [IntKind.wrap_i64]
  omega
 rw [this]
 omega
theorem brK_le (l : List Int) (i : Nat) : 1 ≤ brK l i ∧ brK l i ≤ 4 := by
 have h : ∀ x : Int, 0 ≤ Go.bits .and .i64 x 3 ∧ Go.bits .and .i64 x 3 ≤ 3 := br_and3
 unfold brK
 split
 ·have := h (rd l (i : Int))
  omega
 ·omega
theorem brT_le (s : ByteArray) : (brT s).size ≤ 20 := by
 unfold brT
 split
 ·rw [ByteArray.size_extract]; omega
 ·omega
theorem R_set' {α : Type} {d : Kd α} {e base g t : Nat} {w : World} {ok : Nat → Prop} {v : Value} {xs : List α} {cells : Array Value} (h : Kd.R d e w base ok v xs) (hb : w.heap[g]? = some (.cells cells t (0, 0))) (ht : ∀ q, q ∈ e :: d.E → q ≠ t) (j : Nat) (u : Value) : Kd.R d e (w.setCell ⟨g, j, none⟩ u) base ok v xs :=
 Kd.R_mono (Kd.R_far (p := ⟨g, j, none⟩) (Kd.R_types h hb ht) (fun _ hk => hk.2) u) (fun _ hk => hk.1)
/-- What holds at the head of the outer loop. -/
structure BrI (w wr : World) (gr gn : Nat) (vd vw : Value) (xd : List S45) (xw : List S51) : Prop where
 bn : wr.heap[gn]? = some (.cells #[.string ⟨#[98]⟩, .string ⟨#[97]⟩, .string ⟨#[99]⟩] 9 (0, 0))
 br : wr.heap[gr]? = some (.cells #[.slice none 0 0, vd] 25 (0, 0))
 hd : Kd.R k45 45 wr w.heap.size (fun _ => True) vd xd
 hw : Kd.R k51 51 wr w.heap.size (fun _ => True) vw xw
 hb : Below w.heap.size w wr
/-- What holds within: a definition is made (its box g12), its alternatives lie in va. -/
structure BrJ (w wr : World) (N gr gn g12 : Nat) (n : ByteArray) (vd vw va : Value) (xd : List S45) (xw : List S51) (xa : List (List S64)) : Prop where
 bn : wr.heap[gn]? = some (.cells #[.string ⟨#[98]⟩, .string ⟨#[97]⟩, .string ⟨#[99]⟩] 9 (0, 0))
 br : wr.heap[gr]? = some (.cells #[.slice none 0 0, vd] 25 (0, 0))
 b12 : wr.heap[g12]? = some (.cells #[.string n, va] 45 (0, 0))
 hd : Kd.R k45 45 wr w.heap.size (fun k => k < N) vd xd
 hw : Kd.R k51 51 wr w.heap.size (fun _ => True) vw xw
 ha : Kd.R (Kd.slice 64 k64) 65 wr N (fun k => N ≤ k) va xa
 hb : Below w.heap.size w wr
 h12 : N ≤ g12
 hN : w.heap.size ≤ N
 hs : N ≤ wr.heap.size
theorem BrJ.below {w wr w1 : World} {N gr gn g12 : Nat} {n : ByteArray} {vd vw va : Value} {xd : List S45} {xw : List S51} {xa : List (List S64)} (h : BrJ w wr N gr gn g12 n vd vw va xd xw xa) (hb : Below wr.heap.size wr w1) : BrJ w w1 N gr gn g12 n vd vw va xd xw xa :=
 ⟨blk_below h.bn hb, blk_below h.br hb, blk_below h.b12 hb, Kd.R_below h.hd hb, Kd.R_below h.hw hb, Kd.R_below h.ha hb, h.hb.trans (hb.mono h.hb.size), h.h12, h.hN, Nat.le_trans h.hs hb.size⟩
/-- An alternative more: its row grew, its box was told. -/
theorem BrJ.alt {w wr w2 : World} {N gr gn g12 : Nat} {n : ByteArray} {vd vw va v1 : Value} {xd : List S45} {xw : List S51} {xa ya : List (List S64)} (h : BrJ w wr N gr gn g12 n vd vw va xd xw xa) (hg : wr.grownBy w2 va.ownBlock) (hown : Kd.R (Kd.slice 64 k64) 65 w2 N (fun k => N ≤ k) v1 ya) :
  BrJ w (w2.setCell ⟨g12, 1, none⟩ v1) N gr gn g12 n vd vw v1 xd xw ya := by
 have hb := pw_below_grown (Below.refl N wr) _ h.hs hg (fun k hk => Kd.R_base h.ha k hk)
 have hty := Kd.R_typed h.ha
 have n12 := blk_ne h.bn h.b12 (by decide)
 have r12 := blk_ne h.br h.b12 (by decide)
 have q12 := blk_grown h.b12 hg (Kd.R_ne h.ha h.b12 (by decide))
 refine ⟨blk_far (blk_grown h.bn hg (Kd.R_ne h.ha h.bn (by decide))) n12 _, blk_far (blk_grown h.br hg (Kd.R_ne h.ha h.br (by decide))) r12 _, blk_put q12 1 _ rfl, ?_, R_set' (Kd.R_over' h.hw hty (by decide) hg) q12 (by decide) 1 _, R_set' hown q12 (by decide) 1 _, (h.hb.trans (hb.mono h.hN)).setCell (p := ⟨g12, 1, none⟩) (Nat.le_trans h.hN h.h12) _, h.h12, h.hN, Nat.le_trans h.hs (Nat.le_trans hg.size (by simp))⟩
 exact Kd.R_step h.hd (fun k hk hlt => (Below.heap_setCell w2 ⟨g12, 1, none⟩ v1 k (Nat.ne_of_lt (Nat.lt_of_lt_of_le hk h.h12))).trans (hb.block k hk))
/-- A rule more. -/
theorem BrJ.rule {w wr w2 : World} {N gr gn g12 : Nat} {n : ByteArray} {vd vw va v1 : Value} {xd : List S45} {xw yw : List S51} {xa : List (List S64)} (h : BrJ w wr N gr gn g12 n vd vw va xd xw xa) (hg : wr.grownBy w2 vw.ownBlock) (hown : Kd.R k51 51 w2 w.heap.size (fun _ => True) v1 yw) :
  BrJ w w2 N gr gn g12 n vd v1 va xd yw xa := by
 have hb := pw_below_grown h.hb _ h.hb.size hg (fun k hk => Kd.R_base h.hw k hk)
 have hty := Kd.R_typed h.hw
 exact ⟨blk_grown h.bn hg (Kd.R_ne h.hw h.bn (by decide)), blk_grown h.br hg (Kd.R_ne h.hw h.br (by decide)), blk_grown h.b12 hg (Kd.R_ne h.hw h.b12 (by decide)), Kd.R_over' h.hd hty (by decide) hg, hown, Kd.R_over' h.ha hty (by decide) hg, hb, h.h12, h.hN, Nat.le_trans h.hs hg.size⟩
/-- A definition more. -/
theorem BrJ.def_ {w wr w2 : World} {N gr gn g12 : Nat} {n : ByteArray} {vd vw va v1 : Value} {xd yd : List S45} {xw : List S51} {xa : List (List S64)} (h : BrJ w wr N gr gn g12 n vd vw va xd xw xa) (hr : w.heap.size ≤ gr) (hg : wr.grownBy w2 vd.ownBlock) (hown : Kd.R k45 45 w2 w.heap.size (fun _ => True) v1 yd) :
  BrI w (w2.setCell ⟨gr, 1, none⟩ v1) gr gn v1 vw yd xw := by
 have hb := pw_below_grown h.hb _ h.hb.size hg (fun k hk => Kd.R_base h.hd k hk)
 have hty := Kd.R_typed h.hd
 have n12 := blk_ne h.bn h.br (by decide)
 have qr := blk_grown h.br hg (Kd.R_ne h.hd h.br (by decide))
 exact ⟨blk_far (blk_grown h.bn hg (Kd.R_ne h.hd h.bn (by decide))) n12 _, blk_put qr 1 _ rfl, R_set' hown qr (by decide) 1 _, R_set' (Kd.R_over' h.hw hty (by decide) hg) qr (by decide) 1 _, hb.setCell (p := ⟨gr, 1, none⟩) hr _⟩
theorem BrI.below {w wr w1 : World} {gr gn : Nat} {vd vw : Value} {xd : List S45} {xw : List S51} (h : BrI w wr gr gn vd vw xd xw) (hb : Below wr.heap.size wr w1) : BrI w w1 gr gn vd vw xd xw :=
 ⟨blk_below h.bn hb, blk_below h.br hb, Kd.R_below h.hd hb, Kd.R_below h.hw hb, h.hb.trans (hb.mono h.hb.size)⟩
theorem BrI.start {w wr : World} {gr gn : Nat} {n : ByteArray} {vd vw : Value} {xd : List S45} {xw : List S51} (h : BrI w wr gr gn vd vw xd xw) : BrJ w (wr.alloc (.cells #[.string n, .slice none 0 0] 45)) wr.heap.size gr gn wr.heap.size n vd vw (.slice none 0 0) xd xw [] :=
 ⟨blk_alloc h.bn _, blk_alloc h.br _, blk_new _ _, Kd.R_mono (Kd.R_alloc (Kd.R_bound h.hd) _) (fun k hk => hk.2.2.1), Kd.R_alloc h.hw _, Kd.R_nil _ _ _ _ _, below_alloc h.hb _, Nat.le_refl _, h.hb.size, by simp⟩
theorem br_lit {w0 : World} {N : Nat} (hN : N ≤ w0.heap.size) (t : ByteArray) (i j : Nat) {m : Nat} (hm : (i + j) % 3 = m) :
  (Kd.slice 64 k64).M ((w0.alloc (.cells #[.int .i64 1, .string t, .int .i64 0, .int .i64 0, .int .i64 0, .string (brN m), .int .i64 0, .int .i64 0, .int .i64 2, .string ⟨#[]⟩, .int .i64 (j : Int), .int .i64 9] 61)).alloc (.cells #[.bool (decide (j % 2 = 1)), .slice (some ⟨w0.heap.size, 0, none⟩) 3 3] 64)) N (fun k => w0.heap.size ≤ k) (brAlt t i j) [.slice (some ⟨w0.heap.size + 1, 0, none⟩) 1 1] := by
 subst hm
 have hsz : (w0.alloc (.cells #[.int .i64 1, .string t, .int .i64 0, .int .i64 0, .int .i64 0, .string (brN ((i + j) % 3)), .int .i64 0, .int .i64 0, .int .i64 2, .string ⟨#[]⟩, .int .i64 (j : Int), .int .i64 9] 61)).heap.size = w0.heap.size + 1 := by simp
 have b2 := blk_new (w0.alloc (.cells #[.int .i64 1, .string t, .int .i64 0, .int .i64 0, .int .i64 0, .string (brN ((i + j) % 3)), .int .i64 0, .int .i64 0, .int .i64 2, .string ⟨#[]⟩, .int .i64 (j : Int), .int .i64 9] 61)) (.cells #[.bool (decide (j % 2 = 1)), .slice (some ⟨w0.heap.size, 0, none⟩) 3 3] 64)
 rw [hsz] at b2
 have r1 := R_blk (d := k61) (base := N) (ok := fun k => k = w0.heap.size) (okp := fun _ => False) (xs := brIt t i j) hN (blk_alloc (blk_new w0 (.cells #[.int .i64 1, .string t, .int .i64 0, .int .i64 0, .int .i64 0, .string (brN ((i + j) % 3)), .int .i64 0, .int .i64 0, .int .i64 2, .string ⟨#[]⟩, .int .i64 (j : Int), .int .i64 9] 61)) (.cells #[.bool (decide (j % 2 = 1)), .slice (some ⟨w0.heap.size, 0, none⟩) 3 3] 64)) (Reps.c4 (k61_mkM _ _ _ ⟨1, t, 0, 0⟩) (Reps.c4 (k61_mkM _ _ _ ⟨0, brN ((i + j) % 3), 0, 0⟩) (Reps.c4 (k61_mkM _ _ _ ⟨2, ⟨#[]⟩, (j : Int), 9⟩) (Reps.none _ _)))) (fun _ h => h.elim) rfl (by simp [brIt])
 exact ⟨_, rfl, R_blk (d := k64) (xs := brAlt t i j) (by omega) b2 (Reps.c2 (k64_mkM _ _ _ ⟨decide (j % 2 = 1), brIt t i j⟩ r1) (Reps.none _ _)) (fun k hk => by subst hk; exact ⟨Nat.le_refl _, by omega⟩) (by omega) (by simp [brAlt])⟩
theorem brBy_len (t : ByteArray) (m : Nat) : (brBy t m).length = m := by unfold brBy; rw [List.length_map, List.length_range]
theorem brN_cell {w : World} {gn : Nat} (h : w.heap[gn]? = some (.cells #[.string ⟨#[98]⟩, .string ⟨#[97]⟩, .string ⟨#[99]⟩] 9 (0, 0))) : ∀ p, p < 3 → w.cell? ⟨gn, p, none⟩ = some (.string (brN p))
 | 0, _ => (blk_cell h 0).trans rfl
 | 1, _ => (blk_cell h 1).trans rfl
 | 2, _ => (blk_cell h 2).trans rfl
 | p + 3, hp => by omega
theorem br_rule_M {w5 : World} {base g15 : Nat} {t : ByteArray} {i j : Nat} {v2 : Value} (hb : base ≤ g15) (h15 : g15 ≤ w5.heap.size) (hv : Kd.R k56 56 w5 g15 (fun _ => True) v2 (brSeq t i j)) :
  k51.M (w5.alloc (.cells #[.bool (decide (j % 2 = 1)), v2] 54)) base (fun k => g15 ≤ k) (brRule t i j) [.int .i64 (i : Int), .slice (some ⟨w5.heap.size, 0, none⟩) 1 1] :=
 k51_mkM _ _ _ (brRule t i j) (R_blk (d := k54) (okp := fun k => g15 ≤ k ∧ k < w5.heap.size) (xs := (brRule t i j).f1) (Nat.le_trans hb h15) (blk_new w5 _) (Reps.c2 (k54_mkM _ _ _ ⟨decide (j % 2 = 1), brSeq t i j⟩ (Kd.R_lower (Kd.R_mono (Kd.R_alloc (Kd.R_bound hv) _) (fun k hk => ⟨hk.2.1, hk.2.2.1⟩)) hb)) (Reps.none _ _)) (fun k hk => ⟨hk.1, Nat.ne_of_lt hk.2⟩) h15 (by show 1 ≤ _; decide))
theorem brWant_len (t : ByteArray) (l : List Int) : ∀ n, (brWant t (brK l) n).length ≤ 4 * n
 | 0 => by unfold brWant; simp
 | n + 1 => by
  have := brWant_len t l n
  have := brK_le l n
  unfold brWant
  rw [List.length_append, List.length_map, List.length_range]
  omega
set_option maxHeartbeats 8000000 in
set_option maxRecDepth 100000 in
set_option maxHeartbeats 8000000 in
set_option maxRecDepth 100000 in
theorem templelaw4_BuildRows.calls (k : Nat) (A0 : Option Addr) (c0 : Nat) (l0 : List Int) (a1 : ByteArray) (a2 : Int) (r : Bool) (w : World) (hr0 : Kd.C (Kd.int .i64) w A0 l0.length l0) (hc0 : l0.length ≤ c0) (h : templelaw4_BuildRows.f k l0 a1 a2 = some r) :
  Calls Try.prog 7 #[.slice A0 l0.length c0, .string a1, .int .i64 a2] w fun e w' => e = .returned (.bool r) ∧ Below w.heap.size w w' := by
 unfold templelaw4_BuildRows.f at h
 rw [Option.bind_eq_some_iff] at h
 obtain ⟨z, ha, h⟩ := h
 cases z with
 | false => rw [if_neg (by decide)] at h; cases h
 | true =>
 rw [if_pos rfl, Option.bind_eq_some_iff] at h
 obtain ⟨⟨G1, G2, G3, G4, G5⟩, hG, h⟩ := h
 dsimp only at h
 by_cases hB : G1 = (brS a2 : Int) ∧ G2 = brNm ∧ G3 = brWant (brT a1) (brK l0) 3 ∧ G5 = 0
 case neg => rw [if_neg hB] at h; cases h
 rw [if_pos hB] at h
 obtain rfl := Option.some.inj h
 obtain ⟨rfl, rfl, rfl, rfl⟩ := hB
 have HA := Aside0.mk ha
 have HG := Aside0.mk hG
 have HR0 := Aside0.mk hr0
 have HT := Aside0.mk (brT_le a1)
 clear ha hG h hr0
 go_enter Try.func7, Try.ntmps7
 go_upto_if 26 with (first | (go_at_call 20; (with_reducible refine (templelaw4_awake.calls k true _ HA.out).mono ?_); rintro e w1 ⟨rfl, hb1⟩; have HB1 := Aside0.mk hb1; clear hb1))
 go_cut [7] (fun v7 wc => v7 = .string (brT a1) ∧ Aside0 (Below w.heap.size w wc))
 case first =>
  by_cases h20 : 20 < a1.size
  ·have e : brT a1 = a1.extract 0 20 := by unfold brT; rw [if_pos h20]
   go_wp2
   go_meet
   case rel => exact ⟨by rw [e], HB1⟩
  ·have e : brT a1 = a1 := by unfold brT; rw [if_neg h20]
   go_wp2
   go_meet
   case rel => exact ⟨by rw [e], HB1⟩
 case rest =>
 obtain ⟨rfl, hbc⟩ := hcut
 clear HB1
 generalize brT a1 = t at *
 have hgr := hbc.out.size
 have hI : BrI w ((wc.alloc (.cells #[.slice none 0 0, .slice none 0 0] 25)).alloc (.cells #[.string ⟨#[98]⟩, .string ⟨#[97]⟩, .string ⟨#[99]⟩] 9)) wc.heap.size (wc.heap.size + 1) (.slice none 0 0) (.slice none 0 0) [] [] := by
  have b2 := blk_new (wc.alloc (.cells #[.slice none 0 0, .slice none 0 0] 25)) (.cells #[.string ⟨#[98]⟩, .string ⟨#[97]⟩, .string ⟨#[99]⟩] 9)
  rw [show (wc.alloc (.cells #[.slice none 0 0, .slice none 0 0] 25)).heap.size = wc.heap.size + 1 from by simp] at b2
  exact ⟨b2, blk_alloc (blk_new wc _) _, Kd.R_nil _ _ _ _ _, Kd.R_nil _ _ _ _ _, below_alloc (below_alloc hbc.out _) _⟩
 have HI := Aside0.mk hI
 clear hI hbc
 go_wp2
 generalize wc.heap.size + 1 = gn at *
 generalize wc.heap.size = gr at *
 generalize ((wc.alloc (.cells #[.slice none 0 0, .slice none 0 0] 25)).alloc (.cells #[.string ⟨#[98]⟩, .string ⟨#[97]⟩, .string ⟨#[99]⟩] 9)) = wl at *
 go_loopw [11, 9] (fun v11 v9 wr => ∃ (i : Nat) (vd vw : Value), i ≤ 3 ∧ v11 = .int .i64 i ∧ vw = v9 ∧ Aside0 (BrI w wr gr gn vd vw (brDefs t (brK l0) i) (brWant t (brK l0) i))) (fun v _ _ => 3 - (intOf v).toNat)
 case atStart => exact ⟨0, _, _, by omega, rfl, rfl, ⟨HI.out⟩⟩
 case round =>
  obtain ⟨i, vd, vw, hi, rfl, rfl, hI⟩ := hrel
  clear HI
  by_cases hlt : i < 3
  case neg =>
   obtain rfl : i = 3 := by omega
   have hsv : wrap64 (Int.tmod (IntKind.u64.wrap a2) 3) = (brS a2 : Int) := by
    have e : IntKind.u64.wrap a2 = a2 % 18446744073709551616 := rfl
    rw [e, Int.tmod_eq_emod_of_nonneg (by omega)]
    unfold wrap64 brS
    omega
   have hs3 : brS a2 < 3 := by unfold brS; omega
   have xs := brN_cell hI.out.bn (brS a2) hs3
   have krs : wr.cell? ⟨gr, 0, none⟩ = some (.slice none 0 0) := (blk_cell hI.out.br 0).trans rfl
   have krf := blk_frozen hI.out.br 0
   obtain ⟨Ad, cd, rfl⟩ := Kd.R_slice hI.out.hd
   have krd : wr.cell? ⟨gr, 1, none⟩ = some (.slice Ad (brDefs t (brK l0) 3).length cd) := (blk_cell hI.out.br 1).trans rfl
   go_upto_region 29 with (fail)
   rw [hsv]
   clear hsv
   have HS3 := Aside0.mk hs3
   have hs3i : ((brS a2 : Int) < 3) = True := eq_true (by omega)
   have kra : (wr.alloc (.cells #[.string (brN (brS a2))] 9)).cell? ⟨gr, 0, none⟩ = some (.slice none 0 0) := pw_cell_below (below_alloc (Below.refl _ _) _) krs
   have fra : (wr.alloc (.cells #[.string (brN (brS a2))] 9)).frozen? ⟨gr, 0, none⟩ = false := blk_frozen (blk_alloc hI.out.br _) 0
   have lra : gr < wr.heap.size := blk_lt hI.out.br
   go_upto_region 30 with (fail)
   have hgn := blk_ne hI.out.bn hI.out.br (by decide)
   have f1 := blk_alloc (blk_put hI.out.br 0 (.slice (some ⟨wr.heap.size, 0, none⟩) 1 1) rfl) (.cells #[.string (brN (brS a2))] 9)
   have f2 := blk_new (wr.setCell ⟨gr, 0, none⟩ (.slice (some ⟨wr.heap.size, 0, none⟩) 1 1)) (.cells #[.string (brN (brS a2))] 9)
   rw [show (wr.setCell ⟨gr, 0, none⟩ (.slice (some ⟨wr.heap.size, 0, none⟩) 1 1)).heap.size = wr.heap.size from by simp] at f2
   have f3 := Kd.R_alloc (R_set' hI.out.hd hI.out.br (by decide) 0 (.slice (some ⟨wr.heap.size, 0, none⟩) 1 1)) (.cells #[.string (brN (brS a2))] 9)
   have f4 := Kd.R_alloc (R_set' hI.out.hw hI.out.br (by decide) 0 (.slice (some ⟨wr.heap.size, 0, none⟩) 1 1)) (.cells #[.string (brN (brS a2))] 9)
   have f5 := blk_alloc (blk_far (p := ⟨gr, 0, none⟩) hI.out.bn hgn (.slice (some ⟨wr.heap.size, 0, none⟩) 1 1)) (.cells #[.string (brN (brS a2))] 9)
   have f6 := below_alloc (hI.out.hb.setCell (p := ⟨gr, 0, none⟩) hgr (.slice (some ⟨wr.heap.size, 0, none⟩) 1 1)) (.cells #[.string (brN (brS a2))] 9)
   have HF := Aside0.mk (And.intro f1 (And.intro f2 (And.intro f3 (And.intro f4 (And.intro f5 f6)))))
   clear f1 f2 f3 f4 f5 f6 hgn hI krs krf krd kra fra lra xs
   generalize ((wr.setCell ⟨gr, 0, none⟩ (.slice (some ⟨wr.heap.size, 0, none⟩) 1 1)).alloc (.cells #[.string (brN (brS a2))] 9)) = wf at *
   have kF0 : wf.cell? ⟨gr, 0, none⟩ = some (.slice (some ⟨wr.heap.size, 0, none⟩) 1 1) := (blk_cell HF.out.1 0).trans rfl
   have kF1 : wf.cell? ⟨gr, 1, none⟩ = some (.slice Ad (brDefs t (brK l0) 3).length cd) := (blk_cell HF.out.1 1).trans rfl
   have HC1 := Aside0.mk (show Kd.C Kd.string wf (some ⟨wr.heap.size, 0, none⟩) [brN (brS a2)].length [brN (brS a2)] from C_lit HF.out.2.1 (Reps.one rfl (Reps.none _ _)) (by simp))
   have HC2 := Aside0.mk (Kd.R_reads' HF.out.2.2.1)
   obtain ⟨Aw, cw, rfl⟩ := Kd.R_slice HF.out.2.2.2.1
   have HC3 := Aside0.mk (Kd.R_reads' HF.out.2.2.2.1)
   have HC4 := Aside0.mk (show Kd.C Kd.string wf (some ⟨gn, 0, none⟩) brNm.length brNm from C_lit HF.out.2.2.2.2.1 (Reps.one rfl (Reps.one rfl (Reps.one rfl (Reps.none _ _)))) (by decide))
   generalize wr.heap.size = gs at *
   go_upto_region 31 with (first | (go_at_call 11; (refine (gram_Build.calls k (some ⟨gs, 0, none⟩) 1 [brN (brS a2)] Ad cd (brDefs t (brK l0) 3) (brS a2 : Int) brNm (brWant t (brK l0) 3) G4 0 wf HC1.out (Nat.le_refl _) HC2.out.2.2 HC2.out.2.1 HG.out).mono ?_); (rintro e w2 ⟨v0, v1, rfl, h0, h1, hb⟩; (obtain ⟨P1, p1, rfl⟩ := Kd.R_slice h0); (obtain ⟨P2, p2, rfl⟩ := Kd.R_slice h1); have D2 := Aside0.mk (And.intro h0 (And.intro h1 hb)); clear h0 h1 hb)))
   clear kF0 kF1
   have hb3 := Aside0.mk (below_alloc D2.out.2.2 (.cells #[.int .i64 (brS a2 : Int), .slice P1 brNm.length p1, .slice P2 (brWant t (brK l0) 3).length p2] 28))
   have hbx := Aside0.mk (blk_new w2 (.cells #[.int .i64 (brS a2 : Int), .slice P1 brNm.length p1, .slice P2 (brWant t (brK l0) 3).length p2] 28))
   have hq0 := Aside0.mk (Kd.R_reads' (Kd.R_alloc D2.out.1 (.cells #[.int .i64 (brS a2 : Int), .slice P1 brNm.length p1, .slice P2 (brWant t (brK l0) 3).length p2] 28)))
   have hq1 := Aside0.mk (Kd.R_reads' (Kd.R_alloc D2.out.2.1 (.cells #[.int .i64 (brS a2 : Int), .slice P1 brNm.length p1, .slice P2 (brWant t (brK l0) 3).length p2] 28)))
   have hbz := Aside0.mk (HF.out.2.2.2.2.2.trans (hb3.out.mono HF.out.2.2.2.2.2.size))
   have kz0 : (w2.alloc (.cells #[.int .i64 (brS a2 : Int), .slice P1 brNm.length p1, .slice P2 (brWant t (brK l0) 3).length p2] 28)).cell? ⟨w2.heap.size, 0, none⟩ = some (.int .i64 (brS a2 : Int)) := (blk_cell hbx.out 0).trans rfl
   have kz1 : (w2.alloc (.cells #[.int .i64 (brS a2 : Int), .slice P1 brNm.length p1, .slice P2 (brWant t (brK l0) 3).length p2] 28)).cell? ⟨w2.heap.size, 1, none⟩ = some (.slice P1 brNm.length p1) := (blk_cell hbx.out 1).trans rfl
   have kz2 : (w2.alloc (.cells #[.int .i64 (brS a2 : Int), .slice P1 brNm.length p1, .slice P2 (brWant t (brK l0) 3).length p2] 28)).cell? ⟨w2.heap.size, 2, none⟩ = some (.slice P2 (brWant t (brK l0) 3).length p2) := (blk_cell hbx.out 2).trans rfl
   have hc3 := Aside0.mk (Kd.C_below HC3.out.2.2 hb3.out)
   have hc4 := Aside0.mk (Kd.C_below HC4.out hb3.out)
   generalize (w2.alloc (.cells #[.int .i64 (brS a2 : Int), .slice P1 brNm.length p1, .slice P2 (brWant t (brK l0) 3).length p2] 28)) = w4 at *
   generalize w2.heap.size = g18 at *
   go_wp2_with (first | (go_at_call 14; (with_reducible refine (templelaw0_Num.calls 0 0 _ rfl).mono ?_); rintro e w' ⟨rfl, ⟨nd, rfl⟩⟩) | (go_at_call 13; (refine (templelaw0_SameGrammar.calls (brS a2 : Int) P1 p1 brNm P2 p2 (brWant t (brK l0) 3) (brS a2 : Int) (some ⟨gn, 0, none⟩) 3 brNm Aw cw (brWant t (brK l0) 3) true _ (Kd.C_drewN hq0.out.2.2 _) hq0.out.2.1 (Kd.C_drewN hq1.out.2.2 _) hq1.out.2.1 (Kd.C_drewN hc4.out _) (Nat.le_refl _) (Kd.C_drewN hc3.out _) HC3.out.2.1 (templelaw0_SameGrammar.self _ _ _)).mono ?_); (rintro e w5 ⟨rfl, hb5⟩; have HB5 := Aside0.mk hb5; clear hb5)))
   go_ret
   exact ⟨rfl, (pw_below_drewN hbz.out _).trans (HB5.out.mono (pw_below_drewN hbz.out _).size)⟩
  have xN := brN_cell hI.out.bn i hlt
  have HK := brK_le l0 i
  go_upto_if 42 with (fail)
  go_cut [13] (fun v13 wc2 => v13 = .int .i64 (brK l0 i : Nat) ∧ Aside0 (BrJ w wc2 wr.heap.size gr gn wr.heap.size (brN i) vd vw (.slice none 0 0) (brDefs t (brK l0) i) (brWant t (brK l0) i) []))
  case first =>
   have HS := Aside0.mk (hI.out.start (n := brN i))
   by_cases hil : i < l0.length
   ·obtain ⟨ad0, e0, y0⟩ := Kd.at_int (Kd.C_below HR0.out hI.out.hb) (i : Int) (by omega) (by omega)
    cases e0
    rw [Int.toNat_natCast] at y0
    have x0 := pw_cell_below (below_alloc (Below.refl wr.heap.size wr) (.cells #[.string (brN i), .slice none 0 0] 45)) y0
    have h3 := br_and3 (rd l0 (i : Int))
    have hk : Aside0 (((brK l0 i : Nat) : Int) = 1 + Go.bits .and .i64 (rd l0 (i : Int)) 3) := ⟨by unfold brK; rw [if_pos hil]; omega⟩
    clear y0
    go_wp2
    go_meet
    case rel => exact ⟨congrArg (Value.int .i64) (by rw [hk.out]), HS⟩
   ·have hk : Aside0 (brK l0 i = 1) := ⟨by unfold brK; rw [if_neg hil]⟩
    go_wp2
    go_meet
    case rel => exact ⟨by rw [hk.out]; rfl, HS⟩
  case rest =>
  obtain ⟨rfl, hJ⟩ := hcut
  clear hI xN
  generalize wr.heap.size = g12 at *
  go_wp2
  go_loopw [14, 9] (fun v14 v9 wx => ∃ (j : Nat) (va vw : Value), j ≤ brK l0 i ∧ v14 = .int .i64 j ∧ vw = v9 ∧ Aside0 (BrJ w wx g12 gr gn g12 (brN i) vd vw va (brDefs t (brK l0) i) (brWant t (brK l0) i ++ (List.range j).map (brRule t i)) ((List.range j).map (brAlt t i)))) (fun v _ _ => brK l0 i - (intOf v).toNat)
  case atStart => exact ⟨0, _, _, by omega, rfl, rfl, ⟨by rw [show List.range 0 = [] from rfl, List.map_nil, List.map_nil, List.append_nil]; exact hJ.out⟩⟩
  case round =>
   obtain ⟨j, va, vw2, hj, rfl, rfl, hJx⟩ := hrel
   clear hJ
   by_cases hjl : j < brK l0 i
   case neg =>
    obtain rfl : j = brK l0 i := by omega
    obtain ⟨Ad, cd, rfl⟩ := Kd.R_slice hJx.out.hd
    obtain ⟨Aa, ca, rfl⟩ := Kd.R_slice hJx.out.ha
    simp only [List.length_map, List.length_range] at hJx
    have krd : wr.cell? ⟨gr, 1, none⟩ = some (.slice Ad (brDefs t (brK l0) i).length cd) := (blk_cell hJx.out.br 1).trans rfl
    have krf := blk_frozen hJx.out.br 1
    have k120 : wr.cell? ⟨g12, 0, none⟩ = some (.string (brN i)) := (blk_cell hJx.out.b12 0).trans rfl
    have k121 : wr.cell? ⟨g12, 1, none⟩ = some (.slice Aa (brK l0 i) ca) := (blk_cell hJx.out.b12 1).trans rfl
    have hdl : (brDefs t (brK l0) i).length = i := by unfold brDefs; rw [List.length_map, List.length_range]
    have HDL := Aside0.mk hdl
    clear hdl
    go_wp2_with (first | ((with_reducible refine gate_builtin (b := .append) (xs := #[.tmp 121, .tmp 123]) rfl ?_); at_builtin; (refine Kd.R_append k45 (w0 := w) w.heap.size rfl (.tmp 121) (.tmp 123) 23 45 (.agg #[.string ⟨#[]⟩, .slice none 0 0]) 40 rfl Try.underlying23 (by kernel_rfl) rfl (by decide) (by decide) (.slice Ad (brDefs t (brK l0) i).length cd) (brDefs t (brK l0) i) (brDef t i (brK l0 i)) [.string (brN i), .slice Aa (brK l0 i) ca] (fun _ => True) (fun k => g12 ≤ k) (by first | rfl | (simp; done)) (by first | rfl | (simp; done)) (k45_mkM _ _ _ (brDef t i (brK l0 i)) (Kd.R_lower hJx.out.ha hJx.out.hN)) (fun k hk => ⟨trivial, fun e => by have := hJx.out.hd.1 k e.symm; omega⟩) (fun _ _ => trivial) (Kd.R_mono hJx.out.hd (fun _ _ => trivial)) hJx.out.hb hJx.out.hb.size (by rw [HDL.out]; omega) ?_); (intro v1 w6 hown hb6 hg6 hat6; clear hat6; (rw [show brDefs t (brK l0) i ++ [brDef t i (brK l0 i)] = brDefs t (brK l0) (i + 1) from (range_snoc' _ i).symm] at hown); (obtain ⟨A2, c2, rfl⟩ := Kd.R_slice hown); have HI6 := Aside0.mk (hJx.out.def_ hgr hg6 hown); have krd6 : w6.cell? ⟨gr, 1, none⟩ = some (.slice Ad (brDefs t (brK l0) i).length cd) := (blk_cell (blk_grown hJx.out.br hg6 (Kd.R_ne hJx.out.hd hJx.out.br (by decide))) 1).trans rfl; have krf6 := blk_frozen (blk_grown hJx.out.br hg6 (Kd.R_ne hJx.out.hd hJx.out.br (by decide))) 1; clear hown hb6 hg6)))
    go_roundw
    case rel => exact ⟨i + 1, _, _, by omega, by go_num, rfl, HI6⟩
    case measure => simp [intOf]; omega
   obtain ⟨Aa, ca, rfl⟩ := Kd.R_slice hJx.out.ha
   simp only [List.length_map, List.length_range] at hJx
   have kva : wr.cell? ⟨g12, 1, none⟩ = some (.slice Aa j ca) := (blk_cell hJx.out.b12 1).trans rfl
   obtain ⟨m, hm⟩ : ∃ m, (i + j) % 3 = m := ⟨_, rfl⟩
   have hm3 : m < 3 := by omega
   have knm := brN_cell hJx.out.bn m hm3
   have hj4 : j < 4 := by omega
   have hbj : (Go.bits .and .i64 (j : Int) 1 == 1) = decide (j % 2 = 1) := (show ∀ q : Nat, q < 4 → (Go.bits .and .i64 (q : Int) 1 == 1) = decide (q % 2 = 1) from fun | 0, _ => rfl | 1, _ => rfl | 2, _ => rfl | 3, _ => rfl | q + 4, h => by omega) j hj4
   have ha1 : IntKind.i64.wrap ((i : Int) + (j : Int)) = (i : Int) + (j : Int) := by rw [IntKind.wrap_i64]; omega
   have hr3 : Int.tmod ((i : Int) + (j : Int)) 3 = (m : Int) := by rw [Int.tmod_eq_emod_of_nonneg (by omega)]; omega
   have hm3i : ((m : Int) < 3) = True := eq_true (by omega)
   have HM := Aside0.mk hm
   clear hm
   go_upto_region 19 with (fail)
   refine start_ (n := 24) (S := fun w' => w'.cell? ⟨g12, 1, none⟩ = some (.slice Aa j ca) ∧ w'.cell? ⟨gn, m, none⟩ = some (.string (brN m))) (ds := [23]) #[false, false, false, false, false, false, false, false, false, false, false, false, false, false, false, false, false, false, false, false, false, false, false, false] (by kernel_rfl) rfl rfl ⟨kva, knm⟩ (fun hHeld => ?_)
   refine with_tabW br19.tab19 br19.bits19 (fun HT_ HW_ => ?_)
   have hJd := Aside0.mk (hJx.out.below (below_drew (Below.refl _ _)))
   generalize wr.drew = w0_ at hJd hHeld ⊢
   refine pure_ (i := 0) (N := some 54) (v := ?_) (a' := ?_) #[true, false, false, false, false, false, false, false, false, false, false, false, false, false, false, false, false, false, false, false, false, false, false, false] rfl rfl (any_of HT_.out (by kernel_rfl)) (fun _ _ _ h => h) (Or.inl ⟨by rfl, ?_⟩) ?_ ?_
   rotate_left
   ·intro w'
    go_simp
    with_reducible rfl
   rotate_left
   ·simp only [Act.put, List.setIfInBounds_toArray, List.set_cons_zero, List.set_cons_succ, i64_w, i32_w]
    rfl
   refine pure_ (i := 2) (N := some 56) (v := ?_) (a' := ?_) #[true, false, true, false, false, false, false, false, false, false, false, false, false, false, false, false, false, false, false, false, false, false, false, false] rfl rfl (any_of HT_.out (by kernel_rfl)) (fun _ _ _ h => h) (Or.inl ⟨by rfl, ?_⟩) ?_ ?_
   rotate_left
   ·intro w'
    go_simp
    with_reducible rfl
   rotate_left
   ·simp only [Act.put, List.setIfInBounds_toArray, List.set_cons_zero, List.set_cons_succ, i64_w, i32_w]
    rfl
   refine pure_ (i := 3) (N := some 57) (v := ?_) (a' := ?_) #[true, false, true, true, false, false, false, false, false, false, false, false, false, false, false, false, false, false, false, false, false, false, false, false] rfl rfl (any_of HT_.out (by kernel_rfl)) (fun _ _ _ h => h) (Or.inl ⟨by rfl, ?_⟩) ?_ ?_
   rotate_left
   ·intro w'
    go_simp
    with_reducible rfl
   rotate_left
   ·simp only [Act.put, List.setIfInBounds_toArray, List.set_cons_zero, List.set_cons_succ, i64_w, i32_w]
    rfl
   refine pure_ (i := 4) (N := some 58) (v := ?_) (a' := ?_) #[true, false, true, true, true, false, false, false, false, false, false, false, false, false, false, false, false, false, false, false, false, false, false, false] rfl rfl (any_of HT_.out (by kernel_rfl)) (fun _ _ _ h => h) (Or.inl ⟨by rfl, ?_⟩) ?_ ?_
   rotate_left
   ·intro w'
    go_simp
    with_reducible rfl
   rotate_left
   ·simp only [Act.put, List.setIfInBounds_toArray, List.set_cons_zero, List.set_cons_succ, i64_w, i32_w]
    rfl
   refine pure_ (i := 5) (N := some 59) (v := ?_) (a' := ?_) #[true, false, true, true, true, true, false, false, false, false, false, false, false, false, false, false, false, false, false, false, false, false, false, false] rfl rfl (any_of HT_.out (by kernel_rfl)) (fun _ _ _ h => h) (Or.inl ⟨by rfl, ?_⟩) ?_ ?_
   rotate_left
   ·intro w'
    go_simp
    with_reducible rfl
   rotate_left
   ·simp only [Act.put, List.setIfInBounds_toArray, List.set_cons_zero, List.set_cons_succ, i64_w, i32_w]
    rfl
   refine pure_ (i := 6) (N := some 60) (v := ?_) (a' := ?_) #[true, false, true, true, true, true, true, false, false, false, false, false, false, false, false, false, false, false, false, false, false, false, false, false] rfl rfl (any_of HT_.out (by kernel_rfl)) (fun _ _ _ h => h) (Or.inl ⟨by rfl, ?_⟩) ?_ ?_
   rotate_left
   ·intro w'
    go_simp
    with_reducible rfl
   rotate_left
   ·simp only [Act.put, List.setIfInBounds_toArray, List.set_cons_zero, List.set_cons_succ, i64_w, i32_w]
    rfl
   refine pure_ (i := 7) (N := some 61) (v := ?_) (a' := ?_) #[true, false, true, true, true, true, true, true, false, false, false, false, false, false, false, false, false, false, false, false, false, false, false, false] rfl rfl (any_of HT_.out (by kernel_rfl)) (fun _ _ _ h => h) (Or.inl ⟨by rfl, ?_⟩) ?_ ?_
   rotate_left
   ·intro w'
    go_simp
    with_reducible rfl
   rotate_left
   ·simp only [Act.put, List.setIfInBounds_toArray, List.set_cons_zero, List.set_cons_succ, i64_w, i32_w]
    rfl
   refine pure_ (i := 8) (N := some 62) (v := ?_) (a' := ?_) #[true, false, true, true, true, true, true, true, true, false, false, false, false, false, false, false, false, false, false, false, false, false, false, false] rfl rfl (any_of HT_.out (by kernel_rfl)) (fun _ _ _ h => h) (Or.inl ⟨by rfl, ?_⟩) ?_ ?_
   rotate_left
   ·intro w'
    go_simp
    with_reducible rfl
   rotate_left
   ·simp only [Act.put, List.setIfInBounds_toArray, List.set_cons_zero, List.set_cons_succ, i64_w, i32_w]
    rfl
   refine pure_ (i := 9) (N := some 63) (v := ?_) (a' := ?_) #[true, false, true, true, true, true, true, true, true, true, false, false, false, false, false, false, false, false, false, false, false, false, false, false] rfl rfl (any_of HT_.out (by kernel_rfl)) (fun _ _ _ h => h) (Or.inl ⟨by rfl, ?_⟩) ?_ ?_
   rotate_left
   ·intro w'
    go_simp
    with_reducible rfl
   rotate_left
   ·simp only [Act.put, List.setIfInBounds_toArray, List.set_cons_zero, List.set_cons_succ, i64_w, i32_w]
    rfl
   refine pure_ (i := 10) (N := some 64) (v := ?_) (a' := ?_) #[true, false, true, true, true, true, true, true, true, true, true, false, false, false, false, false, false, false, false, false, false, false, false, false] rfl rfl (any_of HT_.out (by kernel_rfl)) (fun _ _ _ h => h) (Or.inl ⟨by rfl, ?_⟩) ?_ ?_
   rotate_left
   ·intro w'
    go_simp
    with_reducible rfl
   rotate_left
   ·simp only [Act.put, List.setIfInBounds_toArray, List.set_cons_zero, List.set_cons_succ, i64_w, i32_w]
    rfl
   refine pure_ (i := 11) (N := some 65) (v := ?_) (a' := ?_) #[true, false, true, true, true, true, true, true, true, true, true, true, false, false, false, false, false, false, false, false, false, false, false, false] rfl rfl (any_of HT_.out (by kernel_rfl)) (fun _ _ _ h => h) (Or.inl ⟨by rfl, ?_⟩) ?_ ?_
   rotate_left
   ·intro w'
    go_simp
    with_reducible rfl
   rotate_left
   ·simp only [Act.put, List.setIfInBounds_toArray, List.set_cons_zero, List.set_cons_succ, i64_w, i32_w]
    rfl
   refine pure_ (i := 12) (N := some 66) (v := ?_) (a' := ?_) #[true, false, true, true, true, true, true, true, true, true, true, true, true, false, false, false, false, false, false, false, false, false, false, false] rfl rfl (any_of HT_.out (by kernel_rfl)) (fun _ _ _ h => h) (Or.inl ⟨by rfl, ?_⟩) ?_ ?_
   rotate_left
   ·intro w'
    go_simp
    with_reducible rfl
   rotate_left
   ·simp only [Act.put, List.setIfInBounds_toArray, List.set_cons_zero, List.set_cons_succ, i64_w, i32_w]
    rfl
   refine pure_ (i := 15) (N := some 69) (v := ?_) (a' := ?_) #[true, false, true, true, true, true, true, true, true, true, true, true, true, false, false, true, false, false, false, false, false, false, false, false] rfl rfl (any_of HT_.out (by kernel_rfl)) (fun _ _ _ h => h) (Or.inl ⟨by rfl, ?_⟩) ?_ ?_
   rotate_left
   ·intro w'
    go_simp
    with_reducible rfl
   rotate_left
   ·simp only [Act.put, List.setIfInBounds_toArray, List.set_cons_zero, List.set_cons_succ, i64_w, i32_w]
    rfl
   refine pure_ (i := 16) (N := some 70) (v := ?_) (a' := ?_) #[true, false, true, true, true, true, true, true, true, true, true, true, true, false, false, true, true, false, false, false, false, false, false, false] rfl rfl (any_of HT_.out (by kernel_rfl)) (fun _ _ _ h => h) (Or.inl ⟨by rfl, ?_⟩) ?_ ?_
   rotate_left
   ·intro w'
    go_simp
    with_reducible rfl
   rotate_left
   ·simp only [Act.put, List.setIfInBounds_toArray, List.set_cons_zero, List.set_cons_succ, i64_w, i32_w]
    rfl
   refine take_ (i := 1) (N := some 55) (v := ?_) (a' := ?_) #[true, true, true, true, true, true, true, true, true, true, true, true, true, false, false, true, true, false, false, false, false, false, false, false] rfl rfl (take_ofW HT_.out HW_.out (by kernel_rfl)) (fun _ _ _ h => h) (Or.inl ⟨by rfl, ?_⟩) hHeld ?_ ?_
   rotate_left
   ·rintro w' ⟨s0, s1⟩
    go_simp
    with_reducible rfl
   rotate_left
   ·simp only [Act.put, List.setIfInBounds_toArray, List.set_cons_zero, List.set_cons_succ, i64_w, i32_w]
    rfl
   refine take_ (i := 13) (N := some 67) (v := ?_) (a' := ?_) #[true, true, true, true, true, true, true, true, true, true, true, true, true, true, false, true, true, false, false, false, false, false, false, false] rfl rfl (take_ofW HT_.out HW_.out (by kernel_rfl)) (fun _ _ _ h => h) (Or.inl ⟨by rfl, ?_⟩) hHeld ?_ ?_
   rotate_left
   ·rintro w' ⟨s0, s1⟩
    go_simp
    with_reducible rfl
   rotate_left
   ·simp only [Act.put, List.setIfInBounds_toArray, List.set_cons_zero, List.set_cons_succ, i64_w, i32_w]
    rfl
   refine pure_ (i := 14) (N := some 68) (v := ?_) (a' := ?_) #[true, true, true, true, true, true, true, true, true, true, true, true, true, true, true, true, true, false, false, false, false, false, false, false] rfl rfl (any_of HT_.out (by kernel_rfl)) (fun _ _ _ h => h) (Or.inl ⟨by rfl, ?_⟩) ?_ ?_
   rotate_left
   ·intro w'
    go_simp
    with_reducible rfl
   rotate_left
   ·simp only [Act.put, List.setIfInBounds_toArray, List.set_cons_zero, List.set_cons_succ, i64_w, i32_w]
    rfl
   refine one_ (i := 17) (N := some 71) #[true, true, true, true, true, true, true, true, true, true, true, true, true, true, true, true, true, true, false, false, false, false, false, false] rfl rfl (one_of HT_.out (by kernel_rfl)) (by decide) (fun K hK => ?_)
   refine value_ (w1 := ?_) (v := ?_) (by rfl) rfl ?_ ?_
   rotate_left 2
   ·go_simp
    constructor
    ·rfl
    ·rfl
   refine hK.out _ _ ⟨pw_cell_below (below_alloc (Below.refl _ _) _) hHeld.1, pw_cell_below (below_alloc (Below.refl _ _) _) hHeld.2⟩ (fun hHeld => ?_)
   clear hK K
   refine norm_ (a' := ?_) ?_ ?_
   rotate_left
   ·show Act.put _ (some 71) _ = _
    simp only [Act.put, List.setIfInBounds_toArray, List.set_cons_zero, List.set_cons_succ, i64_w, i32_w]
    rfl
   refine pure_ (i := 18) (N := some 72) (v := ?_) (a' := ?_) #[true, true, true, true, true, true, true, true, true, true, true, true, true, true, true, true, true, true, true, false, false, false, false, false] rfl rfl (any_of HT_.out (by kernel_rfl)) (fun _ _ _ h => h) (Or.inl ⟨by rfl, ?_⟩) ?_ ?_
   rotate_left
   ·intro w'
    go_simp
    with_reducible rfl
   rotate_left
   ·simp only [Act.put, List.setIfInBounds_toArray, List.set_cons_zero, List.set_cons_succ, i64_w, i32_w]
    rfl
   refine one_ (i := 19) (N := some 73) #[true, true, true, true, true, true, true, true, true, true, true, true, true, true, true, true, true, true, true, true, false, false, false, false] rfl rfl (one_of HT_.out (by kernel_rfl)) (by decide) (fun K hK => ?_)
   refine value_ (w1 := ?_) (v := ?_) (by rfl) rfl ?_ ?_
   rotate_left 2
   ·go_simp
    constructor
    ·rfl
    ·rfl
   refine hK.out _ _ ⟨pw_cell_below (below_alloc (Below.refl _ _) _) hHeld.1, pw_cell_below (below_alloc (Below.refl _ _) _) hHeld.2⟩ (fun hHeld => ?_)
   clear hK K
   refine norm_ (a' := ?_) ?_ ?_
   rotate_left
   ·show Act.put _ (some 73) _ = _
    simp only [Act.put, List.setIfInBounds_toArray, List.set_cons_zero, List.set_cons_succ, i64_w, i32_w]
    rfl
   refine one_ (i := 20) (N := some 74) #[true, true, true, true, true, true, true, true, true, true, true, true, true, true, true, true, true, true, true, true, true, false, false, false] rfl rfl (one_of HT_.out (by kernel_rfl)) (by decide) (fun K hK => ?_)
   refine value_ (w1 := ?_) (v := ?_) (by rfl) rfl ?_ ?_
   rotate_left 2
   ·go_simp
    constructor
    ·rfl
    ·rfl
   refine hK.out _ _ ⟨pw_cell_below (below_alloc (Below.refl _ _) _) hHeld.1, pw_cell_below (below_alloc (Below.refl _ _) _) hHeld.2⟩ (fun hHeld => ?_)
   clear hK K
   refine norm_ (a' := ?_) ?_ ?_
   rotate_left
   ·show Act.put _ (some 74) _ = _
    simp only [Act.put, List.setIfInBounds_toArray, List.set_cons_zero, List.set_cons_succ, i64_w, i32_w]
    rfl
   refine one_ (i := 21) (N := some 75) #[true, true, true, true, true, true, true, true, true, true, true, true, true, true, true, true, true, true, true, true, true, true, false, false] rfl rfl (one_of HT_.out (by kernel_rfl)) (by decide) (fun K hK => ?_)
   have hJW := Aside0.mk (hJd.out.below (below_alloc (below_alloc (Below.refl w0_.heap.size w0_) (.cells #[.int .i64 1, .string t, .int .i64 0, .int .i64 0, .int .i64 0, .string (brN m), .int .i64 0, .int .i64 0, .int .i64 2, .string ⟨#[]⟩, .int .i64 (j : Int), .int .i64 9] 61)) (.cells #[.bool (decide (j % 2 = 1)), .slice (some ⟨w0_.heap.size, 0, none⟩) 3 3] 64)))
   refine Kd.R_append_step (Kd.slice 64 k64) (w0 := w0_) (W := ((w0_.alloc (.cells #[.int .i64 1, .string t, .int .i64 0, .int .i64 0, .int .i64 0, .string (brN m), .int .i64 0, .int .i64 0, .int .i64 2, .string ⟨#[]⟩, .int .i64 (j : Int), .int .i64 9] 61)).alloc (.cells #[.bool (decide (j % 2 = 1)), .slice (some ⟨w0_.heap.size, 0, none⟩) 3 3] 64))) g12 (by rfl) (.tmp 55) (.tmp 74) 43 65 (.slice none 0 0) 24 rfl Try.underlying43 (by kernel_rfl) rfl (by decide) (by decide) (.slice Aa j ca) ((List.range j).map (brAlt t i)) (brAlt t i j) [.slice (some ⟨w0_.heap.size + 1, 0, none⟩) 1 1] (fun k => g12 ≤ k) (fun k => w0_.heap.size ≤ k) (by first | rfl | (simp; done)) (by first | rfl | (simp; done) | (simp; rfl)) (br_lit hJd.out.hs t i j HM.out) (fun k hk => ⟨Nat.le_trans hJd.out.hs hk, fun e => by have := Kd.R_lt hJd.out.ha k e.symm; omega⟩) (fun k hk => Nat.le_trans hJW.out.hs hk) hJW.out.ha ((below_alloc (below_alloc (Below.refl w0_.heap.size w0_) (.cells #[.int .i64 1, .string t, .int .i64 0, .int .i64 0, .int .i64 0, .string (brN m), .int .i64 0, .int .i64 0, .int .i64 2, .string ⟨#[]⟩, .int .i64 (j : Int), .int .i64 9] 61)) (.cells #[.bool (decide (j % 2 = 1)), .slice (some ⟨w0_.heap.size, 0, none⟩) 3 3] 64)).mono hJd.out.hs) hJW.out.hs (by simp only [List.length_map, List.length_range]; omega) ?_
   intro v1 w2 hown hb2 hgr hat
   obtain ⟨A1, c1, rfl⟩ := Kd.R_slice hown
   rw [← range_snoc' (brAlt t i) j] at hown
   simp only [List.length_map, List.length_range, List.length_append, List.length_singleton] at hown hat
   have qv := (blk_cell (blk_grown hJW.out.b12 hgr (Kd.R_ne hJW.out.ha hJW.out.b12 (by decide))) 1).trans rfl
   have qn := (hgr.block gn (blk_lt hJW.out.bn) (Kd.R_ne hJW.out.ha hJW.out.bn (by decide))).trans hJW.out.bn
   have qf := blk_frozen (blk_grown hJW.out.b12 hgr (Kd.R_ne hJW.out.ha hJW.out.b12 (by decide))) 1
   have HJ2 := Aside0.mk (hJW.out.alt hgr hown)
   clear hown hb2 hgr hat
   refine hK.out _ _ ⟨qv, (brN_cell qn _ hm3)⟩ (fun hHeld => ?_)
   clear hK K
   refine norm_ (a' := ?_) ?_ ?_
   rotate_left
   ·show Act.put _ (some 75) _ = _
    simp only [Act.put, List.setIfInBounds_toArray, List.set_cons_zero, List.set_cons_succ, i64_w, i32_w]
    rfl
   refine pure_ (i := 22) (N := some 76) (v := ?_) (a' := ?_) #[true, true, true, true, true, true, true, true, true, true, true, true, true, true, true, true, true, true, true, true, true, true, true, false] rfl rfl (any_of HT_.out (by kernel_rfl)) (fun _ _ _ h => h) (Or.inl ⟨by rfl, ?_⟩) ?_ ?_
   rotate_left
   ·intro w'
    go_simp
    with_reducible rfl
   rotate_left
   ·simp only [Act.put, List.setIfInBounds_toArray, List.set_cons_zero, List.set_cons_succ, i64_w, i32_w]
    rfl
   refine last_ (i := 23) (N := none) #[true, true, true, true, true, true, true, true, true, true, true, true, true, true, true, true, true, true, true, true, true, true, true, true] rfl rfl (one_of HT_.out (by kernel_rfl)) (by decide) (fun K hK => ?_)
   have q0 := hHeld.1
   refine skip_ (w1 := ?_) (by rfl) rfl ?_ ?_
   rotate_left
   ·go_simp
    rfl
   refine hK.out _ _ ?_
   clear hK K
   refine done_ (done_of HT_.out (by kernel_rfl)) ?_
   clear hHeld q0 qv qn qf hJW hJd HT_ HW_ kva knm hJx ha1
   generalize w2.setCell ⟨g12, 1, none⟩ (.slice A1 (j + 1) c1) = w3 at *
   go_wp2
   have hb15 := blk_new w3 (.cells #[.bool (decide (j % 2 = 1)), .slice none 0 0] 54)
   have hBw := below_alloc (Below.refl w3.heap.size w3) (.cells #[.bool (decide (j % 2 = 1)), .slice none 0 0] 54)
   generalize hq15 : w3.heap.size = g15 at *
   have H15 := Aside0.mk hq15
   have HB15 := Aside0.mk hb15
   have HBw := Aside0.mk hBw
   clear hq15 hb15 hBw
   go_loopw [16] (fun v16 wy => ∃ (q : Nat) (vs : Value), q ≤ t.size ∧ v16 = .int .i64 q ∧ Aside0 (wy.heap[g15]? = some (.cells #[.bool (decide (j % 2 = 1)), vs] 54 (0, 0))) ∧ Aside0 (Kd.R k56 56 wy g15 (fun _ => True) vs (brBy t q)) ∧ Aside0 (Below g15 w3 wy)) (fun v _ => t.size - (intOf v).toNat)
   case atStart => exact ⟨0, _, by omega, rfl, HB15, ⟨Kd.R_nil _ _ _ _ _⟩, HBw⟩
   case round =>
    obtain ⟨q, vs, hq, rfl, hK15, hVs, hBy⟩ := hrel
    clear HB15 HBw
    by_cases hql : q < t.size
    case neg =>
     obtain rfl : q = t.size := by omega
     obtain ⟨As, cs, rfl⟩ := Kd.R_slice hVs.out
     rw [brBy_len] at hVs hK15
     have kvs : wr.cell? ⟨g15, 1, none⟩ = some (.slice As t.size cs) := (blk_cell hK15.out 1).trans rfl
     have kvb : wr.cell? ⟨g15, 0, none⟩ = some (.bool (decide (j % 2 = 1))) := (blk_cell hK15.out 0).trans rfl
     have kvf := blk_frozen hK15.out 1
     have HE := Aside0.mk (show brBy t t.size ++ [(⟨(m : Int), 0, 0⟩ : S56), ⟨-1, (j : Int), 9⟩] = brSeq t i j by unfold brSeq; rw [HM.out])
     have hsz15 : g15 ≤ wr.heap.size := Nat.le_trans (Nat.le_of_eq H15.out.symm) hBy.out.size
     go_upto_region 26 with (first | ((with_reducible refine gate_builtin (b := .append) (xs := #[.tmp 102, .tmp 110]) rfl ?_); at_builtin; (refine Kd.R_append_rows k56 (w0 := w3) g15 rfl (.tmp 102) (.tmp 110) 52 56 (.agg #[.int .i64 0, .int .i64 0, .int .i64 0]) 24 rfl Try.underlying52 (by kernel_rfl) rfl (by decide) (by decide) (.slice As t.size cs) (brBy t t.size) [⟨(m : Int), 0, 0⟩, ⟨-1, (j : Int), 9⟩] (some ⟨wr.heap.size, 0, none⟩) 2 2 (fun _ => True) (fun _ => False) (by first | rfl | (simp; done)) (by first | rfl | (simp; done)) (Kd.R_alloc hVs.out (.cells #[.int .i64 (m : Int), .int .i64 0, .int .i64 0, .int .i64 (-1), .int .i64 (j : Int), .int .i64 9] 56)) (C_lit (d := k56) (blk_new wr (.cells #[.int .i64 (m : Int), .int .i64 0, .int .i64 0, .int .i64 (-1), .int .i64 (j : Int), .int .i64 9] 56)) (Reps.c3 (k56_mk _ ⟨(m : Int), 0, 0⟩) (Reps.c3 (k56_mk _ ⟨-1, (j : Int), 9⟩) (Reps.none _ _))) (by simp)) (fun _ _ h => h) (fun _ h => h.elim) (fun _ _ => trivial) (hBy.out.alloc hsz15 (.cells #[.int .i64 (m : Int), .int .i64 0, .int .i64 0, .int .i64 (-1), .int .i64 (j : Int), .int .i64 9] 56)) (Nat.le_trans hsz15 (by simp)) (by rw [brBy_len]; have := HT.out; omega) ?_); (intro v1 w4 hown hb4 hg4 hat4; clear hat4; (obtain ⟨A2, c2, rfl⟩ := Kd.R_slice hown); (rw [HE.out] at hown ⊢)); (have q15 := Aside0.mk (blk_grown (blk_alloc hK15.out (.cells #[.int .i64 (m : Int), .int .i64 0, .int .i64 0, .int .i64 (-1), .int .i64 (j : Int), .int .i64 9] 56)) hg4 (Kd.R_ne (Kd.R_alloc hVs.out (.cells #[.int .i64 (m : Int), .int .i64 0, .int .i64 0, .int .i64 (-1), .int .i64 (j : Int), .int .i64 9] 56)) (blk_alloc hK15.out (.cells #[.int .i64 (m : Int), .int .i64 0, .int .i64 0, .int .i64 (-1), .int .i64 (j : Int), .int .i64 9] 56)) (by decide))); have z1 : w4.cell? ⟨g15, 1, none⟩ = some (.slice As t.size cs) := (blk_cell q15.out 1).trans rfl; have zf := blk_frozen q15.out 1; have HP4 := Aside0.mk (And.intro hown hb4); clear hown hb4 hg4)))
     have hk5 := Aside0.mk (blk_put q15.out 1 (.slice A2 (brSeq t i j).length c2) rfl)
     have hv5 := Aside0.mk (R_set' HP4.out.1 q15.out (by decide) 1 (.slice A2 (brSeq t i j).length c2))
     have hb5 := Aside0.mk (HP4.out.2.setCell (p := ⟨g15, 1, none⟩) (Nat.le_refl _) (.slice A2 (brSeq t i j).length c2))
     clear z1 zf q15 HP4 kvs kvb kvf
     generalize w4.setCell ⟨g15, 1, none⟩ (.slice A2 (brSeq t i j).length c2) = w5 at *
     have hJ5 := Aside0.mk (HJ2.out.below (H15.out.symm ▸ hb5.out))
     have z0 : w5.cell? ⟨g15, 0, none⟩ = some (.bool (decide (j % 2 = 1))) := (blk_cell hk5.out 0).trans rfl
     have z1 : w5.cell? ⟨g15, 1, none⟩ = some (.slice A2 (brSeq t i j).length c2) := (blk_cell hk5.out 1).trans rfl
     have hwg : ∀ k, vw2.ownBlock = some k → k < g15 := fun k hk => H15.out ▸ Kd.R_lt HJ2.out.hw k hk
     have hwg' := Aside0.mk hwg
     clear hwg
     have hsz5 : g15 ≤ w5.heap.size := Nat.le_trans (Nat.le_of_eq H15.out.symm) hb5.out.size
     have hwl := brWant_len t l0 i
     have hw15 : w.heap.size ≤ g15 := Nat.le_trans HJ2.out.hb.size (Nat.le_of_eq H15.out)
     go_wp2_with (first | ((with_reducible refine gate_builtin (b := .append) (xs := #[.tmp 113, .tmp 118]) rfl ?_); at_builtin; (refine Kd.R_append k51 (w0 := w) w.heap.size rfl (.tmp 113) (.tmp 118) 26 51 (.agg #[.int .i64 0, .slice none 0 0]) 32 rfl Try.underlying26 (by kernel_rfl) rfl (by decide) (by decide) vw2 (brWant t (brK l0) i ++ (List.range j).map (brRule t i)) (brRule t i j) [.int .i64 (i : Int), .slice (some ⟨w5.heap.size, 0, none⟩) 1 1] (fun _ => True) (fun k => g15 ≤ k) (by first | rfl | (simp; done)) (by first | rfl | (simp; done) | (simp; rfl)) (br_rule_M hw15 hsz5 hv5.out) (fun k hk => ⟨trivial, fun e => by have := hwg'.out k e.symm; omega⟩) (fun _ _ => trivial) (Kd.R_alloc hJ5.out.hw (.cells #[.bool (decide (j % 2 = 1)), .slice A2 (brSeq t i j).length c2] 54)) (below_alloc hJ5.out.hb (.cells #[.bool (decide (j % 2 = 1)), .slice A2 (brSeq t i j).length c2] 54)) (below_alloc hJ5.out.hb (.cells #[.bool (decide (j % 2 = 1)), .slice A2 (brSeq t i j).length c2] 54)).size (by rw [List.length_append, List.length_map, List.length_range]; omega) ?_); (intro v1 w6 hown hb6 hg6 hat6; clear hat6; (rw [List.append_assoc, ← range_snoc' (brRule t i) j] at hown); have HJ6 := Aside0.mk ((hJ5.out.below (below_alloc (Below.refl w5.heap.size w5) (.cells #[.bool (decide (j % 2 = 1)), .slice A2 (brSeq t i j).length c2] 54))).rule hg6 hown); clear hown hb6 hg6)))
     go_roundw
     case rel => exact ⟨j + 1, _, _, by omega, by go_num, rfl, HJ6⟩
     case measure => simp [intOf]; omega
    obtain ⟨As, cs, rfl⟩ := Kd.R_slice hVs.out
    rw [brBy_len] at hVs hK15
    have kvs : wr.cell? ⟨g15, 1, none⟩ = some (.slice As q cs) := (blk_cell hK15.out 1).trans rfl
    have hbq : wrap64 ((t[q]'hql).toNat : Int) = bt t (q : Int) := by
     have h0 := bt_range t (q : Int)
     rw [show ((t[q]'hql).toNat : Int) = bt t (q : Int) from bt_at t (q : Int) hql]
     unfold wrap64
     omega
    go_upto_region 24 with (fail)
    refine start_ (n := 15) (S := fun w' => w'.cell? ⟨g15, 1, none⟩ = some (.slice As q cs)) (ds := [14]) #[false, false, false, false, false, false, false, false, false, false, false, false, false, false, false] (by kernel_rfl) rfl rfl (kvs) (fun hHeld => ?_)
    refine with_tabW br24.tab24 br24.bits24 (fun HT_ HW_ => ?_)
    have hVd := Aside0.mk (Kd.R_drew hVs.out)
    have hKd := Aside0.mk (blk_drew hK15.out)
    have hBd := Aside0.mk (below_drew hBy.out)
    generalize wr.drew = w0_ at hVd hKd hBd hHeld ⊢
    refine pure_ (i := 0) (N := some 87) (v := ?_) (a' := ?_) #[true, false, false, false, false, false, false, false, false, false, false, false, false, false, false] rfl rfl (any_of HT_.out (by kernel_rfl)) (fun _ _ _ h => h) (Or.inl ⟨by rfl, ?_⟩) ?_ ?_
    rotate_left
    ·intro w'
     go_simp
     with_reducible rfl
    rotate_left
    ·simp only [Act.put, List.setIfInBounds_toArray, List.set_cons_zero, List.set_cons_succ, i64_w, i32_w]
     rfl
    refine pure_ (i := 2) (N := some 89) (v := ?_) (a' := ?_) #[true, false, true, false, false, false, false, false, false, false, false, false, false, false, false] rfl rfl (any_of HT_.out (by kernel_rfl)) (fun _ _ _ h => h) (Or.inl ⟨by rfl, ?_⟩) ?_ ?_
    rotate_left
    ·intro w'
     go_simp
     with_reducible rfl
    rotate_left
    ·simp only [Act.put, List.setIfInBounds_toArray, List.set_cons_zero, List.set_cons_succ, i64_w, i32_w]
     rfl
    refine pure_ (i := 3) (N := some 90) (v := ?_) (a' := ?_) #[true, false, true, true, false, false, false, false, false, false, false, false, false, false, false] rfl rfl (any_of HT_.out (by kernel_rfl)) (fun _ _ _ h => h) (Or.inl ⟨by rfl, ?_⟩) ?_ ?_
    rotate_left
    ·intro w'
     go_simp
     with_reducible rfl
    rotate_left
    ·simp only [Act.put, List.setIfInBounds_toArray, List.set_cons_zero, List.set_cons_succ, i64_w, i32_w]
     rfl
    refine pure_ (i := 4) (N := some 91) (v := ?_) (a' := ?_) #[true, false, true, true, true, false, false, false, false, false, false, false, false, false, false] rfl rfl (any_of HT_.out (by kernel_rfl)) (fun _ _ _ h => h) (Or.inl ⟨by rfl, ?_⟩) ?_ ?_
    rotate_left
    ·intro w'
     go_simp
     with_reducible rfl
    rotate_left
    ·simp only [Act.put, List.setIfInBounds_toArray, List.set_cons_zero, List.set_cons_succ, i64_w, i32_w]
     rfl
    refine pure_ (i := 5) (N := some 92) (v := ?_) (a' := ?_) #[true, false, true, true, true, true, false, false, false, false, false, false, false, false, false] rfl rfl (any_of HT_.out (by kernel_rfl)) (fun _ _ _ h => h) (Or.inl ⟨by rfl, ?_⟩) ?_ ?_
    rotate_left
    ·intro w'
     go_simp
     with_reducible rfl
    rotate_left
    ·simp only [Act.put, List.setIfInBounds_toArray, List.set_cons_zero, List.set_cons_succ, i64_w, i32_w]
     rfl
    refine pure_ (i := 6) (N := some 93) (v := ?_) (a' := ?_) #[true, false, true, true, true, true, true, false, false, false, false, false, false, false, false] rfl rfl (any_of HT_.out (by kernel_rfl)) (fun _ _ _ h => h) (Or.inl ⟨by rfl, ?_⟩) ?_ ?_
    rotate_left
    ·intro w'
     go_simp
     with_reducible rfl
    rotate_left
    ·simp only [Act.put, List.setIfInBounds_toArray, List.set_cons_zero, List.set_cons_succ, i64_w, i32_w]
     rfl
    refine pure_ (i := 7) (N := some 94) (v := ?_) (a' := ?_) #[true, false, true, true, true, true, true, true, false, false, false, false, false, false, false] rfl rfl (any_of HT_.out (by kernel_rfl)) (fun _ _ _ h => h) (Or.inl ⟨by rfl, ?_⟩) ?_ ?_
    rotate_left
    ·intro w'
     go_simp
     with_reducible rfl
    rotate_left
    ·simp only [Act.put, List.setIfInBounds_toArray, List.set_cons_zero, List.set_cons_succ, i64_w, i32_w]
     rfl
    refine pure_ (i := 8) (N := some 95) (v := ?_) (a' := ?_) #[true, false, true, true, true, true, true, true, true, false, false, false, false, false, false] rfl rfl (any_of HT_.out (by kernel_rfl)) (fun _ _ _ h => h) (Or.inl ⟨by rfl, ?_⟩) ?_ ?_
    rotate_left
    ·intro w'
     go_simp
     with_reducible rfl
    rotate_left
    ·simp only [Act.put, List.setIfInBounds_toArray, List.set_cons_zero, List.set_cons_succ, i64_w, i32_w]
     rfl
    refine pure_ (i := 9) (N := some 96) (v := ?_) (a' := ?_) #[true, false, true, true, true, true, true, true, true, true, false, false, false, false, false] rfl rfl (any_of HT_.out (by kernel_rfl)) (fun _ _ _ h => h) (Or.inl ⟨by rfl, ?_⟩) ?_ ?_
    rotate_left
    ·intro w'
     go_simp
     with_reducible rfl
    rotate_left
    ·simp only [Act.put, List.setIfInBounds_toArray, List.set_cons_zero, List.set_cons_succ, i64_w, i32_w]
     rfl
    refine pure_ (i := 10) (N := some 97) (v := ?_) (a' := ?_) #[true, false, true, true, true, true, true, true, true, true, true, false, false, false, false] rfl rfl (any_of HT_.out (by kernel_rfl)) (fun _ _ _ h => h) (Or.inl ⟨by rfl, ?_⟩) ?_ ?_
    rotate_left
    ·intro w'
     go_simp
     with_reducible rfl
    rotate_left
    ·simp only [Act.put, List.setIfInBounds_toArray, List.set_cons_zero, List.set_cons_succ, i64_w, i32_w]
     rfl
    refine take_ (i := 1) (N := some 88) (v := ?_) (a' := ?_) #[true, true, true, true, true, true, true, true, true, true, true, false, false, false, false] rfl rfl (take_ofW HT_.out HW_.out (by kernel_rfl)) (fun _ _ _ h => h) (Or.inl ⟨by rfl, ?_⟩) hHeld ?_ ?_
    rotate_left
    ·rintro w' s0
     go_simp
     with_reducible rfl
    rotate_left
    ·simp only [Act.put, List.setIfInBounds_toArray, List.set_cons_zero, List.set_cons_succ, i64_w, i32_w]
     rfl
    refine one_ (i := 11) (N := some 98) #[true, true, true, true, true, true, true, true, true, true, true, true, false, false, false] rfl rfl (one_of HT_.out (by kernel_rfl)) (by decide) (fun K hK => ?_)
    refine value_ (w1 := ?_) (v := ?_) (by rfl) rfl ?_ ?_
    rotate_left 2
    ·go_simp
     constructor
     ·rfl
     ·rfl
    refine hK.out _ _ (pw_cell_below (below_alloc (Below.refl _ _) _) hHeld) (fun hHeld => ?_)
    clear hK K
    refine norm_ (a' := ?_) ?_ ?_
    rotate_left
    ·show Act.put _ (some 98) _ = _
     simp only [Act.put, List.setIfInBounds_toArray, List.set_cons_zero, List.set_cons_succ, i64_w, i32_w]
     rfl
    refine one_ (i := 12) (N := some 99) #[true, true, true, true, true, true, true, true, true, true, true, true, true, false, false] rfl rfl (one_of HT_.out (by kernel_rfl)) (by decide) (fun K hK => ?_)
    refine Kd.R_append_step k56 (w0 := w3) (W := w0_) g15 (by rfl) (.tmp 88) (.tmp 98) 52 56 (.agg #[.int .i64 0, .int .i64 0, .int .i64 0]) 24 rfl Try.underlying52 (by kernel_rfl) rfl (by decide) (by decide) (.slice As q cs) (brBy t q) (⟨-1, bt t (q : Int), bt t (q : Int)⟩ : S56) [.int .i64 (-1), .int .i64 (bt t (q : Int)), .int .i64 (bt t (q : Int))] (fun _ => True) (fun _ => False) (by first | rfl | (simp; done)) (by first | rfl | (simp; done) | (simp; rfl)) (k56_mkM _ _ _ (⟨-1, bt t (q : Int), bt t (q : Int)⟩ : S56)) (fun _ hk => hk.elim) (fun _ _ => trivial) hVd.out hBd.out (Nat.le_trans (Nat.le_of_eq H15.out.symm) hBd.out.size) (by rw [brBy_len]; have := HT.out; omega) ?_
    intro v1 w2 hown hb2 hgr hat
    obtain ⟨A1, c1, rfl⟩ := Kd.R_slice hown
    rw [show brBy t q ++ [(⟨-1, bt t (q : Int), bt t (q : Int)⟩ : S56)] = brBy t (q + 1) from (range_snoc' _ q).symm] at hown ⊢
    rw [brBy_len] at hown ⊢
    have qb := Aside0.mk (blk_grown hKd.out hgr (Kd.R_ne hVd.out hKd.out (by decide)))
    have qv := (blk_cell qb.out 1).trans rfl
    have qf := blk_frozen qb.out 1
    have HP := Aside0.mk (And.intro hown hb2)
    clear hown hb2 hgr hat
    refine hK.out _ _ (qv) (fun hHeld => ?_)
    clear hK K
    refine norm_ (a' := ?_) ?_ ?_
    rotate_left
    ·show Act.put _ (some 99) _ = _
     simp only [Act.put, List.setIfInBounds_toArray, List.set_cons_zero, List.set_cons_succ, i64_w, i32_w]
     rfl
    refine pure_ (i := 13) (N := some 100) (v := ?_) (a' := ?_) #[true, true, true, true, true, true, true, true, true, true, true, true, true, true, false] rfl rfl (any_of HT_.out (by kernel_rfl)) (fun _ _ _ h => h) (Or.inl ⟨by rfl, ?_⟩) ?_ ?_
    rotate_left
    ·intro w'
     go_simp
     with_reducible rfl
    rotate_left
    ·simp only [Act.put, List.setIfInBounds_toArray, List.set_cons_zero, List.set_cons_succ, i64_w, i32_w]
     rfl
    refine last_ (i := 14) (N := none) #[true, true, true, true, true, true, true, true, true, true, true, true, true, true, true] rfl rfl (one_of HT_.out (by kernel_rfl)) (by decide) (fun K hK => ?_)
    have q0 := hHeld
    refine skip_ (w1 := ?_) (by rfl) rfl ?_ ?_
    rotate_left
    ·go_simp
     rfl
    refine hK.out _ _ ?_
    clear hK K
    refine done_ (done_of HT_.out (by kernel_rfl)) ?_
    obtain ⟨hown, hb2⟩ := HP.out
    have hk3 := Aside0.mk (blk_put qb.out 1 (.slice A1 (q + 1) c1) rfl)
    have hv3 := Aside0.mk (R_set' hown qb.out (by decide) 1 (.slice A1 (q + 1) c1))
    have hb3 := Aside0.mk (hb2.setCell (p := ⟨g15, 1, none⟩) (Nat.le_refl _) (.slice A1 (q + 1) c1))
    clear hown hb2 HP qb qv qf q0 hHeld HT_ HW_ hbq kvs hVd hKd hBd
    generalize w2.setCell ⟨g15, 1, none⟩ (.slice A1 (q + 1) c1) = w4 at *
    have ht20 := HT.out
    go_wp2
    go_roundw
    case rel => exact ⟨q + 1, _, by omega, by go_num, hk3, hv3, hb3⟩
    case measure => simp [intOf]; omega


end Go.Proofs.Ytdjnpgigdchfkaa.PBR
