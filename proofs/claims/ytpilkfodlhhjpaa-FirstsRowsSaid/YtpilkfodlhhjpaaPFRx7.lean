-- written by a program of the session's (wip/myprint.py) out of the translation
import Derived.Test.YtpilkfodlhhjpaaPFRx0
import Derived.Test.YtpilkfodlhhjpaaPFRx2
import Derived.Test.YtpilkfodlhhjpaaPFRx3
import Derived.Test.YtpilkfodlhhjpaaPFRx4
import Derived.Test.YtpilkfodlhhjpaaPFRx5
import Derived.Test.YtpilkfodlhhjpaaPFRx6
namespace Go.Proofs.Ytpilkfodlhhjpaa.PFR
open Go.RowKit Go.Proofs.YtpilkfodlhhjpaaW.PrintWords Go.Proofs.YtpilkfodlhhjpaaW.PrintLast Go.Proofs.YtpilkfodlhhjpaaW.PrintMore
attribute [local go_sem] max2_int min2_int max_two min_two max_three min_three max_four min_four   -- for this text's walks alone
set_option linter.unusedVariables false
set_option linter.unusedSimpArgs false

/-! ### templelaw12_FirstsRows: function 7 -/
def fr9.T9 : Bool × List (List Nat × List Nat) := (true, [([], []), ([0], [0]), ([], []), ([2], [2]), ([3], [3]), ([4], [4]), ([1, 5, 3], [1, 5]), ([0, 1, 2, 3, 4, 5, 6], []), ([7, 6, 6, 0, 1, 2, 3, 4, 5, 6], [6, 7])])
def fr9.B9 : List Nat := [0, 1, 0, 4, 12, 28, 63, 127, 255]
theorem fr9.tab9 : rtab .any (opsOf Try.f7 9) = fr9.T9 := by kernel_rfl
theorem fr9.bits9 : waitsOk fr9.T9.2 fr9.B9 = true := by kernel_rfl
def fr10.T10 : Bool × List (List Nat × List Nat) := (true, [([], []), ([0], [0]), ([], []), ([2], [2]), ([3], [3]), ([4], [4]), ([5], [5]), ([], []), ([7], [7]), ([8], [8]), ([9], [9]), ([6, 10], [6, 10]), ([1, 0, 1, 2, 3, 4, 5, 6, 7, 8, 9, 10, 11], [1]), ([12, 0, 1, 2, 3, 4, 5, 6, 7, 8, 9, 10, 11], [12]), ([13, 11, 11, 0, 1, 2, 3, 4, 5, 6, 7, 8, 9, 10, 11], [11, 13])])
def fr10.B10 : List Nat := [0, 1, 0, 4, 12, 28, 60, 0, 128, 384, 896, 2044, 4095, 8191, 16383]
theorem fr10.tab10 : rtab .any (opsOf Try.f7 10) = fr10.T10 := by kernel_rfl
theorem fr10.bits10 : waitsOk fr10.T10.2 fr10.B10 = true := by kernel_rfl
attribute [local go_sem high] eqH63
def frD (i : Nat) : ByteArray := if i < 10 then ⟨#[UInt8.ofNat (48 + i)]⟩ else ⟨#[49, UInt8.ofNat (38 + i)]⟩
theorem frD_ev : ∀ i : Nat, i < 20 → templeref0_Decimal.f 6 (i : Int) = some (frD i) := by decide +kernel
theorem frD_le (i : Nat) : (frD i).size ≤ 2 := by
 unfold frD
 split
 ·exact (by decide : (1 : Nat) ≤ 2)
 ·exact Nat.le_refl 2
def frN (i : Nat) : ByteArray := ⟨#[110]⟩ ++ frD i
def frNm (m : Nat) : List ByteArray := (⟨#[83]⟩ : ByteArray) :: (List.range m).map frN
def frSq (m : Nat) : List S68 := (List.range m).map (fun q : Nat => ⟨((q + 1 : Nat) : Int), 0, 0⟩)
def frBit (l : List Int) (i : Nat) : Bool := Go.bits .and .i64 (rd l (i : Int)) 1 == 1
def frR1 (i : Nat) : S55 := ⟨(i : Int) + 1, [⟨false, [⟨-1, 97 + (i : Int), 97 + (i : Int)⟩]⟩]⟩
def frR2 (i : Nat) : S55 := ⟨(i : Int) + 1, [⟨false, []⟩]⟩
def frRs (l : List Int) (k : Nat) : Nat → List S55
 | 0 => [⟨0, [⟨false, frSq k⟩]⟩]
 | n + 1 => (frRs l k n ++ [frR1 n]) ++ (if frBit l n = true then [frR2 n] else [])
def frOpen (l : List Int) : Nat → Bool
 | 0 => true
 | n + 1 => frOpen l n && frBit l n
def frWant (l : List Int) : Nat → S63
 | 0 => z63
 | n + 1 => if frOpen l n = true then orS (frWant l n) (rangeS (97 + (n : Int)) (97 + (n : Int))) else frWant l n
def frK (l : List Int) : Nat := min l.length 20
/-- What the law asks of the three answers. -/
def frGood (k : Nat) (op : Bool) (x : S63) (E : List Bool) (F : List S63) (W : List S66) : Prop :=
 E.length = k + 1 ∧ F.length = k + 1 ∧ W.length = k + 1 ∧ rdOf false E 0 = op ∧ ((rd_T63 F 0).f0 = x.f0 ∧ (rd_T63 F 0).f1 = x.f1 ∧ (rd_T63 F 0).f2 = x.f2 ∧ (rd_T63 F 0).f3 = x.f3) ∧ (k = 0 ∨ (rd_T66 W (k : Int)).f1 = true) ∧ (rd_T66 W 0).f1 = true ∧ ((rd_T66 W 0).f0.f0 = 0 ∧ (rd_T66 W 0).f0.f1 = 0 ∧ (rd_T66 W 0).f0.f2 = 0 ∧ (rd_T66 W 0).f0.f3 = 0)
instance frGood_dec (k : Nat) (op : Bool) (x : S63) (E : List Bool) (F : List S63) (W : List S66) : Decidable (frGood k op x E F W) := by
 unfold frGood
 exact inferInstance
def templelaw12_FirstsRows.f (k : Nat) (l0 : List Int) : Option (Bool) :=
 (templelaw12_awake.f k).bind fun z => if z = true then
  (if mayB 0 (frNm (frK l0)) (frRs l0 (frK l0) (frK l0)) = true ∧ frGood (frK l0) (frOpen l0 (frK l0)) (frWant l0 (frK l0)) (emptyL (frNm (frK l0)) (frRs l0 (frK l0) (frK l0))) (firstL (frNm (frK l0)) (frRs l0 (frK l0) (frK l0))) (followL 0 (frNm (frK l0)) (frRs l0 (frK l0) (frK l0))) then some true else none)
 else none
theorem templelaw12_FirstsRows.mono : ∀ l0 k, LeO (templelaw12_FirstsRows.f k l0) (templelaw12_FirstsRows.f (k + 1) l0) := by
 intro l0 k
 unfold templelaw12_FirstsRows.f
 repeat' first
   | (with_reducible exact templelaw12_awake.mono _)
   | (with_reducible exact LeO.refl _)
   | (with_reducible exact LeO.none _)
   | (with_reducible refine LeO.ite ?_ ?_)
   | (with_reducible refine LeO.bind ?_ (fun _ => ?_))
theorem fr_snoc {α : Type} (f : Nat → α) (n : Nat) : (List.range (n + 1)).map f = (List.range n).map f ++ [f n] := by
 rw [List.range_succ, List.map_append, List.map_singleton]
theorem frNm_snoc (n : Nat) : frNm n ++ [frN n] = frNm (n + 1) := by
 unfold frNm
 rw [fr_snoc, List.cons_append]
theorem frNm_len (n : Nat) : (frNm n).length = n + 1 := by unfold frNm; rw [List.length_cons, List.length_map, List.length_range]
theorem frSq_len (n : Nat) : (frSq n).length = n := by unfold frSq; rw [List.length_map, List.length_range]
theorem frRs_t {l : List Int} {n : Nat} (k : Nat) (h : frBit l n = true) : (frRs l k n ++ [frR1 n]) ++ [frR2 n] = frRs l k (n + 1) := by
 show _ = (frRs l k n ++ [frR1 n]) ++ (if frBit l n = true then [frR2 n] else [])
 rw [if_pos h]
theorem frRs_f {l : List Int} {n : Nat} (k : Nat) (h : frBit l n = false) : frRs l k n ++ [frR1 n] = frRs l k (n + 1) := by
 show _ = (frRs l k n ++ [frR1 n]) ++ (if frBit l n = true then [frR2 n] else [])
 rw [if_neg (by rw [h]; decide), List.append_nil]
theorem frRs_len (l : List Int) (k : Nat) : ∀ n, (frRs l k n).length ≤ 2 * n + 1
 | 0 => by unfold frRs; simp
 | n + 1 => by
  have := frRs_len l k n
  unfold frRs
  rw [List.length_append, List.length_append, List.length_singleton]
  split
  ·rw [List.length_singleton]; omega
  ·rw [List.length_nil]; omega
theorem fr_set {α : Type} {d : Kd α} {e base g t : Nat} {w : World} {ok : Nat → Prop} {v : Value} {xs : List α} {cells : Array Value} (h : Kd.R d e w base ok v xs) (hb : w.heap[g]? = some (.cells cells t (0, 0))) (ht : ∀ q, q ∈ e :: d.E → q ≠ t) (j : Nat) (u : Value) : Kd.R d e (w.setCell ⟨g, j, none⟩ u) base ok v xs :=
 Kd.R_mono (Kd.R_far (p := ⟨g, j, none⟩) (Kd.R_types h hb ht) (fun _ hk => hk.2) u) (fun _ hk => hk.1)
structure FrI (w wr : World) (g3 g4 gC : Nat) (vn vs : Value) (xn : List ByteArray) (xs : List S68) : Prop where
 b3 : wr.heap[g3]? = some (.cells #[.int .i64 0, vn, .slice none 0 0] 25 (0, 0))
 b4 : wr.heap[g4]? = some (.cells #[.int .i64 0, .slice (some ⟨gC, 0, none⟩) 1 1] 55 (0, 0))
 bC : wr.heap[gC]? = some (.cells #[.bool false, vs] 58 (0, 0))
 hn : Kd.R Kd.string 9 wr w.heap.size (fun _ => True) vn xn
 hs : Kd.R k68 68 wr w.heap.size (fun _ => True) vs xs
 hb : Below w.heap.size w wr
 h3 : w.heap.size ≤ g3
 hC : w.heap.size ≤ gC
theorem FrI.below {w wr w1 : World} {g3 g4 gC : Nat} {vn vs : Value} {xn : List ByteArray} {xs : List S68} (h : FrI w wr g3 g4 gC vn vs xn xs) (hb : Below wr.heap.size wr w1) : FrI w w1 g3 g4 gC vn vs xn xs :=
 ⟨blk_below h.b3 hb, blk_below h.b4 hb, blk_below h.bC hb, Kd.R_below h.hn hb, Kd.R_below h.hs hb, h.hb.trans (hb.mono h.hb.size), h.h3, h.hC⟩
theorem FrI.name {w wr w2 : World} {g3 g4 gC : Nat} {vn vs v1 : Value} {xn yn : List ByteArray} {xs : List S68} (h : FrI w wr g3 g4 gC vn vs xn xs) (hg : wr.grownBy w2 vn.ownBlock) (hown : Kd.R Kd.string 9 w2 w.heap.size (fun _ => True) v1 yn) :
  FrI w (w2.setCell ⟨g3, 1, none⟩ v1) g3 g4 gC v1 vs yn xs := by
 have hb := pw_below_grown h.hb _ h.hb.size hg (fun k hk => Kd.R_base h.hn k hk)
 have hty := Kd.R_typed h.hn
 have q3 := blk_grown h.b3 hg (Kd.R_ne h.hn h.b3 (by decide))
 exact ⟨blk_put q3 1 _ rfl, blk_far (blk_grown h.b4 hg (Kd.R_ne h.hn h.b4 (by decide))) (blk_ne h.b4 h.b3 (by decide)) _, blk_far (blk_grown h.bC hg (Kd.R_ne h.hn h.bC (by decide))) (blk_ne h.bC h.b3 (by decide)) _,
  fr_set hown q3 (by decide) 1 _, fr_set (Kd.R_over' h.hs hty (by decide) hg) q3 (by decide) 1 _, hb.setCell (p := ⟨g3, 1, none⟩) h.h3 _, h.h3, h.hC⟩
theorem FrI.sym {w wr w2 : World} {g3 g4 gC : Nat} {vn vs v1 : Value} {xn : List ByteArray} {xs ys : List S68} (h : FrI w wr g3 g4 gC vn vs xn xs) (hg : wr.grownBy w2 vs.ownBlock) (hown : Kd.R k68 68 w2 w.heap.size (fun _ => True) v1 ys) :
  FrI w (w2.setCell ⟨gC, 1, none⟩ v1) g3 g4 gC vn v1 xn ys := by
 have hb := pw_below_grown h.hb _ h.hb.size hg (fun k hk => Kd.R_base h.hs k hk)
 have hty := Kd.R_typed h.hs
 have qC := blk_grown h.bC hg (Kd.R_ne h.hs h.bC (by decide))
 exact ⟨blk_far (blk_grown h.b3 hg (Kd.R_ne h.hs h.b3 (by decide))) (blk_ne h.b3 h.bC (by decide)) _, blk_far (blk_grown h.b4 hg (Kd.R_ne h.hs h.b4 (by decide))) (blk_ne h.b4 h.bC (by decide)) _, blk_put qC 1 _ rfl,
  fr_set (Kd.R_over' h.hn hty (by decide) hg) qC (by decide) 1 _, fr_set hown qC (by decide) 1 _, hb.setCell (p := ⟨gC, 1, none⟩) h.hC _, h.h3, h.hC⟩
structure FrJ (w wr : World) (g3 g7 : Nat) (vn vr : Value) (xn : List ByteArray) (xr : List S55) (x : S63) : Prop where
 b3 : wr.heap[g3]? = some (.cells #[.int .i64 0, vn, vr] 25 (0, 0))
 b7 : wr.heap[g7]? = some (.cells #[.int .u64 x.f0, .int .u64 x.f1, .int .u64 x.f2, .int .u64 x.f3] 63 (0, 0))
 hn : Kd.R Kd.string 9 wr w.heap.size (fun _ => True) vn xn
 hr : Kd.R k55 55 wr w.heap.size (fun _ => True) vr xr
 hb : Below w.heap.size w wr
 h3 : w.heap.size ≤ g3
 h7 : w.heap.size ≤ g7
theorem FrJ.below {w wr w1 : World} {g3 g7 : Nat} {vn vr : Value} {xn : List ByteArray} {xr : List S55} {x : S63} (h : FrJ w wr g3 g7 vn vr xn xr x) (hb : Below wr.heap.size wr w1) : FrJ w w1 g3 g7 vn vr xn xr x :=
 ⟨blk_below h.b3 hb, blk_below h.b7 hb, Kd.R_below h.hn hb, Kd.R_below h.hr hb, h.hb.trans (hb.mono h.hb.size), h.h3, h.h7⟩
theorem FrJ.rule {w wr w2 : World} {g3 g7 : Nat} {vn vr v1 : Value} {xn : List ByteArray} {xr yr : List S55} {x : S63} (h : FrJ w wr g3 g7 vn vr xn xr x) (hg : wr.grownBy w2 vr.ownBlock) (hown : Kd.R k55 55 w2 w.heap.size (fun _ => True) v1 yr) :
  FrJ w (w2.setCell ⟨g3, 2, none⟩ v1) g3 g7 vn v1 xn yr x := by
 have hb := pw_below_grown h.hb _ h.hb.size hg (fun k hk => Kd.R_base h.hr k hk)
 have hty := Kd.R_typed h.hr
 have q3 := blk_grown h.b3 hg (Kd.R_ne h.hr h.b3 (by decide))
 exact ⟨blk_put q3 2 _ rfl, blk_far (blk_grown h.b7 hg (Kd.R_ne h.hr h.b7 (by decide))) (blk_ne h.b7 h.b3 (by decide)) _, fr_set (Kd.R_over' h.hn hty (by decide) hg) q3 (by decide) 2 _, fr_set hown q3 (by decide) 2 _, hb.setCell (p := ⟨g3, 2, none⟩) h.h3 _, h.h3, h.h7⟩
theorem FrJ.set {w wr : World} {g3 g7 : Nat} {vn vr : Value} {xn : List ByteArray} {xr : List S55} {x : S63} (h : FrJ w wr g3 g7 vn vr xn xr x) (y : S63) :
  FrJ w ((((wr.setCell ⟨g7, 0, none⟩ (.int .u64 y.f0)).setCell ⟨g7, 1, none⟩ (.int .u64 y.f1)).setCell ⟨g7, 2, none⟩ (.int .u64 y.f2)).setCell ⟨g7, 3, none⟩ (.int .u64 y.f3)) g3 g7 vn vr xn xr y := by
 have n := blk_ne h.b3 h.b7 (by decide)
 have p0 := blk_put h.b7 0 (.int .u64 y.f0) rfl
 have p1 := blk_put p0 1 (.int .u64 y.f1) rfl
 have p2 := blk_put p1 2 (.int .u64 y.f2) rfl
 exact ⟨blk_far (blk_far (blk_far (blk_far h.b3 n _) n _) n _) n _, blk_put p2 3 (.int .u64 y.f3) rfl, fr_set (fr_set (fr_set (fr_set h.hn h.b7 (by decide) 0 _) p0 (by decide) 1 _) p1 (by decide) 2 _) p2 (by decide) 3 _,
  fr_set (fr_set (fr_set (fr_set h.hr h.b7 (by decide) 0 _) p0 (by decide) 1 _) p1 (by decide) 2 _) p2 (by decide) 3 _, (((h.hb.setCell (p := ⟨g7, 0, none⟩) h.h7 _).setCell (p := ⟨g7, 1, none⟩) h.h7 _).setCell (p := ⟨g7, 2, none⟩) h.h7 _).setCell (p := ⟨g7, 3, none⟩) h.h7 _, h.h3, h.h7⟩
/-- From the first part to the second: the one rule is a row. -/
theorem FrI.rows {w wr : World} {g3 g4 gC : Nat} {vn vs : Value} {xn : List ByteArray} {xs : List S68} (h : FrI w wr g3 g4 gC vn vs xn xs) :
  FrJ w (((wr.setCell ⟨g3, 2, none⟩ (.slice (some ⟨wr.heap.size, 0, none⟩) 1 1)).alloc (.cells #[.int .i64 0, .slice (some ⟨gC, 0, none⟩) 1 1] 55)).alloc (.cells #[.int .u64 0, .int .u64 0, .int .u64 0, .int .u64 0] 63)) g3 (wr.heap.size + 1) vn (.slice (some ⟨wr.heap.size, 0, none⟩) 1 1) xn [⟨0, [⟨false, xs⟩]⟩] z63 := by
 have hsz : (wr.setCell ⟨g3, 2, none⟩ (.slice (some ⟨wr.heap.size, 0, none⟩) 1 1)).heap.size = wr.heap.size := by simp
 have hsz2 : ((wr.setCell ⟨g3, 2, none⟩ (.slice (some ⟨wr.heap.size, 0, none⟩) 1 1)).alloc (.cells #[.int .i64 0, .slice (some ⟨gC, 0, none⟩) 1 1] 55)).heap.size = wr.heap.size + 1 := by simp
 have b7 := blk_new ((wr.setCell ⟨g3, 2, none⟩ (.slice (some ⟨wr.heap.size, 0, none⟩) 1 1)).alloc (.cells #[.int .i64 0, .slice (some ⟨gC, 0, none⟩) 1 1] 55)) (.cells #[.int .u64 0, .int .u64 0, .int .u64 0, .int .u64 0] 63)
 rw [hsz2] at b7
 have bR := blk_alloc (blk_new (wr.setCell ⟨g3, 2, none⟩ (.slice (some ⟨wr.heap.size, 0, none⟩) 1 1)) (.cells #[.int .i64 0, .slice (some ⟨gC, 0, none⟩) 1 1] 55)) (.cells #[.int .u64 0, .int .u64 0, .int .u64 0, .int .u64 0] 63)
 rw [hsz] at bR
 have nC := blk_ne h.bC h.b3 (by decide)
 have bC := blk_alloc (blk_alloc (blk_far (p := ⟨g3, 2, none⟩) h.bC nC (.slice (some ⟨wr.heap.size, 0, none⟩) 1 1)) (.cells #[.int .i64 0, .slice (some ⟨gC, 0, none⟩) 1 1] 55)) (.cells #[.int .u64 0, .int .u64 0, .int .u64 0, .int .u64 0] 63)
 have hs := Kd.R_alloc (Kd.R_alloc (fr_set h.hs h.b3 (by decide) 2 (.slice (some ⟨wr.heap.size, 0, none⟩) 1 1)) (.cells #[.int .i64 0, .slice (some ⟨gC, 0, none⟩) 1 1] 55)) (.cells #[.int .u64 0, .int .u64 0, .int .u64 0, .int .u64 0] 63)
 have hlC := blk_lt h.bC
 have r1 := R_blk (d := k58) (base := w.heap.size) (ok := fun k => k ≠ wr.heap.size) (okp := fun k => (True ∧ k ≠ gC) ∧ k ≠ wr.heap.size) (xs := [⟨false, xs⟩]) h.hC bC (Reps.c2 (k58_mkM _ _ _ ⟨false, xs⟩ (Kd.R_types (Kd.R_types hs bC (by decide)) bR (by decide))) (Reps.none _ _)) (fun k hk => ⟨hk.2, hk.1.2⟩) (Nat.ne_of_lt hlC) (by simp)
 exact ⟨blk_alloc (blk_alloc (blk_put h.b3 2 _ rfl) _) _, b7, Kd.R_alloc (Kd.R_alloc (fr_set h.hn h.b3 (by decide) 2 _) _) _,
  R_blk (d := k55) (xs := [⟨0, [⟨false, xs⟩]⟩]) h.hb.size bR (Reps.c2 (k55_mkM _ _ _ ⟨0, [⟨false, xs⟩]⟩ r1) (Reps.none _ _)) (fun k hk => ⟨trivial, hk⟩) trivial (by simp),
  below_alloc (below_alloc (h.hb.setCell (p := ⟨g3, 2, none⟩) h.h3 _) _) _, h.h3, Nat.le_succ_of_le h.hb.size⟩
theorem fr_lit1 {w0 : World} {base : Nat} (hb : base ≤ w0.heap.size) (i : Nat) :
  k55.M ((w0.alloc (.cells #[.int .i64 (-1), .int .i64 (97 + (i : Int)), .int .i64 (97 + (i : Int))] 68)).alloc (.cells #[.bool false, .slice (some ⟨w0.heap.size, 0, none⟩) 1 1] 58)) base (fun k => w0.heap.size ≤ k) (frR1 i) [.int .i64 ((i : Int) + 1), .slice (some ⟨w0.heap.size + 1, 0, none⟩) 1 1] := by
 have hsz : (w0.alloc (.cells #[.int .i64 (-1), .int .i64 (97 + (i : Int)), .int .i64 (97 + (i : Int))] 68)).heap.size = w0.heap.size + 1 := by simp
 have b2 := blk_new (w0.alloc (.cells #[.int .i64 (-1), .int .i64 (97 + (i : Int)), .int .i64 (97 + (i : Int))] 68)) (.cells #[.bool false, .slice (some ⟨w0.heap.size, 0, none⟩) 1 1] 58)
 rw [hsz] at b2
 have r1 := R_blk (d := k68) (base := base) (ok := fun k => k = w0.heap.size) (okp := fun _ => False) (xs := [⟨-1, (97 + (i : Int)), (97 + (i : Int))⟩]) hb (blk_alloc (blk_new w0 (.cells #[.int .i64 (-1), .int .i64 (97 + (i : Int)), .int .i64 (97 + (i : Int))] 68)) (.cells #[.bool false, .slice (some ⟨w0.heap.size, 0, none⟩) 1 1] 58)) (Reps.c3 (k68_mkM _ _ _ ⟨-1, (97 + (i : Int)), (97 + (i : Int))⟩) (Reps.none _ _)) (fun _ h => h.elim) rfl (by simp)
 exact k55_mkM _ _ _ (frR1 i) (R_blk (d := k58) (xs := (frR1 i).f1) (Nat.le_succ_of_le hb) b2 (Reps.c2 (k58_mkM _ _ _ ⟨false, _⟩ r1) (Reps.none _ _)) (fun k hk => by subst hk; exact ⟨Nat.le_refl _, by omega⟩) (by omega) (by show 1 ≤ _; decide))
theorem fr_lit2 {w0 : World} {base : Nat} (hb : base ≤ w0.heap.size) (i : Nat) :
  k55.M (w0.alloc (.cells #[.bool false, .slice none 0 0] 58)) base (fun k => w0.heap.size ≤ k) (frR2 i) [.int .i64 ((i : Int) + 1), .slice (some ⟨w0.heap.size, 0, none⟩) 1 1] :=
 k55_mkM _ _ _ (frR2 i) (R_blk (d := k58) (xs := (frR2 i).f1) (okp := fun _ => False) hb (blk_new w0 _) (Reps.c2 (k58_mkM _ _ _ ⟨false, []⟩ (Kd.R_nil _ _ _ _ _)) (Reps.none _ _)) (fun _ h => h.elim) (Nat.le_refl _) (by show 1 ≤ _; decide))
theorem fr_mix (a b : S63) : templeref1_Mix.f 0 a.f0 a.f1 a.f2 a.f3 b.f0 b.f1 b.f2 b.f3 = some ((orS a b).f0, (orS a b).f1, (orS a b).f2, (orS a b).f3) := rfl
set_option maxHeartbeats 8000000 in
set_option maxRecDepth 100000 in
set_option maxHeartbeats 8000000 in
set_option maxRecDepth 100000 in
theorem templelaw12_FirstsRows.calls (k : Nat) (A0 : Option Addr) (c0 : Nat) (l0 : List Int) (r : Bool) (w : World) (hr0 : Kd.C (Kd.int .i64) w A0 l0.length l0) (hc0 : l0.length ≤ c0) (h : templelaw12_FirstsRows.f k l0 = some r) :
  Calls Try.prog 7 #[.slice A0 l0.length c0] w fun e w' => e = .returned (.bool r) ∧ Below w.heap.size w w' := by
 unfold templelaw12_FirstsRows.f at h
 rw [Option.bind_eq_some_iff] at h
 obtain ⟨z, ha, h⟩ := h
 cases z with
 | false => rw [if_neg (by decide)] at h; cases h
 | true =>
 rw [if_pos rfl] at h
 by_cases hB : mayB 0 (frNm (frK l0)) (frRs l0 (frK l0) (frK l0)) = true ∧ frGood (frK l0) (frOpen l0 (frK l0)) (frWant l0 (frK l0)) (emptyL (frNm (frK l0)) (frRs l0 (frK l0) (frK l0))) (firstL (frNm (frK l0)) (frRs l0 (frK l0) (frK l0))) (followL 0 (frNm (frK l0)) (frRs l0 (frK l0) (frK l0)))
 case neg => rw [if_neg hB] at h; cases h
 rw [if_pos hB] at h
 obtain rfl := Option.some.inj h
 have HA := Aside0.mk ha
 have HG := Aside0.mk hB
 have HR0 := Aside0.mk hr0
 clear ha hB h hr0
 have hK1 : frK l0 ≤ l0.length := Nat.min_le_left _ _
 have hK2 : frK l0 ≤ 20 := Nat.min_le_right _ _
 go_enter Try.func7, Try.ntmps7
 go_upto_region 6 with (first | (go_at_call 21; (with_reducible refine (templelaw12_awake.calls k true _ HA.out).mono ?_); rintro e w1 ⟨rfl, hb1⟩; have HB1 := Aside0.mk hb1; clear hb1))
 have hkv : (if (20 : Int) < (l0.length : Int) then (20 : Int) else (l0.length : Int)) = ((frK l0 : Nat) : Int) := by unfold frK; split <;> omega
 rw [hkv]
 clear hkv
 have e1 : (w1.alloc (.cells #[.string ⟨#[83]⟩] 9)).heap.size = w1.heap.size + 1 := by simp
 have e2 : ((w1.alloc (.cells #[.string ⟨#[83]⟩] 9)).alloc (.cells #[.int .i64 0, .slice (some ⟨w1.heap.size, 0, none⟩) 1 1, .slice none 0 0] 25)).heap.size = w1.heap.size + 1 + 1 := by simp
 have e3 : (((w1.alloc (.cells #[.string ⟨#[83]⟩] 9)).alloc (.cells #[.int .i64 0, .slice (some ⟨w1.heap.size, 0, none⟩) 1 1, .slice none 0 0] 25)).alloc (.cells #[.bool false, .slice none 0 0] 58)).heap.size = w1.heap.size + 1 + 1 + 1 := by simp
 have b1 := blk_alloc (blk_alloc (blk_alloc (blk_new w1 (.cells #[.string ⟨#[83]⟩] 9)) (.cells #[.int .i64 0, .slice (some ⟨w1.heap.size, 0, none⟩) 1 1, .slice none 0 0] 25)) (.cells #[.bool false, .slice none 0 0] 58)) (.cells #[.int .i64 0, .slice (some ⟨w1.heap.size + 1 + 1, 0, none⟩) 1 1] 55)
 have b2 := blk_alloc (blk_alloc (blk_new (w1.alloc (.cells #[.string ⟨#[83]⟩] 9)) (.cells #[.int .i64 0, .slice (some ⟨w1.heap.size, 0, none⟩) 1 1, .slice none 0 0] 25)) (.cells #[.bool false, .slice none 0 0] 58)) (.cells #[.int .i64 0, .slice (some ⟨w1.heap.size + 1 + 1, 0, none⟩) 1 1] 55)
 have b3 := blk_alloc (blk_new ((w1.alloc (.cells #[.string ⟨#[83]⟩] 9)).alloc (.cells #[.int .i64 0, .slice (some ⟨w1.heap.size, 0, none⟩) 1 1, .slice none 0 0] 25)) (.cells #[.bool false, .slice none 0 0] 58)) (.cells #[.int .i64 0, .slice (some ⟨w1.heap.size + 1 + 1, 0, none⟩) 1 1] 55)
 have b4 := blk_new (((w1.alloc (.cells #[.string ⟨#[83]⟩] 9)).alloc (.cells #[.int .i64 0, .slice (some ⟨w1.heap.size, 0, none⟩) 1 1, .slice none 0 0] 25)).alloc (.cells #[.bool false, .slice none 0 0] 58)) (.cells #[.int .i64 0, .slice (some ⟨w1.heap.size + 1 + 1, 0, none⟩) 1 1] 55)
 rw [e1] at b2
 rw [e2] at b3
 rw [e3] at b4
 have hz := HB1.out.size
 have HI : Aside0 (FrI w ((((w1.alloc (.cells #[.string ⟨#[83]⟩] 9)).alloc (.cells #[.int .i64 0, .slice (some ⟨w1.heap.size, 0, none⟩) 1 1, .slice none 0 0] 25)).alloc (.cells #[.bool false, .slice none 0 0] 58)).alloc (.cells #[.int .i64 0, .slice (some ⟨w1.heap.size + 1 + 1, 0, none⟩) 1 1] 55)) (w1.heap.size + 1) (w1.heap.size + 1 + 1 + 1) (w1.heap.size + 1 + 1) (.slice (some ⟨w1.heap.size, 0, none⟩) 1 1) (.slice none 0 0) (frNm 0) (frSq 0)) :=
  ⟨⟨b2, b4, b3, R_blk (d := Kd.string) (xs := frNm 0) (okp := fun _ => False) hz b1 (Reps.one rfl (Reps.none _ _)) (fun _ h => h.elim) trivial (by decide), Kd.R_nil _ _ _ _ _, below_alloc (below_alloc (below_alloc (below_alloc HB1.out _) _) _) _, by omega, by omega⟩⟩
 clear e1 e2 e3 b1 b2 b3 b4 hz HB1
 generalize ((((w1.alloc (.cells #[.string ⟨#[83]⟩] 9)).alloc (.cells #[.int .i64 0, .slice (some ⟨w1.heap.size, 0, none⟩) 1 1, .slice none 0 0] 25)).alloc (.cells #[.bool false, .slice none 0 0] 58)).alloc (.cells #[.int .i64 0, .slice (some ⟨w1.heap.size + 1 + 1, 0, none⟩) 1 1] 55)) = wl at *
 generalize w1.heap.size + 1 + 1 + 1 = g4 at *
 generalize w1.heap.size + 1 + 1 = gC at *
 generalize w1.heap.size + 1 = g3 at *
 go_wp2
 go_loopw [6] (fun v6 wr => ∃ (i : Nat) (vn vs : Value), i ≤ frK l0 ∧ v6 = .int .i64 i ∧ Aside0 (FrI w wr g3 g4 gC vn vs (frNm i) (frSq i))) (fun v _ => frK l0 - (intOf v).toNat)
 case atStart => exact ⟨0, _, _, by omega, rfl, HI⟩
 case round =>
  obtain ⟨i, vn, vs, hi, rfl, hI⟩ := hrel
  clear HI
  by_cases hlt : i < frK l0
  case neg =>
   obtain rfl : i = frK l0 := by omega
   have k40 : wr.cell? ⟨g4, 0, none⟩ = some (.int .i64 0) := (blk_cell hI.out.b4 0).trans rfl
   have k41 : wr.cell? ⟨g4, 1, none⟩ = some (.slice (some ⟨gC, 0, none⟩) 1 1) := (blk_cell hI.out.b4 1).trans rfl
   have k32 : wr.cell? ⟨g3, 2, none⟩ = some (.slice none 0 0) := (blk_cell hI.out.b3 2).trans rfl
   have kra : (wr.alloc (.cells #[.int .i64 0, .slice (some ⟨gC, 0, none⟩) 1 1] 55)).cell? ⟨g3, 2, none⟩ = some (.slice none 0 0) := pw_cell_below (below_alloc (Below.refl _ _) _) k32
   have fra : (wr.alloc (.cells #[.int .i64 0, .slice (some ⟨gC, 0, none⟩) 1 1] 55)).frozen? ⟨g3, 2, none⟩ = false := blk_frozen (blk_alloc hI.out.b3 _) 2
   have fr0 := blk_frozen hI.out.b3 2
   have lra : g3 < wr.heap.size := blk_lt hI.out.b3
   have HJ0 := Aside0.mk hI.out.rows
   go_upto_region 14 with (fail)
   clear k40 k41 k32 kra fra fr0 lra hI
   generalize (((wr.setCell ⟨g3, 2, none⟩ (.slice (some ⟨wr.heap.size, 0, none⟩) 1 1)).alloc (.cells #[.int .i64 0, .slice (some ⟨gC, 0, none⟩) 1 1] 55)).alloc (.cells #[.int .u64 0, .int .u64 0, .int .u64 0, .int .u64 0] 63)) = wl2 at *
   generalize wr.heap.size + 1 = g7 at *
   go_wp2
   go_loopw [9, 8] (fun v9 v8 wr => ∃ (i : Nat) (vr : Value), i ≤ frK l0 ∧ v9 = .int .i64 i ∧ v8 = .bool (frOpen l0 i) ∧ Aside0 (FrJ w wr g3 g7 vn vr (frNm (frK l0)) (frRs l0 (frK l0) i) (frWant l0 i))) (fun v _ _ => frK l0 - (intOf v).toNat)
   case atStart => exact ⟨0, _, by omega, rfl, rfl, HJ0⟩
   case round =>
    obtain ⟨i, vr, hi2, rfl, rfl, hJ⟩ := hrel
    clear HJ0
    by_cases hlt2 : i < frK l0
    case neg =>
     obtain rfl : i = frK l0 := by omega
     obtain ⟨hm, hgood⟩ := HG.out
     obtain ⟨gE, gF, gW, g0, ⟨f0, f1, f2, f3⟩, gk, ge, z0, z1, z2, z3⟩ := hgood
     have HE := Aside0.mk (show first_Empty.f 0 (frNm (frK l0)) (frRs l0 (frK l0) (frK l0)) = some (emptyL (frNm (frK l0)) (frRs l0 (frK l0) (frK l0)), 0) by unfold first_Empty.f; rw [if_pos hm])
     have HF := Aside0.mk (show first_First.f 0 (frNm (frK l0)) (frRs l0 (frK l0) (frK l0)) = some (firstL (frNm (frK l0)) (frRs l0 (frK l0) (frK l0)), 0) by unfold first_First.f; rw [if_pos hm])
     have HW := Aside0.mk (show first_Follow.f 0 (frNm (frK l0)) (frRs l0 (frK l0) (frK l0)) = some (followL 0 (frNm (frK l0)) (frRs l0 (frK l0) (frK l0)), 0) by unfold first_Follow.f; rw [if_pos hm])
     generalize emptyL (frNm (frK l0)) (frRs l0 (frK l0) (frK l0)) = E at *
     generalize firstL (frNm (frK l0)) (frRs l0 (frK l0) (frK l0)) = F at *
     generalize followL 0 (frNm (frK l0)) (frRs l0 (frK l0) (frK l0)) = W at *
     generalize frWant l0 (frK l0) = x at *
     generalize frOpen l0 (frK l0) = op at *
     generalize frRs l0 (frK l0) (frK l0) = rs at *
     generalize frNm (frK l0) = ns at *
     have HGE := Aside0.mk gE
     have HGF := Aside0.mk gF
     have HGW := Aside0.mk gW
     have HQ := Aside0.mk (And.intro g0 (And.intro f0 (And.intro f1 (And.intro f2 (And.intro f3 (And.intro gk (And.intro ge (And.intro z0 (And.intro z1 (And.intro z2 z3))))))))))
     clear HG hm gE gF gW g0 f0 f1 f2 f3 gk ge z0 z1 z2 z3
     obtain ⟨An, cn, rfl⟩ := Kd.R_slice hJ.out.hn
     obtain ⟨Ar, cr, rfl⟩ := Kd.R_slice hJ.out.hr
     have HC1 := Aside0.mk (Kd.R_reads' hJ.out.hn)
     have HC2 := Aside0.mk (Kd.R_reads' hJ.out.hr)
     have kk : ∀ w', Below wr.heap.size wr w' → w'.cell? ⟨g3, 0, none⟩ = some (.int .i64 0) ∧ w'.cell? ⟨g3, 1, none⟩ = some (.slice An ns.length cn) ∧ w'.cell? ⟨g3, 2, none⟩ = some (.slice Ar rs.length cr) := fun w' hb => ⟨(blk_cell (blk_below hJ.out.b3 hb) 0).trans rfl, (blk_cell (blk_below hJ.out.b3 hb) 1).trans rfl, (blk_cell (blk_below hJ.out.b3 hb) 2).trans rfl⟩
     have KK := Aside0.mk kk
     clear kk
     obtain ⟨k0, k1, k2⟩ := KK.out _ (Below.refl _ _)
     go_upto_region 26 with (first | (go_at_call 10; ((with_reducible refine (first_Empty.calls 0 An cn ns Ar cr rs E 0 _ HC1.out.2.2 HC1.out.2.1 HC2.out.2.2 HC2.out.2.1 HE.out).mono ?_); rintro e w2 ⟨v0, rfl, hv, hb2⟩; (obtain ⟨AE, cE, rfl⟩ := Kd.R_slice hv); have HB2 := Aside0.mk hb2; have HVE := Aside0.mk hv; clear hv hb2)))
     clear k0 k1 k2
     obtain ⟨k0, k1, k2⟩ := KK.out _ HB2.out
     go_upto_region 27 with (first | (go_at_call 12; ((with_reducible refine (first_First.calls 0 An cn ns Ar cr rs F 0 _ (Kd.C_below HC1.out.2.2 HB2.out) HC1.out.2.1 (Kd.C_below HC2.out.2.2 HB2.out) HC2.out.2.1 HF.out).mono ?_); rintro e w3 ⟨v0, rfl, hv, hb3⟩; (obtain ⟨AF, cF, rfl⟩ := Kd.R_slice hv); have HB3 := Aside0.mk (HB2.out.trans (hb3.mono HB2.out.size)); have HVE2 := Aside0.mk (Kd.R_below HVE.out hb3); have HVF := Aside0.mk hv; clear hv hb3)))
     clear k0 k1 k2 HVE HB2
     obtain ⟨k0, k1, k2⟩ := KK.out _ HB3.out
     go_upto_region 28 with (first | (go_at_call 14; ((with_reducible refine (first_Follow.calls 0 An cn ns Ar cr rs W 0 _ (Kd.C_below HC1.out.2.2 HB3.out) HC1.out.2.1 (Kd.C_below HC2.out.2.2 HB3.out) HC2.out.2.1 HW.out).mono ?_); rintro e w4 ⟨v0, rfl, hv, hb4⟩; (obtain ⟨AW, cW, rfl⟩ := Kd.R_slice hv); have HB4 := Aside0.mk (HB3.out.trans (hb4.mono HB3.out.size)); have HVE3 := Aside0.mk (Kd.R_below HVE2.out hb4); have HVF2 := Aside0.mk (Kd.R_below HVF.out hb4); have HVW := Aside0.mk hv; clear hv hb4)))
     clear k0 k1 k2 HVE2 HVF HB3
     rw [HGE.out] at HVE3 ⊢
     rw [HGF.out] at HVF2 ⊢
     rw [HGW.out] at HVW ⊢
     have hne : (((frK l0 + 1 : Nat) : Int) != ((frK l0 : Nat) : Int) + 1) = false := by simp
     go_upto_region 30 with (fail)
     clear hne
     have hJ4 := Aside0.mk (hJ.out.below HB4.out)
     obtain ⟨aE, eE, a0⟩ := Kd.at_bool (Kd.R_reads' HVE3.out).2.2 0 (by decide) (by rw [HGE.out]; omega)
     obtain ⟨aF, eF, b0, b1, b2, b3⟩ := at_T63 (Kd.R_reads' HVF2.out).2.2 0 (by decide) (by rw [HGF.out]; omega)
     obtain ⟨aW, eW, c0_, c1, c2, c3, c4⟩ := at_T66 (Kd.R_reads' HVW.out).2.2 0 (by decide) (by rw [HGW.out]; omega)
     obtain ⟨aW2, eW2, _, _, _, _, d4⟩ := at_T66 (Kd.R_reads' HVW.out).2.2 (frK l0 : Int) (by omega) (by rw [HGW.out]; omega)
     cases eE
     cases eF
     cases eW
     injection eW2 with eW2
     subst eW2
     simp only [show ((0 : Int)).toNat = 0 from rfl, Nat.zero_mul, Addr.add_zero', Int.toNat_natCast] at a0 b0 b1 b2 b3 c0_ c1 c2 c3 c4 d4
     obtain ⟨q0, q1, q2, q3, q4, q5, q6, q7, q8, q9, q10⟩ := HQ.out
     rw [q0] at a0
     rw [q1] at b0
     rw [q2] at b1
     rw [q3] at b2
     rw [q4] at b3
     rw [q7] at c0_
     rw [q8] at c1
     rw [q9] at c2
     rw [q10] at c3
     rw [q6] at c4
     have x0 : w4.cell? ⟨g7, 0, none⟩ = some (.int .u64 x.f0) := (blk_cell hJ4.out.b7 0).trans rfl
     have x1 : w4.cell? ⟨g7, 1, none⟩ = some (.int .u64 x.f1) := (blk_cell hJ4.out.b7 1).trans rfl
     have x2 : w4.cell? ⟨g7, 2, none⟩ = some (.int .u64 x.f2) := (blk_cell hJ4.out.b7 2).trans rfl
     have x3 : w4.cell? ⟨g7, 3, none⟩ = some (.int .u64 x.f3) := (blk_cell hJ4.out.b7 3).trans rfl
     have hz1 : (0 < frK l0 + 1) = True := eq_true (by omega)
     clear q0 q1 q2 q3 q4 q6 q7 q8 q9 q10
     by_cases hk0 : frK l0 = 0
     ·have hkb : (((frK l0 : Nat) : Int) == 0) = true := by rw [hk0]; rfl
      clear d4 q5 hk0
      repeat (go_quiet (first | (go_at_call 17; (with_reducible refine (templelaw0_Num.calls 0 0 _ rfl).mono ?_); rintro e w' ⟨rfl, ⟨nd, rfl⟩⟩; (try first | exact ⟨rfl, _, World.drewN_drewN _ _ _⟩ | exact ⟨rfl, _, Eq.trans (World.drewN_drewN _ _ _) (congrArg (World.drewN _) (Nat.add_assoc _ _ _))⟩))); try go_wp2)
      go_ret
      exact ⟨rfl, pw_below_drewN hJ4.out.hb _⟩
     ·have hkb : (((frK l0 : Nat) : Int) == 0) = false := by simp; omega
      rcases q5 with q5 | q5
      ·exact absurd q5 hk0
      rw [q5] at d4
      clear q5 hk0
      repeat (go_quiet (first | (go_at_call 17; (with_reducible refine (templelaw0_Num.calls 0 0 _ rfl).mono ?_); rintro e w' ⟨rfl, ⟨nd, rfl⟩⟩; (try first | exact ⟨rfl, _, World.drewN_drewN _ _ _⟩ | exact ⟨rfl, _, Eq.trans (World.drewN_drewN _ _ _) (congrArg (World.drewN _) (Nat.add_assoc _ _ _))⟩))); try go_wp2)
      go_ret
      exact ⟨rfl, pw_below_drewN hJ4.out.hb _⟩
    obtain ⟨Ar, cr, rfl⟩ := Kd.R_slice hJ.out.hr
    have k32 : wr.cell? ⟨g3, 2, none⟩ = some (.slice Ar (frRs l0 (frK l0) i).length cr) := (blk_cell hJ.out.b3 2).trans rfl
    have hRL := frRs_len l0 (frK l0) i
    have hJW := Aside0.mk (hJ.out.below (below_alloc (below_alloc (Below.refl wr.heap.size wr) (.cells #[.int .i64 (-1), .int .i64 (97 + (i : Int)), .int .i64 (97 + (i : Int))] 68)) (.cells #[.bool false, .slice (some ⟨wr.heap.size, 0, none⟩) 1 1] 58)))
    have hlv := Aside0.mk (fun k (hk : (Value.slice Ar (frRs l0 (frK l0) i).length cr).ownBlock = some k) => Kd.R_lt hJ.out.hr k hk)
    go_upto_region 19 with (first | ((with_reducible refine gate_builtin (b := .append) (xs := #[.tmp 67, .tmp 77]) rfl ?_); at_builtin; (refine Kd.R_append k55 (w0 := w) (W := ((wr.alloc (.cells #[.int .i64 (-1), .int .i64 (97 + (i : Int)), .int .i64 (97 + (i : Int))] 68)).alloc (.cells #[.bool false, .slice (some ⟨wr.heap.size, 0, none⟩) 1 1] 58))) w.heap.size rfl (.tmp 67) (.tmp 77) 23 55 (.agg #[.int .i64 0, .slice none 0 0]) 32 rfl Try.underlying23 (by kernel_rfl) rfl (by decide) (by decide) (.slice Ar (frRs l0 (frK l0) i).length cr) (frRs l0 (frK l0) i) (frR1 i) [.int .i64 ((i : Int) + 1), .slice (some ⟨wr.heap.size + 1, 0, none⟩) 1 1] (fun _ => True) (fun k => wr.heap.size ≤ k) (by first | rfl | (simp; done)) (by first | rfl | (simp; done) | (simp; rfl)) (fr_lit1 hJ.out.hb.size i) (fun k hk => ⟨trivial, fun e => by have := hlv.out k e.symm; omega⟩) (fun _ _ => trivial) hJW.out.hr hJW.out.hb hJW.out.hb.size (by omega) ?_); (intro v1 w4 hown hb4 hgr hat; clear hat; (obtain ⟨X1, hX1⟩ : ∃ X, X = frRs l0 (frK l0) i ++ [frR1 i] := ⟨_, rfl⟩); (rw [← hX1] at hown); have HX1 := Aside0.mk hX1; clear hX1; (obtain ⟨A1, c1, rfl⟩ := Kd.R_slice hown); have q3 := blk_grown hJW.out.b3 hgr (Kd.R_ne hJW.out.hr hJW.out.b3 (by decide)); have qv : w4.cell? ⟨g3, 2, none⟩ = some (.slice Ar (frRs l0 (frK l0) i).length cr) := (blk_cell q3 2).trans rfl; have qf := blk_frozen q3 2; have HJ1 := Aside0.mk (hJW.out.rule hgr hown); clear hown hb4 hgr q3)))
    clear k32 hJW hlv hJ qv qf
    generalize w4.setCell ⟨g3, 2, none⟩ (.slice A1 X1.length c1) = w5 at *
    obtain ⟨ad0, e0, y0⟩ := Kd.at_int (Kd.C_below HR0.out HJ1.out.hb) (i : Int) (by omega) (by omega)
    cases e0
    rw [Int.toNat_natCast] at y0
    have hbit : (Go.bits .and .i64 (rd l0 (i : Int)) 1 == 1) = frBit l0 i := rfl
    go_upto_if 85 with (fail)
    try rw [hbit]
    go_cut [] (fun wc => ∃ vr2, Aside0 (FrJ w wc g3 g7 vn vr2 (frNm (frK l0)) (frRs l0 (frK l0) (i + 1)) (frWant l0 i)))
    case first =>
     cases hb : frBit l0 i with
     | false =>
      have hX2 : X1 = frRs l0 (frK l0) (i + 1) := by rw [HX1.out]; exact frRs_f _ hb
      subst hX2
      go_wp2
      go_meet
      case rel => exact ⟨_, HJ1⟩
     | true =>
      have hX2 := Aside0.mk (show X1 ++ [frR2 i] = frRs l0 (frK l0) (i + 1) by rw [HX1.out]; exact frRs_t _ hb)
      have k32 : w5.cell? ⟨g3, 2, none⟩ = some (.slice A1 X1.length c1) := (blk_cell HJ1.out.b3 2).trans rfl
      have hJW := Aside0.mk (HJ1.out.below (below_alloc (Below.refl w5.heap.size w5) (.cells #[.bool false, .slice none 0 0] 58)))
      have hlv := Aside0.mk (fun k (hk : (Value.slice A1 X1.length c1).ownBlock = some k) => Kd.R_lt HJ1.out.hr k hk)
      have hRL2 : X1.length ≤ 2 * i + 2 := by rw [HX1.out, List.length_append, List.length_singleton]; omega
      go_wp2_with (first | ((with_reducible refine gate_builtin (b := .append) (xs := #[.tmp 87, .tmp 93]) rfl ?_); at_builtin; (refine Kd.R_append k55 (w0 := w) (W := (w5.alloc (.cells #[.bool false, .slice none 0 0] 58))) w.heap.size rfl (.tmp 87) (.tmp 93) 23 55 (.agg #[.int .i64 0, .slice none 0 0]) 32 rfl Try.underlying23 (by kernel_rfl) rfl (by decide) (by decide) (.slice A1 X1.length c1) X1 (frR2 i) [.int .i64 ((i : Int) + 1), .slice (some ⟨w5.heap.size, 0, none⟩) 1 1] (fun _ => True) (fun k => w5.heap.size ≤ k) (by first | rfl | (simp; done)) (by first | rfl | (simp; done) | (simp; rfl)) (fr_lit2 HJ1.out.hb.size i) (fun k hk => ⟨trivial, fun e => by have := hlv.out k e.symm; omega⟩) (fun _ _ => trivial) hJW.out.hr hJW.out.hb hJW.out.hb.size (by omega) ?_); (intro v2 w6 hown hb4 hgr hat; clear hat; (rw [hX2.out] at hown); (obtain ⟨X2, hX3⟩ : ∃ X, X = frRs l0 (frK l0) (i + 1) := ⟨_, rfl⟩); (rw [← hX3] at hown); have HX3 := Aside0.mk hX3; clear hX3; (obtain ⟨A2, c2, rfl⟩ := Kd.R_slice hown); have q3 := blk_grown hJW.out.b3 hgr (Kd.R_ne hJW.out.hr hJW.out.b3 (by decide)); have qv : w6.cell? ⟨g3, 2, none⟩ = some (.slice A1 X1.length c1) := (blk_cell q3 2).trans rfl; have qf := blk_frozen q3 2; have HJ2 := Aside0.mk (hJW.out.rule hgr hown); clear hown hb4 hgr q3)))
      go_meet
      case rel => exact ⟨_, ⟨by rw [← HX3.out]; exact HJ2.out⟩⟩
    case rest =>
    obtain ⟨vr2, hJ2⟩ := hcut
    clear HJ1 HX1 hRL
    go_upto_if 96 with (fail)
    go_cut [8] (fun v8 wc2 => v8 = .bool (frOpen l0 i) ∧ ∃ vr2, Aside0 (FrJ w wc2 g3 g7 vn vr2 (frNm (frK l0)) (frRs l0 (frK l0) (i + 1)) (frWant l0 (i + 1))))
    case first =>
     cases ho : frOpen l0 i with
     | false =>
      have hw : frWant l0 (i + 1) = frWant l0 i := by
       show (if frOpen l0 i = true then _ else _) = _
       rw [if_neg (by rw [ho]; decide)]
      have HW := Aside0.mk hw
      clear hw
      go_wp2
      go_meet
      case rel => exact ⟨by rw [ho], _, ⟨by rw [HW.out]; exact hJ2.out⟩⟩
     | true =>
      have HW := Aside0.mk (show frWant l0 (i + 1) = orS (frWant l0 i) (rangeS (97 + (i : Int)) (97 + (i : Int))) by
       show (if frOpen l0 i = true then _ else _) = _
       rw [if_pos ho])
      have HRg := Aside0.mk (show templeref1_Range.f (97 + (i : Int)) (97 + (i : Int)) = some ((rangeS (97 + (i : Int)) (97 + (i : Int))).f0, (rangeS (97 + (i : Int)) (97 + (i : Int))).f1, (rangeS (97 + (i : Int)) (97 + (i : Int))).f2, (rangeS (97 + (i : Int)) (97 + (i : Int))).f3, 0) by
       unfold templeref1_Range.f
       rw [if_pos (by omega)]
       rfl)
      generalize frWant l0 i = x at *
      generalize rangeS (97 + (i : Int)) (97 + (i : Int)) = y at *
      go_upto_region 23 with (first | (go_at_call 27; ((with_reducible refine (templeref1_Range.calls _ _ _ _ _ _ _ _ HRg.out).mono ?_); rintro e w6 ⟨rfl, hb6⟩; have HB6 := Aside0.mk hb6; clear hb6)))
      have hbx := Aside0.mk (blk_new w6 (.cells #[.int .u64 y.f0, .int .u64 y.f1, .int .u64 y.f2, .int .u64 y.f3] 63))
      have hJ6 := Aside0.mk (hJ2.out.below (below_alloc HB6.out (.cells #[.int .u64 y.f0, .int .u64 y.f1, .int .u64 y.f2, .int .u64 y.f3] 63)))
      have m0 : (w6.alloc (.cells #[.int .u64 y.f0, .int .u64 y.f1, .int .u64 y.f2, .int .u64 y.f3] 63)).cell? ⟨w6.heap.size, 0, none⟩ = some (.int .u64 y.f0) := (blk_cell hbx.out 0).trans rfl
      have m1 : (w6.alloc (.cells #[.int .u64 y.f0, .int .u64 y.f1, .int .u64 y.f2, .int .u64 y.f3] 63)).cell? ⟨w6.heap.size, 1, none⟩ = some (.int .u64 y.f1) := (blk_cell hbx.out 1).trans rfl
      have m2 : (w6.alloc (.cells #[.int .u64 y.f0, .int .u64 y.f1, .int .u64 y.f2, .int .u64 y.f3] 63)).cell? ⟨w6.heap.size, 2, none⟩ = some (.int .u64 y.f2) := (blk_cell hbx.out 2).trans rfl
      have m3 : (w6.alloc (.cells #[.int .u64 y.f0, .int .u64 y.f1, .int .u64 y.f2, .int .u64 y.f3] 63)).cell? ⟨w6.heap.size, 3, none⟩ = some (.int .u64 y.f3) := (blk_cell hbx.out 3).trans rfl
      clear HB6
      generalize (w6.alloc (.cells #[.int .u64 y.f0, .int .u64 y.f1, .int .u64 y.f2, .int .u64 y.f3] 63)) = w7 at *
      generalize w6.heap.size = g11 at *
      have x0 : w7.cell? ⟨g7, 0, none⟩ = some (.int .u64 x.f0) := (blk_cell hJ6.out.b7 0).trans rfl
      have x1 : w7.cell? ⟨g7, 1, none⟩ = some (.int .u64 x.f1) := (blk_cell hJ6.out.b7 1).trans rfl
      have x2 : w7.cell? ⟨g7, 2, none⟩ = some (.int .u64 x.f2) := (blk_cell hJ6.out.b7 2).trans rfl
      have x3 : w7.cell? ⟨g7, 3, none⟩ = some (.int .u64 x.f3) := (blk_cell hJ6.out.b7 3).trans rfl
      go_wp2_with (first | (go_at_call 26; ((with_reducible refine (templeref1_Mix.calls 0 x.f0 x.f1 x.f2 x.f3 y.f0 y.f1 y.f2 y.f3 (orS x y).f0 (orS x y).f1 (orS x y).f2 (orS x y).f3 _ (fr_mix x y)).mono ?_); rintro e w8 ⟨rfl, hb8⟩; have HJ8 := Aside0.mk (hJ6.out.below hb8); clear hb8); (have z0 : w8.cell? ⟨g7, 0, none⟩ = some (.int .u64 x.f0) := (blk_cell HJ8.out.b7 0).trans rfl; have z1 : w8.cell? ⟨g7, 1, none⟩ = some (.int .u64 x.f1) := (blk_cell HJ8.out.b7 1).trans rfl; have z2 : w8.cell? ⟨g7, 2, none⟩ = some (.int .u64 x.f2) := (blk_cell HJ8.out.b7 2).trans rfl; have z3 : w8.cell? ⟨g7, 3, none⟩ = some (.int .u64 x.f3) := (blk_cell HJ8.out.b7 3).trans rfl; have y0 := blk_frozen HJ8.out.b7 0; have y1 := blk_frozen HJ8.out.b7 1; have y2 := blk_frozen HJ8.out.b7 2; have y3 := blk_frozen HJ8.out.b7 3)))
      go_meet
      case rel => exact ⟨by rw [ho], _, ⟨by rw [HW.out]; exact HJ8.out.set (orS x y)⟩⟩
    case rest =>
    obtain ⟨rfl, vr3, hJ3⟩ := hcut
    clear hJ2
    have hop : frOpen l0 (i + 1) = (frOpen l0 i && frBit l0 i) := rfl
    have HOP := Aside0.mk hop
    clear hop
    obtain ⟨ad1, e1, y1⟩ := Kd.at_int (Kd.C_below HR0.out hJ3.out.hb) (i : Int) (by omega) (by omega)
    cases e1
    rw [Int.toNat_natCast] at y1
    clear y0
    cases ho : frOpen l0 i with
    | false =>
     go_wp2
     go_roundw
     case rel => exact ⟨i + 1, _, by omega, by go_num, by rw [HOP.out, ho]; rfl, hJ3⟩
     case measure => simp [intOf]; omega
    | true =>
     go_wp2
     go_roundw
     case rel => exact ⟨i + 1, _, by omega, by go_num, by rw [HOP.out, ho, Bool.true_and], hJ3⟩
     case measure => simp [intOf]; omega
  obtain ⟨An, cn, rfl⟩ := Kd.R_slice hI.out.hn
  rw [frNm_len] at hI
  have kvn : wr.cell? ⟨g3, 1, none⟩ = some (.slice An (i + 1) cn) := (blk_cell hI.out.b3 1).trans rfl
  have HD := Aside0.mk (frD_ev i (by omega))
  have hfd : (9223372036854775807 < 1 + (frD i).size) = False := eq_false (by have := frD_le i; omega)
  go_upto_region 9 with (fail)
  refine start_ (n := 9) (S := fun w' => w'.cell? ⟨g3, 1, none⟩ = some (.slice An (i + 1) cn)) (ds := [8]) #[false, false, false, false, false, false, false, false, false] (by kernel_rfl) rfl rfl (kvn) (fun hHeld => ?_)
  refine with_tabW fr9.tab9 fr9.bits9 (fun HT_ HW_ => ?_)
  have hId := Aside0.mk (hI.out.below (below_drew (Below.refl _ _)))
  generalize wr.drew = w0_ at hId hHeld ⊢
  refine pure_ (i := 0) (N := some 34) (v := ?_) (a' := ?_) #[true, false, false, false, false, false, false, false, false] rfl rfl (any_of HT_.out (by kernel_rfl)) (fun _ _ _ h => h) (Or.inl ⟨by rfl, ?_⟩) ?_ ?_
  rotate_left
  ·intro w'
   go_simp
   with_reducible rfl
  rotate_left
  ·simp only [Act.put, List.setIfInBounds_toArray, List.set_cons_zero, List.set_cons_succ, i64_w, i32_w]
   rfl
  refine pure_ (i := 2) (N := some 36) (v := ?_) (a' := ?_) #[true, false, true, false, false, false, false, false, false] rfl rfl (any_of HT_.out (by kernel_rfl)) (fun _ _ _ h => h) (Or.inl ⟨by rfl, ?_⟩) ?_ ?_
  rotate_left
  ·intro w'
   go_simp
   with_reducible rfl
  rotate_left
  ·simp only [Act.put, List.setIfInBounds_toArray, List.set_cons_zero, List.set_cons_succ, i64_w, i32_w]
   rfl
  refine take_ (i := 1) (N := some 35) (v := ?_) (a' := ?_) #[true, true, true, false, false, false, false, false, false] rfl rfl (take_ofW HT_.out HW_.out (by kernel_rfl)) (fun _ _ _ h => h) (Or.inl ⟨by rfl, ?_⟩) hHeld ?_ ?_
  rotate_left
  ·rintro w' s0
   go_simp
   with_reducible rfl
  rotate_left
  ·simp only [Act.put, List.setIfInBounds_toArray, List.set_cons_zero, List.set_cons_succ, i64_w, i32_w]
   rfl
  refine one_ (i := 3) (N := some 37) #[true, true, true, true, false, false, false, false, false] rfl rfl (one_of HT_.out (by kernel_rfl)) (by decide) (fun K hK => ?_)
  refine goes_ Try.func28 (by kernel_rfl) rfl #[.int .i64 (i : Int)] (by rfl) rfl rfl (by (try simp only [List.map_toArray, List.map_cons, List.map_nil]); first | done | rfl) ?_
  with_reducible refine (templeref0_Decimal.calls 6 (i : Int) (frD i) _ HD.out).mono ?_
  rintro e w2 ⟨rfl, hb⟩
  have hI2 := Aside0.mk (hId.out.below hb)
  refine ⟨_, rfl, ?_⟩
  refine hK.out _ _ (pw_cell_below hb hHeld) (fun hHeld => ?_)
  clear hK K
  refine norm_ (a' := ?_) ?_ ?_
  rotate_left
  ·show Act.put _ (some 37) _ = _
   simp only [Act.put, List.setIfInBounds_toArray, List.set_cons_zero, List.set_cons_succ, i64_w, i32_w]
   rfl
  refine pure_ (i := 4) (N := some 38) (v := ?_) (a' := ?_) #[true, true, true, true, true, false, false, false, false] rfl rfl (any_of HT_.out (by kernel_rfl)) (fun _ _ _ h => h) (Or.inl ⟨by rfl, ?_⟩) ?_ ?_
  rotate_left
  ·intro w'
   go_simp
   with_reducible rfl
  rotate_left
  ·simp only [Act.put, List.setIfInBounds_toArray, List.set_cons_zero, List.set_cons_succ, i64_w, i32_w]
   rfl
  refine one_ (i := 5) (N := some 39) #[true, true, true, true, true, true, false, false, false] rfl rfl (one_of HT_.out (by kernel_rfl)) (by decide) (fun K hK => ?_)
  refine value_ (w1 := ?_) (v := ?_) (by rfl) rfl ?_ ?_
  rotate_left 2
  ·go_simp
   constructor
   ·rfl
   ·rfl
  refine hK.out _ _ (pw_cell_below (below_alloc (Below.refl _ _) _) hHeld) (fun hHeld => ?_)
  clear hK K
  refine norm_ (a' := ?_) ?_ ?_
  rotate_left
  ·show Act.put _ (some 39) _ = _
   simp only [Act.put, List.setIfInBounds_toArray, List.set_cons_zero, List.set_cons_succ, i64_w, i32_w]
   rfl
  refine one_ (i := 6) (N := some 40) #[true, true, true, true, true, true, true, false, false] rfl rfl (one_of HT_.out (by kernel_rfl)) (by decide) (fun K hK => ?_)
  refine Kd.R_append_step Kd.string (w0 := w) (W := w2) w.heap.size (by rfl) (.tmp 35) (.tmp 39) 22 9 (.string ⟨#[]⟩) 16 rfl Try.underlying22 (by kernel_rfl) rfl (by decide) (by decide) (.slice An (i + 1) cn) (frNm i) (frN i) [.string (frN i)] (fun _ => True) (fun _ => False) (by first | rfl | (simp; done)) (by first | rfl | (simp; done) | (simp; rfl)) rfl (fun _ hk => hk.elim) (fun _ _ => trivial) hI2.out.hn hI2.out.hb hI2.out.hb.size (by rw [frNm_len]; omega) ?_
  intro v1 w4 hown hb4 hgr hat
  obtain ⟨A1, c1, rfl⟩ := Kd.R_slice hown
  rw [frNm_snoc] at hown ⊢
  rw [frNm_len] at hown ⊢
  have q3 := Aside0.mk (blk_grown hI2.out.b3 hgr (Kd.R_ne hI2.out.hn hI2.out.b3 (by decide)))
  have qv : w4.cell? ⟨g3, 1, none⟩ = some (.slice An (i + 1) cn) := (blk_cell q3.out 1).trans rfl
  have qf := blk_frozen q3.out 1
  have HP := Aside0.mk (hI2.out.name hgr hown)
  clear hown hb4 hgr hat
  refine hK.out _ _ (qv) (fun hHeld => ?_)
  clear hK K
  refine norm_ (a' := ?_) ?_ ?_
  rotate_left
  ·show Act.put _ (some 40) _ = _
   simp only [Act.put, List.setIfInBounds_toArray, List.set_cons_zero, List.set_cons_succ, i64_w, i32_w]
   rfl
  refine pure_ (i := 7) (N := some 41) (v := ?_) (a' := ?_) #[true, true, true, true, true, true, true, true, false] rfl rfl (any_of HT_.out (by kernel_rfl)) (fun _ _ _ h => h) (Or.inl ⟨by rfl, ?_⟩) ?_ ?_
  rotate_left
  ·intro w'
   go_simp
   with_reducible rfl
  rotate_left
  ·simp only [Act.put, List.setIfInBounds_toArray, List.set_cons_zero, List.set_cons_succ, i64_w, i32_w]
   rfl
  refine last_ (i := 8) (N := none) #[true, true, true, true, true, true, true, true, true] rfl rfl (one_of HT_.out (by kernel_rfl)) (by decide) (fun K hK => ?_)
  have q0 := hHeld
  refine skip_ (w1 := ?_) (by rfl) rfl ?_ ?_
  rotate_left
  ·go_simp
   rfl
  refine hK.out _ _ ?_
  clear hK K
  refine done_ (done_of HT_.out (by kernel_rfl)) ?_
  clear hHeld HT_ HW_ q0 qv qf q3 kvn hI2 hId hI
  generalize w4.setCell ⟨g3, 1, none⟩ (.slice A1 (i + 1 + 1) c1) = w3 at *
  have hI3 := HP
  clear HP
  obtain ⟨As, cs, rfl⟩ := Kd.R_slice hI3.out.hs
  rw [frSq_len] at hI3
  have k41 : w3.cell? ⟨g4, 1, none⟩ = some (.slice (some ⟨gC, 0, none⟩) 1 1) := (blk_cell hI3.out.b4 1).trans rfl
  have kC1 : w3.cell? ⟨gC, 1, none⟩ = some (.slice As i cs) := (blk_cell hI3.out.bC 1).trans rfl
  have ha1 : IntKind.i64.wrap ((i : Int) + 1) = ((i + 1 : Nat) : Int) := by rw [IntKind.wrap_i64]; omega
  go_upto_region 10 with (fail)
  refine start_ (n := 15) (S := fun w' => w'.cell? ⟨g4, 1, none⟩ = some (.slice (some ⟨gC, 0, none⟩) 1 1) ∧ w'.cell? ⟨gC, 1, none⟩ = some (.slice As i cs)) (ds := [14]) #[false, false, false, false, false, false, false, false, false, false, false, false, false, false, false] (by kernel_rfl) rfl rfl ⟨k41, kC1⟩ (fun hHeld => ?_)
  refine with_tabW fr10.tab10 fr10.bits10 (fun HT_ HW_ => ?_)
  have hId := Aside0.mk (hI3.out.below (below_drew (Below.refl _ _)))
  generalize w3.drew = w0_ at hId hHeld ⊢
  refine pure_ (i := 0) (N := some 42) (v := ?_) (a' := ?_) #[true, false, false, false, false, false, false, false, false, false, false, false, false, false, false] rfl rfl (any_of HT_.out (by kernel_rfl)) (fun _ _ _ h => h) (Or.inl ⟨by rfl, ?_⟩) ?_ ?_
  rotate_left
  ·intro w'
   go_simp
   with_reducible rfl
  rotate_left
  ·simp only [Act.put, List.setIfInBounds_toArray, List.set_cons_zero, List.set_cons_succ, i64_w, i32_w]
   rfl
  refine pure_ (i := 2) (N := some 44) (v := ?_) (a' := ?_) #[true, false, true, false, false, false, false, false, false, false, false, false, false, false, false] rfl rfl (any_of HT_.out (by kernel_rfl)) (fun _ _ _ h => h) (Or.inl ⟨by rfl, ?_⟩) ?_ ?_
  rotate_left
  ·intro w'
   go_simp
   with_reducible rfl
  rotate_left
  ·simp only [Act.put, List.setIfInBounds_toArray, List.set_cons_zero, List.set_cons_succ, i64_w, i32_w]
   rfl
  refine pure_ (i := 7) (N := some 49) (v := ?_) (a' := ?_) #[true, false, true, false, false, false, false, true, false, false, false, false, false, false, false] rfl rfl (any_of HT_.out (by kernel_rfl)) (fun _ _ _ h => h) (Or.inl ⟨by rfl, ?_⟩) ?_ ?_
  rotate_left
  ·intro w'
   go_simp
   with_reducible rfl
  rotate_left
  ·simp only [Act.put, List.setIfInBounds_toArray, List.set_cons_zero, List.set_cons_succ, i64_w, i32_w]
   rfl
  refine pure_ (i := 8) (N := some 50) (v := ?_) (a' := ?_) #[true, false, true, false, false, false, false, true, true, false, false, false, false, false, false] rfl rfl (any_of HT_.out (by kernel_rfl)) (fun _ _ _ h => h) (Or.inl ⟨by rfl, ?_⟩) ?_ ?_
  rotate_left
  ·intro w'
   go_simp
   with_reducible rfl
  rotate_left
  ·simp only [Act.put, List.setIfInBounds_toArray, List.set_cons_zero, List.set_cons_succ, i64_w, i32_w]
   rfl
  refine pure_ (i := 9) (N := some 51) (v := ?_) (a' := ?_) #[true, false, true, false, false, false, false, true, true, true, false, false, false, false, false] rfl rfl (any_of HT_.out (by kernel_rfl)) (fun _ _ _ h => h) (Or.inl ⟨by rfl, ?_⟩) ?_ ?_
  rotate_left
  ·intro w'
   go_simp
   with_reducible rfl
  rotate_left
  ·simp only [Act.put, List.setIfInBounds_toArray, List.set_cons_zero, List.set_cons_succ, i64_w, i32_w]
   rfl
  refine take_ (i := 1) (N := some 43) (v := ?_) (a' := ?_) #[true, true, true, false, false, false, false, true, true, true, false, false, false, false, false] rfl rfl (take_ofW HT_.out HW_.out (by kernel_rfl)) (fun _ _ _ h => h) (Or.inl ⟨by rfl, ?_⟩) hHeld ?_ ?_
  rotate_left
  ·rintro w' ⟨s0, s1⟩
   go_simp
   with_reducible rfl
  rotate_left
  ·simp only [Act.put, List.setIfInBounds_toArray, List.set_cons_zero, List.set_cons_succ, i64_w, i32_w]
   rfl
  refine take_ (i := 3) (N := some 45) (v := ?_) (a' := ?_) #[true, true, true, true, false, false, false, true, true, true, false, false, false, false, false] rfl rfl (take_ofW HT_.out HW_.out (by kernel_rfl)) (fun _ _ _ h => h) (Or.inl ⟨by rfl, ?_⟩) hHeld ?_ ?_
  rotate_left
  ·rintro w' ⟨s0, s1⟩
   go_simp
   with_reducible rfl
  rotate_left
  ·simp only [Act.put, List.setIfInBounds_toArray, List.set_cons_zero, List.set_cons_succ, i64_w, i32_w]
   rfl
  refine pure_ (i := 4) (N := some 46) (v := ?_) (a' := ?_) #[true, true, true, true, true, false, false, true, true, true, false, false, false, false, false] rfl rfl (any_of HT_.out (by kernel_rfl)) (fun _ _ _ h => h) (Or.inl ⟨by rfl, ?_⟩) ?_ ?_
  rotate_left
  ·intro w'
   go_simp
   with_reducible rfl
  rotate_left
  ·simp only [Act.put, List.setIfInBounds_toArray, List.set_cons_zero, List.set_cons_succ, i64_w, i32_w]
   rfl
  refine pure_ (i := 5) (N := some 47) (v := ?_) (a' := ?_) #[true, true, true, true, true, true, false, true, true, true, false, false, false, false, false] rfl rfl (any_of HT_.out (by kernel_rfl)) (fun _ _ _ h => h) (Or.inl ⟨by rfl, ?_⟩) ?_ ?_
  rotate_left
  ·intro w'
   go_simp
   with_reducible rfl
  rotate_left
  ·simp only [Act.put, List.setIfInBounds_toArray, List.set_cons_zero, List.set_cons_succ, i64_w, i32_w]
   rfl
  refine take_ (i := 6) (N := some 48) (v := ?_) (a' := ?_) #[true, true, true, true, true, true, true, true, true, true, false, false, false, false, false] rfl rfl (take_ofW HT_.out HW_.out (by kernel_rfl)) (fun _ _ _ h => h) (Or.inl ⟨by rfl, ?_⟩) hHeld ?_ ?_
  rotate_left
  ·rintro w' ⟨s0, s1⟩
   go_simp
   with_reducible rfl
  rotate_left
  ·simp only [Act.put, List.setIfInBounds_toArray, List.set_cons_zero, List.set_cons_succ, i64_w, i32_w]
   rfl
  refine one_ (i := 10) (N := some 52) #[true, true, true, true, true, true, true, true, true, true, true, false, false, false, false] rfl rfl (one_of HT_.out (by kernel_rfl)) (by decide) (fun K hK => ?_)
  refine value_ (w1 := ?_) (v := ?_) (by rfl) rfl ?_ ?_
  rotate_left 2
  ·go_simp
   constructor
   ·rfl
   ·rfl
  refine hK.out _ _ ⟨pw_cell_below (below_alloc (Below.refl _ _) _) hHeld.1, pw_cell_below (below_alloc (Below.refl _ _) _) hHeld.2⟩ (fun hHeld => ?_)
  clear hK K
  refine norm_ (a' := ?_) ?_ ?_
  rotate_left
  ·show Act.put _ (some 52) _ = _
   simp only [Act.put, List.setIfInBounds_toArray, List.set_cons_zero, List.set_cons_succ, i64_w, i32_w]
   rfl
  refine one_ (i := 11) (N := some 53) #[true, true, true, true, true, true, true, true, true, true, true, true, false, false, false] rfl rfl (one_of HT_.out (by kernel_rfl)) (by decide) (fun K hK => ?_)
  refine Kd.R_append_step k68 (w0 := w) (W := w0_) w.heap.size (by rfl) (.tmp 48) (.tmp 52) 56 68 (.agg #[.int .i64 0, .int .i64 0, .int .i64 0]) 24 rfl Try.underlying56 (by kernel_rfl) rfl (by decide) (by decide) (.slice As i cs) (frSq i) (⟨((i + 1 : Nat) : Int), 0, 0⟩ : S68) [.int .i64 ((i + 1 : Nat) : Int), .int .i64 0, .int .i64 0] (fun _ => True) (fun _ => False) (by first | rfl | (simp; done)) (by first | rfl | (simp; done) | (simp; rfl)) (k68_mkM _ _ _ (⟨((i + 1 : Nat) : Int), 0, 0⟩ : S68)) (fun _ hk => hk.elim) (fun _ _ => trivial) hId.out.hs hId.out.hb hId.out.hb.size (by rw [frSq_len]; omega) ?_
  intro v1 w4 hown hb4 hgr hat
  obtain ⟨A1, c1, rfl⟩ := Kd.R_slice hown
  rw [show frSq i ++ [(⟨((i + 1 : Nat) : Int), 0, 0⟩ : S68)] = frSq (i + 1) from (fr_snoc _ i).symm] at hown ⊢
  rw [frSq_len] at hown ⊢
  have qC := Aside0.mk (blk_grown hId.out.bC hgr (Kd.R_ne hId.out.hs hId.out.bC (by decide)))
  have q4 := (blk_cell (blk_grown hId.out.b4 hgr (Kd.R_ne hId.out.hs hId.out.b4 (by decide))) 1).trans rfl
  have qv : w4.cell? ⟨gC, 1, none⟩ = some (.slice As i cs) := (blk_cell qC.out 1).trans rfl
  have qf := blk_frozen qC.out 1
  have HP := Aside0.mk (hId.out.sym hgr hown)
  clear hown hb4 hgr hat
  refine hK.out _ _ ⟨q4, qv⟩ (fun hHeld => ?_)
  clear hK K
  refine norm_ (a' := ?_) ?_ ?_
  rotate_left
  ·show Act.put _ (some 53) _ = _
   simp only [Act.put, List.setIfInBounds_toArray, List.set_cons_zero, List.set_cons_succ, i64_w, i32_w]
   rfl
  refine pure_ (i := 12) (N := some 54) (v := ?_) (a' := ?_) #[true, true, true, true, true, true, true, true, true, true, true, true, true, false, false] rfl rfl (any_of HT_.out (by kernel_rfl)) (fun _ _ _ h => h) (Or.inl ⟨by rfl, ?_⟩) ?_ ?_
  rotate_left
  ·intro w'
   go_simp
   with_reducible rfl
  rotate_left
  ·simp only [Act.put, List.setIfInBounds_toArray, List.set_cons_zero, List.set_cons_succ, i64_w, i32_w]
   rfl
  refine pure_ (i := 13) (N := some 55) (v := ?_) (a' := ?_) #[true, true, true, true, true, true, true, true, true, true, true, true, true, true, false] rfl rfl (any_of HT_.out (by kernel_rfl)) (fun _ _ _ h => h) (Or.inl ⟨by rfl, ?_⟩) ?_ ?_
  rotate_left
  ·intro w'
   go_simp
   with_reducible rfl
  rotate_left
  ·simp only [Act.put, List.setIfInBounds_toArray, List.set_cons_zero, List.set_cons_succ, i64_w, i32_w]
   rfl
  refine last_ (i := 14) (N := none) #[true, true, true, true, true, true, true, true, true, true, true, true, true, true, true] rfl rfl (one_of HT_.out (by kernel_rfl)) (by decide) (fun K hK => ?_)
  have q0 := hHeld.1
  have q1 := hHeld.2
  refine skip_ (w1 := ?_) (by rfl) rfl ?_ ?_
  rotate_left
  ·go_simp
   rfl
  refine hK.out _ _ ?_
  clear hK K
  refine done_ (done_of HT_.out (by kernel_rfl)) ?_
  clear hHeld HT_ HW_ q0 q1 qv qf q4 qC k41 kC1 hId hI3 ha1
  go_wp2
  go_roundw
  case rel => exact ⟨i + 1, _, _, by omega, by go_num, HP⟩
  case measure => simp [intOf]; omega


end Go.Proofs.Ytpilkfodlhhjpaa.PFR
