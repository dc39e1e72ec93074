-- written by a program of the session's (wip/myprint.py) out of the translation
import Derived.Test.YtdjnpgigdchfkaaPGFx0
import Derived.Test.YtdjnpgigdchfkaaPGFx2
import Derived.Test.YtdjnpgigdchfkaaPGFx3
import Derived.Test.YtdjnpgigdchfkaaPGFx8
namespace Go.Proofs.Ytdjnpgigdchfkaa.PGF
open Go.RowKit Go.Proofs.YtdjnpgigdchfkaaW.PrintWords Go.Proofs.YtdjnpgigdchfkaaW.PrintLast Go.Proofs.YtdjnpgigdchfkaaW.PrintMore
attribute [local go_sem] max2_int min2_int max_two min_two max_three min_three max_four min_four   -- for this text's walks alone
set_option linter.unusedVariables false
set_option linter.unusedSimpArgs false

/-! ### templelaw4_GramForms: function 5 -/
structure TwoAt (w : World) (gN gS gC0 gC1 gR : Nat) : Prop where
 n : w.heap[gN]? = some (.cells #[.string ⟨#[83]⟩, .string ⟨#[88]⟩] 9 (0, 0))
 s : w.heap[gS]? = some (.cells #[.int .i64 (-1), .int .i64 5, .int .i64 9, .int .i64 1, .int .i64 0, .int .i64 0] 56 (0, 0))
 c0 : w.heap[gC0]? = some (.cells #[.bool false, .slice (some ⟨gS, 0, none⟩) 2 2] 54 (0, 0))
 c1 : w.heap[gC1]? = some (.cells #[.bool false, .slice none 0 0] 54 (0, 0))
 r : w.heap[gR]? = some (.cells #[.int .i64 0, .slice (some ⟨gC0, 0, none⟩) 1 1, .int .i64 1, .slice (some ⟨gC1, 0, none⟩) 1 1] 51 (0, 0))
def gfSy : List S56 := [⟨-1, 5, 9⟩, ⟨1, 0, 0⟩]
/-- A grammar of the form of Two, told part by part. -/
def gfR (h0 : Int) (s : List S56) (h1 : Int) (c1 : List S54) : List S51 := [⟨h0, [⟨false, s⟩]⟩, ⟨h1, c1⟩]
theorem gf_names {w : World} {g : Nat} {x y : ByteArray} (h : w.heap[g]? = some (.cells #[.string x, .string y] 9 (0, 0))) : Kd.C Kd.string w (some ⟨g, 0, none⟩) [x, y].length [x, y] := C_lit h (Reps.one rfl (Reps.one rfl (Reps.none _ _))) (by simp)
theorem gf_syms {w : World} {g : Nat} {a b c d e f : Int} (h : w.heap[g]? = some (.cells #[.int .i64 a, .int .i64 b, .int .i64 c, .int .i64 d, .int .i64 e, .int .i64 f] 56 (0, 0))) : Kd.C k56 w (some ⟨g, 0, none⟩) [(⟨a, b, c⟩ : S56), ⟨d, e, f⟩].length [⟨a, b, c⟩, ⟨d, e, f⟩] := C_lit h (Reps.c3 (k56_mk w ⟨a, b, c⟩) (Reps.c3 (k56_mk w ⟨d, e, f⟩) (Reps.none _ _))) (by simp)
theorem gf_conj {w : World} {g : Nat} {A : Option Addr} {n c : Nat} {s : List S56} (h : w.heap[g]? = some (.cells #[.bool false, .slice A n c] 54 (0, 0))) (hn : n = s.length) (hc : s.length ≤ c) (hs : Kd.C k56 w A s.length s) : Kd.C k54 w (some ⟨g, 0, none⟩) [(⟨false, s⟩ : S54)].length [⟨false, s⟩] := by
 subst hn
 exact C_lit h (Reps.c2 (k54_mk w ⟨false, s⟩ hc hs) (Reps.none _ _)) (by simp)
theorem gf_rules {w : World} {g : Nat} {h0 h1 : Int} {A B : Option Addr} {n c m d : Nat} {x y : List S54} (h : w.heap[g]? = some (.cells #[.int .i64 h0, .slice A n c, .int .i64 h1, .slice B m d] 51 (0, 0))) (hn : n = x.length) (hc : x.length ≤ c) (hx : Kd.C k54 w A x.length x) (hm : m = y.length) (hd : y.length ≤ d) (hy : Kd.C k54 w B y.length y) :
  Kd.C k51 w (some ⟨g, 0, none⟩) [(⟨h0, x⟩ : S51), ⟨h1, y⟩].length [⟨h0, x⟩, ⟨h1, y⟩] := by
 subst hn hm
 exact C_lit h (Reps.c2 (k51_mk w ⟨h0, x⟩ hc hx) (Reps.c2 (k51_mk w ⟨h1, y⟩ hd hy) (Reps.none _ _))) (by simp)
theorem C_front {α : Type} {d : Kd α} {w : World} {A : Option Addr} {x y : α} (h : Kd.C d w A [x, y].length [x, y]) : Kd.C d w A [x].length [x] := by
 obtain ⟨_, h2, h3⟩ := h
 obtain ⟨ad, hA, hc⟩ := h3 (by simp)
 exact ⟨rfl, by simp, fun _ => ⟨ad, hA, fun j p hp => hc j p (by
  have : j < 1 := (List.getElem?_eq_some_iff.1 hp).1
  obtain rfl : j = 0 := by omega
  simpa using hp)⟩⟩
theorem templelaw4_Two.at (w : World) : Calls Try.prog 21 #[] w fun e w' => ∃ gN gS gC0 gC1 gR, e = .returned (.agg #[.int .i64 0, .slice (some ⟨gN, 0, none⟩) 2 2, .slice (some ⟨gR, 0, none⟩) 2 2]) ∧ TwoAt w' gN gS gC0 gC1 gR ∧ w.heap.size < gN ∧ gN < gS ∧ gS < gC0 ∧ gC0 < gC1 ∧ gC1 < gR ∧ gR < w'.heap.size ∧ Below w.heap.size w w' := by
 go_enter Try.func21, Try.ntmps21
 go_wp2
 have m1 := (blk_alloc (blk_alloc (blk_alloc (blk_alloc (blk_new (w.alloc (.cells #[.int .i64 0, .slice (some ⟨w.heap.size + 1, 0, none⟩) 2 2, .slice (some ⟨w.heap.size + 1 + 1 + 1 + 1 + 1, 0, none⟩) 2 2] 28)) (.cells #[.string ⟨#[83]⟩, .string ⟨#[88]⟩] 9)) (.cells #[.int .i64 (-1), .int .i64 5, .int .i64 9, .int .i64 1, .int .i64 0, .int .i64 0] 56)) (.cells #[.bool false, .slice (some ⟨w.heap.size + 1 + 1, 0, none⟩) 2 2] 54)) (.cells #[.bool false, .slice none 0 0] 54)) (.cells #[.int .i64 0, .slice (some ⟨w.heap.size + 1 + 1 + 1, 0, none⟩) 1 1, .int .i64 1, .slice (some ⟨w.heap.size + 1 + 1 + 1 + 1, 0, none⟩) 1 1] 51))
 have e1 : (w.alloc (.cells #[.int .i64 0, .slice (some ⟨w.heap.size + 1, 0, none⟩) 2 2, .slice (some ⟨w.heap.size + 1 + 1 + 1 + 1 + 1, 0, none⟩) 2 2] 28)).heap.size = w.heap.size + 1 := by simp
 rw [e1] at m1
 clear e1
 have m2 := (blk_alloc (blk_alloc (blk_alloc (blk_new ((w.alloc (.cells #[.int .i64 0, .slice (some ⟨w.heap.size + 1, 0, none⟩) 2 2, .slice (some ⟨w.heap.size + 1 + 1 + 1 + 1 + 1, 0, none⟩) 2 2] 28)).alloc (.cells #[.string ⟨#[83]⟩, .string ⟨#[88]⟩] 9)) (.cells #[.int .i64 (-1), .int .i64 5, .int .i64 9, .int .i64 1, .int .i64 0, .int .i64 0] 56)) (.cells #[.bool false, .slice (some ⟨w.heap.size + 1 + 1, 0, none⟩) 2 2] 54)) (.cells #[.bool false, .slice none 0 0] 54)) (.cells #[.int .i64 0, .slice (some ⟨w.heap.size + 1 + 1 + 1, 0, none⟩) 1 1, .int .i64 1, .slice (some ⟨w.heap.size + 1 + 1 + 1 + 1, 0, none⟩) 1 1] 51))
 have e2 : ((w.alloc (.cells #[.int .i64 0, .slice (some ⟨w.heap.size + 1, 0, none⟩) 2 2, .slice (some ⟨w.heap.size + 1 + 1 + 1 + 1 + 1, 0, none⟩) 2 2] 28)).alloc (.cells #[.string ⟨#[83]⟩, .string ⟨#[88]⟩] 9)).heap.size = w.heap.size + 1 + 1 := by simp
 rw [e2] at m2
 clear e2
 have m3 := (blk_alloc (blk_alloc (blk_new (((w.alloc (.cells #[.int .i64 0, .slice (some ⟨w.heap.size + 1, 0, none⟩) 2 2, .slice (some ⟨w.heap.size + 1 + 1 + 1 + 1 + 1, 0, none⟩) 2 2] 28)).alloc (.cells #[.string ⟨#[83]⟩, .string ⟨#[88]⟩] 9)).alloc (.cells #[.int .i64 (-1), .int .i64 5, .int .i64 9, .int .i64 1, .int .i64 0, .int .i64 0] 56)) (.cells #[.bool false, .slice (some ⟨w.heap.size + 1 + 1, 0, none⟩) 2 2] 54)) (.cells #[.bool false, .slice none 0 0] 54)) (.cells #[.int .i64 0, .slice (some ⟨w.heap.size + 1 + 1 + 1, 0, none⟩) 1 1, .int .i64 1, .slice (some ⟨w.heap.size + 1 + 1 + 1 + 1, 0, none⟩) 1 1] 51))
 have e3 : (((w.alloc (.cells #[.int .i64 0, .slice (some ⟨w.heap.size + 1, 0, none⟩) 2 2, .slice (some ⟨w.heap.size + 1 + 1 + 1 + 1 + 1, 0, none⟩) 2 2] 28)).alloc (.cells #[.string ⟨#[83]⟩, .string ⟨#[88]⟩] 9)).alloc (.cells #[.int .i64 (-1), .int .i64 5, .int .i64 9, .int .i64 1, .int .i64 0, .int .i64 0] 56)).heap.size = w.heap.size + 1 + 1 + 1 := by simp
 rw [e3] at m3
 clear e3
 have m4 := (blk_alloc (blk_new ((((w.alloc (.cells #[.int .i64 0, .slice (some ⟨w.heap.size + 1, 0, none⟩) 2 2, .slice (some ⟨w.heap.size + 1 + 1 + 1 + 1 + 1, 0, none⟩) 2 2] 28)).alloc (.cells #[.string ⟨#[83]⟩, .string ⟨#[88]⟩] 9)).alloc (.cells #[.int .i64 (-1), .int .i64 5, .int .i64 9, .int .i64 1, .int .i64 0, .int .i64 0] 56)).alloc (.cells #[.bool false, .slice (some ⟨w.heap.size + 1 + 1, 0, none⟩) 2 2] 54)) (.cells #[.bool false, .slice none 0 0] 54)) (.cells #[.int .i64 0, .slice (some ⟨w.heap.size + 1 + 1 + 1, 0, none⟩) 1 1, .int .i64 1, .slice (some ⟨w.heap.size + 1 + 1 + 1 + 1, 0, none⟩) 1 1] 51))
 have e4 : ((((w.alloc (.cells #[.int .i64 0, .slice (some ⟨w.heap.size + 1, 0, none⟩) 2 2, .slice (some ⟨w.heap.size + 1 + 1 + 1 + 1 + 1, 0, none⟩) 2 2] 28)).alloc (.cells #[.string ⟨#[83]⟩, .string ⟨#[88]⟩] 9)).alloc (.cells #[.int .i64 (-1), .int .i64 5, .int .i64 9, .int .i64 1, .int .i64 0, .int .i64 0] 56)).alloc (.cells #[.bool false, .slice (some ⟨w.heap.size + 1 + 1, 0, none⟩) 2 2] 54)).heap.size = w.heap.size + 1 + 1 + 1 + 1 := by simp
 rw [e4] at m4
 clear e4
 have m5 := (blk_new (((((w.alloc (.cells #[.int .i64 0, .slice (some ⟨w.heap.size + 1, 0, none⟩) 2 2, .slice (some ⟨w.heap.size + 1 + 1 + 1 + 1 + 1, 0, none⟩) 2 2] 28)).alloc (.cells #[.string ⟨#[83]⟩, .string ⟨#[88]⟩] 9)).alloc (.cells #[.int .i64 (-1), .int .i64 5, .int .i64 9, .int .i64 1, .int .i64 0, .int .i64 0] 56)).alloc (.cells #[.bool false, .slice (some ⟨w.heap.size + 1 + 1, 0, none⟩) 2 2] 54)).alloc (.cells #[.bool false, .slice none 0 0] 54)) (.cells #[.int .i64 0, .slice (some ⟨w.heap.size + 1 + 1 + 1, 0, none⟩) 1 1, .int .i64 1, .slice (some ⟨w.heap.size + 1 + 1 + 1 + 1, 0, none⟩) 1 1] 51))
 have e5 : (((((w.alloc (.cells #[.int .i64 0, .slice (some ⟨w.heap.size + 1, 0, none⟩) 2 2, .slice (some ⟨w.heap.size + 1 + 1 + 1 + 1 + 1, 0, none⟩) 2 2] 28)).alloc (.cells #[.string ⟨#[83]⟩, .string ⟨#[88]⟩] 9)).alloc (.cells #[.int .i64 (-1), .int .i64 5, .int .i64 9, .int .i64 1, .int .i64 0, .int .i64 0] 56)).alloc (.cells #[.bool false, .slice (some ⟨w.heap.size + 1 + 1, 0, none⟩) 2 2] 54)).alloc (.cells #[.bool false, .slice none 0 0] 54)).heap.size = w.heap.size + 1 + 1 + 1 + 1 + 1 := by simp
 rw [e5] at m5
 clear e5
 have m0 := (blk_alloc (blk_alloc (blk_alloc (blk_alloc (blk_alloc (blk_new w (.cells #[.int .i64 0, .slice (some ⟨w.heap.size + 1, 0, none⟩) 2 2, .slice (some ⟨w.heap.size + 1 + 1 + 1 + 1 + 1, 0, none⟩) 2 2] 28)) (.cells #[.string ⟨#[83]⟩, .string ⟨#[88]⟩] 9)) (.cells #[.int .i64 (-1), .int .i64 5, .int .i64 9, .int .i64 1, .int .i64 0, .int .i64 0] 56)) (.cells #[.bool false, .slice (some ⟨w.heap.size + 1 + 1, 0, none⟩) 2 2] 54)) (.cells #[.bool false, .slice none 0 0] 54)) (.cells #[.int .i64 0, .slice (some ⟨w.heap.size + 1 + 1 + 1, 0, none⟩) 1 1, .int .i64 1, .slice (some ⟨w.heap.size + 1 + 1 + 1 + 1, 0, none⟩) 1 1] 51))
 have hb := below_alloc (below_alloc (below_alloc (below_alloc (below_alloc (below_alloc (Below.refl w.heap.size w) (.cells #[.int .i64 0, .slice (some ⟨w.heap.size + 1, 0, none⟩) 2 2, .slice (some ⟨w.heap.size + 1 + 1 + 1 + 1 + 1, 0, none⟩) 2 2] 28)) (.cells #[.string ⟨#[83]⟩, .string ⟨#[88]⟩] 9)) (.cells #[.int .i64 (-1), .int .i64 5, .int .i64 9, .int .i64 1, .int .i64 0, .int .i64 0] 56)) (.cells #[.bool false, .slice (some ⟨w.heap.size + 1 + 1, 0, none⟩) 2 2] 54)) (.cells #[.bool false, .slice none 0 0] 54)) (.cells #[.int .i64 0, .slice (some ⟨w.heap.size + 1 + 1 + 1, 0, none⟩) 1 1, .int .i64 1, .slice (some ⟨w.heap.size + 1 + 1 + 1 + 1, 0, none⟩) 1 1] 51)
 have hs : ((((((w.alloc (.cells #[.int .i64 0, .slice (some ⟨w.heap.size + 1, 0, none⟩) 2 2, .slice (some ⟨w.heap.size + 1 + 1 + 1 + 1 + 1, 0, none⟩) 2 2] 28)).alloc (.cells #[.string ⟨#[83]⟩, .string ⟨#[88]⟩] 9)).alloc (.cells #[.int .i64 (-1), .int .i64 5, .int .i64 9, .int .i64 1, .int .i64 0, .int .i64 0] 56)).alloc (.cells #[.bool false, .slice (some ⟨w.heap.size + 1 + 1, 0, none⟩) 2 2] 54)).alloc (.cells #[.bool false, .slice none 0 0] 54)).alloc (.cells #[.int .i64 0, .slice (some ⟨w.heap.size + 1 + 1 + 1, 0, none⟩) 1 1, .int .i64 1, .slice (some ⟨w.heap.size + 1 + 1 + 1 + 1, 0, none⟩) 1 1] 51)).heap.size = w.heap.size + 1 + 1 + 1 + 1 + 1 + 1 := by simp
 refine bodyPost_ret (results_cell_row rfl _ _ w.heap.size 28 #[.int .i64 0, .slice (some ⟨w.heap.size + 1, 0, none⟩) 2 2, .slice (some ⟨w.heap.size + 1 + 1 + 1 + 1 + 1, 0, none⟩) 2 2] (0, 0) _ rfl m0 Try.underlying28 rfl (by kernel_rfl)) rfl ?_
 exact ⟨_, _, _, _, _, rfl, ⟨m1, m2, m3, m4, m5⟩, by omega, by omega, by omega, by omega, by omega, by rw [hs]; omega, hb⟩
def gfr12.T12 : Bool × List (List Nat × List Nat) := (true, [([], []), ([0], [0]), ([], []), ([], []), ([3], [3]), ([2, 4], [2, 4]), ([5], [5]), ([1, 0, 1, 2, 3, 4, 5, 6], [1]), ([7, 6, 0, 1, 2, 3, 4, 5, 6], [6, 7])])
def gfr12.B12 : List Nat := [0, 1, 0, 0, 8, 28, 60, 127, 255]
theorem gfr12.tab12 : rtab .any (opsOf Try.f5 12) = gfr12.T12 := by kernel_rfl
theorem gfr12.bits12 : waitsOk gfr12.T12.2 gfr12.B12 = true := by kernel_rfl
def gfr26.T26 : Bool × List (List Nat × List Nat) := (true, [([], []), ([0], [0]), ([], []), ([2], [2]), ([3, 3], [3]), ([1, 0, 1, 2, 3, 4], [1]), ([5, 0, 1, 2, 3, 4], [5]), ([6, 4, 0, 1, 2, 3, 4], [4, 6])])
def gfr26.B26 : List Nat := [0, 1, 0, 4, 12, 31, 63, 127]
theorem gfr26.tab26 : rtab .any (opsOf Try.f5 26) = gfr26.T26 := by kernel_rfl
theorem gfr26.bits26 : waitsOk gfr26.T26.2 gfr26.B26 = true := by kernel_rfl
def gfr28.T28 : Bool × List (List Nat × List Nat) := (true, [([], []), ([0], [0]), ([1], [1]), ([2], [2]), ([3], [3]), ([], []), ([5], [5]), ([6, 6], [6]), ([4, 0, 1, 2, 3, 4, 5, 6, 7], [4]), ([8, 0, 1, 2, 3, 4, 5, 6, 7], [8]), ([9, 7, 0, 1, 2, 3, 4, 5, 6, 7], [7, 9])])
def gfr28.B28 : List Nat := [0, 1, 3, 7, 15, 0, 32, 96, 255, 511, 1023]
theorem gfr28.tab28 : rtab .any (opsOf Try.f5 28) = gfr28.T28 := by kernel_rfl
theorem gfr28.bits28 : waitsOk gfr28.T28.2 gfr28.B28 = true := by kernel_rfl
def gfNm (d : Int) : ByteArray := [(⟨#[115, 116, 97, 114, 116]⟩ : ByteArray), ⟨#[]⟩, ⟨#[57]⟩, ⟨#[97, 45, 98]⟩, ⟨#[195, 169]⟩].getD (d.tmod 5).toNat ⟨#[]⟩
/-- The grammar's form, and one part of it that may not be. -/
def gfForm (m d : Int) : Int × List ByteArray × List S51 :=
 if m = 0 then (0, [], [⟨0, [⟨false, [⟨-1, 5, 9⟩, ⟨1, 0, 0⟩]⟩]⟩, ⟨1, [⟨false, []⟩]⟩]) else
 if m = 1 then (0, [⟨#[83]⟩, ⟨#[83]⟩], [⟨0, [⟨false, [⟨-1, 5, 9⟩, ⟨1, 0, 0⟩]⟩]⟩, ⟨1, [⟨false, []⟩]⟩]) else
 if m = 2 then (0, [gfNm d, ⟨#[88]⟩], [⟨0, [⟨false, [⟨-1, 5, 9⟩, ⟨1, 0, 0⟩]⟩]⟩, ⟨1, [⟨false, []⟩]⟩]) else
 if m = 3 then ((-d), [⟨#[83]⟩, ⟨#[88]⟩], [⟨0, [⟨false, [⟨-1, 5, 9⟩, ⟨1, 0, 0⟩]⟩]⟩, ⟨1, [⟨false, []⟩]⟩]) else
 if m = 4 then ((1 + d), [⟨#[83]⟩, ⟨#[88]⟩], [⟨0, [⟨false, [⟨-1, 5, 9⟩, ⟨1, 0, 0⟩]⟩]⟩, ⟨1, [⟨false, []⟩]⟩]) else
 if m = 5 then (0, [⟨#[83]⟩, ⟨#[88]⟩], [⟨0, [⟨false, [⟨-1, 5, 9⟩, ⟨1, 0, 0⟩]⟩]⟩]) else
 if m = 6 then (0, [⟨#[83]⟩, ⟨#[88]⟩], [⟨1, [⟨false, [⟨-1, 5, 9⟩, ⟨1, 0, 0⟩]⟩]⟩, ⟨1, [⟨false, []⟩]⟩]) else
 if m = 7 then (0, [⟨#[83]⟩, ⟨#[88]⟩], [⟨0, [⟨false, [⟨-1, 5, 9⟩, ⟨1, 0, 0⟩]⟩]⟩, ⟨(1 + d), [⟨false, []⟩]⟩]) else
 if m = 8 then (0, [⟨#[83]⟩, ⟨#[88]⟩], [⟨0, [⟨false, [⟨-1, 5, 9⟩, ⟨1, 0, 0⟩]⟩]⟩, ⟨1, []⟩]) else
 if m = 9 then (0, [⟨#[83]⟩, ⟨#[88]⟩], [⟨0, [⟨false, [⟨-1, 5, 9⟩, ⟨1, 0, 0⟩]⟩]⟩, ⟨1, (List.replicate (8 + d).toNat ⟨false, []⟩)⟩]) else
 if m = 10 then (0, [⟨#[83]⟩, ⟨#[88]⟩], [⟨0, [⟨false, [⟨-1, 5, 9⟩, ⟨1, 0, 0⟩]⟩]⟩, ⟨1, [⟨false, List.replicate (64 + d).toNat ⟨0, 0, 0⟩⟩]⟩]) else
 if m = 11 then (0, [⟨#[83]⟩, ⟨#[88]⟩], [⟨0, [⟨false, [⟨-1, 9 + d, 9⟩, ⟨1, 0, 0⟩]⟩]⟩, ⟨1, [⟨false, []⟩]⟩]) else
 if m = 12 then (0, [⟨#[83]⟩, ⟨#[88]⟩], [⟨0, [⟨false, [⟨-1, 5, 255 + d⟩, ⟨1, 0, 0⟩]⟩]⟩, ⟨1, [⟨false, []⟩]⟩]) else
 if m = 13 then (0, [⟨#[83]⟩, ⟨#[88]⟩], [⟨0, [⟨false, [⟨-1, -d, 9⟩, ⟨1, 0, 0⟩]⟩]⟩, ⟨1, [⟨false, []⟩]⟩]) else
 if m = 14 then (0, [⟨#[83]⟩, ⟨#[88]⟩], [⟨0, [⟨false, [⟨-1, 5, 9⟩, ⟨1 + d, 0, 0⟩]⟩]⟩, ⟨1, [⟨false, []⟩]⟩]) else
 if m = 15 then (0, [⟨#[83]⟩, ⟨#[88]⟩], [⟨0, [⟨false, [⟨-1, 5, 9⟩, ⟨1, 0, d⟩]⟩]⟩, ⟨1, [⟨false, []⟩]⟩]) else
 if m = 16 then (0, [⟨#[83]⟩, ⟨#[88]⟩], [⟨0, [⟨false, [⟨-1, 5, 9⟩, ⟨-1 - d, 0, 0⟩]⟩]⟩, ⟨1, [⟨false, []⟩]⟩]) else
 (0, [⟨#[83]⟩, ⟨#[88]⟩], [⟨(-d), [⟨false, [⟨-1, 5, 9⟩, ⟨1, 0, 0⟩]⟩]⟩, ⟨1, [⟨false, []⟩]⟩])
def gfTwo : List S51 := [⟨0, [⟨false, [⟨-1, 5, 9⟩, ⟨1, 0, 0⟩]⟩]⟩, ⟨1, [⟨false, []⟩]⟩]
def gfOk (m d : Int) : Bool := mayB 0 [⟨#[83]⟩, ⟨#[88]⟩] gfTwo && !mayB (gfForm m d).1 (gfForm m d).2.1 (gfForm m d).2.2
def templelaw4_GramForms.f (k : Nat) (a0 a1 : Int) : Option (Bool) :=
 (templelaw4_awake.f k).bind fun z => if z = true then
  if 0 ≤ Go.bits .and .i64 a1 63 ∧ Go.bits .and .i64 a1 63 ≤ 63 ∧ 0 ≤ (IntKind.u64.wrap a0).tmod 18 ∧ (IntKind.u64.wrap a0).tmod 18 ≤ 17 ∧ gfOk ((IntKind.u64.wrap a0).tmod 18) (1 + Go.bits .and .i64 a1 63) = true then some true else none
 else none
theorem templelaw4_GramForms.mono : ∀ a0 a1 k, LeO (templelaw4_GramForms.f k a0 a1) (templelaw4_GramForms.f (k + 1) a0 a1) := by
 intro a0 a1 k
 unfold templelaw4_GramForms.f
 exact LeO.bind (templelaw4_awake.mono _) (fun _ => LeO.refl _)
theorem gf_list (j : Int) (h : j = 0 ∨ j = 1 ∨ j = 2 ∨ j = 3 ∨ j = 4) (hh : j.toNat < 5) : ([.string ⟨#[115, 116, 97, 114, 116]⟩, .string ⟨#[]⟩, .string ⟨#[57]⟩, .string ⟨#[97, 45, 98]⟩, .string ⟨#[195, 169]⟩] : List Value)[j.toNat]'hh = .string ([(⟨#[115, 116, 97, 114, 116]⟩ : ByteArray), ⟨#[]⟩, ⟨#[57]⟩, ⟨#[97, 45, 98]⟩, ⟨#[195, 169]⟩].getD j.toNat ⟨#[]⟩) := by
 rcases h with rfl | rfl | rfl | rfl | rfl <;> rfl
theorem gf_num : templelaw0_Num.f 0 = some 0 := rfl
set_option maxHeartbeats 20000000 in
set_option maxRecDepth 100000 in
theorem templelaw4_GramForms.calls (k : Nat) (a0 a1 : Int) (r : Bool) (w : World) (h : templelaw4_GramForms.f k a0 a1 = some r) :
  Calls Try.prog 5 #[.int .i64 a0, .int .i64 a1] w fun e w' => e = .returned (.bool r) ∧ Below w.heap.size w w' := by
 unfold templelaw4_GramForms.f at h
 replace h := Option.bind_eq_some_iff.1 h
 obtain ⟨z, hz, h⟩ := h
 cases z with
 | false => rw [if_neg (by decide)] at h; cases h
 | true =>
 rw [if_pos rfl] at h
 by_cases hp : 0 ≤ Go.bits .and .i64 a1 63 ∧ Go.bits .and .i64 a1 63 ≤ 63 ∧ 0 ≤ (IntKind.u64.wrap a0).tmod 18 ∧ (IntKind.u64.wrap a0).tmod 18 ≤ 17 ∧ gfOk ((IntKind.u64.wrap a0).tmod 18) (1 + Go.bits .and .i64 a1 63) = true
 case neg => rw [if_neg hp] at h; cases h
 rw [if_pos hp] at h
 obtain rfl := Option.some.inj h
 obtain ⟨d1, d2, m1, m2, hok⟩ := hp
 have FZ := Aside0.mk hz
 have FO := Aside0.mk hok
 clear hz hok h
 go_enter Try.func5, Try.ntmps5
 go_upto_region 7 with (first | (go_at_call 20; (with_reducible refine (templelaw4_awake.calls k true _ FZ.out).mono ?_); rintro e w1 ⟨rfl, hb1⟩; have HB1 := Aside0.mk hb1; clear hb1) | (go_at_call 21; (with_reducible refine (templelaw4_Two.at _).mono ?_); rintro e w2 ⟨gN, gS, gC0, gC1, gR, rfl, ht, o1, o2, o3, o4, o5, o6, hb2⟩; have HT := Aside0.mk (And.intro ht hb2); clear ht hb2))
 have hb := HB1.out.trans ((HT.out.2.mono HB1.out.size).trans ((below_alloc (Below.refl w2.heap.size w2) (.cells #[.int .i64 0, .slice (some ⟨gN, 0, none⟩) 2 2, .slice (some ⟨gR, 0, none⟩) 2 2] 28)).mono (Nat.le_trans HB1.out.size HT.out.2.size)))
 have fN := blk_alloc HT.out.1.n (.cells #[.int .i64 0, .slice (some ⟨gN, 0, none⟩) 2 2, .slice (some ⟨gR, 0, none⟩) 2 2] 28)
 have fS := blk_alloc HT.out.1.s (.cells #[.int .i64 0, .slice (some ⟨gN, 0, none⟩) 2 2, .slice (some ⟨gR, 0, none⟩) 2 2] 28)
 have fC0 := blk_alloc HT.out.1.c0 (.cells #[.int .i64 0, .slice (some ⟨gN, 0, none⟩) 2 2, .slice (some ⟨gR, 0, none⟩) 2 2] 28)
 have fC1 := blk_alloc HT.out.1.c1 (.cells #[.int .i64 0, .slice (some ⟨gN, 0, none⟩) 2 2, .slice (some ⟨gR, 0, none⟩) 2 2] 28)
 have fR := blk_alloc HT.out.1.r (.cells #[.int .i64 0, .slice (some ⟨gN, 0, none⟩) 2 2, .slice (some ⟨gR, 0, none⟩) 2 2] 28)
 have fG := blk_new w2 (.cells #[.int .i64 0, .slice (some ⟨gN, 0, none⟩) 2 2, .slice (some ⟨gR, 0, none⟩) 2 2] 28)
 have o0 : w.heap.size < gN := Nat.lt_of_le_of_lt HB1.out.size o1
 have HF := Aside0.mk (And.intro fN (And.intro fS (And.intro fC0 (And.intro fC1 (And.intro fR (And.intro fG hb))))))
 clear fN fS fC0 fC1 fR fG hb HT HB1 o1
 generalize w2.alloc (.cells #[.int .i64 0, .slice (some ⟨gN, 0, none⟩) 2 2, .slice (some ⟨gR, 0, none⟩) 2 2] 28) = W at *
 generalize w2.heap.size = gG at *
 have hd1 : 1 ≤ 1 + Go.bits .and .i64 a1 63 := by omega
 have hd2 : 1 + Go.bits .and .i64 a1 63 ≤ 64 := by omega
 clear d1 d2
 generalize 1 + Go.bits .and .i64 a1 63 = d at *
 generalize (IntKind.u64.wrap a0).tmod 18 = m at *
 have hm : m = 0 ∨ m = 1 ∨ m = 2 ∨ m = 3 ∨ m = 4 ∨ m = 5 ∨ m = 6 ∨ m = 7 ∨ m = 8 ∨ m = 9 ∨ m = 10 ∨ m = 11 ∨ m = 12 ∨ m = 13 ∨ m = 14 ∨ m = 15 ∨ m = 16 ∨ m = 17 := by omega
 clear m1 m2
 rcases hm with hm | hm | hm | hm | hm | hm | hm | hm | hm | hm | hm | hm | hm | hm | hm | hm | hm | hm
 ·subst hm
  have k0 : W.cell? ⟨gG, 1, none⟩ = some (.slice (some ⟨gN, 0, none⟩) 2 2) := (blk_cell HF.out.2.2.2.2.2.1 1).trans rfl
  have kf := blk_frozen HF.out.2.2.2.2.2.1 1
  go_upto_region 41 with (fail)
  have nN := blk_far HF.out.1 (p := ⟨gG, 1, none⟩) (by show gN ≠ gG; omega) (.slice none 0 0)
  have nS := blk_far HF.out.2.1 (p := ⟨gG, 1, none⟩) (by show gS ≠ gG; omega) (.slice none 0 0)
  have nC0 := blk_far HF.out.2.2.1 (p := ⟨gG, 1, none⟩) (by show gC0 ≠ gG; omega) (.slice none 0 0)
  have nC1 := blk_far HF.out.2.2.2.1 (p := ⟨gG, 1, none⟩) (by show gC1 ≠ gG; omega) (.slice none 0 0)
  have nR := blk_far HF.out.2.2.2.2.1 (p := ⟨gG, 1, none⟩) (by show gR ≠ gG; omega) (.slice none 0 0)
  have nG := blk_put HF.out.2.2.2.2.2.1 1 (.slice none 0 0) rfl
  have hbB := HF.out.2.2.2.2.2.2.setCell (p := ⟨gG, 1, none⟩) (by show w.heap.size ≤ gG; omega) (.slice none 0 0)
  have cn := Kd.C_nil Kd.string (W.setCell ⟨gG, 1, none⟩ (.slice none 0 0))
  have cs := gf_syms nS
  have cc0 := gf_conj nC0 rfl (Nat.le_refl _) cs
  have cc1 := gf_conj nC1 rfl (Nat.le_refl _) (Kd.C_nil k56 (W.setCell ⟨gG, 1, none⟩ (.slice none 0 0)))
  have cr := gf_rules nR rfl (Nat.le_refl _) cc0 rfl (Nat.le_refl _) cc1
  have hform : gfForm 0 d = (0, [], [⟨0, [⟨false, [⟨-1, 5, 9⟩, ⟨1, 0, 0⟩]⟩]⟩, ⟨1, [⟨false, []⟩]⟩]) := rfl
  have hMB : gram_May.f (0) ([]) ([⟨0, [⟨false, [⟨-1, 5, 9⟩, ⟨1, 0, 0⟩]⟩]⟩, ⟨1, [⟨false, []⟩]⟩]) = some false := by
   have h9 := FO.out
   unfold gfOk at h9
   rw [hform, Bool.and_eq_true, Bool.not_eq_true'] at h9
   unfold gram_May.f
   exact congrArg some h9.2
  have hMA : gram_May.f 0 [⟨#[83]⟩, ⟨#[88]⟩] gfTwo = some true := by
   have h9 := FO.out
   unfold gfOk at h9
   rw [Bool.and_eq_true] at h9
   unfold gram_May.f
   exact congrArg some h9.1
  have X := Aside0.mk (And.intro cn (And.intro cr (And.intro hbB (And.intro nG (And.intro hMA hMB)))))
  clear cn cs cc0 cc1 cr hbB nN nS nC0 nC1 nR nG hMA hMB hform FO HF hd1 hd2 FZ kf k0
  have hgG : gG < (W.setCell ⟨gG, 1, none⟩ (.slice none 0 0)).heap.size := blk_lt X.out.2.2.2.1
  generalize W.setCell ⟨gG, 1, none⟩ (.slice none 0 0) = W9 at *
  have hcs : ∀ w', Below W9.heap.size W9 w' → w'.cell? ⟨gG, 0, none⟩ = some (.int .i64 0) ∧ w'.cell? ⟨gG, 1, none⟩ = some (.slice none 0 0) ∧ w'.cell? ⟨gG, 2, none⟩ = some (.slice (some ⟨gR, 0, none⟩) 2 2) := fun w' h => ⟨(blk_cell ((h.block gG hgG).trans X.out.2.2.2.1) 0).trans rfl, (blk_cell ((h.block gG hgG).trans X.out.2.2.2.1) 1).trans rfl, (blk_cell ((h.block gG hgG).trans X.out.2.2.2.1) 2).trans rfl⟩
  go_wp2_with (first | (go_at_call 17; refine (gram_May.calls (0) none 0 ([]) _ 2 ([⟨0, [⟨false, [⟨-1, 5, 9⟩, ⟨1, 0, 0⟩]⟩]⟩, ⟨1, [⟨false, []⟩]⟩]) false _ (Kd.C_below X.out.1 hb4.out) (Nat.le_refl _) (Kd.C_below X.out.2.1 hb4.out) (by simp) X.out.2.2.2.2.2).mono ?_; rintro e w5 ⟨rfl, hq⟩; have hb5 := Aside0.mk hq; clear hq) | (go_at_call 17; refine (gram_May.calls 0 _ 2 [⟨#[83]⟩, ⟨#[88]⟩] _ 2 gfTwo true _ Y.out.1 (Nat.le_refl _) Y.out.2.1 (Nat.le_refl _) X.out.2.2.2.2.1).mono ?_; rintro e w4 ⟨rfl, hq⟩; have hb4 := Aside0.mk (Y.out.2.2.trans (hq.mono Y.out.2.2.size)); clear hq; (obtain ⟨j0, j1, j2⟩ := hcs w4 hb4.out)) | (go_at_call 21; (with_reducible refine (templelaw4_Two.at _).mono ?_); rintro e w3 ⟨hN, hS, hC0, hC1, hR, rfl, ht, _, _, _, _, _, _, hb3⟩; have Y := Aside0.mk (And.intro (gf_names ht.n) (And.intro (gf_rules ht.r rfl (by decide) (gf_conj ht.c0 rfl (by decide) (gf_syms ht.s)) rfl (by decide) (gf_conj ht.c1 rfl (Nat.le_refl _) (Kd.C_nil k56 w3))) hb3)); clear ht hb3) | (go_at_call 14; (with_reducible refine (templelaw0_Num.calls 0 0 _ gf_num).mono ?_); rintro e w' ⟨rfl, ⟨nd, rfl⟩⟩))
  go_ret
  exact ⟨rfl, pw_below_drewN (X.out.2.2.1.trans ((hb4.out.trans (hb5.out.mono hb4.out.size)).mono X.out.2.2.1.size)) _⟩
 ·subst hm
  have k0 : W.cell? ⟨gG, 1, none⟩ = some (.slice (some ⟨gN, 0, none⟩) 2 2) := (blk_cell HF.out.2.2.2.2.2.1 1).trans rfl
  have k1 : W.cell? ⟨gN, 1, none⟩ = some (.string ⟨#[88]⟩) := (blk_cell HF.out.1 1).trans rfl
  have kf := blk_frozen HF.out.1 1
  go_upto_region 41 with (fail)
  have nN := blk_put HF.out.1 1 (.string ⟨#[83]⟩) rfl
  have nS := blk_far HF.out.2.1 (p := ⟨gN, 1, none⟩) (by show gS ≠ gN; omega) (.string ⟨#[83]⟩)
  have nC0 := blk_far HF.out.2.2.1 (p := ⟨gN, 1, none⟩) (by show gC0 ≠ gN; omega) (.string ⟨#[83]⟩)
  have nC1 := blk_far HF.out.2.2.2.1 (p := ⟨gN, 1, none⟩) (by show gC1 ≠ gN; omega) (.string ⟨#[83]⟩)
  have nR := blk_far HF.out.2.2.2.2.1 (p := ⟨gN, 1, none⟩) (by show gR ≠ gN; omega) (.string ⟨#[83]⟩)
  have nG := blk_far HF.out.2.2.2.2.2.1 (p := ⟨gN, 1, none⟩) (by show gG ≠ gN; omega) (.string ⟨#[83]⟩)
  have hbB := HF.out.2.2.2.2.2.2.setCell (p := ⟨gN, 1, none⟩) (by show w.heap.size ≤ gN; omega) (.string ⟨#[83]⟩)
  have cn := gf_names nN
  have cs := gf_syms nS
  have cc0 := gf_conj nC0 rfl (Nat.le_refl _) cs
  have cc1 := gf_conj nC1 rfl (Nat.le_refl _) (Kd.C_nil k56 (W.setCell ⟨gN, 1, none⟩ (.string ⟨#[83]⟩)))
  have cr := gf_rules nR rfl (Nat.le_refl _) cc0 rfl (Nat.le_refl _) cc1
  have hform : gfForm 1 d = (0, [⟨#[83]⟩, ⟨#[83]⟩], [⟨0, [⟨false, [⟨-1, 5, 9⟩, ⟨1, 0, 0⟩]⟩]⟩, ⟨1, [⟨false, []⟩]⟩]) := rfl
  have hMB : gram_May.f (0) ([⟨#[83]⟩, ⟨#[83]⟩]) ([⟨0, [⟨false, [⟨-1, 5, 9⟩, ⟨1, 0, 0⟩]⟩]⟩, ⟨1, [⟨false, []⟩]⟩]) = some false := by
   have h9 := FO.out
   unfold gfOk at h9
   rw [hform, Bool.and_eq_true, Bool.not_eq_true'] at h9
   unfold gram_May.f
   exact congrArg some h9.2
  have hMA : gram_May.f 0 [⟨#[83]⟩, ⟨#[88]⟩] gfTwo = some true := by
   have h9 := FO.out
   unfold gfOk at h9
   rw [Bool.and_eq_true] at h9
   unfold gram_May.f
   exact congrArg some h9.1
  have X := Aside0.mk (And.intro cn (And.intro cr (And.intro hbB (And.intro nG (And.intro hMA hMB)))))
  clear cn cs cc0 cc1 cr hbB nN nS nC0 nC1 nR nG hMA hMB hform FO HF hd1 hd2 FZ kf k0 k1
  have hgG : gG < (W.setCell ⟨gN, 1, none⟩ (.string ⟨#[83]⟩)).heap.size := blk_lt X.out.2.2.2.1
  generalize W.setCell ⟨gN, 1, none⟩ (.string ⟨#[83]⟩) = W9 at *
  have hcs : ∀ w', Below W9.heap.size W9 w' → w'.cell? ⟨gG, 0, none⟩ = some (.int .i64 0) ∧ w'.cell? ⟨gG, 1, none⟩ = some (.slice (some ⟨gN, 0, none⟩) 2 2) ∧ w'.cell? ⟨gG, 2, none⟩ = some (.slice (some ⟨gR, 0, none⟩) 2 2) := fun w' h => ⟨(blk_cell ((h.block gG hgG).trans X.out.2.2.2.1) 0).trans rfl, (blk_cell ((h.block gG hgG).trans X.out.2.2.2.1) 1).trans rfl, (blk_cell ((h.block gG hgG).trans X.out.2.2.2.1) 2).trans rfl⟩
  go_wp2_with (first | (go_at_call 17; refine (gram_May.calls (0) _ 2 ([⟨#[83]⟩, ⟨#[83]⟩]) _ 2 ([⟨0, [⟨false, [⟨-1, 5, 9⟩, ⟨1, 0, 0⟩]⟩]⟩, ⟨1, [⟨false, []⟩]⟩]) false _ (Kd.C_below X.out.1 hb4.out) (Nat.le_refl _) (Kd.C_below X.out.2.1 hb4.out) (by simp) X.out.2.2.2.2.2).mono ?_; rintro e w5 ⟨rfl, hq⟩; have hb5 := Aside0.mk hq; clear hq) | (go_at_call 17; refine (gram_May.calls 0 _ 2 [⟨#[83]⟩, ⟨#[88]⟩] _ 2 gfTwo true _ Y.out.1 (Nat.le_refl _) Y.out.2.1 (Nat.le_refl _) X.out.2.2.2.2.1).mono ?_; rintro e w4 ⟨rfl, hq⟩; have hb4 := Aside0.mk (Y.out.2.2.trans (hq.mono Y.out.2.2.size)); clear hq; (obtain ⟨j0, j1, j2⟩ := hcs w4 hb4.out)) | (go_at_call 21; (with_reducible refine (templelaw4_Two.at _).mono ?_); rintro e w3 ⟨hN, hS, hC0, hC1, hR, rfl, ht, _, _, _, _, _, _, hb3⟩; have Y := Aside0.mk (And.intro (gf_names ht.n) (And.intro (gf_rules ht.r rfl (by decide) (gf_conj ht.c0 rfl (by decide) (gf_syms ht.s)) rfl (by decide) (gf_conj ht.c1 rfl (Nat.le_refl _) (Kd.C_nil k56 w3))) hb3)); clear ht hb3) | (go_at_call 14; (with_reducible refine (templelaw0_Num.calls 0 0 _ gf_num).mono ?_); rintro e w' ⟨rfl, ⟨nd, rfl⟩⟩))
  go_ret
  exact ⟨rfl, pw_below_drewN (X.out.2.2.1.trans ((hb4.out.trans (hb5.out.mono hb4.out.size)).mono X.out.2.2.1.size)) _⟩
 ·subst hm
  have k0 : W.cell? ⟨gG, 1, none⟩ = some (.slice (some ⟨gN, 0, none⟩) 2 2) := (blk_cell HF.out.2.2.2.2.2.1 1).trans rfl
  have k1 : W.cell? ⟨gN, 0, none⟩ = some (.string ⟨#[83]⟩) := (blk_cell HF.out.1 0).trans rfl
  have kf := blk_frozen HF.out.1 0
  have lt := fun (g : Nat) (cs : Array Value) (e : Nat) (h : W.heap[g]? = some (.cells cs e (0, 0))) => blk_lt h
  have hSz : ∀ w', Below W.heap.size W w' → w'.cell? ⟨gG, 1, none⟩ = some (.slice (some ⟨gN, 0, none⟩) 2 2) ∧ w'.cell? ⟨gN, 0, none⟩ = some (.string ⟨#[83]⟩) ∧ w'.frozen? ⟨gN, 0, none⟩ = false ∧ Aside0 (Below W.heap.size W w') := fun w' h => ⟨(blk_cell ((h.block gG (lt _ _ _ HF.out.2.2.2.2.2.1)).trans HF.out.2.2.2.2.2.1) 1).trans rfl, (blk_cell ((h.block gN (lt _ _ _ HF.out.1)).trans HF.out.1) 0).trans rfl, blk_frozen ((h.block gN (lt _ _ _ HF.out.1)).trans HF.out.1) 0, ⟨h⟩⟩
  have hb0 := (Below.refl W.heap.size W).drew
  go_upto_region 12 with (fail)
  clear k0 k1 kf
  have j0 : 0 ≤ d.tmod 5 := Int.tmod_nonneg _ (by omega)
  have j1 : d.tmod 5 < 5 := Int.tmod_lt_of_pos _ (by decide)
  have five : d.tmod 5 = 0 ∨ d.tmod 5 = 1 ∨ d.tmod 5 = 2 ∨ d.tmod 5 = 3 ∨ d.tmod 5 = 4 := by omega
  refine start_ (n := 9) (S := fun w' => w'.cell? ⟨gG, 1, none⟩ = some (.slice (some ⟨gN, 0, none⟩) 2 2) ∧ w'.cell? ⟨gN, 0, none⟩ = some (.string ⟨#[83]⟩) ∧ w'.frozen? ⟨gN, 0, none⟩ = false ∧ Aside0 (Below W.heap.size W w')) (ds := [8]) #[false, false, false, false, false, false, false, false, false] (by kernel_rfl) rfl rfl ⟨(hSz _ hb0).1, (hSz _ hb0).2.1, (hSz _ hb0).2.2.1, (hSz _ hb0).2.2.2⟩ (fun hHeld => ?_)
  refine with_tabW gfr12.tab12 gfr12.bits12 (fun HT_ HW_ => ?_)
  refine pure_ (i := 0) (N := some 32) (v := ?_) (a' := ?_) #[true, false, false, false, false, false, false, false, false] rfl rfl (any_of HT_.out (by kernel_rfl)) (fun _ _ _ h => h) (Or.inl ⟨by rfl, ?_⟩) ?_ ?_
  rotate_left
  ·intro w'
   go_simp
   with_reducible rfl
  rotate_left
  ·simp only [Act.put, List.setIfInBounds_toArray, List.set_cons_zero, List.set_cons_succ, i64_w, i32_w]
   rfl
  refine pure_ (i := 3) (N := some 35) (v := ?_) (a' := ?_) #[true, false, false, true, false, false, false, false, false] rfl rfl (any_of HT_.out (by kernel_rfl)) (fun _ _ _ h => h) (Or.inl ⟨by rfl, ?_⟩) ?_ ?_
  rotate_left
  ·intro w'
   go_simp
   with_reducible rfl
  rotate_left
  ·simp only [Act.put, List.setIfInBounds_toArray, List.set_cons_zero, List.set_cons_succ, i64_w, i32_w]
   rfl
  refine pure_ (i := 4) (N := some 36) (v := ?_) (a' := ?_) #[true, false, false, true, true, false, false, false, false] rfl rfl (any_of HT_.out (by kernel_rfl)) (fun _ _ _ h => h) (Or.inl ⟨by rfl, ?_⟩) ?_ ?_
  rotate_left
  ·intro w'
   go_simp
   with_reducible rfl
  rotate_left
  ·simp only [Act.put, List.setIfInBounds_toArray, List.set_cons_zero, List.set_cons_succ, i64_w, i32_w]
   rfl
  refine take_ (i := 1) (N := some 33) (v := ?_) (a' := ?_) #[true, true, false, true, true, false, false, false, false] rfl rfl (take_ofW HT_.out HW_.out (by kernel_rfl)) (fun _ _ _ h => h) (Or.inl ⟨by rfl, ?_⟩) hHeld ?_ ?_
  rotate_left
  ·rintro w' ⟨s0, s1, s2, s3⟩
   go_simp
   with_reducible rfl
  rotate_left
  ·simp only [Act.put, List.setIfInBounds_toArray, List.set_cons_zero, List.set_cons_succ, i64_w, i32_w]
   rfl
  refine one_ (i := 2) (N := some 34) #[true, true, true, true, true, false, false, false, false] rfl rfl (one_of HT_.out (by kernel_rfl)) (by decide) (fun K hK => ?_)
  refine value_ (w1 := ?_) (v := ?_) (by rfl) rfl ?_ ?_
  rotate_left 2
  ·go_simp
   constructor
   ·rfl
   ·rfl
  refine hK.out _ _ ⟨(hSz _ (below_alloc hb0 (.cells #[.string ⟨#[115, 116, 97, 114, 116]⟩, .string ⟨#[]⟩, .string ⟨#[57]⟩, .string ⟨#[97, 45, 98]⟩, .string ⟨#[195, 169]⟩] 9))).1, (hSz _ (below_alloc hb0 (.cells #[.string ⟨#[115, 116, 97, 114, 116]⟩, .string ⟨#[]⟩, .string ⟨#[57]⟩, .string ⟨#[97, 45, 98]⟩, .string ⟨#[195, 169]⟩] 9))).2.1, (hSz _ (below_alloc hb0 (.cells #[.string ⟨#[115, 116, 97, 114, 116]⟩, .string ⟨#[]⟩, .string ⟨#[57]⟩, .string ⟨#[97, 45, 98]⟩, .string ⟨#[195, 169]⟩] 9))).2.2.1, (hSz _ (below_alloc hb0 (.cells #[.string ⟨#[115, 116, 97, 114, 116]⟩, .string ⟨#[]⟩, .string ⟨#[57]⟩, .string ⟨#[97, 45, 98]⟩, .string ⟨#[195, 169]⟩] 9))).2.2.2⟩ (fun hHeld => ?_)
  clear hK K
  refine norm_ (a' := ?_) ?_ ?_
  rotate_left
  ·show Act.put _ (some 34) _ = _
   simp only [Act.put, List.setIfInBounds_toArray, List.set_cons_zero, List.set_cons_succ, i64_w, i32_w]
   rfl
  refine pure_ (i := 5) (N := some 37) (v := ?_) (a' := ?_) #[true, true, true, true, true, true, false, false, false] rfl rfl (any_of HT_.out (by kernel_rfl)) (fun _ _ _ h => h) (Or.inl ⟨by rfl, ?_⟩) ?_ ?_
  rotate_left
  ·intro w'
   go_simp
   with_reducible rfl
  rotate_left
  ·simp only [Act.put, List.setIfInBounds_toArray, List.set_cons_zero, List.set_cons_succ, i64_w, i32_w]
   rfl
  refine one_ (i := 6) (N := some 38) #[true, true, true, true, true, true, true, false, false] rfl rfl (one_of HT_.out (by kernel_rfl)) (by decide) (fun K hK => ?_)
  refine value_ (v := .string (gfNm d)) (w1 := (W.drew.alloc (.cells #[.string ⟨#[115, 116, 97, 114, 116]⟩, .string ⟨#[]⟩, .string ⟨#[57]⟩, .string ⟨#[97, 45, 98]⟩, .string ⟨#[195, 169]⟩] 9))) (by rfl) rfl (by (go_simp; exact gf_list _ five _)) ?_
  refine hK.out _ _ ⟨(hSz _ (below_alloc hb0 (.cells #[.string ⟨#[115, 116, 97, 114, 116]⟩, .string ⟨#[]⟩, .string ⟨#[57]⟩, .string ⟨#[97, 45, 98]⟩, .string ⟨#[195, 169]⟩] 9))).1, (hSz _ (below_alloc hb0 (.cells #[.string ⟨#[115, 116, 97, 114, 116]⟩, .string ⟨#[]⟩, .string ⟨#[57]⟩, .string ⟨#[97, 45, 98]⟩, .string ⟨#[195, 169]⟩] 9))).2.1, (hSz _ (below_alloc hb0 (.cells #[.string ⟨#[115, 116, 97, 114, 116]⟩, .string ⟨#[]⟩, .string ⟨#[57]⟩, .string ⟨#[97, 45, 98]⟩, .string ⟨#[195, 169]⟩] 9))).2.2.1, (hSz _ (below_alloc hb0 (.cells #[.string ⟨#[115, 116, 97, 114, 116]⟩, .string ⟨#[]⟩, .string ⟨#[57]⟩, .string ⟨#[97, 45, 98]⟩, .string ⟨#[195, 169]⟩] 9))).2.2.2⟩ (fun hHeld => ?_)
  clear hK K
  refine norm_ (a' := ?_) ?_ ?_
  rotate_left
  ·show Act.put _ (some 38) _ = _
   simp only [Act.put, List.setIfInBounds_toArray, List.set_cons_zero, List.set_cons_succ, i64_w, i32_w]
   rfl
  refine pure_ (i := 7) (N := some 39) (v := ?_) (a' := ?_) #[true, true, true, true, true, true, true, true, false] rfl rfl (any_of HT_.out (by kernel_rfl)) (fun _ _ _ h => h) (Or.inl ⟨by rfl, ?_⟩) ?_ ?_
  rotate_left
  ·intro w'
   go_simp
   with_reducible rfl
  rotate_left
  ·simp only [Act.put, List.setIfInBounds_toArray, List.set_cons_zero, List.set_cons_succ, i64_w, i32_w]
   rfl
  refine last_ (i := 8) (N := none) #[true, true, true, true, true, true, true, true, true] rfl rfl (one_of HT_.out (by kernel_rfl)) (by decide) (fun K hK => ?_)
  have q0 := hHeld.2.1
  have q1 := hHeld.2.2.1
  refine skip_ (w1 := ?_) (by rfl) rfl ?_ ?_
  rotate_left
  ·go_simp
   rfl
  refine hK.out _ _ ?_
  clear hK K
  refine done_ (done_of HT_.out (by kernel_rfl)) ?_
  clear HT_ HW_ hHeld q0 q1 hSz lt hb0 j0 j1 five
  go_upto_region 41 with (fail)
  have nN := blk_drew (blk_put (blk_alloc HF.out.1 (.cells #[.string ⟨#[115, 116, 97, 114, 116]⟩, .string ⟨#[]⟩, .string ⟨#[57]⟩, .string ⟨#[97, 45, 98]⟩, .string ⟨#[195, 169]⟩] 9)) 0 (.string (gfNm d)) rfl)
  have nS := blk_drew (blk_far (blk_alloc HF.out.2.1 (.cells #[.string ⟨#[115, 116, 97, 114, 116]⟩, .string ⟨#[]⟩, .string ⟨#[57]⟩, .string ⟨#[97, 45, 98]⟩, .string ⟨#[195, 169]⟩] 9)) (p := ⟨gN, 0, none⟩) (by show gS ≠ gN; omega) (.string (gfNm d)))
  have nC0 := blk_drew (blk_far (blk_alloc HF.out.2.2.1 (.cells #[.string ⟨#[115, 116, 97, 114, 116]⟩, .string ⟨#[]⟩, .string ⟨#[57]⟩, .string ⟨#[97, 45, 98]⟩, .string ⟨#[195, 169]⟩] 9)) (p := ⟨gN, 0, none⟩) (by show gC0 ≠ gN; omega) (.string (gfNm d)))
  have nC1 := blk_drew (blk_far (blk_alloc HF.out.2.2.2.1 (.cells #[.string ⟨#[115, 116, 97, 114, 116]⟩, .string ⟨#[]⟩, .string ⟨#[57]⟩, .string ⟨#[97, 45, 98]⟩, .string ⟨#[195, 169]⟩] 9)) (p := ⟨gN, 0, none⟩) (by show gC1 ≠ gN; omega) (.string (gfNm d)))
  have nR := blk_drew (blk_far (blk_alloc HF.out.2.2.2.2.1 (.cells #[.string ⟨#[115, 116, 97, 114, 116]⟩, .string ⟨#[]⟩, .string ⟨#[57]⟩, .string ⟨#[97, 45, 98]⟩, .string ⟨#[195, 169]⟩] 9)) (p := ⟨gN, 0, none⟩) (by show gR ≠ gN; omega) (.string (gfNm d)))
  have nG := blk_drew (blk_far (blk_alloc HF.out.2.2.2.2.2.1 (.cells #[.string ⟨#[115, 116, 97, 114, 116]⟩, .string ⟨#[]⟩, .string ⟨#[57]⟩, .string ⟨#[97, 45, 98]⟩, .string ⟨#[195, 169]⟩] 9)) (p := ⟨gN, 0, none⟩) (by show gG ≠ gN; omega) (.string (gfNm d)))
  have hbB := ((below_alloc HF.out.2.2.2.2.2.2 (.cells #[.string ⟨#[115, 116, 97, 114, 116]⟩, .string ⟨#[]⟩, .string ⟨#[57]⟩, .string ⟨#[97, 45, 98]⟩, .string ⟨#[195, 169]⟩] 9)).setCell (p := ⟨gN, 0, none⟩) (by show w.heap.size ≤ gN; omega) (.string (gfNm d))).drew
  have cn := gf_names nN
  have cs := gf_syms nS
  have cc0 := gf_conj nC0 rfl (Nat.le_refl _) cs
  have cc1 := gf_conj nC1 rfl (Nat.le_refl _) (Kd.C_nil k56 (((W.alloc (.cells #[.string ⟨#[115, 116, 97, 114, 116]⟩, .string ⟨#[]⟩, .string ⟨#[57]⟩, .string ⟨#[97, 45, 98]⟩, .string ⟨#[195, 169]⟩] 9)).setCell ⟨gN, 0, none⟩ (.string (gfNm d))).drew))
  have cr := gf_rules nR rfl (Nat.le_refl _) cc0 rfl (Nat.le_refl _) cc1
  have hform : gfForm 2 d = (0, [gfNm d, ⟨#[88]⟩], [⟨0, [⟨false, [⟨-1, 5, 9⟩, ⟨1, 0, 0⟩]⟩]⟩, ⟨1, [⟨false, []⟩]⟩]) := rfl
  have hMB : gram_May.f (0) ([gfNm d, ⟨#[88]⟩]) ([⟨0, [⟨false, [⟨-1, 5, 9⟩, ⟨1, 0, 0⟩]⟩]⟩, ⟨1, [⟨false, []⟩]⟩]) = some false := by
   have h9 := FO.out
   unfold gfOk at h9
   rw [hform, Bool.and_eq_true, Bool.not_eq_true'] at h9
   unfold gram_May.f
   exact congrArg some h9.2
  have hMA : gram_May.f 0 [⟨#[83]⟩, ⟨#[88]⟩] gfTwo = some true := by
   have h9 := FO.out
   unfold gfOk at h9
   rw [Bool.and_eq_true] at h9
   unfold gram_May.f
   exact congrArg some h9.1
  have X := Aside0.mk (And.intro cn (And.intro cr (And.intro hbB (And.intro nG (And.intro hMA hMB)))))
  clear cn cs cc0 cc1 cr hbB nN nS nC0 nC1 nR nG hMA hMB hform FO HF hd1 hd2 FZ 
  have hgG : gG < (((W.alloc (.cells #[.string ⟨#[115, 116, 97, 114, 116]⟩, .string ⟨#[]⟩, .string ⟨#[57]⟩, .string ⟨#[97, 45, 98]⟩, .string ⟨#[195, 169]⟩] 9)).setCell ⟨gN, 0, none⟩ (.string (gfNm d))).drew).heap.size := blk_lt X.out.2.2.2.1
  generalize ((W.alloc (.cells #[.string ⟨#[115, 116, 97, 114, 116]⟩, .string ⟨#[]⟩, .string ⟨#[57]⟩, .string ⟨#[97, 45, 98]⟩, .string ⟨#[195, 169]⟩] 9)).setCell ⟨gN, 0, none⟩ (.string (gfNm d))).drew = W9 at *
  have hcs : ∀ w', Below W9.heap.size W9 w' → w'.cell? ⟨gG, 0, none⟩ = some (.int .i64 0) ∧ w'.cell? ⟨gG, 1, none⟩ = some (.slice (some ⟨gN, 0, none⟩) 2 2) ∧ w'.cell? ⟨gG, 2, none⟩ = some (.slice (some ⟨gR, 0, none⟩) 2 2) := fun w' h => ⟨(blk_cell ((h.block gG hgG).trans X.out.2.2.2.1) 0).trans rfl, (blk_cell ((h.block gG hgG).trans X.out.2.2.2.1) 1).trans rfl, (blk_cell ((h.block gG hgG).trans X.out.2.2.2.1) 2).trans rfl⟩
  go_wp2_with (first | (go_at_call 17; refine (gram_May.calls (0) _ 2 ([gfNm d, ⟨#[88]⟩]) _ 2 ([⟨0, [⟨false, [⟨-1, 5, 9⟩, ⟨1, 0, 0⟩]⟩]⟩, ⟨1, [⟨false, []⟩]⟩]) false _ (Kd.C_below X.out.1 hb4.out) (Nat.le_refl _) (Kd.C_below X.out.2.1 hb4.out) (by simp) X.out.2.2.2.2.2).mono ?_; rintro e w5 ⟨rfl, hq⟩; have hb5 := Aside0.mk hq; clear hq) | (go_at_call 17; refine (gram_May.calls 0 _ 2 [⟨#[83]⟩, ⟨#[88]⟩] _ 2 gfTwo true _ Y.out.1 (Nat.le_refl _) Y.out.2.1 (Nat.le_refl _) X.out.2.2.2.2.1).mono ?_; rintro e w4 ⟨rfl, hq⟩; have hb4 := Aside0.mk (Y.out.2.2.trans (hq.mono Y.out.2.2.size)); clear hq; (obtain ⟨j0, j1, j2⟩ := hcs w4 hb4.out)) | (go_at_call 21; (with_reducible refine (templelaw4_Two.at _).mono ?_); rintro e w3 ⟨hN, hS, hC0, hC1, hR, rfl, ht, _, _, _, _, _, _, hb3⟩; have Y := Aside0.mk (And.intro (gf_names ht.n) (And.intro (gf_rules ht.r rfl (by decide) (gf_conj ht.c0 rfl (by decide) (gf_syms ht.s)) rfl (by decide) (gf_conj ht.c1 rfl (Nat.le_refl _) (Kd.C_nil k56 w3))) hb3)); clear ht hb3) | (go_at_call 14; (with_reducible refine (templelaw0_Num.calls 0 0 _ gf_num).mono ?_); rintro e w' ⟨rfl, ⟨nd, rfl⟩⟩))
  go_ret
  exact ⟨rfl, pw_below_drewN (X.out.2.2.1.trans ((hb4.out.trans (hb5.out.mono hb4.out.size)).mono X.out.2.2.1.size)) _⟩
 ·subst hm
  have k0 : W.cell? ⟨gG, 0, none⟩ = some (.int .i64 0) := (blk_cell HF.out.2.2.2.2.2.1 0).trans rfl
  have kf := blk_frozen HF.out.2.2.2.2.2.1 0
  go_upto_region 41 with (fail)
  have nN := blk_far HF.out.1 (p := ⟨gG, 0, none⟩) (by show gN ≠ gG; omega) (.int .i64 (-d))
  have nS := blk_far HF.out.2.1 (p := ⟨gG, 0, none⟩) (by show gS ≠ gG; omega) (.int .i64 (-d))
  have nC0 := blk_far HF.out.2.2.1 (p := ⟨gG, 0, none⟩) (by show gC0 ≠ gG; omega) (.int .i64 (-d))
  have nC1 := blk_far HF.out.2.2.2.1 (p := ⟨gG, 0, none⟩) (by show gC1 ≠ gG; omega) (.int .i64 (-d))
  have nR := blk_far HF.out.2.2.2.2.1 (p := ⟨gG, 0, none⟩) (by show gR ≠ gG; omega) (.int .i64 (-d))
  have nG := blk_put HF.out.2.2.2.2.2.1 0 (.int .i64 (-d)) rfl
  have hbB := HF.out.2.2.2.2.2.2.setCell (p := ⟨gG, 0, none⟩) (by show w.heap.size ≤ gG; omega) (.int .i64 (-d))
  have cn := gf_names nN
  have cs := gf_syms nS
  have cc0 := gf_conj nC0 rfl (Nat.le_refl _) cs
  have cc1 := gf_conj nC1 rfl (Nat.le_refl _) (Kd.C_nil k56 (W.setCell ⟨gG, 0, none⟩ (.int .i64 (-d))))
  have cr := gf_rules nR rfl (Nat.le_refl _) cc0 rfl (Nat.le_refl _) cc1
  have hform : gfForm 3 d = ((-d), [⟨#[83]⟩, ⟨#[88]⟩], [⟨0, [⟨false, [⟨-1, 5, 9⟩, ⟨1, 0, 0⟩]⟩]⟩, ⟨1, [⟨false, []⟩]⟩]) := rfl
  have hMB : gram_May.f ((-d)) ([⟨#[83]⟩, ⟨#[88]⟩]) ([⟨0, [⟨false, [⟨-1, 5, 9⟩, ⟨1, 0, 0⟩]⟩]⟩, ⟨1, [⟨false, []⟩]⟩]) = some false := by
   have h9 := FO.out
   unfold gfOk at h9
   rw [hform, Bool.and_eq_true, Bool.not_eq_true'] at h9
   unfold gram_May.f
   exact congrArg some h9.2
  have hMA : gram_May.f 0 [⟨#[83]⟩, ⟨#[88]⟩] gfTwo = some true := by
   have h9 := FO.out
   unfold gfOk at h9
   rw [Bool.and_eq_true] at h9
   unfold gram_May.f
   exact congrArg some h9.1
  have X := Aside0.mk (And.intro cn (And.intro cr (And.intro hbB (And.intro nG (And.intro hMA hMB)))))
  clear cn cs cc0 cc1 cr hbB nN nS nC0 nC1 nR nG hMA hMB hform FO HF hd1 hd2 FZ kf k0
  have hgG : gG < (W.setCell ⟨gG, 0, none⟩ (.int .i64 (-d))).heap.size := blk_lt X.out.2.2.2.1
  generalize W.setCell ⟨gG, 0, none⟩ (.int .i64 (-d)) = W9 at *
  have hcs : ∀ w', Below W9.heap.size W9 w' → w'.cell? ⟨gG, 0, none⟩ = some (.int .i64 (-d)) ∧ w'.cell? ⟨gG, 1, none⟩ = some (.slice (some ⟨gN, 0, none⟩) 2 2) ∧ w'.cell? ⟨gG, 2, none⟩ = some (.slice (some ⟨gR, 0, none⟩) 2 2) := fun w' h => ⟨(blk_cell ((h.block gG hgG).trans X.out.2.2.2.1) 0).trans rfl, (blk_cell ((h.block gG hgG).trans X.out.2.2.2.1) 1).trans rfl, (blk_cell ((h.block gG hgG).trans X.out.2.2.2.1) 2).trans rfl⟩
  go_wp2_with (first | (go_at_call 17; refine (gram_May.calls ((-d)) _ 2 ([⟨#[83]⟩, ⟨#[88]⟩]) _ 2 ([⟨0, [⟨false, [⟨-1, 5, 9⟩, ⟨1, 0, 0⟩]⟩]⟩, ⟨1, [⟨false, []⟩]⟩]) false _ (Kd.C_below X.out.1 hb4.out) (Nat.le_refl _) (Kd.C_below X.out.2.1 hb4.out) (by simp) X.out.2.2.2.2.2).mono ?_; rintro e w5 ⟨rfl, hq⟩; have hb5 := Aside0.mk hq; clear hq) | (go_at_call 17; refine (gram_May.calls 0 _ 2 [⟨#[83]⟩, ⟨#[88]⟩] _ 2 gfTwo true _ Y.out.1 (Nat.le_refl _) Y.out.2.1 (Nat.le_refl _) X.out.2.2.2.2.1).mono ?_; rintro e w4 ⟨rfl, hq⟩; have hb4 := Aside0.mk (Y.out.2.2.trans (hq.mono Y.out.2.2.size)); clear hq; (obtain ⟨j0, j1, j2⟩ := hcs w4 hb4.out)) | (go_at_call 21; (with_reducible refine (templelaw4_Two.at _).mono ?_); rintro e w3 ⟨hN, hS, hC0, hC1, hR, rfl, ht, _, _, _, _, _, _, hb3⟩; have Y := Aside0.mk (And.intro (gf_names ht.n) (And.intro (gf_rules ht.r rfl (by decide) (gf_conj ht.c0 rfl (by decide) (gf_syms ht.s)) rfl (by decide) (gf_conj ht.c1 rfl (Nat.le_refl _) (Kd.C_nil k56 w3))) hb3)); clear ht hb3) | (go_at_call 14; (with_reducible refine (templelaw0_Num.calls 0 0 _ gf_num).mono ?_); rintro e w' ⟨rfl, ⟨nd, rfl⟩⟩))
  go_ret
  exact ⟨rfl, pw_below_drewN (X.out.2.2.1.trans ((hb4.out.trans (hb5.out.mono hb4.out.size)).mono X.out.2.2.1.size)) _⟩
 ·subst hm
  have k0 : W.cell? ⟨gG, 0, none⟩ = some (.int .i64 0) := (blk_cell HF.out.2.2.2.2.2.1 0).trans rfl
  have kf := blk_frozen HF.out.2.2.2.2.2.1 0
  go_upto_region 41 with (fail)
  have nN := blk_far HF.out.1 (p := ⟨gG, 0, none⟩) (by show gN ≠ gG; omega) (.int .i64 (1 + d))
  have nS := blk_far HF.out.2.1 (p := ⟨gG, 0, none⟩) (by show gS ≠ gG; omega) (.int .i64 (1 + d))
  have nC0 := blk_far HF.out.2.2.1 (p := ⟨gG, 0, none⟩) (by show gC0 ≠ gG; omega) (.int .i64 (1 + d))
  have nC1 := blk_far HF.out.2.2.2.1 (p := ⟨gG, 0, none⟩) (by show gC1 ≠ gG; omega) (.int .i64 (1 + d))
  have nR := blk_far HF.out.2.2.2.2.1 (p := ⟨gG, 0, none⟩) (by show gR ≠ gG; omega) (.int .i64 (1 + d))
  have nG := blk_put HF.out.2.2.2.2.2.1 0 (.int .i64 (1 + d)) rfl
  have hbB := HF.out.2.2.2.2.2.2.setCell (p := ⟨gG, 0, none⟩) (by show w.heap.size ≤ gG; omega) (.int .i64 (1 + d))
  have cn := gf_names nN
  have cs := gf_syms nS
  have cc0 := gf_conj nC0 rfl (Nat.le_refl _) cs
  have cc1 := gf_conj nC1 rfl (Nat.le_refl _) (Kd.C_nil k56 (W.setCell ⟨gG, 0, none⟩ (.int .i64 (1 + d))))
  have cr := gf_rules nR rfl (Nat.le_refl _) cc0 rfl (Nat.le_refl _) cc1
  have hform : gfForm 4 d = ((1 + d), [⟨#[83]⟩, ⟨#[88]⟩], [⟨0, [⟨false, [⟨-1, 5, 9⟩, ⟨1, 0, 0⟩]⟩]⟩, ⟨1, [⟨false, []⟩]⟩]) := rfl
  have hMB : gram_May.f ((1 + d)) ([⟨#[83]⟩, ⟨#[88]⟩]) ([⟨0, [⟨false, [⟨-1, 5, 9⟩, ⟨1, 0, 0⟩]⟩]⟩, ⟨1, [⟨false, []⟩]⟩]) = some false := by
   have h9 := FO.out
   unfold gfOk at h9
   rw [hform, Bool.and_eq_true, Bool.not_eq_true'] at h9
   unfold gram_May.f
   exact congrArg some h9.2
  have hMA : gram_May.f 0 [⟨#[83]⟩, ⟨#[88]⟩] gfTwo = some true := by
   have h9 := FO.out
   unfold gfOk at h9
   rw [Bool.and_eq_true] at h9
   unfold gram_May.f
   exact congrArg some h9.1
  have X := Aside0.mk (And.intro cn (And.intro cr (And.intro hbB (And.intro nG (And.intro hMA hMB)))))
  clear cn cs cc0 cc1 cr hbB nN nS nC0 nC1 nR nG hMA hMB hform FO HF hd1 hd2 FZ kf k0
  have hgG : gG < (W.setCell ⟨gG, 0, none⟩ (.int .i64 (1 + d))).heap.size := blk_lt X.out.2.2.2.1
  generalize W.setCell ⟨gG, 0, none⟩ (.int .i64 (1 + d)) = W9 at *
  have hcs : ∀ w', Below W9.heap.size W9 w' → w'.cell? ⟨gG, 0, none⟩ = some (.int .i64 (1 + d)) ∧ w'.cell? ⟨gG, 1, none⟩ = some (.slice (some ⟨gN, 0, none⟩) 2 2) ∧ w'.cell? ⟨gG, 2, none⟩ = some (.slice (some ⟨gR, 0, none⟩) 2 2) := fun w' h => ⟨(blk_cell ((h.block gG hgG).trans X.out.2.2.2.1) 0).trans rfl, (blk_cell ((h.block gG hgG).trans X.out.2.2.2.1) 1).trans rfl, (blk_cell ((h.block gG hgG).trans X.out.2.2.2.1) 2).trans rfl⟩
  go_wp2_with (first | (go_at_call 17; refine (gram_May.calls ((1 + d)) _ 2 ([⟨#[83]⟩, ⟨#[88]⟩]) _ 2 ([⟨0, [⟨false, [⟨-1, 5, 9⟩, ⟨1, 0, 0⟩]⟩]⟩, ⟨1, [⟨false, []⟩]⟩]) false _ (Kd.C_below X.out.1 hb4.out) (Nat.le_refl _) (Kd.C_below X.out.2.1 hb4.out) (by simp) X.out.2.2.2.2.2).mono ?_; rintro e w5 ⟨rfl, hq⟩; have hb5 := Aside0.mk hq; clear hq) | (go_at_call 17; refine (gram_May.calls 0 _ 2 [⟨#[83]⟩, ⟨#[88]⟩] _ 2 gfTwo true _ Y.out.1 (Nat.le_refl _) Y.out.2.1 (Nat.le_refl _) X.out.2.2.2.2.1).mono ?_; rintro e w4 ⟨rfl, hq⟩; have hb4 := Aside0.mk (Y.out.2.2.trans (hq.mono Y.out.2.2.size)); clear hq; (obtain ⟨j0, j1, j2⟩ := hcs w4 hb4.out)) | (go_at_call 21; (with_reducible refine (templelaw4_Two.at _).mono ?_); rintro e w3 ⟨hN, hS, hC0, hC1, hR, rfl, ht, _, _, _, _, _, _, hb3⟩; have Y := Aside0.mk (And.intro (gf_names ht.n) (And.intro (gf_rules ht.r rfl (by decide) (gf_conj ht.c0 rfl (by decide) (gf_syms ht.s)) rfl (by decide) (gf_conj ht.c1 rfl (Nat.le_refl _) (Kd.C_nil k56 w3))) hb3)); clear ht hb3) | (go_at_call 14; (with_reducible refine (templelaw0_Num.calls 0 0 _ gf_num).mono ?_); rintro e w' ⟨rfl, ⟨nd, rfl⟩⟩))
  go_ret
  exact ⟨rfl, pw_below_drewN (X.out.2.2.1.trans ((hb4.out.trans (hb5.out.mono hb4.out.size)).mono X.out.2.2.1.size)) _⟩
 ·subst hm
  have k0 : W.cell? ⟨gG, 2, none⟩ = some (.slice (some ⟨gR, 0, none⟩) 2 2) := (blk_cell HF.out.2.2.2.2.2.1 2).trans rfl
  have k1 : W.cell? ⟨gG, 2, none⟩ = some (.slice (some ⟨gR, 0, none⟩) 2 2) := (blk_cell HF.out.2.2.2.2.2.1 2).trans rfl
  have kf := blk_frozen HF.out.2.2.2.2.2.1 2
  go_upto_region 41 with (fail)
  have nN := blk_far HF.out.1 (p := ⟨gG, 2, none⟩) (by show gN ≠ gG; omega) (.slice (some ⟨gR, 0, none⟩) 1 2)
  have nS := blk_far HF.out.2.1 (p := ⟨gG, 2, none⟩) (by show gS ≠ gG; omega) (.slice (some ⟨gR, 0, none⟩) 1 2)
  have nC0 := blk_far HF.out.2.2.1 (p := ⟨gG, 2, none⟩) (by show gC0 ≠ gG; omega) (.slice (some ⟨gR, 0, none⟩) 1 2)
  have nC1 := blk_far HF.out.2.2.2.1 (p := ⟨gG, 2, none⟩) (by show gC1 ≠ gG; omega) (.slice (some ⟨gR, 0, none⟩) 1 2)
  have nR := blk_far HF.out.2.2.2.2.1 (p := ⟨gG, 2, none⟩) (by show gR ≠ gG; omega) (.slice (some ⟨gR, 0, none⟩) 1 2)
  have nG := blk_put HF.out.2.2.2.2.2.1 2 (.slice (some ⟨gR, 0, none⟩) 1 2) rfl
  have hbB := HF.out.2.2.2.2.2.2.setCell (p := ⟨gG, 2, none⟩) (by show w.heap.size ≤ gG; omega) (.slice (some ⟨gR, 0, none⟩) 1 2)
  have cn := gf_names nN
  have cs := gf_syms nS
  have cc0 := gf_conj nC0 rfl (Nat.le_refl _) cs
  have cc1 := gf_conj nC1 rfl (Nat.le_refl _) (Kd.C_nil k56 (W.setCell ⟨gG, 2, none⟩ (.slice (some ⟨gR, 0, none⟩) 1 2)))
  have cr := C_front (gf_rules nR rfl (Nat.le_refl _) cc0 rfl (Nat.le_refl _) cc1)
  have hform : gfForm 5 d = (0, [⟨#[83]⟩, ⟨#[88]⟩], [⟨0, [⟨false, [⟨-1, 5, 9⟩, ⟨1, 0, 0⟩]⟩]⟩]) := rfl
  have hMB : gram_May.f (0) ([⟨#[83]⟩, ⟨#[88]⟩]) ([⟨0, [⟨false, [⟨-1, 5, 9⟩, ⟨1, 0, 0⟩]⟩]⟩]) = some false := by
   have h9 := FO.out
   unfold gfOk at h9
   rw [hform, Bool.and_eq_true, Bool.not_eq_true'] at h9
   unfold gram_May.f
   exact congrArg some h9.2
  have hMA : gram_May.f 0 [⟨#[83]⟩, ⟨#[88]⟩] gfTwo = some true := by
   have h9 := FO.out
   unfold gfOk at h9
   rw [Bool.and_eq_true] at h9
   unfold gram_May.f
   exact congrArg some h9.1
  have X := Aside0.mk (And.intro cn (And.intro cr (And.intro hbB (And.intro nG (And.intro hMA hMB)))))
  clear cn cs cc0 cc1 cr hbB nN nS nC0 nC1 nR nG hMA hMB hform FO HF hd1 hd2 FZ kf k0 k1
  have hgG : gG < (W.setCell ⟨gG, 2, none⟩ (.slice (some ⟨gR, 0, none⟩) 1 2)).heap.size := blk_lt X.out.2.2.2.1
  generalize W.setCell ⟨gG, 2, none⟩ (.slice (some ⟨gR, 0, none⟩) 1 2) = W9 at *
  have hcs : ∀ w', Below W9.heap.size W9 w' → w'.cell? ⟨gG, 0, none⟩ = some (.int .i64 0) ∧ w'.cell? ⟨gG, 1, none⟩ = some (.slice (some ⟨gN, 0, none⟩) 2 2) ∧ w'.cell? ⟨gG, 2, none⟩ = some (.slice (some ⟨gR, 0, none⟩) 1 2) := fun w' h => ⟨(blk_cell ((h.block gG hgG).trans X.out.2.2.2.1) 0).trans rfl, (blk_cell ((h.block gG hgG).trans X.out.2.2.2.1) 1).trans rfl, (blk_cell ((h.block gG hgG).trans X.out.2.2.2.1) 2).trans rfl⟩
  go_wp2_with (first | (go_at_call 17; refine (gram_May.calls (0) _ 2 ([⟨#[83]⟩, ⟨#[88]⟩]) _ 2 ([⟨0, [⟨false, [⟨-1, 5, 9⟩, ⟨1, 0, 0⟩]⟩]⟩]) false _ (Kd.C_below X.out.1 hb4.out) (Nat.le_refl _) (Kd.C_below X.out.2.1 hb4.out) (by simp) X.out.2.2.2.2.2).mono ?_; rintro e w5 ⟨rfl, hq⟩; have hb5 := Aside0.mk hq; clear hq) | (go_at_call 17; refine (gram_May.calls 0 _ 2 [⟨#[83]⟩, ⟨#[88]⟩] _ 2 gfTwo true _ Y.out.1 (Nat.le_refl _) Y.out.2.1 (Nat.le_refl _) X.out.2.2.2.2.1).mono ?_; rintro e w4 ⟨rfl, hq⟩; have hb4 := Aside0.mk (Y.out.2.2.trans (hq.mono Y.out.2.2.size)); clear hq; (obtain ⟨j0, j1, j2⟩ := hcs w4 hb4.out)) | (go_at_call 21; (with_reducible refine (templelaw4_Two.at _).mono ?_); rintro e w3 ⟨hN, hS, hC0, hC1, hR, rfl, ht, _, _, _, _, _, _, hb3⟩; have Y := Aside0.mk (And.intro (gf_names ht.n) (And.intro (gf_rules ht.r rfl (by decide) (gf_conj ht.c0 rfl (by decide) (gf_syms ht.s)) rfl (by decide) (gf_conj ht.c1 rfl (Nat.le_refl _) (Kd.C_nil k56 w3))) hb3)); clear ht hb3) | (go_at_call 14; (with_reducible refine (templelaw0_Num.calls 0 0 _ gf_num).mono ?_); rintro e w' ⟨rfl, ⟨nd, rfl⟩⟩))
  go_ret
  exact ⟨rfl, pw_below_drewN (X.out.2.2.1.trans ((hb4.out.trans (hb5.out.mono hb4.out.size)).mono X.out.2.2.1.size)) _⟩
 ·subst hm
  have k0 : W.cell? ⟨gG, 2, none⟩ = some (.slice (some ⟨gR, 0, none⟩) 2 2) := (blk_cell HF.out.2.2.2.2.2.1 2).trans rfl
  have k1 : W.cell? ⟨gR, 0, none⟩ = some (.int .i64 0) := (blk_cell HF.out.2.2.2.2.1 0).trans rfl
  have kf := blk_frozen HF.out.2.2.2.2.1 0
  go_upto_region 41 with (fail)
  have nN := blk_far HF.out.1 (p := ⟨gR, 0, none⟩) (by show gN ≠ gR; omega) (.int .i64 1)
  have nS := blk_far HF.out.2.1 (p := ⟨gR, 0, none⟩) (by show gS ≠ gR; omega) (.int .i64 1)
  have nC0 := blk_far HF.out.2.2.1 (p := ⟨gR, 0, none⟩) (by show gC0 ≠ gR; omega) (.int .i64 1)
  have nC1 := blk_far HF.out.2.2.2.1 (p := ⟨gR, 0, none⟩) (by show gC1 ≠ gR; omega) (.int .i64 1)
  have nR := blk_put HF.out.2.2.2.2.1 0 (.int .i64 1) rfl
  have nG := blk_far HF.out.2.2.2.2.2.1 (p := ⟨gR, 0, none⟩) (by show gG ≠ gR; omega) (.int .i64 1)
  have hbB := HF.out.2.2.2.2.2.2.setCell (p := ⟨gR, 0, none⟩) (by show w.heap.size ≤ gR; omega) (.int .i64 1)
  have cn := gf_names nN
  have cs := gf_syms nS
  have cc0 := gf_conj nC0 rfl (Nat.le_refl _) cs
  have cc1 := gf_conj nC1 rfl (Nat.le_refl _) (Kd.C_nil k56 (W.setCell ⟨gR, 0, none⟩ (.int .i64 1)))
  have cr := gf_rules nR rfl (Nat.le_refl _) cc0 rfl (Nat.le_refl _) cc1
  have hform : gfForm 6 d = (0, [⟨#[83]⟩, ⟨#[88]⟩], [⟨1, [⟨false, [⟨-1, 5, 9⟩, ⟨1, 0, 0⟩]⟩]⟩, ⟨1, [⟨false, []⟩]⟩]) := rfl
  have hMB : gram_May.f (0) ([⟨#[83]⟩, ⟨#[88]⟩]) ([⟨1, [⟨false, [⟨-1, 5, 9⟩, ⟨1, 0, 0⟩]⟩]⟩, ⟨1, [⟨false, []⟩]⟩]) = some false := by
   have h9 := FO.out
   unfold gfOk at h9
   rw [hform, Bool.and_eq_true, Bool.not_eq_true'] at h9
   unfold gram_May.f
   exact congrArg some h9.2
  have hMA : gram_May.f 0 [⟨#[83]⟩, ⟨#[88]⟩] gfTwo = some true := by
   have h9 := FO.out
   unfold gfOk at h9
   rw [Bool.and_eq_true] at h9
   unfold gram_May.f
   exact congrArg some h9.1
  have X := Aside0.mk (And.intro cn (And.intro cr (And.intro hbB (And.intro nG (And.intro hMA hMB)))))
  clear cn cs cc0 cc1 cr hbB nN nS nC0 nC1 nR nG hMA hMB hform FO HF hd1 hd2 FZ kf k0 k1
  have hgG : gG < (W.setCell ⟨gR, 0, none⟩ (.int .i64 1)).heap.size := blk_lt X.out.2.2.2.1
  generalize W.setCell ⟨gR, 0, none⟩ (.int .i64 1) = W9 at *
  have hcs : ∀ w', Below W9.heap.size W9 w' → w'.cell? ⟨gG, 0, none⟩ = some (.int .i64 0) ∧ w'.cell? ⟨gG, 1, none⟩ = some (.slice (some ⟨gN, 0, none⟩) 2 2) ∧ w'.cell? ⟨gG, 2, none⟩ = some (.slice (some ⟨gR, 0, none⟩) 2 2) := fun w' h => ⟨(blk_cell ((h.block gG hgG).trans X.out.2.2.2.1) 0).trans rfl, (blk_cell ((h.block gG hgG).trans X.out.2.2.2.1) 1).trans rfl, (blk_cell ((h.block gG hgG).trans X.out.2.2.2.1) 2).trans rfl⟩
  go_wp2_with (first | (go_at_call 17; refine (gram_May.calls (0) _ 2 ([⟨#[83]⟩, ⟨#[88]⟩]) _ 2 ([⟨1, [⟨false, [⟨-1, 5, 9⟩, ⟨1, 0, 0⟩]⟩]⟩, ⟨1, [⟨false, []⟩]⟩]) false _ (Kd.C_below X.out.1 hb4.out) (Nat.le_refl _) (Kd.C_below X.out.2.1 hb4.out) (by simp) X.out.2.2.2.2.2).mono ?_; rintro e w5 ⟨rfl, hq⟩; have hb5 := Aside0.mk hq; clear hq) | (go_at_call 17; refine (gram_May.calls 0 _ 2 [⟨#[83]⟩, ⟨#[88]⟩] _ 2 gfTwo true _ Y.out.1 (Nat.le_refl _) Y.out.2.1 (Nat.le_refl _) X.out.2.2.2.2.1).mono ?_; rintro e w4 ⟨rfl, hq⟩; have hb4 := Aside0.mk (Y.out.2.2.trans (hq.mono Y.out.2.2.size)); clear hq; (obtain ⟨j0, j1, j2⟩ := hcs w4 hb4.out)) | (go_at_call 21; (with_reducible refine (templelaw4_Two.at _).mono ?_); rintro e w3 ⟨hN, hS, hC0, hC1, hR, rfl, ht, _, _, _, _, _, _, hb3⟩; have Y := Aside0.mk (And.intro (gf_names ht.n) (And.intro (gf_rules ht.r rfl (by decide) (gf_conj ht.c0 rfl (by decide) (gf_syms ht.s)) rfl (by decide) (gf_conj ht.c1 rfl (Nat.le_refl _) (Kd.C_nil k56 w3))) hb3)); clear ht hb3) | (go_at_call 14; (with_reducible refine (templelaw0_Num.calls 0 0 _ gf_num).mono ?_); rintro e w' ⟨rfl, ⟨nd, rfl⟩⟩))
  go_ret
  exact ⟨rfl, pw_below_drewN (X.out.2.2.1.trans ((hb4.out.trans (hb5.out.mono hb4.out.size)).mono X.out.2.2.1.size)) _⟩
 ·subst hm
  have k0 : W.cell? ⟨gG, 2, none⟩ = some (.slice (some ⟨gR, 0, none⟩) 2 2) := (blk_cell HF.out.2.2.2.2.2.1 2).trans rfl
  have k1 : W.cell? ⟨gR, 2, none⟩ = some (.int .i64 1) := (blk_cell HF.out.2.2.2.2.1 2).trans rfl
  have kf := blk_frozen HF.out.2.2.2.2.1 2
  go_upto_region 41 with (fail)
  have nN := blk_far HF.out.1 (p := ⟨gR, 2, none⟩) (by show gN ≠ gR; omega) (.int .i64 (1 + d))
  have nS := blk_far HF.out.2.1 (p := ⟨gR, 2, none⟩) (by show gS ≠ gR; omega) (.int .i64 (1 + d))
  have nC0 := blk_far HF.out.2.2.1 (p := ⟨gR, 2, none⟩) (by show gC0 ≠ gR; omega) (.int .i64 (1 + d))
  have nC1 := blk_far HF.out.2.2.2.1 (p := ⟨gR, 2, none⟩) (by show gC1 ≠ gR; omega) (.int .i64 (1 + d))
  have nR := blk_put HF.out.2.2.2.2.1 2 (.int .i64 (1 + d)) rfl
  have nG := blk_far HF.out.2.2.2.2.2.1 (p := ⟨gR, 2, none⟩) (by show gG ≠ gR; omega) (.int .i64 (1 + d))
  have hbB := HF.out.2.2.2.2.2.2.setCell (p := ⟨gR, 2, none⟩) (by show w.heap.size ≤ gR; omega) (.int .i64 (1 + d))
  have cn := gf_names nN
  have cs := gf_syms nS
  have cc0 := gf_conj nC0 rfl (Nat.le_refl _) cs
  have cc1 := gf_conj nC1 rfl (Nat.le_refl _) (Kd.C_nil k56 (W.setCell ⟨gR, 2, none⟩ (.int .i64 (1 + d))))
  have cr := gf_rules nR rfl (Nat.le_refl _) cc0 rfl (Nat.le_refl _) cc1
  have hform : gfForm 7 d = (0, [⟨#[83]⟩, ⟨#[88]⟩], [⟨0, [⟨false, [⟨-1, 5, 9⟩, ⟨1, 0, 0⟩]⟩]⟩, ⟨(1 + d), [⟨false, []⟩]⟩]) := rfl
  have hMB : gram_May.f (0) ([⟨#[83]⟩, ⟨#[88]⟩]) ([⟨0, [⟨false, [⟨-1, 5, 9⟩, ⟨1, 0, 0⟩]⟩]⟩, ⟨(1 + d), [⟨false, []⟩]⟩]) = some false := by
   have h9 := FO.out
   unfold gfOk at h9
   rw [hform, Bool.and_eq_true, Bool.not_eq_true'] at h9
   unfold gram_May.f
   exact congrArg some h9.2
  have hMA : gram_May.f 0 [⟨#[83]⟩, ⟨#[88]⟩] gfTwo = some true := by
   have h9 := FO.out
   unfold gfOk at h9
   rw [Bool.and_eq_true] at h9
   unfold gram_May.f
   exact congrArg some h9.1
  have X := Aside0.mk (And.intro cn (And.intro cr (And.intro hbB (And.intro nG (And.intro hMA hMB)))))
  clear cn cs cc0 cc1 cr hbB nN nS nC0 nC1 nR nG hMA hMB hform FO HF hd1 hd2 FZ kf k0 k1
  have hgG : gG < (W.setCell ⟨gR, 2, none⟩ (.int .i64 (1 + d))).heap.size := blk_lt X.out.2.2.2.1
  generalize W.setCell ⟨gR, 2, none⟩ (.int .i64 (1 + d)) = W9 at *
  have hcs : ∀ w', Below W9.heap.size W9 w' → w'.cell? ⟨gG, 0, none⟩ = some (.int .i64 0) ∧ w'.cell? ⟨gG, 1, none⟩ = some (.slice (some ⟨gN, 0, none⟩) 2 2) ∧ w'.cell? ⟨gG, 2, none⟩ = some (.slice (some ⟨gR, 0, none⟩) 2 2) := fun w' h => ⟨(blk_cell ((h.block gG hgG).trans X.out.2.2.2.1) 0).trans rfl, (blk_cell ((h.block gG hgG).trans X.out.2.2.2.1) 1).trans rfl, (blk_cell ((h.block gG hgG).trans X.out.2.2.2.1) 2).trans rfl⟩
  go_wp2_with (first | (go_at_call 17; refine (gram_May.calls (0) _ 2 ([⟨#[83]⟩, ⟨#[88]⟩]) _ 2 ([⟨0, [⟨false, [⟨-1, 5, 9⟩, ⟨1, 0, 0⟩]⟩]⟩, ⟨(1 + d), [⟨false, []⟩]⟩]) false _ (Kd.C_below X.out.1 hb4.out) (Nat.le_refl _) (Kd.C_below X.out.2.1 hb4.out) (by simp) X.out.2.2.2.2.2).mono ?_; rintro e w5 ⟨rfl, hq⟩; have hb5 := Aside0.mk hq; clear hq) | (go_at_call 17; refine (gram_May.calls 0 _ 2 [⟨#[83]⟩, ⟨#[88]⟩] _ 2 gfTwo true _ Y.out.1 (Nat.le_refl _) Y.out.2.1 (Nat.le_refl _) X.out.2.2.2.2.1).mono ?_; rintro e w4 ⟨rfl, hq⟩; have hb4 := Aside0.mk (Y.out.2.2.trans (hq.mono Y.out.2.2.size)); clear hq; (obtain ⟨j0, j1, j2⟩ := hcs w4 hb4.out)) | (go_at_call 21; (with_reducible refine (templelaw4_Two.at _).mono ?_); rintro e w3 ⟨hN, hS, hC0, hC1, hR, rfl, ht, _, _, _, _, _, _, hb3⟩; have Y := Aside0.mk (And.intro (gf_names ht.n) (And.intro (gf_rules ht.r rfl (by decide) (gf_conj ht.c0 rfl (by decide) (gf_syms ht.s)) rfl (by decide) (gf_conj ht.c1 rfl (Nat.le_refl _) (Kd.C_nil k56 w3))) hb3)); clear ht hb3) | (go_at_call 14; (with_reducible refine (templelaw0_Num.calls 0 0 _ gf_num).mono ?_); rintro e w' ⟨rfl, ⟨nd, rfl⟩⟩))
  go_ret
  exact ⟨rfl, pw_below_drewN (X.out.2.2.1.trans ((hb4.out.trans (hb5.out.mono hb4.out.size)).mono X.out.2.2.1.size)) _⟩
 ·subst hm
  have k0 : W.cell? ⟨gG, 2, none⟩ = some (.slice (some ⟨gR, 0, none⟩) 2 2) := (blk_cell HF.out.2.2.2.2.2.1 2).trans rfl
  have k1 : W.cell? ⟨gR, 3, none⟩ = some (.slice (some ⟨gC1, 0, none⟩) 1 1) := (blk_cell HF.out.2.2.2.2.1 3).trans rfl
  have kf := blk_frozen HF.out.2.2.2.2.1 3
  go_upto_region 41 with (fail)
  have nN := blk_far HF.out.1 (p := ⟨gR, 3, none⟩) (by show gN ≠ gR; omega) (.slice none 0 0)
  have nS := blk_far HF.out.2.1 (p := ⟨gR, 3, none⟩) (by show gS ≠ gR; omega) (.slice none 0 0)
  have nC0 := blk_far HF.out.2.2.1 (p := ⟨gR, 3, none⟩) (by show gC0 ≠ gR; omega) (.slice none 0 0)
  have nC1 := blk_far HF.out.2.2.2.1 (p := ⟨gR, 3, none⟩) (by show gC1 ≠ gR; omega) (.slice none 0 0)
  have nR := blk_put HF.out.2.2.2.2.1 3 (.slice none 0 0) rfl
  have nG := blk_far HF.out.2.2.2.2.2.1 (p := ⟨gR, 3, none⟩) (by show gG ≠ gR; omega) (.slice none 0 0)
  have hbB := HF.out.2.2.2.2.2.2.setCell (p := ⟨gR, 3, none⟩) (by show w.heap.size ≤ gR; omega) (.slice none 0 0)
  have cn := gf_names nN
  have cs := gf_syms nS
  have cc0 := gf_conj nC0 rfl (Nat.le_refl _) cs
  have cc1 := gf_conj nC1 rfl (Nat.le_refl _) (Kd.C_nil k56 (W.setCell ⟨gR, 3, none⟩ (.slice none 0 0)))
  have cr := gf_rules nR rfl (Nat.le_refl _) cc0 rfl (Nat.le_refl _) (Kd.C_nil k54 (W.setCell ⟨gR, 3, none⟩ (.slice none 0 0)))
  have hform : gfForm 8 d = (0, [⟨#[83]⟩, ⟨#[88]⟩], [⟨0, [⟨false, [⟨-1, 5, 9⟩, ⟨1, 0, 0⟩]⟩]⟩, ⟨1, []⟩]) := rfl
  have hMB : gram_May.f (0) ([⟨#[83]⟩, ⟨#[88]⟩]) ([⟨0, [⟨false, [⟨-1, 5, 9⟩, ⟨1, 0, 0⟩]⟩]⟩, ⟨1, []⟩]) = some false := by
   have h9 := FO.out
   unfold gfOk at h9
   rw [hform, Bool.and_eq_true, Bool.not_eq_true'] at h9
   unfold gram_May.f
   exact congrArg some h9.2
  have hMA : gram_May.f 0 [⟨#[83]⟩, ⟨#[88]⟩] gfTwo = some true := by
   have h9 := FO.out
   unfold gfOk at h9
   rw [Bool.and_eq_true] at h9
   unfold gram_May.f
   exact congrArg some h9.1
  have X := Aside0.mk (And.intro cn (And.intro cr (And.intro hbB (And.intro nG (And.intro hMA hMB)))))
  clear cn cs cc0 cc1 cr hbB nN nS nC0 nC1 nR nG hMA hMB hform FO HF hd1 hd2 FZ kf k0 k1
  have hgG : gG < (W.setCell ⟨gR, 3, none⟩ (.slice none 0 0)).heap.size := blk_lt X.out.2.2.2.1
  generalize W.setCell ⟨gR, 3, none⟩ (.slice none 0 0) = W9 at *
  have hcs : ∀ w', Below W9.heap.size W9 w' → w'.cell? ⟨gG, 0, none⟩ = some (.int .i64 0) ∧ w'.cell? ⟨gG, 1, none⟩ = some (.slice (some ⟨gN, 0, none⟩) 2 2) ∧ w'.cell? ⟨gG, 2, none⟩ = some (.slice (some ⟨gR, 0, none⟩) 2 2) := fun w' h => ⟨(blk_cell ((h.block gG hgG).trans X.out.2.2.2.1) 0).trans rfl, (blk_cell ((h.block gG hgG).trans X.out.2.2.2.1) 1).trans rfl, (blk_cell ((h.block gG hgG).trans X.out.2.2.2.1) 2).trans rfl⟩
  go_wp2_with (first | (go_at_call 17; refine (gram_May.calls (0) _ 2 ([⟨#[83]⟩, ⟨#[88]⟩]) _ 2 ([⟨0, [⟨false, [⟨-1, 5, 9⟩, ⟨1, 0, 0⟩]⟩]⟩, ⟨1, []⟩]) false _ (Kd.C_below X.out.1 hb4.out) (Nat.le_refl _) (Kd.C_below X.out.2.1 hb4.out) (by simp) X.out.2.2.2.2.2).mono ?_; rintro e w5 ⟨rfl, hq⟩; have hb5 := Aside0.mk hq; clear hq) | (go_at_call 17; refine (gram_May.calls 0 _ 2 [⟨#[83]⟩, ⟨#[88]⟩] _ 2 gfTwo true _ Y.out.1 (Nat.le_refl _) Y.out.2.1 (Nat.le_refl _) X.out.2.2.2.2.1).mono ?_; rintro e w4 ⟨rfl, hq⟩; have hb4 := Aside0.mk (Y.out.2.2.trans (hq.mono Y.out.2.2.size)); clear hq; (obtain ⟨j0, j1, j2⟩ := hcs w4 hb4.out)) | (go_at_call 21; (with_reducible refine (templelaw4_Two.at _).mono ?_); rintro e w3 ⟨hN, hS, hC0, hC1, hR, rfl, ht, _, _, _, _, _, _, hb3⟩; have Y := Aside0.mk (And.intro (gf_names ht.n) (And.intro (gf_rules ht.r rfl (by decide) (gf_conj ht.c0 rfl (by decide) (gf_syms ht.s)) rfl (by decide) (gf_conj ht.c1 rfl (Nat.le_refl _) (Kd.C_nil k56 w3))) hb3)); clear ht hb3) | (go_at_call 14; (with_reducible refine (templelaw0_Num.calls 0 0 _ gf_num).mono ?_); rintro e w' ⟨rfl, ⟨nd, rfl⟩⟩))
  go_ret
  exact ⟨rfl, pw_below_drewN (X.out.2.2.1.trans ((hb4.out.trans (hb5.out.mono hb4.out.size)).mono X.out.2.2.1.size)) _⟩
 ·subst hm
  have k0 : W.cell? ⟨gG, 2, none⟩ = some (.slice (some ⟨gR, 0, none⟩) 2 2) := (blk_cell HF.out.2.2.2.2.2.1 2).trans rfl
  have k1 : W.cell? ⟨gR, 3, none⟩ = some (.slice (some ⟨gC1, 0, none⟩) 1 1) := (blk_cell HF.out.2.2.2.2.1 3).trans rfl
  have kf := blk_frozen HF.out.2.2.2.2.1 3
  have lt := fun (g : Nat) (cs : Array Value) (e : Nat) (h : W.heap[g]? = some (.cells cs e (0, 0))) => blk_lt h
  have hSz : ∀ w', Below W.heap.size W w' → w'.cell? ⟨gG, 2, none⟩ = some (.slice (some ⟨gR, 0, none⟩) 2 2) ∧ w'.cell? ⟨gR, 3, none⟩ = some (.slice (some ⟨gC1, 0, none⟩) 1 1) ∧ w'.frozen? ⟨gR, 3, none⟩ = false ∧ Aside0 (Below W.heap.size W w') := fun w' h => ⟨(blk_cell ((h.block gG (lt _ _ _ HF.out.2.2.2.2.2.1)).trans HF.out.2.2.2.2.2.1) 2).trans rfl, (blk_cell ((h.block gR (lt _ _ _ HF.out.2.2.2.2.1)).trans HF.out.2.2.2.2.1) 3).trans rfl, blk_frozen ((h.block gR (lt _ _ _ HF.out.2.2.2.2.1)).trans HF.out.2.2.2.2.1) 3, ⟨h⟩⟩
  have hb0 := (Below.refl W.heap.size W).drew
  go_upto_region 26 with (fail)
  clear k0 k1 kf
  refine start_ (n := 8) (S := fun w' => w'.cell? ⟨gG, 2, none⟩ = some (.slice (some ⟨gR, 0, none⟩) 2 2) ∧ w'.cell? ⟨gR, 3, none⟩ = some (.slice (some ⟨gC1, 0, none⟩) 1 1) ∧ w'.frozen? ⟨gR, 3, none⟩ = false ∧ Aside0 (Below W.heap.size W w')) (ds := [7]) #[false, false, false, false, false, false, false, false] (by kernel_rfl) rfl rfl ⟨(hSz _ hb0).1, (hSz _ hb0).2.1, (hSz _ hb0).2.2.1, (hSz _ hb0).2.2.2⟩ (fun hHeld => ?_)
  refine with_tabW gfr26.tab26 gfr26.bits26 (fun HT_ HW_ => ?_)
  refine pure_ (i := 0) (N := some 78) (v := ?_) (a' := ?_) #[true, false, false, false, false, false, false, false] rfl rfl (any_of HT_.out (by kernel_rfl)) (fun _ _ _ h => h) (Or.inl ⟨by rfl, ?_⟩) ?_ ?_
  rotate_left
  ·intro w'
   go_simp
   with_reducible rfl
  rotate_left
  ·simp only [Act.put, List.setIfInBounds_toArray, List.set_cons_zero, List.set_cons_succ, i64_w, i32_w]
   rfl
  refine pure_ (i := 2) (N := some 80) (v := ?_) (a' := ?_) #[true, false, true, false, false, false, false, false] rfl rfl (any_of HT_.out (by kernel_rfl)) (fun _ _ _ h => h) (Or.inl ⟨by rfl, ?_⟩) ?_ ?_
  rotate_left
  ·intro w'
   go_simp
   with_reducible rfl
  rotate_left
  ·simp only [Act.put, List.setIfInBounds_toArray, List.set_cons_zero, List.set_cons_succ, i64_w, i32_w]
   rfl
  refine pure_ (i := 3) (N := some 81) (v := ?_) (a' := ?_) #[true, false, true, true, false, false, false, false] rfl rfl (any_of HT_.out (by kernel_rfl)) (fun _ _ _ h => h) (Or.inl ⟨by rfl, ?_⟩) ?_ ?_
  rotate_left
  ·intro w'
   go_simp
   with_reducible rfl
  rotate_left
  ·simp only [Act.put, List.setIfInBounds_toArray, List.set_cons_zero, List.set_cons_succ, i64_w, i32_w]
   rfl
  refine take_ (i := 1) (N := some 79) (v := ?_) (a' := ?_) #[true, true, true, true, false, false, false, false] rfl rfl (take_ofW HT_.out HW_.out (by kernel_rfl)) (fun _ _ _ h => h) (Or.inl ⟨by rfl, ?_⟩) hHeld ?_ ?_
  rotate_left
  ·rintro w' ⟨s0, s1, s2, s3⟩
   go_simp
   with_reducible rfl
  rotate_left
  ·simp only [Act.put, List.setIfInBounds_toArray, List.set_cons_zero, List.set_cons_succ, i64_w, i32_w]
   rfl
  refine one_ (i := 4) (N := some 82) #[true, true, true, true, true, false, false, false] rfl rfl (one_of HT_.out (by kernel_rfl)) (by decide) (fun K hK => ?_)
  have hw8 : wrap64 (8 + d) = 8 + d := by unfold wrap64; omega
  refine Kd.R_make_step k54 (w0 := W) W.heap.size 54 (by rfl) rfl 49 (.tmp 81) (.tmp 81) rfl (8 + d) (congrArg (Value.int IntKind.i64) hw8) (congrArg (Value.int IntKind.i64) hw8) Try.underlying49 (.agg #[.bool false, .slice none 0 0]) 32 info54 rfl (by decide) (by decide) ⟨false, []⟩ (ok := fun _ => True) (okp := fun _ => True) (k54_mkM _ _ _ ⟨false, []⟩ (Kd.R_nil _ _ _ _ _)) (fun _ _ => trivial) trivial (by omega) (by omega) hb0 hb0.size ?_
  intro v1 w1 ho hb hg hat
  obtain ⟨Am, cm, rfl⟩ := Kd.R_slice ho
  refine hK.out _ _ ⟨(hSz _ hb).1, (hSz _ hb).2.1, (hSz _ hb).2.2.1, (hSz _ hb).2.2.2⟩ (fun hHeld => ?_)
  clear hK K
  refine norm_ (a' := ?_) ?_ ?_
  rotate_left
  ·show Act.put _ (some 82) _ = _
   simp only [Act.put, List.setIfInBounds_toArray, List.set_cons_zero, List.set_cons_succ, i64_w, i32_w]
   rfl
  refine pure_ (i := 5) (N := some 83) (v := ?_) (a' := ?_) #[true, true, true, true, true, true, false, false] rfl rfl (any_of HT_.out (by kernel_rfl)) (fun _ _ _ h => h) (Or.inl ⟨by rfl, ?_⟩) ?_ ?_
  rotate_left
  ·intro w'
   go_simp
   with_reducible rfl
  rotate_left
  ·simp only [Act.put, List.setIfInBounds_toArray, List.set_cons_zero, List.set_cons_succ, i64_w, i32_w]
   rfl
  refine pure_ (i := 6) (N := some 84) (v := ?_) (a' := ?_) #[true, true, true, true, true, true, true, false] rfl rfl (any_of HT_.out (by kernel_rfl)) (fun _ _ _ h => h) (Or.inl ⟨by rfl, ?_⟩) ?_ ?_
  rotate_left
  ·intro w'
   go_simp
   with_reducible rfl
  rotate_left
  ·simp only [Act.put, List.setIfInBounds_toArray, List.set_cons_zero, List.set_cons_succ, i64_w, i32_w]
   rfl
  refine last_ (i := 7) (N := none) #[true, true, true, true, true, true, true, true] rfl rfl (one_of HT_.out (by kernel_rfl)) (by decide) (fun K hK => ?_)
  have q0 := hHeld.2.1
  have q1 := hHeld.2.2.1
  refine skip_ (w1 := ?_) (by rfl) rfl ?_ ?_
  rotate_left
  ·go_simp
   rfl
  refine hK.out _ _ ?_
  clear hK K
  refine done_ (done_of HT_.out (by kernel_rfl)) ?_
  have HO := Aside0.mk (And.intro ho hb)
  have HLT := Aside0.mk lt
  clear HT_ HW_ hHeld q0 q1 hSz hb0 ho hb hg hat hw8 lt
  go_upto_region 41 with (fail)
  have hlo := HLT.out _ _ _ HF.out.2.2.2.2.1
  have hmR := Kd.R_far (p := ⟨gR, 3, none⟩) (Kd.R_mono (Kd.R_bound HO.out.1) (fun k hk => hk.2.1)) (fun k hk => by show k ≠ gR; have : W.heap.size ≤ k := hk; omega) (.slice Am (8 + d).toNat cm)
  have hmC := (Kd.R_reads' hmR).2
  clear hmR hlo
  have nN := blk_far ((HO.out.2.block gN (HLT.out _ _ _ HF.out.1)).trans HF.out.1) (p := ⟨gR, 3, none⟩) (by show gN ≠ gR; omega) (.slice Am (8 + d).toNat cm)
  have nS := blk_far ((HO.out.2.block gS (HLT.out _ _ _ HF.out.2.1)).trans HF.out.2.1) (p := ⟨gR, 3, none⟩) (by show gS ≠ gR; omega) (.slice Am (8 + d).toNat cm)
  have nC0 := blk_far ((HO.out.2.block gC0 (HLT.out _ _ _ HF.out.2.2.1)).trans HF.out.2.2.1) (p := ⟨gR, 3, none⟩) (by show gC0 ≠ gR; omega) (.slice Am (8 + d).toNat cm)
  have nC1 := blk_far ((HO.out.2.block gC1 (HLT.out _ _ _ HF.out.2.2.2.1)).trans HF.out.2.2.2.1) (p := ⟨gR, 3, none⟩) (by show gC1 ≠ gR; omega) (.slice Am (8 + d).toNat cm)
  have nR := blk_put ((HO.out.2.block gR (HLT.out _ _ _ HF.out.2.2.2.2.1)).trans HF.out.2.2.2.2.1) 3 (.slice Am (8 + d).toNat cm) rfl
  have nG := blk_far ((HO.out.2.block gG (HLT.out _ _ _ HF.out.2.2.2.2.2.1)).trans HF.out.2.2.2.2.2.1) (p := ⟨gR, 3, none⟩) (by show gG ≠ gR; omega) (.slice Am (8 + d).toNat cm)
  have hbB := (HF.out.2.2.2.2.2.2.trans (HO.out.2.mono HF.out.2.2.2.2.2.2.size)).setCell (p := ⟨gR, 3, none⟩) (by show w.heap.size ≤ gR; omega) (.slice Am (8 + d).toNat cm)
  have cn := gf_names nN
  have cs := gf_syms nS
  have cc0 := gf_conj nC0 rfl (Nat.le_refl _) cs
  have cc1 := gf_conj nC1 rfl (Nat.le_refl _) (Kd.C_nil k56 (w1.setCell ⟨gR, 3, none⟩ (.slice Am (8 + d).toNat cm)))
  have cr := gf_rules nR rfl (Nat.le_refl _) cc0 (by simp) hmC.1 hmC.2
  have hform : gfForm 9 d = (0, [⟨#[83]⟩, ⟨#[88]⟩], [⟨0, [⟨false, [⟨-1, 5, 9⟩, ⟨1, 0, 0⟩]⟩]⟩, ⟨1, (List.replicate (8 + d).toNat ⟨false, []⟩)⟩]) := rfl
  have hMB : gram_May.f (0) ([⟨#[83]⟩, ⟨#[88]⟩]) ([⟨0, [⟨false, [⟨-1, 5, 9⟩, ⟨1, 0, 0⟩]⟩]⟩, ⟨1, (List.replicate (8 + d).toNat ⟨false, []⟩)⟩]) = some false := by
   have h9 := FO.out
   unfold gfOk at h9
   rw [hform, Bool.and_eq_true, Bool.not_eq_true'] at h9
   unfold gram_May.f
   exact congrArg some h9.2
  have hMA : gram_May.f 0 [⟨#[83]⟩, ⟨#[88]⟩] gfTwo = some true := by
   have h9 := FO.out
   unfold gfOk at h9
   rw [Bool.and_eq_true] at h9
   unfold gram_May.f
   exact congrArg some h9.1
  have X := Aside0.mk (And.intro cn (And.intro cr (And.intro hbB (And.intro nG (And.intro hMA hMB)))))
  clear cn cs cc0 cc1 cr hbB nN nS nC0 nC1 nR nG hMA hMB hform FO HF hd1 hd2 FZ 
  have hgG : gG < (w1.setCell ⟨gR, 3, none⟩ (.slice Am (8 + d).toNat cm)).heap.size := blk_lt X.out.2.2.2.1
  generalize w1.setCell ⟨gR, 3, none⟩ (.slice Am (8 + d).toNat cm) = W9 at *
  have hcs : ∀ w', Below W9.heap.size W9 w' → w'.cell? ⟨gG, 0, none⟩ = some (.int .i64 0) ∧ w'.cell? ⟨gG, 1, none⟩ = some (.slice (some ⟨gN, 0, none⟩) 2 2) ∧ w'.cell? ⟨gG, 2, none⟩ = some (.slice (some ⟨gR, 0, none⟩) 2 2) := fun w' h => ⟨(blk_cell ((h.block gG hgG).trans X.out.2.2.2.1) 0).trans rfl, (blk_cell ((h.block gG hgG).trans X.out.2.2.2.1) 1).trans rfl, (blk_cell ((h.block gG hgG).trans X.out.2.2.2.1) 2).trans rfl⟩
  go_wp2_with (first | (go_at_call 17; refine (gram_May.calls (0) _ 2 ([⟨#[83]⟩, ⟨#[88]⟩]) _ 2 ([⟨0, [⟨false, [⟨-1, 5, 9⟩, ⟨1, 0, 0⟩]⟩]⟩, ⟨1, (List.replicate (8 + d).toNat ⟨false, []⟩)⟩]) false _ (Kd.C_below X.out.1 hb4.out) (Nat.le_refl _) (Kd.C_below X.out.2.1 hb4.out) (by simp) X.out.2.2.2.2.2).mono ?_; rintro e w5 ⟨rfl, hq⟩; have hb5 := Aside0.mk hq; clear hq) | (go_at_call 17; refine (gram_May.calls 0 _ 2 [⟨#[83]⟩, ⟨#[88]⟩] _ 2 gfTwo true _ Y.out.1 (Nat.le_refl _) Y.out.2.1 (Nat.le_refl _) X.out.2.2.2.2.1).mono ?_; rintro e w4 ⟨rfl, hq⟩; have hb4 := Aside0.mk (Y.out.2.2.trans (hq.mono Y.out.2.2.size)); clear hq; (obtain ⟨j0, j1, j2⟩ := hcs w4 hb4.out)) | (go_at_call 21; (with_reducible refine (templelaw4_Two.at _).mono ?_); rintro e w3 ⟨hN, hS, hC0, hC1, hR, rfl, ht, _, _, _, _, _, _, hb3⟩; have Y := Aside0.mk (And.intro (gf_names ht.n) (And.intro (gf_rules ht.r rfl (by decide) (gf_conj ht.c0 rfl (by decide) (gf_syms ht.s)) rfl (by decide) (gf_conj ht.c1 rfl (Nat.le_refl _) (Kd.C_nil k56 w3))) hb3)); clear ht hb3) | (go_at_call 14; (with_reducible refine (templelaw0_Num.calls 0 0 _ gf_num).mono ?_); rintro e w' ⟨rfl, ⟨nd, rfl⟩⟩))
  go_ret
  exact ⟨rfl, pw_below_drewN (X.out.2.2.1.trans ((hb4.out.trans (hb5.out.mono hb4.out.size)).mono X.out.2.2.1.size)) _⟩
 ·subst hm
  have k0 : W.cell? ⟨gG, 2, none⟩ = some (.slice (some ⟨gR, 0, none⟩) 2 2) := (blk_cell HF.out.2.2.2.2.2.1 2).trans rfl
  have k1 : W.cell? ⟨gR, 3, none⟩ = some (.slice (some ⟨gC1, 0, none⟩) 1 1) := (blk_cell HF.out.2.2.2.2.1 3).trans rfl
  have k2 : W.cell? ⟨gC1, 1, none⟩ = some (.slice none 0 0) := (blk_cell HF.out.2.2.2.1 1).trans rfl
  have kf := blk_frozen HF.out.2.2.2.1 1
  have lt := fun (g : Nat) (cs : Array Value) (e : Nat) (h : W.heap[g]? = some (.cells cs e (0, 0))) => blk_lt h
  have hSz : ∀ w', Below W.heap.size W w' → w'.cell? ⟨gG, 2, none⟩ = some (.slice (some ⟨gR, 0, none⟩) 2 2) ∧ w'.cell? ⟨gR, 3, none⟩ = some (.slice (some ⟨gC1, 0, none⟩) 1 1) ∧ w'.cell? ⟨gC1, 1, none⟩ = some (.slice none 0 0) ∧ w'.frozen? ⟨gC1, 1, none⟩ = false ∧ Aside0 (Below W.heap.size W w') := fun w' h => ⟨(blk_cell ((h.block gG (lt _ _ _ HF.out.2.2.2.2.2.1)).trans HF.out.2.2.2.2.2.1) 2).trans rfl, (blk_cell ((h.block gR (lt _ _ _ HF.out.2.2.2.2.1)).trans HF.out.2.2.2.2.1) 3).trans rfl, (blk_cell ((h.block gC1 (lt _ _ _ HF.out.2.2.2.1)).trans HF.out.2.2.2.1) 1).trans rfl, blk_frozen ((h.block gC1 (lt _ _ _ HF.out.2.2.2.1)).trans HF.out.2.2.2.1) 1, ⟨h⟩⟩
  have hb0 := (Below.refl W.heap.size W).drew
  go_upto_region 28 with (fail)
  clear k0 k1 k2 kf
  refine start_ (n := 11) (S := fun w' => w'.cell? ⟨gG, 2, none⟩ = some (.slice (some ⟨gR, 0, none⟩) 2 2) ∧ w'.cell? ⟨gR, 3, none⟩ = some (.slice (some ⟨gC1, 0, none⟩) 1 1) ∧ w'.cell? ⟨gC1, 1, none⟩ = some (.slice none 0 0) ∧ w'.frozen? ⟨gC1, 1, none⟩ = false ∧ Aside0 (Below W.heap.size W w')) (ds := [10]) #[false, false, false, false, false, false, false, false, false, false, false] (by kernel_rfl) rfl rfl ⟨(hSz _ hb0).1, (hSz _ hb0).2.1, (hSz _ hb0).2.2.1, (hSz _ hb0).2.2.2.1, (hSz _ hb0).2.2.2.2⟩ (fun hHeld => ?_)
  refine with_tabW gfr28.tab28 gfr28.bits28 (fun HT_ HW_ => ?_)
  refine pure_ (i := 0) (N := some 87) (v := ?_) (a' := ?_) #[true, false, false, false, false, false, false, false, false, false, false] rfl rfl (any_of HT_.out (by kernel_rfl)) (fun _ _ _ h => h) (Or.inl ⟨by rfl, ?_⟩) ?_ ?_
  rotate_left
  ·intro w'
   go_simp
   with_reducible rfl
  rotate_left
  ·simp only [Act.put, List.setIfInBounds_toArray, List.set_cons_zero, List.set_cons_succ, i64_w, i32_w]
   rfl
  refine pure_ (i := 5) (N := some 92) (v := ?_) (a' := ?_) #[true, false, false, false, false, true, false, false, false, false, false] rfl rfl (any_of HT_.out (by kernel_rfl)) (fun _ _ _ h => h) (Or.inl ⟨by rfl, ?_⟩) ?_ ?_
  rotate_left
  ·intro w'
   go_simp
   with_reducible rfl
  rotate_left
  ·simp only [Act.put, List.setIfInBounds_toArray, List.set_cons_zero, List.set_cons_succ, i64_w, i32_w]
   rfl
  refine pure_ (i := 6) (N := some 93) (v := ?_) (a' := ?_) #[true, false, false, false, false, true, true, false, false, false, false] rfl rfl (any_of HT_.out (by kernel_rfl)) (fun _ _ _ h => h) (Or.inl ⟨by rfl, ?_⟩) ?_ ?_
  rotate_left
  ·intro w'
   go_simp
   with_reducible rfl
  rotate_left
  ·simp only [Act.put, List.setIfInBounds_toArray, List.set_cons_zero, List.set_cons_succ, i64_w, i32_w]
   rfl
  refine take_ (i := 1) (N := some 88) (v := ?_) (a' := ?_) #[true, true, false, false, false, true, true, false, false, false, false] rfl rfl (take_ofW HT_.out HW_.out (by kernel_rfl)) (fun _ _ _ h => h) (Or.inl ⟨by rfl, ?_⟩) hHeld ?_ ?_
  rotate_left
  ·rintro w' ⟨s0, s1, s2, s3, s4⟩
   go_simp
   with_reducible rfl
  rotate_left
  ·simp only [Act.put, List.setIfInBounds_toArray, List.set_cons_zero, List.set_cons_succ, i64_w, i32_w]
   rfl
  refine pure_ (i := 2) (N := some 89) (v := ?_) (a' := ?_) #[true, true, true, false, false, true, true, false, false, false, false] rfl rfl (any_of HT_.out (by kernel_rfl)) (fun _ _ _ h => h) (Or.inl ⟨by rfl, ?_⟩) ?_ ?_
  rotate_left
  ·intro w'
   go_simp
   with_reducible rfl
  rotate_left
  ·simp only [Act.put, List.setIfInBounds_toArray, List.set_cons_zero, List.set_cons_succ, i64_w, i32_w]
   rfl
  refine pure_ (i := 3) (N := some 90) (v := ?_) (a' := ?_) #[true, true, true, true, false, true, true, false, false, false, false] rfl rfl (any_of HT_.out (by kernel_rfl)) (fun _ _ _ h => h) (Or.inl ⟨by rfl, ?_⟩) ?_ ?_
  rotate_left
  ·intro w'
   go_simp
   with_reducible rfl
  rotate_left
  ·simp only [Act.put, List.setIfInBounds_toArray, List.set_cons_zero, List.set_cons_succ, i64_w, i32_w]
   rfl
  refine take_ (i := 4) (N := some 91) (v := ?_) (a' := ?_) #[true, true, true, true, true, true, true, false, false, false, false] rfl rfl (take_ofW HT_.out HW_.out (by kernel_rfl)) (fun _ _ _ h => h) (Or.inl ⟨by rfl, ?_⟩) hHeld ?_ ?_
  rotate_left
  ·rintro w' ⟨s0, s1, s2, s3, s4⟩
   go_simp
   with_reducible rfl
  rotate_left
  ·simp only [Act.put, List.setIfInBounds_toArray, List.set_cons_zero, List.set_cons_succ, i64_w, i32_w]
   rfl
  refine one_ (i := 7) (N := some 94) #[true, true, true, true, true, true, true, true, false, false, false] rfl rfl (one_of HT_.out (by kernel_rfl)) (by decide) (fun K hK => ?_)
  have hw8 : wrap64 (64 + d) = 64 + d := by unfold wrap64; omega
  refine Kd.R_make_step k56 (w0 := W) W.heap.size 56 (by rfl) rfl 52 (.tmp 93) (.tmp 93) rfl (64 + d) (congrArg (Value.int IntKind.i64) hw8) (congrArg (Value.int IntKind.i64) hw8) Try.underlying52 (.agg #[.int .i64 0, .int .i64 0, .int .i64 0]) 24 info56 rfl (by decide) (by decide) ⟨0, 0, 0⟩ (ok := fun _ => True) (okp := fun _ => True) (k56_mkM _ _ _ ⟨0, 0, 0⟩) (fun _ _ => trivial) trivial (by omega) (by omega) hb0 hb0.size ?_
  intro v1 w1 ho hb hg hat
  obtain ⟨Am, cm, rfl⟩ := Kd.R_slice ho
  refine hK.out _ _ ⟨(hSz _ hb).1, (hSz _ hb).2.1, (hSz _ hb).2.2.1, (hSz _ hb).2.2.2.1, (hSz _ hb).2.2.2.2⟩ (fun hHeld => ?_)
  clear hK K
  refine norm_ (a' := ?_) ?_ ?_
  rotate_left
  ·show Act.put _ (some 94) _ = _
   simp only [Act.put, List.setIfInBounds_toArray, List.set_cons_zero, List.set_cons_succ, i64_w, i32_w]
   rfl
  refine pure_ (i := 8) (N := some 95) (v := ?_) (a' := ?_) #[true, true, true, true, true, true, true, true, true, false, false] rfl rfl (any_of HT_.out (by kernel_rfl)) (fun _ _ _ h => h) (Or.inl ⟨by rfl, ?_⟩) ?_ ?_
  rotate_left
  ·intro w'
   go_simp
   with_reducible rfl
  rotate_left
  ·simp only [Act.put, List.setIfInBounds_toArray, List.set_cons_zero, List.set_cons_succ, i64_w, i32_w]
   rfl
  refine pure_ (i := 9) (N := some 96) (v := ?_) (a' := ?_) #[true, true, true, true, true, true, true, true, true, true, false] rfl rfl (any_of HT_.out (by kernel_rfl)) (fun _ _ _ h => h) (Or.inl ⟨by rfl, ?_⟩) ?_ ?_
  rotate_left
  ·intro w'
   go_simp
   with_reducible rfl
  rotate_left
  ·simp only [Act.put, List.setIfInBounds_toArray, List.set_cons_zero, List.set_cons_succ, i64_w, i32_w]
   rfl
  refine last_ (i := 10) (N := none) #[true, true, true, true, true, true, true, true, true, true, true] rfl rfl (one_of HT_.out (by kernel_rfl)) (by decide) (fun K hK => ?_)
  have q0 := hHeld.2.2.1
  have q1 := hHeld.2.2.2.1
  refine skip_ (w1 := ?_) (by rfl) rfl ?_ ?_
  rotate_left
  ·go_simp
   rfl
  refine hK.out _ _ ?_
  clear hK K
  refine done_ (done_of HT_.out (by kernel_rfl)) ?_
  have HO := Aside0.mk (And.intro ho hb)
  have HLT := Aside0.mk lt
  clear HT_ HW_ hHeld q0 q1 hSz hb0 ho hb hg hat hw8 lt
  go_upto_region 41 with (fail)
  have hlo := HLT.out _ _ _ HF.out.2.2.2.1
  have hmR := Kd.R_far (p := ⟨gC1, 1, none⟩) (Kd.R_mono (Kd.R_bound HO.out.1) (fun k hk => hk.2.1)) (fun k hk => by show k ≠ gC1; have : W.heap.size ≤ k := hk; omega) (.slice Am (64 + d).toNat cm)
  have hmC := (Kd.R_reads' hmR).2
  clear hmR hlo
  have nN := blk_far ((HO.out.2.block gN (HLT.out _ _ _ HF.out.1)).trans HF.out.1) (p := ⟨gC1, 1, none⟩) (by show gN ≠ gC1; omega) (.slice Am (64 + d).toNat cm)
  have nS := blk_far ((HO.out.2.block gS (HLT.out _ _ _ HF.out.2.1)).trans HF.out.2.1) (p := ⟨gC1, 1, none⟩) (by show gS ≠ gC1; omega) (.slice Am (64 + d).toNat cm)
  have nC0 := blk_far ((HO.out.2.block gC0 (HLT.out _ _ _ HF.out.2.2.1)).trans HF.out.2.2.1) (p := ⟨gC1, 1, none⟩) (by show gC0 ≠ gC1; omega) (.slice Am (64 + d).toNat cm)
  have nC1 := blk_put ((HO.out.2.block gC1 (HLT.out _ _ _ HF.out.2.2.2.1)).trans HF.out.2.2.2.1) 1 (.slice Am (64 + d).toNat cm) rfl
  have nR := blk_far ((HO.out.2.block gR (HLT.out _ _ _ HF.out.2.2.2.2.1)).trans HF.out.2.2.2.2.1) (p := ⟨gC1, 1, none⟩) (by show gR ≠ gC1; omega) (.slice Am (64 + d).toNat cm)
  have nG := blk_far ((HO.out.2.block gG (HLT.out _ _ _ HF.out.2.2.2.2.2.1)).trans HF.out.2.2.2.2.2.1) (p := ⟨gC1, 1, none⟩) (by show gG ≠ gC1; omega) (.slice Am (64 + d).toNat cm)
  have hbB := (HF.out.2.2.2.2.2.2.trans (HO.out.2.mono HF.out.2.2.2.2.2.2.size)).setCell (p := ⟨gC1, 1, none⟩) (by show w.heap.size ≤ gC1; omega) (.slice Am (64 + d).toNat cm)
  have cn := gf_names nN
  have cs := gf_syms nS
  have cc0 := gf_conj nC0 rfl (Nat.le_refl _) cs
  have cc1 := gf_conj nC1 (by simp) hmC.1 hmC.2
  have cr := gf_rules nR rfl (Nat.le_refl _) cc0 rfl (Nat.le_refl _) cc1
  have hform : gfForm 10 d = (0, [⟨#[83]⟩, ⟨#[88]⟩], [⟨0, [⟨false, [⟨-1, 5, 9⟩, ⟨1, 0, 0⟩]⟩]⟩, ⟨1, [⟨false, List.replicate (64 + d).toNat ⟨0, 0, 0⟩⟩]⟩]) := rfl
  have hMB : gram_May.f (0) ([⟨#[83]⟩, ⟨#[88]⟩]) ([⟨0, [⟨false, [⟨-1, 5, 9⟩, ⟨1, 0, 0⟩]⟩]⟩, ⟨1, [⟨false, List.replicate (64 + d).toNat ⟨0, 0, 0⟩⟩]⟩]) = some false := by
   have h9 := FO.out
   unfold gfOk at h9
   rw [hform, Bool.and_eq_true, Bool.not_eq_true'] at h9
   unfold gram_May.f
   exact congrArg some h9.2
  have hMA : gram_May.f 0 [⟨#[83]⟩, ⟨#[88]⟩] gfTwo = some true := by
   have h9 := FO.out
   unfold gfOk at h9
   rw [Bool.and_eq_true] at h9
   unfold gram_May.f
   exact congrArg some h9.1
  have X := Aside0.mk (And.intro cn (And.intro cr (And.intro hbB (And.intro nG (And.intro hMA hMB)))))
  clear cn cs cc0 cc1 cr hbB nN nS nC0 nC1 nR nG hMA hMB hform FO HF hd1 hd2 FZ 
  have hgG : gG < (w1.setCell ⟨gC1, 1, none⟩ (.slice Am (64 + d).toNat cm)).heap.size := blk_lt X.out.2.2.2.1
  generalize w1.setCell ⟨gC1, 1, none⟩ (.slice Am (64 + d).toNat cm) = W9 at *
  have hcs : ∀ w', Below W9.heap.size W9 w' → w'.cell? ⟨gG, 0, none⟩ = some (.int .i64 0) ∧ w'.cell? ⟨gG, 1, none⟩ = some (.slice (some ⟨gN, 0, none⟩) 2 2) ∧ w'.cell? ⟨gG, 2, none⟩ = some (.slice (some ⟨gR, 0, none⟩) 2 2) := fun w' h => ⟨(blk_cell ((h.block gG hgG).trans X.out.2.2.2.1) 0).trans rfl, (blk_cell ((h.block gG hgG).trans X.out.2.2.2.1) 1).trans rfl, (blk_cell ((h.block gG hgG).trans X.out.2.2.2.1) 2).trans rfl⟩
  go_wp2_with (first | (go_at_call 17; refine (gram_May.calls (0) _ 2 ([⟨#[83]⟩, ⟨#[88]⟩]) _ 2 ([⟨0, [⟨false, [⟨-1, 5, 9⟩, ⟨1, 0, 0⟩]⟩]⟩, ⟨1, [⟨false, List.replicate (64 + d).toNat ⟨0, 0, 0⟩⟩]⟩]) false _ (Kd.C_below X.out.1 hb4.out) (Nat.le_refl _) (Kd.C_below X.out.2.1 hb4.out) (by simp) X.out.2.2.2.2.2).mono ?_; rintro e w5 ⟨rfl, hq⟩; have hb5 := Aside0.mk hq; clear hq) | (go_at_call 17; refine (gram_May.calls 0 _ 2 [⟨#[83]⟩, ⟨#[88]⟩] _ 2 gfTwo true _ Y.out.1 (Nat.le_refl _) Y.out.2.1 (Nat.le_refl _) X.out.2.2.2.2.1).mono ?_; rintro e w4 ⟨rfl, hq⟩; have hb4 := Aside0.mk (Y.out.2.2.trans (hq.mono Y.out.2.2.size)); clear hq; (obtain ⟨j0, j1, j2⟩ := hcs w4 hb4.out)) | (go_at_call 21; (with_reducible refine (templelaw4_Two.at _).mono ?_); rintro e w3 ⟨hN, hS, hC0, hC1, hR, rfl, ht, _, _, _, _, _, _, hb3⟩; have Y := Aside0.mk (And.intro (gf_names ht.n) (And.intro (gf_rules ht.r rfl (by decide) (gf_conj ht.c0 rfl (by decide) (gf_syms ht.s)) rfl (by decide) (gf_conj ht.c1 rfl (Nat.le_refl _) (Kd.C_nil k56 w3))) hb3)); clear ht hb3) | (go_at_call 14; (with_reducible refine (templelaw0_Num.calls 0 0 _ gf_num).mono ?_); rintro e w' ⟨rfl, ⟨nd, rfl⟩⟩))
  go_ret
  exact ⟨rfl, pw_below_drewN (X.out.2.2.1.trans ((hb4.out.trans (hb5.out.mono hb4.out.size)).mono X.out.2.2.1.size)) _⟩
 ·subst hm
  have k0 : W.cell? ⟨gG, 2, none⟩ = some (.slice (some ⟨gR, 0, none⟩) 2 2) := (blk_cell HF.out.2.2.2.2.2.1 2).trans rfl
  have k1 : W.cell? ⟨gR, 1, none⟩ = some (.slice (some ⟨gC0, 0, none⟩) 1 1) := (blk_cell HF.out.2.2.2.2.1 1).trans rfl
  have k2 : W.cell? ⟨gC0, 1, none⟩ = some (.slice (some ⟨gS, 0, none⟩) 2 2) := (blk_cell HF.out.2.2.1 1).trans rfl
  have k3 : W.cell? ⟨gS, 1, none⟩ = some (.int .i64 5) := (blk_cell HF.out.2.1 1).trans rfl
  have kf := blk_frozen HF.out.2.1 1
  go_upto_region 41 with (fail)
  have nN := blk_far HF.out.1 (p := ⟨gS, 1, none⟩) (by show gN ≠ gS; omega) (.int .i64 (9 + d))
  have nS := blk_put HF.out.2.1 1 (.int .i64 (9 + d)) rfl
  have nC0 := blk_far HF.out.2.2.1 (p := ⟨gS, 1, none⟩) (by show gC0 ≠ gS; omega) (.int .i64 (9 + d))
  have nC1 := blk_far HF.out.2.2.2.1 (p := ⟨gS, 1, none⟩) (by show gC1 ≠ gS; omega) (.int .i64 (9 + d))
  have nR := blk_far HF.out.2.2.2.2.1 (p := ⟨gS, 1, none⟩) (by show gR ≠ gS; omega) (.int .i64 (9 + d))
  have nG := blk_far HF.out.2.2.2.2.2.1 (p := ⟨gS, 1, none⟩) (by show gG ≠ gS; omega) (.int .i64 (9 + d))
  have hbB := HF.out.2.2.2.2.2.2.setCell (p := ⟨gS, 1, none⟩) (by show w.heap.size ≤ gS; omega) (.int .i64 (9 + d))
  have cn := gf_names nN
  have cs := gf_syms nS
  have cc0 := gf_conj nC0 rfl (Nat.le_refl _) cs
  have cc1 := gf_conj nC1 rfl (Nat.le_refl _) (Kd.C_nil k56 (W.setCell ⟨gS, 1, none⟩ (.int .i64 (9 + d))))
  have cr := gf_rules nR rfl (Nat.le_refl _) cc0 rfl (Nat.le_refl _) cc1
  have hform : gfForm 11 d = (0, [⟨#[83]⟩, ⟨#[88]⟩], [⟨0, [⟨false, [⟨-1, 9 + d, 9⟩, ⟨1, 0, 0⟩]⟩]⟩, ⟨1, [⟨false, []⟩]⟩]) := rfl
  have hMB : gram_May.f (0) ([⟨#[83]⟩, ⟨#[88]⟩]) ([⟨0, [⟨false, [⟨-1, 9 + d, 9⟩, ⟨1, 0, 0⟩]⟩]⟩, ⟨1, [⟨false, []⟩]⟩]) = some false := by
   have h9 := FO.out
   unfold gfOk at h9
   rw [hform, Bool.and_eq_true, Bool.not_eq_true'] at h9
   unfold gram_May.f
   exact congrArg some h9.2
  have hMA : gram_May.f 0 [⟨#[83]⟩, ⟨#[88]⟩] gfTwo = some true := by
   have h9 := FO.out
   unfold gfOk at h9
   rw [Bool.and_eq_true] at h9
   unfold gram_May.f
   exact congrArg some h9.1
  have X := Aside0.mk (And.intro cn (And.intro cr (And.intro hbB (And.intro nG (And.intro hMA hMB)))))
  clear cn cs cc0 cc1 cr hbB nN nS nC0 nC1 nR nG hMA hMB hform FO HF hd1 hd2 FZ kf k0 k1 k2 k3
  have hgG : gG < (W.setCell ⟨gS, 1, none⟩ (.int .i64 (9 + d))).heap.size := blk_lt X.out.2.2.2.1
  generalize W.setCell ⟨gS, 1, none⟩ (.int .i64 (9 + d)) = W9 at *
  have hcs : ∀ w', Below W9.heap.size W9 w' → w'.cell? ⟨gG, 0, none⟩ = some (.int .i64 0) ∧ w'.cell? ⟨gG, 1, none⟩ = some (.slice (some ⟨gN, 0, none⟩) 2 2) ∧ w'.cell? ⟨gG, 2, none⟩ = some (.slice (some ⟨gR, 0, none⟩) 2 2) := fun w' h => ⟨(blk_cell ((h.block gG hgG).trans X.out.2.2.2.1) 0).trans rfl, (blk_cell ((h.block gG hgG).trans X.out.2.2.2.1) 1).trans rfl, (blk_cell ((h.block gG hgG).trans X.out.2.2.2.1) 2).trans rfl⟩
  go_wp2_with (first | (go_at_call 17; refine (gram_May.calls (0) _ 2 ([⟨#[83]⟩, ⟨#[88]⟩]) _ 2 ([⟨0, [⟨false, [⟨-1, 9 + d, 9⟩, ⟨1, 0, 0⟩]⟩]⟩, ⟨1, [⟨false, []⟩]⟩]) false _ (Kd.C_below X.out.1 hb4.out) (Nat.le_refl _) (Kd.C_below X.out.2.1 hb4.out) (by simp) X.out.2.2.2.2.2).mono ?_; rintro e w5 ⟨rfl, hq⟩; have hb5 := Aside0.mk hq; clear hq) | (go_at_call 17; refine (gram_May.calls 0 _ 2 [⟨#[83]⟩, ⟨#[88]⟩] _ 2 gfTwo true _ Y.out.1 (Nat.le_refl _) Y.out.2.1 (Nat.le_refl _) X.out.2.2.2.2.1).mono ?_; rintro e w4 ⟨rfl, hq⟩; have hb4 := Aside0.mk (Y.out.2.2.trans (hq.mono Y.out.2.2.size)); clear hq; (obtain ⟨j0, j1, j2⟩ := hcs w4 hb4.out)) | (go_at_call 21; (with_reducible refine (templelaw4_Two.at _).mono ?_); rintro e w3 ⟨hN, hS, hC0, hC1, hR, rfl, ht, _, _, _, _, _, _, hb3⟩; have Y := Aside0.mk (And.intro (gf_names ht.n) (And.intro (gf_rules ht.r rfl (by decide) (gf_conj ht.c0 rfl (by decide) (gf_syms ht.s)) rfl (by decide) (gf_conj ht.c1 rfl (Nat.le_refl _) (Kd.C_nil k56 w3))) hb3)); clear ht hb3) | (go_at_call 14; (with_reducible refine (templelaw0_Num.calls 0 0 _ gf_num).mono ?_); rintro e w' ⟨rfl, ⟨nd, rfl⟩⟩))
  go_ret
  exact ⟨rfl, pw_below_drewN (X.out.2.2.1.trans ((hb4.out.trans (hb5.out.mono hb4.out.size)).mono X.out.2.2.1.size)) _⟩
 ·subst hm
  have k0 : W.cell? ⟨gG, 2, none⟩ = some (.slice (some ⟨gR, 0, none⟩) 2 2) := (blk_cell HF.out.2.2.2.2.2.1 2).trans rfl
  have k1 : W.cell? ⟨gR, 1, none⟩ = some (.slice (some ⟨gC0, 0, none⟩) 1 1) := (blk_cell HF.out.2.2.2.2.1 1).trans rfl
  have k2 : W.cell? ⟨gC0, 1, none⟩ = some (.slice (some ⟨gS, 0, none⟩) 2 2) := (blk_cell HF.out.2.2.1 1).trans rfl
  have k3 : W.cell? ⟨gS, 2, none⟩ = some (.int .i64 9) := (blk_cell HF.out.2.1 2).trans rfl
  have kf := blk_frozen HF.out.2.1 2
  go_upto_region 41 with (fail)
  have nN := blk_far HF.out.1 (p := ⟨gS, 2, none⟩) (by show gN ≠ gS; omega) (.int .i64 (255 + d))
  have nS := blk_put HF.out.2.1 2 (.int .i64 (255 + d)) rfl
  have nC0 := blk_far HF.out.2.2.1 (p := ⟨gS, 2, none⟩) (by show gC0 ≠ gS; omega) (.int .i64 (255 + d))
  have nC1 := blk_far HF.out.2.2.2.1 (p := ⟨gS, 2, none⟩) (by show gC1 ≠ gS; omega) (.int .i64 (255 + d))
  have nR := blk_far HF.out.2.2.2.2.1 (p := ⟨gS, 2, none⟩) (by show gR ≠ gS; omega) (.int .i64 (255 + d))
  have nG := blk_far HF.out.2.2.2.2.2.1 (p := ⟨gS, 2, none⟩) (by show gG ≠ gS; omega) (.int .i64 (255 + d))
  have hbB := HF.out.2.2.2.2.2.2.setCell (p := ⟨gS, 2, none⟩) (by show w.heap.size ≤ gS; omega) (.int .i64 (255 + d))
  have cn := gf_names nN
  have cs := gf_syms nS
  have cc0 := gf_conj nC0 rfl (Nat.le_refl _) cs
  have cc1 := gf_conj nC1 rfl (Nat.le_refl _) (Kd.C_nil k56 (W.setCell ⟨gS, 2, none⟩ (.int .i64 (255 + d))))
  have cr := gf_rules nR rfl (Nat.le_refl _) cc0 rfl (Nat.le_refl _) cc1
  have hform : gfForm 12 d = (0, [⟨#[83]⟩, ⟨#[88]⟩], [⟨0, [⟨false, [⟨-1, 5, 255 + d⟩, ⟨1, 0, 0⟩]⟩]⟩, ⟨1, [⟨false, []⟩]⟩]) := rfl
  have hMB : gram_May.f (0) ([⟨#[83]⟩, ⟨#[88]⟩]) ([⟨0, [⟨false, [⟨-1, 5, 255 + d⟩, ⟨1, 0, 0⟩]⟩]⟩, ⟨1, [⟨false, []⟩]⟩]) = some false := by
   have h9 := FO.out
   unfold gfOk at h9
   rw [hform, Bool.and_eq_true, Bool.not_eq_true'] at h9
   unfold gram_May.f
   exact congrArg some h9.2
  have hMA : gram_May.f 0 [⟨#[83]⟩, ⟨#[88]⟩] gfTwo = some true := by
   have h9 := FO.out
   unfold gfOk at h9
   rw [Bool.and_eq_true] at h9
   unfold gram_May.f
   exact congrArg some h9.1
  have X := Aside0.mk (And.intro cn (And.intro cr (And.intro hbB (And.intro nG (And.intro hMA hMB)))))
  clear cn cs cc0 cc1 cr hbB nN nS nC0 nC1 nR nG hMA hMB hform FO HF hd1 hd2 FZ kf k0 k1 k2 k3
  have hgG : gG < (W.setCell ⟨gS, 2, none⟩ (.int .i64 (255 + d))).heap.size := blk_lt X.out.2.2.2.1
  generalize W.setCell ⟨gS, 2, none⟩ (.int .i64 (255 + d)) = W9 at *
  have hcs : ∀ w', Below W9.heap.size W9 w' → w'.cell? ⟨gG, 0, none⟩ = some (.int .i64 0) ∧ w'.cell? ⟨gG, 1, none⟩ = some (.slice (some ⟨gN, 0, none⟩) 2 2) ∧ w'.cell? ⟨gG, 2, none⟩ = some (.slice (some ⟨gR, 0, none⟩) 2 2) := fun w' h => ⟨(blk_cell ((h.block gG hgG).trans X.out.2.2.2.1) 0).trans rfl, (blk_cell ((h.block gG hgG).trans X.out.2.2.2.1) 1).trans rfl, (blk_cell ((h.block gG hgG).trans X.out.2.2.2.1) 2).trans rfl⟩
  go_wp2_with (first | (go_at_call 17; refine (gram_May.calls (0) _ 2 ([⟨#[83]⟩, ⟨#[88]⟩]) _ 2 ([⟨0, [⟨false, [⟨-1, 5, 255 + d⟩, ⟨1, 0, 0⟩]⟩]⟩, ⟨1, [⟨false, []⟩]⟩]) false _ (Kd.C_below X.out.1 hb4.out) (Nat.le_refl _) (Kd.C_below X.out.2.1 hb4.out) (by simp) X.out.2.2.2.2.2).mono ?_; rintro e w5 ⟨rfl, hq⟩; have hb5 := Aside0.mk hq; clear hq) | (go_at_call 17; refine (gram_May.calls 0 _ 2 [⟨#[83]⟩, ⟨#[88]⟩] _ 2 gfTwo true _ Y.out.1 (Nat.le_refl _) Y.out.2.1 (Nat.le_refl _) X.out.2.2.2.2.1).mono ?_; rintro e w4 ⟨rfl, hq⟩; have hb4 := Aside0.mk (Y.out.2.2.trans (hq.mono Y.out.2.2.size)); clear hq; (obtain ⟨j0, j1, j2⟩ := hcs w4 hb4.out)) | (go_at_call 21; (with_reducible refine (templelaw4_Two.at _).mono ?_); rintro e w3 ⟨hN, hS, hC0, hC1, hR, rfl, ht, _, _, _, _, _, _, hb3⟩; have Y := Aside0.mk (And.intro (gf_names ht.n) (And.intro (gf_rules ht.r rfl (by decide) (gf_conj ht.c0 rfl (by decide) (gf_syms ht.s)) rfl (by decide) (gf_conj ht.c1 rfl (Nat.le_refl _) (Kd.C_nil k56 w3))) hb3)); clear ht hb3) | (go_at_call 14; (with_reducible refine (templelaw0_Num.calls 0 0 _ gf_num).mono ?_); rintro e w' ⟨rfl, ⟨nd, rfl⟩⟩))
  go_ret
  exact ⟨rfl, pw_below_drewN (X.out.2.2.1.trans ((hb4.out.trans (hb5.out.mono hb4.out.size)).mono X.out.2.2.1.size)) _⟩
 ·subst hm
  have k0 : W.cell? ⟨gG, 2, none⟩ = some (.slice (some ⟨gR, 0, none⟩) 2 2) := (blk_cell HF.out.2.2.2.2.2.1 2).trans rfl
  have k1 : W.cell? ⟨gR, 1, none⟩ = some (.slice (some ⟨gC0, 0, none⟩) 1 1) := (blk_cell HF.out.2.2.2.2.1 1).trans rfl
  have k2 : W.cell? ⟨gC0, 1, none⟩ = some (.slice (some ⟨gS, 0, none⟩) 2 2) := (blk_cell HF.out.2.2.1 1).trans rfl
  have k3 : W.cell? ⟨gS, 1, none⟩ = some (.int .i64 5) := (blk_cell HF.out.2.1 1).trans rfl
  have kf := blk_frozen HF.out.2.1 1
  go_upto_region 41 with (fail)
  have nN := blk_far HF.out.1 (p := ⟨gS, 1, none⟩) (by show gN ≠ gS; omega) (.int .i64 (-d))
  have nS := blk_put HF.out.2.1 1 (.int .i64 (-d)) rfl
  have nC0 := blk_far HF.out.2.2.1 (p := ⟨gS, 1, none⟩) (by show gC0 ≠ gS; omega) (.int .i64 (-d))
  have nC1 := blk_far HF.out.2.2.2.1 (p := ⟨gS, 1, none⟩) (by show gC1 ≠ gS; omega) (.int .i64 (-d))
  have nR := blk_far HF.out.2.2.2.2.1 (p := ⟨gS, 1, none⟩) (by show gR ≠ gS; omega) (.int .i64 (-d))
  have nG := blk_far HF.out.2.2.2.2.2.1 (p := ⟨gS, 1, none⟩) (by show gG ≠ gS; omega) (.int .i64 (-d))
  have hbB := HF.out.2.2.2.2.2.2.setCell (p := ⟨gS, 1, none⟩) (by show w.heap.size ≤ gS; omega) (.int .i64 (-d))
  have cn := gf_names nN
  have cs := gf_syms nS
  have cc0 := gf_conj nC0 rfl (Nat.le_refl _) cs
  have cc1 := gf_conj nC1 rfl (Nat.le_refl _) (Kd.C_nil k56 (W.setCell ⟨gS, 1, none⟩ (.int .i64 (-d))))
  have cr := gf_rules nR rfl (Nat.le_refl _) cc0 rfl (Nat.le_refl _) cc1
  have hform : gfForm 13 d = (0, [⟨#[83]⟩, ⟨#[88]⟩], [⟨0, [⟨false, [⟨-1, -d, 9⟩, ⟨1, 0, 0⟩]⟩]⟩, ⟨1, [⟨false, []⟩]⟩]) := rfl
  have hMB : gram_May.f (0) ([⟨#[83]⟩, ⟨#[88]⟩]) ([⟨0, [⟨false, [⟨-1, -d, 9⟩, ⟨1, 0, 0⟩]⟩]⟩, ⟨1, [⟨false, []⟩]⟩]) = some false := by
   have h9 := FO.out
   unfold gfOk at h9
   rw [hform, Bool.and_eq_true, Bool.not_eq_true'] at h9
   unfold gram_May.f
   exact congrArg some h9.2
  have hMA : gram_May.f 0 [⟨#[83]⟩, ⟨#[88]⟩] gfTwo = some true := by
   have h9 := FO.out
   unfold gfOk at h9
   rw [Bool.and_eq_true] at h9
   unfold gram_May.f
   exact congrArg some h9.1
  have X := Aside0.mk (And.intro cn (And.intro cr (And.intro hbB (And.intro nG (And.intro hMA hMB)))))
  clear cn cs cc0 cc1 cr hbB nN nS nC0 nC1 nR nG hMA hMB hform FO HF hd1 hd2 FZ kf k0 k1 k2 k3
  have hgG : gG < (W.setCell ⟨gS, 1, none⟩ (.int .i64 (-d))).heap.size := blk_lt X.out.2.2.2.1
  generalize W.setCell ⟨gS, 1, none⟩ (.int .i64 (-d)) = W9 at *
  have hcs : ∀ w', Below W9.heap.size W9 w' → w'.cell? ⟨gG, 0, none⟩ = some (.int .i64 0) ∧ w'.cell? ⟨gG, 1, none⟩ = some (.slice (some ⟨gN, 0, none⟩) 2 2) ∧ w'.cell? ⟨gG, 2, none⟩ = some (.slice (some ⟨gR, 0, none⟩) 2 2) := fun w' h => ⟨(blk_cell ((h.block gG hgG).trans X.out.2.2.2.1) 0).trans rfl, (blk_cell ((h.block gG hgG).trans X.out.2.2.2.1) 1).trans rfl, (blk_cell ((h.block gG hgG).trans X.out.2.2.2.1) 2).trans rfl⟩
  go_wp2_with (first | (go_at_call 17; refine (gram_May.calls (0) _ 2 ([⟨#[83]⟩, ⟨#[88]⟩]) _ 2 ([⟨0, [⟨false, [⟨-1, -d, 9⟩, ⟨1, 0, 0⟩]⟩]⟩, ⟨1, [⟨false, []⟩]⟩]) false _ (Kd.C_below X.out.1 hb4.out) (Nat.le_refl _) (Kd.C_below X.out.2.1 hb4.out) (by simp) X.out.2.2.2.2.2).mono ?_; rintro e w5 ⟨rfl, hq⟩; have hb5 := Aside0.mk hq; clear hq) | (go_at_call 17; refine (gram_May.calls 0 _ 2 [⟨#[83]⟩, ⟨#[88]⟩] _ 2 gfTwo true _ Y.out.1 (Nat.le_refl _) Y.out.2.1 (Nat.le_refl _) X.out.2.2.2.2.1).mono ?_; rintro e w4 ⟨rfl, hq⟩; have hb4 := Aside0.mk (Y.out.2.2.trans (hq.mono Y.out.2.2.size)); clear hq; (obtain ⟨j0, j1, j2⟩ := hcs w4 hb4.out)) | (go_at_call 21; (with_reducible refine (templelaw4_Two.at _).mono ?_); rintro e w3 ⟨hN, hS, hC0, hC1, hR, rfl, ht, _, _, _, _, _, _, hb3⟩; have Y := Aside0.mk (And.intro (gf_names ht.n) (And.intro (gf_rules ht.r rfl (by decide) (gf_conj ht.c0 rfl (by decide) (gf_syms ht.s)) rfl (by decide) (gf_conj ht.c1 rfl (Nat.le_refl _) (Kd.C_nil k56 w3))) hb3)); clear ht hb3) | (go_at_call 14; (with_reducible refine (templelaw0_Num.calls 0 0 _ gf_num).mono ?_); rintro e w' ⟨rfl, ⟨nd, rfl⟩⟩))
  go_ret
  exact ⟨rfl, pw_below_drewN (X.out.2.2.1.trans ((hb4.out.trans (hb5.out.mono hb4.out.size)).mono X.out.2.2.1.size)) _⟩
 ·subst hm
  have k0 : W.cell? ⟨gG, 2, none⟩ = some (.slice (some ⟨gR, 0, none⟩) 2 2) := (blk_cell HF.out.2.2.2.2.2.1 2).trans rfl
  have k1 : W.cell? ⟨gR, 1, none⟩ = some (.slice (some ⟨gC0, 0, none⟩) 1 1) := (blk_cell HF.out.2.2.2.2.1 1).trans rfl
  have k2 : W.cell? ⟨gC0, 1, none⟩ = some (.slice (some ⟨gS, 0, none⟩) 2 2) := (blk_cell HF.out.2.2.1 1).trans rfl
  have k3 : W.cell? ⟨gS, 3, none⟩ = some (.int .i64 1) := (blk_cell HF.out.2.1 3).trans rfl
  have kf := blk_frozen HF.out.2.1 3
  go_upto_region 41 with (fail)
  have nN := blk_far HF.out.1 (p := ⟨gS, 3, none⟩) (by show gN ≠ gS; omega) (.int .i64 (1 + d))
  have nS := blk_put HF.out.2.1 3 (.int .i64 (1 + d)) rfl
  have nC0 := blk_far HF.out.2.2.1 (p := ⟨gS, 3, none⟩) (by show gC0 ≠ gS; omega) (.int .i64 (1 + d))
  have nC1 := blk_far HF.out.2.2.2.1 (p := ⟨gS, 3, none⟩) (by show gC1 ≠ gS; omega) (.int .i64 (1 + d))
  have nR := blk_far HF.out.2.2.2.2.1 (p := ⟨gS, 3, none⟩) (by show gR ≠ gS; omega) (.int .i64 (1 + d))
  have nG := blk_far HF.out.2.2.2.2.2.1 (p := ⟨gS, 3, none⟩) (by show gG ≠ gS; omega) (.int .i64 (1 + d))
  have hbB := HF.out.2.2.2.2.2.2.setCell (p := ⟨gS, 3, none⟩) (by show w.heap.size ≤ gS; omega) (.int .i64 (1 + d))
  have cn := gf_names nN
  have cs := gf_syms nS
  have cc0 := gf_conj nC0 rfl (Nat.le_refl _) cs
  have cc1 := gf_conj nC1 rfl (Nat.le_refl _) (Kd.C_nil k56 (W.setCell ⟨gS, 3, none⟩ (.int .i64 (1 + d))))
  have cr := gf_rules nR rfl (Nat.le_refl _) cc0 rfl (Nat.le_refl _) cc1
  have hform : gfForm 14 d = (0, [⟨#[83]⟩, ⟨#[88]⟩], [⟨0, [⟨false, [⟨-1, 5, 9⟩, ⟨1 + d, 0, 0⟩]⟩]⟩, ⟨1, [⟨false, []⟩]⟩]) := rfl
  have hMB : gram_May.f (0) ([⟨#[83]⟩, ⟨#[88]⟩]) ([⟨0, [⟨false, [⟨-1, 5, 9⟩, ⟨1 + d, 0, 0⟩]⟩]⟩, ⟨1, [⟨false, []⟩]⟩]) = some false := by
   have h9 := FO.out
   unfold gfOk at h9
   rw [hform, Bool.and_eq_true, Bool.not_eq_true'] at h9
   unfold gram_May.f
   exact congrArg some h9.2
  have hMA : gram_May.f 0 [⟨#[83]⟩, ⟨#[88]⟩] gfTwo = some true := by
   have h9 := FO.out
   unfold gfOk at h9
   rw [Bool.and_eq_true] at h9
   unfold gram_May.f
   exact congrArg some h9.1
  have X := Aside0.mk (And.intro cn (And.intro cr (And.intro hbB (And.intro nG (And.intro hMA hMB)))))
  clear cn cs cc0 cc1 cr hbB nN nS nC0 nC1 nR nG hMA hMB hform FO HF hd1 hd2 FZ kf k0 k1 k2 k3
  have hgG : gG < (W.setCell ⟨gS, 3, none⟩ (.int .i64 (1 + d))).heap.size := blk_lt X.out.2.2.2.1
  generalize W.setCell ⟨gS, 3, none⟩ (.int .i64 (1 + d)) = W9 at *
  have hcs : ∀ w', Below W9.heap.size W9 w' → w'.cell? ⟨gG, 0, none⟩ = some (.int .i64 0) ∧ w'.cell? ⟨gG, 1, none⟩ = some (.slice (some ⟨gN, 0, none⟩) 2 2) ∧ w'.cell? ⟨gG, 2, none⟩ = some (.slice (some ⟨gR, 0, none⟩) 2 2) := fun w' h => ⟨(blk_cell ((h.block gG hgG).trans X.out.2.2.2.1) 0).trans rfl, (blk_cell ((h.block gG hgG).trans X.out.2.2.2.1) 1).trans rfl, (blk_cell ((h.block gG hgG).trans X.out.2.2.2.1) 2).trans rfl⟩
  go_wp2_with (first | (go_at_call 17; refine (gram_May.calls (0) _ 2 ([⟨#[83]⟩, ⟨#[88]⟩]) _ 2 ([⟨0, [⟨false, [⟨-1, 5, 9⟩, ⟨1 + d, 0, 0⟩]⟩]⟩, ⟨1, [⟨false, []⟩]⟩]) false _ (Kd.C_below X.out.1 hb4.out) (Nat.le_refl _) (Kd.C_below X.out.2.1 hb4.out) (by simp) X.out.2.2.2.2.2).mono ?_; rintro e w5 ⟨rfl, hq⟩; have hb5 := Aside0.mk hq; clear hq) | (go_at_call 17; refine (gram_May.calls 0 _ 2 [⟨#[83]⟩, ⟨#[88]⟩] _ 2 gfTwo true _ Y.out.1 (Nat.le_refl _) Y.out.2.1 (Nat.le_refl _) X.out.2.2.2.2.1).mono ?_; rintro e w4 ⟨rfl, hq⟩; have hb4 := Aside0.mk (Y.out.2.2.trans (hq.mono Y.out.2.2.size)); clear hq; (obtain ⟨j0, j1, j2⟩ := hcs w4 hb4.out)) | (go_at_call 21; (with_reducible refine (templelaw4_Two.at _).mono ?_); rintro e w3 ⟨hN, hS, hC0, hC1, hR, rfl, ht, _, _, _, _, _, _, hb3⟩; have Y := Aside0.mk (And.intro (gf_names ht.n) (And.intro (gf_rules ht.r rfl (by decide) (gf_conj ht.c0 rfl (by decide) (gf_syms ht.s)) rfl (by decide) (gf_conj ht.c1 rfl (Nat.le_refl _) (Kd.C_nil k56 w3))) hb3)); clear ht hb3) | (go_at_call 14; (with_reducible refine (templelaw0_Num.calls 0 0 _ gf_num).mono ?_); rintro e w' ⟨rfl, ⟨nd, rfl⟩⟩))
  go_ret
  exact ⟨rfl, pw_below_drewN (X.out.2.2.1.trans ((hb4.out.trans (hb5.out.mono hb4.out.size)).mono X.out.2.2.1.size)) _⟩
 ·subst hm
  have k0 : W.cell? ⟨gG, 2, none⟩ = some (.slice (some ⟨gR, 0, none⟩) 2 2) := (blk_cell HF.out.2.2.2.2.2.1 2).trans rfl
  have k1 : W.cell? ⟨gR, 1, none⟩ = some (.slice (some ⟨gC0, 0, none⟩) 1 1) := (blk_cell HF.out.2.2.2.2.1 1).trans rfl
  have k2 : W.cell? ⟨gC0, 1, none⟩ = some (.slice (some ⟨gS, 0, none⟩) 2 2) := (blk_cell HF.out.2.2.1 1).trans rfl
  have k3 : W.cell? ⟨gS, 5, none⟩ = some (.int .i64 0) := (blk_cell HF.out.2.1 5).trans rfl
  have kf := blk_frozen HF.out.2.1 5
  go_upto_region 41 with (fail)
  have nN := blk_far HF.out.1 (p := ⟨gS, 5, none⟩) (by show gN ≠ gS; omega) (.int .i64 d)
  have nS := blk_put HF.out.2.1 5 (.int .i64 d) rfl
  have nC0 := blk_far HF.out.2.2.1 (p := ⟨gS, 5, none⟩) (by show gC0 ≠ gS; omega) (.int .i64 d)
  have nC1 := blk_far HF.out.2.2.2.1 (p := ⟨gS, 5, none⟩) (by show gC1 ≠ gS; omega) (.int .i64 d)
  have nR := blk_far HF.out.2.2.2.2.1 (p := ⟨gS, 5, none⟩) (by show gR ≠ gS; omega) (.int .i64 d)
  have nG := blk_far HF.out.2.2.2.2.2.1 (p := ⟨gS, 5, none⟩) (by show gG ≠ gS; omega) (.int .i64 d)
  have hbB := HF.out.2.2.2.2.2.2.setCell (p := ⟨gS, 5, none⟩) (by show w.heap.size ≤ gS; omega) (.int .i64 d)
  have cn := gf_names nN
  have cs := gf_syms nS
  have cc0 := gf_conj nC0 rfl (Nat.le_refl _) cs
  have cc1 := gf_conj nC1 rfl (Nat.le_refl _) (Kd.C_nil k56 (W.setCell ⟨gS, 5, none⟩ (.int .i64 d)))
  have cr := gf_rules nR rfl (Nat.le_refl _) cc0 rfl (Nat.le_refl _) cc1
  have hform : gfForm 15 d = (0, [⟨#[83]⟩, ⟨#[88]⟩], [⟨0, [⟨false, [⟨-1, 5, 9⟩, ⟨1, 0, d⟩]⟩]⟩, ⟨1, [⟨false, []⟩]⟩]) := rfl
  have hMB : gram_May.f (0) ([⟨#[83]⟩, ⟨#[88]⟩]) ([⟨0, [⟨false, [⟨-1, 5, 9⟩, ⟨1, 0, d⟩]⟩]⟩, ⟨1, [⟨false, []⟩]⟩]) = some false := by
   have h9 := FO.out
   unfold gfOk at h9
   rw [hform, Bool.and_eq_true, Bool.not_eq_true'] at h9
   unfold gram_May.f
   exact congrArg some h9.2
  have hMA : gram_May.f 0 [⟨#[83]⟩, ⟨#[88]⟩] gfTwo = some true := by
   have h9 := FO.out
   unfold gfOk at h9
   rw [Bool.and_eq_true] at h9
   unfold gram_May.f
   exact congrArg some h9.1
  have X := Aside0.mk (And.intro cn (And.intro cr (And.intro hbB (And.intro nG (And.intro hMA hMB)))))
  clear cn cs cc0 cc1 cr hbB nN nS nC0 nC1 nR nG hMA hMB hform FO HF hd1 hd2 FZ kf k0 k1 k2 k3
  have hgG : gG < (W.setCell ⟨gS, 5, none⟩ (.int .i64 d)).heap.size := blk_lt X.out.2.2.2.1
  generalize W.setCell ⟨gS, 5, none⟩ (.int .i64 d) = W9 at *
  have hcs : ∀ w', Below W9.heap.size W9 w' → w'.cell? ⟨gG, 0, none⟩ = some (.int .i64 0) ∧ w'.cell? ⟨gG, 1, none⟩ = some (.slice (some ⟨gN, 0, none⟩) 2 2) ∧ w'.cell? ⟨gG, 2, none⟩ = some (.slice (some ⟨gR, 0, none⟩) 2 2) := fun w' h => ⟨(blk_cell ((h.block gG hgG).trans X.out.2.2.2.1) 0).trans rfl, (blk_cell ((h.block gG hgG).trans X.out.2.2.2.1) 1).trans rfl, (blk_cell ((h.block gG hgG).trans X.out.2.2.2.1) 2).trans rfl⟩
  go_wp2_with (first | (go_at_call 17; refine (gram_May.calls (0) _ 2 ([⟨#[83]⟩, ⟨#[88]⟩]) _ 2 ([⟨0, [⟨false, [⟨-1, 5, 9⟩, ⟨1, 0, d⟩]⟩]⟩, ⟨1, [⟨false, []⟩]⟩]) false _ (Kd.C_below X.out.1 hb4.out) (Nat.le_refl _) (Kd.C_below X.out.2.1 hb4.out) (by simp) X.out.2.2.2.2.2).mono ?_; rintro e w5 ⟨rfl, hq⟩; have hb5 := Aside0.mk hq; clear hq) | (go_at_call 17; refine (gram_May.calls 0 _ 2 [⟨#[83]⟩, ⟨#[88]⟩] _ 2 gfTwo true _ Y.out.1 (Nat.le_refl _) Y.out.2.1 (Nat.le_refl _) X.out.2.2.2.2.1).mono ?_; rintro e w4 ⟨rfl, hq⟩; have hb4 := Aside0.mk (Y.out.2.2.trans (hq.mono Y.out.2.2.size)); clear hq; (obtain ⟨j0, j1, j2⟩ := hcs w4 hb4.out)) | (go_at_call 21; (with_reducible refine (templelaw4_Two.at _).mono ?_); rintro e w3 ⟨hN, hS, hC0, hC1, hR, rfl, ht, _, _, _, _, _, _, hb3⟩; have Y := Aside0.mk (And.intro (gf_names ht.n) (And.intro (gf_rules ht.r rfl (by decide) (gf_conj ht.c0 rfl (by decide) (gf_syms ht.s)) rfl (by decide) (gf_conj ht.c1 rfl (Nat.le_refl _) (Kd.C_nil k56 w3))) hb3)); clear ht hb3) | (go_at_call 14; (with_reducible refine (templelaw0_Num.calls 0 0 _ gf_num).mono ?_); rintro e w' ⟨rfl, ⟨nd, rfl⟩⟩))
  go_ret
  exact ⟨rfl, pw_below_drewN (X.out.2.2.1.trans ((hb4.out.trans (hb5.out.mono hb4.out.size)).mono X.out.2.2.1.size)) _⟩
 ·subst hm
  have k0 : W.cell? ⟨gG, 2, none⟩ = some (.slice (some ⟨gR, 0, none⟩) 2 2) := (blk_cell HF.out.2.2.2.2.2.1 2).trans rfl
  have k1 : W.cell? ⟨gR, 1, none⟩ = some (.slice (some ⟨gC0, 0, none⟩) 1 1) := (blk_cell HF.out.2.2.2.2.1 1).trans rfl
  have k2 : W.cell? ⟨gC0, 1, none⟩ = some (.slice (some ⟨gS, 0, none⟩) 2 2) := (blk_cell HF.out.2.2.1 1).trans rfl
  have k3 : W.cell? ⟨gS, 3, none⟩ = some (.int .i64 1) := (blk_cell HF.out.2.1 3).trans rfl
  have kf := blk_frozen HF.out.2.1 3
  go_upto_region 41 with (fail)
  have nN := blk_far HF.out.1 (p := ⟨gS, 3, none⟩) (by show gN ≠ gS; omega) (.int .i64 (-1 - d))
  have nS := blk_put HF.out.2.1 3 (.int .i64 (-1 - d)) rfl
  have nC0 := blk_far HF.out.2.2.1 (p := ⟨gS, 3, none⟩) (by show gC0 ≠ gS; omega) (.int .i64 (-1 - d))
  have nC1 := blk_far HF.out.2.2.2.1 (p := ⟨gS, 3, none⟩) (by show gC1 ≠ gS; omega) (.int .i64 (-1 - d))
  have nR := blk_far HF.out.2.2.2.2.1 (p := ⟨gS, 3, none⟩) (by show gR ≠ gS; omega) (.int .i64 (-1 - d))
  have nG := blk_far HF.out.2.2.2.2.2.1 (p := ⟨gS, 3, none⟩) (by show gG ≠ gS; omega) (.int .i64 (-1 - d))
  have hbB := HF.out.2.2.2.2.2.2.setCell (p := ⟨gS, 3, none⟩) (by show w.heap.size ≤ gS; omega) (.int .i64 (-1 - d))
  have cn := gf_names nN
  have cs := gf_syms nS
  have cc0 := gf_conj nC0 rfl (Nat.le_refl _) cs
  have cc1 := gf_conj nC1 rfl (Nat.le_refl _) (Kd.C_nil k56 (W.setCell ⟨gS, 3, none⟩ (.int .i64 (-1 - d))))
  have cr := gf_rules nR rfl (Nat.le_refl _) cc0 rfl (Nat.le_refl _) cc1
  have hform : gfForm 16 d = (0, [⟨#[83]⟩, ⟨#[88]⟩], [⟨0, [⟨false, [⟨-1, 5, 9⟩, ⟨-1 - d, 0, 0⟩]⟩]⟩, ⟨1, [⟨false, []⟩]⟩]) := rfl
  have hMB : gram_May.f (0) ([⟨#[83]⟩, ⟨#[88]⟩]) ([⟨0, [⟨false, [⟨-1, 5, 9⟩, ⟨-1 - d, 0, 0⟩]⟩]⟩, ⟨1, [⟨false, []⟩]⟩]) = some false := by
   have h9 := FO.out
   unfold gfOk at h9
   rw [hform, Bool.and_eq_true, Bool.not_eq_true'] at h9
   unfold gram_May.f
   exact congrArg some h9.2
  have hMA : gram_May.f 0 [⟨#[83]⟩, ⟨#[88]⟩] gfTwo = some true := by
   have h9 := FO.out
   unfold gfOk at h9
   rw [Bool.and_eq_true] at h9
   unfold gram_May.f
   exact congrArg some h9.1
  have X := Aside0.mk (And.intro cn (And.intro cr (And.intro hbB (And.intro nG (And.intro hMA hMB)))))
  clear cn cs cc0 cc1 cr hbB nN nS nC0 nC1 nR nG hMA hMB hform FO HF hd1 hd2 FZ kf k0 k1 k2 k3
  have hgG : gG < (W.setCell ⟨gS, 3, none⟩ (.int .i64 (-1 - d))).heap.size := blk_lt X.out.2.2.2.1
  generalize W.setCell ⟨gS, 3, none⟩ (.int .i64 (-1 - d)) = W9 at *
  have hcs : ∀ w', Below W9.heap.size W9 w' → w'.cell? ⟨gG, 0, none⟩ = some (.int .i64 0) ∧ w'.cell? ⟨gG, 1, none⟩ = some (.slice (some ⟨gN, 0, none⟩) 2 2) ∧ w'.cell? ⟨gG, 2, none⟩ = some (.slice (some ⟨gR, 0, none⟩) 2 2) := fun w' h => ⟨(blk_cell ((h.block gG hgG).trans X.out.2.2.2.1) 0).trans rfl, (blk_cell ((h.block gG hgG).trans X.out.2.2.2.1) 1).trans rfl, (blk_cell ((h.block gG hgG).trans X.out.2.2.2.1) 2).trans rfl⟩
  go_wp2_with (first | (go_at_call 17; refine (gram_May.calls (0) _ 2 ([⟨#[83]⟩, ⟨#[88]⟩]) _ 2 ([⟨0, [⟨false, [⟨-1, 5, 9⟩, ⟨-1 - d, 0, 0⟩]⟩]⟩, ⟨1, [⟨false, []⟩]⟩]) false _ (Kd.C_below X.out.1 hb4.out) (Nat.le_refl _) (Kd.C_below X.out.2.1 hb4.out) (by simp) X.out.2.2.2.2.2).mono ?_; rintro e w5 ⟨rfl, hq⟩; have hb5 := Aside0.mk hq; clear hq) | (go_at_call 17; refine (gram_May.calls 0 _ 2 [⟨#[83]⟩, ⟨#[88]⟩] _ 2 gfTwo true _ Y.out.1 (Nat.le_refl _) Y.out.2.1 (Nat.le_refl _) X.out.2.2.2.2.1).mono ?_; rintro e w4 ⟨rfl, hq⟩; have hb4 := Aside0.mk (Y.out.2.2.trans (hq.mono Y.out.2.2.size)); clear hq; (obtain ⟨j0, j1, j2⟩ := hcs w4 hb4.out)) | (go_at_call 21; (with_reducible refine (templelaw4_Two.at _).mono ?_); rintro e w3 ⟨hN, hS, hC0, hC1, hR, rfl, ht, _, _, _, _, _, _, hb3⟩; have Y := Aside0.mk (And.intro (gf_names ht.n) (And.intro (gf_rules ht.r rfl (by decide) (gf_conj ht.c0 rfl (by decide) (gf_syms ht.s)) rfl (by decide) (gf_conj ht.c1 rfl (Nat.le_refl _) (Kd.C_nil k56 w3))) hb3)); clear ht hb3) | (go_at_call 14; (with_reducible refine (templelaw0_Num.calls 0 0 _ gf_num).mono ?_); rintro e w' ⟨rfl, ⟨nd, rfl⟩⟩))
  go_ret
  exact ⟨rfl, pw_below_drewN (X.out.2.2.1.trans ((hb4.out.trans (hb5.out.mono hb4.out.size)).mono X.out.2.2.1.size)) _⟩
 ·subst hm
  have k0 : W.cell? ⟨gG, 2, none⟩ = some (.slice (some ⟨gR, 0, none⟩) 2 2) := (blk_cell HF.out.2.2.2.2.2.1 2).trans rfl
  have k1 : W.cell? ⟨gR, 0, none⟩ = some (.int .i64 0) := (blk_cell HF.out.2.2.2.2.1 0).trans rfl
  have kf := blk_frozen HF.out.2.2.2.2.1 0
  go_upto_region 41 with (fail)
  have nN := blk_far HF.out.1 (p := ⟨gR, 0, none⟩) (by show gN ≠ gR; omega) (.int .i64 (-d))
  have nS := blk_far HF.out.2.1 (p := ⟨gR, 0, none⟩) (by show gS ≠ gR; omega) (.int .i64 (-d))
  have nC0 := blk_far HF.out.2.2.1 (p := ⟨gR, 0, none⟩) (by show gC0 ≠ gR; omega) (.int .i64 (-d))
  have nC1 := blk_far HF.out.2.2.2.1 (p := ⟨gR, 0, none⟩) (by show gC1 ≠ gR; omega) (.int .i64 (-d))
  have nR := blk_put HF.out.2.2.2.2.1 0 (.int .i64 (-d)) rfl
  have nG := blk_far HF.out.2.2.2.2.2.1 (p := ⟨gR, 0, none⟩) (by show gG ≠ gR; omega) (.int .i64 (-d))
  have hbB := HF.out.2.2.2.2.2.2.setCell (p := ⟨gR, 0, none⟩) (by show w.heap.size ≤ gR; omega) (.int .i64 (-d))
  have cn := gf_names nN
  have cs := gf_syms nS
  have cc0 := gf_conj nC0 rfl (Nat.le_refl _) cs
  have cc1 := gf_conj nC1 rfl (Nat.le_refl _) (Kd.C_nil k56 (W.setCell ⟨gR, 0, none⟩ (.int .i64 (-d))))
  have cr := gf_rules nR rfl (Nat.le_refl _) cc0 rfl (Nat.le_refl _) cc1
  have hform : gfForm 17 d = (0, [⟨#[83]⟩, ⟨#[88]⟩], [⟨(-d), [⟨false, [⟨-1, 5, 9⟩, ⟨1, 0, 0⟩]⟩]⟩, ⟨1, [⟨false, []⟩]⟩]) := rfl
  have hMB : gram_May.f (0) ([⟨#[83]⟩, ⟨#[88]⟩]) ([⟨(-d), [⟨false, [⟨-1, 5, 9⟩, ⟨1, 0, 0⟩]⟩]⟩, ⟨1, [⟨false, []⟩]⟩]) = some false := by
   have h9 := FO.out
   unfold gfOk at h9
   rw [hform, Bool.and_eq_true, Bool.not_eq_true'] at h9
   unfold gram_May.f
   exact congrArg some h9.2
  have hMA : gram_May.f 0 [⟨#[83]⟩, ⟨#[88]⟩] gfTwo = some true := by
   have h9 := FO.out
   unfold gfOk at h9
   rw [Bool.and_eq_true] at h9
   unfold gram_May.f
   exact congrArg some h9.1
  have X := Aside0.mk (And.intro cn (And.intro cr (And.intro hbB (And.intro nG (And.intro hMA hMB)))))
  clear cn cs cc0 cc1 cr hbB nN nS nC0 nC1 nR nG hMA hMB hform FO HF hd1 hd2 FZ kf k0 k1
  have hgG : gG < (W.setCell ⟨gR, 0, none⟩ (.int .i64 (-d))).heap.size := blk_lt X.out.2.2.2.1
  generalize W.setCell ⟨gR, 0, none⟩ (.int .i64 (-d)) = W9 at *
  have hcs : ∀ w', Below W9.heap.size W9 w' → w'.cell? ⟨gG, 0, none⟩ = some (.int .i64 0) ∧ w'.cell? ⟨gG, 1, none⟩ = some (.slice (some ⟨gN, 0, none⟩) 2 2) ∧ w'.cell? ⟨gG, 2, none⟩ = some (.slice (some ⟨gR, 0, none⟩) 2 2) := fun w' h => ⟨(blk_cell ((h.block gG hgG).trans X.out.2.2.2.1) 0).trans rfl, (blk_cell ((h.block gG hgG).trans X.out.2.2.2.1) 1).trans rfl, (blk_cell ((h.block gG hgG).trans X.out.2.2.2.1) 2).trans rfl⟩
  go_wp2_with (first | (go_at_call 17; refine (gram_May.calls (0) _ 2 ([⟨#[83]⟩, ⟨#[88]⟩]) _ 2 ([⟨(-d), [⟨false, [⟨-1, 5, 9⟩, ⟨1, 0, 0⟩]⟩]⟩, ⟨1, [⟨false, []⟩]⟩]) false _ (Kd.C_below X.out.1 hb4.out) (Nat.le_refl _) (Kd.C_below X.out.2.1 hb4.out) (by simp) X.out.2.2.2.2.2).mono ?_; rintro e w5 ⟨rfl, hq⟩; have hb5 := Aside0.mk hq; clear hq) | (go_at_call 17; refine (gram_May.calls 0 _ 2 [⟨#[83]⟩, ⟨#[88]⟩] _ 2 gfTwo true _ Y.out.1 (Nat.le_refl _) Y.out.2.1 (Nat.le_refl _) X.out.2.2.2.2.1).mono ?_; rintro e w4 ⟨rfl, hq⟩; have hb4 := Aside0.mk (Y.out.2.2.trans (hq.mono Y.out.2.2.size)); clear hq; (obtain ⟨j0, j1, j2⟩ := hcs w4 hb4.out)) | (go_at_call 21; (with_reducible refine (templelaw4_Two.at _).mono ?_); rintro e w3 ⟨hN, hS, hC0, hC1, hR, rfl, ht, _, _, _, _, _, _, hb3⟩; have Y := Aside0.mk (And.intro (gf_names ht.n) (And.intro (gf_rules ht.r rfl (by decide) (gf_conj ht.c0 rfl (by decide) (gf_syms ht.s)) rfl (by decide) (gf_conj ht.c1 rfl (Nat.le_refl _) (Kd.C_nil k56 w3))) hb3)); clear ht hb3) | (go_at_call 14; (with_reducible refine (templelaw0_Num.calls 0 0 _ gf_num).mono ?_); rintro e w' ⟨rfl, ⟨nd, rfl⟩⟩))
  go_ret
  exact ⟨rfl, pw_below_drewN (X.out.2.2.1.trans ((hb4.out.trans (hb5.out.mono hb4.out.size)).mono X.out.2.2.1.size)) _⟩


end Go.Proofs.Ytdjnpgigdchfkaa.PGF
