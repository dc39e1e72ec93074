-- written by a program of the session's (wip/myprint.py) out of the translation
import Derived.Test.YtdjnpgigdchfkaaPBSx0
import Derived.Test.YtdjnpgigdchfkaaPBSx6
import Derived.Test.YtdjnpgigdchfkaaPBSx8
import Derived.Test.YtdjnpgigdchfkaaPBSx9
import Derived.Test.YtdjnpgigdchfkaaPBSx10
import Derived.Test.YtdjnpgigdchfkaaPBSx11
namespace Go.Proofs.Ytdjnpgigdchfkaa.PBS
open Go.RowKit Go.Proofs.YtdjnpgigdchfkaaW.PrintWords Go.Proofs.YtdjnpgigdchfkaaW.PrintLast Go.Proofs.YtdjnpgigdchfkaaW.PrintMore
attribute [local go_sem] max2_int min2_int max_two min_two max_three min_three max_four min_four   -- for this text's walks alone
set_option linter.unusedVariables false
set_option linter.unusedSimpArgs false

/-! ### templeref1_Build: function 12 -/
mutual
def templeref1_Build.l0 : Nat → Int → List ByteArray → List (S45) → Int → List ByteArray → Option (Int × List ByteArray × (List (S51)) × ByteArray × Int)
 | 0, _, _, _, _, _ => none
 | k + 1, x6, x253000, x253001, x255000, x255001 => if x6 < (x253001.length : Int) then (if 0 ≤ x6 then ((templeref1_find.f k x255001 ((rd_T45 x253001 x6).f0)).bind fun t256 => (if t256 ≥ 0 then (some (0, ([] : List ByteArray), ([] : List (S51)), (rd_T45 x253001 x6).f0, 401)) else (if x255001.length < 8796093022208 then (templeref1_Build.l0 k (wrap64 (x6 + 1)) x253000 x253001 x255000 (x255001 ++ [(rd_T45 x253001 x6).f0])) else (none)))) else (none)) else (if (x253000.length : Int) = 1 then ((templeref1_unknown.f k x253000 x253001 x255001).bind fun bt262 => (if bt262.2 = true then (some (0, ([] : List ByteArray), ([] : List (S51)), bt262.1, 402)) else ((templeref1_hollow.f k x253000 x253001).bind fun bt264 => (if bt264.2 = true then (some (0, ([] : List ByteArray), ([] : List (S51)), bt264.1, 403)) else (if 0 < (x253000.length : Int) then ((templeref1_find.f k x255001 (rdOf ByteArray.empty x253000 0)).bind fun t267 => (templeref1_Build.l1 k 0 x253000 x253001 t267 x255001 ([] : List (S51)))) else (none)))))) else (some (0, ([] : List ByteArray), ([] : List (S51)), (⟨#[]⟩ : ByteArray), 400)))
def templeref1_Build.l1 : Nat → Int → List ByteArray → List (S45) → Int → List ByteArray → List (S51) → Option (Int × List ByteArray × (List (S51)) × ByteArray × Int)
 | 0, _, _, _, _, _, _ => none
 | k + 1, x9, x253000, x253001, x255000, x255001, x255002 => if x9 < (x253001.length : Int) then (templeref1_Build.j2 k x9 (decide ((x255002.length : Int) ≤ 256)) x253000 x253001 x255000 x255001 x255002) else (templeref1_Build.j2 k x9 false x253000 x253001 x255000 x255001 x255002)
def templeref1_Build.j2 : Nat → Int → Bool → List ByteArray → List (S45) → Int → List ByteArray → List (S51) → Option (Int × List ByteArray × (List (S51)) × ByteArray × Int)
 | 0, _, _, _, _, _, _, _ => none
 | k + 1, x9, x90, x253000, x253001, x255000, x255001, x255002 => if x90 = true then (templeref1_Build.l2 k x9 0 x253000 x253001 x255000 x255001 x255002) else ((templeref1_May.f k x255000 x255001 x255002).bind fun t268 => (if t268 = true then (some (x255000, x255001, x255002, (⟨#[]⟩ : ByteArray), 0)) else (some (0, ([] : List ByteArray), ([] : List (S51)), (⟨#[]⟩ : ByteArray), 404))))
def templeref1_Build.l2 : Nat → Int → Int → List ByteArray → List (S45) → Int → List ByteArray → List (S51) → Option (Int × List ByteArray × (List (S51)) × ByteArray × Int)
 | 0, _, _, _, _, _, _, _ => none
 | k + 1, x9, x10, x253000, x253001, x255000, x255001, x255002 => if 0 ≤ x9 then (if x9 < (x253001.length : Int) then (if x10 < (((rd_T45 x253001 x9).f1).length : Int) then (templeref1_Build.l3 k x9 x10 0 x253000 x253001 x255000 x255001 x255002 x9 ([] : List (S54))) else (templeref1_Build.l1 k (wrap64 (x9 + 1)) x253000 x253001 x255000 x255001 x255002)) else (none)) else (none)
def templeref1_Build.l3 : Nat → Int → Int → Int → List ByteArray → List (S45) → Int → List ByteArray → List (S51) → Int → List (S54) → Option (Int × List ByteArray × (List (S51)) × ByteArray × Int)
 | 0, _, _, _, _, _, _, _, _, _, _ => none
 | k + 1, x9, x10, x12, x253000, x253001, x255000, x255001, x255002, x271000, x271001 => if 0 ≤ x9 then (if x9 < (x253001.length : Int) then (if 0 ≤ x10 then (if x10 < (((rd_T45 x253001 x9).f1).length : Int) then (if x12 < ((rd_L6 ((rd_T45 x253001 x9).f1) x10).length : Int) then (if 0 ≤ x12 then ((templeref1_symbols.f k ((rd_T64 (rd_L6 ((rd_T45 x253001 x9).f1) x10) x12).f1) x255001).bind fun t277 => (if x271001.length < 4398046511104 then (templeref1_Build.l3 k x9 x10 (wrap64 (x12 + 1)) x253000 x253001 x255000 x255001 x255002 x271000 (x271001 ++ [(⟨(rd_T64 (rd_L6 ((rd_T45 x253001 x9).f1) x10) x12).f0, t277⟩ : S54)])) else (none))) else (none)) else (if x255002.length < 4398046511104 then (templeref1_Build.l2 k x9 (wrap64 (x10 + 1)) x253000 x253001 x255000 x255001 (x255002 ++ [(⟨x271000, x271001⟩ : S51)])) else (none))) else (none)) else (none)) else (none)) else (none)
end
def templeref1_Build.f (k : Nat) (l0_0 : List ByteArray) (l0_1 : List (S45)) : Option (Int × List ByteArray × (List (S51)) × ByteArray × Int) := templeref1_Build.l0 k 0 l0_0 l0_1 0 ([] : List ByteArray)
theorem templeref1_Build.mono_l : ∀ k, (∀ y0 y1 y2 y3 y4, LeO (templeref1_Build.l0 k y0 y1 y2 y3 y4) (templeref1_Build.l0 (k + 1) y0 y1 y2 y3 y4)) ∧ (∀ y0 y1 y2 y3 y4 y5, LeO (templeref1_Build.l1 k y0 y1 y2 y3 y4 y5) (templeref1_Build.l1 (k + 1) y0 y1 y2 y3 y4 y5)) ∧ (∀ y0 y1 y2 y3 y4 y5 y6, LeO (templeref1_Build.j2 k y0 y1 y2 y3 y4 y5 y6) (templeref1_Build.j2 (k + 1) y0 y1 y2 y3 y4 y5 y6)) ∧ (∀ y0 y1 y2 y3 y4 y5 y6, LeO (templeref1_Build.l2 k y0 y1 y2 y3 y4 y5 y6) (templeref1_Build.l2 (k + 1) y0 y1 y2 y3 y4 y5 y6)) ∧ (∀ y0 y1 y2 y3 y4 y5 y6 y7 y8 y9, LeO (templeref1_Build.l3 k y0 y1 y2 y3 y4 y5 y6 y7 y8 y9) (templeref1_Build.l3 (k + 1) y0 y1 y2 y3 y4 y5 y6 y7 y8 y9))
 | 0 => ⟨fun _ _ _ _ _ r h => by simp [templeref1_Build.l0] at h, fun _ _ _ _ _ _ r h => by simp [templeref1_Build.l1] at h, fun _ _ _ _ _ _ _ r h => by simp [templeref1_Build.j2] at h, fun _ _ _ _ _ _ _ r h => by simp [templeref1_Build.l2] at h, fun _ _ _ _ _ _ _ _ _ _ r h => by simp [templeref1_Build.l3] at h⟩
 | k + 1 => by
  obtain ⟨ih0, ih1, ih2, ih3, ih4⟩ := templeref1_Build.mono_l k
  refine ⟨?_, ?_, ?_, ?_, ?_⟩
  ·intro y0 y1 y2 y3 y4
   unfold templeref1_Build.l0
   repeat' first
   | (with_reducible exact ih0 _ _ _ _ _)
   | (with_reducible exact ih1 _ _ _ _ _ _)
   | (with_reducible exact ih2 _ _ _ _ _ _ _)
   | (with_reducible exact ih3 _ _ _ _ _ _ _)
   | (with_reducible exact ih4 _ _ _ _ _ _ _ _ _ _)
   | (with_reducible exact templeref1_May.mono _ _ _ _)
   | (with_reducible exact templeref1_find.mono _ _ _)
   | (with_reducible exact templeref1_hollow.mono _ _ _)
   | (with_reducible exact templeref1_symbols.mono _ _ _)
   | (with_reducible exact templeref1_unknown.mono _ _ _ _)
   | (with_reducible exact LeO.refl _)
   | (with_reducible exact LeO.none _)
   | (with_reducible refine LeO.ite ?_ ?_)
   | (with_reducible refine LeO.bind ?_ (fun _ => ?_))
   | exact ih0 _ _ _ _ _
   | exact ih1 _ _ _ _ _ _
   | exact ih2 _ _ _ _ _ _ _
   | exact ih3 _ _ _ _ _ _ _
   | exact ih4 _ _ _ _ _ _ _ _ _ _
   | exact templeref1_May.mono _ _ _ _
   | exact templeref1_find.mono _ _ _
   | exact templeref1_hollow.mono _ _ _
   | exact templeref1_symbols.mono _ _ _
   | exact templeref1_unknown.mono _ _ _ _
   | exact LeO.none _
   | refine LeO.ite ?_ ?_
   | refine LeO.bind ?_ (fun _ => ?_)
  ·intro y0 y1 y2 y3 y4 y5
   unfold templeref1_Build.l1
   repeat' first
   | (with_reducible exact ih0 _ _ _ _ _)
   | (with_reducible exact ih1 _ _ _ _ _ _)
   | (with_reducible exact ih2 _ _ _ _ _ _ _)
   | (with_reducible exact ih3 _ _ _ _ _ _ _)
   | (with_reducible exact ih4 _ _ _ _ _ _ _ _ _ _)
   | (with_reducible exact templeref1_May.mono _ _ _ _)
   | (with_reducible exact templeref1_find.mono _ _ _)
   | (with_reducible exact templeref1_hollow.mono _ _ _)
   | (with_reducible exact templeref1_symbols.mono _ _ _)
   | (with_reducible exact templeref1_unknown.mono _ _ _ _)
   | (with_reducible exact LeO.refl _)
   | (with_reducible exact LeO.none _)
   | (with_reducible refine LeO.ite ?_ ?_)
   | (with_reducible refine LeO.bind ?_ (fun _ => ?_))
   | exact ih0 _ _ _ _ _
   | exact ih1 _ _ _ _ _ _
   | exact ih2 _ _ _ _ _ _ _
   | exact ih3 _ _ _ _ _ _ _
   | exact ih4 _ _ _ _ _ _ _ _ _ _
   | exact templeref1_May.mono _ _ _ _
   | exact templeref1_find.mono _ _ _
   | exact templeref1_hollow.mono _ _ _
   | exact templeref1_symbols.mono _ _ _
   | exact templeref1_unknown.mono _ _ _ _
   | exact LeO.none _
   | refine LeO.ite ?_ ?_
   | refine LeO.bind ?_ (fun _ => ?_)
  ·intro y0 y1 y2 y3 y4 y5 y6
   unfold templeref1_Build.j2
   repeat' first
   | (with_reducible exact ih0 _ _ _ _ _)
   | (with_reducible exact ih1 _ _ _ _ _ _)
   | (with_reducible exact ih2 _ _ _ _ _ _ _)
   | (with_reducible exact ih3 _ _ _ _ _ _ _)
   | (with_reducible exact ih4 _ _ _ _ _ _ _ _ _ _)
   | (with_reducible exact templeref1_May.mono _ _ _ _)
   | (with_reducible exact templeref1_find.mono _ _ _)
   | (with_reducible exact templeref1_hollow.mono _ _ _)
   | (with_reducible exact templeref1_symbols.mono _ _ _)
   | (with_reducible exact templeref1_unknown.mono _ _ _ _)
   | (with_reducible exact LeO.refl _)
   | (with_reducible exact LeO.none _)
   | (with_reducible refine LeO.ite ?_ ?_)
   | (with_reducible refine LeO.bind ?_ (fun _ => ?_))
   | exact ih0 _ _ _ _ _
   | exact ih1 _ _ _ _ _ _
   | exact ih2 _ _ _ _ _ _ _
   | exact ih3 _ _ _ _ _ _ _
   | exact ih4 _ _ _ _ _ _ _ _ _ _
   | exact templeref1_May.mono _ _ _ _
   | exact templeref1_find.mono _ _ _
   | exact templeref1_hollow.mono _ _ _
   | exact templeref1_symbols.mono _ _ _
   | exact templeref1_unknown.mono _ _ _ _
   | exact LeO.none _
   | refine LeO.ite ?_ ?_
   | refine LeO.bind ?_ (fun _ => ?_)
  ·intro y0 y1 y2 y3 y4 y5 y6
   unfold templeref1_Build.l2
   repeat' first
   | (with_reducible exact ih0 _ _ _ _ _)
   | (with_reducible exact ih1 _ _ _ _ _ _)
   | (with_reducible exact ih2 _ _ _ _ _ _ _)
   | (with_reducible exact ih3 _ _ _ _ _ _ _)
   | (with_reducible exact ih4 _ _ _ _ _ _ _ _ _ _)
   | (with_reducible exact templeref1_May.mono _ _ _ _)
   | (with_reducible exact templeref1_find.mono _ _ _)
   | (with_reducible exact templeref1_hollow.mono _ _ _)
   | (with_reducible exact templeref1_symbols.mono _ _ _)
   | (with_reducible exact templeref1_unknown.mono _ _ _ _)
   | (with_reducible exact LeO.refl _)
   | (with_reducible exact LeO.none _)
   | (with_reducible refine LeO.ite ?_ ?_)
   | (with_reducible refine LeO.bind ?_ (fun _ => ?_))
   | exact ih0 _ _ _ _ _
   | exact ih1 _ _ _ _ _ _
   | exact ih2 _ _ _ _ _ _ _
   | exact ih3 _ _ _ _ _ _ _
   | exact ih4 _ _ _ _ _ _ _ _ _ _
   | exact templeref1_May.mono _ _ _ _
   | exact templeref1_find.mono _ _ _
   | exact templeref1_hollow.mono _ _ _
   | exact templeref1_symbols.mono _ _ _
   | exact templeref1_unknown.mono _ _ _ _
   | exact LeO.none _
   | refine LeO.ite ?_ ?_
   | refine LeO.bind ?_ (fun _ => ?_)
  ·intro y0 y1 y2 y3 y4 y5 y6 y7 y8 y9
   unfold templeref1_Build.l3
   repeat' first
   | (with_reducible exact ih0 _ _ _ _ _)
   | (with_reducible exact ih1 _ _ _ _ _ _)
   | (with_reducible exact ih2 _ _ _ _ _ _ _)
   | (with_reducible exact ih3 _ _ _ _ _ _ _)
   | (with_reducible exact ih4 _ _ _ _ _ _ _ _ _ _)
   | (with_reducible exact templeref1_May.mono _ _ _ _)
   | (with_reducible exact templeref1_find.mono _ _ _)
   | (with_reducible exact templeref1_hollow.mono _ _ _)
   | (with_reducible exact templeref1_symbols.mono _ _ _)
   | (with_reducible exact templeref1_unknown.mono _ _ _ _)
   | (with_reducible exact LeO.refl _)
   | (with_reducible exact LeO.none _)
   | (with_reducible refine LeO.ite ?_ ?_)
   | (with_reducible refine LeO.bind ?_ (fun _ => ?_))
   | exact ih0 _ _ _ _ _
   | exact ih1 _ _ _ _ _ _
   | exact ih2 _ _ _ _ _ _ _
   | exact ih3 _ _ _ _ _ _ _
   | exact ih4 _ _ _ _ _ _ _ _ _ _
   | exact templeref1_May.mono _ _ _ _
   | exact templeref1_find.mono _ _ _
   | exact templeref1_hollow.mono _ _ _
   | exact templeref1_symbols.mono _ _ _
   | exact templeref1_unknown.mono _ _ _ _
   | exact LeO.none _
   | refine LeO.ite ?_ ?_
   | refine LeO.bind ?_ (fun _ => ?_)
theorem templeref1_Build.mono : ∀ a0 a1 k, LeO (templeref1_Build.f k a0 a1) (templeref1_Build.f (k + 1) a0 a1) := by
 intro a0 a1 k
 obtain ⟨ih0, ih1, ih2, ih3, ih4⟩ := templeref1_Build.mono_l k
 unfold templeref1_Build.f
 repeat' first
   | (with_reducible exact ih0 _ _ _ _ _)
   | (with_reducible exact ih1 _ _ _ _ _ _)
   | (with_reducible exact ih2 _ _ _ _ _ _ _)
   | (with_reducible exact ih3 _ _ _ _ _ _ _)
   | (with_reducible exact ih4 _ _ _ _ _ _ _ _ _ _)
   | (with_reducible exact templeref1_May.mono _ _ _ _)
   | (with_reducible exact templeref1_find.mono _ _ _)
   | (with_reducible exact templeref1_hollow.mono _ _ _)
   | (with_reducible exact templeref1_symbols.mono _ _ _)
   | (with_reducible exact templeref1_unknown.mono _ _ _ _)
   | (with_reducible exact LeO.refl _)
   | (with_reducible exact LeO.none _)
   | (with_reducible refine LeO.ite ?_ ?_)
   | (with_reducible refine LeO.bind ?_ (fun _ => ?_))
   | exact ih0 _ _ _ _ _
   | exact ih1 _ _ _ _ _ _
   | exact ih2 _ _ _ _ _ _ _
   | exact ih3 _ _ _ _ _ _ _
   | exact ih4 _ _ _ _ _ _ _ _ _ _
   | exact templeref1_May.mono _ _ _ _
   | exact templeref1_find.mono _ _ _
   | exact templeref1_hollow.mono _ _ _
   | exact templeref1_symbols.mono _ _ _
   | exact templeref1_unknown.mono _ _ _ _
   | exact LeO.none _
   | refine LeO.ite ?_ ?_
   | refine LeO.bind ?_ (fun _ => ?_)
def templeref1_Build.T5 : Bool × List (List Nat × List Nat) := (true, [([], []), ([0], [0]), ([], []), ([2], [2]), ([], []), ([3, 4], [3, 4]), ([5], [5]), ([6], [6]), ([1, 7], [1, 7]), ([8], [8])])
def templeref1_Build.B5 : List Nat := [0, 1, 0, 4, 0, 28, 60, 124, 255, 511]
theorem templeref1_Build.tab5 : rtab .any (opsOf Try.f12 5) = templeref1_Build.T5 := by kernel_rfl
theorem templeref1_Build.bits5 : waitsOk templeref1_Build.T5.2 templeref1_Build.B5 = true := by kernel_rfl
def templeref1_Build.T6 : Bool × List (List Nat × List Nat) := (true, [([], []), ([], []), ([1], [1]), ([], []), ([2, 3], [2, 3]), ([4], [4]), ([5], [5]), ([0, 0], [0]), ([6, 7, 0, 1, 2, 3, 4, 5, 6, 7], [6]), ([8, 0, 1, 2, 3, 4, 5, 6, 7, 8], [])])
def templeref1_Build.B6 : List Nat := [0, 0, 2, 0, 14, 30, 62, 1, 255, 511]
theorem templeref1_Build.tab6 : rtab .any (opsOf Try.f12 6) = templeref1_Build.T6 := by kernel_rfl
theorem templeref1_Build.bits6 : waitsOk templeref1_Build.T6.2 templeref1_Build.B6 = true := by kernel_rfl
def templeref1_Build.T7 : Bool × List (List Nat × List Nat) := (true, [([], []), ([0], [0]), ([], []), ([2], [2]), ([], []), ([3, 4], [3, 4]), ([5], [5]), ([6], [6]), ([7], [7]), ([1, 8], [1, 8]), ([0, 1, 2, 3, 4, 5, 6, 7, 8, 9], []), ([10, 9, 9, 0, 1, 2, 3, 4, 5, 6, 7, 8, 9], [9, 10])])
def templeref1_Build.B7 : List Nat := [0, 1, 0, 4, 0, 28, 60, 124, 252, 511, 1023, 2047]
theorem templeref1_Build.tab7 : rtab .any (opsOf Try.f12 7) = templeref1_Build.T7 := by kernel_rfl
theorem templeref1_Build.bits7 : waitsOk templeref1_Build.T7.2 templeref1_Build.B7 = true := by kernel_rfl
def templeref1_Build.T16 : Bool × List (List Nat × List Nat) := (true, [([], []), ([0], [0]), ([], []), ([2], [2]), ([3], [3]), ([4], [4]), ([1, 5], [1, 5]), ([0, 1, 2, 3, 4, 5, 6], []), ([7, 6, 6, 0, 1, 2, 3, 4, 5, 6], [6, 7])])
def templeref1_Build.B16 : List Nat := [0, 1, 0, 4, 12, 28, 63, 127, 255]
theorem templeref1_Build.tab16 : rtab .any (opsOf Try.f12 16) = templeref1_Build.T16 := by kernel_rfl
theorem templeref1_Build.bits16 : waitsOk templeref1_Build.T16.2 templeref1_Build.B16 = true := by kernel_rfl
def templeref1_Build.T28 : Bool × List (List Nat × List Nat) := (true, [([], []), ([0], [0]), ([], []), ([2], [2]), ([], []), ([4], [4]), ([], []), ([6], [6]), ([5, 7], [5, 7]), ([3, 8], [3, 8]), ([9], [9]), ([1, 10, 8], [1, 10]), ([0, 1, 2, 3, 4, 5, 6, 7, 8, 9, 10, 11], []), ([12, 11, 11, 0, 1, 2, 3, 4, 5, 6, 7, 8, 9, 10, 11], [11, 12])])
def templeref1_Build.B28 : List Nat := [0, 1, 0, 4, 0, 16, 0, 64, 240, 508, 1020, 2047, 4095, 8191]
theorem templeref1_Build.tab28 : rtab .any (opsOf Try.f12 28) = templeref1_Build.T28 := by kernel_rfl
theorem templeref1_Build.bits28 : waitsOk templeref1_Build.T28.2 templeref1_Build.B28 = true := by kernel_rfl
set_option maxHeartbeats 8000000 in
set_option maxRecDepth 100000 in
theorem templeref1_Build.calls (k : Nat) (A0_0 : Option Addr) (c0_0 : Nat) (l0_0 : List ByteArray) (A0_1 : Option Addr) (c0_1 : Nat) (l0_1 : List (S45)) (r1 : Int) (r2 : List ByteArray) (r3 : List (S51)) (r4 : ByteArray) (r5 : Int) (w : World) (hr0_0 : Kd.C Kd.string w A0_0 l0_0.length l0_0) (hc0_0 : l0_0.length ≤ c0_0) (hr0_1 : Kd.C k45 w A0_1 l0_1.length l0_1) (hc0_1 : l0_1.length ≤ c0_1) (h : templeref1_Build.f k l0_0 l0_1 = some (r1, r2, r3, r4, r5)) :
  Calls Try.prog 12 #[.agg #[.slice A0_0 l0_0.length c0_0, .slice A0_1 l0_1.length c0_1]] w fun e w' => ∃ v1_ v2_ : Value, e = .returned (.tuple #[.agg #[.int .i64 r1, v1_, v2_], .string r4, .int .i64 r5]) ∧ Kd.R Kd.string 9 w' w.heap.size (fun _ => True) v1_ r2 ∧ Kd.R k51 51 w' w.heap.size (fun _ => True) v2_ r3 ∧ Below w.heap.size w w' := by
 have hu25 := Try.underlying25; have hu28 := Try.underlying28; have hu51 := Try.underlying51; have hu64 := Try.underlying64; have hu54 := Try.underlying54; have HR0_0 := Aside0.mk hr0_0; have HC0_0 := Aside0.mk hc0_0; clear hr0_0 hc0_0; have HR0_1 := Aside0.mk hr0_1; have HC0_1 := Aside0.mk hc0_1; clear hr0_1 hc0_1
 have HB := Aside0.mk (Below.refl w.heap.size w)
 have H : (templeref1_Build.l0 k 0 l0_0 l0_1 0 ([] : List ByteArray)) = some (r1, r2, r3, r4, r5) := h
 clear h; have H' := Aside0.mk H; clear H
 go_enter Try.func12, Try.ntmps12
 go_wp2_with (first | ((with_reducible refine gate_dst (N := 1) rfl ?_); (try (refine gate_guard (by rfl) ?_; dsimp only)); refine box_event (by rfl) (N := 1) (by rfl) (cs := #[.slice A0_0 l0_0.length c0_0, .slice A0_1 l0_1.length c0_1]) (t := 25) zzh ?_; intro gb252 hg w2 hbox hb; have n0_ := Aside0.mk (below_step zzq hb); have n1_ := Aside0.mk (hbox); have n2_ := Aside0.mk ((zzg hg zzq)); have n3_ := Aside0.mk ((zzg hg zzq)); clear HB; have HB := n0_; have BK252 := n1_; have GW252 := n2_; have GE252 := n3_; clear n0_ n1_ n2_ n3_; clear hb hbox hg) | ((with_reducible refine gate_dst (N := 2) rfl ?_); (try (refine gate_guard (by rfl) ?_; dsimp only)); refine box_event (by rfl) (N := 2) (by rfl) (cs := #[.int .i64 0, .slice none 0 0, .slice none 0 0]) (t := 28) zzh ?_; intro gb253 hg w3 hbox hb; have n0_ := Aside0.mk (blk_below (g := gb252) (o := .cells #[.slice A0_0 l0_0.length c0_0, .slice A0_1 l0_1.length c0_1] 25 (0, 0)) (zzb BK252) hb); have n1_ := Aside0.mk (below_step zzq hb); have n2_ := Aside0.mk (hbox); have n3_ := Aside0.mk ((zzg hg zzq)); have n4_ := Aside0.mk ((zzg hg zzq)); have n5_ := Aside0.mk ((by rw [hg]; exact Nat.ne_of_lt (blk_lt (g := gb252) (o := .cells #[.slice A0_0 l0_0.length c0_0, .slice A0_1 l0_1.length c0_1] 25 (0, 0)) (zzb BK252)) : gb252 ≠ gb253)); have n6_ := Aside0.mk ((by rw [hg]; exact Nat.ne_of_gt (blk_lt (g := gb252) (o := .cells #[.slice A0_0 l0_0.length c0_0, .slice A0_1 l0_1.length c0_1] 25 (0, 0)) (zzb BK252)) : gb253 ≠ gb252)); clear BK252; clear HB; have BK252 := n0_; have HB := n1_; have BK253 := n2_; have GW253 := n3_; have GE253 := n4_; have NB252_253 := n5_; have NB253_252 := n6_; clear n0_ n1_ n2_ n3_ n4_ n5_ n6_; clear hb hbox hg) | ((with_reducible refine gate_dst (N := 5) rfl ?_); (try (refine gate_guard (by rfl) ?_; dsimp only)); refine box_event (by rfl) (N := 5) (by rfl) (cs := #[.int .i64 0, .slice none 0 0, .slice none 0 0]) (t := 28) zzh ?_; intro gb254 hg w4 hbox hb; have n0_ := Aside0.mk (blk_below (g := gb252) (o := .cells #[.slice A0_0 l0_0.length c0_0, .slice A0_1 l0_1.length c0_1] 25 (0, 0)) (zzb BK252) hb); have n1_ := Aside0.mk (blk_below (g := gb253) (o := .cells #[.int .i64 0, .slice none 0 0, .slice none 0 0] 28 (0, 0)) (zzb BK253) hb); have n2_ := Aside0.mk (below_step zzq hb); have n3_ := Aside0.mk (hbox); have n4_ := Aside0.mk ((zzg hg zzq)); have n5_ := Aside0.mk ((zzg hg zzq)); have n6_ := Aside0.mk ((by rw [hg]; exact Nat.ne_of_lt (blk_lt (g := gb252) (o := .cells #[.slice A0_0 l0_0.length c0_0, .slice A0_1 l0_1.length c0_1] 25 (0, 0)) (zzb BK252)) : gb252 ≠ gb254)); have n7_ := Aside0.mk ((by rw [hg]; exact Nat.ne_of_gt (blk_lt (g := gb252) (o := .cells #[.slice A0_0 l0_0.length c0_0, .slice A0_1 l0_1.length c0_1] 25 (0, 0)) (zzb BK252)) : gb254 ≠ gb252)); have n8_ := Aside0.mk ((by rw [hg]; exact Nat.ne_of_lt (blk_lt (g := gb253) (o := .cells #[.int .i64 0, .slice none 0 0, .slice none 0 0] 28 (0, 0)) (zzb BK253)) : gb253 ≠ gb254)); have n9_ := Aside0.mk ((by rw [hg]; exact Nat.ne_of_gt (blk_lt (g := gb253) (o := .cells #[.int .i64 0, .slice none 0 0, .slice none 0 0] 28 (0, 0)) (zzb BK253)) : gb254 ≠ gb253)); clear BK252; clear BK253; clear HB; have BK252 := n0_; have BK253 := n1_; have HB := n2_; have BK254 := n3_; have GW254 := n4_; have GE254 := n5_; have NB252_254 := n6_; have NB254_252 := n7_; have NB253_254 := n8_; have NB254_253 := n9_; clear n0_ n1_ n2_ n3_ n4_ n5_ n6_ n7_ n8_ n9_; clear hb hbox hg))
 go_loopg [6] k (fun kq v6 w' => ∃ (x6_1 : Int) (x254000_1 : Int) (x255001_1 : List ByteArray) (u255001 : Value), v6 = .int .i64 x6_1 ∧ Aside0 (templeref1_Build.l0 kq x6_1 l0_0 l0_1 0 x255001_1 = some (r1, r2, r3, r4, r5)) ∧ Aside0 (kq ≤ k) ∧ Aside0 (Kd.R Kd.string 9 w' w.heap.size (fun _ => True) u255001 x255001_1) ∧ Aside0 (w'.heap[gb252]? = some (.cells #[(.slice A0_0 l0_0.length c0_0), (.slice A0_1 l0_1.length c0_1)] 25 (0, 0))) ∧ Aside0 (w'.heap[gb253]? = some (.cells #[.int .i64 x254000_1, (.slice none 0 0), (.slice none 0 0)] 28 (0, 0))) ∧ Aside0 (w'.heap[gb254]? = some (.cells #[.int .i64 0, u255001, (.slice none 0 0)] 28 (0, 0))) ∧ Aside0 (Below w.heap.size w w'))
 case atStart => exact ⟨(0), (0), (([] : List ByteArray)), (.slice none 0 0), zz0, H', ⟨Nat.le_refl _⟩, ⟨by first | exact Kd.R_nil _ _ _ _ _ | exact Kd.N_nil _ _ _ _ _ | exact Kd.V_nil _ _ _ _ _ | exact Kd.Q_nil _ _ _ _ _ | exact Kd.S_nil _ _ _ _ _⟩, ⟨zzb BK252⟩, ⟨zzb BK253⟩, ⟨zzb BK254⟩, ⟨zzq⟩⟩
 case round =>
  clear H'; (try clear c1); (try clear p2); obtain ⟨x6_1, x254000_1, x255001_1, u255001, rfl, HA, HK1, HO_255001, BK252, BK253, BK254, HB⟩ := hrel
  cases gk with
  | zero => exact absurd HA.out (by simp [templeref1_Build.l0])
  | succ k1 =>
   have H := HA.out; clear HA
   simp only [templeref1_Build.l0] at H
   by_cases c5 : x6_1 < (l0_1.length : Int)
   ·rw [if_pos c5] at H; have c5b0 : decide (x6_1 < (l0_1.length : Int)) = true := decide_eq_true c5; clear c5
    by_cases c6 : 0 ≤ x6_1
    ·rw [if_pos c6] at H; have c6b0 : decide (0 ≤ x6_1) = true := decide_eq_true c6; clear c6; replace H := Option.bind_eq_some_iff.mp H; obtain ⟨t256, A70, H⟩ := H; (try dsimp only at H); have A7 := Aside0.mk A70; clear A70
     by_cases c8 : t256 ≥ 0
     ·rw [if_pos c8] at H; have c8b0 : decide (0 ≤ t256) = true := decide_eq_true c8; clear c8
      simp only [Option.some.injEq, Prod.mk.injEq] at H
      obtain ⟨rfl, rfl, rfl, rfl, rfl⟩ := H; have hnb9 := NB252_253.out; have hnc9 := NB253_252.out; have hnb10 := NB252_254.out; have hnc10 := NB254_252.out
      have hcz11_0 : wr.cell? ⟨gb252, 0, none⟩ = some (.slice A0_0 l0_0.length c0_0) := (blk_cell BK252.out 0).trans rfl
      have hcz11_1 : wr.cell? ⟨gb252, 1, none⟩ = some (.slice A0_1 l0_1.length c0_1) := (blk_cell BK252.out 1).trans rfl
      have hfz11_0 := blk_frozen BK252.out 0; have hfz11_1 := blk_frozen BK252.out 1
      try go_wp2
      have n0_ := Aside0.mk (Kd.R_drew HO_255001.out); have n1_ := Aside0.mk (blk_drew BK252.out); have n2_ := Aside0.mk (blk_drew BK253.out); have n3_ := Aside0.mk (blk_drew BK254.out); have n4_ := Aside0.mk (below_drew1 HB.out); clear HO_255001; clear BK252; clear BK253; clear BK254; clear HB; have HO_255001 := n0_; have BK252 := n1_; have BK253 := n2_; have BK254 := n3_; have HB := n4_; clear n0_ n1_ n2_ n3_ n4_
      have p255 : 0 ≤ (x6_1 : Int) := of_decide_eq_true zz1
      have q255 : x6_1 < (l0_1.length : Int) := of_decide_eq_true zz1
      obtain ⟨ad255, A255_1, c255_1, e255, hx255_0, hx255_1, hl255_1, hi255_1⟩ := at_T45 HR0_1.out x6_1 p255 q255; have hw255_1 := hx255_1; have hw255_0 := hx255_0; cases e255
      replace hx255_0 := (HB.out.cell (World.block_lt_of_cell? w _ hx255_0)).trans hx255_0
      replace hx255_1 := (HB.out.cell (World.block_lt_of_cell? w _ hx255_1)).trans hx255_1
      have HR255_1 := Aside0.mk hi255_1; have HC255_1 := Aside0.mk hl255_1; clear hi255_1 hl255_1; replace p255 := eq_true p255; replace q255 := eq_true q255; obtain ⟨Ao13, co13, eo13⟩ := Kd.R_slice HO_255001.out
      (first | subst eo13 | (injection eo13 with f1_ f2_ f3_; have f4_ := f1_.symm; have f5_ := f3_.symm; clear f1_ f2_ f3_; subst f4_; subst f5_))
      refine start_ (n := 10) (S := fun w' => w'.cell? ⟨gb254, 0, none⟩ = some (.int .i64 0) ∧ w'.cell? ⟨gb254, 1, none⟩ = some (.slice Ao13 x255001_1.length co13) ∧ w'.cell? ⟨gb254, 2, none⟩ = some (.slice none 0 0) ∧ w'.cell? ⟨gb252, 0, none⟩ = some (.slice A0_0 l0_0.length c0_0) ∧ w'.cell? ⟨gb252, 1, none⟩ = some (.slice (some ad255) l0_1.length c0_1) ∧ w'.cell? (ad255.add ((x6_1).toNat * 2)) = some (.string ((rd_T45 l0_1 x6_1).f0)) ∧ w'.cell? ⟨(ad255.add ((x6_1).toNat * 2)).block, (ad255.add ((x6_1).toNat * 2)).off + 1, none⟩ = some (.slice A255_1 ((rd_T45 l0_1 x6_1).f1).length c255_1)) (ds := []) #[false, false, false, false, false, false, false, false, false, false] (by kernel_rfl) rfl rfl ⟨(blk_cell BK254.out 0).trans rfl, (blk_cell BK254.out 1).trans rfl, (blk_cell BK254.out 2).trans rfl, (blk_cell BK252.out 0).trans rfl, (blk_cell BK252.out 1).trans rfl, ((HB.out.cell (World.block_lt_of_cell? w _ hw255_0)).trans hw255_0), ((HB.out.cell (World.block_lt_of_cell? w _ hw255_1)).trans hw255_1)⟩ (fun hHeld => ?_); refine with_tabW templeref1_Build.tab5 templeref1_Build.bits5 (fun HT_ HW_ => ?_)
      generalize wr.drew = w12 at HO_255001 BK252 BK253 BK254 HB HR255_1 hx255_0 hx255_1 hHeld ⊢
      refine pure_ (i := 0) (N := some 21) (v := ?_) (a' := ?_) #[true, false, false, false, false, false, false, false, false, false] rfl rfl (any_of HT_.out (by kernel_rfl)) (fun _ _ _ h => h) (Or.inl ⟨by rfl, ?_⟩) ?_ ?_
      rotate_left
      ·intro w'
       go_simp; with_reducible rfl
      rotate_left
      ·simp only [Act.put, s1, s2, s3, i64_w, i32_w]
       rfl
      refine pure_ (i := 2) (N := some 23) (v := ?_) (a' := ?_) #[true, false, true, false, false, false, false, false, false, false] rfl rfl (any_of HT_.out (by kernel_rfl)) (fun _ _ _ h => h) (Or.inl ⟨by rfl, ?_⟩) ?_ ?_
      rotate_left
      ·intro w'
       go_simp; with_reducible rfl
      rotate_left
      ·simp only [Act.put, s1, s2, s3, i64_w, i32_w]
       rfl
      refine pure_ (i := 4) (N := some 25) (v := ?_) (a' := ?_) #[true, false, true, false, true, false, false, false, false, false] rfl rfl (any_of HT_.out (by kernel_rfl)) (fun _ _ _ h => h) (Or.inl ⟨by rfl, ?_⟩) ?_ ?_
      rotate_left
      ·intro w'
       go_simp; with_reducible rfl
      rotate_left
      ·simp only [Act.put, s1, s2, s3, i64_w, i32_w]
       rfl
      refine take_ (i := 1) (N := some 22) (v := ?_) (a' := ?_) #[true, true, true, false, true, false, false, false, false, false] rfl rfl (take_ofW HT_.out HW_.out (by kernel_rfl)) (fun _ _ _ h => h) (Or.inl ⟨by rfl, ?_⟩) hHeld ?_ ?_
      rotate_left
      ·rintro w' ⟨s0, s1, s2, s3, s4, s5, s6⟩; go_simp; with_reducible rfl
      rotate_left
      ·simp only [Act.put, s1, s2, s3, i64_w, i32_w]
       rfl
      refine take_ (i := 3) (N := some 24) (v := ?_) (a' := ?_) #[true, true, true, true, true, false, false, false, false, false] rfl rfl (take_ofW HT_.out HW_.out (by kernel_rfl)) (fun _ _ _ h => h) (Or.inl ⟨by rfl, ?_⟩) hHeld ?_ ?_
      rotate_left
      ·rintro w' ⟨s0, s1, s2, s3, s4, s5, s6⟩; go_simp; with_reducible rfl
      rotate_left
      ·simp only [Act.put, s1, s2, s3, i64_w, i32_w]
       rfl
      refine pure_ (i := 5) (N := some 26) (v := ?_) (a' := ?_) #[true, true, true, true, true, true, false, false, false, false] rfl rfl (any_of HT_.out (by kernel_rfl)) (fun _ _ _ h => h) (Or.inl ⟨by rfl, ?_⟩) ?_ ?_
      rotate_left
      ·intro w'
       go_simp; with_reducible rfl
      rotate_left
      ·simp only [Act.put, s1, s2, s3, i64_w, i32_w]
       rfl
      refine pure_ (i := 6) (N := some 27) (v := ?_) (a' := ?_) #[true, true, true, true, true, true, true, false, false, false] rfl rfl (any_of HT_.out (by kernel_rfl)) (fun _ _ _ h => h) (Or.inl ⟨by rfl, ?_⟩) ?_ ?_
      rotate_left
      ·intro w'
       go_simp; with_reducible rfl
      rotate_left
      ·simp only [Act.put, s1, s2, s3, i64_w, i32_w]
       rfl
      refine take_ (i := 7) (N := some 28) (v := ?_) (a' := ?_) #[true, true, true, true, true, true, true, true, false, false] rfl rfl (take_ofW HT_.out HW_.out (by kernel_rfl)) (fun _ _ _ h => h) (Or.inl ⟨by rfl, ?_⟩) hHeld ?_ ?_
      rotate_left
      ·rintro w' ⟨s0, s1, s2, s3, s4, s5, s6⟩; go_simp; with_reducible rfl
      rotate_left
      ·simp only [Act.put, s1, s2, s3, i64_w, i32_w]
       rfl
      refine one_ (i := 8) (N := some 29) #[true, true, true, true, true, true, true, true, true, false] rfl rfl (one_of HT_.out (by kernel_rfl)) (by decide) (fun K hK => ?_)
      refine goes_ Try.func28 (by kernel_rfl) rfl #[.slice Ao13 x255001_1.length co13, .string ((rd_T45 l0_1 x6_1).f0)] (by rfl) rfl rfl zz2 ?_
      with_reducible refine (templeref1_find.calls k1 _ _ x255001_1 ((rd_T45 l0_1 x6_1).f0) t256 _ ?side1 ?side2 A7.out).mono ?_
      (case side1 => exact zzc (Kd.R_reads' HO_255001.out).2.2)
      (case side2 => exact (Kd.R_reads' HO_255001.out).2.1)
      rintro e w' ⟨rfl, ⟨nd, rfl⟩⟩
      refine ⟨_, rfl, ?_⟩
      refine hK.out _ _ ⟨(blk_cell BK254.out 0).trans rfl, (blk_cell BK254.out 1).trans rfl, (blk_cell BK254.out 2).trans rfl, (blk_cell BK252.out 0).trans rfl, (blk_cell BK252.out 1).trans rfl, ((HB.out.cell (World.block_lt_of_cell? w _ hw255_0)).trans hw255_0), ((HB.out.cell (World.block_lt_of_cell? w _ hw255_1)).trans hw255_1)⟩ (fun hHeld => ?_)
      clear hK K
      refine norm_ (a' := ?_) ?_ ?_
      rotate_left
      ·show Act.put _ (some 29) _ = _
       simp only [Act.put, s1, s2, s3, i64_w, i32_w]
       rfl
      refine pure_ (i := 9) (N := some 30) (v := ?_) (a' := ?_) #[true, true, true, true, true, true, true, true, true, true] rfl rfl (any_of HT_.out (by kernel_rfl)) (fun _ _ _ h => h) (Or.inl ⟨by rfl, ?_⟩) ?_ ?_
      rotate_left
      ·intro w'
       go_simp; with_reducible rfl
      rotate_left
      ·simp only [Act.put, s1, s2, s3, i64_w, i32_w]
       rfl
      refine done_ (done_of HT_.out (by kernel_rfl)) ?_
      try go_wp2
      (try (rw [drewN_self w12]; generalize hq_ : World.drewN w12 _ = w12; have n0_ : Aside0 (Kd.R Kd.string 9 w12 w.heap.size (fun _ => True) (.slice Ao13 x255001_1.length co13) x255001_1) := ⟨by rw [← hq_]; exact (zzr HO_255001.out)⟩; have n1_ : Aside0 (w12.heap[gb252]? = some (.cells #[.slice A0_0 l0_0.length c0_0, .slice (some ad255) l0_1.length c0_1] 25 (0, 0))) := ⟨by rw [← hq_]; exact (zzb BK252)⟩; have n2_ : Aside0 (w12.heap[gb253]? = some (.cells #[.int .i64 x254000_1, .slice none 0 0, .slice none 0 0] 28 (0, 0))) := ⟨by rw [← hq_]; exact (zzb BK253)⟩; have n3_ : Aside0 (w12.heap[gb254]? = some (.cells #[.int .i64 0, .slice Ao13 x255001_1.length co13, .slice none 0 0] 28 (0, 0))) := ⟨by rw [← hq_]; exact (zzb BK254)⟩; have n4_ : Aside0 (Below w.heap.size w w12) := ⟨by rw [← hq_]; exact zzq⟩; clear HO_255001 BK252 BK253 BK254 HB hq_; have HO_255001 := n0_; have BK252 := n1_; have BK253 := n2_; have BK254 := n3_; have HB := n4_; clear n0_ n1_ n2_ n3_ n4_))
      have n0_ := Aside0.mk (Kd.R_drew HO_255001.out); have n1_ := Aside0.mk (blk_drew BK252.out); have n2_ := Aside0.mk (blk_drew BK253.out); have n3_ := Aside0.mk (blk_drew BK254.out); have n4_ := Aside0.mk (below_drew1 HB.out); clear HO_255001; clear BK252; clear BK253; clear BK254; clear HB; have HO_255001 := n0_; have BK252 := n1_; have BK253 := n2_; have BK254 := n3_; have HB := n4_; clear n0_ n1_ n2_ n3_ n4_
      have p257 : 0 ≤ (x6_1 : Int) := of_decide_eq_true zz1
      have q257 : x6_1 < (l0_1.length : Int) := of_decide_eq_true zz1
      obtain ⟨ad257, A257_1, c257_1, e257, hx257_0, hx257_1, hl257_1, hi257_1⟩ := at_T45 HR0_1.out x6_1 p257 q257; have hw257_1 := hx257_1; have hw257_0 := hx257_0; obtain rfl : ad255 = ad257 := (by injection e257)
      replace hx257_0 := (HB.out.cell (World.block_lt_of_cell? w _ hx257_0)).trans hx257_0
      replace hx257_1 := (HB.out.cell (World.block_lt_of_cell? w _ hx257_1)).trans hx257_1
      have HR257_1 := Aside0.mk hi257_1; have HC257_1 := Aside0.mk hl257_1; clear hi257_1 hl257_1; replace p257 := eq_true p257; replace q257 := eq_true q257
      refine start_ (n := 10) (S := fun w' => w'.cell? ⟨gb252, 0, none⟩ = some (.slice A0_0 l0_0.length c0_0) ∧ w'.cell? ⟨gb252, 1, none⟩ = some (.slice (some ad255) l0_1.length c0_1) ∧ w'.cell? (ad255.add ((x6_1).toNat * 2)) = some (.string ((rd_T45 l0_1 x6_1).f0)) ∧ w'.cell? ⟨(ad255.add ((x6_1).toNat * 2)).block, (ad255.add ((x6_1).toNat * 2)).off + 1, none⟩ = some (.slice A257_1 ((rd_T45 l0_1 x6_1).f1).length c257_1)) (ds := []) #[false, false, false, false, false, false, false, false, false, false] (by kernel_rfl) rfl rfl ⟨(blk_cell BK252.out 0).trans rfl, (blk_cell BK252.out 1).trans rfl, ((HB.out.cell (World.block_lt_of_cell? w _ hw257_0)).trans hw257_0), ((HB.out.cell (World.block_lt_of_cell? w _ hw257_1)).trans hw257_1)⟩ (fun hHeld => ?_); refine with_tabW templeref1_Build.tab6 templeref1_Build.bits6 (fun HT_ HW_ => ?_)
      generalize w12.drew = w14 at HO_255001 BK252 BK253 BK254 HB HR257_1 hx257_0 hx257_1 hHeld ⊢
      refine pure_ (i := 0) (N := some 31) (v := ?_) (a' := ?_) #[true, false, false, false, false, false, false, false, false, false] rfl rfl (any_of HT_.out (by kernel_rfl)) (fun _ _ _ h => h) (Or.inl ⟨by rfl, ?_⟩) ?_ ?_
      rotate_left
      ·intro w'
       go_simp; with_reducible rfl
      rotate_left
      ·simp only [Act.put, s1, s2, s3, i64_w, i32_w]
       rfl
      refine pure_ (i := 1) (N := some 32) (v := ?_) (a' := ?_) #[true, true, false, false, false, false, false, false, false, false] rfl rfl (any_of HT_.out (by kernel_rfl)) (fun _ _ _ h => h) (Or.inl ⟨by rfl, ?_⟩) ?_ ?_
      rotate_left
      ·intro w'
       go_simp; with_reducible rfl
      rotate_left
      ·simp only [Act.put, s1, s2, s3, i64_w, i32_w]
       rfl
      refine pure_ (i := 3) (N := some 34) (v := ?_) (a' := ?_) #[true, true, false, true, false, false, false, false, false, false] rfl rfl (any_of HT_.out (by kernel_rfl)) (fun _ _ _ h => h) (Or.inl ⟨by rfl, ?_⟩) ?_ ?_
      rotate_left
      ·intro w'
       go_simp; with_reducible rfl
      rotate_left
      ·simp only [Act.put, s1, s2, s3, i64_w, i32_w]
       rfl
      refine take_ (i := 2) (N := some 33) (v := ?_) (a' := ?_) #[true, true, true, true, false, false, false, false, false, false] rfl rfl (take_ofW HT_.out HW_.out (by kernel_rfl)) (fun _ _ _ h => h) (Or.inl ⟨by rfl, ?_⟩) hHeld ?_ ?_
      rotate_left
      ·rintro w' ⟨s0, s1, s2, s3⟩; go_simp; with_reducible rfl
      rotate_left
      ·simp only [Act.put, s1, s2, s3, i64_w, i32_w]
       rfl
      refine pure_ (i := 4) (N := some 35) (v := ?_) (a' := ?_) #[true, true, true, true, true, false, false, false, false, false] rfl rfl (any_of HT_.out (by kernel_rfl)) (fun _ _ _ h => h) (Or.inl ⟨by rfl, ?_⟩) ?_ ?_
      rotate_left
      ·intro w'
       go_simp; with_reducible rfl
      rotate_left
      ·simp only [Act.put, s1, s2, s3, i64_w, i32_w]
       rfl
      refine pure_ (i := 5) (N := some 36) (v := ?_) (a' := ?_) #[true, true, true, true, true, true, false, false, false, false] rfl rfl (any_of HT_.out (by kernel_rfl)) (fun _ _ _ h => h) (Or.inl ⟨by rfl, ?_⟩) ?_ ?_
      rotate_left
      ·intro w'
       go_simp; with_reducible rfl
      rotate_left
      ·simp only [Act.put, s1, s2, s3, i64_w, i32_w]
       rfl
      refine take_ (i := 6) (N := some 37) (v := ?_) (a' := ?_) #[true, true, true, true, true, true, true, false, false, false] rfl rfl (take_ofW HT_.out HW_.out (by kernel_rfl)) (fun _ _ _ h => h) (Or.inl ⟨by rfl, ?_⟩) hHeld ?_ ?_
      rotate_left
      ·rintro w' ⟨s0, s1, s2, s3⟩; go_simp; with_reducible rfl
      rotate_left
      ·simp only [Act.put, s1, s2, s3, i64_w, i32_w]
       rfl
      refine one_ (i := 7) (N := none) #[true, true, true, true, true, true, true, true, false, false] rfl rfl (one_of HT_.out (by kernel_rfl)) (by decide) (fun K hK => ?_)
      have hs15 : w14.cell? ⟨gb253, 0, none⟩ = some (.int .i64 x254000_1) := (blk_cell BK253.out 0).trans rfl
      have hfs15 := blk_frozen BK253.out 0
      have hns15_0 := NB252_253.out; have hns15_2 := NB254_253.out; have hms15_0 := NB253_252.out; have hms15_2 := NB253_254.out
      have hs16 : w14.cell? ⟨gb253, 1, none⟩ = some (.slice none 0 0) := (blk_cell BK253.out 1).trans rfl
      have hfs16 := blk_frozen BK253.out 1
      have hns16_0 := NB252_253.out; have hns16_2 := NB254_253.out; have hms16_0 := NB253_252.out; have hms16_2 := NB253_254.out
      have hs17 : w14.cell? ⟨gb253, 2, none⟩ = some (.slice none 0 0) := (blk_cell BK253.out 2).trans rfl
      have hfs17 := blk_frozen BK253.out 2
      have hns17_0 := NB252_253.out; have hns17_2 := NB254_253.out; have hms17_0 := NB253_252.out; have hms17_2 := NB253_254.out
      refine skip_ (w1 := ?_) (by rfl) rfl ?_ ?_
      rotate_left
      ·go_simp; rfl
      refine hK.out _ _ ⟨((cell_far (p := ⟨gb253, _, none⟩) NB252_253.out _).trans (((cell_far (p := ⟨gb253, _, none⟩) NB252_253.out _).trans (((cell_far (p := ⟨gb253, _, none⟩) NB252_253.out _).trans (hHeld.1)))))), ((cell_far (p := ⟨gb253, _, none⟩) NB252_253.out _).trans (((cell_far (p := ⟨gb253, _, none⟩) NB252_253.out _).trans (((cell_far (p := ⟨gb253, _, none⟩) NB252_253.out _).trans (hHeld.2.1)))))), ((cell_far (p := ⟨gb253, _, none⟩) zz6 _).trans (((cell_far (p := ⟨gb253, _, none⟩) zz6 _).trans (((cell_far (p := ⟨gb253, _, none⟩) zz6 _).trans (hHeld.2.2.1)))))), ((cell_far (p := ⟨gb253, _, none⟩) zz7 _).trans (((cell_far (p := ⟨gb253, _, none⟩) zz7 _).trans (((cell_far (p := ⟨gb253, _, none⟩) zz7 _).trans (hHeld.2.2.2))))))⟩ (fun hHeld => ?_)
      clear hK K
      refine pure_ (i := 8) (N := some 3) (v := ?_) (a' := ?_) #[true, true, true, true, true, true, true, true, true, false] rfl rfl (any_of HT_.out (by kernel_rfl)) (fun _ _ _ h => h) (Or.inl ⟨by rfl, ?_⟩) ?_ ?_
      rotate_left
      ·intro w'
       go_simp; with_reducible rfl
      rotate_left
      ·simp only [Act.put, s1, s2, s3, i64_w, i32_w]
       rfl
      refine pure_ (i := 9) (N := some 4) (v := ?_) (a' := ?_) #[true, true, true, true, true, true, true, true, true, true] rfl rfl (any_of HT_.out (by kernel_rfl)) (fun _ _ _ h => h) (Or.inl ⟨by rfl, ?_⟩) ?_ ?_
      rotate_left
      ·intro w'
       go_simp; with_reducible rfl
      rotate_left
      ·simp only [Act.put, s1, s2, s3, i64_w, i32_w]
       rfl
      refine done_ (done_of HT_.out (by kernel_rfl)) ?_
      try go_wp2
      refine bodyPost_ret (results_ctt rfl _ _ gb253 28 #[.int .i64 0, .slice none 0 0, .slice none 0 0] (0, 0) _ rfl (by (with_reducible repeat (first | refine blk_drewN ?_ _ | refine blk_drew ?_ | refine blk_alloc ?_ _)); refine blk_put (cs := #[.int .i64 0, .slice none 0 0, .slice none 0 0]) ?_ 2 _ rfl; (with_reducible repeat (first | refine blk_drewN ?_ _ | refine blk_drew ?_ | refine blk_alloc ?_ _)); refine blk_put (cs := #[.int .i64 0, .slice none 0 0, .slice none 0 0]) ?_ 1 _ rfl; (with_reducible repeat (first | refine blk_drewN ?_ _ | refine blk_drew ?_ | refine blk_alloc ?_ _)); refine blk_put (cs := #[.int .i64 x254000_1, .slice none 0 0, .slice none 0 0]) ?_ 0 _ rfl; exact zzb BK253) Try.underlying28 rfl (by kernel_rfl)) rfl ?_
      exact ⟨_, _, by first | rfl | (simp [errW_none, errW_some] <;> rfl) | (simp [*, errW_none, errW_some] <;> rfl), by first | exact Kd.R_nil _ _ _ _ _ | exact Kd.N_nil _ _ _ _ _ | exact Kd.V_nil _ _ _ _ _ | exact Kd.Q_nil _ _ _ _ _ | exact Kd.S_nil _ _ _ _ _, by first | exact Kd.R_nil _ _ _ _ _ | exact Kd.N_nil _ _ _ _ _ | exact Kd.V_nil _ _ _ _ _ | exact Kd.Q_nil _ _ _ _ _ | exact Kd.S_nil _ _ _ _ _, zzq⟩
     ·rw [if_neg c8] at H; have c8b0 : decide (0 ≤ t256) = false := decide_eq_false c8; clear c8
      by_cases c18 : x255001_1.length < 8796093022208
      ·rw [if_pos c18] at H; have LMc18 := Aside0.mk c18; clear c18; obtain ⟨y259, hy259⟩ : ∃ y_ : List ByteArray, y_ = (x255001_1 ++ [(rd_T45 l0_1 x6_1).f0]) := ⟨_, rfl⟩
       replace H : (templeref1_Build.l0 k1 (wrap64 (x6_1 + 1)) l0_0 l0_1 0 y259) = some (r1, r2, r3, r4, r5) := by first | (rw [hy259]; with_reducible exact H) | (have H2_ := (Option.bind_some _ _).symm.trans H; rw [hy259]; with_reducible exact H2_) | (have H2_ := (Option.bind_some _ _).symm.trans H; with_reducible exact H2_) | with_reducible exact H | (rw [hy259]; exact H) | exact H
       have Ny259 := Aside0.mk hy259; clear hy259; have H' := Aside0.mk H; clear H; have hnb19 := NB252_253.out; have hnc19 := NB253_252.out; have hnb20 := NB252_254.out; have hnc20 := NB254_252.out
       have hcz21_0 : wr.cell? ⟨gb252, 0, none⟩ = some (.slice A0_0 l0_0.length c0_0) := (blk_cell BK252.out 0).trans rfl
       have hcz21_1 : wr.cell? ⟨gb252, 1, none⟩ = some (.slice A0_1 l0_1.length c0_1) := (blk_cell BK252.out 1).trans rfl
       have hfz21_0 := blk_frozen BK252.out 0; have hfz21_1 := blk_frozen BK252.out 1
       try go_wp2
       have n0_ := Aside0.mk (Kd.R_drew HO_255001.out); have n1_ := Aside0.mk (blk_drew BK252.out); have n2_ := Aside0.mk (blk_drew BK253.out); have n3_ := Aside0.mk (blk_drew BK254.out); have n4_ := Aside0.mk (below_drew1 HB.out); clear HO_255001; clear BK252; clear BK253; clear BK254; clear HB; have HO_255001 := n0_; have BK252 := n1_; have BK253 := n2_; have BK254 := n3_; have HB := n4_; clear n0_ n1_ n2_ n3_ n4_
       have p255 : 0 ≤ (x6_1 : Int) := of_decide_eq_true zz1
       have q255 : x6_1 < (l0_1.length : Int) := of_decide_eq_true zz1
       obtain ⟨ad255, A255_1, c255_1, e255, hx255_0, hx255_1, hl255_1, hi255_1⟩ := at_T45 HR0_1.out x6_1 p255 q255; have hw255_1 := hx255_1; have hw255_0 := hx255_0; cases e255
       replace hx255_0 := (HB.out.cell (World.block_lt_of_cell? w _ hx255_0)).trans hx255_0
       replace hx255_1 := (HB.out.cell (World.block_lt_of_cell? w _ hx255_1)).trans hx255_1
       have HR255_1 := Aside0.mk hi255_1; have HC255_1 := Aside0.mk hl255_1; clear hi255_1 hl255_1; replace p255 := eq_true p255; replace q255 := eq_true q255; obtain ⟨Ao23, co23, eo23⟩ := Kd.R_slice HO_255001.out
       (first | subst eo23 | (injection eo23 with f1_ f2_ f3_; have f4_ := f1_.symm; have f5_ := f3_.symm; clear f1_ f2_ f3_; subst f4_; subst f5_))
       refine start_ (n := 10) (S := fun w' => w'.cell? ⟨gb254, 0, none⟩ = some (.int .i64 0) ∧ w'.cell? ⟨gb254, 1, none⟩ = some (.slice Ao23 x255001_1.length co23) ∧ w'.cell? ⟨gb254, 2, none⟩ = some (.slice none 0 0) ∧ w'.cell? ⟨gb252, 0, none⟩ = some (.slice A0_0 l0_0.length c0_0) ∧ w'.cell? ⟨gb252, 1, none⟩ = some (.slice (some ad255) l0_1.length c0_1) ∧ w'.cell? (ad255.add ((x6_1).toNat * 2)) = some (.string ((rd_T45 l0_1 x6_1).f0)) ∧ w'.cell? ⟨(ad255.add ((x6_1).toNat * 2)).block, (ad255.add ((x6_1).toNat * 2)).off + 1, none⟩ = some (.slice A255_1 ((rd_T45 l0_1 x6_1).f1).length c255_1)) (ds := []) #[false, false, false, false, false, false, false, false, false, false] (by kernel_rfl) rfl rfl ⟨(blk_cell BK254.out 0).trans rfl, (blk_cell BK254.out 1).trans rfl, (blk_cell BK254.out 2).trans rfl, (blk_cell BK252.out 0).trans rfl, (blk_cell BK252.out 1).trans rfl, ((HB.out.cell (World.block_lt_of_cell? w _ hw255_0)).trans hw255_0), ((HB.out.cell (World.block_lt_of_cell? w _ hw255_1)).trans hw255_1)⟩ (fun hHeld => ?_); refine with_tabW templeref1_Build.tab5 templeref1_Build.bits5 (fun HT_ HW_ => ?_)
       generalize wr.drew = w22 at HO_255001 BK252 BK253 BK254 HB HR255_1 hx255_0 hx255_1 hHeld ⊢
       refine pure_ (i := 0) (N := some 21) (v := ?_) (a' := ?_) #[true, false, false, false, false, false, false, false, false, false] rfl rfl (any_of HT_.out (by kernel_rfl)) (fun _ _ _ h => h) (Or.inl ⟨by rfl, ?_⟩) ?_ ?_
       rotate_left
       ·intro w'
        go_simp; with_reducible rfl
       rotate_left
       ·simp only [Act.put, s1, s2, s3, i64_w, i32_w]
        rfl
       refine pure_ (i := 2) (N := some 23) (v := ?_) (a' := ?_) #[true, false, true, false, false, false, false, false, false, false] rfl rfl (any_of HT_.out (by kernel_rfl)) (fun _ _ _ h => h) (Or.inl ⟨by rfl, ?_⟩) ?_ ?_
       rotate_left
       ·intro w'
        go_simp; with_reducible rfl
       rotate_left
       ·simp only [Act.put, s1, s2, s3, i64_w, i32_w]
        rfl
       refine pure_ (i := 4) (N := some 25) (v := ?_) (a' := ?_) #[true, false, true, false, true, false, false, false, false, false] rfl rfl (any_of HT_.out (by kernel_rfl)) (fun _ _ _ h => h) (Or.inl ⟨by rfl, ?_⟩) ?_ ?_
       rotate_left
       ·intro w'
        go_simp; with_reducible rfl
       rotate_left
       ·simp only [Act.put, s1, s2, s3, i64_w, i32_w]
        rfl
       refine take_ (i := 1) (N := some 22) (v := ?_) (a' := ?_) #[true, true, true, false, true, false, false, false, false, false] rfl rfl (take_ofW HT_.out HW_.out (by kernel_rfl)) (fun _ _ _ h => h) (Or.inl ⟨by rfl, ?_⟩) hHeld ?_ ?_
       rotate_left
       ·rintro w' ⟨s0, s1, s2, s3, s4, s5, s6⟩; go_simp; with_reducible rfl
       rotate_left
       ·simp only [Act.put, s1, s2, s3, i64_w, i32_w]
        rfl
       refine take_ (i := 3) (N := some 24) (v := ?_) (a' := ?_) #[true, true, true, true, true, false, false, false, false, false] rfl rfl (take_ofW HT_.out HW_.out (by kernel_rfl)) (fun _ _ _ h => h) (Or.inl ⟨by rfl, ?_⟩) hHeld ?_ ?_
       rotate_left
       ·rintro w' ⟨s0, s1, s2, s3, s4, s5, s6⟩; go_simp; with_reducible rfl
       rotate_left
       ·simp only [Act.put, s1, s2, s3, i64_w, i32_w]
        rfl
       refine pure_ (i := 5) (N := some 26) (v := ?_) (a' := ?_) #[true, true, true, true, true, true, false, false, false, false] rfl rfl (any_of HT_.out (by kernel_rfl)) (fun _ _ _ h => h) (Or.inl ⟨by rfl, ?_⟩) ?_ ?_
       rotate_left
       ·intro w'
        go_simp; with_reducible rfl
       rotate_left
       ·simp only [Act.put, s1, s2, s3, i64_w, i32_w]
        rfl
       refine pure_ (i := 6) (N := some 27) (v := ?_) (a' := ?_) #[true, true, true, true, true, true, true, false, false, false] rfl rfl (any_of HT_.out (by kernel_rfl)) (fun _ _ _ h => h) (Or.inl ⟨by rfl, ?_⟩) ?_ ?_
       rotate_left
       ·intro w'
        go_simp; with_reducible rfl
       rotate_left
       ·simp only [Act.put, s1, s2, s3, i64_w, i32_w]
        rfl
       refine take_ (i := 7) (N := some 28) (v := ?_) (a' := ?_) #[true, true, true, true, true, true, true, true, false, false] rfl rfl (take_ofW HT_.out HW_.out (by kernel_rfl)) (fun _ _ _ h => h) (Or.inl ⟨by rfl, ?_⟩) hHeld ?_ ?_
       rotate_left
       ·rintro w' ⟨s0, s1, s2, s3, s4, s5, s6⟩; go_simp; with_reducible rfl
       rotate_left
       ·simp only [Act.put, s1, s2, s3, i64_w, i32_w]
        rfl
       refine one_ (i := 8) (N := some 29) #[true, true, true, true, true, true, true, true, true, false] rfl rfl (one_of HT_.out (by kernel_rfl)) (by decide) (fun K hK => ?_)
       refine goes_ Try.func28 (by kernel_rfl) rfl #[.slice Ao23 x255001_1.length co23, .string ((rd_T45 l0_1 x6_1).f0)] (by rfl) rfl rfl zz2 ?_
       with_reducible refine (templeref1_find.calls k1 _ _ x255001_1 ((rd_T45 l0_1 x6_1).f0) t256 _ ?side1 ?side2 A7.out).mono ?_
       (case side1 => exact zzc (Kd.R_reads' HO_255001.out).2.2)
       (case side2 => exact (Kd.R_reads' HO_255001.out).2.1)
       rintro e w' ⟨rfl, ⟨nd, rfl⟩⟩
       refine ⟨_, rfl, ?_⟩
       refine hK.out _ _ ⟨(blk_cell BK254.out 0).trans rfl, (blk_cell BK254.out 1).trans rfl, (blk_cell BK254.out 2).trans rfl, (blk_cell BK252.out 0).trans rfl, (blk_cell BK252.out 1).trans rfl, ((HB.out.cell (World.block_lt_of_cell? w _ hw255_0)).trans hw255_0), ((HB.out.cell (World.block_lt_of_cell? w _ hw255_1)).trans hw255_1)⟩ (fun hHeld => ?_)
       clear hK K
       refine norm_ (a' := ?_) ?_ ?_
       rotate_left
       ·show Act.put _ (some 29) _ = _
        simp only [Act.put, s1, s2, s3, i64_w, i32_w]
        rfl
       refine pure_ (i := 9) (N := some 30) (v := ?_) (a' := ?_) #[true, true, true, true, true, true, true, true, true, true] rfl rfl (any_of HT_.out (by kernel_rfl)) (fun _ _ _ h => h) (Or.inl ⟨by rfl, ?_⟩) ?_ ?_
       rotate_left
       ·intro w'
        go_simp; with_reducible rfl
       rotate_left
       ·simp only [Act.put, s1, s2, s3, i64_w, i32_w]
        rfl
       refine done_ (done_of HT_.out (by kernel_rfl)) ?_
       try go_wp2
       (try (rw [drewN_self w22]; generalize hq_ : World.drewN w22 _ = w22; have n0_ : Aside0 (Kd.R Kd.string 9 w22 w.heap.size (fun _ => True) (.slice Ao23 x255001_1.length co23) x255001_1) := ⟨by rw [← hq_]; exact (zzr HO_255001.out)⟩; have n1_ : Aside0 (w22.heap[gb252]? = some (.cells #[.slice A0_0 l0_0.length c0_0, .slice (some ad255) l0_1.length c0_1] 25 (0, 0))) := ⟨by rw [← hq_]; exact (zzb BK252)⟩; have n2_ : Aside0 (w22.heap[gb253]? = some (.cells #[.int .i64 x254000_1, .slice none 0 0, .slice none 0 0] 28 (0, 0))) := ⟨by rw [← hq_]; exact (zzb BK253)⟩; have n3_ : Aside0 (w22.heap[gb254]? = some (.cells #[.int .i64 0, .slice Ao23 x255001_1.length co23, .slice none 0 0] 28 (0, 0))) := ⟨by rw [← hq_]; exact (zzb BK254)⟩; have n4_ : Aside0 (Below w.heap.size w w22) := ⟨by rw [← hq_]; exact zzq⟩; clear HO_255001 BK252 BK253 BK254 HB hq_; have HO_255001 := n0_; have BK252 := n1_; have BK253 := n2_; have BK254 := n3_; have HB := n4_; clear n0_ n1_ n2_ n3_ n4_))
       have n0_ := Aside0.mk (Kd.R_drew HO_255001.out); have n1_ := Aside0.mk (blk_drew BK252.out); have n2_ := Aside0.mk (blk_drew BK253.out); have n3_ := Aside0.mk (blk_drew BK254.out); have n4_ := Aside0.mk (below_drew1 HB.out); clear HO_255001; clear BK252; clear BK253; clear BK254; clear HB; have HO_255001 := n0_; have BK252 := n1_; have BK253 := n2_; have BK254 := n3_; have HB := n4_; clear n0_ n1_ n2_ n3_ n4_
       have p258 : 0 ≤ (x6_1 : Int) := of_decide_eq_true zz1
       have q258 : x6_1 < (l0_1.length : Int) := of_decide_eq_true zz1
       obtain ⟨ad258, A258_1, c258_1, e258, hx258_0, hx258_1, hl258_1, hi258_1⟩ := at_T45 HR0_1.out x6_1 p258 q258; have hw258_1 := hx258_1; have hw258_0 := hx258_0; obtain rfl : ad255 = ad258 := (by injection e258)
       replace hx258_0 := (HB.out.cell (World.block_lt_of_cell? w _ hx258_0)).trans hx258_0
       replace hx258_1 := (HB.out.cell (World.block_lt_of_cell? w _ hx258_1)).trans hx258_1
       have HR258_1 := Aside0.mk hi258_1; have HC258_1 := Aside0.mk hl258_1; clear hi258_1 hl258_1; replace p258 := eq_true p258; replace q258 := eq_true q258
       refine start_ (n := 12) (S := fun w' => w'.cell? ⟨gb254, 0, none⟩ = some (.int .i64 0) ∧ w'.cell? ⟨gb254, 1, none⟩ = some (.slice Ao23 x255001_1.length co23) ∧ w'.cell? ⟨gb254, 2, none⟩ = some (.slice none 0 0) ∧ w'.cell? ⟨gb252, 0, none⟩ = some (.slice A0_0 l0_0.length c0_0) ∧ w'.cell? ⟨gb252, 1, none⟩ = some (.slice (some ad255) l0_1.length c0_1) ∧ w'.cell? (ad255.add ((x6_1).toNat * 2)) = some (.string ((rd_T45 l0_1 x6_1).f0)) ∧ w'.cell? ⟨(ad255.add ((x6_1).toNat * 2)).block, (ad255.add ((x6_1).toNat * 2)).off + 1, none⟩ = some (.slice A258_1 ((rd_T45 l0_1 x6_1).f1).length c258_1)) (ds := [11]) #[false, false, false, false, false, false, false, false, false, false, false, false] (by kernel_rfl) rfl rfl ⟨(blk_cell BK254.out 0).trans rfl, (blk_cell BK254.out 1).trans rfl, (blk_cell BK254.out 2).trans rfl, (blk_cell BK252.out 0).trans rfl, (blk_cell BK252.out 1).trans rfl, ((HB.out.cell (World.block_lt_of_cell? w _ hw258_0)).trans hw258_0), ((HB.out.cell (World.block_lt_of_cell? w _ hw258_1)).trans hw258_1)⟩ (fun hHeld => ?_); refine with_tabW templeref1_Build.tab7 templeref1_Build.bits7 (fun HT_ HW_ => ?_)
       generalize w22.drew = w24 at HO_255001 BK252 BK253 BK254 HB HR258_1 hx258_0 hx258_1 hHeld ⊢
       refine pure_ (i := 0) (N := some 38) (v := ?_) (a' := ?_) (bs 12 1) rfl rfl (any_of HT_.out (by kernel_rfl)) (fun _ _ _ h => h) (Or.inl ⟨by rfl, ?_⟩) ?_ ?_
       rotate_left
       ·intro w'
        go_simp; with_reducible rfl
       rotate_left
       ·simp only [Act.put, s1, s2, s3, i64_w, i32_w]
        rfl
       refine pure_ (i := 2) (N := some 40) (v := ?_) (a' := ?_) (bs 12 5) rfl rfl (any_of HT_.out (by kernel_rfl)) (fun _ _ _ h => h) (Or.inl ⟨by rfl, ?_⟩) ?_ ?_
       rotate_left
       ·intro w'
        go_simp; with_reducible rfl
       rotate_left
       ·simp only [Act.put, s1, s2, s3, i64_w, i32_w]
        rfl
       refine pure_ (i := 4) (N := some 42) (v := ?_) (a' := ?_) (bs 12 21) rfl rfl (any_of HT_.out (by kernel_rfl)) (fun _ _ _ h => h) (Or.inl ⟨by rfl, ?_⟩) ?_ ?_
       rotate_left
       ·intro w'
        go_simp; with_reducible rfl
       rotate_left
       ·simp only [Act.put, s1, s2, s3, i64_w, i32_w]
        rfl
       refine take_ (i := 1) (N := some 39) (v := ?_) (a' := ?_) (bs 12 23) rfl rfl (take_ofW HT_.out HW_.out (by kernel_rfl)) (fun _ _ _ h => h) (Or.inl ⟨by rfl, ?_⟩) hHeld ?_ ?_
       rotate_left
       ·rintro w' ⟨s0, s1, s2, s3, s4, s5, s6⟩; go_simp; with_reducible rfl
       rotate_left
       ·simp only [Act.put, s1, s2, s3, i64_w, i32_w]
        rfl
       refine take_ (i := 3) (N := some 41) (v := ?_) (a' := ?_) (bs 12 31) rfl rfl (take_ofW HT_.out HW_.out (by kernel_rfl)) (fun _ _ _ h => h) (Or.inl ⟨by rfl, ?_⟩) hHeld ?_ ?_
       rotate_left
       ·rintro w' ⟨s0, s1, s2, s3, s4, s5, s6⟩; go_simp; with_reducible rfl
       rotate_left
       ·simp only [Act.put, s1, s2, s3, i64_w, i32_w]
        rfl
       refine pure_ (i := 5) (N := some 43) (v := ?_) (a' := ?_) (bs 12 63) rfl rfl (any_of HT_.out (by kernel_rfl)) (fun _ _ _ h => h) (Or.inl ⟨by rfl, ?_⟩) ?_ ?_
       rotate_left
       ·intro w'
        go_simp; with_reducible rfl
       rotate_left
       ·simp only [Act.put, s1, s2, s3, i64_w, i32_w]
        rfl
       refine pure_ (i := 6) (N := some 44) (v := ?_) (a' := ?_) (bs 12 127) rfl rfl (any_of HT_.out (by kernel_rfl)) (fun _ _ _ h => h) (Or.inl ⟨by rfl, ?_⟩) ?_ ?_
       rotate_left
       ·intro w'
        go_simp; with_reducible rfl
       rotate_left
       ·simp only [Act.put, s1, s2, s3, i64_w, i32_w]
        rfl
       refine take_ (i := 7) (N := some 45) (v := ?_) (a' := ?_) (bs 12 255) rfl rfl (take_ofW HT_.out HW_.out (by kernel_rfl)) (fun _ _ _ h => h) (Or.inl ⟨by rfl, ?_⟩) hHeld ?_ ?_
       rotate_left
       ·rintro w' ⟨s0, s1, s2, s3, s4, s5, s6⟩; go_simp; with_reducible rfl
       rotate_left
       ·simp only [Act.put, s1, s2, s3, i64_w, i32_w]
        rfl
       refine one_ (i := 8) (N := some 46) (bs 12 511) rfl rfl (one_of HT_.out (by kernel_rfl)) (by decide) (fun K hK => ?_)
       refine value_ (w1 := ?_) (v := ?_) (by rfl) rfl ?_ ?_
       rotate_left 2
       ·go_simp
        constructor
        ·rfl
        ·rfl
       refine hK.out _ _ ⟨(blk_cell (blk_alloc BK254.out _) 0).trans rfl, (blk_cell (blk_alloc BK254.out _) 1).trans rfl, (blk_cell (blk_alloc BK254.out _) 2).trans rfl, (blk_cell (blk_alloc BK252.out _) 0).trans rfl, (blk_cell (blk_alloc BK252.out _) 1).trans rfl, (World.cell?_alloc_lt _ _ _ (World.block_lt_of_cell? _ _ (((HB.out.cell (World.block_lt_of_cell? w _ hw258_0)).trans hw258_0)))).trans (((HB.out.cell (World.block_lt_of_cell? w _ hw258_0)).trans hw258_0)), (World.cell?_alloc_lt _ _ _ (World.block_lt_of_cell? _ _ (((HB.out.cell (World.block_lt_of_cell? w _ hw258_1)).trans hw258_1)))).trans (((HB.out.cell (World.block_lt_of_cell? w _ hw258_1)).trans hw258_1))⟩ (fun hHeld => ?_)
       clear hK K
       refine norm_ (a' := ?_) ?_ ?_
       rotate_left
       ·show Act.put _ (some 46) _ = _
        simp only [Act.put, s1, s2, s3, i64_w, i32_w]
        rfl
       refine one_ (i := 9) (N := some 47) (bs 12 1023) rfl rfl (one_of HT_.out (by kernel_rfl)) (by decide) (fun K hK => ?_)
       refine Kd.R_append_step Kd.string (w0 := w) w.heap.size (by rfl) (.tmp 39) (.tmp 46) 22 9 (.string ⟨#[]⟩) 16 rfl Try.underlying22 info9 rfl (by decide) (by omega) (.slice Ao23 x255001_1.length co23) x255001_1 ((rd_T45 l0_1 x6_1).f0) [.string ((rd_T45 l0_1 x6_1).f0)] (fun _ => True) (fun _ => False) rfl rfl ?aP (fun _ hk => hk.elim) ?aF ?aO ?aB ?aS ?aL ?_
       (case aP => exact rfl)
       (case aB => exact zzq)
       (case aF => exact (fun _ _ => trivial))
       (case aO => exact (zzr HO_255001.out))
       (case aS => exact (below_size zzq))
       (case aL => have := LMc18.out; omega)
       intro v260 w25 ho hb hg hat
       rw [← Ny259.out] at ho
       have n0_ := Aside0.mk (blk_grown (g := gb252) (o := .cells #[.slice A0_0 l0_0.length c0_0, .slice (some ad255) l0_1.length c0_1] 25 (0, 0)) (zzb BK252) hg (Kd.R_ne HO_255001.out BK252.out (by decide))); have n1_ := Aside0.mk (blk_grown (g := gb253) (o := .cells #[.int .i64 x254000_1, .slice none 0 0, .slice none 0 0] 28 (0, 0)) (zzb BK253) hg (Kd.R_ne HO_255001.out BK253.out (by decide))); have n2_ := Aside0.mk (blk_grown (g := gb254) (o := .cells #[.int .i64 0, .slice Ao23 x255001_1.length co23, .slice none 0 0] 28 (0, 0)) (zzb BK254) hg (Kd.R_ne HO_255001.out BK254.out (by decide))); have n3_ := Aside0.mk (hb); have n4_ := Aside0.mk (ho); clear BK252; clear BK253; clear BK254; clear HB; clear HO_255001; have BK252 := n0_; have BK253 := n1_; have BK254 := n2_; have HB := n3_; have HO261 := n4_; clear n0_ n1_ n2_ n3_ n4_; clear ho hb hg hat; obtain ⟨Ao26, co26, eo26⟩ := Kd.R_slice HO261.out
       (first | subst eo26 | (injection eo26 with f1_ f2_ f3_; have f4_ := f1_.symm; have f5_ := f3_.symm; clear f1_ f2_ f3_; subst f4_; subst f5_))
       refine hK.out _ _ ⟨(blk_cell BK254.out 0).trans rfl, (blk_cell BK254.out 1).trans rfl, (blk_cell BK254.out 2).trans rfl, (blk_cell BK252.out 0).trans rfl, (blk_cell BK252.out 1).trans rfl, ((HB.out.cell (World.block_lt_of_cell? w _ hw258_0)).trans hw258_0), ((HB.out.cell (World.block_lt_of_cell? w _ hw258_1)).trans hw258_1)⟩ (fun hHeld => ?_)
       clear hK K
       refine norm_ (a' := ?_) ?_ ?_
       rotate_left
       ·show Act.put _ (some 47) _ = _
        simp only [Act.put, s1, s2, s3, i64_w, i32_w]
        rfl
       refine pure_ (i := 10) (N := some 48) (v := ?_) (a' := ?_) (bs 12 2047) rfl rfl (any_of HT_.out (by kernel_rfl)) (fun _ _ _ h => h) (Or.inl ⟨by rfl, ?_⟩) ?_ ?_
       rotate_left
       ·intro w'
        go_simp; with_reducible rfl
       rotate_left
       ·simp only [Act.put, s1, s2, s3, i64_w, i32_w]
        rfl
       refine last_ (i := 11) (N := none) (bs 12 4095) rfl rfl (one_of HT_.out (by kernel_rfl)) (by decide) (fun K hK => ?_)
       have hs27 : w25.cell? ⟨gb254, 1, none⟩ = some (.slice Ao23 x255001_1.length co23) := (blk_cell BK254.out 1).trans rfl
       have hfs27 := blk_frozen BK254.out 1
       have hns27_0 := NB252_254.out; have hns27_1 := NB253_254.out; have hms27_0 := NB254_252.out; have hms27_1 := NB254_253.out
       refine skip_ (w1 := ?_) (by rfl) rfl ?_ ?_
       rotate_left
       ·go_simp; rfl
       refine hK.out _ _ ?_
       clear hK K
       refine done_ (done_of HT_.out (by kernel_rfl)) ?_
       try go_wp2
       go_roundg k1
       case measure => have := HK1.out; omega
       case rel => exact ⟨(wrap64 (x6_1 + 1)), (x254000_1), (y259), (.slice Ao26 y259.length co26), zz0, H', ⟨by have := HK1.out; omega⟩, ⟨zzr (Kd.R_mono (Kd.R_far (p := ⟨gb254, 1, none⟩) (Kd.R_types HO261.out BK254.out (by decide)) (fun _ hk => hk.2) (.slice Ao26 y259.length co26)) (fun _ hk => trivial))⟩, ⟨by (with_reducible repeat (first | refine blk_drewN ?_ _ | refine blk_drew ?_ | refine blk_alloc ?_ _)); refine blk_far ?_ NB252_254.out _; exact zzb BK252⟩, ⟨by (with_reducible repeat (first | refine blk_drewN ?_ _ | refine blk_drew ?_ | refine blk_alloc ?_ _)); refine blk_far ?_ NB253_254.out _; exact zzb BK253⟩, ⟨by (with_reducible repeat (first | refine blk_drewN ?_ _ | refine blk_drew ?_ | refine blk_alloc ?_ _)); refine blk_put (cs := #[.int .i64 0, .slice Ao23 x255001_1.length co23, .slice none 0 0]) ?_ 1 _ rfl; exact zzb BK254⟩, ⟨zzq⟩⟩
      ·rw [if_neg c18] at H
       exact absurd H (by simp)
    ·rw [if_neg c6] at H
     exact absurd H (by simp)
   ·rw [if_neg c5] at H; have c5b0 : decide (x6_1 < (l0_1.length : Int)) = false := decide_eq_false c5; clear c5
    by_cases c28 : (l0_0.length : Int) = 1
    ·rw [if_pos c28] at H; have c28b0 : ((l0_0.length : Int) == 1) = true := beq_iff_eq.mpr c28; have c28b1 : ((l0_0.length : Int) != 1) = false := bne_eq_false_iff_eq.mpr c28; clear c28; replace H := Option.bind_eq_some_iff.mp H; obtain ⟨⟨t262, t263⟩, A290, H⟩ := H; (try dsimp only at H); have A29 := Aside0.mk A290; clear A290
     by_cases c30 : t263 = true
     ·subst c30
      have H1 : (some (0, ([] : List ByteArray), ([] : List (S51)), t262, 402)) = some (r1, r2, r3, r4, r5) := by rw [if_pos rfl] at H; exact H
      clear H; have H := H1; clear H1
      simp only [Option.some.injEq, Prod.mk.injEq] at H
      obtain ⟨rfl, rfl, rfl, rfl, rfl⟩ := H; have hnb31 := NB252_253.out; have hnc31 := NB253_252.out; have hnb32 := NB252_254.out; have hnc32 := NB254_252.out
      have hcz33_0 : wr.cell? ⟨gb252, 0, none⟩ = some (.slice A0_0 l0_0.length c0_0) := (blk_cell BK252.out 0).trans rfl
      have hcz33_1 : wr.cell? ⟨gb252, 1, none⟩ = some (.slice A0_1 l0_1.length c0_1) := (blk_cell BK252.out 1).trans rfl
      have hfz33_0 := blk_frozen BK252.out 0; have hfz33_1 := blk_frozen BK252.out 1; have hnb34 := NB254_253.out; have hnc34 := NB253_254.out
      have hcz35_0 : wr.cell? ⟨gb254, 0, none⟩ = some (.int .i64 0) := (blk_cell BK254.out 0).trans rfl
      have hcz35_1 : wr.cell? ⟨gb254, 1, none⟩ = some (u255001) := (blk_cell BK254.out 1).trans rfl
      have hcz35_2 : wr.cell? ⟨gb254, 2, none⟩ = some (.slice none 0 0) := (blk_cell BK254.out 2).trans rfl
      have hfz35_0 := blk_frozen BK254.out 0; have hfz35_1 := blk_frozen BK254.out 1; have hfz35_2 := blk_frozen BK254.out 2; obtain ⟨Ao36, co36, eo36⟩ := Kd.R_slice HO_255001.out; subst eo36
      go_wp2_with (first | ((with_reducible refine gate_callee (f := 29) rfl ?_); refine goesL_ (some 58) rfl rfl Try.func29 (by kernel_rfl) rfl #[.agg #[.slice A0_0 l0_0.length c0_0, .slice A0_1 l0_1.length c0_1], .slice Ao36 x255001_1.length co36] rfl zz2 ?_; (with_reducible refine (templeref1_unknown.calls k1 _ _ l0_0 _ _ l0_1 _ _ x255001_1 t262 true _ ?side1 ?side2 ?side3 ?side4 ?side5 ?side6 A29.out).mono ?_); (case side1 => exact zzc (Kd.C_below HR0_0.out HB.out)); (case side2 => exact HC0_0.out); (case side3 => exact zzc (Kd.C_below HR0_1.out HB.out)); (case side4 => exact HC0_1.out); (case side5 => exact zzc (Kd.R_reads' HO_255001.out).2.2); (case side6 => exact (Kd.R_reads' HO_255001.out).2.1); rintro e w37 ⟨rfl, hb⟩; refine ⟨_, rfl, ?_⟩; have n0_ := Aside0.mk (Kd.R_below (zzr HO_255001.out) hb); have n1_ := Aside0.mk (blk_below (g := gb252) (o := .cells #[.slice A0_0 l0_0.length c0_0, .slice A0_1 l0_1.length c0_1] 25 (0, 0)) (zzb BK252) hb); have n2_ := Aside0.mk (blk_below (g := gb253) (o := .cells #[.int .i64 x254000_1, .slice none 0 0, .slice none 0 0] 28 (0, 0)) (zzb BK253) hb); have n3_ := Aside0.mk (blk_below (g := gb254) (o := .cells #[.int .i64 0, .slice Ao36 x255001_1.length co36, .slice none 0 0] 28 (0, 0)) (zzb BK254) hb); have n4_ := Aside0.mk (below_step zzq hb); clear HO_255001; clear BK252; clear BK253; clear BK254; clear HB; have HO_255001 := n0_; have BK252 := n1_; have BK253 := n2_; have BK254 := n3_; have HB := n4_; clear n0_ n1_ n2_ n3_ n4_; (try clear hb); have hcz38_0 : w37.cell? ⟨gb253, 0, none⟩ = some (.int .i64 x254000_1) := (blk_cell BK253.out 0).trans rfl; have hcz38_1 : w37.cell? ⟨gb253, 1, none⟩ = some (.slice none 0 0) := (blk_cell BK253.out 1).trans rfl; have hcz38_2 : w37.cell? ⟨gb253, 2, none⟩ = some (.slice none 0 0) := (blk_cell BK253.out 2).trans rfl; have hfz38_0 := blk_frozen BK253.out 0; have hfz38_1 := blk_frozen BK253.out 1; have hfz38_2 := blk_frozen BK253.out 2))
      refine bodyPost_ret (results_ctt rfl _ _ gb253 28 #[.int .i64 0, .slice none 0 0, .slice none 0 0] (0, 0) _ rfl (by (with_reducible repeat (first | refine blk_drewN ?_ _ | refine blk_drew ?_ | refine blk_alloc ?_ _)); refine blk_put (cs := #[.int .i64 0, .slice none 0 0, .slice none 0 0]) ?_ 2 _ rfl; (with_reducible repeat (first | refine blk_drewN ?_ _ | refine blk_drew ?_ | refine blk_alloc ?_ _)); refine blk_put (cs := #[.int .i64 0, .slice none 0 0, .slice none 0 0]) ?_ 1 _ rfl; (with_reducible repeat (first | refine blk_drewN ?_ _ | refine blk_drew ?_ | refine blk_alloc ?_ _)); refine blk_put (cs := #[.int .i64 x254000_1, .slice none 0 0, .slice none 0 0]) ?_ 0 _ rfl; exact zzb BK253) Try.underlying28 rfl (by kernel_rfl)) rfl ?_
      exact ⟨_, _, by first | rfl | (simp [errW_none, errW_some] <;> rfl) | (simp [*, errW_none, errW_some] <;> rfl), by first | exact Kd.R_nil _ _ _ _ _ | exact Kd.N_nil _ _ _ _ _ | exact Kd.V_nil _ _ _ _ _ | exact Kd.Q_nil _ _ _ _ _ | exact Kd.S_nil _ _ _ _ _, by first | exact Kd.R_nil _ _ _ _ _ | exact Kd.N_nil _ _ _ _ _ | exact Kd.V_nil _ _ _ _ _ | exact Kd.Q_nil _ _ _ _ _ | exact Kd.S_nil _ _ _ _ _, zzq⟩
     ·replace c30 := Bool.eq_false_iff.mpr c30
      subst c30; have H1 := H
      rw [if_neg (show ¬ (false = true) by decide)] at H1
      clear H; have H := H1; clear H1; replace H := Option.bind_eq_some_iff.mp H; obtain ⟨⟨t264, t265⟩, A390, H⟩ := H; (try dsimp only at H); have A39 := Aside0.mk A390; clear A390
      by_cases c40 : t265 = true
      ·subst c40
       have H1 : (some (0, ([] : List ByteArray), ([] : List (S51)), t264, 403)) = some (r1, r2, r3, r4, r5) := by rw [if_pos rfl] at H; exact H
       clear H; have H := H1; clear H1
       simp only [Option.some.injEq, Prod.mk.injEq] at H
       obtain ⟨rfl, rfl, rfl, rfl, rfl⟩ := H; have hnb41 := NB252_253.out; have hnc41 := NB253_252.out; have hnb42 := NB252_254.out; have hnc42 := NB254_252.out
       have hcz43_0 : wr.cell? ⟨gb252, 0, none⟩ = some (.slice A0_0 l0_0.length c0_0) := (blk_cell BK252.out 0).trans rfl
       have hcz43_1 : wr.cell? ⟨gb252, 1, none⟩ = some (.slice A0_1 l0_1.length c0_1) := (blk_cell BK252.out 1).trans rfl
       have hfz43_0 := blk_frozen BK252.out 0; have hfz43_1 := blk_frozen BK252.out 1; have hnb44 := NB254_253.out; have hnc44 := NB253_254.out
       have hcz45_0 : wr.cell? ⟨gb254, 0, none⟩ = some (.int .i64 0) := (blk_cell BK254.out 0).trans rfl
       have hcz45_1 : wr.cell? ⟨gb254, 1, none⟩ = some (u255001) := (blk_cell BK254.out 1).trans rfl
       have hcz45_2 : wr.cell? ⟨gb254, 2, none⟩ = some (.slice none 0 0) := (blk_cell BK254.out 2).trans rfl
       have hfz45_0 := blk_frozen BK254.out 0; have hfz45_1 := blk_frozen BK254.out 1; have hfz45_2 := blk_frozen BK254.out 2; obtain ⟨Ao46, co46, eo46⟩ := Kd.R_slice HO_255001.out; subst eo46
       go_wp2_with (first | ((with_reducible refine gate_callee (f := 29) rfl ?_); refine goesL_ (some 58) rfl rfl Try.func29 (by kernel_rfl) rfl #[.agg #[.slice A0_0 l0_0.length c0_0, .slice A0_1 l0_1.length c0_1], .slice Ao46 x255001_1.length co46] rfl zz2 ?_; (with_reducible refine (templeref1_unknown.calls k1 _ _ l0_0 _ _ l0_1 _ _ x255001_1 t262 false _ ?side1 ?side2 ?side3 ?side4 ?side5 ?side6 A29.out).mono ?_); (case side1 => exact zzc (Kd.C_below HR0_0.out HB.out)); (case side2 => exact HC0_0.out); (case side3 => exact zzc (Kd.C_below HR0_1.out HB.out)); (case side4 => exact HC0_1.out); (case side5 => exact zzc (Kd.R_reads' HO_255001.out).2.2); (case side6 => exact (Kd.R_reads' HO_255001.out).2.1); rintro e w47 ⟨rfl, hb⟩; refine ⟨_, rfl, ?_⟩; have n0_ := Aside0.mk (Kd.R_below (zzr HO_255001.out) hb); have n1_ := Aside0.mk (blk_below (g := gb252) (o := .cells #[.slice A0_0 l0_0.length c0_0, .slice A0_1 l0_1.length c0_1] 25 (0, 0)) (zzb BK252) hb); have n2_ := Aside0.mk (blk_below (g := gb253) (o := .cells #[.int .i64 x254000_1, .slice none 0 0, .slice none 0 0] 28 (0, 0)) (zzb BK253) hb); have n3_ := Aside0.mk (blk_below (g := gb254) (o := .cells #[.int .i64 0, .slice Ao46 x255001_1.length co46, .slice none 0 0] 28 (0, 0)) (zzb BK254) hb); have n4_ := Aside0.mk (below_step zzq hb); clear HO_255001; clear BK252; clear BK253; clear BK254; clear HB; have HO_255001 := n0_; have BK252 := n1_; have BK253 := n2_; have BK254 := n3_; have HB := n4_; clear n0_ n1_ n2_ n3_ n4_; (try clear hb); have hcz48_0 : w47.cell? ⟨gb252, 0, none⟩ = some (.slice A0_0 l0_0.length c0_0) := (blk_cell BK252.out 0).trans rfl; have hcz48_1 : w47.cell? ⟨gb252, 1, none⟩ = some (.slice A0_1 l0_1.length c0_1) := (blk_cell BK252.out 1).trans rfl; have hfz48_0 := blk_frozen BK252.out 0; have hfz48_1 := blk_frozen BK252.out 1) | ((with_reducible refine gate_callee (f := 30) rfl ?_); refine goesL_ (some 66) rfl rfl Try.func30 (by kernel_rfl) rfl #[.agg #[.slice A0_0 l0_0.length c0_0, .slice A0_1 l0_1.length c0_1]] rfl zz2 ?_; (with_reducible refine (templeref1_hollow.calls k1 _ _ l0_0 _ _ l0_1 t264 true _ ?side1 ?side2 ?side3 ?side4 A39.out).mono ?_); (case side1 => exact zzc (Kd.C_below HR0_0.out HB.out)); (case side2 => exact HC0_0.out); (case side3 => exact zzc (Kd.C_below HR0_1.out HB.out)); (case side4 => exact HC0_1.out); rintro e w49 ⟨rfl, hb⟩; refine ⟨_, rfl, ?_⟩; have n0_ := Aside0.mk (Kd.R_below (zzr HO_255001.out) hb); have n1_ := Aside0.mk (blk_below (g := gb252) (o := .cells #[.slice A0_0 l0_0.length c0_0, .slice A0_1 l0_1.length c0_1] 25 (0, 0)) (zzb BK252) hb); have n2_ := Aside0.mk (blk_below (g := gb253) (o := .cells #[.int .i64 x254000_1, .slice none 0 0, .slice none 0 0] 28 (0, 0)) (zzb BK253) hb); have n3_ := Aside0.mk (blk_below (g := gb254) (o := .cells #[.int .i64 0, .slice Ao46 x255001_1.length co46, .slice none 0 0] 28 (0, 0)) (zzb BK254) hb); have n4_ := Aside0.mk (below_step zzq hb); clear HO_255001; clear BK252; clear BK253; clear BK254; clear HB; have HO_255001 := n0_; have BK252 := n1_; have BK253 := n2_; have BK254 := n3_; have HB := n4_; clear n0_ n1_ n2_ n3_ n4_; (try clear hb); have hcz50_0 : w49.cell? ⟨gb253, 0, none⟩ = some (.int .i64 x254000_1) := (blk_cell BK253.out 0).trans rfl; have hcz50_1 : w49.cell? ⟨gb253, 1, none⟩ = some (.slice none 0 0) := (blk_cell BK253.out 1).trans rfl; have hcz50_2 : w49.cell? ⟨gb253, 2, none⟩ = some (.slice none 0 0) := (blk_cell BK253.out 2).trans rfl; have hfz50_0 := blk_frozen BK253.out 0; have hfz50_1 := blk_frozen BK253.out 1; have hfz50_2 := blk_frozen BK253.out 2))
       refine bodyPost_ret (results_ctt rfl _ _ gb253 28 #[.int .i64 0, .slice none 0 0, .slice none 0 0] (0, 0) _ rfl (by (with_reducible repeat (first | refine blk_drewN ?_ _ | refine blk_drew ?_ | refine blk_alloc ?_ _)); refine blk_put (cs := #[.int .i64 0, .slice none 0 0, .slice none 0 0]) ?_ 2 _ rfl; (with_reducible repeat (first | refine blk_drewN ?_ _ | refine blk_drew ?_ | refine blk_alloc ?_ _)); refine blk_put (cs := #[.int .i64 0, .slice none 0 0, .slice none 0 0]) ?_ 1 _ rfl; (with_reducible repeat (first | refine blk_drewN ?_ _ | refine blk_drew ?_ | refine blk_alloc ?_ _)); refine blk_put (cs := #[.int .i64 x254000_1, .slice none 0 0, .slice none 0 0]) ?_ 0 _ rfl; exact zzb BK253) Try.underlying28 rfl (by kernel_rfl)) rfl ?_
       exact ⟨_, _, by first | rfl | (simp [errW_none, errW_some] <;> rfl) | (simp [*, errW_none, errW_some] <;> rfl), by first | exact Kd.R_nil _ _ _ _ _ | exact Kd.N_nil _ _ _ _ _ | exact Kd.V_nil _ _ _ _ _ | exact Kd.Q_nil _ _ _ _ _ | exact Kd.S_nil _ _ _ _ _, by first | exact Kd.R_nil _ _ _ _ _ | exact Kd.N_nil _ _ _ _ _ | exact Kd.V_nil _ _ _ _ _ | exact Kd.Q_nil _ _ _ _ _ | exact Kd.S_nil _ _ _ _ _, zzq⟩
      ·replace c40 := Bool.eq_false_iff.mpr c40
       subst c40; have H1 := H
       rw [if_neg (show ¬ (false = true) by decide)] at H1
       clear H; have H := H1; clear H1
       by_cases c51 : 0 < (l0_0.length : Int)
       ·rw [if_pos c51] at H; have c51b0 : decide (0 < (l0_0.length : Int)) = true := decide_eq_true c51
        have c51b1 : decide (0 < l0_0.length) = true := decide_eq_true (by omega)
        clear c51; replace H := Option.bind_eq_some_iff.mp H; obtain ⟨t267, A520, H⟩ := H
        replace H : (templeref1_Build.l1 k1 0 l0_0 l0_1 t267 x255001_1 ([] : List (S51))) = some (r1, r2, r3, r4, r5) := H
        have A52 := Aside0.mk A520; clear A520; have H' := Aside0.mk H; clear H; have hnb53 := NB252_253.out; have hnc53 := NB253_252.out; have hnb54 := NB252_254.out; have hnc54 := NB254_252.out
        have hcz55_0 : wr.cell? ⟨gb252, 0, none⟩ = some (.slice A0_0 l0_0.length c0_0) := (blk_cell BK252.out 0).trans rfl
        have hcz55_1 : wr.cell? ⟨gb252, 1, none⟩ = some (.slice A0_1 l0_1.length c0_1) := (blk_cell BK252.out 1).trans rfl
        have hfz55_0 := blk_frozen BK252.out 0; have hfz55_1 := blk_frozen BK252.out 1; have hnb56 := NB254_253.out; have hnc56 := NB253_254.out
        have hcz57_0 : wr.cell? ⟨gb254, 0, none⟩ = some (.int .i64 0) := (blk_cell BK254.out 0).trans rfl
        have hcz57_1 : wr.cell? ⟨gb254, 1, none⟩ = some (u255001) := (blk_cell BK254.out 1).trans rfl
        have hcz57_2 : wr.cell? ⟨gb254, 2, none⟩ = some (.slice none 0 0) := (blk_cell BK254.out 2).trans rfl
        have hfz57_0 := blk_frozen BK254.out 0; have hfz57_1 := blk_frozen BK254.out 1; have hfz57_2 := blk_frozen BK254.out 2; obtain ⟨Ao58, co58, eo58⟩ := Kd.R_slice HO_255001.out; subst eo58
        try go_wp2_with (first | ((with_reducible refine gate_callee (f := 29) rfl ?_); refine goesL_ (some 58) rfl rfl Try.func29 (by kernel_rfl) rfl #[.agg #[.slice A0_0 l0_0.length c0_0, .slice A0_1 l0_1.length c0_1], .slice Ao58 x255001_1.length co58] rfl zz2 ?_; (with_reducible refine (templeref1_unknown.calls k1 _ _ l0_0 _ _ l0_1 _ _ x255001_1 t262 false _ ?side1 ?side2 ?side3 ?side4 ?side5 ?side6 A29.out).mono ?_); (case side1 => exact zzc (Kd.C_below HR0_0.out HB.out)); (case side2 => exact HC0_0.out); (case side3 => exact zzc (Kd.C_below HR0_1.out HB.out)); (case side4 => exact HC0_1.out); (case side5 => exact zzc (Kd.R_reads' HO_255001.out).2.2); (case side6 => exact (Kd.R_reads' HO_255001.out).2.1); rintro e w59 ⟨rfl, hb⟩; refine ⟨_, rfl, ?_⟩; have n0_ := Aside0.mk (Kd.R_below (zzr HO_255001.out) hb); have n1_ := Aside0.mk (blk_below (g := gb252) (o := .cells #[.slice A0_0 l0_0.length c0_0, .slice A0_1 l0_1.length c0_1] 25 (0, 0)) (zzb BK252) hb); have n2_ := Aside0.mk (blk_below (g := gb253) (o := .cells #[.int .i64 x254000_1, .slice none 0 0, .slice none 0 0] 28 (0, 0)) (zzb BK253) hb); have n3_ := Aside0.mk (blk_below (g := gb254) (o := .cells #[.int .i64 0, .slice Ao58 x255001_1.length co58, .slice none 0 0] 28 (0, 0)) (zzb BK254) hb); have n4_ := Aside0.mk (below_step zzq hb); clear HO_255001; clear BK252; clear BK253; clear BK254; clear HB; have HO_255001 := n0_; have BK252 := n1_; have BK253 := n2_; have BK254 := n3_; have HB := n4_; clear n0_ n1_ n2_ n3_ n4_; (try clear hb); have hcz60_0 : w59.cell? ⟨gb252, 0, none⟩ = some (.slice A0_0 l0_0.length c0_0) := (blk_cell BK252.out 0).trans rfl; have hcz60_1 : w59.cell? ⟨gb252, 1, none⟩ = some (.slice A0_1 l0_1.length c0_1) := (blk_cell BK252.out 1).trans rfl; have hfz60_0 := blk_frozen BK252.out 0; have hfz60_1 := blk_frozen BK252.out 1) | ((with_reducible refine gate_callee (f := 30) rfl ?_); refine goesL_ (some 66) rfl rfl Try.func30 (by kernel_rfl) rfl #[.agg #[.slice A0_0 l0_0.length c0_0, .slice A0_1 l0_1.length c0_1]] rfl zz2 ?_; (with_reducible refine (templeref1_hollow.calls k1 _ _ l0_0 _ _ l0_1 t264 false _ ?side1 ?side2 ?side3 ?side4 A39.out).mono ?_); (case side1 => exact zzc (Kd.C_below HR0_0.out HB.out)); (case side2 => exact HC0_0.out); (case side3 => exact zzc (Kd.C_below HR0_1.out HB.out)); (case side4 => exact HC0_1.out); rintro e w61 ⟨rfl, hb⟩; refine ⟨_, rfl, ?_⟩; have n0_ := Aside0.mk (Kd.R_below (zzr HO_255001.out) hb); have n1_ := Aside0.mk (blk_below (g := gb252) (o := .cells #[.slice A0_0 l0_0.length c0_0, .slice A0_1 l0_1.length c0_1] 25 (0, 0)) (zzb BK252) hb); have n2_ := Aside0.mk (blk_below (g := gb253) (o := .cells #[.int .i64 x254000_1, .slice none 0 0, .slice none 0 0] 28 (0, 0)) (zzb BK253) hb); have n3_ := Aside0.mk (blk_below (g := gb254) (o := .cells #[.int .i64 0, .slice Ao58 x255001_1.length co58, .slice none 0 0] 28 (0, 0)) (zzb BK254) hb); have n4_ := Aside0.mk (below_step zzq hb); clear HO_255001; clear BK252; clear BK253; clear BK254; clear HB; have HO_255001 := n0_; have BK252 := n1_; have BK253 := n2_; have BK254 := n3_; have HB := n4_; clear n0_ n1_ n2_ n3_ n4_; (try clear hb)))
        have n0_ := Aside0.mk (Kd.R_drew HO_255001.out); have n1_ := Aside0.mk (blk_drew BK252.out); have n2_ := Aside0.mk (blk_drew BK253.out); have n3_ := Aside0.mk (blk_drew BK254.out); have n4_ := Aside0.mk (below_drew1 HB.out); clear HO_255001; clear BK252; clear BK253; clear BK254; clear HB; have HO_255001 := n0_; have BK252 := n1_; have BK253 := n2_; have BK254 := n3_; have HB := n4_; clear n0_ n1_ n2_ n3_ n4_
        have p266 : 0 ≤ (0 : Int) := (by omega)
        have q266 : 0 < (l0_0.length : Int) := of_decide_eq_true zz1
        obtain ⟨ad266, e266, hx266_0⟩ := Kd.at_string HR0_0.out 0 p266 q266; have hw266_0 := hx266_0
        (try rw [show ((0 : Int)).toNat = 0 from rfl] at hw266_0)
        (try rw [show 0 * 1 = 0 from rfl] at hw266_0)
        (try rw [Addr.add_zero'] at hw266_0)
        cases e266
        have qi266 : (0 < l0_0.length) = True := eq_true (by omega)
        (try rw [show ((0 : Int)).toNat = 0 from rfl] at hx266_0)
        (try rw [Addr.add_zero'] at hx266_0)
        replace hx266_0 := (HB.out.cell (World.block_lt_of_cell? w _ hx266_0)).trans hx266_0
        replace p266 := eq_true p266; replace q266 := eq_true q266
        refine start_ (n := 9) (S := fun w' => w'.cell? ⟨gb254, 0, none⟩ = some (.int .i64 0) ∧ w'.cell? ⟨gb254, 1, none⟩ = some (.slice Ao58 x255001_1.length co58) ∧ w'.cell? ⟨gb254, 2, none⟩ = some (.slice none 0 0) ∧ w'.cell? ⟨gb252, 0, none⟩ = some (.slice (some ad266) l0_0.length c0_0) ∧ w'.cell? ⟨gb252, 1, none⟩ = some (.slice A0_1 l0_1.length c0_1) ∧ w'.cell? ad266 = some (.string (rdOf ByteArray.empty l0_0 0))) (ds := [8]) #[false, false, false, false, false, false, false, false, false] (by kernel_rfl) rfl rfl ⟨(blk_cell BK254.out 0).trans rfl, (blk_cell BK254.out 1).trans rfl, (blk_cell BK254.out 2).trans rfl, (blk_cell BK252.out 0).trans rfl, (blk_cell BK252.out 1).trans rfl, ((HB.out.cell (World.block_lt_of_cell? w _ hw266_0)).trans hw266_0)⟩ (fun hHeld => ?_); refine with_tabW templeref1_Build.tab16 templeref1_Build.bits16 (fun HT_ HW_ => ?_)
        generalize w61.drew = w62 at HO_255001 BK252 BK253 BK254 HB hx266_0 hHeld ⊢
        refine pure_ (i := 0) (N := some 72) (v := ?_) (a' := ?_) #[true, false, false, false, false, false, false, false, false] rfl rfl (any_of HT_.out (by kernel_rfl)) (fun _ _ _ h => h) (Or.inl ⟨by rfl, ?_⟩) ?_ ?_
        rotate_left
        ·intro w'
         go_simp; with_reducible rfl
        rotate_left
        ·simp only [Act.put, s1, s2, s3, i64_w, i32_w]
         rfl
        refine pure_ (i := 2) (N := some 74) (v := ?_) (a' := ?_) #[true, false, true, false, false, false, false, false, false] rfl rfl (any_of HT_.out (by kernel_rfl)) (fun _ _ _ h => h) (Or.inl ⟨by rfl, ?_⟩) ?_ ?_
        rotate_left
        ·intro w'
         go_simp; with_reducible rfl
        rotate_left
        ·simp only [Act.put, s1, s2, s3, i64_w, i32_w]
         rfl
        refine take_ (i := 1) (N := some 73) (v := ?_) (a' := ?_) #[true, true, true, false, false, false, false, false, false] rfl rfl (take_ofW HT_.out HW_.out (by kernel_rfl)) (fun _ _ _ h => h) (Or.inl ⟨by rfl, ?_⟩) hHeld ?_ ?_
        rotate_left
        ·rintro w' ⟨s0, s1, s2, s3, s4, s5⟩; go_simp; with_reducible rfl
        rotate_left
        ·simp only [Act.put, s1, s2, s3, i64_w, i32_w]
         rfl
        refine take_ (i := 3) (N := some 75) (v := ?_) (a' := ?_) #[true, true, true, true, false, false, false, false, false] rfl rfl (take_ofW HT_.out HW_.out (by kernel_rfl)) (fun _ _ _ h => h) (Or.inl ⟨by rfl, ?_⟩) hHeld ?_ ?_
        rotate_left
        ·rintro w' ⟨s0, s1, s2, s3, s4, s5⟩; go_simp; with_reducible rfl
        rotate_left
        ·simp only [Act.put, s1, s2, s3, i64_w, i32_w]
         rfl
        refine pure_ (i := 4) (N := some 76) (v := ?_) (a' := ?_) #[true, true, true, true, true, false, false, false, false] rfl rfl (any_of HT_.out (by kernel_rfl)) (fun _ _ _ h => h) (Or.inl ⟨by rfl, ?_⟩) ?_ ?_
        rotate_left
        ·intro w'
         go_simp; with_reducible rfl
        rotate_left
        ·simp only [Act.put, s1, s2, s3, i64_w, i32_w]
         rfl
        refine take_ (i := 5) (N := some 77) (v := ?_) (a' := ?_) #[true, true, true, true, true, true, false, false, false] rfl rfl (take_ofW HT_.out HW_.out (by kernel_rfl)) (fun _ _ _ h => h) (Or.inl ⟨by rfl, ?_⟩) hHeld ?_ ?_
        rotate_left
        ·rintro w' ⟨s0, s1, s2, s3, s4, s5⟩; go_simp; with_reducible rfl
        rotate_left
        ·simp only [Act.put, s1, s2, s3, i64_w, i32_w]
         rfl
        refine one_ (i := 6) (N := some 78) #[true, true, true, true, true, true, true, false, false] rfl rfl (one_of HT_.out (by kernel_rfl)) (by decide) (fun K hK => ?_)
        refine goes_ Try.func28 (by kernel_rfl) rfl #[.slice Ao58 x255001_1.length co58, .string (rdOf ByteArray.empty l0_0 0)] (by rfl) rfl rfl zz2 ?_
        with_reducible refine (templeref1_find.calls k1 _ _ x255001_1 (rdOf ByteArray.empty l0_0 0) t267 _ ?side1 ?side2 A52.out).mono ?_
        (case side1 => exact zzc (Kd.R_reads' HO_255001.out).2.2)
        (case side2 => exact (Kd.R_reads' HO_255001.out).2.1)
        rintro e w' ⟨rfl, ⟨nd, rfl⟩⟩
        refine ⟨_, rfl, ?_⟩
        refine hK.out _ _ ⟨(blk_cell BK254.out 0).trans rfl, (blk_cell BK254.out 1).trans rfl, (blk_cell BK254.out 2).trans rfl, (blk_cell BK252.out 0).trans rfl, (blk_cell BK252.out 1).trans rfl, ((HB.out.cell (World.block_lt_of_cell? w _ hw266_0)).trans hw266_0)⟩ (fun hHeld => ?_)
        clear hK K
        refine norm_ (a' := ?_) ?_ ?_
        rotate_left
        ·show Act.put _ (some 78) _ = _
         simp only [Act.put, s1, s2, s3, i64_w, i32_w]
         rfl
        refine pure_ (i := 7) (N := some 79) (v := ?_) (a' := ?_) #[true, true, true, true, true, true, true, true, false] rfl rfl (any_of HT_.out (by kernel_rfl)) (fun _ _ _ h => h) (Or.inl ⟨by rfl, ?_⟩) ?_ ?_
        rotate_left
        ·intro w'
         go_simp; with_reducible rfl
        rotate_left
        ·simp only [Act.put, s1, s2, s3, i64_w, i32_w]
         rfl
        refine last_ (i := 8) (N := none) #[true, true, true, true, true, true, true, true, true] rfl rfl (one_of HT_.out (by kernel_rfl)) (by decide) (fun K hK => ?_)
        have hs63 : w62.cell? ⟨gb254, 0, none⟩ = some (.int .i64 0) := (blk_cell BK254.out 0).trans rfl
        have hfs63 := blk_frozen BK254.out 0
        have hns63_0 := NB252_254.out; have hns63_1 := NB253_254.out; have hms63_0 := NB254_252.out; have hms63_1 := NB254_253.out
        refine skip_ (w1 := ?_) (by rfl) rfl ?_ ?_
        rotate_left
        ·go_simp; rfl
        refine hK.out _ _ ?_
        clear hK K
        refine done_ (done_of HT_.out (by kernel_rfl)) ?_
        try go_wp2
        go_loopg [9] k1 (fun kq v9 w' => ∃ (x9_2 : Int) (x255002_2 : List (S51)) (u255002 : Value), v9 = .int .i64 x9_2 ∧ Aside0 (templeref1_Build.l1 kq x9_2 l0_0 l0_1 t267 x255001_1 x255002_2 = some (r1, r2, r3, r4, r5)) ∧ Aside0 (kq ≤ k1) ∧ Aside0 (Kd.R Kd.string 9 w' w.heap.size (fun _ => True) (.slice Ao58 x255001_1.length co58) x255001_1) ∧ Aside0 (Kd.R k51 51 w' w.heap.size (fun _ => True) u255002 x255002_2) ∧ Aside0 (w'.heap[gb252]? = some (.cells #[(.slice (some ad266) l0_0.length c0_0), (.slice A0_1 l0_1.length c0_1)] 25 (0, 0))) ∧ Aside0 (w'.heap[gb253]? = some (.cells #[.int .i64 x254000_1, (.slice none 0 0), (.slice none 0 0)] 28 (0, 0))) ∧ Aside0 (w'.heap[gb254]? = some (.cells #[.int .i64 t267, (.slice Ao58 x255001_1.length co58), u255002] 28 (0, 0))) ∧ Aside0 (Below w.heap.size w w'))
        case atStart => exact ⟨(0), (([] : List (S51))), (.slice none 0 0), zz0, H', ⟨Nat.le_refl _⟩, ⟨(Kd.R_mono (Kd.R_far (p := ⟨gb254, 0, none⟩) (Kd.R_types HO_255001.out BK254.out (by decide)) (fun _ hk => hk.2) (.int .i64 t267)) (fun _ hk => trivial))⟩, ⟨by first | exact Kd.R_nil _ _ _ _ _ | exact Kd.N_nil _ _ _ _ _ | exact Kd.V_nil _ _ _ _ _ | exact Kd.Q_nil _ _ _ _ _ | exact Kd.S_nil _ _ _ _ _⟩, ⟨by (with_reducible repeat (first | refine blk_drewN ?_ _ | refine blk_drew ?_ | refine blk_alloc ?_ _)); refine blk_far ?_ NB252_254.out _; exact zzb BK252⟩, ⟨by (with_reducible repeat (first | refine blk_drewN ?_ _ | refine blk_drew ?_ | refine blk_alloc ?_ _)); refine blk_far ?_ NB253_254.out _; exact zzb BK253⟩, ⟨by (with_reducible repeat (first | refine blk_drewN ?_ _ | refine blk_drew ?_ | refine blk_alloc ?_ _)); refine blk_put (cs := #[.int .i64 0, .slice Ao58 x255001_1.length co58, .slice none 0 0]) ?_ 0 _ rfl; exact zzb BK254⟩, ⟨zzq⟩⟩
        case round =>
         clear H'; (try clear c1); (try clear c2); (try clear p2); (try clear q2); (try clear hx2); (try clear qi2); (try clear c3); (try clear c4); (try clear c5); (try clear c5b0); (try clear c6); (try clear p6); (try clear c8); (try clear c8b0); (try clear c18); (try clear c19); (try clear c20); (try clear c25); (try clear p25); (try clear q25); (try clear hx25); (try clear p26); (try clear q26); (try clear hx26); (try clear qi26); (try clear c28); (try clear c28b0); (try clear c28b1); (try clear c29); (try clear c30); (try clear c31); (try clear c32); (try clear c34); (try clear c40); (try clear c41); (try clear c42); (try clear c44); (try clear c51); (try clear c51b0); (try clear c51b1); (try clear c53); (try clear c54); (try clear c56); (try clear hcz21_0); (try clear hcz21_1); (try clear hcz33_0); (try clear hcz33_1); (try clear hcz35_0); (try clear hcz35_1); (try clear hcz35_2); (try clear hcz38_0); (try clear hcz38_1); (try clear hcz38_2); (try clear hcz43_0); (try clear hcz43_1); (try clear hcz45_0); (try clear hcz45_1); (try clear hcz45_2); (try clear hcz48_0); (try clear hcz48_1); (try clear hcz50_0); (try clear hcz50_1); (try clear hcz50_2); (try clear hcz55_0); (try clear hcz55_1); (try clear hcz57_0); (try clear hcz57_1); (try clear hcz57_2); (try clear hcz60_0); (try clear hcz60_1); (try clear hfz21_0); (try clear hfz21_1); (try clear hfz33_0); (try clear hfz33_1); (try clear hfz35_0); (try clear hfz35_1); (try clear hfz35_2); (try clear hfz38_0); (try clear hfz38_1); (try clear hfz38_2); (try clear hfz43_0); (try clear hfz43_1); (try clear hfz45_0); (try clear hfz45_1); (try clear hfz45_2); (try clear hfz48_0); (try clear hfz48_1); (try clear hfz50_0); (try clear hfz50_1); (try clear hfz50_2); (try clear hfz55_0); (try clear hfz55_1); (try clear hfz57_0); (try clear hfz57_1); (try clear hfz57_2); (try clear hfz60_0); (try clear hfz60_1); (try clear hx255_0); (try clear hx255_1); (try clear hx258_0); (try clear hx258_1); (try clear hx266_0); (try clear p255); (try clear p258); (try clear p266); (try clear q255); (try clear q258); (try clear q266); obtain ⟨x9_2, x255002_2, u255002, rfl, HA, HK2, HO_255001, HO_255002, BK252, BK253, BK254, HB⟩ := hrel
         cases gk with
         | zero => exact absurd HA.out (by simp [templeref1_Build.l1])
         | succ k2 =>
          have H := HA.out; clear HA
          simp only [templeref1_Build.l1] at H
          have HC64 := Aside0.mk H; clear H
          go_upto_region 18 with (fail)
          go_cut [90] (fun v90 wc => ∃ (kq : Nat) (x90_63 : Bool), v90 = .bool x90_63 ∧ Aside0 (templeref1_Build.j2 kq x9_2 x90_63 l0_0 l0_1 t267 x255001_1 x255002_2 = some (r1, r2, r3, r4, r5)) ∧ Aside0 (kq ≤ k2) ∧ Aside0 (Kd.R Kd.string 9 wc w.heap.size (fun _ => True) (.slice Ao58 x255001_1.length co58) x255001_1) ∧ Aside0 (Kd.R k51 51 wc w.heap.size (fun _ => True) u255002 x255002_2) ∧ Aside0 (wc.heap[gb252]? = some (.cells #[(.slice (some ad266) l0_0.length c0_0), (.slice A0_1 l0_1.length c0_1)] 25 (0, 0))) ∧ Aside0 (wc.heap[gb253]? = some (.cells #[.int .i64 x254000_1, (.slice none 0 0), (.slice none 0 0)] 28 (0, 0))) ∧ Aside0 (wc.heap[gb254]? = some (.cells #[.int .i64 t267, (.slice Ao58 x255001_1.length co58), u255002] 28 (0, 0))) ∧ Aside0 (Below w.heap.size w wc))
          case first =>
           have H := HC64.out; clear HC64
           by_cases c65 : x9_2 < (l0_1.length : Int)
           ·rw [if_pos c65] at H; have c65b0 : decide (x9_2 < (l0_1.length : Int)) = true := decide_eq_true c65; clear c65
            (first | rw [c65b0] | (simp only [i64_w, i32_w]; rw [c65b0]) | skip)
            have H' := Aside0.mk H; clear H; have hnb66 := NB252_253.out; have hnc66 := NB253_252.out; have hnb67 := NB252_254.out; have hnc67 := NB254_252.out
            have hcz68_0 : wr.cell? ⟨gb252, 0, none⟩ = some (.slice (some ad266) l0_0.length c0_0) := (blk_cell BK252.out 0).trans rfl
            have hcz68_1 : wr.cell? ⟨gb252, 1, none⟩ = some (.slice A0_1 l0_1.length c0_1) := (blk_cell BK252.out 1).trans rfl
            have hfz68_0 := blk_frozen BK252.out 0; have hfz68_1 := blk_frozen BK252.out 1; have hnb69 := NB254_253.out; have hnc69 := NB253_254.out
            have hcz70_0 : wr.cell? ⟨gb254, 0, none⟩ = some (.int .i64 t267) := (blk_cell BK254.out 0).trans rfl
            have hcz70_1 : wr.cell? ⟨gb254, 1, none⟩ = some (.slice Ao58 x255001_1.length co58) := (blk_cell BK254.out 1).trans rfl
            have hcz70_2 : wr.cell? ⟨gb254, 2, none⟩ = some (u255002) := (blk_cell BK254.out 2).trans rfl
            have hfz70_0 := blk_frozen BK254.out 0; have hfz70_1 := blk_frozen BK254.out 1; have hfz70_2 := blk_frozen BK254.out 2; obtain ⟨Ao71, co71, eo71⟩ := Kd.R_slice HO_255002.out; subst eo71; go_wp2
            go_meet
            case rel => exact ⟨_, (decide ((x255002_2.length : Int) ≤ 256)), zz0, H', ⟨by have := HK1.out; have := HK2.out; first | omega | exact Nat.le_refl _⟩, ⟨zzr HO_255001.out⟩, ⟨zzr HO_255002.out⟩, ⟨zzb BK252⟩, ⟨zzb BK253⟩, ⟨zzb BK254⟩, ⟨zzq⟩⟩
           ·rw [if_neg c65] at H; have c65b0 : decide (x9_2 < (l0_1.length : Int)) = false := decide_eq_false c65; clear c65
            (first | rw [c65b0] | (simp only [i64_w, i32_w]; rw [c65b0]) | skip)
            have H' := Aside0.mk H; clear H; have hnb72 := NB252_253.out; have hnc72 := NB253_252.out; have hnb73 := NB252_254.out; have hnc73 := NB254_252.out
            have hcz74_0 : wr.cell? ⟨gb252, 0, none⟩ = some (.slice (some ad266) l0_0.length c0_0) := (blk_cell BK252.out 0).trans rfl
            have hcz74_1 : wr.cell? ⟨gb252, 1, none⟩ = some (.slice A0_1 l0_1.length c0_1) := (blk_cell BK252.out 1).trans rfl
            have hfz74_0 := blk_frozen BK252.out 0; have hfz74_1 := blk_frozen BK252.out 1; go_wp2
            go_meet
            case rel => exact ⟨_, (false), zz0, H', ⟨by have := HK1.out; have := HK2.out; first | omega | exact Nat.le_refl _⟩, ⟨zzr HO_255001.out⟩, ⟨zzr HO_255002.out⟩, ⟨zzb BK252⟩, ⟨zzb BK253⟩, ⟨zzb BK254⟩, ⟨zzq⟩⟩
          case rest =>
           clear HC64; (try clear c1); (try clear c2); (try clear p2); (try clear q2); (try clear hx2); (try clear qi2); (try clear c3); (try clear c4); (try clear c5); (try clear c5b0); (try clear c6); (try clear p6); (try clear c7); (try clear c8); (try clear c8b0); (try clear c18); (try clear c19); (try clear c20); (try clear c25); (try clear p25); (try clear q25); (try clear hx25); (try clear p26); (try clear q26); (try clear hx26); (try clear qi26); (try clear c28); (try clear c28b0); (try clear c28b1); (try clear c29); (try clear c30); (try clear c31); (try clear c32); (try clear c34); (try clear c40); (try clear c41); (try clear c42); (try clear c44); (try clear c51); (try clear c51b0); (try clear c51b1); (try clear c53); (try clear c54); (try clear c56); (try clear p64); (try clear c65); (try clear c65b0); (try clear c66); (try clear c67); (try clear c69); (try clear c72); (try clear c73); (try clear hcz21_0); (try clear hcz21_1); (try clear hcz33_0); (try clear hcz33_1); (try clear hcz35_0); (try clear hcz35_1); (try clear hcz35_2); (try clear hcz38_0); (try clear hcz38_1); (try clear hcz38_2); (try clear hcz43_0); (try clear hcz43_1); (try clear hcz45_0); (try clear hcz45_1); (try clear hcz45_2); (try clear hcz48_0); (try clear hcz48_1); (try clear hcz50_0); (try clear hcz50_1); (try clear hcz50_2); (try clear hcz55_0); (try clear hcz55_1); (try clear hcz57_0); (try clear hcz57_1); (try clear hcz57_2); (try clear hcz60_0); (try clear hcz60_1); (try clear hcz68_0); (try clear hcz68_1); (try clear hcz70_0); (try clear hcz70_1); (try clear hcz70_2); (try clear hcz74_0); (try clear hcz74_1); (try clear hfz21_0); (try clear hfz21_1); (try clear hfz33_0); (try clear hfz33_1); (try clear hfz35_0); (try clear hfz35_1); (try clear hfz35_2); (try clear hfz38_0); (try clear hfz38_1); (try clear hfz38_2); (try clear hfz43_0); (try clear hfz43_1); (try clear hfz45_0); (try clear hfz45_1); (try clear hfz45_2); (try clear hfz48_0); (try clear hfz48_1); (try clear hfz50_0); (try clear hfz50_1); (try clear hfz50_2); (try clear hfz55_0); (try clear hfz55_1); (try clear hfz57_0); (try clear hfz57_1); (try clear hfz57_2); (try clear hfz60_0); (try clear hfz60_1); (try clear hfz68_0); (try clear hfz68_1); (try clear hfz70_0); (try clear hfz70_1); (try clear hfz70_2); (try clear hfz74_0); (try clear hfz74_1); (try clear hx255_0); (try clear hx255_1); (try clear hx258_0); (try clear hx258_1); (try clear hx266_0); (try clear p2); (try clear p25); (try clear p255); (try clear p258); (try clear p26); (try clear p266); (try clear p6); (try clear q2); (try clear q25); (try clear q255); (try clear q258); (try clear q26); (try clear q266); obtain ⟨kq, x90_63, rfl, HA, HJ63, HO_255001, HO_255002, BK252, BK253, BK254, HB⟩ := hcut
           cases kq with
           | zero => exact absurd HA.out (by simp [templeref1_Build.j2])
           | succ kj63 =>
            have H := HA.out; clear HA
            simp only [templeref1_Build.j2] at H
            by_cases c75 : x90_63 = true
            ·subst c75
             have H1 : (templeref1_Build.l2 kj63 x9_2 0 l0_0 l0_1 t267 x255001_1 x255002_2) = some (r1, r2, r3, r4, r5) := by rw [if_pos rfl] at H; exact H
             clear H; have H := H1; clear H1; have H' := Aside0.mk H; clear H; go_wp2
             go_loopg [10] kj63 (fun kq v10 w' => ∃ (x10_4 : Int) (x255002_4 : List (S51)) (u255002 : Value), v10 = .int .i64 x10_4 ∧ Aside0 (templeref1_Build.l2 kq x9_2 x10_4 l0_0 l0_1 t267 x255001_1 x255002_4 = some (r1, r2, r3, r4, r5)) ∧ Aside0 (kq ≤ kj63) ∧ Aside0 (Kd.R Kd.string 9 w' w.heap.size (fun _ => True) (.slice Ao58 x255001_1.length co58) x255001_1) ∧ Aside0 (Kd.R k51 51 w' w.heap.size (fun _ => True) u255002 x255002_4) ∧ Aside0 (w'.heap[gb252]? = some (.cells #[(.slice (some ad266) l0_0.length c0_0), (.slice A0_1 l0_1.length c0_1)] 25 (0, 0))) ∧ Aside0 (w'.heap[gb253]? = some (.cells #[.int .i64 x254000_1, (.slice none 0 0), (.slice none 0 0)] 28 (0, 0))) ∧ Aside0 (w'.heap[gb254]? = some (.cells #[.int .i64 t267, (.slice Ao58 x255001_1.length co58), u255002] 28 (0, 0))) ∧ Aside0 (Below w.heap.size w w'))
             case atStart => exact ⟨(0), (x255002_2), (u255002), zz0, H', ⟨Nat.le_refl _⟩, ⟨zzr HO_255001.out⟩, ⟨zzr HO_255002.out⟩, ⟨zzb BK252⟩, ⟨zzb BK253⟩, ⟨zzb BK254⟩, ⟨zzq⟩⟩
             case round =>
              clear H'; (try clear c1); (try clear c2); (try clear p2); (try clear q2); (try clear hx2); (try clear qi2); (try clear c3); (try clear c4); (try clear c5); (try clear c5b0); (try clear c6); (try clear p6); (try clear c7); (try clear c8); (try clear c8b0); (try clear c18); (try clear c19); (try clear c20); (try clear c25); (try clear p25); (try clear q25); (try clear hx25); (try clear p26); (try clear q26); (try clear hx26); (try clear qi26); (try clear c28); (try clear c28b0); (try clear c28b1); (try clear c29); (try clear c30); (try clear c31); (try clear c32); (try clear c34); (try clear c40); (try clear c41); (try clear c42); (try clear c44); (try clear c51); (try clear c51b0); (try clear c51b1); (try clear c53); (try clear c54); (try clear c56); (try clear p64); (try clear c65); (try clear c65b0); (try clear c66); (try clear c67); (try clear c69); (try clear c72); (try clear c73); (try clear c75); (try clear hcz21_0); (try clear hcz21_1); (try clear hcz33_0); (try clear hcz33_1); (try clear hcz35_0); (try clear hcz35_1); (try clear hcz35_2); (try clear hcz38_0); (try clear hcz38_1); (try clear hcz38_2); (try clear hcz43_0); (try clear hcz43_1); (try clear hcz45_0); (try clear hcz45_1); (try clear hcz45_2); (try clear hcz48_0); (try clear hcz48_1); (try clear hcz50_0); (try clear hcz50_1); (try clear hcz50_2); (try clear hcz55_0); (try clear hcz55_1); (try clear hcz57_0); (try clear hcz57_1); (try clear hcz57_2); (try clear hcz60_0); (try clear hcz60_1); (try clear hcz68_0); (try clear hcz68_1); (try clear hcz70_0); (try clear hcz70_1); (try clear hcz70_2); (try clear hcz74_0); (try clear hcz74_1); (try clear hfz21_0); (try clear hfz21_1); (try clear hfz33_0); (try clear hfz33_1); (try clear hfz35_0); (try clear hfz35_1); (try clear hfz35_2); (try clear hfz38_0); (try clear hfz38_1); (try clear hfz38_2); (try clear hfz43_0); (try clear hfz43_1); (try clear hfz45_0); (try clear hfz45_1); (try clear hfz45_2); (try clear hfz48_0); (try clear hfz48_1); (try clear hfz50_0); (try clear hfz50_1); (try clear hfz50_2); (try clear hfz55_0); (try clear hfz55_1); (try clear hfz57_0); (try clear hfz57_1); (try clear hfz57_2); (try clear hfz60_0); (try clear hfz60_1); (try clear hfz68_0); (try clear hfz68_1); (try clear hfz70_0); (try clear hfz70_1); (try clear hfz70_2); (try clear hfz74_0); (try clear hfz74_1); (try clear hx255_0); (try clear hx255_1); (try clear hx258_0); (try clear hx258_1); (try clear hx266_0); (try clear p2); (try clear p25); (try clear p255); (try clear p258); (try clear p26); (try clear p266); (try clear p6); (try clear p64); (try clear q2); (try clear q25); (try clear q255); (try clear q258); (try clear q26); (try clear q266); obtain ⟨x10_4, x255002_4, u255002, rfl, HA, HK4, HO_255001, HO_255002, BK252, BK253, BK254, HB⟩ := hrel
              cases gk with
              | zero => exact absurd HA.out (by simp [templeref1_Build.l2])
              | succ k4 =>
               have H := HA.out; clear HA
               simp only [templeref1_Build.l2] at H
               by_cases c76 : 0 ≤ x9_2
               ·rw [if_pos c76] at H; have c76b0 : decide (0 ≤ x9_2) = true := decide_eq_true c76; clear c76
                by_cases c77 : x9_2 < (l0_1.length : Int)
                ·rw [if_pos c77] at H; have c77b0 : decide (x9_2 < (l0_1.length : Int)) = true := decide_eq_true c77; clear c77
                 by_cases c78 : x10_4 < (((rd_T45 l0_1 x9_2).f1).length : Int)
                 ·rw [if_pos c78] at H; have c78b0 : decide (x10_4 < (((rd_T45 l0_1 x9_2).f1).length : Int)) = true := decide_eq_true c78; clear c78; have H' := Aside0.mk H; clear H; have hnb79 := NB252_253.out; have hnc79 := NB253_252.out; have hnb80 := NB252_254.out; have hnc80 := NB254_252.out
                  have hcz81_0 : wr.cell? ⟨gb252, 0, none⟩ = some (.slice (some ad266) l0_0.length c0_0) := (blk_cell BK252.out 0).trans rfl
                  have hcz81_1 : wr.cell? ⟨gb252, 1, none⟩ = some (.slice A0_1 l0_1.length c0_1) := (blk_cell BK252.out 1).trans rfl
                  have hfz81_0 := blk_frozen BK252.out 0; have hfz81_1 := blk_frozen BK252.out 1
                  have p269 : 0 ≤ (x9_2 : Int) := of_decide_eq_true zz1
                  have q269 : x9_2 < (l0_1.length : Int) := of_decide_eq_true zz1
                  obtain ⟨ad269, A269_1, c269_1, e269, hx269_0, hx269_1, hl269_1, hi269_1⟩ := at_T45 HR0_1.out x9_2 p269 q269; cases e269
                  replace hx269_0 := (HB.out.cell (World.block_lt_of_cell? w _ hx269_0)).trans hx269_0
                  replace hx269_1 := (HB.out.cell (World.block_lt_of_cell? w _ hx269_1)).trans hx269_1
                  have HR269_1 := Aside0.mk hi269_1; have HC269_1 := Aside0.mk hl269_1; clear hi269_1 hl269_1; replace p269 := eq_true p269; replace q269 := eq_true q269
                  go_wp2_with (first | ((with_reducible refine gate_dst (N := 11) rfl ?_); (try (refine gate_guard (by rfl) ?_; dsimp only)); refine box_event (by rfl) (N := 11) (by rfl) (cs := #[.int .i64 0, .slice none 0 0]) (t := 51) zzh ?_; intro gb270 hg w82 hbox hb; have n0_ := Aside0.mk (Kd.R_below (zzr HO_255001.out) hb); have n1_ := Aside0.mk (Kd.R_below (Kd.R_elderB (zzr HO_255002.out) gb270 (Nat.le_of_eq hg.symm)) hb); have n2_ := Aside0.mk (blk_below (g := gb252) (o := .cells #[.slice (some ad266) l0_0.length c0_0, .slice (some ad269) l0_1.length c0_1] 25 (0, 0)) (zzb BK252) hb); have n3_ := Aside0.mk (blk_below (g := gb253) (o := .cells #[.int .i64 x254000_1, .slice none 0 0, .slice none 0 0] 28 (0, 0)) (zzb BK253) hb); have n4_ := Aside0.mk (blk_below (g := gb254) (o := .cells #[.int .i64 t267, .slice Ao58 x255001_1.length co58, u255002] 28 (0, 0)) (zzb BK254) hb); have n5_ := Aside0.mk (below_step zzq hb); have n6_ := Aside0.mk (hbox); have n7_ := Aside0.mk ((zzg hg zzq)); have n8_ := Aside0.mk ((zzg hg zzq)); have n9_ := Aside0.mk ((by rw [hg]; exact Nat.ne_of_lt (blk_lt (g := gb252) (o := .cells #[.slice (some ad266) l0_0.length c0_0, .slice (some ad269) l0_1.length c0_1] 25 (0, 0)) (zzb BK252)) : gb252 ≠ gb270)); have n10_ := Aside0.mk ((by rw [hg]; exact Nat.ne_of_gt (blk_lt (g := gb252) (o := .cells #[.slice (some ad266) l0_0.length c0_0, .slice (some ad269) l0_1.length c0_1] 25 (0, 0)) (zzb BK252)) : gb270 ≠ gb252)); have n11_ := Aside0.mk ((by rw [hg]; exact Nat.ne_of_lt (blk_lt (g := gb253) (o := .cells #[.int .i64 x254000_1, .slice none 0 0, .slice none 0 0] 28 (0, 0)) (zzb BK253)) : gb253 ≠ gb270)); have n12_ := Aside0.mk ((by rw [hg]; exact Nat.ne_of_gt (blk_lt (g := gb253) (o := .cells #[.int .i64 x254000_1, .slice none 0 0, .slice none 0 0] 28 (0, 0)) (zzb BK253)) : gb270 ≠ gb253)); have n13_ := Aside0.mk ((by rw [hg]; exact Nat.ne_of_lt (blk_lt (g := gb254) (o := .cells #[.int .i64 t267, .slice Ao58 x255001_1.length co58, u255002] 28 (0, 0)) (zzb BK254)) : gb254 ≠ gb270)); have n14_ := Aside0.mk ((by rw [hg]; exact Nat.ne_of_gt (blk_lt (g := gb254) (o := .cells #[.int .i64 t267, .slice Ao58 x255001_1.length co58, u255002] 28 (0, 0)) (zzb BK254)) : gb270 ≠ gb254)); clear HO_255001; clear HO_255002; clear BK252; clear BK253; clear BK254; clear HB; have HO_255001 := n0_; have HO_255002 := n1_; have BK252 := n2_; have BK253 := n3_; have BK254 := n4_; have HB := n5_; have BK270 := n6_; have GW270 := n7_; have GE270 := n8_; have NB252_270 := n9_; have NB270_252 := n10_; have NB253_270 := n11_; have NB270_253 := n12_; have NB254_270 := n13_; have NB270_254 := n14_; clear n0_ n1_ n2_ n3_ n4_ n5_ n6_ n7_ n8_ n9_ n10_ n11_ n12_ n13_ n14_; clear hb hbox hg; have hnb83 := NB270_252.out; have hnc83 := NB252_270.out; have hnb84 := NB270_253.out; have hnc84 := NB253_270.out; have hnb85 := NB270_254.out; have hnc85 := NB254_270.out; have hcz86_0 : w82.cell? ⟨gb270, 0, none⟩ = some (.int .i64 0) := (blk_cell BK270.out 0).trans rfl; have hcz86_1 : w82.cell? ⟨gb270, 1, none⟩ = some (.slice none 0 0) := (blk_cell BK270.out 1).trans rfl; have hfz86_0 := blk_frozen BK270.out 0; have hfz86_1 := blk_frozen BK270.out 1))
                  go_loopg [12] k4 (fun kq v12 w' => ∃ (x12_5 : Int) (x271001_5 : List (S54)) (u271001 : Value), v12 = .int .i64 x12_5 ∧ Aside0 (templeref1_Build.l3 kq x9_2 x10_4 x12_5 l0_0 l0_1 t267 x255001_1 x255002_4 x9_2 x271001_5 = some (r1, r2, r3, r4, r5)) ∧ Aside0 (kq ≤ k4) ∧ Aside0 (Kd.R Kd.string 9 w' w.heap.size (fun _ => True) (.slice Ao58 x255001_1.length co58) x255001_1) ∧ Aside0 (Kd.R k51 51 w' w.heap.size (fun k_ => some k_ ≠ (u271001 : Value).ownBlock ∧ k_ ≠ gb270) u255002 x255002_4) ∧ Aside0 (Kd.S k54 54 w' w.heap.size (fun _ => True) u271001 x271001_5) ∧ Aside0 (w'.heap[gb252]? = some (.cells #[(.slice (some ad266) l0_0.length c0_0), (.slice (some ad269) l0_1.length c0_1)] 25 (0, 0))) ∧ Aside0 (w'.heap[gb253]? = some (.cells #[.int .i64 x254000_1, (.slice none 0 0), (.slice none 0 0)] 28 (0, 0))) ∧ Aside0 (w'.heap[gb254]? = some (.cells #[.int .i64 t267, (.slice Ao58 x255001_1.length co58), u255002] 28 (0, 0))) ∧ Aside0 (w'.heap[gb270]? = some (.cells #[.int .i64 x9_2, u271001] 51 (0, 0))) ∧ Aside0 (Below w.heap.size w w'))
                  case atStart => exact ⟨(0), (([] : List (S54))), (.slice none 0 0), zz0, H', ⟨Nat.le_refl _⟩, ⟨zzr (Kd.R_mono (Kd.R_far (p := ⟨gb270, 1, none⟩) (Kd.R_far (p := ⟨gb270, 0, none⟩) (Kd.R_types HO_255001.out BK270.out (by decide)) (fun _ hk => hk.2) (.int .i64 x9_2)) (fun _ hk => hk.2) (.slice none 0 0)) (fun _ hk => trivial))⟩, ⟨zzr (Kd.R_mono (Kd.R_far (p := ⟨gb270, 1, none⟩) (Kd.R_far (p := ⟨gb270, 0, none⟩) (Kd.R_mono HO_255002.out (fun k_ hk => (⟨hk, hk.2⟩ : _ ∧ k_ ≠ gb270))) (fun _ hk => hk.2) (.int .i64 x9_2)) (fun _ hk => hk.2) (.slice none 0 0)) (fun _ hk => ⟨(by simp [Value.ownBlock]), hk.1.2⟩))⟩, ⟨by first | exact Kd.S_nil _ _ _ _ _ | exact Kd.N_nil _ _ _ _ _ | exact Kd.V_nil _ _ _ _ _ | exact Kd.Q_nil _ _ _ _ _ | exact Kd.R_nil _ _ _ _ _⟩, ⟨by (with_reducible repeat (first | refine blk_drewN ?_ _ | refine blk_drew ?_ | refine blk_alloc ?_ _)); refine blk_far ?_ NB252_270.out _; (with_reducible repeat (first | refine blk_drewN ?_ _ | refine blk_drew ?_ | refine blk_alloc ?_ _)); refine blk_far ?_ NB252_270.out _; exact zzb BK252⟩, ⟨by (with_reducible repeat (first | refine blk_drewN ?_ _ | refine blk_drew ?_ | refine blk_alloc ?_ _)); refine blk_far ?_ NB253_270.out _; (with_reducible repeat (first | refine blk_drewN ?_ _ | refine blk_drew ?_ | refine blk_alloc ?_ _)); refine blk_far ?_ NB253_270.out _; exact zzb BK253⟩, ⟨by (with_reducible repeat (first | refine blk_drewN ?_ _ | refine blk_drew ?_ | refine blk_alloc ?_ _)); refine blk_far ?_ NB254_270.out _; (with_reducible repeat (first | refine blk_drewN ?_ _ | refine blk_drew ?_ | refine blk_alloc ?_ _)); refine blk_far ?_ NB254_270.out _; exact zzb BK254⟩, ⟨by (with_reducible repeat (first | refine blk_drewN ?_ _ | refine blk_drew ?_ | refine blk_alloc ?_ _)); refine blk_put (cs := #[.int .i64 x9_2, .slice none 0 0]) ?_ 1 _ rfl; (with_reducible repeat (first | refine blk_drewN ?_ _ | refine blk_drew ?_ | refine blk_alloc ?_ _)); refine blk_put (cs := #[.int .i64 0, .slice none 0 0]) ?_ 0 _ rfl; exact zzb BK270⟩, ⟨zzq⟩⟩
                  case round =>
                   clear H'; (try clear c1); (try clear c2); (try clear p2); (try clear q2); (try clear hx2); (try clear qi2); (try clear c3); (try clear c4); (try clear c5); (try clear c5b0); (try clear c6); (try clear p6); (try clear c7); (try clear c8); (try clear c8b0); (try clear c18); (try clear c19); (try clear c20); (try clear c25); (try clear p25); (try clear q25); (try clear hx25); (try clear c26); (try clear p26); (try clear q26); (try clear hx26); (try clear qi26); (try clear c28); (try clear c28b0); (try clear c28b1); (try clear c29); (try clear c30); (try clear c31); (try clear c32); (try clear c34); (try clear c40); (try clear c41); (try clear c42); (try clear c44); (try clear c51); (try clear c51b0); (try clear c51b1); (try clear c53); (try clear c54); (try clear c56); (try clear p64); (try clear c65); (try clear c65b0); (try clear c66); (try clear c67); (try clear c69); (try clear c72); (try clear c73); (try clear c75); (try clear c76); (try clear c76b0); (try clear c77); (try clear c77b0); (try clear c78); (try clear c78b0); (try clear c79); (try clear c80); (try clear c83); (try clear c84); (try clear c85); (try clear hcz21_0); (try clear hcz21_1); (try clear hcz33_0); (try clear hcz33_1); (try clear hcz35_0); (try clear hcz35_1); (try clear hcz35_2); (try clear hcz38_0); (try clear hcz38_1); (try clear hcz38_2); (try clear hcz43_0); (try clear hcz43_1); (try clear hcz45_0); (try clear hcz45_1); (try clear hcz45_2); (try clear hcz48_0); (try clear hcz48_1); (try clear hcz50_0); (try clear hcz50_1); (try clear hcz50_2); (try clear hcz55_0); (try clear hcz55_1); (try clear hcz57_0); (try clear hcz57_1); (try clear hcz57_2); (try clear hcz60_0); (try clear hcz60_1); (try clear hcz68_0); (try clear hcz68_1); (try clear hcz70_0); (try clear hcz70_1); (try clear hcz70_2); (try clear hcz74_0); (try clear hcz74_1); (try clear hcz81_0); (try clear hcz81_1); (try clear hcz86_0); (try clear hcz86_1); (try clear hfz21_0); (try clear hfz21_1); (try clear hfz33_0); (try clear hfz33_1); (try clear hfz35_0); (try clear hfz35_1); (try clear hfz35_2); (try clear hfz38_0); (try clear hfz38_1); (try clear hfz38_2); (try clear hfz43_0); (try clear hfz43_1); (try clear hfz45_0); (try clear hfz45_1); (try clear hfz45_2); (try clear hfz48_0); (try clear hfz48_1); (try clear hfz50_0); (try clear hfz50_1); (try clear hfz50_2); (try clear hfz55_0); (try clear hfz55_1); (try clear hfz57_0); (try clear hfz57_1); (try clear hfz57_2); (try clear hfz60_0); (try clear hfz60_1); (try clear hfz68_0); (try clear hfz68_1); (try clear hfz70_0); (try clear hfz70_1); (try clear hfz70_2); (try clear hfz74_0); (try clear hfz74_1); (try clear hfz81_0); (try clear hfz81_1); (try clear hfz86_0); (try clear hfz86_1); (try clear hx255_0); (try clear hx255_1); (try clear hx258_0); (try clear hx258_1); (try clear hx266_0); (try clear hx269_0); (try clear hx269_1); (try clear p2); (try clear p25); (try clear p255); (try clear p258); (try clear p26); (try clear p266); (try clear p269); (try clear p6); (try clear p64); (try clear q2); (try clear q25); (try clear q255); (try clear q258); (try clear q26); (try clear q266); (try clear q269); obtain ⟨x12_5, x271001_5, u271001, rfl, HA, HK5, HO_255001, HO_255002, HO_271001, BK252, BK253, BK254, BK270, HB⟩ := hrel
                   cases gk with
                   | zero => exact absurd HA.out (by simp [templeref1_Build.l3])
                   | succ k5 =>
                    have H := HA.out; clear HA
                    simp only [templeref1_Build.l3] at H
                    by_cases c87 : 0 ≤ x9_2
                    ·rw [if_pos c87] at H; have c87b0 : decide (0 ≤ x9_2) = true := decide_eq_true c87; clear c87
                     by_cases c88 : x9_2 < (l0_1.length : Int)
                     ·rw [if_pos c88] at H; have c88b0 : decide (x9_2 < (l0_1.length : Int)) = true := decide_eq_true c88; clear c88
                      by_cases c89 : 0 ≤ x10_4
                      ·rw [if_pos c89] at H; have c89b0 : decide (0 ≤ x10_4) = true := decide_eq_true c89; clear c89
                       by_cases c90 : x10_4 < (((rd_T45 l0_1 x9_2).f1).length : Int)
                       ·rw [if_pos c90] at H; have c90b0 : decide (x10_4 < (((rd_T45 l0_1 x9_2).f1).length : Int)) = true := decide_eq_true c90; clear c90
                        by_cases c91 : x12_5 < ((rd_L6 ((rd_T45 l0_1 x9_2).f1) x10_4).length : Int)
                        ·rw [if_pos c91] at H; have c91b0 : decide (x12_5 < ((rd_L6 ((rd_T45 l0_1 x9_2).f1) x10_4).length : Int)) = true := decide_eq_true c91; clear c91
                         by_cases c92 : 0 ≤ x12_5
                         ·rw [if_pos c92] at H; have c92b0 : decide (0 ≤ x12_5) = true := decide_eq_true c92; clear c92; replace H := Option.bind_eq_some_iff.mp H; obtain ⟨t277, A930, H⟩ := H; (try dsimp only at H); have A93 := Aside0.mk A930; clear A930
                          by_cases c94 : x271001_5.length < 4398046511104
                          ·rw [if_pos c94] at H; have LMc94 := Aside0.mk c94; clear c94; obtain ⟨y280, hy280⟩ : ∃ y_ : List (S54), y_ = (x271001_5 ++ [(⟨(rd_T64 (rd_L6 ((rd_T45 l0_1 x9_2).f1) x10_4) x12_5).f0, t277⟩ : S54)]) := ⟨_, rfl⟩
                           replace H : (templeref1_Build.l3 k5 x9_2 x10_4 (wrap64 (x12_5 + 1)) l0_0 l0_1 t267 x255001_1 x255002_4 x9_2 y280) = some (r1, r2, r3, r4, r5) := by first | (rw [hy280]; with_reducible exact H) | (have H2_ := (Option.bind_some _ _).symm.trans H; rw [hy280]; with_reducible exact H2_) | (have H2_ := (Option.bind_some _ _).symm.trans H; with_reducible exact H2_) | with_reducible exact H | (rw [hy280]; exact H) | exact H
                           have Ny280 := Aside0.mk hy280; clear hy280; have H' := Aside0.mk H; clear H; have hnb95 := NB252_253.out; have hnc95 := NB253_252.out; have hnb96 := NB252_254.out; have hnc96 := NB254_252.out; have hnb97 := NB252_270.out; have hnc97 := NB270_252.out
                           have hcz98_0 : wr.cell? ⟨gb252, 0, none⟩ = some (.slice (some ad266) l0_0.length c0_0) := (blk_cell BK252.out 0).trans rfl
                           have hcz98_1 : wr.cell? ⟨gb252, 1, none⟩ = some (.slice (some ad269) l0_1.length c0_1) := (blk_cell BK252.out 1).trans rfl
                           have hfz98_0 := blk_frozen BK252.out 0; have hfz98_1 := blk_frozen BK252.out 1
                           have p271 : 0 ≤ (x9_2 : Int) := of_decide_eq_true zz1
                           have q271 : x9_2 < (l0_1.length : Int) := of_decide_eq_true zz1
                           obtain ⟨ad271, A271_1, c271_1, e271, hx271_0, hx271_1, hl271_1, hi271_1⟩ := at_T45 HR0_1.out x9_2 p271 q271; obtain rfl : ad269 = ad271 := (by injection e271)
                           replace hx271_0 := (HB.out.cell (World.block_lt_of_cell? w _ hx271_0)).trans hx271_0
                           replace hx271_1 := (HB.out.cell (World.block_lt_of_cell? w _ hx271_1)).trans hx271_1
                           have HR271_1 := Aside0.mk hi271_1; have HC271_1 := Aside0.mk hl271_1; clear hi271_1 hl271_1; replace p271 := eq_true p271; replace q271 := eq_true q271
                           have p272 : 0 ≤ (x10_4 : Int) := of_decide_eq_true zz1
                           have q272 : x10_4 < (((rd_T45 l0_1 x9_2).f1).length : Int) := of_decide_eq_true zz1
                           obtain ⟨ad272, A272_0, c272_0, e272, hx272_0, hl272_0, hi272_0⟩ := at_L6 HR271_1.out x10_4 p272 q272; cases e272
                           replace hx272_0 := (HB.out.cell (World.block_lt_of_cell? w _ hx272_0)).trans hx272_0
                           have HR272_0 := Aside0.mk hi272_0; have HC272_0 := Aside0.mk hl272_0; clear hi272_0 hl272_0; replace p272 := eq_true p272; replace q272 := eq_true q272
                           have p273 : 0 ≤ (x9_2 : Int) := of_decide_eq_true zz1
                           have q273 : x9_2 < (l0_1.length : Int) := of_decide_eq_true zz1
                           obtain ⟨ad273, A273_1, c273_1, e273, hx273_0, hx273_1, hl273_1, hi273_1⟩ := at_T45 HR0_1.out x9_2 p273 q273; obtain rfl : ad269 = ad273 := (by injection e273)
                           replace hx273_0 := (HB.out.cell (World.block_lt_of_cell? w _ hx273_0)).trans hx273_0
                           replace hx273_1 := (HB.out.cell (World.block_lt_of_cell? w _ hx273_1)).trans hx273_1
                           have HR273_1 := Aside0.mk hi273_1; have HC273_1 := Aside0.mk hl273_1; clear hi273_1 hl273_1; replace p273 := eq_true p273; replace q273 := eq_true q273
                           have ea_ := Option.some.inj (hx271_1.symm.trans hx273_1)
                           injection ea_ with ea_ en_ ec_
                           subst ea_; subst ec_; clear en_
                           have p274 : 0 ≤ (x10_4 : Int) := of_decide_eq_true zz1
                           have q274 : x10_4 < (((rd_T45 l0_1 x9_2).f1).length : Int) := of_decide_eq_true zz1
                           obtain ⟨ad274, A274_0, c274_0, e274, hx274_0, hl274_0, hi274_0⟩ := at_L6 HR273_1.out x10_4 p274 q274; cases e274
                           replace hx274_0 := (HB.out.cell (World.block_lt_of_cell? w _ hx274_0)).trans hx274_0
                           have ea_ := Option.some.inj (hx272_0.symm.trans hx274_0)
                           injection ea_ with ea_ en_ ec_
                           subst ea_; subst ec_; clear en_; have HR274_0 := Aside0.mk hi274_0; have HC274_0 := Aside0.mk hl274_0; clear hi274_0 hl274_0; replace p274 := eq_true p274; replace q274 := eq_true q274
                           have p275 : 0 ≤ (x12_5 : Int) := of_decide_eq_true zz1
                           have q275 : x12_5 < ((rd_L6 ((rd_T45 l0_1 x9_2).f1) x10_4).length : Int) := of_decide_eq_true zz1
                           obtain ⟨ad275, A275_1, c275_1, e275, hx275_0, hx275_1, hl275_1, hi275_1⟩ := at_T64 HR274_0.out x12_5 p275 q275; cases e275
                           replace hx275_0 := (HB.out.cell (World.block_lt_of_cell? w _ hx275_0)).trans hx275_0
                           replace hx275_1 := (HB.out.cell (World.block_lt_of_cell? w _ hx275_1)).trans hx275_1
                           have HR275_1 := Aside0.mk hi275_1; have HC275_1 := Aside0.mk hl275_1; clear hi275_1 hl275_1; replace p275 := eq_true p275; replace q275 := eq_true q275
                           try go_wp2_with (first | ((with_reducible refine gate_dst (N := 13) rfl ?_); (try (refine gate_guard (by rfl) ?_; dsimp only)); refine box_event (by rfl) (N := 13) (by rfl) (cs := #[.bool false, .slice none 0 0]) (t := 64) zzh ?_; intro gb276 hg w99 hbox hb; have n0_ := Aside0.mk (Kd.R_below (zzr HO_255001.out) hb); have n1_ := Aside0.mk (Kd.R_below (zzr HO_255002.out) hb); have n2_ := Aside0.mk (Kd.S_below (zzs HO_271001.out) hb); have n3_ := Aside0.mk (blk_below (g := gb252) (o := .cells #[.slice (some ad266) l0_0.length c0_0, .slice (some ad269) l0_1.length c0_1] 25 (0, 0)) (zzb BK252) hb); have n4_ := Aside0.mk (blk_below (g := gb253) (o := .cells #[.int .i64 x254000_1, .slice none 0 0, .slice none 0 0] 28 (0, 0)) (zzb BK253) hb); have n5_ := Aside0.mk (blk_below (g := gb254) (o := .cells #[.int .i64 t267, .slice Ao58 x255001_1.length co58, u255002] 28 (0, 0)) (zzb BK254) hb); have n6_ := Aside0.mk (blk_below (g := gb270) (o := .cells #[.int .i64 x9_2, u271001] 51 (0, 0)) (zzb BK270) hb); have n7_ := Aside0.mk (below_step zzq hb); have n8_ := Aside0.mk (hbox); have n9_ := Aside0.mk ((zzg hg zzq)); have n10_ := Aside0.mk ((zzg hg zzq)); have n11_ := Aside0.mk ((by rw [hg]; exact Nat.ne_of_lt (blk_lt (g := gb252) (o := .cells #[.slice (some ad266) l0_0.length c0_0, .slice (some ad269) l0_1.length c0_1] 25 (0, 0)) (zzb BK252)) : gb252 ≠ gb276)); have n12_ := Aside0.mk ((by rw [hg]; exact Nat.ne_of_gt (blk_lt (g := gb252) (o := .cells #[.slice (some ad266) l0_0.length c0_0, .slice (some ad269) l0_1.length c0_1] 25 (0, 0)) (zzb BK252)) : gb276 ≠ gb252)); have n13_ := Aside0.mk ((by rw [hg]; exact Nat.ne_of_lt (blk_lt (g := gb253) (o := .cells #[.int .i64 x254000_1, .slice none 0 0, .slice none 0 0] 28 (0, 0)) (zzb BK253)) : gb253 ≠ gb276)); have n14_ := Aside0.mk ((by rw [hg]; exact Nat.ne_of_gt (blk_lt (g := gb253) (o := .cells #[.int .i64 x254000_1, .slice none 0 0, .slice none 0 0] 28 (0, 0)) (zzb BK253)) : gb276 ≠ gb253)); have n15_ := Aside0.mk ((by rw [hg]; exact Nat.ne_of_lt (blk_lt (g := gb254) (o := .cells #[.int .i64 t267, .slice Ao58 x255001_1.length co58, u255002] 28 (0, 0)) (zzb BK254)) : gb254 ≠ gb276)); have n16_ := Aside0.mk ((by rw [hg]; exact Nat.ne_of_gt (blk_lt (g := gb254) (o := .cells #[.int .i64 t267, .slice Ao58 x255001_1.length co58, u255002] 28 (0, 0)) (zzb BK254)) : gb276 ≠ gb254)); have n17_ := Aside0.mk ((by rw [hg]; exact Nat.ne_of_lt (blk_lt (g := gb270) (o := .cells #[.int .i64 x9_2, u271001] 51 (0, 0)) (zzb BK270)) : gb270 ≠ gb276)); have n18_ := Aside0.mk ((by rw [hg]; exact Nat.ne_of_gt (blk_lt (g := gb270) (o := .cells #[.int .i64 x9_2, u271001] 51 (0, 0)) (zzb BK270)) : gb276 ≠ gb270)); clear HO_255001; clear HO_255002; clear HO_271001; clear BK252; clear BK253; clear BK254; clear BK270; clear HB; have HO_255001 := n0_; have HO_255002 := n1_; have HO_271001 := n2_; have BK252 := n3_; have BK253 := n4_; have BK254 := n5_; have BK270 := n6_; have HB := n7_; have BK276 := n8_; have GW276 := n9_; have GE276 := n10_; have NB252_276 := n11_; have NB276_252 := n12_; have NB253_276 := n13_; have NB276_253 := n14_; have NB254_276 := n15_; have NB276_254 := n16_; have NB270_276 := n17_; have NB276_270 := n18_; clear n0_ n1_ n2_ n3_ n4_ n5_ n6_ n7_ n8_ n9_ n10_ n11_ n12_ n13_ n14_ n15_ n16_ n17_ n18_; clear hb hbox hg; have hnb100 := NB276_252.out; have hnc100 := NB252_276.out; have hnb101 := NB276_253.out; have hnc101 := NB253_276.out; have hnb102 := NB276_254.out; have hnc102 := NB254_276.out; have hnb103 := NB276_270.out; have hnc103 := NB270_276.out; have hcz104_0 : w99.cell? ⟨gb276, 0, none⟩ = some (.bool false) := (blk_cell BK276.out 0).trans rfl; have hcz104_1 : w99.cell? ⟨gb276, 1, none⟩ = some (.slice none 0 0) := (blk_cell BK276.out 1).trans rfl; have hfz104_0 := blk_frozen BK276.out 0; have hfz104_1 := blk_frozen BK276.out 1))
                           have n0_ : Aside0 (Kd.R Kd.string 9 ((w99.setCell ⟨gb276, 0, none⟩ (.bool ((rd_T64 (rd_L6 ((rd_T45 l0_1 x9_2).f1) x10_4) x12_5).f0))).setCell ⟨gb276, 1, none⟩ (.slice A275_1 ((rd_T64 (rd_L6 ((rd_T45 l0_1 x9_2).f1) x10_4) x12_5).f1).length c275_1)) w.heap.size (fun _ => True) (.slice Ao58 x255001_1.length co58) x255001_1) := ⟨zzr (Kd.R_mono (Kd.R_far (p := ⟨gb276, 1, none⟩) (Kd.R_far (p := ⟨gb276, 0, none⟩) (Kd.R_types HO_255001.out BK276.out (by decide)) (fun _ hk => hk.2) (.bool ((rd_T64 (rd_L6 ((rd_T45 l0_1 x9_2).f1) x10_4) x12_5).f0))) (fun _ hk => hk.2) (.slice A275_1 ((rd_T64 (rd_L6 ((rd_T45 l0_1 x9_2).f1) x10_4) x12_5).f1).length c275_1)) (fun _ hk => trivial))⟩
                           have n1_ : Aside0 (Kd.R k51 51 ((w99.setCell ⟨gb276, 0, none⟩ (.bool ((rd_T64 (rd_L6 ((rd_T45 l0_1 x9_2).f1) x10_4) x12_5).f0))).setCell ⟨gb276, 1, none⟩ (.slice A275_1 ((rd_T64 (rd_L6 ((rd_T45 l0_1 x9_2).f1) x10_4) x12_5).f1).length c275_1)) w.heap.size (fun k_ => some k_ ≠ (u271001 : Value).ownBlock ∧ k_ ≠ gb270) u255002 x255002_4) := ⟨zzr (Kd.R_mono (Kd.R_far (p := ⟨gb276, 1, none⟩) (Kd.R_far (p := ⟨gb276, 0, none⟩) (Kd.R_types HO_255002.out BK276.out (by decide)) (fun _ hk => hk.2) (.bool ((rd_T64 (rd_L6 ((rd_T45 l0_1 x9_2).f1) x10_4) x12_5).f0))) (fun _ hk => hk.2) (.slice A275_1 ((rd_T64 (rd_L6 ((rd_T45 l0_1 x9_2).f1) x10_4) x12_5).f1).length c275_1)) (fun _ hk => ⟨hk.1.1, hk.1.2⟩))⟩
                           have n2_ : Aside0 (Kd.S k54 54 ((w99.setCell ⟨gb276, 0, none⟩ (.bool ((rd_T64 (rd_L6 ((rd_T45 l0_1 x9_2).f1) x10_4) x12_5).f0))).setCell ⟨gb276, 1, none⟩ (.slice A275_1 ((rd_T64 (rd_L6 ((rd_T45 l0_1 x9_2).f1) x10_4) x12_5).f1).length c275_1)) w.heap.size (fun _ => True) u271001 x271001_5) := ⟨zzs (Kd.S_mono (Kd.S_far (p := ⟨gb276, 1, none⟩) (Kd.S_far (p := ⟨gb276, 0, none⟩) (Kd.S_types HO_271001.out BK276.out (by decide)) (fun _ hk => hk.2) (.bool ((rd_T64 (rd_L6 ((rd_T45 l0_1 x9_2).f1) x10_4) x12_5).f0))) (fun _ hk => hk.2) (.slice A275_1 ((rd_T64 (rd_L6 ((rd_T45 l0_1 x9_2).f1) x10_4) x12_5).f1).length c275_1)) (fun _ hk => trivial))⟩
                           have n3_ : Aside0 (((w99.setCell ⟨gb276, 0, none⟩ (.bool ((rd_T64 (rd_L6 ((rd_T45 l0_1 x9_2).f1) x10_4) x12_5).f0))).setCell ⟨gb276, 1, none⟩ (.slice A275_1 ((rd_T64 (rd_L6 ((rd_T45 l0_1 x9_2).f1) x10_4) x12_5).f1).length c275_1)).heap[gb252]? = some (.cells #[.slice (some ad266) l0_0.length c0_0, .slice (some ad269) l0_1.length c0_1] 25 (0, 0))) := ⟨by (with_reducible repeat (first | refine blk_drewN ?_ _ | refine blk_drew ?_ | refine blk_alloc ?_ _)); refine blk_far ?_ NB252_276.out _; (with_reducible repeat (first | refine blk_drewN ?_ _ | refine blk_drew ?_ | refine blk_alloc ?_ _)); refine blk_far ?_ NB252_276.out _; exact zzb BK252⟩
                           have n4_ : Aside0 (((w99.setCell ⟨gb276, 0, none⟩ (.bool ((rd_T64 (rd_L6 ((rd_T45 l0_1 x9_2).f1) x10_4) x12_5).f0))).setCell ⟨gb276, 1, none⟩ (.slice A275_1 ((rd_T64 (rd_L6 ((rd_T45 l0_1 x9_2).f1) x10_4) x12_5).f1).length c275_1)).heap[gb253]? = some (.cells #[.int .i64 x254000_1, .slice none 0 0, .slice none 0 0] 28 (0, 0))) := ⟨by (with_reducible repeat (first | refine blk_drewN ?_ _ | refine blk_drew ?_ | refine blk_alloc ?_ _)); refine blk_far ?_ NB253_276.out _; (with_reducible repeat (first | refine blk_drewN ?_ _ | refine blk_drew ?_ | refine blk_alloc ?_ _)); refine blk_far ?_ NB253_276.out _; exact zzb BK253⟩
                           have n5_ : Aside0 (((w99.setCell ⟨gb276, 0, none⟩ (.bool ((rd_T64 (rd_L6 ((rd_T45 l0_1 x9_2).f1) x10_4) x12_5).f0))).setCell ⟨gb276, 1, none⟩ (.slice A275_1 ((rd_T64 (rd_L6 ((rd_T45 l0_1 x9_2).f1) x10_4) x12_5).f1).length c275_1)).heap[gb254]? = some (.cells #[.int .i64 t267, .slice Ao58 x255001_1.length co58, u255002] 28 (0, 0))) := ⟨by (with_reducible repeat (first | refine blk_drewN ?_ _ | refine blk_drew ?_ | refine blk_alloc ?_ _)); refine blk_far ?_ NB254_276.out _; (with_reducible repeat (first | refine blk_drewN ?_ _ | refine blk_drew ?_ | refine blk_alloc ?_ _)); refine blk_far ?_ NB254_276.out _; exact zzb BK254⟩
                           have n6_ : Aside0 (((w99.setCell ⟨gb276, 0, none⟩ (.bool ((rd_T64 (rd_L6 ((rd_T45 l0_1 x9_2).f1) x10_4) x12_5).f0))).setCell ⟨gb276, 1, none⟩ (.slice A275_1 ((rd_T64 (rd_L6 ((rd_T45 l0_1 x9_2).f1) x10_4) x12_5).f1).length c275_1)).heap[gb270]? = some (.cells #[.int .i64 x9_2, u271001] 51 (0, 0))) := ⟨by (with_reducible repeat (first | refine blk_drewN ?_ _ | refine blk_drew ?_ | refine blk_alloc ?_ _)); refine blk_far ?_ NB270_276.out _; (with_reducible repeat (first | refine blk_drewN ?_ _ | refine blk_drew ?_ | refine blk_alloc ?_ _)); refine blk_far ?_ NB270_276.out _; exact zzb BK270⟩
                           have n7_ : Aside0 (((w99.setCell ⟨gb276, 0, none⟩ (.bool ((rd_T64 (rd_L6 ((rd_T45 l0_1 x9_2).f1) x10_4) x12_5).f0))).setCell ⟨gb276, 1, none⟩ (.slice A275_1 ((rd_T64 (rd_L6 ((rd_T45 l0_1 x9_2).f1) x10_4) x12_5).f1).length c275_1)).heap[gb276]? = some (.cells #[.bool ((rd_T64 (rd_L6 ((rd_T45 l0_1 x9_2).f1) x10_4) x12_5).f0), .slice A275_1 ((rd_T64 (rd_L6 ((rd_T45 l0_1 x9_2).f1) x10_4) x12_5).f1).length c275_1] 64 (0, 0))) := ⟨by (with_reducible repeat (first | refine blk_drewN ?_ _ | refine blk_drew ?_ | refine blk_alloc ?_ _)); refine blk_put (cs := #[.bool ((rd_T64 (rd_L6 ((rd_T45 l0_1 x9_2).f1) x10_4) x12_5).f0), .slice none 0 0]) ?_ 1 _ rfl; (with_reducible repeat (first | refine blk_drewN ?_ _ | refine blk_drew ?_ | refine blk_alloc ?_ _)); refine blk_put (cs := #[.bool false, .slice none 0 0]) ?_ 0 _ rfl; exact zzb BK276⟩
                           have n8_ : Aside0 (Below w.heap.size w ((w99.setCell ⟨gb276, 0, none⟩ (.bool ((rd_T64 (rd_L6 ((rd_T45 l0_1 x9_2).f1) x10_4) x12_5).f0))).setCell ⟨gb276, 1, none⟩ (.slice A275_1 ((rd_T64 (rd_L6 ((rd_T45 l0_1 x9_2).f1) x10_4) x12_5).f1).length c275_1))) := ⟨zzq⟩
                           (try clear HO_255001); (try clear HO_255002); (try clear HO_271001); (try clear BK252); (try clear BK253); (try clear BK254); (try clear BK270); (try clear BK276); (try clear HB)
                           generalize ((w99.setCell ⟨gb276, 0, none⟩ (.bool ((rd_T64 (rd_L6 ((rd_T45 l0_1 x9_2).f1) x10_4) x12_5).f0))).setCell ⟨gb276, 1, none⟩ (.slice A275_1 ((rd_T64 (rd_L6 ((rd_T45 l0_1 x9_2).f1) x10_4) x12_5).f1).length c275_1)) = w105 at n0_ n1_ n2_ n3_ n4_ n5_ n6_ n7_ n8_ ⊢
                           have HO_255001 := n0_; have HO_255002 := n1_; have HO_271001 := n2_; have BK252 := n3_; have BK253 := n4_; have BK254 := n5_; have BK270 := n6_; have BK276 := n7_; have HB := n8_; clear n0_ n1_ n2_ n3_ n4_ n5_ n6_ n7_ n8_; have n0_ := Aside0.mk (Kd.R_drew HO_255001.out); have n1_ := Aside0.mk (Kd.R_drew HO_255002.out); have n2_ := Aside0.mk (Kd.S_drew HO_271001.out); have n3_ := Aside0.mk (blk_drew BK252.out); have n4_ := Aside0.mk (blk_drew BK253.out); have n5_ := Aside0.mk (blk_drew BK254.out); have n6_ := Aside0.mk (blk_drew BK270.out); have n7_ := Aside0.mk (blk_drew BK276.out); have n8_ := Aside0.mk (below_drew1 HB.out); clear HO_255001; clear HO_255002; clear HO_271001; clear BK252; clear BK253; clear BK254; clear BK270; clear BK276; clear HB; have HO_255001 := n0_; have HO_255002 := n1_; have HO_271001 := n2_; have BK252 := n3_; have BK253 := n4_; have BK254 := n5_; have BK270 := n6_; have BK276 := n7_; have HB := n8_; clear n0_ n1_ n2_ n3_ n4_ n5_ n6_ n7_ n8_
                           refine start_ (n := 14) (S := fun w' => w'.cell? ⟨gb270, 0, none⟩ = some (.int .i64 x9_2) ∧ w'.cell? ⟨gb270, 1, none⟩ = some (u271001) ∧ w'.cell? ⟨gb276, 0, none⟩ = some (.bool ((rd_T64 (rd_L6 ((rd_T45 l0_1 x9_2).f1) x10_4) x12_5).f0)) ∧ w'.cell? ⟨gb276, 1, none⟩ = some (.slice A275_1 ((rd_T64 (rd_L6 ((rd_T45 l0_1 x9_2).f1) x10_4) x12_5).f1).length c275_1) ∧ w'.cell? ⟨gb254, 0, none⟩ = some (.int .i64 t267) ∧ w'.cell? ⟨gb254, 1, none⟩ = some (.slice Ao58 x255001_1.length co58) ∧ w'.cell? ⟨gb254, 2, none⟩ = some (u255002)) (ds := [13]) #[false, false, false, false, false, false, false, false, false, false, false, false, false, false] (by kernel_rfl) rfl rfl ⟨(blk_cell BK270.out 0).trans rfl, (blk_cell BK270.out 1).trans rfl, (blk_cell BK276.out 0).trans rfl, (blk_cell BK276.out 1).trans rfl, (blk_cell BK254.out 0).trans rfl, (blk_cell BK254.out 1).trans rfl, (blk_cell BK254.out 2).trans rfl⟩ (fun hHeld => ?_); refine with_tabW templeref1_Build.tab28 templeref1_Build.bits28 (fun HT_ HW_ => ?_)
                           generalize w105.drew = w106 at HO_255001 HO_255002 HO_271001 BK252 BK253 BK254 BK270 BK276 HB hHeld ⊢
                           refine pure_ (i := 0) (N := some 132) (v := ?_) (a' := ?_) (bs 14 1) rfl rfl (any_of HT_.out (by kernel_rfl)) (fun _ _ _ h => h) (Or.inl ⟨by rfl, ?_⟩) ?_ ?_
                           rotate_left
                           ·intro w'
                            go_simp; with_reducible rfl
                           rotate_left
                           ·simp only [Act.put, s1, s2, s3, i64_w, i32_w]
                            rfl
                           refine pure_ (i := 2) (N := some 134) (v := ?_) (a' := ?_) (bs 14 5) rfl rfl (any_of HT_.out (by kernel_rfl)) (fun _ _ _ h => h) (Or.inl ⟨by rfl, ?_⟩) ?_ ?_
                           rotate_left
                           ·intro w'
                            go_simp; with_reducible rfl
                           rotate_left
                           ·simp only [Act.put, s1, s2, s3, i64_w, i32_w]
                            rfl
                           refine pure_ (i := 4) (N := some 136) (v := ?_) (a' := ?_) (bs 14 21) rfl rfl (any_of HT_.out (by kernel_rfl)) (fun _ _ _ h => h) (Or.inl ⟨by rfl, ?_⟩) ?_ ?_
                           rotate_left
                           ·intro w'
                            go_simp; with_reducible rfl
                           rotate_left
                           ·simp only [Act.put, s1, s2, s3, i64_w, i32_w]
                            rfl
                           refine pure_ (i := 6) (N := some 138) (v := ?_) (a' := ?_) (bs 14 85) rfl rfl (any_of HT_.out (by kernel_rfl)) (fun _ _ _ h => h) (Or.inl ⟨by rfl, ?_⟩) ?_ ?_
                           rotate_left
                           ·intro w'
                            go_simp; with_reducible rfl
                           rotate_left
                           ·simp only [Act.put, s1, s2, s3, i64_w, i32_w]
                            rfl
                           refine take_ (i := 1) (N := some 133) (v := ?_) (a' := ?_) (bs 14 87) rfl rfl (take_ofW HT_.out HW_.out (by kernel_rfl)) (fun _ _ _ h => h) (Or.inl ⟨by rfl, ?_⟩) hHeld ?_ ?_
                           rotate_left
                           ·rintro w' ⟨s0, s1, s2, s3, s4, s5, s6⟩; go_simp; with_reducible rfl
                           rotate_left
                           ·simp only [Act.put, s1, s2, s3, i64_w, i32_w]
                            rfl
                           refine take_ (i := 3) (N := some 135) (v := ?_) (a' := ?_) (bs 14 95) rfl rfl (take_ofW HT_.out HW_.out (by kernel_rfl)) (fun _ _ _ h => h) (Or.inl ⟨by rfl, ?_⟩) hHeld ?_ ?_
                           rotate_left
                           ·rintro w' ⟨s0, s1, s2, s3, s4, s5, s6⟩; go_simp; with_reducible rfl
                           rotate_left
                           ·simp only [Act.put, s1, s2, s3, i64_w, i32_w]
                            rfl
                           refine take_ (i := 5) (N := some 137) (v := ?_) (a' := ?_) (bs 14 127) rfl rfl (take_ofW HT_.out HW_.out (by kernel_rfl)) (fun _ _ _ h => h) (Or.inl ⟨by rfl, ?_⟩) hHeld ?_ ?_
                           rotate_left
                           ·rintro w' ⟨s0, s1, s2, s3, s4, s5, s6⟩; go_simp; with_reducible rfl
                           rotate_left
                           ·simp only [Act.put, s1, s2, s3, i64_w, i32_w]
                            rfl
                           refine take_ (i := 7) (N := some 139) (v := ?_) (a' := ?_) (bs 14 255) rfl rfl (take_ofW HT_.out HW_.out (by kernel_rfl)) (fun _ _ _ h => h) (Or.inl ⟨by rfl, ?_⟩) hHeld ?_ ?_
                           rotate_left
                           ·rintro w' ⟨s0, s1, s2, s3, s4, s5, s6⟩; go_simp; with_reducible rfl
                           rotate_left
                           ·simp only [Act.put, s1, s2, s3, i64_w, i32_w]
                            rfl
                           refine one_ (i := 8) (N := some 140) (bs 14 511) rfl rfl (one_of HT_.out (by kernel_rfl)) (by decide) (fun K hK => ?_)
                           refine goes_ Try.func31 (by kernel_rfl) rfl #[.slice A275_1 ((rd_T64 (rd_L6 ((rd_T45 l0_1 x9_2).f1) x10_4) x12_5).f1).length c275_1, .slice Ao58 x255001_1.length co58] (by rfl) rfl rfl zz2 ?_
                           with_reducible refine (templeref1_symbols.calls k5 _ _ ((rd_T64 (rd_L6 ((rd_T45 l0_1 x9_2).f1) x10_4) x12_5).f1) _ _ x255001_1 t277 _ ?side1 ?side2 ?side3 ?side4 A93.out).mono ?_
                           (case side1 => exact zzc (Kd.C_below HR275_1.out HB.out))
                           (case side2 => exact HC275_1.out)
                           (case side3 => exact zzc (Kd.R_reads' HO_255001.out).2.2)
                           (case side4 => exact (Kd.R_reads' HO_255001.out).2.1)
                           rintro e w107 ⟨v278, rfl, ho0, hb⟩
                           refine ⟨_, rfl, ?_⟩
                           have n0_ := Aside0.mk (Kd.R_below (zzr HO_255001.out) hb); have n1_ := Aside0.mk (Kd.R_elder' (zzr HO_255002.out) (Kd.R_base ho0) hb); have n2_ := Aside0.mk (Kd.S_elder' (zzs HO_271001.out) (Kd.R_base ho0) hb); have n3_ := Aside0.mk (Kd.R_lower ho0 (below_size zzq)); have n4_ := kb BK252 hb; have n5_ := kb BK253 hb; have n6_ := kb BK254 hb; have n7_ := kb BK270 hb; have n8_ := Aside0.mk (blk_below (g := gb276) (o := .cells #[.bool ((rd_T64 (rd_L6 ((rd_T45 l0_1 x9_2).f1) x10_4) x12_5).f0), .slice A275_1 ((rd_T64 (rd_L6 ((rd_T45 l0_1 x9_2).f1) x10_4) x12_5).f1).length c275_1] 64 (0, 0)) (zzb BK276) hb); have n9_ := ks HB hb; clear HO_255001; clear HO_255002; clear HO_271001; clear BK252; clear BK253; clear BK254; clear BK270; clear BK276; clear HB; have HO_255001 := n0_; have HO_255002 := n1_; have HO_271001 := n2_; have HO279 := n3_; have BK252 := n4_; have BK253 := n5_; have BK254 := n6_; have BK270 := n7_; have BK276 := n8_; have HB := n9_; clear n0_ n1_ n2_ n3_ n4_ n5_ n6_ n7_ n8_ n9_; (try clear hb); (try clear ho0); obtain ⟨Ao108, co108, eo108⟩ := Kd.R_slice HO279.out
                           (first | subst eo108 | (injection eo108 with f1_ f2_ f3_; have f4_ := f1_.symm; have f5_ := f3_.symm; clear f1_ f2_ f3_; subst f4_; subst f5_))
                           refine hK.out _ _ ⟨(blk_cell BK270.out 0).trans rfl, (blk_cell BK270.out 1).trans rfl, (blk_cell BK276.out 0).trans rfl, (blk_cell BK276.out 1).trans rfl, (blk_cell BK254.out 0).trans rfl, (blk_cell BK254.out 1).trans rfl, (blk_cell BK254.out 2).trans rfl⟩ (fun hHeld => ?_)
                           clear hK K
                           refine norm_ (a' := ?_) ?_ ?_
                           rotate_left
                           ·show Act.put _ (some 140) _ = _
                            simp only [Act.put, s1, s2, s3, i64_w, i32_w]
                            rfl
                           refine pure_ (i := 9) (N := some 141) (v := ?_) (a' := ?_) (bs 14 1023) rfl rfl (any_of HT_.out (by kernel_rfl)) (fun _ _ _ h => h) (Or.inl ⟨by rfl, ?_⟩) ?_ ?_
                           rotate_left
                           ·intro w'
                            go_simp; with_reducible rfl
                           rotate_left
                           ·simp only [Act.put, s1, s2, s3, i64_w, i32_w]
                            rfl
                           refine one_ (i := 10) (N := some 142) (bs 14 2047) rfl rfl (one_of HT_.out (by kernel_rfl)) (by decide) (fun K hK => ?_)
                           refine value_ (w1 := ?_) (v := ?_) (by rfl) rfl ?_ ?_
                           rotate_left 2
                           ·go_simp
                            constructor
                            ·rfl
                            ·rfl
                           refine hK.out _ _ ⟨(blk_cell (blk_alloc BK270.out _) 0).trans rfl, (blk_cell (blk_alloc BK270.out _) 1).trans rfl, (blk_cell (blk_alloc BK276.out _) 0).trans rfl, (blk_cell (blk_alloc BK276.out _) 1).trans rfl, (blk_cell (blk_alloc BK254.out _) 0).trans rfl, (blk_cell (blk_alloc BK254.out _) 1).trans rfl, (blk_cell (blk_alloc BK254.out _) 2).trans rfl⟩ (fun hHeld => ?_)
                           clear hK K
                           refine norm_ (a' := ?_) ?_ ?_
                           rotate_left
                           ·show Act.put _ (some 142) _ = _
                            simp only [Act.put, s1, s2, s3, i64_w, i32_w]
                            rfl
                           refine one_ (i := 11) (N := some 143) (bs 14 4095) rfl rfl (one_of HT_.out (by kernel_rfl)) (by decide) (fun K hK => ?_)
                           refine Kd.S_append_step k54 (w0 := w) w.heap.size (by rfl) (.tmp 133) (.tmp 142) 49 54 (.agg #[(.bool false), (.slice none 0 0)]) 32 rfl Try.underlying49 info54 rfl (by decide) (by omega) u271001 x271001_5 (⟨(rd_T64 (rd_L6 ((rd_T45 l0_1 x9_2).f1) x10_4) x12_5).f0, t277⟩ : S54) [.bool ((rd_T64 (rd_L6 ((rd_T45 l0_1 x9_2).f1) x10_4) x12_5).f0), .slice Ao108 t277.length co108] (fun _ => True) (fun k_ => some k_ = (.slice Ao108 t277.length co108 : Value).ownBlock) rfl rfl ?aP (fun k_ hk_ => ((Kd.R_mono (ok' := fun k_ => ((fun _ => True)) k_ ∧ some k_ ≠ (u271001 : Value).ownBlock) (Kd.R_apart' (HO279.out) (Kd.S_typed HO_271001.out) (by decide)) (fun k_ hk => ⟨trivial, hk.2⟩))).1 k_ hk_.symm) ?aF ?aO ?aB ?aS ?aL ?_
                           (case aP => exact k54_mkM _ _ _ (⟨(rd_T64 (rd_L6 ((rd_T45 l0_1 x9_2).f1) x10_4) x12_5).f0, t277⟩ : S54) (Kd.R_mono (Kd.R_tight rfl (Kd.R_mono (ok' := fun k_ => ((fun _ => True)) k_ ∧ some k_ ≠ (u271001 : Value).ownBlock) (Kd.R_apart' (HO279.out) (Kd.S_typed HO_271001.out) (by decide)) (fun k_ hk => ⟨trivial, hk.2⟩))) (fun _ h_ => h_)))
                           (case aB => exact zzq)
                           (case aF => exact (fun _ _ => trivial))
                           (case aO => exact (zzs (Kd.S_mono HO_271001.out (fun k_ hk => ⟨trivial, fun e_ => hk.2 e_⟩))))
                           (case aS => exact (below_size zzq))
                           (case aL => have := LMc94.out; omega)
                           intro v281 w109 ho hb hg hat
                           rw [← Ny280.out] at ho
                           have n0_ := Aside0.mk (Kd.R_over' (zzr HO_255001.out) (Kd.S_typed (zzs HO_271001.out)) (by decide) hg); have n1_ := Aside0.mk (Kd.R_after (ok := (fun k_ => some k_ ≠ (.slice Ao108 t277.length co108 : Value).ownBlock ∧ k_ ≠ gb270)) (zzr (Kd.R_mono HO_255002.out (fun _ hk => ⟨⟨hk.2, hk.1.2⟩, hk.1.1⟩))) hg hat); have n2_ := Aside0.mk (blk_grown (g := gb252) (o := .cells #[.slice (some ad266) l0_0.length c0_0, .slice (some ad269) l0_1.length c0_1] 25 (0, 0)) (zzb BK252) hg (Kd.S_ne HO_271001.out BK252.out (by decide))); have n3_ := Aside0.mk (blk_grown (g := gb253) (o := .cells #[.int .i64 x254000_1, .slice none 0 0, .slice none 0 0] 28 (0, 0)) (zzb BK253) hg (Kd.S_ne HO_271001.out BK253.out (by decide))); have n4_ := Aside0.mk (blk_grown (g := gb254) (o := .cells #[.int .i64 t267, .slice Ao58 x255001_1.length co58, u255002] 28 (0, 0)) (zzb BK254) hg (Kd.S_ne HO_271001.out BK254.out (by decide))); have n5_ := Aside0.mk (blk_grown (g := gb270) (o := .cells #[.int .i64 x9_2, u271001] 51 (0, 0)) (zzb BK270) hg (Kd.S_ne HO_271001.out BK270.out (by decide))); have n6_ := Aside0.mk (blk_grown (g := gb276) (o := .cells #[.bool ((rd_T64 (rd_L6 ((rd_T45 l0_1 x9_2).f1) x10_4) x12_5).f0), .slice A275_1 ((rd_T64 (rd_L6 ((rd_T45 l0_1 x9_2).f1) x10_4) x12_5).f1).length c275_1] 64 (0, 0)) (zzb BK276) hg (Kd.S_ne HO_271001.out BK276.out (by decide))); have n7_ := Aside0.mk (hb); have n8_ := Aside0.mk (ho); clear HO_255001; clear HO_255002; clear BK252; clear BK253; clear BK254; clear BK270; clear BK276; clear HB; clear HO_271001; clear HO279; have HO_255001 := n0_; have HO_255002 := n1_; have BK252 := n2_; have BK253 := n3_; have BK254 := n4_; have BK270 := n5_; have BK276 := n6_; have HB := n7_; have HO282 := n8_; clear n0_ n1_ n2_ n3_ n4_ n5_ n6_ n7_ n8_; clear ho hb hg hat; obtain ⟨Ao110, co110, eo110⟩ := Kd.S_slice HO282.out
                           (first | subst eo110 | (injection eo110 with f1_ f2_ f3_; have f4_ := f1_.symm; have f5_ := f3_.symm; clear f1_ f2_ f3_; subst f4_; subst f5_))
                           refine hK.out _ _ ⟨(blk_cell BK270.out 0).trans rfl, (blk_cell BK270.out 1).trans rfl, (blk_cell BK276.out 0).trans rfl, (blk_cell BK276.out 1).trans rfl, (blk_cell BK254.out 0).trans rfl, (blk_cell BK254.out 1).trans rfl, (blk_cell BK254.out 2).trans rfl⟩ (fun hHeld => ?_)
                           clear hK K
                           refine norm_ (a' := ?_) ?_ ?_
                           rotate_left
                           ·show Act.put _ (some 143) _ = _
                            simp only [Act.put, s1, s2, s3, i64_w, i32_w]
                            rfl
                           refine pure_ (i := 12) (N := some 144) (v := ?_) (a' := ?_) (bs 14 8191) rfl rfl (any_of HT_.out (by kernel_rfl)) (fun _ _ _ h => h) (Or.inl ⟨by rfl, ?_⟩) ?_ ?_
                           rotate_left
                           ·intro w'
                            go_simp; with_reducible rfl
                           rotate_left
                           ·simp only [Act.put, s1, s2, s3, i64_w, i32_w]
                            rfl
                           refine last_ (i := 13) (N := none) (bs 14 16383) rfl rfl (one_of HT_.out (by kernel_rfl)) (by decide) (fun K hK => ?_)
                           have hs111 : w109.cell? ⟨gb270, 1, none⟩ = some (u271001) := (blk_cell BK270.out 1).trans rfl
                           have hfs111 := blk_frozen BK270.out 1
                           have hns111_0 := NB252_270.out; have hns111_1 := NB253_270.out; have hns111_2 := NB254_270.out; have hns111_4 := NB276_270.out; have hms111_0 := NB270_252.out; have hms111_1 := NB270_253.out; have hms111_2 := NB270_254.out; have hms111_4 := NB270_276.out
                           refine skip_ (w1 := ?_) (by rfl) rfl ?_ ?_
                           rotate_left
                           ·go_simp; rfl
                           refine hK.out _ _ ?_
                           clear hK K
                           refine done_ (done_of HT_.out (by kernel_rfl)) ?_
                           try go_wp2
                           go_roundg k5
                           case measure => have := HK1.out; have := HK2.out; have := HJ63.out; have := HK4.out; have := HK5.out; omega
                           case rel => exact ⟨(wrap64 (x12_5 + 1)), (y280), (.slice Ao110 y280.length co110), zz0, H', ⟨by have := HK1.out; have := HK2.out; have := HJ63.out; have := HK4.out; have := HK5.out; omega⟩, ⟨zzr (Kd.R_mono (Kd.R_far (p := ⟨gb270, 1, none⟩) (Kd.R_types HO_255001.out BK270.out (by decide)) (fun _ hk => hk.2) (.slice Ao110 y280.length co110)) (fun _ hk => trivial))⟩, ⟨zzr (Kd.R_mono (Kd.R_far (p := ⟨gb270, 1, none⟩) (Kd.R_mono HO_255002.out (fun k_ hk => (⟨hk, hk.1.2⟩ : _ ∧ k_ ≠ gb270))) (fun _ hk => hk.2) (.slice Ao110 y280.length co110)) (fun _ hk => ⟨hk.1.2, hk.1.1.2⟩))⟩, ⟨zzs (Kd.S_mono (Kd.S_far (p := ⟨gb270, 1, none⟩) (Kd.S_types HO282.out BK270.out (by decide)) (fun _ hk => hk.2) (.slice Ao110 y280.length co110)) (fun _ hk => trivial))⟩, ⟨by (with_reducible repeat (first | refine blk_drewN ?_ _ | refine blk_drew ?_ | refine blk_alloc ?_ _)); refine blk_far ?_ NB252_270.out _; exact zzb BK252⟩, ⟨by (with_reducible repeat (first | refine blk_drewN ?_ _ | refine blk_drew ?_ | refine blk_alloc ?_ _)); refine blk_far ?_ NB253_270.out _; exact zzb BK253⟩, ⟨by (with_reducible repeat (first | refine blk_drewN ?_ _ | refine blk_drew ?_ | refine blk_alloc ?_ _)); refine blk_far ?_ NB254_270.out _; exact zzb BK254⟩, ⟨by (with_reducible repeat (first | refine blk_drewN ?_ _ | refine blk_drew ?_ | refine blk_alloc ?_ _)); refine blk_put (cs := #[.int .i64 x9_2, u271001]) ?_ 1 _ rfl; exact zzb BK270⟩, ⟨zzq⟩⟩
                          ·rw [if_neg c94] at H
                           exact absurd H (by simp)
                         ·rw [if_neg c92] at H
                          exact absurd H (by simp)
                        ·rw [if_neg c91] at H; have c91b0 : decide (x12_5 < ((rd_L6 ((rd_T45 l0_1 x9_2).f1) x10_4).length : Int)) = false := decide_eq_false c91; clear c91
                         by_cases c112 : x255002_4.length < 4398046511104
                         ·rw [if_pos c112] at H; have LMc112 := Aside0.mk c112; clear c112; obtain ⟨y283, hy283⟩ : ∃ y_ : List (S51), y_ = (x255002_4 ++ [(⟨x9_2, x271001_5⟩ : S51)]) := ⟨_, rfl⟩
                          replace H : (templeref1_Build.l2 k5 x9_2 (wrap64 (x10_4 + 1)) l0_0 l0_1 t267 x255001_1 y283) = some (r1, r2, r3, r4, r5) := by first | (rw [hy283]; with_reducible exact H) | (have H2_ := (Option.bind_some _ _).symm.trans H; rw [hy283]; with_reducible exact H2_) | (have H2_ := (Option.bind_some _ _).symm.trans H; with_reducible exact H2_) | with_reducible exact H | (rw [hy283]; exact H) | exact H
                          have Ny283 := Aside0.mk hy283; clear hy283; have H' := Aside0.mk H; clear H; have hnb113 := NB252_253.out; have hnc113 := NB253_252.out; have hnb114 := NB252_254.out; have hnc114 := NB254_252.out; have hnb115 := NB252_270.out; have hnc115 := NB270_252.out
                          have hcz116_0 : wr.cell? ⟨gb252, 0, none⟩ = some (.slice (some ad266) l0_0.length c0_0) := (blk_cell BK252.out 0).trans rfl
                          have hcz116_1 : wr.cell? ⟨gb252, 1, none⟩ = some (.slice (some ad269) l0_1.length c0_1) := (blk_cell BK252.out 1).trans rfl
                          have hfz116_0 := blk_frozen BK252.out 0; have hfz116_1 := blk_frozen BK252.out 1
                          have p271 : 0 ≤ (x9_2 : Int) := of_decide_eq_true zz1
                          have q271 : x9_2 < (l0_1.length : Int) := of_decide_eq_true zz1
                          obtain ⟨ad271, A271_1, c271_1, e271, hx271_0, hx271_1, hl271_1, hi271_1⟩ := at_T45 HR0_1.out x9_2 p271 q271; obtain rfl : ad269 = ad271 := (by injection e271)
                          replace hx271_0 := (HB.out.cell (World.block_lt_of_cell? w _ hx271_0)).trans hx271_0
                          replace hx271_1 := (HB.out.cell (World.block_lt_of_cell? w _ hx271_1)).trans hx271_1
                          have HR271_1 := Aside0.mk hi271_1; have HC271_1 := Aside0.mk hl271_1; clear hi271_1 hl271_1; replace p271 := eq_true p271; replace q271 := eq_true q271
                          have p272 : 0 ≤ (x10_4 : Int) := of_decide_eq_true zz1
                          have q272 : x10_4 < (((rd_T45 l0_1 x9_2).f1).length : Int) := of_decide_eq_true zz1
                          obtain ⟨ad272, A272_0, c272_0, e272, hx272_0, hl272_0, hi272_0⟩ := at_L6 HR271_1.out x10_4 p272 q272; cases e272
                          replace hx272_0 := (HB.out.cell (World.block_lt_of_cell? w _ hx272_0)).trans hx272_0
                          have HR272_0 := Aside0.mk hi272_0; have HC272_0 := Aside0.mk hl272_0; clear hi272_0 hl272_0; replace p272 := eq_true p272; replace q272 := eq_true q272; have hnb117 := NB254_253.out; have hnc117 := NB253_254.out; have hnb118 := NB254_270.out; have hnc118 := NB270_254.out
                          have hcz119_0 : wr.cell? ⟨gb254, 0, none⟩ = some (.int .i64 t267) := (blk_cell BK254.out 0).trans rfl
                          have hcz119_1 : wr.cell? ⟨gb254, 1, none⟩ = some (.slice Ao58 x255001_1.length co58) := (blk_cell BK254.out 1).trans rfl
                          have hcz119_2 : wr.cell? ⟨gb254, 2, none⟩ = some (u255002) := (blk_cell BK254.out 2).trans rfl
                          have hfz119_0 := blk_frozen BK254.out 0; have hfz119_1 := blk_frozen BK254.out 1; have hfz119_2 := blk_frozen BK254.out 2; have hnb120 := NB270_253.out; have hnc120 := NB253_270.out
                          have hcz121_0 : wr.cell? ⟨gb270, 0, none⟩ = some (.int .i64 x9_2) := (blk_cell BK270.out 0).trans rfl
                          have hcz121_1 : wr.cell? ⟨gb270, 1, none⟩ = some (u271001) := (blk_cell BK270.out 1).trans rfl
                          have hfz121_0 := blk_frozen BK270.out 0; have hfz121_1 := blk_frozen BK270.out 1; obtain ⟨Ao123, co123, eo123⟩ := Kd.S_slice HO_271001.out; subst eo123
                          go_wp2_with (first | ((with_reducible refine gate_builtin (b := .append) (xs := #[.tmp 146, .tmp 148]) rfl ?_); (try (refine gate_guard (by rfl) ?_; dsimp only)); at_builtin; refine Kd.R_append k51 (w0 := w) w.heap.size rfl (.tmp 146) (.tmp 148) 26 51 (.agg #[(.int .i64 0), (.slice none 0 0)]) 32 rfl Try.underlying26 info51 rfl (by decide) (by omega) u255002 x255002_4 (⟨x9_2, x271001_5⟩ : S51) [.int .i64 x9_2, .slice Ao123 x271001_5.length co123] (fun k_ => k_ ≠ gb270) (fun k_ => ((fun k_ => k_ ≠ gb270)) k_ ∧ some k_ ≠ (u255002 : Value).ownBlock) rfl rfl ?aP (fun _ hk => hk) ?aF ?aO ?aB ?aS ?aL ?_; (case aP => exact k51_mkM _ _ _ (⟨x9_2, x271001_5⟩ : S51) (Kd.R_mono (Kd.R_types (Kd.R_apart' ((Kd.S_R HO_271001.out)) (Kd.R_typed HO_255002.out) (by decide)) BK270.out (by decide)) (fun k_ hk => ⟨hk.2, hk.1.2⟩))); (case aB => exact zzq); (case aF => exact (fun k_ hk => Kd.freshB (g := gb270) (o := .cells #[.int .i64 x9_2, .slice Ao123 x271001_5.length co123] 51 (0, 0)) (zzb BK270) k_ hk)); (case aO => exact (zzr (Kd.R_mono HO_255002.out (fun _ hk => hk.2)))); (case aS => exact (below_size zzq)); (case aL => have := LMc112.out; omega); intro v284 w122 ho hb hg hat; rw [← Ny283.out] at ho; have n0_ := Aside0.mk (Kd.R_over' (zzr HO_255001.out) (Kd.R_typed (zzr HO_255002.out)) (by decide) hg); have n1_ := Aside0.mk (blk_grown (g := gb252) (o := .cells #[.slice (some ad266) l0_0.length c0_0, .slice (some ad269) l0_1.length c0_1] 25 (0, 0)) (zzb BK252) hg (Kd.R_ne HO_255002.out BK252.out (by decide))); have n2_ := Aside0.mk (blk_grown (g := gb253) (o := .cells #[.int .i64 x254000_1, .slice none 0 0, .slice none 0 0] 28 (0, 0)) (zzb BK253) hg (Kd.R_ne HO_255002.out BK253.out (by decide))); have n3_ := Aside0.mk (blk_grown (g := gb254) (o := .cells #[.int .i64 t267, .slice Ao58 x255001_1.length co58, u255002] 28 (0, 0)) (zzb BK254) hg (Kd.R_ne HO_255002.out BK254.out (by decide))); have n4_ := Aside0.mk (blk_grown (g := gb270) (o := .cells #[.int .i64 x9_2, .slice Ao123 x271001_5.length co123] 51 (0, 0)) (zzb BK270) hg (Kd.R_away HO_255002.out (fun _ hk => hk.2))); have n5_ := Aside0.mk (hb); have n6_ := Aside0.mk (ho); clear HO_255001; clear BK252; clear BK253; clear BK254; clear BK270; clear HB; clear HO_255002; clear HO_271001; have HO_255001 := n0_; have BK252 := n1_; have BK253 := n2_; have BK254 := n3_; have BK270 := n4_; have HB := n5_; have HO285 := n6_; clear n0_ n1_ n2_ n3_ n4_ n5_ n6_; clear ho hb hg hat; obtain ⟨Ao124, co124, eo124⟩ := Kd.R_slice HO285.out; subst eo124; have hcz125_0 : w122.cell? ⟨gb254, 0, none⟩ = some (.int .i64 t267) := (blk_cell BK254.out 0).trans rfl; have hcz125_1 : w122.cell? ⟨gb254, 1, none⟩ = some (.slice Ao58 x255001_1.length co58) := (blk_cell BK254.out 1).trans rfl; have hcz125_2 : w122.cell? ⟨gb254, 2, none⟩ = some (u255002) := (blk_cell BK254.out 2).trans rfl; have hfz125_0 := blk_frozen BK254.out 0; have hfz125_1 := blk_frozen BK254.out 1; have hfz125_2 := blk_frozen BK254.out 2))
                          go_roundg k5
                          case measure => have := HK1.out; have := HK2.out; have := HJ63.out; have := HK4.out; have := HK5.out; omega
                          case rel => exact ⟨(wrap64 (x10_4 + 1)), (y283), (.slice Ao124 y283.length co124), zz0, H', ⟨by have := HK1.out; have := HK2.out; have := HJ63.out; have := HK4.out; have := HK5.out; omega⟩, ⟨zzr (Kd.R_mono (Kd.R_far (p := ⟨gb254, 2, none⟩) (Kd.R_types HO_255001.out BK254.out (by decide)) (fun _ hk => hk.2) (.slice Ao124 y283.length co124)) (fun _ hk => trivial))⟩, ⟨zzr (Kd.R_mono (Kd.R_far (p := ⟨gb254, 2, none⟩) (Kd.R_types HO285.out BK254.out (by decide)) (fun _ hk => hk.2) (.slice Ao124 y283.length co124)) (fun _ hk => trivial))⟩, ⟨by (with_reducible repeat (first | refine blk_drewN ?_ _ | refine blk_drew ?_ | refine blk_alloc ?_ _)); refine blk_far ?_ NB252_254.out _; exact zzb BK252⟩, ⟨by (with_reducible repeat (first | refine blk_drewN ?_ _ | refine blk_drew ?_ | refine blk_alloc ?_ _)); refine blk_far ?_ NB253_254.out _; exact zzb BK253⟩, ⟨by (with_reducible repeat (first | refine blk_drewN ?_ _ | refine blk_drew ?_ | refine blk_alloc ?_ _)); refine blk_put (cs := #[.int .i64 t267, .slice Ao58 x255001_1.length co58, u255002]) ?_ 2 _ rfl; exact zzb BK254⟩, ⟨zzq⟩⟩
                         ·rw [if_neg c112] at H
                          exact absurd H (by simp)
                       ·rw [if_neg c90] at H
                        exact absurd H (by simp)
                      ·rw [if_neg c89] at H
                       exact absurd H (by simp)
                     ·rw [if_neg c88] at H
                      exact absurd H (by simp)
                    ·rw [if_neg c87] at H
                     exact absurd H (by simp)
                 ·rw [if_neg c78] at H; have c78b0 : decide (x10_4 < (((rd_T45 l0_1 x9_2).f1).length : Int)) = false := decide_eq_false c78; clear c78; have H' := Aside0.mk H; clear H; have hnb126 := NB252_253.out; have hnc126 := NB253_252.out; have hnb127 := NB252_254.out; have hnc127 := NB254_252.out
                  have hcz128_0 : wr.cell? ⟨gb252, 0, none⟩ = some (.slice (some ad266) l0_0.length c0_0) := (blk_cell BK252.out 0).trans rfl
                  have hcz128_1 : wr.cell? ⟨gb252, 1, none⟩ = some (.slice A0_1 l0_1.length c0_1) := (blk_cell BK252.out 1).trans rfl
                  have hfz128_0 := blk_frozen BK252.out 0; have hfz128_1 := blk_frozen BK252.out 1
                  have p269 : 0 ≤ (x9_2 : Int) := of_decide_eq_true zz1
                  have q269 : x9_2 < (l0_1.length : Int) := of_decide_eq_true zz1
                  obtain ⟨ad269, A269_1, c269_1, e269, hx269_0, hx269_1, hl269_1, hi269_1⟩ := at_T45 HR0_1.out x9_2 p269 q269; cases e269
                  replace hx269_0 := (HB.out.cell (World.block_lt_of_cell? w _ hx269_0)).trans hx269_0
                  replace hx269_1 := (HB.out.cell (World.block_lt_of_cell? w _ hx269_1)).trans hx269_1
                  have HR269_1 := Aside0.mk hi269_1; have HC269_1 := Aside0.mk hl269_1; clear hi269_1 hl269_1; replace p269 := eq_true p269; replace q269 := eq_true q269; go_wp2; go_roundg k4
                  case measure => have := HK1.out; have := HK2.out; have := HJ63.out; have := HK4.out; omega
                  case rel => exact ⟨(wrap64 (x9_2 + 1)), (x255002_4), (u255002), zz0, H', ⟨by have := HK1.out; have := HK2.out; have := HJ63.out; have := HK4.out; omega⟩, ⟨zzr HO_255001.out⟩, ⟨zzr HO_255002.out⟩, ⟨zzb BK252⟩, ⟨zzb BK253⟩, ⟨zzb BK254⟩, ⟨zzq⟩⟩
                ·rw [if_neg c77] at H
                 exact absurd H (by simp)
               ·rw [if_neg c76] at H
                exact absurd H (by simp)
            ·replace c75 := Bool.eq_false_iff.mpr c75
             subst c75; have H1 := H
             rw [if_neg (show ¬ (false = true) by decide)] at H1
             clear H; have H := H1; clear H1; replace H := Option.bind_eq_some_iff.mp H; obtain ⟨t268, A1290, H⟩ := H
             replace H : (if t268 = true then (some (t267, x255001_1, x255002_2, (⟨#[]⟩ : ByteArray), 0)) else (some (0, ([] : List ByteArray), ([] : List (S51)), (⟨#[]⟩ : ByteArray), 404))) = some (r1, r2, r3, r4, r5) := H
             have A129 := Aside0.mk A1290; clear A1290
             by_cases c130 : t268 = true
             ·subst c130
              have H1 : (some (t267, x255001_1, x255002_2, (⟨#[]⟩ : ByteArray), 0)) = some (r1, r2, r3, r4, r5) := by rw [if_pos rfl] at H; exact H
              clear H; have H := H1; clear H1
              simp only [Option.some.injEq, Prod.mk.injEq] at H
              obtain ⟨rfl, rfl, rfl, rfl, rfl⟩ := H; have hnb131 := NB254_252.out; have hnc131 := NB252_254.out; have hnb132 := NB254_253.out; have hnc132 := NB253_254.out
              have hcz133_0 : wc.cell? ⟨gb254, 0, none⟩ = some (.int .i64 t267) := (blk_cell BK254.out 0).trans rfl
              have hcz133_1 : wc.cell? ⟨gb254, 1, none⟩ = some (.slice Ao58 x255001_1.length co58) := (blk_cell BK254.out 1).trans rfl
              have hcz133_2 : wc.cell? ⟨gb254, 2, none⟩ = some (u255002) := (blk_cell BK254.out 2).trans rfl
              have hfz133_0 := blk_frozen BK254.out 0; have hfz133_1 := blk_frozen BK254.out 1; have hfz133_2 := blk_frozen BK254.out 2; obtain ⟨Ao134, co134, eo134⟩ := Kd.R_slice HO_255002.out; subst eo134
              go_wp2_with (first | ((with_reducible refine gate_callee (f := 18) rfl ?_); refine goesL_ (some 152) rfl rfl Try.func18 (by kernel_rfl) rfl #[.agg #[.int .i64 t267, .slice Ao58 x255001_1.length co58, .slice Ao134 x255002_2.length co134]] rfl zz2 ?_; (with_reducible refine (templeref1_May.calls kj63 t267 _ _ x255001_1 _ _ x255002_2 true _ ?side1 ?side2 ?side3 ?side4 A129.out).mono ?_); (case side1 => exact zzc (Kd.R_reads' HO_255001.out).2.2); (case side2 => exact (Kd.R_reads' HO_255001.out).2.1); (case side3 => exact zzc (Kd.R_reads' HO_255002.out).2.2); (case side4 => exact (Kd.R_reads' HO_255002.out).2.1); rintro e w135 ⟨rfl, hb⟩; refine ⟨_, rfl, ?_⟩; have n0_ := Aside0.mk (Kd.R_below (zzr HO_255001.out) hb); have n1_ := Aside0.mk (Kd.R_below (zzr HO_255002.out) hb); have n2_ := Aside0.mk (blk_below (g := gb252) (o := .cells #[.slice (some ad266) l0_0.length c0_0, .slice A0_1 l0_1.length c0_1] 25 (0, 0)) (zzb BK252) hb); have n3_ := Aside0.mk (blk_below (g := gb253) (o := .cells #[.int .i64 x254000_1, .slice none 0 0, .slice none 0 0] 28 (0, 0)) (zzb BK253) hb); have n4_ := Aside0.mk (blk_below (g := gb254) (o := .cells #[.int .i64 t267, .slice Ao58 x255001_1.length co58, .slice Ao134 x255002_2.length co134] 28 (0, 0)) (zzb BK254) hb); have n5_ := Aside0.mk (below_step zzq hb); clear HO_255001; clear HO_255002; clear BK252; clear BK253; clear BK254; clear HB; have HO_255001 := n0_; have HO_255002 := n1_; have BK252 := n2_; have BK253 := n3_; have BK254 := n4_; have HB := n5_; clear n0_ n1_ n2_ n3_ n4_ n5_; (try clear hb); have hcz136_0 : w135.cell? ⟨gb254, 0, none⟩ = some (.int .i64 t267) := (blk_cell BK254.out 0).trans rfl; have hcz136_1 : w135.cell? ⟨gb254, 1, none⟩ = some (.slice Ao58 x255001_1.length co58) := (blk_cell BK254.out 1).trans rfl; have hcz136_2 : w135.cell? ⟨gb254, 2, none⟩ = some (.slice Ao134 x255002_2.length co134) := (blk_cell BK254.out 2).trans rfl; have hfz136_0 := blk_frozen BK254.out 0; have hfz136_1 := blk_frozen BK254.out 1; have hfz136_2 := blk_frozen BK254.out 2; have hnb137 := NB253_252.out; have hnc137 := NB252_253.out; have hcz138_0 : w135.cell? ⟨gb253, 0, none⟩ = some (.int .i64 x254000_1) := (blk_cell BK253.out 0).trans rfl; have hcz138_1 : w135.cell? ⟨gb253, 1, none⟩ = some (.slice none 0 0) := (blk_cell BK253.out 1).trans rfl; have hcz138_2 : w135.cell? ⟨gb253, 2, none⟩ = some (.slice none 0 0) := (blk_cell BK253.out 2).trans rfl; have hfz138_0 := blk_frozen BK253.out 0; have hfz138_1 := blk_frozen BK253.out 1; have hfz138_2 := blk_frozen BK253.out 2))
              refine bodyPost_ret (results_ctt rfl _ _ gb253 28 #[.int .i64 t267, .slice Ao58 x255001_1.length co58, .slice Ao134 x255002_2.length co134] (0, 0) _ rfl (by (with_reducible repeat (first | refine blk_drewN ?_ _ | refine blk_drew ?_ | refine blk_alloc ?_ _)); refine blk_put (cs := #[.int .i64 t267, .slice Ao58 x255001_1.length co58, .slice none 0 0]) ?_ 2 _ rfl; (with_reducible repeat (first | refine blk_drewN ?_ _ | refine blk_drew ?_ | refine blk_alloc ?_ _)); refine blk_put (cs := #[.int .i64 t267, .slice none 0 0, .slice none 0 0]) ?_ 1 _ rfl; (with_reducible repeat (first | refine blk_drewN ?_ _ | refine blk_drew ?_ | refine blk_alloc ?_ _)); refine blk_put (cs := #[.int .i64 x254000_1, .slice none 0 0, .slice none 0 0]) ?_ 0 _ rfl; exact zzb BK253) Try.underlying28 rfl (by kernel_rfl)) rfl ?_
              exact ⟨_, _, by first | rfl | (simp [errW_none, errW_some] <;> rfl) | (simp [*, errW_none, errW_some] <;> rfl), zzr (Kd.R_mono (Kd.R_far (p := ⟨gb253, 2, none⟩) (Kd.R_far (p := ⟨gb253, 1, none⟩) (Kd.R_far (p := ⟨gb253, 0, none⟩) (Kd.R_types HO_255001.out BK253.out (by decide)) (fun _ hk => hk.2) (.int .i64 t267)) (fun _ hk => hk.2) (.slice Ao58 x255001_1.length co58)) (fun _ hk => hk.2) (.slice Ao134 x255002_2.length co134)) (fun _ hk => trivial)), zzr (Kd.R_mono (Kd.R_far (p := ⟨gb253, 2, none⟩) (Kd.R_far (p := ⟨gb253, 1, none⟩) (Kd.R_far (p := ⟨gb253, 0, none⟩) (Kd.R_types HO_255002.out BK253.out (by decide)) (fun _ hk => hk.2) (.int .i64 t267)) (fun _ hk => hk.2) (.slice Ao58 x255001_1.length co58)) (fun _ hk => hk.2) (.slice Ao134 x255002_2.length co134)) (fun _ hk => trivial)), zzq⟩
             ·replace c130 := Bool.eq_false_iff.mpr c130
              subst c130
              have H1 : (some (0, ([] : List ByteArray), ([] : List (S51)), (⟨#[]⟩ : ByteArray), 404)) = some (r1, r2, r3, r4, r5) := by rw [if_neg (show ¬ (false = true) by decide)] at H; exact H
              clear H; have H := H1; clear H1
              simp only [Option.some.injEq, Prod.mk.injEq] at H
              obtain ⟨rfl, rfl, rfl, rfl, rfl⟩ := H; have hnb139 := NB254_252.out; have hnc139 := NB252_254.out; have hnb140 := NB254_253.out; have hnc140 := NB253_254.out
              have hcz141_0 : wc.cell? ⟨gb254, 0, none⟩ = some (.int .i64 t267) := (blk_cell BK254.out 0).trans rfl
              have hcz141_1 : wc.cell? ⟨gb254, 1, none⟩ = some (.slice Ao58 x255001_1.length co58) := (blk_cell BK254.out 1).trans rfl
              have hcz141_2 : wc.cell? ⟨gb254, 2, none⟩ = some (u255002) := (blk_cell BK254.out 2).trans rfl
              have hfz141_0 := blk_frozen BK254.out 0; have hfz141_1 := blk_frozen BK254.out 1; have hfz141_2 := blk_frozen BK254.out 2; obtain ⟨Ao142, co142, eo142⟩ := Kd.R_slice HO_255002.out; subst eo142
              go_wp2_with (first | ((with_reducible refine gate_callee (f := 18) rfl ?_); refine goesL_ (some 152) rfl rfl Try.func18 (by kernel_rfl) rfl #[.agg #[.int .i64 t267, .slice Ao58 x255001_1.length co58, .slice Ao142 x255002_2.length co142]] rfl zz2 ?_; (with_reducible refine (templeref1_May.calls kj63 t267 _ _ x255001_1 _ _ x255002_2 false _ ?side1 ?side2 ?side3 ?side4 A129.out).mono ?_); (case side1 => exact zzc (Kd.R_reads' HO_255001.out).2.2); (case side2 => exact (Kd.R_reads' HO_255001.out).2.1); (case side3 => exact zzc (Kd.R_reads' HO_255002.out).2.2); (case side4 => exact (Kd.R_reads' HO_255002.out).2.1); rintro e w143 ⟨rfl, hb⟩; refine ⟨_, rfl, ?_⟩; have n0_ := Aside0.mk (Kd.R_below (zzr HO_255001.out) hb); have n1_ := Aside0.mk (Kd.R_below (zzr HO_255002.out) hb); have n2_ := Aside0.mk (blk_below (g := gb252) (o := .cells #[.slice (some ad266) l0_0.length c0_0, .slice A0_1 l0_1.length c0_1] 25 (0, 0)) (zzb BK252) hb); have n3_ := Aside0.mk (blk_below (g := gb253) (o := .cells #[.int .i64 x254000_1, .slice none 0 0, .slice none 0 0] 28 (0, 0)) (zzb BK253) hb); have n4_ := Aside0.mk (blk_below (g := gb254) (o := .cells #[.int .i64 t267, .slice Ao58 x255001_1.length co58, .slice Ao142 x255002_2.length co142] 28 (0, 0)) (zzb BK254) hb); have n5_ := Aside0.mk (below_step zzq hb); clear HO_255001; clear HO_255002; clear BK252; clear BK253; clear BK254; clear HB; have HO_255001 := n0_; have HO_255002 := n1_; have BK252 := n2_; have BK253 := n3_; have BK254 := n4_; have HB := n5_; clear n0_ n1_ n2_ n3_ n4_ n5_; (try clear hb); have hnb144 := NB253_252.out; have hnc144 := NB252_253.out; have hcz145_0 : w143.cell? ⟨gb253, 0, none⟩ = some (.int .i64 x254000_1) := (blk_cell BK253.out 0).trans rfl; have hcz145_1 : w143.cell? ⟨gb253, 1, none⟩ = some (.slice none 0 0) := (blk_cell BK253.out 1).trans rfl; have hcz145_2 : w143.cell? ⟨gb253, 2, none⟩ = some (.slice none 0 0) := (blk_cell BK253.out 2).trans rfl; have hfz145_0 := blk_frozen BK253.out 0; have hfz145_1 := blk_frozen BK253.out 1; have hfz145_2 := blk_frozen BK253.out 2))
              refine bodyPost_ret (results_ctt rfl _ _ gb253 28 #[.int .i64 0, .slice none 0 0, .slice none 0 0] (0, 0) _ rfl (by (with_reducible repeat (first | refine blk_drewN ?_ _ | refine blk_drew ?_ | refine blk_alloc ?_ _)); refine blk_put (cs := #[.int .i64 0, .slice none 0 0, .slice none 0 0]) ?_ 2 _ rfl; (with_reducible repeat (first | refine blk_drewN ?_ _ | refine blk_drew ?_ | refine blk_alloc ?_ _)); refine blk_put (cs := #[.int .i64 0, .slice none 0 0, .slice none 0 0]) ?_ 1 _ rfl; (with_reducible repeat (first | refine blk_drewN ?_ _ | refine blk_drew ?_ | refine blk_alloc ?_ _)); refine blk_put (cs := #[.int .i64 x254000_1, .slice none 0 0, .slice none 0 0]) ?_ 0 _ rfl; exact zzb BK253) Try.underlying28 rfl (by kernel_rfl)) rfl ?_
              exact ⟨_, _, by first | rfl | (simp [errW_none, errW_some] <;> rfl) | (simp [*, errW_none, errW_some] <;> rfl), by first | exact Kd.R_nil _ _ _ _ _ | exact Kd.N_nil _ _ _ _ _ | exact Kd.V_nil _ _ _ _ _ | exact Kd.Q_nil _ _ _ _ _ | exact Kd.S_nil _ _ _ _ _, by first | exact Kd.R_nil _ _ _ _ _ | exact Kd.N_nil _ _ _ _ _ | exact Kd.V_nil _ _ _ _ _ | exact Kd.Q_nil _ _ _ _ _ | exact Kd.S_nil _ _ _ _ _, zzq⟩
       ·rw [if_neg c51] at H
        exact absurd H (by simp)
    ·rw [if_neg c28] at H; have c28b0 : ((l0_0.length : Int) == 1) = false := beq_eq_false_iff_ne.mpr c28; have c28b1 : ((l0_0.length : Int) != 1) = true := bne_iff_ne.mpr c28
     simp only [Option.some.injEq, Prod.mk.injEq] at H
     obtain ⟨rfl, rfl, rfl, rfl, rfl⟩ := H; have hnb146 := NB252_253.out; have hnc146 := NB253_252.out; have hnb147 := NB252_254.out; have hnc147 := NB254_252.out
     have hcz148_0 : wr.cell? ⟨gb252, 0, none⟩ = some (.slice A0_0 l0_0.length c0_0) := (blk_cell BK252.out 0).trans rfl
     have hcz148_1 : wr.cell? ⟨gb252, 1, none⟩ = some (.slice A0_1 l0_1.length c0_1) := (blk_cell BK252.out 1).trans rfl
     have hfz148_0 := blk_frozen BK252.out 0; have hfz148_1 := blk_frozen BK252.out 1; have hnb149 := NB253_254.out; have hnc149 := NB254_253.out
     have hcz150_0 : wr.cell? ⟨gb253, 0, none⟩ = some (.int .i64 x254000_1) := (blk_cell BK253.out 0).trans rfl
     have hcz150_1 : wr.cell? ⟨gb253, 1, none⟩ = some (.slice none 0 0) := (blk_cell BK253.out 1).trans rfl
     have hcz150_2 : wr.cell? ⟨gb253, 2, none⟩ = some (.slice none 0 0) := (blk_cell BK253.out 2).trans rfl
     have hfz150_0 := blk_frozen BK253.out 0; have hfz150_1 := blk_frozen BK253.out 1; have hfz150_2 := blk_frozen BK253.out 2; go_wp2
     refine bodyPost_ret (results_ctt rfl _ _ gb253 28 #[.int .i64 0, .slice none 0 0, .slice none 0 0] (0, 0) _ rfl (by (with_reducible repeat (first | refine blk_drewN ?_ _ | refine blk_drew ?_ | refine blk_alloc ?_ _)); refine blk_put (cs := #[.int .i64 0, .slice none 0 0, .slice none 0 0]) ?_ 2 _ rfl; (with_reducible repeat (first | refine blk_drewN ?_ _ | refine blk_drew ?_ | refine blk_alloc ?_ _)); refine blk_put (cs := #[.int .i64 0, .slice none 0 0, .slice none 0 0]) ?_ 1 _ rfl; (with_reducible repeat (first | refine blk_drewN ?_ _ | refine blk_drew ?_ | refine blk_alloc ?_ _)); refine blk_put (cs := #[.int .i64 x254000_1, .slice none 0 0, .slice none 0 0]) ?_ 0 _ rfl; exact zzb BK253) Try.underlying28 rfl (by kernel_rfl)) rfl ?_
     exact ⟨_, _, by first | rfl | (simp [errW_none, errW_some] <;> rfl) | (simp [*, errW_none, errW_some] <;> rfl), by first | exact Kd.R_nil _ _ _ _ _ | exact Kd.N_nil _ _ _ _ _ | exact Kd.V_nil _ _ _ _ _ | exact Kd.Q_nil _ _ _ _ _ | exact Kd.S_nil _ _ _ _ _, by first | exact Kd.R_nil _ _ _ _ _ | exact Kd.N_nil _ _ _ _ _ | exact Kd.V_nil _ _ _ _ _ | exact Kd.Q_nil _ _ _ _ _ | exact Kd.S_nil _ _ _ _ _, zzq⟩

end Go.Proofs.Ytdjnpgigdchfkaa.PBS
