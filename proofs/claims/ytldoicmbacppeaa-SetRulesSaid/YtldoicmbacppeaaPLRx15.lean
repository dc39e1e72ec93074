-- written by a program of the session's (wip/myprint.py) out of the translation
import Derived.Test.YtldoicmbacppeaaPLRx0
import Derived.Test.YtldoicmbacppeaaPLRx1
import Derived.Test.YtldoicmbacppeaaPLRx3
import Derived.Test.YtldoicmbacppeaaPLRx4
import Derived.Test.YtldoicmbacppeaaPLRx6
import Derived.Test.YtldoicmbacppeaaPLRx7
import Derived.Test.YtldoicmbacppeaaPLRx8
import Derived.Test.YtldoicmbacppeaaPLRx9
import Derived.Test.YtldoicmbacppeaaPLRx11
import Derived.Test.YtldoicmbacppeaaPLRx13
namespace Go.Proofs.Ytldoicmbacppeaa.PLR
open Go.RowKit Go.Proofs.YtldoicmbacppeaaW.PrintWords Go.Proofs.YtldoicmbacppeaaW.PrintLast Go.Proofs.YtldoicmbacppeaaW.PrintMore
attribute [local go_sem] max2_int min2_int max_two min_two max_three min_three max_four min_four   -- for this text's walks alone
set_option linter.unusedVariables false
set_option linter.unusedSimpArgs false

attribute [local go_sem high] eqA24
/-! ### templelaw1_SetRules: function 4 -/
def templelaw1_SetRules.l0 : Nat → List (S40) → Int → Int → Int → Int → Int → Int → Int → Int → Int → Option (Bool)
 | 0, _, _, _, _, _, _, _, _, _, _ => none
 | k + 1, x8, x9, x164000, x164001, x164002, x164003, x205000, x205001, x205002, x205003 => if x9 < (x8.length : Int) then (if 0 ≤ x9 then ((byteset_Range.f ((rd_T40 x8 x9).f0) ((rd_T40 x8 x9).f1)).bind fun bt210 => ((templelaw0_Num.f bt210.2.2.2.2).bind fun t216 => (if t216 = 0 then (if x9 > 0 then (if 0 ≤ (wrap64 (x9 - 1)) then (if (wrap64 (x9 - 1)) < (x8.length : Int) then (if ((rd_T40 x8 x9).f0) ≤ (wrap64 (((rd_T40 x8 (wrap64 (x9 - 1))).f1) + 1)) then (none) else ((byteset_Or.f x205000 x205001 x205002 x205003 bt210.1 bt210.2.1 bt210.2.2.1 bt210.2.2.2.1).bind fun bt219 => (templelaw1_SetRules.l0 k x8 (wrap64 (x9 + 1)) x164000 x164001 x164002 x164003 bt219.1 bt219.2.1 bt219.2.2.1 bt219.2.2.2))) else (none)) else (none)) else ((byteset_Or.f x205000 x205001 x205002 x205003 bt210.1 bt210.2.1 bt210.2.2.1 bt210.2.2.2.1).bind fun bt223 => (templelaw1_SetRules.l0 k x8 (wrap64 (x9 + 1)) x164000 x164001 x164002 x164003 bt223.1 bt223.2.1 bt223.2.2.1 bt223.2.2.2))) else (none)))) else (none)) else (some (x205000 == x164000 && (x205001 == x164001 && (x205002 == x164002 && (x205003 == x164003)))))
def templelaw1_SetRules.f (k : Nat) (a0_0 : Int) (a0_1 : Int) (a0_2 : Int) (a0_3 : Int) (a1_0 : Int) (a1_1 : Int) (a1_2 : Int) (a1_3 : Int) : Option (Bool) := (templelaw1_awake.f k).bind fun t165 => (if t165 = true then ((byteset_Or.f a0_0 a0_1 a0_2 a0_3 a1_0 a1_1 a1_2 a1_3).bind fun bt166 => ((byteset_And.f a0_0 a0_1 a0_2 a0_3 a1_0 a1_1 a1_2 a1_3).bind fun bt170 => ((byteset_Count.f bt166.1 bt166.2.1 bt166.2.2.1 bt166.2.2.2).bind fun t176 => ((byteset_Count.f bt170.1 bt170.2.1 bt170.2.2.1 bt170.2.2.2).bind fun t177 => ((byteset_Count.f a0_0 a0_1 a0_2 a0_3).bind fun t178 => ((byteset_Count.f a1_0 a1_1 a1_2 a1_3).bind fun t179 => (if (wrap64 (t176 + t177)) = (wrap64 (t178 + t179)) then ((byteset_Minus.f bt166.1 bt166.2.1 bt166.2.2.1 bt166.2.2.2 a1_0 a1_1 a1_2 a1_3).bind fun bt180 => ((byteset_Minus.f a0_0 a0_1 a0_2 a0_3 a1_0 a1_1 a1_2 a1_3).bind fun bt184 => (if (!(bt180.1 == bt184.1) || (!(bt180.2.1 == bt184.2.1) || (!(bt180.2.2.1 == bt184.2.2.1) || (!(bt180.2.2.2 == bt184.2.2.2))))) = true then (none) else ((byteset_Minus.f a0_0 a0_1 a0_2 a0_3 a1_0 a1_1 a1_2 a1_3).bind fun bt188 => ((byteset_Or.f bt170.1 bt170.2.1 bt170.2.2.1 bt170.2.2.2 bt188.1 bt188.2.1 bt188.2.2.1 bt188.2.2.2).bind fun bt192 => (if (!(bt192.1 == a0_0) || (!(bt192.2.1 == a0_1) || (!(bt192.2.2.1 == a0_2) || (!(bt192.2.2.2 == a0_3))))) = true then (none) else ((byteset_Minus.f a0_0 a0_1 a0_2 a0_3 a1_0 a1_1 a1_2 a1_3).bind fun bt196 => ((byteset_And.f bt196.1 bt196.2.1 bt196.2.2.1 bt196.2.2.2 a1_0 a1_1 a1_2 a1_3).bind fun bt200 => (if (!(bt200.1 == 0) || (!(bt200.2.1 == 0) || (!(bt200.2.2.1 == 0) || (!(bt200.2.2.2 == 0))))) = true then (none) else ((byteset_Ranges.f k a0_0 a0_1 a0_2 a0_3).bind fun t205 => (templelaw1_SetRules.l0 k t205 0 a0_0 a0_1 a0_2 a0_3 0 0 0 0))))))))))) else (none)))))))) else (none))
theorem templelaw1_SetRules.mono_l : ∀ k, (∀ y0 y1 y2 y3 y4 y5 y6 y7 y8 y9, LeO (templelaw1_SetRules.l0 k y0 y1 y2 y3 y4 y5 y6 y7 y8 y9) (templelaw1_SetRules.l0 (k + 1) y0 y1 y2 y3 y4 y5 y6 y7 y8 y9))
 | 0 => fun _ _ _ _ _ _ _ _ _ _ r h => by simp [templelaw1_SetRules.l0] at h
 | k + 1 => by
  have ih0 := templelaw1_SetRules.mono_l k
  ·intro y0 y1 y2 y3 y4 y5 y6 y7 y8 y9
   unfold templelaw1_SetRules.l0
   repeat' first
   | (with_reducible exact ih0 _ _ _ _ _ _ _ _ _ _)
   | (with_reducible exact byteset_Ranges.mono _ _ _ _ _)
   | (with_reducible exact templelaw1_awake.mono _)
   | (with_reducible exact LeO.refl _)
   | (with_reducible exact LeO.none _)
   | (with_reducible refine LeO.ite ?_ ?_)
   | (with_reducible refine LeO.bind ?_ (fun _ => ?_))
   | exact ih0 _ _ _ _ _ _ _ _ _ _
   | exact byteset_Ranges.mono _ _ _ _ _
   | exact templelaw1_awake.mono _
   | exact LeO.none _
   | refine LeO.ite ?_ ?_
   | refine LeO.bind ?_ (fun _ => ?_)
theorem templelaw1_SetRules.mono : ∀ a0 a1 a2 a3 a4 a5 a6 a7 k, LeO (templelaw1_SetRules.f k a0 a1 a2 a3 a4 a5 a6 a7) (templelaw1_SetRules.f (k + 1) a0 a1 a2 a3 a4 a5 a6 a7) := by
 intro a0 a1 a2 a3 a4 a5 a6 a7 k
 have ih0 := templelaw1_SetRules.mono_l k
 unfold templelaw1_SetRules.f
 repeat' first
   | (with_reducible exact ih0 _ _ _ _ _ _ _ _ _ _)
   | (with_reducible exact byteset_Ranges.mono _ _ _ _ _)
   | (with_reducible exact templelaw1_awake.mono _)
   | (with_reducible exact LeO.refl _)
   | (with_reducible exact LeO.none _)
   | (with_reducible refine LeO.ite ?_ ?_)
   | (with_reducible refine LeO.bind ?_ (fun _ => ?_))
   | exact ih0 _ _ _ _ _ _ _ _ _ _
   | exact byteset_Ranges.mono _ _ _ _ _
   | exact templelaw1_awake.mono _
   | exact LeO.none _
   | refine LeO.ite ?_ ?_
   | refine LeO.bind ?_ (fun _ => ?_)
def templelaw1_SetRules.T3 : Bool × List (List Nat × List Nat) := (true, [([], []), ([], []), ([0, 1], [0, 1]), ([], []), ([], []), ([3, 4, 2], [3, 4]), ([], []), ([], []), ([6, 2, 5, 0, 1, 2, 6, 7], [2, 6]), ([7, 5, 8, 0, 1, 2, 3, 4, 5, 6, 7, 8], [5, 7])])
def templelaw1_SetRules.B3 : List Nat := [0, 0, 3, 0, 0, 31, 0, 0, 255, 511]
theorem templelaw1_SetRules.tab3 : rtab .any (opsOf Try.f4 3) = templelaw1_SetRules.T3 := by kernel_rfl
theorem templelaw1_SetRules.bits3 : waitsOk templelaw1_SetRules.T3.2 templelaw1_SetRules.B3 = true := by kernel_rfl
def templelaw1_SetRules.T4 : Bool × List (List Nat × List Nat) := (true, [([], []), ([0], [0]), ([], []), ([2, 1], [2]), ([1, 3], [1, 3]), ([], []), ([5, 3], [5]), ([], []), ([7, 6], [7]), ([6, 8], [6, 8]), ([4, 9], [4, 9]), ([10, 8], [10]), ([11], [11]), ([11], [11]), ([12, 13, 11, 11], [11, 12, 13]), ([11], [11]), ([11], [11]), ([15, 16, 14, 11], [11, 15, 16]), ([14, 17, 11], [11, 14, 17]), ([11, 18], [11, 18]), ([19, 17], [19]), ([20], [20]), ([20], [20]), ([20], [20]), ([22, 23, 20, 20], [20, 22, 23]), ([21, 24, 24, 20], [20, 21, 24]), ([20], [20]), ([25, 26, 20], [20, 25, 26]), ([20, 27], [20, 27]), ([28, 25], [28]), ([29], [29]), ([29], [29]), ([30, 31, 29, 29], [29, 30, 31]), ([29], [29]), ([32, 33, 32, 29], [29, 32, 33]), ([29], [29]), ([34, 35, 29], [29, 34, 35]), ([29, 36], [29, 36])])
def templelaw1_SetRules.B4 : List Nat := [0, 1, 0, 7, 15, 0, 47, 0, 239, 495, 1023, 2047, 4095, 4095, 16383, 4095, 4095, 131071, 262143, 524287, 1048575, 2097151, 2097151, 2097151, 14680063, 33554431, 2097151, 134217727, 268435455, 536870911, 1073741823, 1073741823, 4294967295, 1073741823, 17179869183, 1073741823, 68719476735, 137438953471]
theorem templelaw1_SetRules.tab4 : rtab .any (opsOf Try.f4 4) = templelaw1_SetRules.T4 := by kernel_rfl
theorem templelaw1_SetRules.bits4 : waitsOk templelaw1_SetRules.T4.2 templelaw1_SetRules.B4 = true := by kernel_rfl
def templelaw1_SetRules.T11 : Bool × List (List Nat × List Nat) := (true, [([], []), ([], []), ([0, 1], [0, 1]), ([2], [2]), ([3], [3]), ([], []), ([], []), ([5, 6], [5, 6]), ([7], [7]), ([8], [8]), ([4, 9], [4, 9]), ([10], [10]), ([11], [11]), ([11], [11]), ([], []), ([14, 12, 10, 0, 1, 2, 3, 4, 5, 6, 7, 8, 9, 10, 11, 12, 14], [12, 14]), ([13, 15, 0, 1, 2, 3, 4, 5, 6, 7, 8, 9, 10, 11, 12, 13, 14, 15], [13])])
def templelaw1_SetRules.B11 : List Nat := [0, 0, 3, 7, 15, 0, 0, 96, 224, 480, 1023, 2047, 4095, 4095, 0, 24575, 65535]
theorem templelaw1_SetRules.tab11 : rtab .any (opsOf Try.f4 11) = templelaw1_SetRules.T11 := by kernel_rfl
theorem templelaw1_SetRules.bits11 : waitsOk templelaw1_SetRules.T11.2 templelaw1_SetRules.B11 = true := by kernel_rfl
def templelaw1_SetRules.T12 : Bool × List (List Nat × List Nat) := (true, [([], []), ([0], [0]), ([1], [1]), ([2, 1], [2]), ([3], [3]), ([4, 3], [3, 4]), ([5, 3, 3], [3, 5]), ([6], [6]), ([6], [6]), ([7, 8, 6], [6, 7, 8]), ([9, 6], [6, 9]), ([10, 6], [6, 10]), ([6], [6]), ([6], [6]), ([13, 6], [6, 13]), ([12, 14, 6], [6, 12, 14]), ([15, 6], [6, 15]), ([16, 6], [6, 16]), ([17, 6], [6, 17]), ([11, 18, 6], [6, 11, 18]), ([6, 19, 3], [3, 6, 19]), ([3, 20], [3, 20])])
def templelaw1_SetRules.B12 : List Nat := [0, 1, 3, 7, 15, 31, 63, 127, 127, 511, 1023, 2047, 127, 127, 8319, 28799, 61567, 127103, 258175, 524287, 1048575, 2097151]
theorem templelaw1_SetRules.tab12 : rtab .any (opsOf Try.f4 12) = templelaw1_SetRules.T12 := by kernel_rfl
theorem templelaw1_SetRules.bits12 : waitsOk templelaw1_SetRules.T12.2 templelaw1_SetRules.B12 = true := by kernel_rfl
end Go.Proofs.Ytldoicmbacppeaa.PLR
