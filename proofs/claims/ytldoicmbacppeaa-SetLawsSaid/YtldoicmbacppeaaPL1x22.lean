-- written by a program of the session's (wip/myprint.py) out of the translation
import Derived.Test.YtldoicmbacppeaaPL1x0
import Derived.Test.YtldoicmbacppeaaPL1x1
import Derived.Test.YtldoicmbacppeaaPL1x3
import Derived.Test.YtldoicmbacppeaaPL1x5
import Derived.Test.YtldoicmbacppeaaPL1x9
import Derived.Test.YtldoicmbacppeaaPL1x11
import Derived.Test.YtldoicmbacppeaaPL1x12
import Derived.Test.YtldoicmbacppeaaPL1x13
import Derived.Test.YtldoicmbacppeaaPL1x18
namespace Go.Proofs.Ytldoicmbacppeaa.PL1
open Go.RowKit Go.Proofs.YtldoicmbacppeaaW.PrintWords Go.Proofs.YtldoicmbacppeaaW.PrintLast Go.Proofs.YtldoicmbacppeaaW.PrintMore
attribute [local go_sem] max2_int min2_int max_two min_two max_three min_three max_four min_four   -- for this text's walks alone
set_option linter.unusedVariables false
set_option linter.unusedSimpArgs false

attribute [local go_sem high] eqA24
/-! ### templelaw1_SetLaws: function 6 -/
def templelaw1_SetLaws.f (k : Nat) (a0_0 : Int) (a0_1 : Int) (a0_2 : Int) (a0_3 : Int) (a1_0 : Int) (a1_1 : Int) (a1_2 : Int) (a1_3 : Int) (a2_0 : Int) (a2_1 : Int) (a2_2 : Int) (a2_3 : Int) : Option (Bool) := (templelaw1_awake.f k).bind fun t334 => (if t334 = true then ((byteset_Range.f 0 255).bind fun bt335 => ((byteset_Or.f a0_0 a0_1 a0_2 a0_3 a1_0 a1_1 a1_2 a1_3).bind fun bt341 => ((byteset_Minus.f bt335.1 bt335.2.1 bt335.2.2.1 bt335.2.2.2.1 bt341.1 bt341.2.1 bt341.2.2.1 bt341.2.2.2).bind fun bt345 => ((templelaw0_Num.f bt335.2.2.2.2).bind fun t350 => (if t350 = 0 then ((byteset_Count.f bt335.1 bt335.2.1 bt335.2.2.1 bt335.2.2.2.1).bind fun t351 => (if t351 = 256 then ((byteset_Minus.f bt335.1 bt335.2.1 bt335.2.2.1 bt335.2.2.2.1 a0_0 a0_1 a0_2 a0_3).bind fun bt352 => ((byteset_Minus.f bt335.1 bt335.2.1 bt335.2.2.1 bt335.2.2.2.1 a1_0 a1_1 a1_2 a1_3).bind fun bt356 => ((byteset_And.f bt352.1 bt352.2.1 bt352.2.2.1 bt352.2.2.2 bt356.1 bt356.2.1 bt356.2.2.1 bt356.2.2.2).bind fun bt360 => (if (bt345.1 == bt360.1 && (bt345.2.1 == bt360.2.1 && (bt345.2.2.1 == bt360.2.2.1 && (bt345.2.2.2 == bt360.2.2.2)))) = true then ((byteset_Or.f a1_0 a1_1 a1_2 a1_3 a2_0 a2_1 a2_2 a2_3).bind fun bt364 => ((byteset_And.f a0_0 a0_1 a0_2 a0_3 bt364.1 bt364.2.1 bt364.2.2.1 bt364.2.2.2).bind fun bt368 => ((byteset_And.f a0_0 a0_1 a0_2 a0_3 a1_0 a1_1 a1_2 a1_3).bind fun bt372 => ((byteset_And.f a0_0 a0_1 a0_2 a0_3 a2_0 a2_1 a2_2 a2_3).bind fun bt376 => ((byteset_Or.f bt372.1 bt372.2.1 bt372.2.2.1 bt372.2.2.2 bt376.1 bt376.2.1 bt376.2.2.1 bt376.2.2.2).bind fun bt380 => (if (bt368.1 == bt380.1 && (bt368.2.1 == bt380.2.1 && (bt368.2.2.1 == bt380.2.2.1 && (bt368.2.2.2 == bt380.2.2.2)))) = true then ((byteset_Or.f a0_0 a0_1 a0_2 a0_3 a1_0 a1_1 a1_2 a1_3).bind fun bt384 => ((byteset_Or.f a1_0 a1_1 a1_2 a1_3 a0_0 a0_1 a0_2 a0_3).bind fun bt388 => (if (bt384.1 == bt388.1 && (bt384.2.1 == bt388.2.1 && (bt384.2.2.1 == bt388.2.2.1 && (bt384.2.2.2 == bt388.2.2.2)))) = true then ((byteset_Or.f a0_0 a0_1 a0_2 a0_3 a1_0 a1_1 a1_2 a1_3).bind fun bt392 => ((byteset_Or.f bt392.1 bt392.2.1 bt392.2.2.1 bt392.2.2.2 a2_0 a2_1 a2_2 a2_3).bind fun bt396 => ((byteset_Or.f a1_0 a1_1 a1_2 a1_3 a2_0 a2_1 a2_2 a2_3).bind fun bt400 => ((byteset_Or.f a0_0 a0_1 a0_2 a0_3 bt400.1 bt400.2.1 bt400.2.2.1 bt400.2.2.2).bind fun bt404 => (if (bt396.1 == bt404.1 && (bt396.2.1 == bt404.2.1 && (bt396.2.2.1 == bt404.2.2.1 && (bt396.2.2.2 == bt404.2.2.2)))) = true then ((byteset_Minus.f a0_0 a0_1 a0_2 a0_3 a0_0 a0_1 a0_2 a0_3).bind fun bt408 => (if (bt408.1 == 0 && (bt408.2.1 == 0 && (bt408.2.2.1 == 0 && (bt408.2.2.2 == 0)))) = true then ((byteset_Or.f a0_0 a0_1 a0_2 a0_3 a0_0 a0_1 a0_2 a0_3).bind fun bt412 => (some (bt412.1 == a0_0 && (bt412.2.1 == a0_1 && (bt412.2.2.1 == a0_2 && (bt412.2.2.2 == a0_3)))))) else (none))) else (none)))))) else (none)))) else (none))))))) else (none))))) else (none))) else (none)))))) else (none))
theorem templelaw1_SetLaws.mono : ∀ a0 a1 a2 a3 a4 a5 a6 a7 a8 a9 a10 a11 k, LeO (templelaw1_SetLaws.f k a0 a1 a2 a3 a4 a5 a6 a7 a8 a9 a10 a11) (templelaw1_SetLaws.f (k + 1) a0 a1 a2 a3 a4 a5 a6 a7 a8 a9 a10 a11) := by
  intro a0 a1 a2 a3 a4 a5 a6 a7 a8 a9 a10 a11 k
  unfold templelaw1_SetLaws.f
  repeat' first
      | (with_reducible exact templelaw1_awake.mono _)
      | (with_reducible exact LeO.refl _)
      | (with_reducible exact LeO.none _)
      | (with_reducible refine LeO.ite ?_ ?_)
      | (with_reducible refine LeO.bind ?_ (fun _ => ?_))
      | exact templelaw1_awake.mono _
      | exact LeO.none _
      | refine LeO.ite ?_ ?_
      | refine LeO.bind ?_ (fun _ => ?_)
def templelaw1_SetLaws.T5 : Bool × List (List Nat × List Nat) := (true, [([], []), ([0], [0]), ([1], [1]), ([2, 1], [2]), ([3], [3]), ([4, 3, 3], [3, 4]), ([5, 3], [3, 5]), ([3, 6], [3, 6]), ([7, 5], [7]), ([8], [8]), ([8], [8]), ([8], [8]), ([10, 11, 8, 8], [8, 10, 11]), ([8], [8]), ([8], [8]), ([13, 14, 12, 8], [8, 13, 14]), ([12, 15, 15, 8], [8, 12, 15]), ([9, 16, 8], [8, 9, 16]), ([8, 17], [8, 17]), ([18, 16], [18]), ([19], [19]), ([19], [19]), ([19], [19]), ([21, 22, 19, 19], [19, 21, 22]), ([20, 23, 23, 19], [19, 20, 23]), ([19], [19]), ([19], [19]), ([25, 26, 24, 19], [19, 25, 26]), ([19], [19]), ([19], [19]), ([28, 29, 27, 19], [19, 28, 29]), ([27, 30, 30, 19], [19, 27, 30]), ([24, 31, 19], [19, 24, 31]), ([19, 32], [19, 32]), ([33, 31], [33]), ([34], [34]), ([34], [34]), ([35, 36, 34, 34], [34, 35, 36]), ([34], [34]), ([34], [34]), ([38, 39, 37, 34], [34, 38, 39]), ([37, 40, 34], [34, 37, 40]), ([34, 41], [34, 41]), ([42, 40], [42]), ([43], [43]), ([43], [43]), ([44, 45, 43, 43], [43, 44, 45]), ([43], [43]), ([46, 47, 46, 43], [43, 46, 47]), ([43], [43]), ([43], [43]), ([43], [43]), ([50, 51, 48, 43], [43, 50, 51]), ([49, 52, 52, 43], [43, 49, 52]), ([48, 53, 43], [43, 48, 53]), ([43, 54], [43, 54]), ([55, 53], [55]), ([56], [56]), ([56], [56]), ([57, 58, 56, 56], [56, 57, 58]), ([56], [56]), ([59, 60, 56], [56, 59, 60]), ([56, 61], [56, 61]), ([62, 59], [62]), ([63], [63]), ([63], [63]), ([64, 65, 63, 63], [63, 64, 65]), ([63], [63]), ([66, 67, 63], [63, 66, 67]), ([63, 68], [63, 68]), ([69, 66, 0, 1, 2, 3, 4, 5, 6, 7, 8, 9, 10, 11, 12, 13, 14, 15, 16, 17, 18, 19, 20, 21, 22, 23, 24, 25, 26, 27, 28, 29, 30, 31, 32, 33, 34, 35, 36, 37, 38, 39, 40, 41, 42, 43, 44, 45, 46, 47, 48, 49, 50, 51, 52, 53, 54, 55, 56, 57, 58, 59, 60, 61, 62, 63, 64, 65, 66, 67, 68, 69], [69])])
def templelaw1_SetLaws.B5 : List Nat := [0, 1, 3, 7, 15, 31, 63, 127, 255, 511, 511, 511, 3583, 511, 511, 32255, 65023, 131071, 262143, 524287, 1048575, 1048575, 1048575, 7340031, 16777215, 1048575, 1048575, 134217727, 1048575, 1048575, 1073741823, 2147483647, 4294967295, 8589934591, 17179869183, 34359738367, 34359738367, 137438953471, 34359738367, 34359738367, 1099511627775, 2199023255551, 4398046511103, 8796093022207, 17592186044415, 17592186044415, 70368744177663, 17592186044415, 281474976710655, 17592186044415, 17592186044415, 17592186044415, 3940649673949183, 9007199254740991, 18014398509481983, 36028797018963967, 72057594037927935, 144115188075855871, 144115188075855871, 576460752303423487, 144115188075855871, 2305843009213693951, 4611686018427387903, 9223372036854775807, 18446744073709551615, 18446744073709551615, 73786976294838206463, 18446744073709551615, 295147905179352825855, 590295810358705651711, 1180591620717411303423]
theorem templelaw1_SetLaws.tab5 : rtab .any (opsOf Try.f6 5) = templelaw1_SetLaws.T5 := by kernel_rfl
theorem templelaw1_SetLaws.bits5 : waitsOk templelaw1_SetLaws.T5.2 templelaw1_SetLaws.B5 = true := by kernel_rfl
set_option maxHeartbeats 8000000 in
set_option maxRecDepth 100000 in
theorem templelaw1_SetLaws.calls (k : Nat) (a0_0 : Int) (a0_1 : Int) (a0_2 : Int) (a0_3 : Int) (a1_0 : Int) (a1_1 : Int) (a1_2 : Int) (a1_3 : Int) (a2_0 : Int) (a2_1 : Int) (a2_2 : Int) (a2_3 : Int) (r : Bool) (w : World) (h : templelaw1_SetLaws.f k a0_0 a0_1 a0_2 a0_3 a1_0 a1_1 a1_2 a1_3 a2_0 a2_1 a2_2 a2_3 = some r) :
    Calls Try.prog 6 #[.agg #[.int .u64 a0_0, .int .u64 a0_1, .int .u64 a0_2, .int .u64 a0_3], .agg #[.int .u64 a1_0, .int .u64 a1_1, .int .u64 a1_2, .int .u64 a1_3], .agg #[.int .u64 a2_0, .int .u64 a2_1, .int .u64 a2_2, .int .u64 a2_3]] w fun e w' => e = .returned (.bool r) ∧ Below w.heap.size w w' := by
  have hu24 := Try.underlying24
  have HB := Aside0.mk (Below.refl w.heap.size w)
  have H : ((templelaw1_awake.f k).bind fun t334 => (if t334 = true then ((byteset_Range.f 0 255).bind fun bt335 => ((byteset_Or.f a0_0 a0_1 a0_2 a0_3 a1_0 a1_1 a1_2 a1_3).bind fun bt341 => ((byteset_Minus.f bt335.1 bt335.2.1 bt335.2.2.1 bt335.2.2.2.1 bt341.1 bt341.2.1 bt341.2.2.1 bt341.2.2.2).bind fun bt345 => ((templelaw0_Num.f bt335.2.2.2.2).bind fun t350 => (if t350 = 0 then ((byteset_Count.f bt335.1 bt335.2.1 bt335.2.2.1 bt335.2.2.2.1).bind fun t351 => (if t351 = 256 then ((byteset_Minus.f bt335.1 bt335.2.1 bt335.2.2.1 bt335.2.2.2.1 a0_0 a0_1 a0_2 a0_3).bind fun bt352 => ((byteset_Minus.f bt335.1 bt335.2.1 bt335.2.2.1 bt335.2.2.2.1 a1_0 a1_1 a1_2 a1_3).bind fun bt356 => ((byteset_And.f bt352.1 bt352.2.1 bt352.2.2.1 bt352.2.2.2 bt356.1 bt356.2.1 bt356.2.2.1 bt356.2.2.2).bind fun bt360 => (if (bt345.1 == bt360.1 && (bt345.2.1 == bt360.2.1 && (bt345.2.2.1 == bt360.2.2.1 && (bt345.2.2.2 == bt360.2.2.2)))) = true then ((byteset_Or.f a1_0 a1_1 a1_2 a1_3 a2_0 a2_1 a2_2 a2_3).bind fun bt364 => ((byteset_And.f a0_0 a0_1 a0_2 a0_3 bt364.1 bt364.2.1 bt364.2.2.1 bt364.2.2.2).bind fun bt368 => ((byteset_And.f a0_0 a0_1 a0_2 a0_3 a1_0 a1_1 a1_2 a1_3).bind fun bt372 => ((byteset_And.f a0_0 a0_1 a0_2 a0_3 a2_0 a2_1 a2_2 a2_3).bind fun bt376 => ((byteset_Or.f bt372.1 bt372.2.1 bt372.2.2.1 bt372.2.2.2 bt376.1 bt376.2.1 bt376.2.2.1 bt376.2.2.2).bind fun bt380 => (if (bt368.1 == bt380.1 && (bt368.2.1 == bt380.2.1 && (bt368.2.2.1 == bt380.2.2.1 && (bt368.2.2.2 == bt380.2.2.2)))) = true then ((byteset_Or.f a0_0 a0_1 a0_2 a0_3 a1_0 a1_1 a1_2 a1_3).bind fun bt384 => ((byteset_Or.f a1_0 a1_1 a1_2 a1_3 a0_0 a0_1 a0_2 a0_3).bind fun bt388 => (if (bt384.1 == bt388.1 && (bt384.2.1 == bt388.2.1 && (bt384.2.2.1 == bt388.2.2.1 && (bt384.2.2.2 == bt388.2.2.2)))) = true then ((byteset_Or.f a0_0 a0_1 a0_2 a0_3 a1_0 a1_1 a1_2 a1_3).bind fun bt392 => ((byteset_Or.f bt392.1 bt392.2.1 bt392.2.2.1 bt392.2.2.2 a2_0 a2_1 a2_2 a2_3).bind fun bt396 => ((byteset_Or.f a1_0 a1_1 a1_2 a1_3 a2_0 a2_1 a2_2 a2_3).bind fun bt400 => ((byteset_Or.f a0_0 a0_1 a0_2 a0_3 bt400.1 bt400.2.1 bt400.2.2.1 bt400.2.2.2).bind fun bt404 => (if (bt396.1 == bt404.1 && (bt396.2.1 == bt404.2.1 && (bt396.2.2.1 == bt404.2.2.1 && (bt396.2.2.2 == bt404.2.2.2)))) = true then ((byteset_Minus.f a0_0 a0_1 a0_2 a0_3 a0_0 a0_1 a0_2 a0_3).bind fun bt408 => (if (bt408.1 == 0 && (bt408.2.1 == 0 && (bt408.2.2.1 == 0 && (bt408.2.2.2 == 0)))) = true then ((byteset_Or.f a0_0 a0_1 a0_2 a0_3 a0_0 a0_1 a0_2 a0_3).bind fun bt412 => (some (bt412.1 == a0_0 && (bt412.2.1 == a0_1 && (bt412.2.2.1 == a0_2 && (bt412.2.2.2 == a0_3)))))) else (none))) else (none)))))) else (none)))) else (none))))))) else (none))))) else (none))) else (none)))))) else (none))) = some r := h
  clear h
  replace H := Option.bind_eq_some_iff.mp H
  obtain ⟨t334, A40, H⟩ := H
  replace H : (if t334 = true then ((byteset_Range.f 0 255).bind fun bt335 => ((byteset_Or.f a0_0 a0_1 a0_2 a0_3 a1_0 a1_1 a1_2 a1_3).bind fun bt341 => ((byteset_Minus.f bt335.1 bt335.2.1 bt335.2.2.1 bt335.2.2.2.1 bt341.1 bt341.2.1 bt341.2.2.1 bt341.2.2.2).bind fun bt345 => ((templelaw0_Num.f bt335.2.2.2.2).bind fun t350 => (if t350 = 0 then ((byteset_Count.f bt335.1 bt335.2.1 bt335.2.2.1 bt335.2.2.2.1).bind fun t351 => (if t351 = 256 then ((byteset_Minus.f bt335.1 bt335.2.1 bt335.2.2.1 bt335.2.2.2.1 a0_0 a0_1 a0_2 a0_3).bind fun bt352 => ((byteset_Minus.f bt335.1 bt335.2.1 bt335.2.2.1 bt335.2.2.2.1 a1_0 a1_1 a1_2 a1_3).bind fun bt356 => ((byteset_And.f bt352.1 bt352.2.1 bt352.2.2.1 bt352.2.2.2 bt356.1 bt356.2.1 bt356.2.2.1 bt356.2.2.2).bind fun bt360 => (if (bt345.1 == bt360.1 && (bt345.2.1 == bt360.2.1 && (bt345.2.2.1 == bt360.2.2.1 && (bt345.2.2.2 == bt360.2.2.2)))) = true then ((byteset_Or.f a1_0 a1_1 a1_2 a1_3 a2_0 a2_1 a2_2 a2_3).bind fun bt364 => ((byteset_And.f a0_0 a0_1 a0_2 a0_3 bt364.1 bt364.2.1 bt364.2.2.1 bt364.2.2.2).bind fun bt368 => ((byteset_And.f a0_0 a0_1 a0_2 a0_3 a1_0 a1_1 a1_2 a1_3).bind fun bt372 => ((byteset_And.f a0_0 a0_1 a0_2 a0_3 a2_0 a2_1 a2_2 a2_3).bind fun bt376 => ((byteset_Or.f bt372.1 bt372.2.1 bt372.2.2.1 bt372.2.2.2 bt376.1 bt376.2.1 bt376.2.2.1 bt376.2.2.2).bind fun bt380 => (if (bt368.1 == bt380.1 && (bt368.2.1 == bt380.2.1 && (bt368.2.2.1 == bt380.2.2.1 && (bt368.2.2.2 == bt380.2.2.2)))) = true then ((byteset_Or.f a0_0 a0_1 a0_2 a0_3 a1_0 a1_1 a1_2 a1_3).bind fun bt384 => ((byteset_Or.f a1_0 a1_1 a1_2 a1_3 a0_0 a0_1 a0_2 a0_3).bind fun bt388 => (if (bt384.1 == bt388.1 && (bt384.2.1 == bt388.2.1 && (bt384.2.2.1 == bt388.2.2.1 && (bt384.2.2.2 == bt388.2.2.2)))) = true then ((byteset_Or.f a0_0 a0_1 a0_2 a0_3 a1_0 a1_1 a1_2 a1_3).bind fun bt392 => ((byteset_Or.f bt392.1 bt392.2.1 bt392.2.2.1 bt392.2.2.2 a2_0 a2_1 a2_2 a2_3).bind fun bt396 => ((byteset_Or.f a1_0 a1_1 a1_2 a1_3 a2_0 a2_1 a2_2 a2_3).bind fun bt400 => ((byteset_Or.f a0_0 a0_1 a0_2 a0_3 bt400.1 bt400.2.1 bt400.2.2.1 bt400.2.2.2).bind fun bt404 => (if (bt396.1 == bt404.1 && (bt396.2.1 == bt404.2.1 && (bt396.2.2.1 == bt404.2.2.1 && (bt396.2.2.2 == bt404.2.2.2)))) = true then ((byteset_Minus.f a0_0 a0_1 a0_2 a0_3 a0_0 a0_1 a0_2 a0_3).bind fun bt408 => (if (bt408.1 == 0 && (bt408.2.1 == 0 && (bt408.2.2.1 == 0 && (bt408.2.2.2 == 0)))) = true then ((byteset_Or.f a0_0 a0_1 a0_2 a0_3 a0_0 a0_1 a0_2 a0_3).bind fun bt412 => (some (bt412.1 == a0_0 && (bt412.2.1 == a0_1 && (bt412.2.2.1 == a0_2 && (bt412.2.2.2 == a0_3)))))) else (none))) else (none)))))) else (none)))) else (none))))))) else (none))))) else (none))) else (none)))))) else (none)) = some r := H
  have A4 := Aside0.mk A40
  clear A40
  by_cases c5 : t334 = true
  · subst c5
    have H1 : ((byteset_Range.f 0 255).bind fun bt335 => ((byteset_Or.f a0_0 a0_1 a0_2 a0_3 a1_0 a1_1 a1_2 a1_3).bind fun bt341 => ((byteset_Minus.f bt335.1 bt335.2.1 bt335.2.2.1 bt335.2.2.2.1 bt341.1 bt341.2.1 bt341.2.2.1 bt341.2.2.2).bind fun bt345 => ((templelaw0_Num.f bt335.2.2.2.2).bind fun t350 => (if t350 = 0 then ((byteset_Count.f bt335.1 bt335.2.1 bt335.2.2.1 bt335.2.2.2.1).bind fun t351 => (if t351 = 256 then ((byteset_Minus.f bt335.1 bt335.2.1 bt335.2.2.1 bt335.2.2.2.1 a0_0 a0_1 a0_2 a0_3).bind fun bt352 => ((byteset_Minus.f bt335.1 bt335.2.1 bt335.2.2.1 bt335.2.2.2.1 a1_0 a1_1 a1_2 a1_3).bind fun bt356 => ((byteset_And.f bt352.1 bt352.2.1 bt352.2.2.1 bt352.2.2.2 bt356.1 bt356.2.1 bt356.2.2.1 bt356.2.2.2).bind fun bt360 => (if (bt345.1 == bt360.1 && (bt345.2.1 == bt360.2.1 && (bt345.2.2.1 == bt360.2.2.1 && (bt345.2.2.2 == bt360.2.2.2)))) = true then ((byteset_Or.f a1_0 a1_1 a1_2 a1_3 a2_0 a2_1 a2_2 a2_3).bind fun bt364 => ((byteset_And.f a0_0 a0_1 a0_2 a0_3 bt364.1 bt364.2.1 bt364.2.2.1 bt364.2.2.2).bind fun bt368 => ((byteset_And.f a0_0 a0_1 a0_2 a0_3 a1_0 a1_1 a1_2 a1_3).bind fun bt372 => ((byteset_And.f a0_0 a0_1 a0_2 a0_3 a2_0 a2_1 a2_2 a2_3).bind fun bt376 => ((byteset_Or.f bt372.1 bt372.2.1 bt372.2.2.1 bt372.2.2.2 bt376.1 bt376.2.1 bt376.2.2.1 bt376.2.2.2).bind fun bt380 => (if (bt368.1 == bt380.1 && (bt368.2.1 == bt380.2.1 && (bt368.2.2.1 == bt380.2.2.1 && (bt368.2.2.2 == bt380.2.2.2)))) = true then ((byteset_Or.f a0_0 a0_1 a0_2 a0_3 a1_0 a1_1 a1_2 a1_3).bind fun bt384 => ((byteset_Or.f a1_0 a1_1 a1_2 a1_3 a0_0 a0_1 a0_2 a0_3).bind fun bt388 => (if (bt384.1 == bt388.1 && (bt384.2.1 == bt388.2.1 && (bt384.2.2.1 == bt388.2.2.1 && (bt384.2.2.2 == bt388.2.2.2)))) = true then ((byteset_Or.f a0_0 a0_1 a0_2 a0_3 a1_0 a1_1 a1_2 a1_3).bind fun bt392 => ((byteset_Or.f bt392.1 bt392.2.1 bt392.2.2.1 bt392.2.2.2 a2_0 a2_1 a2_2 a2_3).bind fun bt396 => ((byteset_Or.f a1_0 a1_1 a1_2 a1_3 a2_0 a2_1 a2_2 a2_3).bind fun bt400 => ((byteset_Or.f a0_0 a0_1 a0_2 a0_3 bt400.1 bt400.2.1 bt400.2.2.1 bt400.2.2.2).bind fun bt404 => (if (bt396.1 == bt404.1 && (bt396.2.1 == bt404.2.1 && (bt396.2.2.1 == bt404.2.2.1 && (bt396.2.2.2 == bt404.2.2.2)))) = true then ((byteset_Minus.f a0_0 a0_1 a0_2 a0_3 a0_0 a0_1 a0_2 a0_3).bind fun bt408 => (if (bt408.1 == 0 && (bt408.2.1 == 0 && (bt408.2.2.1 == 0 && (bt408.2.2.2 == 0)))) = true then ((byteset_Or.f a0_0 a0_1 a0_2 a0_3 a0_0 a0_1 a0_2 a0_3).bind fun bt412 => (some (bt412.1 == a0_0 && (bt412.2.1 == a0_1 && (bt412.2.2.1 == a0_2 && (bt412.2.2.2 == a0_3)))))) else (none))) else (none)))))) else (none)))) else (none))))))) else (none))))) else (none))) else (none)))))) = some r := by rw [if_pos rfl] at H; exact H
    clear H
    have H := H1
    clear H1
    replace H := Option.bind_eq_some_iff.mp H
    obtain ⟨⟨t335, t336, t337, t338, t339⟩, A60, H⟩ := H
    replace H : ((byteset_Or.f a0_0 a0_1 a0_2 a0_3 a1_0 a1_1 a1_2 a1_3).bind fun bt341 => ((byteset_Minus.f t335 t336 t337 t338 bt341.1 bt341.2.1 bt341.2.2.1 bt341.2.2.2).bind fun bt345 => ((templelaw0_Num.f t339).bind fun t350 => (if t350 = 0 then ((byteset_Count.f t335 t336 t337 t338).bind fun t351 => (if t351 = 256 then ((byteset_Minus.f t335 t336 t337 t338 a0_0 a0_1 a0_2 a0_3).bind fun bt352 => ((byteset_Minus.f t335 t336 t337 t338 a1_0 a1_1 a1_2 a1_3).bind fun bt356 => ((byteset_And.f bt352.1 bt352.2.1 bt352.2.2.1 bt352.2.2.2 bt356.1 bt356.2.1 bt356.2.2.1 bt356.2.2.2).bind fun bt360 => (if (bt345.1 == bt360.1 && (bt345.2.1 == bt360.2.1 && (bt345.2.2.1 == bt360.2.2.1 && (bt345.2.2.2 == bt360.2.2.2)))) = true then ((byteset_Or.f a1_0 a1_1 a1_2 a1_3 a2_0 a2_1 a2_2 a2_3).bind fun bt364 => ((byteset_And.f a0_0 a0_1 a0_2 a0_3 bt364.1 bt364.2.1 bt364.2.2.1 bt364.2.2.2).bind fun bt368 => ((byteset_And.f a0_0 a0_1 a0_2 a0_3 a1_0 a1_1 a1_2 a1_3).bind fun bt372 => ((byteset_And.f a0_0 a0_1 a0_2 a0_3 a2_0 a2_1 a2_2 a2_3).bind fun bt376 => ((byteset_Or.f bt372.1 bt372.2.1 bt372.2.2.1 bt372.2.2.2 bt376.1 bt376.2.1 bt376.2.2.1 bt376.2.2.2).bind fun bt380 => (if (bt368.1 == bt380.1 && (bt368.2.1 == bt380.2.1 && (bt368.2.2.1 == bt380.2.2.1 && (bt368.2.2.2 == bt380.2.2.2)))) = true then ((byteset_Or.f a0_0 a0_1 a0_2 a0_3 a1_0 a1_1 a1_2 a1_3).bind fun bt384 => ((byteset_Or.f a1_0 a1_1 a1_2 a1_3 a0_0 a0_1 a0_2 a0_3).bind fun bt388 => (if (bt384.1 == bt388.1 && (bt384.2.1 == bt388.2.1 && (bt384.2.2.1 == bt388.2.2.1 && (bt384.2.2.2 == bt388.2.2.2)))) = true then ((byteset_Or.f a0_0 a0_1 a0_2 a0_3 a1_0 a1_1 a1_2 a1_3).bind fun bt392 => ((byteset_Or.f bt392.1 bt392.2.1 bt392.2.2.1 bt392.2.2.2 a2_0 a2_1 a2_2 a2_3).bind fun bt396 => ((byteset_Or.f a1_0 a1_1 a1_2 a1_3 a2_0 a2_1 a2_2 a2_3).bind fun bt400 => ((byteset_Or.f a0_0 a0_1 a0_2 a0_3 bt400.1 bt400.2.1 bt400.2.2.1 bt400.2.2.2).bind fun bt404 => (if (bt396.1 == bt404.1 && (bt396.2.1 == bt404.2.1 && (bt396.2.2.1 == bt404.2.2.1 && (bt396.2.2.2 == bt404.2.2.2)))) = true then ((byteset_Minus.f a0_0 a0_1 a0_2 a0_3 a0_0 a0_1 a0_2 a0_3).bind fun bt408 => (if (bt408.1 == 0 && (bt408.2.1 == 0 && (bt408.2.2.1 == 0 && (bt408.2.2.2 == 0)))) = true then ((byteset_Or.f a0_0 a0_1 a0_2 a0_3 a0_0 a0_1 a0_2 a0_3).bind fun bt412 => (some (bt412.1 == a0_0 && (bt412.2.1 == a0_1 && (bt412.2.2.1 == a0_2 && (bt412.2.2.2 == a0_3)))))) else (none))) else (none)))))) else (none)))) else (none))))))) else (none))))) else (none))) else (none))))) = some r := H
    have A6 := Aside0.mk A60
    clear A60
    replace H := Option.bind_eq_some_iff.mp H
    obtain ⟨⟨t341, t342, t343, t344⟩, A70, H⟩ := H
    replace H : ((byteset_Minus.f t335 t336 t337 t338 t341 t342 t343 t344).bind fun bt345 => ((templelaw0_Num.f t339).bind fun t350 => (if t350 = 0 then ((byteset_Count.f t335 t336 t337 t338).bind fun t351 => (if t351 = 256 then ((byteset_Minus.f t335 t336 t337 t338 a0_0 a0_1 a0_2 a0_3).bind fun bt352 => ((byteset_Minus.f t335 t336 t337 t338 a1_0 a1_1 a1_2 a1_3).bind fun bt356 => ((byteset_And.f bt352.1 bt352.2.1 bt352.2.2.1 bt352.2.2.2 bt356.1 bt356.2.1 bt356.2.2.1 bt356.2.2.2).bind fun bt360 => (if (bt345.1 == bt360.1 && (bt345.2.1 == bt360.2.1 && (bt345.2.2.1 == bt360.2.2.1 && (bt345.2.2.2 == bt360.2.2.2)))) = true then ((byteset_Or.f a1_0 a1_1 a1_2 a1_3 a2_0 a2_1 a2_2 a2_3).bind fun bt364 => ((byteset_And.f a0_0 a0_1 a0_2 a0_3 bt364.1 bt364.2.1 bt364.2.2.1 bt364.2.2.2).bind fun bt368 => ((byteset_And.f a0_0 a0_1 a0_2 a0_3 a1_0 a1_1 a1_2 a1_3).bind fun bt372 => ((byteset_And.f a0_0 a0_1 a0_2 a0_3 a2_0 a2_1 a2_2 a2_3).bind fun bt376 => ((byteset_Or.f bt372.1 bt372.2.1 bt372.2.2.1 bt372.2.2.2 bt376.1 bt376.2.1 bt376.2.2.1 bt376.2.2.2).bind fun bt380 => (if (bt368.1 == bt380.1 && (bt368.2.1 == bt380.2.1 && (bt368.2.2.1 == bt380.2.2.1 && (bt368.2.2.2 == bt380.2.2.2)))) = true then ((byteset_Or.f a0_0 a0_1 a0_2 a0_3 a1_0 a1_1 a1_2 a1_3).bind fun bt384 => ((byteset_Or.f a1_0 a1_1 a1_2 a1_3 a0_0 a0_1 a0_2 a0_3).bind fun bt388 => (if (bt384.1 == bt388.1 && (bt384.2.1 == bt388.2.1 && (bt384.2.2.1 == bt388.2.2.1 && (bt384.2.2.2 == bt388.2.2.2)))) = true then ((byteset_Or.f a0_0 a0_1 a0_2 a0_3 a1_0 a1_1 a1_2 a1_3).bind fun bt392 => ((byteset_Or.f bt392.1 bt392.2.1 bt392.2.2.1 bt392.2.2.2 a2_0 a2_1 a2_2 a2_3).bind fun bt396 => ((byteset_Or.f a1_0 a1_1 a1_2 a1_3 a2_0 a2_1 a2_2 a2_3).bind fun bt400 => ((byteset_Or.f a0_0 a0_1 a0_2 a0_3 bt400.1 bt400.2.1 bt400.2.2.1 bt400.2.2.2).bind fun bt404 => (if (bt396.1 == bt404.1 && (bt396.2.1 == bt404.2.1 && (bt396.2.2.1 == bt404.2.2.1 && (bt396.2.2.2 == bt404.2.2.2)))) = true then ((byteset_Minus.f a0_0 a0_1 a0_2 a0_3 a0_0 a0_1 a0_2 a0_3).bind fun bt408 => (if (bt408.1 == 0 && (bt408.2.1 == 0 && (bt408.2.2.1 == 0 && (bt408.2.2.2 == 0)))) = true then ((byteset_Or.f a0_0 a0_1 a0_2 a0_3 a0_0 a0_1 a0_2 a0_3).bind fun bt412 => (some (bt412.1 == a0_0 && (bt412.2.1 == a0_1 && (bt412.2.2.1 == a0_2 && (bt412.2.2.2 == a0_3)))))) else (none))) else (none)))))) else (none)))) else (none))))))) else (none))))) else (none))) else (none)))) = some r := H
    have A7 := Aside0.mk A70
    clear A70
    replace H := Option.bind_eq_some_iff.mp H
    obtain ⟨⟨t345, t346, t347, t348⟩, A80, H⟩ := H
    replace H : ((templelaw0_Num.f t339).bind fun t350 => (if t350 = 0 then ((byteset_Count.f t335 t336 t337 t338).bind fun t351 => (if t351 = 256 then ((byteset_Minus.f t335 t336 t337 t338 a0_0 a0_1 a0_2 a0_3).bind fun bt352 => ((byteset_Minus.f t335 t336 t337 t338 a1_0 a1_1 a1_2 a1_3).bind fun bt356 => ((byteset_And.f bt352.1 bt352.2.1 bt352.2.2.1 bt352.2.2.2 bt356.1 bt356.2.1 bt356.2.2.1 bt356.2.2.2).bind fun bt360 => (if (t345 == bt360.1 && (t346 == bt360.2.1 && (t347 == bt360.2.2.1 && (t348 == bt360.2.2.2)))) = true then ((byteset_Or.f a1_0 a1_1 a1_2 a1_3 a2_0 a2_1 a2_2 a2_3).bind fun bt364 => ((byteset_And.f a0_0 a0_1 a0_2 a0_3 bt364.1 bt364.2.1 bt364.2.2.1 bt364.2.2.2).bind fun bt368 => ((byteset_And.f a0_0 a0_1 a0_2 a0_3 a1_0 a1_1 a1_2 a1_3).bind fun bt372 => ((byteset_And.f a0_0 a0_1 a0_2 a0_3 a2_0 a2_1 a2_2 a2_3).bind fun bt376 => ((byteset_Or.f bt372.1 bt372.2.1 bt372.2.2.1 bt372.2.2.2 bt376.1 bt376.2.1 bt376.2.2.1 bt376.2.2.2).bind fun bt380 => (if (bt368.1 == bt380.1 && (bt368.2.1 == bt380.2.1 && (bt368.2.2.1 == bt380.2.2.1 && (bt368.2.2.2 == bt380.2.2.2)))) = true then ((byteset_Or.f a0_0 a0_1 a0_2 a0_3 a1_0 a1_1 a1_2 a1_3).bind fun bt384 => ((byteset_Or.f a1_0 a1_1 a1_2 a1_3 a0_0 a0_1 a0_2 a0_3).bind fun bt388 => (if (bt384.1 == bt388.1 && (bt384.2.1 == bt388.2.1 && (bt384.2.2.1 == bt388.2.2.1 && (bt384.2.2.2 == bt388.2.2.2)))) = true then ((byteset_Or.f a0_0 a0_1 a0_2 a0_3 a1_0 a1_1 a1_2 a1_3).bind fun bt392 => ((byteset_Or.f bt392.1 bt392.2.1 bt392.2.2.1 bt392.2.2.2 a2_0 a2_1 a2_2 a2_3).bind fun bt396 => ((byteset_Or.f a1_0 a1_1 a1_2 a1_3 a2_0 a2_1 a2_2 a2_3).bind fun bt400 => ((byteset_Or.f a0_0 a0_1 a0_2 a0_3 bt400.1 bt400.2.1 bt400.2.2.1 bt400.2.2.2).bind fun bt404 => (if (bt396.1 == bt404.1 && (bt396.2.1 == bt404.2.1 && (bt396.2.2.1 == bt404.2.2.1 && (bt396.2.2.2 == bt404.2.2.2)))) = true then ((byteset_Minus.f a0_0 a0_1 a0_2 a0_3 a0_0 a0_1 a0_2 a0_3).bind fun bt408 => (if (bt408.1 == 0 && (bt408.2.1 == 0 && (bt408.2.2.1 == 0 && (bt408.2.2.2 == 0)))) = true then ((byteset_Or.f a0_0 a0_1 a0_2 a0_3 a0_0 a0_1 a0_2 a0_3).bind fun bt412 => (some (bt412.1 == a0_0 && (bt412.2.1 == a0_1 && (bt412.2.2.1 == a0_2 && (bt412.2.2.2 == a0_3)))))) else (none))) else (none)))))) else (none)))) else (none))))))) else (none))))) else (none))) else (none))) = some r := H
    have A8 := Aside0.mk A80
    clear A80
    replace H := Option.bind_eq_some_iff.mp H
    obtain ⟨t350, A90, H⟩ := H
    replace H : (if t350 = 0 then ((byteset_Count.f t335 t336 t337 t338).bind fun t351 => (if t351 = 256 then ((byteset_Minus.f t335 t336 t337 t338 a0_0 a0_1 a0_2 a0_3).bind fun bt352 => ((byteset_Minus.f t335 t336 t337 t338 a1_0 a1_1 a1_2 a1_3).bind fun bt356 => ((byteset_And.f bt352.1 bt352.2.1 bt352.2.2.1 bt352.2.2.2 bt356.1 bt356.2.1 bt356.2.2.1 bt356.2.2.2).bind fun bt360 => (if (t345 == bt360.1 && (t346 == bt360.2.1 && (t347 == bt360.2.2.1 && (t348 == bt360.2.2.2)))) = true then ((byteset_Or.f a1_0 a1_1 a1_2 a1_3 a2_0 a2_1 a2_2 a2_3).bind fun bt364 => ((byteset_And.f a0_0 a0_1 a0_2 a0_3 bt364.1 bt364.2.1 bt364.2.2.1 bt364.2.2.2).bind fun bt368 => ((byteset_And.f a0_0 a0_1 a0_2 a0_3 a1_0 a1_1 a1_2 a1_3).bind fun bt372 => ((byteset_And.f a0_0 a0_1 a0_2 a0_3 a2_0 a2_1 a2_2 a2_3).bind fun bt376 => ((byteset_Or.f bt372.1 bt372.2.1 bt372.2.2.1 bt372.2.2.2 bt376.1 bt376.2.1 bt376.2.2.1 bt376.2.2.2).bind fun bt380 => (if (bt368.1 == bt380.1 && (bt368.2.1 == bt380.2.1 && (bt368.2.2.1 == bt380.2.2.1 && (bt368.2.2.2 == bt380.2.2.2)))) = true then ((byteset_Or.f a0_0 a0_1 a0_2 a0_3 a1_0 a1_1 a1_2 a1_3).bind fun bt384 => ((byteset_Or.f a1_0 a1_1 a1_2 a1_3 a0_0 a0_1 a0_2 a0_3).bind fun bt388 => (if (bt384.1 == bt388.1 && (bt384.2.1 == bt388.2.1 && (bt384.2.2.1 == bt388.2.2.1 && (bt384.2.2.2 == bt388.2.2.2)))) = true then ((byteset_Or.f a0_0 a0_1 a0_2 a0_3 a1_0 a1_1 a1_2 a1_3).bind fun bt392 => ((byteset_Or.f bt392.1 bt392.2.1 bt392.2.2.1 bt392.2.2.2 a2_0 a2_1 a2_2 a2_3).bind fun bt396 => ((byteset_Or.f a1_0 a1_1 a1_2 a1_3 a2_0 a2_1 a2_2 a2_3).bind fun bt400 => ((byteset_Or.f a0_0 a0_1 a0_2 a0_3 bt400.1 bt400.2.1 bt400.2.2.1 bt400.2.2.2).bind fun bt404 => (if (bt396.1 == bt404.1 && (bt396.2.1 == bt404.2.1 && (bt396.2.2.1 == bt404.2.2.1 && (bt396.2.2.2 == bt404.2.2.2)))) = true then ((byteset_Minus.f a0_0 a0_1 a0_2 a0_3 a0_0 a0_1 a0_2 a0_3).bind fun bt408 => (if (bt408.1 == 0 && (bt408.2.1 == 0 && (bt408.2.2.1 == 0 && (bt408.2.2.2 == 0)))) = true then ((byteset_Or.f a0_0 a0_1 a0_2 a0_3 a0_0 a0_1 a0_2 a0_3).bind fun bt412 => (some (bt412.1 == a0_0 && (bt412.2.1 == a0_1 && (bt412.2.2.1 == a0_2 && (bt412.2.2.2 == a0_3)))))) else (none))) else (none)))))) else (none)))) else (none))))))) else (none))))) else (none))) else (none)) = some r := H
    have A9 := Aside0.mk A90
    clear A90
    by_cases c10 : t350 = 0
    · rw [if_pos c10] at H
      have c10b0 : (t350 == 0) = true := beq_iff_eq.mpr c10
      have c10b1 : (t350 != 0) = false := bne_eq_false_iff_eq.mpr c10
      clear c10
      replace H := Option.bind_eq_some_iff.mp H
      obtain ⟨t351, A110, H⟩ := H
      replace H : (if t351 = 256 then ((byteset_Minus.f t335 t336 t337 t338 a0_0 a0_1 a0_2 a0_3).bind fun bt352 => ((byteset_Minus.f t335 t336 t337 t338 a1_0 a1_1 a1_2 a1_3).bind fun bt356 => ((byteset_And.f bt352.1 bt352.2.1 bt352.2.2.1 bt352.2.2.2 bt356.1 bt356.2.1 bt356.2.2.1 bt356.2.2.2).bind fun bt360 => (if (t345 == bt360.1 && (t346 == bt360.2.1 && (t347 == bt360.2.2.1 && (t348 == bt360.2.2.2)))) = true then ((byteset_Or.f a1_0 a1_1 a1_2 a1_3 a2_0 a2_1 a2_2 a2_3).bind fun bt364 => ((byteset_And.f a0_0 a0_1 a0_2 a0_3 bt364.1 bt364.2.1 bt364.2.2.1 bt364.2.2.2).bind fun bt368 => ((byteset_And.f a0_0 a0_1 a0_2 a0_3 a1_0 a1_1 a1_2 a1_3).bind fun bt372 => ((byteset_And.f a0_0 a0_1 a0_2 a0_3 a2_0 a2_1 a2_2 a2_3).bind fun bt376 => ((byteset_Or.f bt372.1 bt372.2.1 bt372.2.2.1 bt372.2.2.2 bt376.1 bt376.2.1 bt376.2.2.1 bt376.2.2.2).bind fun bt380 => (if (bt368.1 == bt380.1 && (bt368.2.1 == bt380.2.1 && (bt368.2.2.1 == bt380.2.2.1 && (bt368.2.2.2 == bt380.2.2.2)))) = true then ((byteset_Or.f a0_0 a0_1 a0_2 a0_3 a1_0 a1_1 a1_2 a1_3).bind fun bt384 => ((byteset_Or.f a1_0 a1_1 a1_2 a1_3 a0_0 a0_1 a0_2 a0_3).bind fun bt388 => (if (bt384.1 == bt388.1 && (bt384.2.1 == bt388.2.1 && (bt384.2.2.1 == bt388.2.2.1 && (bt384.2.2.2 == bt388.2.2.2)))) = true then ((byteset_Or.f a0_0 a0_1 a0_2 a0_3 a1_0 a1_1 a1_2 a1_3).bind fun bt392 => ((byteset_Or.f bt392.1 bt392.2.1 bt392.2.2.1 bt392.2.2.2 a2_0 a2_1 a2_2 a2_3).bind fun bt396 => ((byteset_Or.f a1_0 a1_1 a1_2 a1_3 a2_0 a2_1 a2_2 a2_3).bind fun bt400 => ((byteset_Or.f a0_0 a0_1 a0_2 a0_3 bt400.1 bt400.2.1 bt400.2.2.1 bt400.2.2.2).bind fun bt404 => (if (bt396.1 == bt404.1 && (bt396.2.1 == bt404.2.1 && (bt396.2.2.1 == bt404.2.2.1 && (bt396.2.2.2 == bt404.2.2.2)))) = true then ((byteset_Minus.f a0_0 a0_1 a0_2 a0_3 a0_0 a0_1 a0_2 a0_3).bind fun bt408 => (if (bt408.1 == 0 && (bt408.2.1 == 0 && (bt408.2.2.1 == 0 && (bt408.2.2.2 == 0)))) = true then ((byteset_Or.f a0_0 a0_1 a0_2 a0_3 a0_0 a0_1 a0_2 a0_3).bind fun bt412 => (some (bt412.1 == a0_0 && (bt412.2.1 == a0_1 && (bt412.2.2.1 == a0_2 && (bt412.2.2.2 == a0_3)))))) else (none))) else (none)))))) else (none)))) else (none))))))) else (none))))) else (none)) = some r := H
      have A11 := Aside0.mk A110
      clear A110
      by_cases c12 : t351 = 256
      · rw [if_pos c12] at H
        have c12b0 : (t351 == 256) = true := beq_iff_eq.mpr c12
        have c12b1 : (t351 != 256) = false := bne_eq_false_iff_eq.mpr c12
        clear c12
        replace H := Option.bind_eq_some_iff.mp H
        obtain ⟨⟨t352, t353, t354, t355⟩, A130, H⟩ := H
        replace H : ((byteset_Minus.f t335 t336 t337 t338 a1_0 a1_1 a1_2 a1_3).bind fun bt356 => ((byteset_And.f t352 t353 t354 t355 bt356.1 bt356.2.1 bt356.2.2.1 bt356.2.2.2).bind fun bt360 => (if (t345 == bt360.1 && (t346 == bt360.2.1 && (t347 == bt360.2.2.1 && (t348 == bt360.2.2.2)))) = true then ((byteset_Or.f a1_0 a1_1 a1_2 a1_3 a2_0 a2_1 a2_2 a2_3).bind fun bt364 => ((byteset_And.f a0_0 a0_1 a0_2 a0_3 bt364.1 bt364.2.1 bt364.2.2.1 bt364.2.2.2).bind fun bt368 => ((byteset_And.f a0_0 a0_1 a0_2 a0_3 a1_0 a1_1 a1_2 a1_3).bind fun bt372 => ((byteset_And.f a0_0 a0_1 a0_2 a0_3 a2_0 a2_1 a2_2 a2_3).bind fun bt376 => ((byteset_Or.f bt372.1 bt372.2.1 bt372.2.2.1 bt372.2.2.2 bt376.1 bt376.2.1 bt376.2.2.1 bt376.2.2.2).bind fun bt380 => (if (bt368.1 == bt380.1 && (bt368.2.1 == bt380.2.1 && (bt368.2.2.1 == bt380.2.2.1 && (bt368.2.2.2 == bt380.2.2.2)))) = true then ((byteset_Or.f a0_0 a0_1 a0_2 a0_3 a1_0 a1_1 a1_2 a1_3).bind fun bt384 => ((byteset_Or.f a1_0 a1_1 a1_2 a1_3 a0_0 a0_1 a0_2 a0_3).bind fun bt388 => (if (bt384.1 == bt388.1 && (bt384.2.1 == bt388.2.1 && (bt384.2.2.1 == bt388.2.2.1 && (bt384.2.2.2 == bt388.2.2.2)))) = true then ((byteset_Or.f a0_0 a0_1 a0_2 a0_3 a1_0 a1_1 a1_2 a1_3).bind fun bt392 => ((byteset_Or.f bt392.1 bt392.2.1 bt392.2.2.1 bt392.2.2.2 a2_0 a2_1 a2_2 a2_3).bind fun bt396 => ((byteset_Or.f a1_0 a1_1 a1_2 a1_3 a2_0 a2_1 a2_2 a2_3).bind fun bt400 => ((byteset_Or.f a0_0 a0_1 a0_2 a0_3 bt400.1 bt400.2.1 bt400.2.2.1 bt400.2.2.2).bind fun bt404 => (if (bt396.1 == bt404.1 && (bt396.2.1 == bt404.2.1 && (bt396.2.2.1 == bt404.2.2.1 && (bt396.2.2.2 == bt404.2.2.2)))) = true then ((byteset_Minus.f a0_0 a0_1 a0_2 a0_3 a0_0 a0_1 a0_2 a0_3).bind fun bt408 => (if (bt408.1 == 0 && (bt408.2.1 == 0 && (bt408.2.2.1 == 0 && (bt408.2.2.2 == 0)))) = true then ((byteset_Or.f a0_0 a0_1 a0_2 a0_3 a0_0 a0_1 a0_2 a0_3).bind fun bt412 => (some (bt412.1 == a0_0 && (bt412.2.1 == a0_1 && (bt412.2.2.1 == a0_2 && (bt412.2.2.2 == a0_3)))))) else (none))) else (none)))))) else (none)))) else (none))))))) else (none)))) = some r := H
        have A13 := Aside0.mk A130
        clear A130
        replace H := Option.bind_eq_some_iff.mp H
        obtain ⟨⟨t356, t357, t358, t359⟩, A140, H⟩ := H
        replace H : ((byteset_And.f t352 t353 t354 t355 t356 t357 t358 t359).bind fun bt360 => (if (t345 == bt360.1 && (t346 == bt360.2.1 && (t347 == bt360.2.2.1 && (t348 == bt360.2.2.2)))) = true then ((byteset_Or.f a1_0 a1_1 a1_2 a1_3 a2_0 a2_1 a2_2 a2_3).bind fun bt364 => ((byteset_And.f a0_0 a0_1 a0_2 a0_3 bt364.1 bt364.2.1 bt364.2.2.1 bt364.2.2.2).bind fun bt368 => ((byteset_And.f a0_0 a0_1 a0_2 a0_3 a1_0 a1_1 a1_2 a1_3).bind fun bt372 => ((byteset_And.f a0_0 a0_1 a0_2 a0_3 a2_0 a2_1 a2_2 a2_3).bind fun bt376 => ((byteset_Or.f bt372.1 bt372.2.1 bt372.2.2.1 bt372.2.2.2 bt376.1 bt376.2.1 bt376.2.2.1 bt376.2.2.2).bind fun bt380 => (if (bt368.1 == bt380.1 && (bt368.2.1 == bt380.2.1 && (bt368.2.2.1 == bt380.2.2.1 && (bt368.2.2.2 == bt380.2.2.2)))) = true then ((byteset_Or.f a0_0 a0_1 a0_2 a0_3 a1_0 a1_1 a1_2 a1_3).bind fun bt384 => ((byteset_Or.f a1_0 a1_1 a1_2 a1_3 a0_0 a0_1 a0_2 a0_3).bind fun bt388 => (if (bt384.1 == bt388.1 && (bt384.2.1 == bt388.2.1 && (bt384.2.2.1 == bt388.2.2.1 && (bt384.2.2.2 == bt388.2.2.2)))) = true then ((byteset_Or.f a0_0 a0_1 a0_2 a0_3 a1_0 a1_1 a1_2 a1_3).bind fun bt392 => ((byteset_Or.f bt392.1 bt392.2.1 bt392.2.2.1 bt392.2.2.2 a2_0 a2_1 a2_2 a2_3).bind fun bt396 => ((byteset_Or.f a1_0 a1_1 a1_2 a1_3 a2_0 a2_1 a2_2 a2_3).bind fun bt400 => ((byteset_Or.f a0_0 a0_1 a0_2 a0_3 bt400.1 bt400.2.1 bt400.2.2.1 bt400.2.2.2).bind fun bt404 => (if (bt396.1 == bt404.1 && (bt396.2.1 == bt404.2.1 && (bt396.2.2.1 == bt404.2.2.1 && (bt396.2.2.2 == bt404.2.2.2)))) = true then ((byteset_Minus.f a0_0 a0_1 a0_2 a0_3 a0_0 a0_1 a0_2 a0_3).bind fun bt408 => (if (bt408.1 == 0 && (bt408.2.1 == 0 && (bt408.2.2.1 == 0 && (bt408.2.2.2 == 0)))) = true then ((byteset_Or.f a0_0 a0_1 a0_2 a0_3 a0_0 a0_1 a0_2 a0_3).bind fun bt412 => (some (bt412.1 == a0_0 && (bt412.2.1 == a0_1 && (bt412.2.2.1 == a0_2 && (bt412.2.2.2 == a0_3)))))) else (none))) else (none)))))) else (none)))) else (none))))))) else (none))) = some r := H
        have A14 := Aside0.mk A140
        clear A140
        replace H := Option.bind_eq_some_iff.mp H
        obtain ⟨⟨t360, t361, t362, t363⟩, A150, H⟩ := H
        replace H : (if (t345 == t360 && (t346 == t361 && (t347 == t362 && (t348 == t363)))) = true then ((byteset_Or.f a1_0 a1_1 a1_2 a1_3 a2_0 a2_1 a2_2 a2_3).bind fun bt364 => ((byteset_And.f a0_0 a0_1 a0_2 a0_3 bt364.1 bt364.2.1 bt364.2.2.1 bt364.2.2.2).bind fun bt368 => ((byteset_And.f a0_0 a0_1 a0_2 a0_3 a1_0 a1_1 a1_2 a1_3).bind fun bt372 => ((byteset_And.f a0_0 a0_1 a0_2 a0_3 a2_0 a2_1 a2_2 a2_3).bind fun bt376 => ((byteset_Or.f bt372.1 bt372.2.1 bt372.2.2.1 bt372.2.2.2 bt376.1 bt376.2.1 bt376.2.2.1 bt376.2.2.2).bind fun bt380 => (if (bt368.1 == bt380.1 && (bt368.2.1 == bt380.2.1 && (bt368.2.2.1 == bt380.2.2.1 && (bt368.2.2.2 == bt380.2.2.2)))) = true then ((byteset_Or.f a0_0 a0_1 a0_2 a0_3 a1_0 a1_1 a1_2 a1_3).bind fun bt384 => ((byteset_Or.f a1_0 a1_1 a1_2 a1_3 a0_0 a0_1 a0_2 a0_3).bind fun bt388 => (if (bt384.1 == bt388.1 && (bt384.2.1 == bt388.2.1 && (bt384.2.2.1 == bt388.2.2.1 && (bt384.2.2.2 == bt388.2.2.2)))) = true then ((byteset_Or.f a0_0 a0_1 a0_2 a0_3 a1_0 a1_1 a1_2 a1_3).bind fun bt392 => ((byteset_Or.f bt392.1 bt392.2.1 bt392.2.2.1 bt392.2.2.2 a2_0 a2_1 a2_2 a2_3).bind fun bt396 => ((byteset_Or.f a1_0 a1_1 a1_2 a1_3 a2_0 a2_1 a2_2 a2_3).bind fun bt400 => ((byteset_Or.f a0_0 a0_1 a0_2 a0_3 bt400.1 bt400.2.1 bt400.2.2.1 bt400.2.2.2).bind fun bt404 => (if (bt396.1 == bt404.1 && (bt396.2.1 == bt404.2.1 && (bt396.2.2.1 == bt404.2.2.1 && (bt396.2.2.2 == bt404.2.2.2)))) = true then ((byteset_Minus.f a0_0 a0_1 a0_2 a0_3 a0_0 a0_1 a0_2 a0_3).bind fun bt408 => (if (bt408.1 == 0 && (bt408.2.1 == 0 && (bt408.2.2.1 == 0 && (bt408.2.2.2 == 0)))) = true then ((byteset_Or.f a0_0 a0_1 a0_2 a0_3 a0_0 a0_1 a0_2 a0_3).bind fun bt412 => (some (bt412.1 == a0_0 && (bt412.2.1 == a0_1 && (bt412.2.2.1 == a0_2 && (bt412.2.2.2 == a0_3)))))) else (none))) else (none)))))) else (none)))) else (none))))))) else (none)) = some r := H
        have A15 := Aside0.mk A150
        clear A150
        by_cases c16 : (t345 == t360 && (t346 == t361 && (t347 == t362 && (t348 == t363)))) = true
        · rw [if_pos c16] at H
          have c16b0 : (t345 == t360 && (t346 == t361 && (t347 == t362 && (t348 == t363)))) = true := c16
          (try (have c16b1 : decide (t345 = t360 && (t346 == t361 && (t347 == t362 && (t348 == t363)))) = true := by simpa using c16))
          (try (have c16b2 : (t345 == t360 && (t346 == t361 && (t347 == t362 && (t348 == t363)))) = true := by simpa using c16))
          clear c16
          replace H := Option.bind_eq_some_iff.mp H
          obtain ⟨⟨t364, t365, t366, t367⟩, A170, H⟩ := H
          replace H : ((byteset_And.f a0_0 a0_1 a0_2 a0_3 t364 t365 t366 t367).bind fun bt368 => ((byteset_And.f a0_0 a0_1 a0_2 a0_3 a1_0 a1_1 a1_2 a1_3).bind fun bt372 => ((byteset_And.f a0_0 a0_1 a0_2 a0_3 a2_0 a2_1 a2_2 a2_3).bind fun bt376 => ((byteset_Or.f bt372.1 bt372.2.1 bt372.2.2.1 bt372.2.2.2 bt376.1 bt376.2.1 bt376.2.2.1 bt376.2.2.2).bind fun bt380 => (if (bt368.1 == bt380.1 && (bt368.2.1 == bt380.2.1 && (bt368.2.2.1 == bt380.2.2.1 && (bt368.2.2.2 == bt380.2.2.2)))) = true then ((byteset_Or.f a0_0 a0_1 a0_2 a0_3 a1_0 a1_1 a1_2 a1_3).bind fun bt384 => ((byteset_Or.f a1_0 a1_1 a1_2 a1_3 a0_0 a0_1 a0_2 a0_3).bind fun bt388 => (if (bt384.1 == bt388.1 && (bt384.2.1 == bt388.2.1 && (bt384.2.2.1 == bt388.2.2.1 && (bt384.2.2.2 == bt388.2.2.2)))) = true then ((byteset_Or.f a0_0 a0_1 a0_2 a0_3 a1_0 a1_1 a1_2 a1_3).bind fun bt392 => ((byteset_Or.f bt392.1 bt392.2.1 bt392.2.2.1 bt392.2.2.2 a2_0 a2_1 a2_2 a2_3).bind fun bt396 => ((byteset_Or.f a1_0 a1_1 a1_2 a1_3 a2_0 a2_1 a2_2 a2_3).bind fun bt400 => ((byteset_Or.f a0_0 a0_1 a0_2 a0_3 bt400.1 bt400.2.1 bt400.2.2.1 bt400.2.2.2).bind fun bt404 => (if (bt396.1 == bt404.1 && (bt396.2.1 == bt404.2.1 && (bt396.2.2.1 == bt404.2.2.1 && (bt396.2.2.2 == bt404.2.2.2)))) = true then ((byteset_Minus.f a0_0 a0_1 a0_2 a0_3 a0_0 a0_1 a0_2 a0_3).bind fun bt408 => (if (bt408.1 == 0 && (bt408.2.1 == 0 && (bt408.2.2.1 == 0 && (bt408.2.2.2 == 0)))) = true then ((byteset_Or.f a0_0 a0_1 a0_2 a0_3 a0_0 a0_1 a0_2 a0_3).bind fun bt412 => (some (bt412.1 == a0_0 && (bt412.2.1 == a0_1 && (bt412.2.2.1 == a0_2 && (bt412.2.2.2 == a0_3)))))) else (none))) else (none)))))) else (none)))) else (none)))))) = some r := H
          have A17 := Aside0.mk A170
          clear A170
          replace H := Option.bind_eq_some_iff.mp H
          obtain ⟨⟨t368, t369, t370, t371⟩, A180, H⟩ := H
          replace H : ((byteset_And.f a0_0 a0_1 a0_2 a0_3 a1_0 a1_1 a1_2 a1_3).bind fun bt372 => ((byteset_And.f a0_0 a0_1 a0_2 a0_3 a2_0 a2_1 a2_2 a2_3).bind fun bt376 => ((byteset_Or.f bt372.1 bt372.2.1 bt372.2.2.1 bt372.2.2.2 bt376.1 bt376.2.1 bt376.2.2.1 bt376.2.2.2).bind fun bt380 => (if (t368 == bt380.1 && (t369 == bt380.2.1 && (t370 == bt380.2.2.1 && (t371 == bt380.2.2.2)))) = true then ((byteset_Or.f a0_0 a0_1 a0_2 a0_3 a1_0 a1_1 a1_2 a1_3).bind fun bt384 => ((byteset_Or.f a1_0 a1_1 a1_2 a1_3 a0_0 a0_1 a0_2 a0_3).bind fun bt388 => (if (bt384.1 == bt388.1 && (bt384.2.1 == bt388.2.1 && (bt384.2.2.1 == bt388.2.2.1 && (bt384.2.2.2 == bt388.2.2.2)))) = true then ((byteset_Or.f a0_0 a0_1 a0_2 a0_3 a1_0 a1_1 a1_2 a1_3).bind fun bt392 => ((byteset_Or.f bt392.1 bt392.2.1 bt392.2.2.1 bt392.2.2.2 a2_0 a2_1 a2_2 a2_3).bind fun bt396 => ((byteset_Or.f a1_0 a1_1 a1_2 a1_3 a2_0 a2_1 a2_2 a2_3).bind fun bt400 => ((byteset_Or.f a0_0 a0_1 a0_2 a0_3 bt400.1 bt400.2.1 bt400.2.2.1 bt400.2.2.2).bind fun bt404 => (if (bt396.1 == bt404.1 && (bt396.2.1 == bt404.2.1 && (bt396.2.2.1 == bt404.2.2.1 && (bt396.2.2.2 == bt404.2.2.2)))) = true then ((byteset_Minus.f a0_0 a0_1 a0_2 a0_3 a0_0 a0_1 a0_2 a0_3).bind fun bt408 => (if (bt408.1 == 0 && (bt408.2.1 == 0 && (bt408.2.2.1 == 0 && (bt408.2.2.2 == 0)))) = true then ((byteset_Or.f a0_0 a0_1 a0_2 a0_3 a0_0 a0_1 a0_2 a0_3).bind fun bt412 => (some (bt412.1 == a0_0 && (bt412.2.1 == a0_1 && (bt412.2.2.1 == a0_2 && (bt412.2.2.2 == a0_3)))))) else (none))) else (none)))))) else (none)))) else (none))))) = some r := H
          have A18 := Aside0.mk A180
          clear A180
          replace H := Option.bind_eq_some_iff.mp H
          obtain ⟨⟨t372, t373, t374, t375⟩, A190, H⟩ := H
          replace H : ((byteset_And.f a0_0 a0_1 a0_2 a0_3 a2_0 a2_1 a2_2 a2_3).bind fun bt376 => ((byteset_Or.f t372 t373 t374 t375 bt376.1 bt376.2.1 bt376.2.2.1 bt376.2.2.2).bind fun bt380 => (if (t368 == bt380.1 && (t369 == bt380.2.1 && (t370 == bt380.2.2.1 && (t371 == bt380.2.2.2)))) = true then ((byteset_Or.f a0_0 a0_1 a0_2 a0_3 a1_0 a1_1 a1_2 a1_3).bind fun bt384 => ((byteset_Or.f a1_0 a1_1 a1_2 a1_3 a0_0 a0_1 a0_2 a0_3).bind fun bt388 => (if (bt384.1 == bt388.1 && (bt384.2.1 == bt388.2.1 && (bt384.2.2.1 == bt388.2.2.1 && (bt384.2.2.2 == bt388.2.2.2)))) = true then ((byteset_Or.f a0_0 a0_1 a0_2 a0_3 a1_0 a1_1 a1_2 a1_3).bind fun bt392 => ((byteset_Or.f bt392.1 bt392.2.1 bt392.2.2.1 bt392.2.2.2 a2_0 a2_1 a2_2 a2_3).bind fun bt396 => ((byteset_Or.f a1_0 a1_1 a1_2 a1_3 a2_0 a2_1 a2_2 a2_3).bind fun bt400 => ((byteset_Or.f a0_0 a0_1 a0_2 a0_3 bt400.1 bt400.2.1 bt400.2.2.1 bt400.2.2.2).bind fun bt404 => (if (bt396.1 == bt404.1 && (bt396.2.1 == bt404.2.1 && (bt396.2.2.1 == bt404.2.2.1 && (bt396.2.2.2 == bt404.2.2.2)))) = true then ((byteset_Minus.f a0_0 a0_1 a0_2 a0_3 a0_0 a0_1 a0_2 a0_3).bind fun bt408 => (if (bt408.1 == 0 && (bt408.2.1 == 0 && (bt408.2.2.1 == 0 && (bt408.2.2.2 == 0)))) = true then ((byteset_Or.f a0_0 a0_1 a0_2 a0_3 a0_0 a0_1 a0_2 a0_3).bind fun bt412 => (some (bt412.1 == a0_0 && (bt412.2.1 == a0_1 && (bt412.2.2.1 == a0_2 && (bt412.2.2.2 == a0_3)))))) else (none))) else (none)))))) else (none)))) else (none)))) = some r := H
          have A19 := Aside0.mk A190
          clear A190
          replace H := Option.bind_eq_some_iff.mp H
          obtain ⟨⟨t376, t377, t378, t379⟩, A200, H⟩ := H
          replace H : ((byteset_Or.f t372 t373 t374 t375 t376 t377 t378 t379).bind fun bt380 => (if (t368 == bt380.1 && (t369 == bt380.2.1 && (t370 == bt380.2.2.1 && (t371 == bt380.2.2.2)))) = true then ((byteset_Or.f a0_0 a0_1 a0_2 a0_3 a1_0 a1_1 a1_2 a1_3).bind fun bt384 => ((byteset_Or.f a1_0 a1_1 a1_2 a1_3 a0_0 a0_1 a0_2 a0_3).bind fun bt388 => (if (bt384.1 == bt388.1 && (bt384.2.1 == bt388.2.1 && (bt384.2.2.1 == bt388.2.2.1 && (bt384.2.2.2 == bt388.2.2.2)))) = true then ((byteset_Or.f a0_0 a0_1 a0_2 a0_3 a1_0 a1_1 a1_2 a1_3).bind fun bt392 => ((byteset_Or.f bt392.1 bt392.2.1 bt392.2.2.1 bt392.2.2.2 a2_0 a2_1 a2_2 a2_3).bind fun bt396 => ((byteset_Or.f a1_0 a1_1 a1_2 a1_3 a2_0 a2_1 a2_2 a2_3).bind fun bt400 => ((byteset_Or.f a0_0 a0_1 a0_2 a0_3 bt400.1 bt400.2.1 bt400.2.2.1 bt400.2.2.2).bind fun bt404 => (if (bt396.1 == bt404.1 && (bt396.2.1 == bt404.2.1 && (bt396.2.2.1 == bt404.2.2.1 && (bt396.2.2.2 == bt404.2.2.2)))) = true then ((byteset_Minus.f a0_0 a0_1 a0_2 a0_3 a0_0 a0_1 a0_2 a0_3).bind fun bt408 => (if (bt408.1 == 0 && (bt408.2.1 == 0 && (bt408.2.2.1 == 0 && (bt408.2.2.2 == 0)))) = true then ((byteset_Or.f a0_0 a0_1 a0_2 a0_3 a0_0 a0_1 a0_2 a0_3).bind fun bt412 => (some (bt412.1 == a0_0 && (bt412.2.1 == a0_1 && (bt412.2.2.1 == a0_2 && (bt412.2.2.2 == a0_3)))))) else (none))) else (none)))))) else (none)))) else (none))) = some r := H
          have A20 := Aside0.mk A200
          clear A200
          replace H := Option.bind_eq_some_iff.mp H
          obtain ⟨⟨t380, t381, t382, t383⟩, A210, H⟩ := H
          replace H : (if (t368 == t380 && (t369 == t381 && (t370 == t382 && (t371 == t383)))) = true then ((byteset_Or.f a0_0 a0_1 a0_2 a0_3 a1_0 a1_1 a1_2 a1_3).bind fun bt384 => ((byteset_Or.f a1_0 a1_1 a1_2 a1_3 a0_0 a0_1 a0_2 a0_3).bind fun bt388 => (if (bt384.1 == bt388.1 && (bt384.2.1 == bt388.2.1 && (bt384.2.2.1 == bt388.2.2.1 && (bt384.2.2.2 == bt388.2.2.2)))) = true then ((byteset_Or.f a0_0 a0_1 a0_2 a0_3 a1_0 a1_1 a1_2 a1_3).bind fun bt392 => ((byteset_Or.f bt392.1 bt392.2.1 bt392.2.2.1 bt392.2.2.2 a2_0 a2_1 a2_2 a2_3).bind fun bt396 => ((byteset_Or.f a1_0 a1_1 a1_2 a1_3 a2_0 a2_1 a2_2 a2_3).bind fun bt400 => ((byteset_Or.f a0_0 a0_1 a0_2 a0_3 bt400.1 bt400.2.1 bt400.2.2.1 bt400.2.2.2).bind fun bt404 => (if (bt396.1 == bt404.1 && (bt396.2.1 == bt404.2.1 && (bt396.2.2.1 == bt404.2.2.1 && (bt396.2.2.2 == bt404.2.2.2)))) = true then ((byteset_Minus.f a0_0 a0_1 a0_2 a0_3 a0_0 a0_1 a0_2 a0_3).bind fun bt408 => (if (bt408.1 == 0 && (bt408.2.1 == 0 && (bt408.2.2.1 == 0 && (bt408.2.2.2 == 0)))) = true then ((byteset_Or.f a0_0 a0_1 a0_2 a0_3 a0_0 a0_1 a0_2 a0_3).bind fun bt412 => (some (bt412.1 == a0_0 && (bt412.2.1 == a0_1 && (bt412.2.2.1 == a0_2 && (bt412.2.2.2 == a0_3)))))) else (none))) else (none)))))) else (none)))) else (none)) = some r := H
          have A21 := Aside0.mk A210
          clear A210
          by_cases c22 : (t368 == t380 && (t369 == t381 && (t370 == t382 && (t371 == t383)))) = true
          · rw [if_pos c22] at H
            have c22b0 : (t368 == t380 && (t369 == t381 && (t370 == t382 && (t371 == t383)))) = true := c22
            (try (have c22b1 : decide (t368 = t380 && (t369 == t381 && (t370 == t382 && (t371 == t383)))) = true := by simpa using c22))
            (try (have c22b2 : (t368 == t380 && (t369 == t381 && (t370 == t382 && (t371 == t383)))) = true := by simpa using c22))
            clear c22
            replace H := Option.bind_eq_some_iff.mp H
            obtain ⟨⟨t384, t385, t386, t387⟩, A230, H⟩ := H
            replace H : ((byteset_Or.f a1_0 a1_1 a1_2 a1_3 a0_0 a0_1 a0_2 a0_3).bind fun bt388 => (if (t384 == bt388.1 && (t385 == bt388.2.1 && (t386 == bt388.2.2.1 && (t387 == bt388.2.2.2)))) = true then ((byteset_Or.f a0_0 a0_1 a0_2 a0_3 a1_0 a1_1 a1_2 a1_3).bind fun bt392 => ((byteset_Or.f bt392.1 bt392.2.1 bt392.2.2.1 bt392.2.2.2 a2_0 a2_1 a2_2 a2_3).bind fun bt396 => ((byteset_Or.f a1_0 a1_1 a1_2 a1_3 a2_0 a2_1 a2_2 a2_3).bind fun bt400 => ((byteset_Or.f a0_0 a0_1 a0_2 a0_3 bt400.1 bt400.2.1 bt400.2.2.1 bt400.2.2.2).bind fun bt404 => (if (bt396.1 == bt404.1 && (bt396.2.1 == bt404.2.1 && (bt396.2.2.1 == bt404.2.2.1 && (bt396.2.2.2 == bt404.2.2.2)))) = true then ((byteset_Minus.f a0_0 a0_1 a0_2 a0_3 a0_0 a0_1 a0_2 a0_3).bind fun bt408 => (if (bt408.1 == 0 && (bt408.2.1 == 0 && (bt408.2.2.1 == 0 && (bt408.2.2.2 == 0)))) = true then ((byteset_Or.f a0_0 a0_1 a0_2 a0_3 a0_0 a0_1 a0_2 a0_3).bind fun bt412 => (some (bt412.1 == a0_0 && (bt412.2.1 == a0_1 && (bt412.2.2.1 == a0_2 && (bt412.2.2.2 == a0_3)))))) else (none))) else (none)))))) else (none))) = some r := H
            have A23 := Aside0.mk A230
            clear A230
            replace H := Option.bind_eq_some_iff.mp H
            obtain ⟨⟨t388, t389, t390, t391⟩, A240, H⟩ := H
            replace H : (if (t384 == t388 && (t385 == t389 && (t386 == t390 && (t387 == t391)))) = true then ((byteset_Or.f a0_0 a0_1 a0_2 a0_3 a1_0 a1_1 a1_2 a1_3).bind fun bt392 => ((byteset_Or.f bt392.1 bt392.2.1 bt392.2.2.1 bt392.2.2.2 a2_0 a2_1 a2_2 a2_3).bind fun bt396 => ((byteset_Or.f a1_0 a1_1 a1_2 a1_3 a2_0 a2_1 a2_2 a2_3).bind fun bt400 => ((byteset_Or.f a0_0 a0_1 a0_2 a0_3 bt400.1 bt400.2.1 bt400.2.2.1 bt400.2.2.2).bind fun bt404 => (if (bt396.1 == bt404.1 && (bt396.2.1 == bt404.2.1 && (bt396.2.2.1 == bt404.2.2.1 && (bt396.2.2.2 == bt404.2.2.2)))) = true then ((byteset_Minus.f a0_0 a0_1 a0_2 a0_3 a0_0 a0_1 a0_2 a0_3).bind fun bt408 => (if (bt408.1 == 0 && (bt408.2.1 == 0 && (bt408.2.2.1 == 0 && (bt408.2.2.2 == 0)))) = true then ((byteset_Or.f a0_0 a0_1 a0_2 a0_3 a0_0 a0_1 a0_2 a0_3).bind fun bt412 => (some (bt412.1 == a0_0 && (bt412.2.1 == a0_1 && (bt412.2.2.1 == a0_2 && (bt412.2.2.2 == a0_3)))))) else (none))) else (none)))))) else (none)) = some r := H
            have A24 := Aside0.mk A240
            clear A240
            by_cases c25 : (t384 == t388 && (t385 == t389 && (t386 == t390 && (t387 == t391)))) = true
            · rw [if_pos c25] at H
              have c25b0 : (t384 == t388 && (t385 == t389 && (t386 == t390 && (t387 == t391)))) = true := c25
              (try (have c25b1 : decide (t384 = t388 && (t385 == t389 && (t386 == t390 && (t387 == t391)))) = true := by simpa using c25))
              (try (have c25b2 : (t384 == t388 && (t385 == t389 && (t386 == t390 && (t387 == t391)))) = true := by simpa using c25))
              clear c25
              replace H := Option.bind_eq_some_iff.mp H
              obtain ⟨⟨t392, t393, t394, t395⟩, A260, H⟩ := H
              replace H : ((byteset_Or.f t392 t393 t394 t395 a2_0 a2_1 a2_2 a2_3).bind fun bt396 => ((byteset_Or.f a1_0 a1_1 a1_2 a1_3 a2_0 a2_1 a2_2 a2_3).bind fun bt400 => ((byteset_Or.f a0_0 a0_1 a0_2 a0_3 bt400.1 bt400.2.1 bt400.2.2.1 bt400.2.2.2).bind fun bt404 => (if (bt396.1 == bt404.1 && (bt396.2.1 == bt404.2.1 && (bt396.2.2.1 == bt404.2.2.1 && (bt396.2.2.2 == bt404.2.2.2)))) = true then ((byteset_Minus.f a0_0 a0_1 a0_2 a0_3 a0_0 a0_1 a0_2 a0_3).bind fun bt408 => (if (bt408.1 == 0 && (bt408.2.1 == 0 && (bt408.2.2.1 == 0 && (bt408.2.2.2 == 0)))) = true then ((byteset_Or.f a0_0 a0_1 a0_2 a0_3 a0_0 a0_1 a0_2 a0_3).bind fun bt412 => (some (bt412.1 == a0_0 && (bt412.2.1 == a0_1 && (bt412.2.2.1 == a0_2 && (bt412.2.2.2 == a0_3)))))) else (none))) else (none))))) = some r := H
              have A26 := Aside0.mk A260
              clear A260
              replace H := Option.bind_eq_some_iff.mp H
              obtain ⟨⟨t396, t397, t398, t399⟩, A270, H⟩ := H
              replace H : ((byteset_Or.f a1_0 a1_1 a1_2 a1_3 a2_0 a2_1 a2_2 a2_3).bind fun bt400 => ((byteset_Or.f a0_0 a0_1 a0_2 a0_3 bt400.1 bt400.2.1 bt400.2.2.1 bt400.2.2.2).bind fun bt404 => (if (t396 == bt404.1 && (t397 == bt404.2.1 && (t398 == bt404.2.2.1 && (t399 == bt404.2.2.2)))) = true then ((byteset_Minus.f a0_0 a0_1 a0_2 a0_3 a0_0 a0_1 a0_2 a0_3).bind fun bt408 => (if (bt408.1 == 0 && (bt408.2.1 == 0 && (bt408.2.2.1 == 0 && (bt408.2.2.2 == 0)))) = true then ((byteset_Or.f a0_0 a0_1 a0_2 a0_3 a0_0 a0_1 a0_2 a0_3).bind fun bt412 => (some (bt412.1 == a0_0 && (bt412.2.1 == a0_1 && (bt412.2.2.1 == a0_2 && (bt412.2.2.2 == a0_3)))))) else (none))) else (none)))) = some r := H
              have A27 := Aside0.mk A270
              clear A270
              replace H := Option.bind_eq_some_iff.mp H
              obtain ⟨⟨t400, t401, t402, t403⟩, A280, H⟩ := H
              replace H : ((byteset_Or.f a0_0 a0_1 a0_2 a0_3 t400 t401 t402 t403).bind fun bt404 => (if (t396 == bt404.1 && (t397 == bt404.2.1 && (t398 == bt404.2.2.1 && (t399 == bt404.2.2.2)))) = true then ((byteset_Minus.f a0_0 a0_1 a0_2 a0_3 a0_0 a0_1 a0_2 a0_3).bind fun bt408 => (if (bt408.1 == 0 && (bt408.2.1 == 0 && (bt408.2.2.1 == 0 && (bt408.2.2.2 == 0)))) = true then ((byteset_Or.f a0_0 a0_1 a0_2 a0_3 a0_0 a0_1 a0_2 a0_3).bind fun bt412 => (some (bt412.1 == a0_0 && (bt412.2.1 == a0_1 && (bt412.2.2.1 == a0_2 && (bt412.2.2.2 == a0_3)))))) else (none))) else (none))) = some r := H
              have A28 := Aside0.mk A280
              clear A280
              replace H := Option.bind_eq_some_iff.mp H
              obtain ⟨⟨t404, t405, t406, t407⟩, A290, H⟩ := H
              replace H : (if (t396 == t404 && (t397 == t405 && (t398 == t406 && (t399 == t407)))) = true then ((byteset_Minus.f a0_0 a0_1 a0_2 a0_3 a0_0 a0_1 a0_2 a0_3).bind fun bt408 => (if (bt408.1 == 0 && (bt408.2.1 == 0 && (bt408.2.2.1 == 0 && (bt408.2.2.2 == 0)))) = true then ((byteset_Or.f a0_0 a0_1 a0_2 a0_3 a0_0 a0_1 a0_2 a0_3).bind fun bt412 => (some (bt412.1 == a0_0 && (bt412.2.1 == a0_1 && (bt412.2.2.1 == a0_2 && (bt412.2.2.2 == a0_3)))))) else (none))) else (none)) = some r := H
              have A29 := Aside0.mk A290
              clear A290
              by_cases c30 : (t396 == t404 && (t397 == t405 && (t398 == t406 && (t399 == t407)))) = true
              · rw [if_pos c30] at H
                have c30b0 : (t396 == t404 && (t397 == t405 && (t398 == t406 && (t399 == t407)))) = true := c30
                (try (have c30b1 : decide (t396 = t404 && (t397 == t405 && (t398 == t406 && (t399 == t407)))) = true := by simpa using c30))
                (try (have c30b2 : (t396 == t404 && (t397 == t405 && (t398 == t406 && (t399 == t407)))) = true := by simpa using c30))
                clear c30
                replace H := Option.bind_eq_some_iff.mp H
                obtain ⟨⟨t408, t409, t410, t411⟩, A310, H⟩ := H
                replace H : (if (t408 == 0 && (t409 == 0 && (t410 == 0 && (t411 == 0)))) = true then ((byteset_Or.f a0_0 a0_1 a0_2 a0_3 a0_0 a0_1 a0_2 a0_3).bind fun bt412 => (some (bt412.1 == a0_0 && (bt412.2.1 == a0_1 && (bt412.2.2.1 == a0_2 && (bt412.2.2.2 == a0_3)))))) else (none)) = some r := H
                have A31 := Aside0.mk A310
                clear A310
                by_cases c32 : (t408 == 0 && (t409 == 0 && (t410 == 0 && (t411 == 0)))) = true
                · rw [if_pos c32] at H
                  have c32b0 : (t408 == 0 && (t409 == 0 && (t410 == 0 && (t411 == 0)))) = true := c32
                  (try (have c32b1 : decide (t408 = 0 && (t409 == 0 && (t410 == 0 && (t411 == 0)))) = true := by simpa using c32))
                  (try (have c32b2 : (t408 == 0 && (t409 == 0 && (t410 == 0 && (t411 == 0)))) = true := by simpa using c32))
                  clear c32
                  replace H := Option.bind_eq_some_iff.mp H
                  obtain ⟨⟨t412, t413, t414, t415⟩, A330, H⟩ := H
                  replace H : (some (t412 == a0_0 && (t413 == a0_1 && (t414 == a0_2 && (t415 == a0_3))))) = some r := H
                  have A33 := Aside0.mk A330
                  clear A330
                  obtain rfl := Option.some.inj H
                  go_enter Try.func6, Try.ntmps6
                  try go_wp2_with (first | ((with_reducible refine gate_dst (N := 3) rfl ?_); refine box_event ?hg (N := 3) ?hd (cs := #[.int .u64 a0_0, .int .u64 a0_1, .int .u64 a0_2, .int .u64 a0_3]) (t := 24) ?hr ?_; (case hd => rfl); (case hg => rfl); (case hr => first | (go_simp; done) | (go_simp; rfl)); intro gb331 hg w34 hbox hb; have n0_ := Aside0.mk (below_step (by repeat (first | (with_reducible first | exact HB.out | apply below_alloc | apply pw_below_drewN | apply below_drew1) | exact HB.out)) hb); have n1_ := Aside0.mk (hbox); have n2_ := Aside0.mk ((by rw [hg]; exact (below_size (by repeat (first | (with_reducible first | exact HB.out | apply below_alloc | apply pw_below_drewN | apply below_drew1) | exact HB.out))) : w.heap.size ≤ gb331)); have n3_ := Aside0.mk ((by rw [hg]; exact (below_size (by repeat (first | (with_reducible first | exact HB.out | apply below_alloc | apply pw_below_drewN | apply below_drew1) | exact HB.out))) : w.heap.size ≤ gb331)); clear HB; have HB := n0_; have BK331 := n1_; have GW331 := n2_; have GE331 := n3_; clear n0_ n1_ n2_ n3_; clear hb hbox hg) | ((with_reducible refine gate_dst (N := 4) rfl ?_); refine box_event ?hg (N := 4) ?hd (cs := #[.int .u64 a1_0, .int .u64 a1_1, .int .u64 a1_2, .int .u64 a1_3]) (t := 24) ?hr ?_; (case hd => rfl); (case hg => rfl); (case hr => first | (go_simp; done) | (go_simp; rfl)); intro gb332 hg w35 hbox hb; have n0_ := Aside0.mk (blk_below (g := gb331) (o := .cells #[.int .u64 a0_0, .int .u64 a0_1, .int .u64 a0_2, .int .u64 a0_3] 24 (0, 0)) (by (with_reducible repeat (first | refine blk_drewN ?_ _ | refine blk_drew ?_ | refine blk_alloc ?_ _)); exact BK331.out) hb); have n1_ := Aside0.mk (below_step (by repeat (first | (with_reducible first | exact HB.out | apply below_alloc | apply pw_below_drewN | apply below_drew1 | refine below_set ?_ GE331.out) | exact HB.out)) hb); have n2_ := Aside0.mk (hbox); have n3_ := Aside0.mk ((by rw [hg]; exact (below_size (by repeat (first | (with_reducible first | exact HB.out | apply below_alloc | apply pw_below_drewN | apply below_drew1 | refine below_set ?_ GE331.out) | exact HB.out))) : w.heap.size ≤ gb332)); have n4_ := Aside0.mk ((by rw [hg]; exact (below_size (by repeat (first | (with_reducible first | exact HB.out | apply below_alloc | apply pw_below_drewN | apply below_drew1 | refine below_set ?_ GE331.out) | exact HB.out))) : w.heap.size ≤ gb332)); have n5_ := Aside0.mk ((by rw [hg]; exact Nat.ne_of_lt (blk_lt (g := gb331) (o := .cells #[.int .u64 a0_0, .int .u64 a0_1, .int .u64 a0_2, .int .u64 a0_3] 24 (0, 0)) (by (with_reducible repeat (first | refine blk_drewN ?_ _ | refine blk_drew ?_ | refine blk_alloc ?_ _)); exact BK331.out)) : gb331 ≠ gb332)); have n6_ := Aside0.mk ((by rw [hg]; exact Nat.ne_of_gt (blk_lt (g := gb331) (o := .cells #[.int .u64 a0_0, .int .u64 a0_1, .int .u64 a0_2, .int .u64 a0_3] 24 (0, 0)) (by (with_reducible repeat (first | refine blk_drewN ?_ _ | refine blk_drew ?_ | refine blk_alloc ?_ _)); exact BK331.out)) : gb332 ≠ gb331)); clear BK331; clear HB; have BK331 := n0_; have HB := n1_; have BK332 := n2_; have GW332 := n3_; have GE332 := n4_; have NB331_332 := n5_; have NB332_331 := n6_; clear n0_ n1_ n2_ n3_ n4_ n5_ n6_; clear hb hbox hg) | ((with_reducible refine gate_dst (N := 5) rfl ?_); refine box_event ?hg (N := 5) ?hd (cs := #[.int .u64 a2_0, .int .u64 a2_1, .int .u64 a2_2, .int .u64 a2_3]) (t := 24) ?hr ?_; (case hd => rfl); (case hg => rfl); (case hr => first | (go_simp; done) | (go_simp; rfl)); intro gb333 hg w36 hbox hb; have n0_ := Aside0.mk (blk_below (g := gb331) (o := .cells #[.int .u64 a0_0, .int .u64 a0_1, .int .u64 a0_2, .int .u64 a0_3] 24 (0, 0)) (by (with_reducible repeat (first | refine blk_drewN ?_ _ | refine blk_drew ?_ | refine blk_alloc ?_ _)); exact BK331.out) hb); have n1_ := Aside0.mk (blk_below (g := gb332) (o := .cells #[.int .u64 a1_0, .int .u64 a1_1, .int .u64 a1_2, .int .u64 a1_3] 24 (0, 0)) (by (with_reducible repeat (first | refine blk_drewN ?_ _ | refine blk_drew ?_ | refine blk_alloc ?_ _)); exact BK332.out) hb); have n2_ := Aside0.mk (below_step (by repeat (first | (with_reducible first | exact HB.out | apply below_alloc | apply pw_below_drewN | apply below_drew1 | refine below_set ?_ GE331.out | refine below_set ?_ GE332.out) | exact HB.out)) hb); have n3_ := Aside0.mk (hbox); have n4_ := Aside0.mk ((by rw [hg]; exact (below_size (by repeat (first | (with_reducible first | exact HB.out | apply below_alloc | apply pw_below_drewN | apply below_drew1 | refine below_set ?_ GE331.out | refine below_set ?_ GE332.out) | exact HB.out))) : w.heap.size ≤ gb333)); have n5_ := Aside0.mk ((by rw [hg]; exact (below_size (by repeat (first | (with_reducible first | exact HB.out | apply below_alloc | apply pw_below_drewN | apply below_drew1 | refine below_set ?_ GE331.out | refine below_set ?_ GE332.out) | exact HB.out))) : w.heap.size ≤ gb333)); have n6_ := Aside0.mk ((by rw [hg]; exact Nat.ne_of_lt (blk_lt (g := gb331) (o := .cells #[.int .u64 a0_0, .int .u64 a0_1, .int .u64 a0_2, .int .u64 a0_3] 24 (0, 0)) (by (with_reducible repeat (first | refine blk_drewN ?_ _ | refine blk_drew ?_ | refine blk_alloc ?_ _)); exact BK331.out)) : gb331 ≠ gb333)); have n7_ := Aside0.mk ((by rw [hg]; exact Nat.ne_of_gt (blk_lt (g := gb331) (o := .cells #[.int .u64 a0_0, .int .u64 a0_1, .int .u64 a0_2, .int .u64 a0_3] 24 (0, 0)) (by (with_reducible repeat (first | refine blk_drewN ?_ _ | refine blk_drew ?_ | refine blk_alloc ?_ _)); exact BK331.out)) : gb333 ≠ gb331)); have n8_ := Aside0.mk ((by rw [hg]; exact Nat.ne_of_lt (blk_lt (g := gb332) (o := .cells #[.int .u64 a1_0, .int .u64 a1_1, .int .u64 a1_2, .int .u64 a1_3] 24 (0, 0)) (by (with_reducible repeat (first | refine blk_drewN ?_ _ | refine blk_drew ?_ | refine blk_alloc ?_ _)); exact BK332.out)) : gb332 ≠ gb333)); have n9_ := Aside0.mk ((by rw [hg]; exact Nat.ne_of_gt (blk_lt (g := gb332) (o := .cells #[.int .u64 a1_0, .int .u64 a1_1, .int .u64 a1_2, .int .u64 a1_3] 24 (0, 0)) (by (with_reducible repeat (first | refine blk_drewN ?_ _ | refine blk_drew ?_ | refine blk_alloc ?_ _)); exact BK332.out)) : gb333 ≠ gb332)); clear BK331; clear BK332; clear HB; have BK331 := n0_; have BK332 := n1_; have HB := n2_; have BK333 := n3_; have GW333 := n4_; have GE333 := n5_; have NB331_333 := n6_; have NB333_331 := n7_; have NB332_333 := n8_; have NB333_332 := n9_; clear n0_ n1_ n2_ n3_ n4_ n5_ n6_ n7_ n8_ n9_; clear hb hbox hg) | ((with_reducible refine gate_callee (f := 24) rfl ?_); refine goesL_ (some 10) rfl rfl Try.func24 (by kernel_rfl) rfl #[] rfl (by (try simp only [List.map_toArray, List.map_cons, List.map_nil]); first | done | rfl | (simp only [List.length_drop, List.length_take]; rfl)) ?_; (with_reducible refine (templelaw1_awake.calls k  true _ A4.out).mono ?_); rintro e w37 ⟨rfl, hb⟩; refine ⟨_, rfl, ?_⟩; have n0_ := Aside0.mk (blk_below (g := gb331) (o := .cells #[.int .u64 a0_0, .int .u64 a0_1, .int .u64 a0_2, .int .u64 a0_3] 24 (0, 0)) (by (with_reducible repeat (first | refine blk_drewN ?_ _ | refine blk_drew ?_ | refine blk_alloc ?_ _)); exact BK331.out) hb); have n1_ := Aside0.mk (blk_below (g := gb332) (o := .cells #[.int .u64 a1_0, .int .u64 a1_1, .int .u64 a1_2, .int .u64 a1_3] 24 (0, 0)) (by (with_reducible repeat (first | refine blk_drewN ?_ _ | refine blk_drew ?_ | refine blk_alloc ?_ _)); exact BK332.out) hb); have n2_ := Aside0.mk (blk_below (g := gb333) (o := .cells #[.int .u64 a2_0, .int .u64 a2_1, .int .u64 a2_2, .int .u64 a2_3] 24 (0, 0)) (by (with_reducible repeat (first | refine blk_drewN ?_ _ | refine blk_drew ?_ | refine blk_alloc ?_ _)); exact BK333.out) hb); have n3_ := Aside0.mk (below_step (by repeat (first | (with_reducible first | exact HB.out | apply below_alloc | apply pw_below_drewN | apply below_drew1 | refine below_set ?_ GE331.out | refine below_set ?_ GE332.out | refine below_set ?_ GE333.out) | exact HB.out)) hb); clear BK331; clear BK332; clear BK333; clear HB; have BK331 := n0_; have BK332 := n1_; have BK333 := n2_; have HB := n3_; clear n0_ n1_ n2_ n3_; (try clear hb); (try clear hb2); (try clear hk); (try clear hi)) | ((with_reducible refine gate_callee (f := 10) rfl ?_); refine goesL_ (some 13) rfl rfl Try.func10 (by kernel_rfl) rfl #[.int .i64 0, .int .i64 255] rfl (by (try simp only [List.map_toArray, List.map_cons, List.map_nil]); first | done | rfl | (simp only [List.length_drop, List.length_take]; rfl)) ?_; (with_reducible refine (byteset_Range.calls 0 255 t335 t336 t337 t338 t339 _ A6.out).mono ?_); rintro e w38 ⟨rfl, hb⟩; refine ⟨_, rfl, ?_⟩; have n0_ := Aside0.mk (blk_below (g := gb331) (o := .cells #[.int .u64 a0_0, .int .u64 a0_1, .int .u64 a0_2, .int .u64 a0_3] 24 (0, 0)) (by (with_reducible repeat (first | refine blk_drewN ?_ _ | refine blk_drew ?_ | refine blk_alloc ?_ _)); exact BK331.out) hb); have n1_ := Aside0.mk (blk_below (g := gb332) (o := .cells #[.int .u64 a1_0, .int .u64 a1_1, .int .u64 a1_2, .int .u64 a1_3] 24 (0, 0)) (by (with_reducible repeat (first | refine blk_drewN ?_ _ | refine blk_drew ?_ | refine blk_alloc ?_ _)); exact BK332.out) hb); have n2_ := Aside0.mk (blk_below (g := gb333) (o := .cells #[.int .u64 a2_0, .int .u64 a2_1, .int .u64 a2_2, .int .u64 a2_3] 24 (0, 0)) (by (with_reducible repeat (first | refine blk_drewN ?_ _ | refine blk_drew ?_ | refine blk_alloc ?_ _)); exact BK333.out) hb); have n3_ := Aside0.mk (below_step (by repeat (first | (with_reducible first | exact HB.out | apply below_alloc | apply pw_below_drewN | apply below_drew1 | refine below_set ?_ GE331.out | refine below_set ?_ GE332.out | refine below_set ?_ GE333.out) | exact HB.out)) hb); clear BK331; clear BK332; clear BK333; clear HB; have BK331 := n0_; have BK332 := n1_; have BK333 := n2_; have HB := n3_; clear n0_ n1_ n2_ n3_; (try clear hb); (try clear hb2); (try clear hk); (try clear hi)) | ((with_reducible refine gate_dst (N := 7) rfl ?_); refine box_event ?hg (N := 7) ?hd (cs := #[.int .u64 0, .int .u64 0, .int .u64 0, .int .u64 0]) (t := 24) ?hr ?_; (case hd => rfl); (case hg => rfl); (case hr => first | (go_simp; done) | (go_simp; rfl)); intro gb340 hg w39 hbox hb; have n0_ := Aside0.mk (blk_below (g := gb331) (o := .cells #[.int .u64 a0_0, .int .u64 a0_1, .int .u64 a0_2, .int .u64 a0_3] 24 (0, 0)) (by (with_reducible repeat (first | refine blk_drewN ?_ _ | refine blk_drew ?_ | refine blk_alloc ?_ _)); exact BK331.out) hb); have n1_ := Aside0.mk (blk_below (g := gb332) (o := .cells #[.int .u64 a1_0, .int .u64 a1_1, .int .u64 a1_2, .int .u64 a1_3] 24 (0, 0)) (by (with_reducible repeat (first | refine blk_drewN ?_ _ | refine blk_drew ?_ | refine blk_alloc ?_ _)); exact BK332.out) hb); have n2_ := Aside0.mk (blk_below (g := gb333) (o := .cells #[.int .u64 a2_0, .int .u64 a2_1, .int .u64 a2_2, .int .u64 a2_3] 24 (0, 0)) (by (with_reducible repeat (first | refine blk_drewN ?_ _ | refine blk_drew ?_ | refine blk_alloc ?_ _)); exact BK333.out) hb); have n3_ := Aside0.mk (below_step (by repeat (first | (with_reducible first | exact HB.out | apply below_alloc | apply pw_below_drewN | apply below_drew1 | refine below_set ?_ GE331.out | refine below_set ?_ GE332.out | refine below_set ?_ GE333.out) | exact HB.out)) hb); have n4_ := Aside0.mk (hbox); have n5_ := Aside0.mk ((by rw [hg]; exact (below_size (by repeat (first | (with_reducible first | exact HB.out | apply below_alloc | apply pw_below_drewN | apply below_drew1 | refine below_set ?_ GE331.out | refine below_set ?_ GE332.out | refine below_set ?_ GE333.out) | exact HB.out))) : w.heap.size ≤ gb340)); have n6_ := Aside0.mk ((by rw [hg]; exact (below_size (by repeat (first | (with_reducible first | exact HB.out | apply below_alloc | apply pw_below_drewN | apply below_drew1 | refine below_set ?_ GE331.out | refine below_set ?_ GE332.out | refine below_set ?_ GE333.out) | exact HB.out))) : w.heap.size ≤ gb340)); have n7_ := Aside0.mk ((by rw [hg]; exact Nat.ne_of_lt (blk_lt (g := gb331) (o := .cells #[.int .u64 a0_0, .int .u64 a0_1, .int .u64 a0_2, .int .u64 a0_3] 24 (0, 0)) (by (with_reducible repeat (first | refine blk_drewN ?_ _ | refine blk_drew ?_ | refine blk_alloc ?_ _)); exact BK331.out)) : gb331 ≠ gb340)); have n8_ := Aside0.mk ((by rw [hg]; exact Nat.ne_of_gt (blk_lt (g := gb331) (o := .cells #[.int .u64 a0_0, .int .u64 a0_1, .int .u64 a0_2, .int .u64 a0_3] 24 (0, 0)) (by (with_reducible repeat (first | refine blk_drewN ?_ _ | refine blk_drew ?_ | refine blk_alloc ?_ _)); exact BK331.out)) : gb340 ≠ gb331)); have n9_ := Aside0.mk ((by rw [hg]; exact Nat.ne_of_lt (blk_lt (g := gb332) (o := .cells #[.int .u64 a1_0, .int .u64 a1_1, .int .u64 a1_2, .int .u64 a1_3] 24 (0, 0)) (by (with_reducible repeat (first | refine blk_drewN ?_ _ | refine blk_drew ?_ | refine blk_alloc ?_ _)); exact BK332.out)) : gb332 ≠ gb340)); have n10_ := Aside0.mk ((by rw [hg]; exact Nat.ne_of_gt (blk_lt (g := gb332) (o := .cells #[.int .u64 a1_0, .int .u64 a1_1, .int .u64 a1_2, .int .u64 a1_3] 24 (0, 0)) (by (with_reducible repeat (first | refine blk_drewN ?_ _ | refine blk_drew ?_ | refine blk_alloc ?_ _)); exact BK332.out)) : gb340 ≠ gb332)); have n11_ := Aside0.mk ((by rw [hg]; exact Nat.ne_of_lt (blk_lt (g := gb333) (o := .cells #[.int .u64 a2_0, .int .u64 a2_1, .int .u64 a2_2, .int .u64 a2_3] 24 (0, 0)) (by (with_reducible repeat (first | refine blk_drewN ?_ _ | refine blk_drew ?_ | refine blk_alloc ?_ _)); exact BK333.out)) : gb333 ≠ gb340)); have n12_ := Aside0.mk ((by rw [hg]; exact Nat.ne_of_gt (blk_lt (g := gb333) (o := .cells #[.int .u64 a2_0, .int .u64 a2_1, .int .u64 a2_2, .int .u64 a2_3] 24 (0, 0)) (by (with_reducible repeat (first | refine blk_drewN ?_ _ | refine blk_drew ?_ | refine blk_alloc ?_ _)); exact BK333.out)) : gb340 ≠ gb333)); clear BK331; clear BK332; clear BK333; clear HB; have BK331 := n0_; have BK332 := n1_; have BK333 := n2_; have HB := n3_; have BK340 := n4_; have GW340 := n5_; have GE340 := n6_; have NB331_340 := n7_; have NB340_331 := n8_; have NB332_340 := n9_; have NB340_332 := n10_; have NB333_340 := n11_; have NB340_333 := n12_; clear n0_ n1_ n2_ n3_ n4_ n5_ n6_ n7_ n8_ n9_ n10_ n11_ n12_; clear hb hbox hg; have hnb40 := NB340_331.out; have hnc40 := NB331_340.out; have hnb41 := NB340_332.out; have hnc41 := NB332_340.out; have hnb42 := NB340_333.out; have hnc42 := NB333_340.out; have hcz43_0 : w39.cell? ⟨gb340, 0, none⟩ = some (.int .u64 0) := (blk_cell BK340.out 0).trans rfl; have hcz43_1 : w39.cell? ⟨gb340, 1, none⟩ = some (.int .u64 0) := (blk_cell BK340.out 1).trans rfl; have hcz43_2 : w39.cell? ⟨gb340, 2, none⟩ = some (.int .u64 0) := (blk_cell BK340.out 2).trans rfl; have hcz43_3 : w39.cell? ⟨gb340, 3, none⟩ = some (.int .u64 0) := (blk_cell BK340.out 3).trans rfl; have hfz43_0 := blk_frozen BK340.out 0; have hfz43_1 := blk_frozen BK340.out 1; have hfz43_2 := blk_frozen BK340.out 2; have hfz43_3 := blk_frozen BK340.out 3))
                  have n0_ : Aside0 (((((w39.setCell ⟨gb340, 0, none⟩ (.int .u64 t335)).setCell ⟨gb340, 1, none⟩ (.int .u64 t336)).setCell ⟨gb340, 2, none⟩ (.int .u64 t337)).setCell ⟨gb340, 3, none⟩ (.int .u64 t338)).heap[gb331]? = some (.cells #[.int .u64 a0_0, .int .u64 a0_1, .int .u64 a0_2, .int .u64 a0_3] 24 (0, 0))) := ⟨by (with_reducible repeat (first | refine blk_drewN ?_ _ | refine blk_drew ?_ | refine blk_alloc ?_ _)); refine blk_far ?_ NB331_340.out _; (with_reducible repeat (first | refine blk_drewN ?_ _ | refine blk_drew ?_ | refine blk_alloc ?_ _)); refine blk_far ?_ NB331_340.out _; (with_reducible repeat (first | refine blk_drewN ?_ _ | refine blk_drew ?_ | refine blk_alloc ?_ _)); refine blk_far ?_ NB331_340.out _; (with_reducible repeat (first | refine blk_drewN ?_ _ | refine blk_drew ?_ | refine blk_alloc ?_ _)); refine blk_far ?_ NB331_340.out _; (with_reducible repeat (first | refine blk_drewN ?_ _ | refine blk_drew ?_ | refine blk_alloc ?_ _)); exact BK331.out⟩
                  have n1_ : Aside0 (((((w39.setCell ⟨gb340, 0, none⟩ (.int .u64 t335)).setCell ⟨gb340, 1, none⟩ (.int .u64 t336)).setCell ⟨gb340, 2, none⟩ (.int .u64 t337)).setCell ⟨gb340, 3, none⟩ (.int .u64 t338)).heap[gb332]? = some (.cells #[.int .u64 a1_0, .int .u64 a1_1, .int .u64 a1_2, .int .u64 a1_3] 24 (0, 0))) := ⟨by (with_reducible repeat (first | refine blk_drewN ?_ _ | refine blk_drew ?_ | refine blk_alloc ?_ _)); refine blk_far ?_ NB332_340.out _; (with_reducible repeat (first | refine blk_drewN ?_ _ | refine blk_drew ?_ | refine blk_alloc ?_ _)); refine blk_far ?_ NB332_340.out _; (with_reducible repeat (first | refine blk_drewN ?_ _ | refine blk_drew ?_ | refine blk_alloc ?_ _)); refine blk_far ?_ NB332_340.out _; (with_reducible repeat (first | refine blk_drewN ?_ _ | refine blk_drew ?_ | refine blk_alloc ?_ _)); refine blk_far ?_ NB332_340.out _; (with_reducible repeat (first | refine blk_drewN ?_ _ | refine blk_drew ?_ | refine blk_alloc ?_ _)); exact BK332.out⟩
                  have n2_ : Aside0 (((((w39.setCell ⟨gb340, 0, none⟩ (.int .u64 t335)).setCell ⟨gb340, 1, none⟩ (.int .u64 t336)).setCell ⟨gb340, 2, none⟩ (.int .u64 t337)).setCell ⟨gb340, 3, none⟩ (.int .u64 t338)).heap[gb333]? = some (.cells #[.int .u64 a2_0, .int .u64 a2_1, .int .u64 a2_2, .int .u64 a2_3] 24 (0, 0))) := ⟨by (with_reducible repeat (first | refine blk_drewN ?_ _ | refine blk_drew ?_ | refine blk_alloc ?_ _)); refine blk_far ?_ NB333_340.out _; (with_reducible repeat (first | refine blk_drewN ?_ _ | refine blk_drew ?_ | refine blk_alloc ?_ _)); refine blk_far ?_ NB333_340.out _; (with_reducible repeat (first | refine blk_drewN ?_ _ | refine blk_drew ?_ | refine blk_alloc ?_ _)); refine blk_far ?_ NB333_340.out _; (with_reducible repeat (first | refine blk_drewN ?_ _ | refine blk_drew ?_ | refine blk_alloc ?_ _)); refine blk_far ?_ NB333_340.out _; (with_reducible repeat (first | refine blk_drewN ?_ _ | refine blk_drew ?_ | refine blk_alloc ?_ _)); exact BK333.out⟩
                  have n3_ : Aside0 (((((w39.setCell ⟨gb340, 0, none⟩ (.int .u64 t335)).setCell ⟨gb340, 1, none⟩ (.int .u64 t336)).setCell ⟨gb340, 2, none⟩ (.int .u64 t337)).setCell ⟨gb340, 3, none⟩ (.int .u64 t338)).heap[gb340]? = some (.cells #[.int .u64 t335, .int .u64 t336, .int .u64 t337, .int .u64 t338] 24 (0, 0))) := ⟨by (with_reducible repeat (first | refine blk_drewN ?_ _ | refine blk_drew ?_ | refine blk_alloc ?_ _)); refine blk_put (cs := #[.int .u64 t335, .int .u64 t336, .int .u64 t337, .int .u64 0]) ?_ 3 _ rfl; (with_reducible repeat (first | refine blk_drewN ?_ _ | refine blk_drew ?_ | refine blk_alloc ?_ _)); refine blk_put (cs := #[.int .u64 t335, .int .u64 t336, .int .u64 0, .int .u64 0]) ?_ 2 _ rfl; (with_reducible repeat (first | refine blk_drewN ?_ _ | refine blk_drew ?_ | refine blk_alloc ?_ _)); refine blk_put (cs := #[.int .u64 t335, .int .u64 0, .int .u64 0, .int .u64 0]) ?_ 1 _ rfl; (with_reducible repeat (first | refine blk_drewN ?_ _ | refine blk_drew ?_ | refine blk_alloc ?_ _)); refine blk_put (cs := #[.int .u64 0, .int .u64 0, .int .u64 0, .int .u64 0]) ?_ 0 _ rfl; (with_reducible repeat (first | refine blk_drewN ?_ _ | refine blk_drew ?_ | refine blk_alloc ?_ _)); exact BK340.out⟩
                  have n4_ : Aside0 (Below w.heap.size w ((((w39.setCell ⟨gb340, 0, none⟩ (.int .u64 t335)).setCell ⟨gb340, 1, none⟩ (.int .u64 t336)).setCell ⟨gb340, 2, none⟩ (.int .u64 t337)).setCell ⟨gb340, 3, none⟩ (.int .u64 t338))) := ⟨by repeat (first | (with_reducible first | exact HB.out | apply below_alloc | apply pw_below_drewN | apply below_drew1 | refine below_set ?_ GE331.out | refine below_set ?_ GE332.out | refine below_set ?_ GE333.out | refine below_set ?_ GE340.out) | exact HB.out)⟩
                  (try clear BK331)
                  (try clear BK332)
                  (try clear BK333)
                  (try clear BK340)
                  (try clear HB)
                  generalize ((((w39.setCell ⟨gb340, 0, none⟩ (.int .u64 t335)).setCell ⟨gb340, 1, none⟩ (.int .u64 t336)).setCell ⟨gb340, 2, none⟩ (.int .u64 t337)).setCell ⟨gb340, 3, none⟩ (.int .u64 t338)) = w44 at n0_ n1_ n2_ n3_ n4_ ⊢
                  have BK331 := n0_
                  have BK332 := n1_
                  have BK333 := n2_
                  have BK340 := n3_
                  have HB := n4_
                  clear n0_ n1_ n2_ n3_ n4_
                  have n0_ := Aside0.mk (blk_drew BK331.out)
                  have n1_ := Aside0.mk (blk_drew BK332.out)
                  have n2_ := Aside0.mk (blk_drew BK333.out)
                  have n3_ := Aside0.mk (blk_drew BK340.out)
                  have n4_ := Aside0.mk (below_drew1 HB.out)
                  clear BK331
                  clear BK332
                  clear BK333
                  clear BK340
                  clear HB
                  have BK331 := n0_
                  have BK332 := n1_
                  have BK333 := n2_
                  have BK340 := n3_
                  have HB := n4_
                  clear n0_ n1_ n2_ n3_ n4_
                  refine start_ (n := 7) (S := fun w' => w'.cell? ⟨gb340, 0, none⟩ = some (.int .u64 t335) ∧ w'.cell? ⟨gb340, 1, none⟩ = some (.int .u64 t336) ∧ w'.cell? ⟨gb340, 2, none⟩ = some (.int .u64 t337) ∧ w'.cell? ⟨gb340, 3, none⟩ = some (.int .u64 t338) ∧ w'.cell? ⟨gb331, 0, none⟩ = some (.int .u64 a0_0) ∧ w'.cell? ⟨gb331, 1, none⟩ = some (.int .u64 a0_1) ∧ w'.cell? ⟨gb331, 2, none⟩ = some (.int .u64 a0_2) ∧ w'.cell? ⟨gb331, 3, none⟩ = some (.int .u64 a0_3) ∧ w'.cell? ⟨gb332, 0, none⟩ = some (.int .u64 a1_0) ∧ w'.cell? ⟨gb332, 1, none⟩ = some (.int .u64 a1_1) ∧ w'.cell? ⟨gb332, 2, none⟩ = some (.int .u64 a1_2) ∧ w'.cell? ⟨gb332, 3, none⟩ = some (.int .u64 a1_3)) (ds := []) #[false, false, false, false, false, false, false] (by kernel_rfl) rfl rfl ⟨(blk_cell BK340.out 0).trans rfl, (blk_cell BK340.out 1).trans rfl, (blk_cell BK340.out 2).trans rfl, (blk_cell BK340.out 3).trans rfl, (blk_cell BK331.out 0).trans rfl, (blk_cell BK331.out 1).trans rfl, (blk_cell BK331.out 2).trans rfl, (blk_cell BK331.out 3).trans rfl, (blk_cell BK332.out 0).trans rfl, (blk_cell BK332.out 1).trans rfl, (blk_cell BK332.out 2).trans rfl, (blk_cell BK332.out 3).trans rfl⟩ (fun hHeld => ?_)
                  generalize w44.drew = w45 at BK331 BK332 BK333 BK340 HB hHeld ⊢
                  refine take_ (i := 0) (N := some 16) (v := ?_) (a' := ?_) #[true, false, false, false, false, false, false] rfl rfl (by kernel_rfl) (fun _ _ _ h => h) (Or.inl ⟨by rfl, ?_⟩) hHeld ?_ ?_
                  rotate_left
                  · rintro w' ⟨s0, s1, s2, s3, s4, s5, s6, s7, s8, s9, s10, s11⟩
                    go_simp
                    with_reducible rfl
                  rotate_left
                  · simp only [Act.put, List.setIfInBounds_toArray, List.set_cons_zero, List.set_cons_succ, i64_w, i32_w]
                    rfl
                  refine take_ (i := 1) (N := some 17) (v := ?_) (a' := ?_) #[true, true, false, false, false, false, false] rfl rfl (by kernel_rfl) (fun _ _ _ h => h) (Or.inl ⟨by rfl, ?_⟩) hHeld ?_ ?_
                  rotate_left
                  · rintro w' ⟨s0, s1, s2, s3, s4, s5, s6, s7, s8, s9, s10, s11⟩
                    go_simp
                    with_reducible rfl
                  rotate_left
                  · simp only [Act.put, List.setIfInBounds_toArray, List.set_cons_zero, List.set_cons_succ, i64_w, i32_w]
                    rfl
                  refine take_ (i := 2) (N := some 18) (v := ?_) (a' := ?_) #[true, true, true, false, false, false, false] rfl rfl (by kernel_rfl) (fun _ _ _ h => h) (Or.inl ⟨by rfl, ?_⟩) hHeld ?_ ?_
                  rotate_left
                  · rintro w' ⟨s0, s1, s2, s3, s4, s5, s6, s7, s8, s9, s10, s11⟩
                    go_simp
                    with_reducible rfl
                  rotate_left
                  · simp only [Act.put, List.setIfInBounds_toArray, List.set_cons_zero, List.set_cons_succ, i64_w, i32_w]
                    rfl
                  refine join_ (σ := Nat) 1 #[true, true, true, true, true, true, false] (fun s_ => [(19, .agg #[.int .u64 t341, .int .u64 t342, .int .u64 t343, .int .u64 t344]), (20, .agg #[.int .u64 t345, .int .u64 t346, .int .u64 t347, .int .u64 t348]), (9, .pointer (some ⟨s_, 0, none⟩))]) (fun s_ w' => (w'.cell? ⟨gb340, 0, none⟩ = some (.int .u64 t335) ∧ w'.cell? ⟨gb340, 1, none⟩ = some (.int .u64 t336) ∧ w'.cell? ⟨gb340, 2, none⟩ = some (.int .u64 t337) ∧ w'.cell? ⟨gb340, 3, none⟩ = some (.int .u64 t338) ∧ w'.cell? ⟨gb331, 0, none⟩ = some (.int .u64 a0_0) ∧ w'.cell? ⟨gb331, 1, none⟩ = some (.int .u64 a0_1) ∧ w'.cell? ⟨gb331, 2, none⟩ = some (.int .u64 a0_2) ∧ w'.cell? ⟨gb331, 3, none⟩ = some (.int .u64 a0_3) ∧ w'.cell? ⟨gb332, 0, none⟩ = some (.int .u64 a1_0) ∧ w'.cell? ⟨gb332, 1, none⟩ = some (.int .u64 a1_1) ∧ w'.cell? ⟨gb332, 2, none⟩ = some (.int .u64 a1_2) ∧ w'.cell? ⟨gb332, 3, none⟩ = some (.int .u64 a1_3)) ∧ (w'.heap[gb331]? = some (.cells #[.int .u64 a0_0, .int .u64 a0_1, .int .u64 a0_2, .int .u64 a0_3] 24 (0, 0))) ∧ (w'.heap[gb332]? = some (.cells #[.int .u64 a1_0, .int .u64 a1_1, .int .u64 a1_2, .int .u64 a1_3] 24 (0, 0))) ∧ (w'.heap[gb333]? = some (.cells #[.int .u64 a2_0, .int .u64 a2_1, .int .u64 a2_2, .int .u64 a2_3] 24 (0, 0))) ∧ (w'.heap[gb340]? = some (.cells #[.int .u64 t335, .int .u64 t336, .int .u64 t337, .int .u64 t338] 24 (0, 0))) ∧ (w'.heap[s_]? = some (.cells #[.int .u64 0, .int .u64 0, .int .u64 0, .int .u64 0] 24 (0, 0))) ∧ (w.heap.size ≤ s_) ∧ (w.heap.size ≤ s_) ∧ (gb331 ≠ s_) ∧ (s_ ≠ gb331) ∧ (gb332 ≠ s_) ∧ (s_ ≠ gb332) ∧ (gb333 ≠ s_) ∧ (s_ ≠ gb333) ∧ (gb340 ≠ s_) ∧ (s_ ≠ gb340) ∧ (Below w.heap.size w w')) ?_ ?_
                  rotate_left
                  · intro hCont
                    refine two_ (i := 3) (j := 5) (Ni := some 19) (Nj := some 9) #[true, true, true, true, false, false, false] #[true, true, true, false, false, true, false] rfl rfl rfl rfl (by kernel_rfl) (by decide) (by decide) (fun K hK => ?_) (fun K hK => ?_)
                    · skip
                      refine goes_ Try.func15 (by kernel_rfl) rfl #[.agg #[.int .u64 a0_0, .int .u64 a0_1, .int .u64 a0_2, .int .u64 a0_3], .agg #[.int .u64 a1_0, .int .u64 a1_1, .int .u64 a1_2, .int .u64 a1_3]] (by rfl) rfl rfl (by (try simp only [List.map_toArray, List.map_cons, List.map_nil]); first | done | rfl | (simp only [List.length_drop, List.length_take]; rfl)) ?_
                      with_reducible refine (byteset_Or.calls a0_0 a0_1 a0_2 a0_3 a1_0 a1_1 a1_2 a1_3 t341 t342 t343 t344 _ A7.out).mono ?_
                      rintro e w46 ⟨rfl, hb⟩
                      refine ⟨_, rfl, ?_⟩
                      have n0_ := Aside0.mk (blk_below (g := gb331) (o := .cells #[.int .u64 a0_0, .int .u64 a0_1, .int .u64 a0_2, .int .u64 a0_3] 24 (0, 0)) (by (with_reducible repeat (first | refine blk_drewN ?_ _ | refine blk_drew ?_ | refine blk_alloc ?_ _)); exact BK331.out) hb)
                      have n1_ := Aside0.mk (blk_below (g := gb332) (o := .cells #[.int .u64 a1_0, .int .u64 a1_1, .int .u64 a1_2, .int .u64 a1_3] 24 (0, 0)) (by (with_reducible repeat (first | refine blk_drewN ?_ _ | refine blk_drew ?_ | refine blk_alloc ?_ _)); exact BK332.out) hb)
                      have n2_ := Aside0.mk (blk_below (g := gb333) (o := .cells #[.int .u64 a2_0, .int .u64 a2_1, .int .u64 a2_2, .int .u64 a2_3] 24 (0, 0)) (by (with_reducible repeat (first | refine blk_drewN ?_ _ | refine blk_drew ?_ | refine blk_alloc ?_ _)); exact BK333.out) hb)
                      have n3_ := Aside0.mk (blk_below (g := gb340) (o := .cells #[.int .u64 t335, .int .u64 t336, .int .u64 t337, .int .u64 t338] 24 (0, 0)) (by (with_reducible repeat (first | refine blk_drewN ?_ _ | refine blk_drew ?_ | refine blk_alloc ?_ _)); exact BK340.out) hb)
                      have n4_ := Aside0.mk (below_step (by repeat (first | (with_reducible first | exact HB.out | apply below_alloc | apply pw_below_drewN | apply below_drew1 | refine below_set ?_ GE331.out | refine below_set ?_ GE332.out | refine below_set ?_ GE333.out | refine below_set ?_ GE340.out) | exact HB.out)) hb)
                      clear BK331
                      clear BK332
                      clear BK333
                      clear BK340
                      clear HB
                      have BK331 := n0_
                      have BK332 := n1_
                      have BK333 := n2_
                      have BK340 := n3_
                      have HB := n4_
                      clear n0_ n1_ n2_ n3_ n4_
                      (try clear hb)
                      (try clear hb2)
                      (try clear hk)
                      (try clear hi)
                      refine hK.out _ _ ⟨(blk_cell BK340.out 0).trans rfl, (blk_cell BK340.out 1).trans rfl, (blk_cell BK340.out 2).trans rfl, (blk_cell BK340.out 3).trans rfl, (blk_cell BK331.out 0).trans rfl, (blk_cell BK331.out 1).trans rfl, (blk_cell BK331.out 2).trans rfl, (blk_cell BK331.out 3).trans rfl, (blk_cell BK332.out 0).trans rfl, (blk_cell BK332.out 1).trans rfl, (blk_cell BK332.out 2).trans rfl, (blk_cell BK332.out 3).trans rfl⟩ (fun hHeld => ?_)
                      clear hK K
                      refine norm_ (a' := ?_) ?_ ?_
                      rotate_left
                      · show Act.put _ (some 19) _ = _
                        simp only [Act.put, List.setIfInBounds_toArray, List.set_cons_zero, List.set_cons_succ, i64_w, i32_w]
                        rfl
                      refine two_ (i := 4) (j := 5) (Ni := some 20) (Nj := some 9) #[true, true, true, true, true, false, false] #[true, true, true, true, false, true, false] rfl rfl rfl rfl (by kernel_rfl) (by decide) (by decide) (fun K hK => ?_) (fun K hK => ?_)
                      · skip
                        refine goes_ Try.func18 (by kernel_rfl) rfl #[.agg #[.int .u64 t335, .int .u64 t336, .int .u64 t337, .int .u64 t338], .agg #[.int .u64 t341, .int .u64 t342, .int .u64 t343, .int .u64 t344]] (by rfl) rfl rfl (by (try simp only [List.map_toArray, List.map_cons, List.map_nil]); first | done | rfl | (simp only [List.length_drop, List.length_take]; rfl)) ?_
                        with_reducible refine (byteset_Minus.calls t335 t336 t337 t338 t341 t342 t343 t344 t345 t346 t347 t348 _ A8.out).mono ?_
                        rintro e w47 ⟨rfl, hb⟩
                        refine ⟨_, rfl, ?_⟩
                        have n0_ := Aside0.mk (blk_below (g := gb331) (o := .cells #[.int .u64 a0_0, .int .u64 a0_1, .int .u64 a0_2, .int .u64 a0_3] 24 (0, 0)) (by (with_reducible repeat (first | refine blk_drewN ?_ _ | refine blk_drew ?_ | refine blk_alloc ?_ _)); exact BK331.out) hb)
                        have n1_ := Aside0.mk (blk_below (g := gb332) (o := .cells #[.int .u64 a1_0, .int .u64 a1_1, .int .u64 a1_2, .int .u64 a1_3] 24 (0, 0)) (by (with_reducible repeat (first | refine blk_drewN ?_ _ | refine blk_drew ?_ | refine blk_alloc ?_ _)); exact BK332.out) hb)
                        have n2_ := Aside0.mk (blk_below (g := gb333) (o := .cells #[.int .u64 a2_0, .int .u64 a2_1, .int .u64 a2_2, .int .u64 a2_3] 24 (0, 0)) (by (with_reducible repeat (first | refine blk_drewN ?_ _ | refine blk_drew ?_ | refine blk_alloc ?_ _)); exact BK333.out) hb)
                        have n3_ := Aside0.mk (blk_below (g := gb340) (o := .cells #[.int .u64 t335, .int .u64 t336, .int .u64 t337, .int .u64 t338] 24 (0, 0)) (by (with_reducible repeat (first | refine blk_drewN ?_ _ | refine blk_drew ?_ | refine blk_alloc ?_ _)); exact BK340.out) hb)
                        have n4_ := Aside0.mk (below_step (by repeat (first | (with_reducible first | exact HB.out | apply below_alloc | apply pw_below_drewN | apply below_drew1 | refine below_set ?_ GE331.out | refine below_set ?_ GE332.out | refine below_set ?_ GE333.out | refine below_set ?_ GE340.out) | exact HB.out)) hb)
                        clear BK331
                        clear BK332
                        clear BK333
                        clear BK340
                        clear HB
                        have BK331 := n0_
                        have BK332 := n1_
                        have BK333 := n2_
                        have BK340 := n3_
                        have HB := n4_
                        clear n0_ n1_ n2_ n3_ n4_
                        (try clear hb)
                        (try clear hb2)
                        (try clear hk)
                        (try clear hi)
                        refine hK.out _ _ ⟨(blk_cell BK340.out 0).trans rfl, (blk_cell BK340.out 1).trans rfl, (blk_cell BK340.out 2).trans rfl, (blk_cell BK340.out 3).trans rfl, (blk_cell BK331.out 0).trans rfl, (blk_cell BK331.out 1).trans rfl, (blk_cell BK331.out 2).trans rfl, (blk_cell BK331.out 3).trans rfl, (blk_cell BK332.out 0).trans rfl, (blk_cell BK332.out 1).trans rfl, (blk_cell BK332.out 2).trans rfl, (blk_cell BK332.out 3).trans rfl⟩ (fun hHeld => ?_)
                        clear hK K
                        refine norm_ (a' := ?_) ?_ ?_
                        rotate_left
                        · show Act.put _ (some 20) _ = _
                          simp only [Act.put, List.setIfInBounds_toArray, List.set_cons_zero, List.set_cons_succ, i64_w, i32_w]
                          rfl
                        refine one_ (i := 5) (N := some 9) #[true, true, true, true, true, true, false] rfl rfl (by kernel_rfl) (by decide) (fun K hK => ?_)
                        refine box_step ?hg (N := 9) ?hd (cs := #[.int .u64 0, .int .u64 0, .int .u64 0, .int .u64 0]) (t := 24) ?hr ?_; (case hd => rfl); (case hg => rfl); (case hr => first | (go_simp; done) | (go_simp; rfl))
                        intro gb349 hg w48 hbox hb
                        have n0_ := Aside0.mk (blk_below (g := gb331) (o := .cells #[.int .u64 a0_0, .int .u64 a0_1, .int .u64 a0_2, .int .u64 a0_3] 24 (0, 0)) (by (with_reducible repeat (first | refine blk_drewN ?_ _ | refine blk_drew ?_ | refine blk_alloc ?_ _)); exact BK331.out) hb)
                        have n1_ := Aside0.mk (blk_below (g := gb332) (o := .cells #[.int .u64 a1_0, .int .u64 a1_1, .int .u64 a1_2, .int .u64 a1_3] 24 (0, 0)) (by (with_reducible repeat (first | refine blk_drewN ?_ _ | refine blk_drew ?_ | refine blk_alloc ?_ _)); exact BK332.out) hb)
                        have n2_ := Aside0.mk (blk_below (g := gb333) (o := .cells #[.int .u64 a2_0, .int .u64 a2_1, .int .u64 a2_2, .int .u64 a2_3] 24 (0, 0)) (by (with_reducible repeat (first | refine blk_drewN ?_ _ | refine blk_drew ?_ | refine blk_alloc ?_ _)); exact BK333.out) hb)
                        have n3_ := Aside0.mk (blk_below (g := gb340) (o := .cells #[.int .u64 t335, .int .u64 t336, .int .u64 t337, .int .u64 t338] 24 (0, 0)) (by (with_reducible repeat (first | refine blk_drewN ?_ _ | refine blk_drew ?_ | refine blk_alloc ?_ _)); exact BK340.out) hb)
                        have n4_ := Aside0.mk (below_step (by repeat (first | (with_reducible first | exact HB.out | apply below_alloc | apply pw_below_drewN | apply below_drew1 | refine below_set ?_ GE331.out | refine below_set ?_ GE332.out | refine below_set ?_ GE333.out | refine below_set ?_ GE340.out) | exact HB.out)) hb)
                        have n5_ := Aside0.mk (hbox)
                        have n6_ := Aside0.mk ((by rw [hg]; exact (below_size (by repeat (first | (with_reducible first | exact HB.out | apply below_alloc | apply pw_below_drewN | apply below_drew1 | refine below_set ?_ GE331.out | refine below_set ?_ GE332.out | refine below_set ?_ GE333.out | refine below_set ?_ GE340.out) | exact HB.out))) : w.heap.size ≤ gb349))
                        have n7_ := Aside0.mk ((by rw [hg]; exact (below_size (by repeat (first | (with_reducible first | exact HB.out | apply below_alloc | apply pw_below_drewN | apply below_drew1 | refine below_set ?_ GE331.out | refine below_set ?_ GE332.out | refine below_set ?_ GE333.out | refine below_set ?_ GE340.out) | exact HB.out))) : w.heap.size ≤ gb349))
                        have n8_ := Aside0.mk ((by rw [hg]; exact Nat.ne_of_lt (blk_lt (g := gb331) (o := .cells #[.int .u64 a0_0, .int .u64 a0_1, .int .u64 a0_2, .int .u64 a0_3] 24 (0, 0)) (by (with_reducible repeat (first | refine blk_drewN ?_ _ | refine blk_drew ?_ | refine blk_alloc ?_ _)); exact BK331.out)) : gb331 ≠ gb349))
                        have n9_ := Aside0.mk ((by rw [hg]; exact Nat.ne_of_gt (blk_lt (g := gb331) (o := .cells #[.int .u64 a0_0, .int .u64 a0_1, .int .u64 a0_2, .int .u64 a0_3] 24 (0, 0)) (by (with_reducible repeat (first | refine blk_drewN ?_ _ | refine blk_drew ?_ | refine blk_alloc ?_ _)); exact BK331.out)) : gb349 ≠ gb331))
                        have n10_ := Aside0.mk ((by rw [hg]; exact Nat.ne_of_lt (blk_lt (g := gb332) (o := .cells #[.int .u64 a1_0, .int .u64 a1_1, .int .u64 a1_2, .int .u64 a1_3] 24 (0, 0)) (by (with_reducible repeat (first | refine blk_drewN ?_ _ | refine blk_drew ?_ | refine blk_alloc ?_ _)); exact BK332.out)) : gb332 ≠ gb349))
                        have n11_ := Aside0.mk ((by rw [hg]; exact Nat.ne_of_gt (blk_lt (g := gb332) (o := .cells #[.int .u64 a1_0, .int .u64 a1_1, .int .u64 a1_2, .int .u64 a1_3] 24 (0, 0)) (by (with_reducible repeat (first | refine blk_drewN ?_ _ | refine blk_drew ?_ | refine blk_alloc ?_ _)); exact BK332.out)) : gb349 ≠ gb332))
                        have n12_ := Aside0.mk ((by rw [hg]; exact Nat.ne_of_lt (blk_lt (g := gb333) (o := .cells #[.int .u64 a2_0, .int .u64 a2_1, .int .u64 a2_2, .int .u64 a2_3] 24 (0, 0)) (by (with_reducible repeat (first | refine blk_drewN ?_ _ | refine blk_drew ?_ | refine blk_alloc ?_ _)); exact BK333.out)) : gb333 ≠ gb349))
                        have n13_ := Aside0.mk ((by rw [hg]; exact Nat.ne_of_gt (blk_lt (g := gb333) (o := .cells #[.int .u64 a2_0, .int .u64 a2_1, .int .u64 a2_2, .int .u64 a2_3] 24 (0, 0)) (by (with_reducible repeat (first | refine blk_drewN ?_ _ | refine blk_drew ?_ | refine blk_alloc ?_ _)); exact BK333.out)) : gb349 ≠ gb333))
                        have n14_ := Aside0.mk ((by rw [hg]; exact Nat.ne_of_lt (blk_lt (g := gb340) (o := .cells #[.int .u64 t335, .int .u64 t336, .int .u64 t337, .int .u64 t338] 24 (0, 0)) (by (with_reducible repeat (first | refine blk_drewN ?_ _ | refine blk_drew ?_ | refine blk_alloc ?_ _)); exact BK340.out)) : gb340 ≠ gb349))
                        have n15_ := Aside0.mk ((by rw [hg]; exact Nat.ne_of_gt (blk_lt (g := gb340) (o := .cells #[.int .u64 t335, .int .u64 t336, .int .u64 t337, .int .u64 t338] 24 (0, 0)) (by (with_reducible repeat (first | refine blk_drewN ?_ _ | refine blk_drew ?_ | refine blk_alloc ?_ _)); exact BK340.out)) : gb349 ≠ gb340))
                        clear BK331
                        clear BK332
                        clear BK333
                        clear BK340
                        clear HB
                        have BK331 := n0_
                        have BK332 := n1_
                        have BK333 := n2_
                        have BK340 := n3_
                        have HB := n4_
                        have BK349 := n5_
                        have GW349 := n6_
                        have GE349 := n7_
                        have NB331_349 := n8_
                        have NB349_331 := n9_
                        have NB332_349 := n10_
                        have NB349_332 := n11_
                        have NB333_349 := n12_
                        have NB349_333 := n13_
                        have NB340_349 := n14_
                        have NB349_340 := n15_
                        clear n0_ n1_ n2_ n3_ n4_ n5_ n6_ n7_ n8_ n9_ n10_ n11_ n12_ n13_ n14_ n15_
                        clear hb hbox hg
                        refine hK.out _ _ ⟨(blk_cell BK340.out 0).trans rfl, (blk_cell BK340.out 1).trans rfl, (blk_cell BK340.out 2).trans rfl, (blk_cell BK340.out 3).trans rfl, (blk_cell BK331.out 0).trans rfl, (blk_cell BK331.out 1).trans rfl, (blk_cell BK331.out 2).trans rfl, (blk_cell BK331.out 3).trans rfl, (blk_cell BK332.out 0).trans rfl, (blk_cell BK332.out 1).trans rfl, (blk_cell BK332.out 2).trans rfl, (blk_cell BK332.out 3).trans rfl⟩ (fun hHeld => ?_)
                        clear hK K
                        refine norm_ (a' := ?_) ?_ ?_
                        rotate_left
                        · show Act.put _ (some 9) _ = _
                          simp only [Act.put, List.setIfInBounds_toArray, List.set_cons_zero, List.set_cons_succ, i64_w, i32_w]
                          rfl
                        exact norm_ (by simp only [putAll, Act.put, List.setIfInBounds_toArray, List.set_cons_zero, List.set_cons_succ]) (hCont (gb349) _ ⟨hHeld, (by (with_reducible repeat (first | refine blk_drewN ?_ _ | refine blk_drew ?_ | refine blk_alloc ?_ _)); exact BK331.out), (by (with_reducible repeat (first | refine blk_drewN ?_ _ | refine blk_drew ?_ | refine blk_alloc ?_ _)); exact BK332.out), (by (with_reducible repeat (first | refine blk_drewN ?_ _ | refine blk_drew ?_ | refine blk_alloc ?_ _)); exact BK333.out), (by (with_reducible repeat (first | refine blk_drewN ?_ _ | refine blk_drew ?_ | refine blk_alloc ?_ _)); exact BK340.out), (by (with_reducible repeat (first | refine blk_drewN ?_ _ | refine blk_drew ?_ | refine blk_alloc ?_ _)); exact BK349.out), GW349.out, GE349.out, NB331_349.out, NB349_331.out, NB332_349.out, NB349_332.out, NB333_349.out, NB349_333.out, NB340_349.out, NB349_340.out, (by repeat (first | (with_reducible first | exact HB.out | apply below_alloc | apply pw_below_drewN | apply below_drew1 | refine below_set ?_ GE331.out | refine below_set ?_ GE332.out | refine below_set ?_ GE333.out | refine below_set ?_ GE340.out | refine below_set ?_ GE349.out) | exact HB.out))⟩)
                      · skip
                        refine box_step ?hg (N := 9) ?hd (cs := #[.int .u64 0, .int .u64 0, .int .u64 0, .int .u64 0]) (t := 24) ?hr ?_; (case hd => rfl); (case hg => rfl); (case hr => first | (go_simp; done) | (go_simp; rfl))
                        intro gb349 hg w47 hbox hb
                        have n0_ := Aside0.mk (blk_below (g := gb331) (o := .cells #[.int .u64 a0_0, .int .u64 a0_1, .int .u64 a0_2, .int .u64 a0_3] 24 (0, 0)) (by (with_reducible repeat (first | refine blk_drewN ?_ _ | refine blk_drew ?_ | refine blk_alloc ?_ _)); exact BK331.out) hb)
                        have n1_ := Aside0.mk (blk_below (g := gb332) (o := .cells #[.int .u64 a1_0, .int .u64 a1_1, .int .u64 a1_2, .int .u64 a1_3] 24 (0, 0)) (by (with_reducible repeat (first | refine blk_drewN ?_ _ | refine blk_drew ?_ | refine blk_alloc ?_ _)); exact BK332.out) hb)
                        have n2_ := Aside0.mk (blk_below (g := gb333) (o := .cells #[.int .u64 a2_0, .int .u64 a2_1, .int .u64 a2_2, .int .u64 a2_3] 24 (0, 0)) (by (with_reducible repeat (first | refine blk_drewN ?_ _ | refine blk_drew ?_ | refine blk_alloc ?_ _)); exact BK333.out) hb)
                        have n3_ := Aside0.mk (blk_below (g := gb340) (o := .cells #[.int .u64 t335, .int .u64 t336, .int .u64 t337, .int .u64 t338] 24 (0, 0)) (by (with_reducible repeat (first | refine blk_drewN ?_ _ | refine blk_drew ?_ | refine blk_alloc ?_ _)); exact BK340.out) hb)
                        have n4_ := Aside0.mk (below_step (by repeat (first | (with_reducible first | exact HB.out | apply below_alloc | apply pw_below_drewN | apply below_drew1 | refine below_set ?_ GE331.out | refine below_set ?_ GE332.out | refine below_set ?_ GE333.out | refine below_set ?_ GE340.out) | exact HB.out)) hb)
                        have n5_ := Aside0.mk (hbox)
                        have n6_ := Aside0.mk ((by rw [hg]; exact (below_size (by repeat (first | (with_reducible first | exact HB.out | apply below_alloc | apply pw_below_drewN | apply below_drew1 | refine below_set ?_ GE331.out | refine below_set ?_ GE332.out | refine below_set ?_ GE333.out | refine below_set ?_ GE340.out) | exact HB.out))) : w.heap.size ≤ gb349))
                        have n7_ := Aside0.mk ((by rw [hg]; exact (below_size (by repeat (first | (with_reducible first | exact HB.out | apply below_alloc | apply pw_below_drewN | apply below_drew1 | refine below_set ?_ GE331.out | refine below_set ?_ GE332.out | refine below_set ?_ GE333.out | refine below_set ?_ GE340.out) | exact HB.out))) : w.heap.size ≤ gb349))
                        have n8_ := Aside0.mk ((by rw [hg]; exact Nat.ne_of_lt (blk_lt (g := gb331) (o := .cells #[.int .u64 a0_0, .int .u64 a0_1, .int .u64 a0_2, .int .u64 a0_3] 24 (0, 0)) (by (with_reducible repeat (first | refine blk_drewN ?_ _ | refine blk_drew ?_ | refine blk_alloc ?_ _)); exact BK331.out)) : gb331 ≠ gb349))
                        have n9_ := Aside0.mk ((by rw [hg]; exact Nat.ne_of_gt (blk_lt (g := gb331) (o := .cells #[.int .u64 a0_0, .int .u64 a0_1, .int .u64 a0_2, .int .u64 a0_3] 24 (0, 0)) (by (with_reducible repeat (first | refine blk_drewN ?_ _ | refine blk_drew ?_ | refine blk_alloc ?_ _)); exact BK331.out)) : gb349 ≠ gb331))
                        have n10_ := Aside0.mk ((by rw [hg]; exact Nat.ne_of_lt (blk_lt (g := gb332) (o := .cells #[.int .u64 a1_0, .int .u64 a1_1, .int .u64 a1_2, .int .u64 a1_3] 24 (0, 0)) (by (with_reducible repeat (first | refine blk_drewN ?_ _ | refine blk_drew ?_ | refine blk_alloc ?_ _)); exact BK332.out)) : gb332 ≠ gb349))
                        have n11_ := Aside0.mk ((by rw [hg]; exact Nat.ne_of_gt (blk_lt (g := gb332) (o := .cells #[.int .u64 a1_0, .int .u64 a1_1, .int .u64 a1_2, .int .u64 a1_3] 24 (0, 0)) (by (with_reducible repeat (first | refine blk_drewN ?_ _ | refine blk_drew ?_ | refine blk_alloc ?_ _)); exact BK332.out)) : gb349 ≠ gb332))
                        have n12_ := Aside0.mk ((by rw [hg]; exact Nat.ne_of_lt (blk_lt (g := gb333) (o := .cells #[.int .u64 a2_0, .int .u64 a2_1, .int .u64 a2_2, .int .u64 a2_3] 24 (0, 0)) (by (with_reducible repeat (first | refine blk_drewN ?_ _ | refine blk_drew ?_ | refine blk_alloc ?_ _)); exact BK333.out)) : gb333 ≠ gb349))
                        have n13_ := Aside0.mk ((by rw [hg]; exact Nat.ne_of_gt (blk_lt (g := gb333) (o := .cells #[.int .u64 a2_0, .int .u64 a2_1, .int .u64 a2_2, .int .u64 a2_3] 24 (0, 0)) (by (with_reducible repeat (first | refine blk_drewN ?_ _ | refine blk_drew ?_ | refine blk_alloc ?_ _)); exact BK333.out)) : gb349 ≠ gb333))
                        have n14_ := Aside0.mk ((by rw [hg]; exact Nat.ne_of_lt (blk_lt (g := gb340) (o := .cells #[.int .u64 t335, .int .u64 t336, .int .u64 t337, .int .u64 t338] 24 (0, 0)) (by (with_reducible repeat (first | refine blk_drewN ?_ _ | refine blk_drew ?_ | refine blk_alloc ?_ _)); exact BK340.out)) : gb340 ≠ gb349))
                        have n15_ := Aside0.mk ((by rw [hg]; exact Nat.ne_of_gt (blk_lt (g := gb340) (o := .cells #[.int .u64 t335, .int .u64 t336, .int .u64 t337, .int .u64 t338] 24 (0, 0)) (by (with_reducible repeat (first | refine blk_drewN ?_ _ | refine blk_drew ?_ | refine blk_alloc ?_ _)); exact BK340.out)) : gb349 ≠ gb340))
                        clear BK331
                        clear BK332
                        clear BK333
                        clear BK340
                        clear HB
                        have BK331 := n0_
                        have BK332 := n1_
                        have BK333 := n2_
                        have BK340 := n3_
                        have HB := n4_
                        have BK349 := n5_
                        have GW349 := n6_
                        have GE349 := n7_
                        have NB331_349 := n8_
                        have NB349_331 := n9_
                        have NB332_349 := n10_
                        have NB349_332 := n11_
                        have NB333_349 := n12_
                        have NB349_333 := n13_
                        have NB340_349 := n14_
                        have NB349_340 := n15_
                        clear n0_ n1_ n2_ n3_ n4_ n5_ n6_ n7_ n8_ n9_ n10_ n11_ n12_ n13_ n14_ n15_
                        clear hb hbox hg
                        refine hK.out _ _ ⟨(blk_cell BK340.out 0).trans rfl, (blk_cell BK340.out 1).trans rfl, (blk_cell BK340.out 2).trans rfl, (blk_cell BK340.out 3).trans rfl, (blk_cell BK331.out 0).trans rfl, (blk_cell BK331.out 1).trans rfl, (blk_cell BK331.out 2).trans rfl, (blk_cell BK331.out 3).trans rfl, (blk_cell BK332.out 0).trans rfl, (blk_cell BK332.out 1).trans rfl, (blk_cell BK332.out 2).trans rfl, (blk_cell BK332.out 3).trans rfl⟩ (fun hHeld => ?_)
                        clear hK K
                        refine norm_ (a' := ?_) ?_ ?_
                        rotate_left
                        · show Act.put _ (some 9) _ = _
                          simp only [Act.put, List.setIfInBounds_toArray, List.set_cons_zero, List.set_cons_succ, i64_w, i32_w]
                          rfl
                        refine one_ (i := 4) (N := some 20) #[true, true, true, true, true, true, false] rfl rfl (by kernel_rfl) (by decide) (fun K hK => ?_)
                        refine goes_ Try.func18 (by kernel_rfl) rfl #[.agg #[.int .u64 t335, .int .u64 t336, .int .u64 t337, .int .u64 t338], .agg #[.int .u64 t341, .int .u64 t342, .int .u64 t343, .int .u64 t344]] (by rfl) rfl rfl (by (try simp only [List.map_toArray, List.map_cons, List.map_nil]); first | done | rfl | (simp only [List.length_drop, List.length_take]; rfl)) ?_
                        with_reducible refine (byteset_Minus.calls t335 t336 t337 t338 t341 t342 t343 t344 t345 t346 t347 t348 _ A8.out).mono ?_
                        rintro e w48 ⟨rfl, hb⟩
                        refine ⟨_, rfl, ?_⟩
                        have n0_ := Aside0.mk (blk_below (g := gb331) (o := .cells #[.int .u64 a0_0, .int .u64 a0_1, .int .u64 a0_2, .int .u64 a0_3] 24 (0, 0)) (by (with_reducible repeat (first | refine blk_drewN ?_ _ | refine blk_drew ?_ | refine blk_alloc ?_ _)); exact BK331.out) hb)
                        have n1_ := Aside0.mk (blk_below (g := gb332) (o := .cells #[.int .u64 a1_0, .int .u64 a1_1, .int .u64 a1_2, .int .u64 a1_3] 24 (0, 0)) (by (with_reducible repeat (first | refine blk_drewN ?_ _ | refine blk_drew ?_ | refine blk_alloc ?_ _)); exact BK332.out) hb)
                        have n2_ := Aside0.mk (blk_below (g := gb333) (o := .cells #[.int .u64 a2_0, .int .u64 a2_1, .int .u64 a2_2, .int .u64 a2_3] 24 (0, 0)) (by (with_reducible repeat (first | refine blk_drewN ?_ _ | refine blk_drew ?_ | refine blk_alloc ?_ _)); exact BK333.out) hb)
                        have n3_ := Aside0.mk (blk_below (g := gb340) (o := .cells #[.int .u64 t335, .int .u64 t336, .int .u64 t337, .int .u64 t338] 24 (0, 0)) (by (with_reducible repeat (first | refine blk_drewN ?_ _ | refine blk_drew ?_ | refine blk_alloc ?_ _)); exact BK340.out) hb)
                        have n4_ := Aside0.mk (blk_below (g := gb349) (o := .cells #[.int .u64 0, .int .u64 0, .int .u64 0, .int .u64 0] 24 (0, 0)) (by (with_reducible repeat (first | refine blk_drewN ?_ _ | refine blk_drew ?_ | refine blk_alloc ?_ _)); exact BK349.out) hb)
                        have n5_ := Aside0.mk (below_step (by repeat (first | (with_reducible first | exact HB.out | apply below_alloc | apply pw_below_drewN | apply below_drew1 | refine below_set ?_ GE331.out | refine below_set ?_ GE332.out | refine below_set ?_ GE333.out | refine below_set ?_ GE340.out | refine below_set ?_ GE349.out) | exact HB.out)) hb)
                        clear BK331
                        clear BK332
                        clear BK333
                        clear BK340
                        clear BK349
                        clear HB
                        have BK331 := n0_
                        have BK332 := n1_
                        have BK333 := n2_
                        have BK340 := n3_
                        have BK349 := n4_
                        have HB := n5_
                        clear n0_ n1_ n2_ n3_ n4_ n5_
                        (try clear hb)
                        (try clear hb2)
                        (try clear hk)
                        (try clear hi)
                        refine hK.out _ _ ⟨(blk_cell BK340.out 0).trans rfl, (blk_cell BK340.out 1).trans rfl, (blk_cell BK340.out 2).trans rfl, (blk_cell BK340.out 3).trans rfl, (blk_cell BK331.out 0).trans rfl, (blk_cell BK331.out 1).trans rfl, (blk_cell BK331.out 2).trans rfl, (blk_cell BK331.out 3).trans rfl, (blk_cell BK332.out 0).trans rfl, (blk_cell BK332.out 1).trans rfl, (blk_cell BK332.out 2).trans rfl, (blk_cell BK332.out 3).trans rfl⟩ (fun hHeld => ?_)
                        clear hK K
                        refine norm_ (a' := ?_) ?_ ?_
                        rotate_left
                        · show Act.put _ (some 20) _ = _
                          simp only [Act.put, List.setIfInBounds_toArray, List.set_cons_zero, List.set_cons_succ, i64_w, i32_w]
                          rfl
                        exact norm_ (by simp only [putAll, Act.put, List.setIfInBounds_toArray, List.set_cons_zero, List.set_cons_succ]) (hCont (gb349) _ ⟨hHeld, (by (with_reducible repeat (first | refine blk_drewN ?_ _ | refine blk_drew ?_ | refine blk_alloc ?_ _)); exact BK331.out), (by (with_reducible repeat (first | refine blk_drewN ?_ _ | refine blk_drew ?_ | refine blk_alloc ?_ _)); exact BK332.out), (by (with_reducible repeat (first | refine blk_drewN ?_ _ | refine blk_drew ?_ | refine blk_alloc ?_ _)); exact BK333.out), (by (with_reducible repeat (first | refine blk_drewN ?_ _ | refine blk_drew ?_ | refine blk_alloc ?_ _)); exact BK340.out), (by (with_reducible repeat (first | refine blk_drewN ?_ _ | refine blk_drew ?_ | refine blk_alloc ?_ _)); exact BK349.out), GW349.out, GE349.out, NB331_349.out, NB349_331.out, NB332_349.out, NB349_332.out, NB333_349.out, NB349_333.out, NB340_349.out, NB349_340.out, (by repeat (first | (with_reducible first | exact HB.out | apply below_alloc | apply pw_below_drewN | apply below_drew1 | refine below_set ?_ GE331.out | refine below_set ?_ GE332.out | refine below_set ?_ GE333.out | refine below_set ?_ GE340.out | refine below_set ?_ GE349.out) | exact HB.out))⟩)
                    · skip
                      refine box_step ?hg (N := 9) ?hd (cs := #[.int .u64 0, .int .u64 0, .int .u64 0, .int .u64 0]) (t := 24) ?hr ?_; (case hd => rfl); (case hg => rfl); (case hr => first | (go_simp; done) | (go_simp; rfl))
                      intro gb349 hg w46 hbox hb
                      have n0_ := Aside0.mk (blk_below (g := gb331) (o := .cells #[.int .u64 a0_0, .int .u64 a0_1, .int .u64 a0_2, .int .u64 a0_3] 24 (0, 0)) (by (with_reducible repeat (first | refine blk_drewN ?_ _ | refine blk_drew ?_ | refine blk_alloc ?_ _)); exact BK331.out) hb)
                      have n1_ := Aside0.mk (blk_below (g := gb332) (o := .cells #[.int .u64 a1_0, .int .u64 a1_1, .int .u64 a1_2, .int .u64 a1_3] 24 (0, 0)) (by (with_reducible repeat (first | refine blk_drewN ?_ _ | refine blk_drew ?_ | refine blk_alloc ?_ _)); exact BK332.out) hb)
                      have n2_ := Aside0.mk (blk_below (g := gb333) (o := .cells #[.int .u64 a2_0, .int .u64 a2_1, .int .u64 a2_2, .int .u64 a2_3] 24 (0, 0)) (by (with_reducible repeat (first | refine blk_drewN ?_ _ | refine blk_drew ?_ | refine blk_alloc ?_ _)); exact BK333.out) hb)
                      have n3_ := Aside0.mk (blk_below (g := gb340) (o := .cells #[.int .u64 t335, .int .u64 t336, .int .u64 t337, .int .u64 t338] 24 (0, 0)) (by (with_reducible repeat (first | refine blk_drewN ?_ _ | refine blk_drew ?_ | refine blk_alloc ?_ _)); exact BK340.out) hb)
                      have n4_ := Aside0.mk (below_step (by repeat (first | (with_reducible first | exact HB.out | apply below_alloc | apply pw_below_drewN | apply below_drew1 | refine below_set ?_ GE331.out | refine below_set ?_ GE332.out | refine below_set ?_ GE333.out | refine below_set ?_ GE340.out) | exact HB.out)) hb)
                      have n5_ := Aside0.mk (hbox)
                      have n6_ := Aside0.mk ((by rw [hg]; exact (below_size (by repeat (first | (with_reducible first | exact HB.out | apply below_alloc | apply pw_below_drewN | apply below_drew1 | refine below_set ?_ GE331.out | refine below_set ?_ GE332.out | refine below_set ?_ GE333.out | refine below_set ?_ GE340.out) | exact HB.out))) : w.heap.size ≤ gb349))
                      have n7_ := Aside0.mk ((by rw [hg]; exact (below_size (by repeat (first | (with_reducible first | exact HB.out | apply below_alloc | apply pw_below_drewN | apply below_drew1 | refine below_set ?_ GE331.out | refine below_set ?_ GE332.out | refine below_set ?_ GE333.out | refine below_set ?_ GE340.out) | exact HB.out))) : w.heap.size ≤ gb349))
                      have n8_ := Aside0.mk ((by rw [hg]; exact Nat.ne_of_lt (blk_lt (g := gb331) (o := .cells #[.int .u64 a0_0, .int .u64 a0_1, .int .u64 a0_2, .int .u64 a0_3] 24 (0, 0)) (by (with_reducible repeat (first | refine blk_drewN ?_ _ | refine blk_drew ?_ | refine blk_alloc ?_ _)); exact BK331.out)) : gb331 ≠ gb349))
                      have n9_ := Aside0.mk ((by rw [hg]; exact Nat.ne_of_gt (blk_lt (g := gb331) (o := .cells #[.int .u64 a0_0, .int .u64 a0_1, .int .u64 a0_2, .int .u64 a0_3] 24 (0, 0)) (by (with_reducible repeat (first | refine blk_drewN ?_ _ | refine blk_drew ?_ | refine blk_alloc ?_ _)); exact BK331.out)) : gb349 ≠ gb331))
                      have n10_ := Aside0.mk ((by rw [hg]; exact Nat.ne_of_lt (blk_lt (g := gb332) (o := .cells #[.int .u64 a1_0, .int .u64 a1_1, .int .u64 a1_2, .int .u64 a1_3] 24 (0, 0)) (by (with_reducible repeat (first | refine blk_drewN ?_ _ | refine blk_drew ?_ | refine blk_alloc ?_ _)); exact BK332.out)) : gb332 ≠ gb349))
                      have n11_ := Aside0.mk ((by rw [hg]; exact Nat.ne_of_gt (blk_lt (g := gb332) (o := .cells #[.int .u64 a1_0, .int .u64 a1_1, .int .u64 a1_2, .int .u64 a1_3] 24 (0, 0)) (by (with_reducible repeat (first | refine blk_drewN ?_ _ | refine blk_drew ?_ | refine blk_alloc ?_ _)); exact BK332.out)) : gb349 ≠ gb332))
                      have n12_ := Aside0.mk ((by rw [hg]; exact Nat.ne_of_lt (blk_lt (g := gb333) (o := .cells #[.int .u64 a2_0, .int .u64 a2_1, .int .u64 a2_2, .int .u64 a2_3] 24 (0, 0)) (by (with_reducible repeat (first | refine blk_drewN ?_ _ | refine blk_drew ?_ | refine blk_alloc ?_ _)); exact BK333.out)) : gb333 ≠ gb349))
                      have n13_ := Aside0.mk ((by rw [hg]; exact Nat.ne_of_gt (blk_lt (g := gb333) (o := .cells #[.int .u64 a2_0, .int .u64 a2_1, .int .u64 a2_2, .int .u64 a2_3] 24 (0, 0)) (by (with_reducible repeat (first | refine blk_drewN ?_ _ | refine blk_drew ?_ | refine blk_alloc ?_ _)); exact BK333.out)) : gb349 ≠ gb333))
                      have n14_ := Aside0.mk ((by rw [hg]; exact Nat.ne_of_lt (blk_lt (g := gb340) (o := .cells #[.int .u64 t335, .int .u64 t336, .int .u64 t337, .int .u64 t338] 24 (0, 0)) (by (with_reducible repeat (first | refine blk_drewN ?_ _ | refine blk_drew ?_ | refine blk_alloc ?_ _)); exact BK340.out)) : gb340 ≠ gb349))
                      have n15_ := Aside0.mk ((by rw [hg]; exact Nat.ne_of_gt (blk_lt (g := gb340) (o := .cells #[.int .u64 t335, .int .u64 t336, .int .u64 t337, .int .u64 t338] 24 (0, 0)) (by (with_reducible repeat (first | refine blk_drewN ?_ _ | refine blk_drew ?_ | refine blk_alloc ?_ _)); exact BK340.out)) : gb349 ≠ gb340))
                      clear BK331
                      clear BK332
                      clear BK333
                      clear BK340
                      clear HB
                      have BK331 := n0_
                      have BK332 := n1_
                      have BK333 := n2_
                      have BK340 := n3_
                      have HB := n4_
                      have BK349 := n5_
                      have GW349 := n6_
                      have GE349 := n7_
                      have NB331_349 := n8_
                      have NB349_331 := n9_
                      have NB332_349 := n10_
                      have NB349_332 := n11_
                      have NB333_349 := n12_
                      have NB349_333 := n13_
                      have NB340_349 := n14_
                      have NB349_340 := n15_
                      clear n0_ n1_ n2_ n3_ n4_ n5_ n6_ n7_ n8_ n9_ n10_ n11_ n12_ n13_ n14_ n15_
                      clear hb hbox hg
                      refine hK.out _ _ ⟨(blk_cell BK340.out 0).trans rfl, (blk_cell BK340.out 1).trans rfl, (blk_cell BK340.out 2).trans rfl, (blk_cell BK340.out 3).trans rfl, (blk_cell BK331.out 0).trans rfl, (blk_cell BK331.out 1).trans rfl, (blk_cell BK331.out 2).trans rfl, (blk_cell BK331.out 3).trans rfl, (blk_cell BK332.out 0).trans rfl, (blk_cell BK332.out 1).trans rfl, (blk_cell BK332.out 2).trans rfl, (blk_cell BK332.out 3).trans rfl⟩ (fun hHeld => ?_)
                      clear hK K
                      refine norm_ (a' := ?_) ?_ ?_
                      rotate_left
                      · show Act.put _ (some 9) _ = _
                        simp only [Act.put, List.setIfInBounds_toArray, List.set_cons_zero, List.set_cons_succ, i64_w, i32_w]
                        rfl
                      refine one_ (i := 3) (N := some 19) #[true, true, true, true, false, true, false] rfl rfl (by kernel_rfl) (by decide) (fun K hK => ?_)
                      refine goes_ Try.func15 (by kernel_rfl) rfl #[.agg #[.int .u64 a0_0, .int .u64 a0_1, .int .u64 a0_2, .int .u64 a0_3], .agg #[.int .u64 a1_0, .int .u64 a1_1, .int .u64 a1_2, .int .u64 a1_3]] (by rfl) rfl rfl (by (try simp only [List.map_toArray, List.map_cons, List.map_nil]); first | done | rfl | (simp only [List.length_drop, List.length_take]; rfl)) ?_
                      with_reducible refine (byteset_Or.calls a0_0 a0_1 a0_2 a0_3 a1_0 a1_1 a1_2 a1_3 t341 t342 t343 t344 _ A7.out).mono ?_
                      rintro e w47 ⟨rfl, hb⟩
                      refine ⟨_, rfl, ?_⟩
                      have n0_ := Aside0.mk (blk_below (g := gb331) (o := .cells #[.int .u64 a0_0, .int .u64 a0_1, .int .u64 a0_2, .int .u64 a0_3] 24 (0, 0)) (by (with_reducible repeat (first | refine blk_drewN ?_ _ | refine blk_drew ?_ | refine blk_alloc ?_ _)); exact BK331.out) hb)
                      have n1_ := Aside0.mk (blk_below (g := gb332) (o := .cells #[.int .u64 a1_0, .int .u64 a1_1, .int .u64 a1_2, .int .u64 a1_3] 24 (0, 0)) (by (with_reducible repeat (first | refine blk_drewN ?_ _ | refine blk_drew ?_ | refine blk_alloc ?_ _)); exact BK332.out) hb)
                      have n2_ := Aside0.mk (blk_below (g := gb333) (o := .cells #[.int .u64 a2_0, .int .u64 a2_1, .int .u64 a2_2, .int .u64 a2_3] 24 (0, 0)) (by (with_reducible repeat (first | refine blk_drewN ?_ _ | refine blk_drew ?_ | refine blk_alloc ?_ _)); exact BK333.out) hb)
                      have n3_ := Aside0.mk (blk_below (g := gb340) (o := .cells #[.int .u64 t335, .int .u64 t336, .int .u64 t337, .int .u64 t338] 24 (0, 0)) (by (with_reducible repeat (first | refine blk_drewN ?_ _ | refine blk_drew ?_ | refine blk_alloc ?_ _)); exact BK340.out) hb)
                      have n4_ := Aside0.mk (blk_below (g := gb349) (o := .cells #[.int .u64 0, .int .u64 0, .int .u64 0, .int .u64 0] 24 (0, 0)) (by (with_reducible repeat (first | refine blk_drewN ?_ _ | refine blk_drew ?_ | refine blk_alloc ?_ _)); exact BK349.out) hb)
                      have n5_ := Aside0.mk (below_step (by repeat (first | (with_reducible first | exact HB.out | apply below_alloc | apply pw_below_drewN | apply below_drew1 | refine below_set ?_ GE331.out | refine below_set ?_ GE332.out | refine below_set ?_ GE333.out | refine below_set ?_ GE340.out | refine below_set ?_ GE349.out) | exact HB.out)) hb)
                      clear BK331
                      clear BK332
                      clear BK333
                      clear BK340
                      clear BK349
                      clear HB
                      have BK331 := n0_
                      have BK332 := n1_
                      have BK333 := n2_
                      have BK340 := n3_
                      have BK349 := n4_
                      have HB := n5_
                      clear n0_ n1_ n2_ n3_ n4_ n5_
                      (try clear hb)
                      (try clear hb2)
                      (try clear hk)
                      (try clear hi)
                      refine hK.out _ _ ⟨(blk_cell BK340.out 0).trans rfl, (blk_cell BK340.out 1).trans rfl, (blk_cell BK340.out 2).trans rfl, (blk_cell BK340.out 3).trans rfl, (blk_cell BK331.out 0).trans rfl, (blk_cell BK331.out 1).trans rfl, (blk_cell BK331.out 2).trans rfl, (blk_cell BK331.out 3).trans rfl, (blk_cell BK332.out 0).trans rfl, (blk_cell BK332.out 1).trans rfl, (blk_cell BK332.out 2).trans rfl, (blk_cell BK332.out 3).trans rfl⟩ (fun hHeld => ?_)
                      clear hK K
                      refine norm_ (a' := ?_) ?_ ?_
                      rotate_left
                      · show Act.put _ (some 19) _ = _
                        simp only [Act.put, List.setIfInBounds_toArray, List.set_cons_zero, List.set_cons_succ, i64_w, i32_w]
                        rfl
                      refine one_ (i := 4) (N := some 20) #[true, true, true, true, true, true, false] rfl rfl (by kernel_rfl) (by decide) (fun K hK => ?_)
                      refine goes_ Try.func18 (by kernel_rfl) rfl #[.agg #[.int .u64 t335, .int .u64 t336, .int .u64 t337, .int .u64 t338], .agg #[.int .u64 t341, .int .u64 t342, .int .u64 t343, .int .u64 t344]] (by rfl) rfl rfl (by (try simp only [List.map_toArray, List.map_cons, List.map_nil]); first | done | rfl | (simp only [List.length_drop, List.length_take]; rfl)) ?_
                      with_reducible refine (byteset_Minus.calls t335 t336 t337 t338 t341 t342 t343 t344 t345 t346 t347 t348 _ A8.out).mono ?_
                      rintro e w48 ⟨rfl, hb⟩
                      refine ⟨_, rfl, ?_⟩
                      have n0_ := Aside0.mk (blk_below (g := gb331) (o := .cells #[.int .u64 a0_0, .int .u64 a0_1, .int .u64 a0_2, .int .u64 a0_3] 24 (0, 0)) (by (with_reducible repeat (first | refine blk_drewN ?_ _ | refine blk_drew ?_ | refine blk_alloc ?_ _)); exact BK331.out) hb)
                      have n1_ := Aside0.mk (blk_below (g := gb332) (o := .cells #[.int .u64 a1_0, .int .u64 a1_1, .int .u64 a1_2, .int .u64 a1_3] 24 (0, 0)) (by (with_reducible repeat (first | refine blk_drewN ?_ _ | refine blk_drew ?_ | refine blk_alloc ?_ _)); exact BK332.out) hb)
                      have n2_ := Aside0.mk (blk_below (g := gb333) (o := .cells #[.int .u64 a2_0, .int .u64 a2_1, .int .u64 a2_2, .int .u64 a2_3] 24 (0, 0)) (by (with_reducible repeat (first | refine blk_drewN ?_ _ | refine blk_drew ?_ | refine blk_alloc ?_ _)); exact BK333.out) hb)
                      have n3_ := Aside0.mk (blk_below (g := gb340) (o := .cells #[.int .u64 t335, .int .u64 t336, .int .u64 t337, .int .u64 t338] 24 (0, 0)) (by (with_reducible repeat (first | refine blk_drewN ?_ _ | refine blk_drew ?_ | refine blk_alloc ?_ _)); exact BK340.out) hb)
                      have n4_ := Aside0.mk (blk_below (g := gb349) (o := .cells #[.int .u64 0, .int .u64 0, .int .u64 0, .int .u64 0] 24 (0, 0)) (by (with_reducible repeat (first | refine blk_drewN ?_ _ | refine blk_drew ?_ | refine blk_alloc ?_ _)); exact BK349.out) hb)
                      have n5_ := Aside0.mk (below_step (by repeat (first | (with_reducible first | exact HB.out | apply below_alloc | apply pw_below_drewN | apply below_drew1 | refine below_set ?_ GE331.out | refine below_set ?_ GE332.out | refine below_set ?_ GE333.out | refine below_set ?_ GE340.out | refine below_set ?_ GE349.out) | exact HB.out)) hb)
                      clear BK331
                      clear BK332
                      clear BK333
                      clear BK340
                      clear BK349
                      clear HB
                      have BK331 := n0_
                      have BK332 := n1_
                      have BK333 := n2_
                      have BK340 := n3_
                      have BK349 := n4_
                      have HB := n5_
                      clear n0_ n1_ n2_ n3_ n4_ n5_
                      (try clear hb)
                      (try clear hb2)
                      (try clear hk)
                      (try clear hi)
                      refine hK.out _ _ ⟨(blk_cell BK340.out 0).trans rfl, (blk_cell BK340.out 1).trans rfl, (blk_cell BK340.out 2).trans rfl, (blk_cell BK340.out 3).trans rfl, (blk_cell BK331.out 0).trans rfl, (blk_cell BK331.out 1).trans rfl, (blk_cell BK331.out 2).trans rfl, (blk_cell BK331.out 3).trans rfl, (blk_cell BK332.out 0).trans rfl, (blk_cell BK332.out 1).trans rfl, (blk_cell BK332.out 2).trans rfl, (blk_cell BK332.out 3).trans rfl⟩ (fun hHeld => ?_)
                      clear hK K
                      refine norm_ (a' := ?_) ?_ ?_
                      rotate_left
                      · show Act.put _ (some 20) _ = _
                        simp only [Act.put, List.setIfInBounds_toArray, List.set_cons_zero, List.set_cons_succ, i64_w, i32_w]
                        rfl
                      exact norm_ (by simp only [putAll, Act.put, List.setIfInBounds_toArray, List.set_cons_zero, List.set_cons_succ]) (hCont (gb349) _ ⟨hHeld, (by (with_reducible repeat (first | refine blk_drewN ?_ _ | refine blk_drew ?_ | refine blk_alloc ?_ _)); exact BK331.out), (by (with_reducible repeat (first | refine blk_drewN ?_ _ | refine blk_drew ?_ | refine blk_alloc ?_ _)); exact BK332.out), (by (with_reducible repeat (first | refine blk_drewN ?_ _ | refine blk_drew ?_ | refine blk_alloc ?_ _)); exact BK333.out), (by (with_reducible repeat (first | refine blk_drewN ?_ _ | refine blk_drew ?_ | refine blk_alloc ?_ _)); exact BK340.out), (by (with_reducible repeat (first | refine blk_drewN ?_ _ | refine blk_drew ?_ | refine blk_alloc ?_ _)); exact BK349.out), GW349.out, GE349.out, NB331_349.out, NB349_331.out, NB332_349.out, NB349_332.out, NB333_349.out, NB349_333.out, NB340_349.out, NB349_340.out, (by repeat (first | (with_reducible first | exact HB.out | apply below_alloc | apply pw_below_drewN | apply below_drew1 | refine below_set ?_ GE331.out | refine below_set ?_ GE332.out | refine below_set ?_ GE333.out | refine below_set ?_ GE340.out | refine below_set ?_ GE349.out) | exact HB.out))⟩)
                  rintro gb349 w49 ⟨hS_, h0_, h1_, h2_, h3_, h4_, h5_, h6_, h7_, h8_, h9_, h10_, h11_, h12_, h13_, h14_, h15_⟩
                  have n0_ : Aside0 (w49.heap[gb331]? = some (.cells #[.int .u64 a0_0, .int .u64 a0_1, .int .u64 a0_2, .int .u64 a0_3] 24 (0, 0))) := ⟨h0_⟩
                  have n1_ : Aside0 (w49.heap[gb332]? = some (.cells #[.int .u64 a1_0, .int .u64 a1_1, .int .u64 a1_2, .int .u64 a1_3] 24 (0, 0))) := ⟨h1_⟩
                  have n2_ : Aside0 (w49.heap[gb333]? = some (.cells #[.int .u64 a2_0, .int .u64 a2_1, .int .u64 a2_2, .int .u64 a2_3] 24 (0, 0))) := ⟨h2_⟩
                  have n3_ : Aside0 (w49.heap[gb340]? = some (.cells #[.int .u64 t335, .int .u64 t336, .int .u64 t337, .int .u64 t338] 24 (0, 0))) := ⟨h3_⟩
                  have n4_ : Aside0 (w49.heap[gb349]? = some (.cells #[.int .u64 0, .int .u64 0, .int .u64 0, .int .u64 0] 24 (0, 0))) := ⟨h4_⟩
                  have n5_ : Aside0 (w.heap.size ≤ gb349) := ⟨h5_⟩
                  have n6_ : Aside0 (w.heap.size ≤ gb349) := ⟨h6_⟩
                  have n7_ : Aside0 (gb331 ≠ gb349) := ⟨h7_⟩
                  have n8_ : Aside0 (gb349 ≠ gb331) := ⟨h8_⟩
                  have n9_ : Aside0 (gb332 ≠ gb349) := ⟨h9_⟩
                  have n10_ : Aside0 (gb349 ≠ gb332) := ⟨h10_⟩
                  have n11_ : Aside0 (gb333 ≠ gb349) := ⟨h11_⟩
                  have n12_ : Aside0 (gb349 ≠ gb333) := ⟨h12_⟩
                  have n13_ : Aside0 (gb340 ≠ gb349) := ⟨h13_⟩
                  have n14_ : Aside0 (gb349 ≠ gb340) := ⟨h14_⟩
                  have n15_ : Aside0 (Below w.heap.size w w49) := ⟨h15_⟩
                  clear BK331
                  clear BK332
                  clear BK333
                  clear BK340
                  clear HB
                  clear h0_ h1_ h2_ h3_ h4_ h5_ h6_ h7_ h8_ h9_ h10_ h11_ h12_ h13_ h14_ h15_
                  have BK331 := n0_
                  have BK332 := n1_
                  have BK333 := n2_
                  have BK340 := n3_
                  have BK349 := n4_
                  have GW349 := n5_
                  have GE349 := n6_
                  have NB331_349 := n7_
                  have NB349_331 := n8_
                  have NB332_349 := n9_
                  have NB349_332 := n10_
                  have NB333_349 := n11_
                  have NB349_333 := n12_
                  have NB340_349 := n13_
                  have NB349_340 := n14_
                  have HB := n15_
                  clear n0_ n1_ n2_ n3_ n4_ n5_ n6_ n7_ n8_ n9_ n10_ n11_ n12_ n13_ n14_ n15_
                  have hHeld : w49.cell? ⟨gb340, 0, none⟩ = some (.int .u64 t335) ∧ w49.cell? ⟨gb340, 1, none⟩ = some (.int .u64 t336) ∧ w49.cell? ⟨gb340, 2, none⟩ = some (.int .u64 t337) ∧ w49.cell? ⟨gb340, 3, none⟩ = some (.int .u64 t338) ∧ w49.cell? ⟨gb331, 0, none⟩ = some (.int .u64 a0_0) ∧ w49.cell? ⟨gb331, 1, none⟩ = some (.int .u64 a0_1) ∧ w49.cell? ⟨gb331, 2, none⟩ = some (.int .u64 a0_2) ∧ w49.cell? ⟨gb331, 3, none⟩ = some (.int .u64 a0_3) ∧ w49.cell? ⟨gb332, 0, none⟩ = some (.int .u64 a1_0) ∧ w49.cell? ⟨gb332, 1, none⟩ = some (.int .u64 a1_1) ∧ w49.cell? ⟨gb332, 2, none⟩ = some (.int .u64 a1_2) ∧ w49.cell? ⟨gb332, 3, none⟩ = some (.int .u64 a1_3) := hS_
                  refine norm_ (a' := ?_) ?_ ?_
                  rotate_left
                  · simp only [putAll, Act.put, List.setIfInBounds_toArray, List.set_cons_zero, List.set_cons_succ]
                    rfl
                  refine one_ (i := 6) (N := none) #[true, true, true, true, true, true, true] rfl rfl (by kernel_rfl) (by decide) (fun K hK => ?_)
                  have hs50 : w49.cell? ⟨gb349, 0, none⟩ = some (.int .u64 0) := (blk_cell BK349.out 0).trans rfl
                  have hfs50 := blk_frozen BK349.out 0
                  have hns50_0 := NB331_349.out
                  have hns50_1 := NB332_349.out
                  have hns50_2 := NB333_349.out
                  have hns50_3 := NB340_349.out
                  have hms50_0 := NB349_331.out
                  have hms50_1 := NB349_332.out
                  have hms50_2 := NB349_333.out
                  have hms50_3 := NB349_340.out
                  have hs51 : w49.cell? ⟨gb349, 1, none⟩ = some (.int .u64 0) := (blk_cell BK349.out 1).trans rfl
                  have hfs51 := blk_frozen BK349.out 1
                  have hns51_0 := NB331_349.out
                  have hns51_1 := NB332_349.out
                  have hns51_2 := NB333_349.out
                  have hns51_3 := NB340_349.out
                  have hms51_0 := NB349_331.out
                  have hms51_1 := NB349_332.out
                  have hms51_2 := NB349_333.out
                  have hms51_3 := NB349_340.out
                  have hs52 : w49.cell? ⟨gb349, 2, none⟩ = some (.int .u64 0) := (blk_cell BK349.out 2).trans rfl
                  have hfs52 := blk_frozen BK349.out 2
                  have hns52_0 := NB331_349.out
                  have hns52_1 := NB332_349.out
                  have hns52_2 := NB333_349.out
                  have hns52_3 := NB340_349.out
                  have hms52_0 := NB349_331.out
                  have hms52_1 := NB349_332.out
                  have hms52_2 := NB349_333.out
                  have hms52_3 := NB349_340.out
                  have hs53 : w49.cell? ⟨gb349, 3, none⟩ = some (.int .u64 0) := (blk_cell BK349.out 3).trans rfl
                  have hfs53 := blk_frozen BK349.out 3
                  have hns53_0 := NB331_349.out
                  have hns53_1 := NB332_349.out
                  have hns53_2 := NB333_349.out
                  have hns53_3 := NB340_349.out
                  have hms53_0 := NB349_331.out
                  have hms53_1 := NB349_332.out
                  have hms53_2 := NB349_333.out
                  have hms53_3 := NB349_340.out
                  refine skip_ (w1 := ?_) (by rfl) rfl ?_ ?_
                  rotate_left
                  · go_simp
                    rfl
                  refine hK.out _ _ ⟨((cell_far (p := ⟨gb349, _, none⟩) NB340_349.out _).trans (((cell_far (p := ⟨gb349, _, none⟩) NB340_349.out _).trans (((cell_far (p := ⟨gb349, _, none⟩) NB340_349.out _).trans (((cell_far (p := ⟨gb349, _, none⟩) NB340_349.out _).trans (hHeld.1)))))))), ((cell_far (p := ⟨gb349, _, none⟩) NB340_349.out _).trans (((cell_far (p := ⟨gb349, _, none⟩) NB340_349.out _).trans (((cell_far (p := ⟨gb349, _, none⟩) NB340_349.out _).trans (((cell_far (p := ⟨gb349, _, none⟩) NB340_349.out _).trans (hHeld.2.1)))))))), ((cell_far (p := ⟨gb349, _, none⟩) NB340_349.out _).trans (((cell_far (p := ⟨gb349, _, none⟩) NB340_349.out _).trans (((cell_far (p := ⟨gb349, _, none⟩) NB340_349.out _).trans (((cell_far (p := ⟨gb349, _, none⟩) NB340_349.out _).trans (hHeld.2.2.1)))))))), ((cell_far (p := ⟨gb349, _, none⟩) NB340_349.out _).trans (((cell_far (p := ⟨gb349, _, none⟩) NB340_349.out _).trans (((cell_far (p := ⟨gb349, _, none⟩) NB340_349.out _).trans (((cell_far (p := ⟨gb349, _, none⟩) NB340_349.out _).trans (hHeld.2.2.2.1)))))))), ((cell_far (p := ⟨gb349, _, none⟩) NB331_349.out _).trans (((cell_far (p := ⟨gb349, _, none⟩) NB331_349.out _).trans (((cell_far (p := ⟨gb349, _, none⟩) NB331_349.out _).trans (((cell_far (p := ⟨gb349, _, none⟩) NB331_349.out _).trans (hHeld.2.2.2.2.1)))))))), ((cell_far (p := ⟨gb349, _, none⟩) NB331_349.out _).trans (((cell_far (p := ⟨gb349, _, none⟩) NB331_349.out _).trans (((cell_far (p := ⟨gb349, _, none⟩) NB331_349.out _).trans (((cell_far (p := ⟨gb349, _, none⟩) NB331_349.out _).trans (hHeld.2.2.2.2.2.1)))))))), ((cell_far (p := ⟨gb349, _, none⟩) NB331_349.out _).trans (((cell_far (p := ⟨gb349, _, none⟩) NB331_349.out _).trans (((cell_far (p := ⟨gb349, _, none⟩) NB331_349.out _).trans (((cell_far (p := ⟨gb349, _, none⟩) NB331_349.out _).trans (hHeld.2.2.2.2.2.2.1)))))))), ((cell_far (p := ⟨gb349, _, none⟩) NB331_349.out _).trans (((cell_far (p := ⟨gb349, _, none⟩) NB331_349.out _).trans (((cell_far (p := ⟨gb349, _, none⟩) NB331_349.out _).trans (((cell_far (p := ⟨gb349, _, none⟩) NB331_349.out _).trans (hHeld.2.2.2.2.2.2.2.1)))))))), ((cell_far (p := ⟨gb349, _, none⟩) NB332_349.out _).trans (((cell_far (p := ⟨gb349, _, none⟩) NB332_349.out _).trans (((cell_far (p := ⟨gb349, _, none⟩) NB332_349.out _).trans (((cell_far (p := ⟨gb349, _, none⟩) NB332_349.out _).trans (hHeld.2.2.2.2.2.2.2.2.1)))))))), ((cell_far (p := ⟨gb349, _, none⟩) NB332_349.out _).trans (((cell_far (p := ⟨gb349, _, none⟩) NB332_349.out _).trans (((cell_far (p := ⟨gb349, _, none⟩) NB332_349.out _).trans (((cell_far (p := ⟨gb349, _, none⟩) NB332_349.out _).trans (hHeld.2.2.2.2.2.2.2.2.2.1)))))))), ((cell_far (p := ⟨gb349, _, none⟩) NB332_349.out _).trans (((cell_far (p := ⟨gb349, _, none⟩) NB332_349.out _).trans (((cell_far (p := ⟨gb349, _, none⟩) NB332_349.out _).trans (((cell_far (p := ⟨gb349, _, none⟩) NB332_349.out _).trans (hHeld.2.2.2.2.2.2.2.2.2.2.1)))))))), ((cell_far (p := ⟨gb349, _, none⟩) NB332_349.out _).trans (((cell_far (p := ⟨gb349, _, none⟩) NB332_349.out _).trans (((cell_far (p := ⟨gb349, _, none⟩) NB332_349.out _).trans (((cell_far (p := ⟨gb349, _, none⟩) NB332_349.out _).trans (hHeld.2.2.2.2.2.2.2.2.2.2.2))))))))⟩ (fun hHeld => ?_)
                  clear hK K
                  refine done_ (by kernel_rfl) ?_
                  try go_wp2
                  have n0_ : Aside0 (((((w49.setCell ⟨gb349, 0, none⟩ (.int .u64 t345)).setCell ⟨gb349, 1, none⟩ (.int .u64 t346)).setCell ⟨gb349, 2, none⟩ (.int .u64 t347)).setCell ⟨gb349, 3, none⟩ (.int .u64 t348)).heap[gb331]? = some (.cells #[.int .u64 a0_0, .int .u64 a0_1, .int .u64 a0_2, .int .u64 a0_3] 24 (0, 0))) := ⟨by (with_reducible repeat (first | refine blk_drewN ?_ _ | refine blk_drew ?_ | refine blk_alloc ?_ _)); refine blk_far ?_ NB331_349.out _; (with_reducible repeat (first | refine blk_drewN ?_ _ | refine blk_drew ?_ | refine blk_alloc ?_ _)); refine blk_far ?_ NB331_349.out _; (with_reducible repeat (first | refine blk_drewN ?_ _ | refine blk_drew ?_ | refine blk_alloc ?_ _)); refine blk_far ?_ NB331_349.out _; (with_reducible repeat (first | refine blk_drewN ?_ _ | refine blk_drew ?_ | refine blk_alloc ?_ _)); refine blk_far ?_ NB331_349.out _; (with_reducible repeat (first | refine blk_drewN ?_ _ | refine blk_drew ?_ | refine blk_alloc ?_ _)); exact BK331.out⟩
                  have n1_ : Aside0 (((((w49.setCell ⟨gb349, 0, none⟩ (.int .u64 t345)).setCell ⟨gb349, 1, none⟩ (.int .u64 t346)).setCell ⟨gb349, 2, none⟩ (.int .u64 t347)).setCell ⟨gb349, 3, none⟩ (.int .u64 t348)).heap[gb332]? = some (.cells #[.int .u64 a1_0, .int .u64 a1_1, .int .u64 a1_2, .int .u64 a1_3] 24 (0, 0))) := ⟨by (with_reducible repeat (first | refine blk_drewN ?_ _ | refine blk_drew ?_ | refine blk_alloc ?_ _)); refine blk_far ?_ NB332_349.out _; (with_reducible repeat (first | refine blk_drewN ?_ _ | refine blk_drew ?_ | refine blk_alloc ?_ _)); refine blk_far ?_ NB332_349.out _; (with_reducible repeat (first | refine blk_drewN ?_ _ | refine blk_drew ?_ | refine blk_alloc ?_ _)); refine blk_far ?_ NB332_349.out _; (with_reducible repeat (first | refine blk_drewN ?_ _ | refine blk_drew ?_ | refine blk_alloc ?_ _)); refine blk_far ?_ NB332_349.out _; (with_reducible repeat (first | refine blk_drewN ?_ _ | refine blk_drew ?_ | refine blk_alloc ?_ _)); exact BK332.out⟩
                  have n2_ : Aside0 (((((w49.setCell ⟨gb349, 0, none⟩ (.int .u64 t345)).setCell ⟨gb349, 1, none⟩ (.int .u64 t346)).setCell ⟨gb349, 2, none⟩ (.int .u64 t347)).setCell ⟨gb349, 3, none⟩ (.int .u64 t348)).heap[gb333]? = some (.cells #[.int .u64 a2_0, .int .u64 a2_1, .int .u64 a2_2, .int .u64 a2_3] 24 (0, 0))) := ⟨by (with_reducible repeat (first | refine blk_drewN ?_ _ | refine blk_drew ?_ | refine blk_alloc ?_ _)); refine blk_far ?_ NB333_349.out _; (with_reducible repeat (first | refine blk_drewN ?_ _ | refine blk_drew ?_ | refine blk_alloc ?_ _)); refine blk_far ?_ NB333_349.out _; (with_reducible repeat (first | refine blk_drewN ?_ _ | refine blk_drew ?_ | refine blk_alloc ?_ _)); refine blk_far ?_ NB333_349.out _; (with_reducible repeat (first | refine blk_drewN ?_ _ | refine blk_drew ?_ | refine blk_alloc ?_ _)); refine blk_far ?_ NB333_349.out _; (with_reducible repeat (first | refine blk_drewN ?_ _ | refine blk_drew ?_ | refine blk_alloc ?_ _)); exact BK333.out⟩
                  have n3_ : Aside0 (((((w49.setCell ⟨gb349, 0, none⟩ (.int .u64 t345)).setCell ⟨gb349, 1, none⟩ (.int .u64 t346)).setCell ⟨gb349, 2, none⟩ (.int .u64 t347)).setCell ⟨gb349, 3, none⟩ (.int .u64 t348)).heap[gb340]? = some (.cells #[.int .u64 t335, .int .u64 t336, .int .u64 t337, .int .u64 t338] 24 (0, 0))) := ⟨by (with_reducible repeat (first | refine blk_drewN ?_ _ | refine blk_drew ?_ | refine blk_alloc ?_ _)); refine blk_far ?_ NB340_349.out _; (with_reducible repeat (first | refine blk_drewN ?_ _ | refine blk_drew ?_ | refine blk_alloc ?_ _)); refine blk_far ?_ NB340_349.out _; (with_reducible repeat (first | refine blk_drewN ?_ _ | refine blk_drew ?_ | refine blk_alloc ?_ _)); refine blk_far ?_ NB340_349.out _; (with_reducible repeat (first | refine blk_drewN ?_ _ | refine blk_drew ?_ | refine blk_alloc ?_ _)); refine blk_far ?_ NB340_349.out _; (with_reducible repeat (first | refine blk_drewN ?_ _ | refine blk_drew ?_ | refine blk_alloc ?_ _)); exact BK340.out⟩
                  have n4_ : Aside0 (((((w49.setCell ⟨gb349, 0, none⟩ (.int .u64 t345)).setCell ⟨gb349, 1, none⟩ (.int .u64 t346)).setCell ⟨gb349, 2, none⟩ (.int .u64 t347)).setCell ⟨gb349, 3, none⟩ (.int .u64 t348)).heap[gb349]? = some (.cells #[.int .u64 t345, .int .u64 t346, .int .u64 t347, .int .u64 t348] 24 (0, 0))) := ⟨by (with_reducible repeat (first | refine blk_drewN ?_ _ | refine blk_drew ?_ | refine blk_alloc ?_ _)); refine blk_put (cs := #[.int .u64 t345, .int .u64 t346, .int .u64 t347, .int .u64 0]) ?_ 3 _ rfl; (with_reducible repeat (first | refine blk_drewN ?_ _ | refine blk_drew ?_ | refine blk_alloc ?_ _)); refine blk_put (cs := #[.int .u64 t345, .int .u64 t346, .int .u64 0, .int .u64 0]) ?_ 2 _ rfl; (with_reducible repeat (first | refine blk_drewN ?_ _ | refine blk_drew ?_ | refine blk_alloc ?_ _)); refine blk_put (cs := #[.int .u64 t345, .int .u64 0, .int .u64 0, .int .u64 0]) ?_ 1 _ rfl; (with_reducible repeat (first | refine blk_drewN ?_ _ | refine blk_drew ?_ | refine blk_alloc ?_ _)); refine blk_put (cs := #[.int .u64 0, .int .u64 0, .int .u64 0, .int .u64 0]) ?_ 0 _ rfl; (with_reducible repeat (first | refine blk_drewN ?_ _ | refine blk_drew ?_ | refine blk_alloc ?_ _)); exact BK349.out⟩
                  have n5_ : Aside0 (Below w.heap.size w ((((w49.setCell ⟨gb349, 0, none⟩ (.int .u64 t345)).setCell ⟨gb349, 1, none⟩ (.int .u64 t346)).setCell ⟨gb349, 2, none⟩ (.int .u64 t347)).setCell ⟨gb349, 3, none⟩ (.int .u64 t348))) := ⟨by repeat (first | (with_reducible first | exact HB.out | apply below_alloc | apply pw_below_drewN | apply below_drew1 | refine below_set ?_ GE331.out | refine below_set ?_ GE332.out | refine below_set ?_ GE333.out | refine below_set ?_ GE340.out | refine below_set ?_ GE349.out) | exact HB.out)⟩
                  (try clear BK331)
                  (try clear BK332)
                  (try clear BK333)
                  (try clear BK340)
                  (try clear BK349)
                  (try clear HB)
                  generalize ((((w49.setCell ⟨gb349, 0, none⟩ (.int .u64 t345)).setCell ⟨gb349, 1, none⟩ (.int .u64 t346)).setCell ⟨gb349, 2, none⟩ (.int .u64 t347)).setCell ⟨gb349, 3, none⟩ (.int .u64 t348)) = w54 at n0_ n1_ n2_ n3_ n4_ n5_ ⊢
                  have BK331 := n0_
                  have BK332 := n1_
                  have BK333 := n2_
                  have BK340 := n3_
                  have BK349 := n4_
                  have HB := n5_
                  clear n0_ n1_ n2_ n3_ n4_ n5_
                  have n0_ := Aside0.mk (blk_drew BK331.out)
                  have n1_ := Aside0.mk (blk_drew BK332.out)
                  have n2_ := Aside0.mk (blk_drew BK333.out)
                  have n3_ := Aside0.mk (blk_drew BK340.out)
                  have n4_ := Aside0.mk (blk_drew BK349.out)
                  have n5_ := Aside0.mk (below_drew1 HB.out)
                  clear BK331
                  clear BK332
                  clear BK333
                  clear BK340
                  clear BK349
                  clear HB
                  have BK331 := n0_
                  have BK332 := n1_
                  have BK333 := n2_
                  have BK340 := n3_
                  have BK349 := n4_
                  have HB := n5_
                  clear n0_ n1_ n2_ n3_ n4_ n5_
                  refine start_ (n := 71) (S := fun w' => w'.cell? ⟨gb340, 0, none⟩ = some (.int .u64 t335) ∧ w'.cell? ⟨gb340, 1, none⟩ = some (.int .u64 t336) ∧ w'.cell? ⟨gb340, 2, none⟩ = some (.int .u64 t337) ∧ w'.cell? ⟨gb340, 3, none⟩ = some (.int .u64 t338) ∧ w'.cell? ⟨gb349, 0, none⟩ = some (.int .u64 t345) ∧ w'.cell? ⟨gb349, 1, none⟩ = some (.int .u64 t346) ∧ w'.cell? ⟨gb349, 2, none⟩ = some (.int .u64 t347) ∧ w'.cell? ⟨gb349, 3, none⟩ = some (.int .u64 t348) ∧ w'.cell? ⟨gb331, 0, none⟩ = some (.int .u64 a0_0) ∧ w'.cell? ⟨gb331, 1, none⟩ = some (.int .u64 a0_1) ∧ w'.cell? ⟨gb331, 2, none⟩ = some (.int .u64 a0_2) ∧ w'.cell? ⟨gb331, 3, none⟩ = some (.int .u64 a0_3) ∧ w'.cell? ⟨gb332, 0, none⟩ = some (.int .u64 a1_0) ∧ w'.cell? ⟨gb332, 1, none⟩ = some (.int .u64 a1_1) ∧ w'.cell? ⟨gb332, 2, none⟩ = some (.int .u64 a1_2) ∧ w'.cell? ⟨gb332, 3, none⟩ = some (.int .u64 a1_3) ∧ w'.cell? ⟨gb333, 0, none⟩ = some (.int .u64 a2_0) ∧ w'.cell? ⟨gb333, 1, none⟩ = some (.int .u64 a2_1) ∧ w'.cell? ⟨gb333, 2, none⟩ = some (.int .u64 a2_2) ∧ w'.cell? ⟨gb333, 3, none⟩ = some (.int .u64 a2_3)) (ds := []) #[false, false, false, false, false, false, false, false, false, false, false, false, false, false, false, false, false, false, false, false, false, false, false, false, false, false, false, false, false, false, false, false, false, false, false, false, false, false, false, false, false, false, false, false, false, false, false, false, false, false, false, false, false, false, false, false, false, false, false, false, false, false, false, false, false, false, false, false, false, false, false] (by kernel_rfl) rfl rfl ⟨(blk_cell BK340.out 0).trans rfl, (blk_cell BK340.out 1).trans rfl, (blk_cell BK340.out 2).trans rfl, (blk_cell BK340.out 3).trans rfl, (blk_cell BK349.out 0).trans rfl, (blk_cell BK349.out 1).trans rfl, (blk_cell BK349.out 2).trans rfl, (blk_cell BK349.out 3).trans rfl, (blk_cell BK331.out 0).trans rfl, (blk_cell BK331.out 1).trans rfl, (blk_cell BK331.out 2).trans rfl, (blk_cell BK331.out 3).trans rfl, (blk_cell BK332.out 0).trans rfl, (blk_cell BK332.out 1).trans rfl, (blk_cell BK332.out 2).trans rfl, (blk_cell BK332.out 3).trans rfl, (blk_cell BK333.out 0).trans rfl, (blk_cell BK333.out 1).trans rfl, (blk_cell BK333.out 2).trans rfl, (blk_cell BK333.out 3).trans rfl⟩ (fun hHeld => ?_); refine with_tabW templelaw1_SetLaws.tab5 templelaw1_SetLaws.bits5 (fun HT_ HW_ => ?_)
                  generalize w54.drew = w55 at BK331 BK332 BK333 BK340 BK349 HB hHeld ⊢
                  refine pure_ (i := 0) (N := some 21) (v := ?_) (a' := ?_) #[true, false, false, false, false, false, false, false, false, false, false, false, false, false, false, false, false, false, false, false, false, false, false, false, false, false, false, false, false, false, false, false, false, false, false, false, false, false, false, false, false, false, false, false, false, false, false, false, false, false, false, false, false, false, false, false, false, false, false, false, false, false, false, false, false, false, false, false, false, false, false] rfl rfl (any_of HT_.out (by kernel_rfl)) (fun _ _ _ h => h) (Or.inl ⟨by rfl, ?_⟩) ?_ ?_
                  rotate_left
                  · intro w'
                    go_simp
                    with_reducible rfl
                  rotate_left
                  · simp only [Act.put, List.setIfInBounds_toArray, List.set_cons_zero, List.set_cons_succ, i64_w, i32_w]
                    rfl
                  refine one_ (i := 1) (N := some 22) #[true, true, false, false, false, false, false, false, false, false, false, false, false, false, false, false, false, false, false, false, false, false, false, false, false, false, false, false, false, false, false, false, false, false, false, false, false, false, false, false, false, false, false, false, false, false, false, false, false, false, false, false, false, false, false, false, false, false, false, false, false, false, false, false, false, false, false, false, false, false, false] rfl rfl (one_of HT_.out (by kernel_rfl)) (by decide) (fun K hK => ?_)
                  refine goes_ Try.func12 (by kernel_rfl) rfl #[.int .i64 t339] (by rfl) rfl rfl (by (try simp only [List.map_toArray, List.map_cons, List.map_nil]); first | done | rfl | (simp only [List.length_drop, List.length_take]; rfl)) ?_
                  with_reducible refine (templelaw0_Num.calls t339 t350 _ A9.out).mono ?_
                  rintro e w' ⟨rfl, ⟨nd, rfl⟩⟩
                  refine ⟨_, rfl, ?_⟩
                  refine hK.out _ _ ⟨(blk_cell BK340.out 0).trans rfl, (blk_cell BK340.out 1).trans rfl, (blk_cell BK340.out 2).trans rfl, (blk_cell BK340.out 3).trans rfl, (blk_cell BK349.out 0).trans rfl, (blk_cell BK349.out 1).trans rfl, (blk_cell BK349.out 2).trans rfl, (blk_cell BK349.out 3).trans rfl, (blk_cell BK331.out 0).trans rfl, (blk_cell BK331.out 1).trans rfl, (blk_cell BK331.out 2).trans rfl, (blk_cell BK331.out 3).trans rfl, (blk_cell BK332.out 0).trans rfl, (blk_cell BK332.out 1).trans rfl, (blk_cell BK332.out 2).trans rfl, (blk_cell BK332.out 3).trans rfl, (blk_cell BK333.out 0).trans rfl, (blk_cell BK333.out 1).trans rfl, (blk_cell BK333.out 2).trans rfl, (blk_cell BK333.out 3).trans rfl⟩ (fun hHeld => ?_)
                  clear hK K
                  refine norm_ (a' := ?_) ?_ ?_
                  rotate_left
                  · show Act.put _ (some 22) _ = _
                    simp only [Act.put, List.setIfInBounds_toArray, List.set_cons_zero, List.set_cons_succ, i64_w, i32_w]
                    rfl
                  refine pure_ (i := 2) (N := some 23) (v := ?_) (a' := ?_) #[true, true, true, false, false, false, false, false, false, false, false, false, false, false, false, false, false, false, false, false, false, false, false, false, false, false, false, false, false, false, false, false, false, false, false, false, false, false, false, false, false, false, false, false, false, false, false, false, false, false, false, false, false, false, false, false, false, false, false, false, false, false, false, false, false, false, false, false, false, false, false] rfl rfl (any_of HT_.out (by kernel_rfl)) (fun _ _ _ h => h) (Or.inl ⟨by rfl, ?_⟩) ?_ ?_
                  rotate_left
                  · intro w'
                    go_simp
                    with_reducible rfl
                  rotate_left
                  · simp only [Act.put, List.setIfInBounds_toArray, List.set_cons_zero, List.set_cons_succ, i64_w, i32_w]
                    rfl
                  refine pure_ (i := 3) (N := some 24) (v := ?_) (a' := ?_) #[true, true, true, true, false, false, false, false, false, false, false, false, false, false, false, false, false, false, false, false, false, false, false, false, false, false, false, false, false, false, false, false, false, false, false, false, false, false, false, false, false, false, false, false, false, false, false, false, false, false, false, false, false, false, false, false, false, false, false, false, false, false, false, false, false, false, false, false, false, false, false] rfl rfl (any_of HT_.out (by kernel_rfl)) (fun _ _ _ h => h) (Or.inl ⟨by rfl, ?_⟩) ?_ ?_
                  rotate_left
                  · intro w'
                    go_simp
                    with_reducible rfl
                  rotate_left
                  · simp only [Act.put, List.setIfInBounds_toArray, List.set_cons_zero, List.set_cons_succ, i64_w, i32_w]
                    rfl
                  refine take_ (i := 4) (N := some 25) (v := ?_) (a' := ?_) #[true, true, true, true, true, false, false, false, false, false, false, false, false, false, false, false, false, false, false, false, false, false, false, false, false, false, false, false, false, false, false, false, false, false, false, false, false, false, false, false, false, false, false, false, false, false, false, false, false, false, false, false, false, false, false, false, false, false, false, false, false, false, false, false, false, false, false, false, false, false, false] rfl rfl (take_ofW HT_.out HW_.out (by kernel_rfl)) (fun _ _ _ h => h) (Or.inl ⟨by rfl, ?_⟩) hHeld ?_ ?_
                  rotate_left
                  · rintro w' ⟨s0, s1, s2, s3, s4, s5, s6, s7, s8, s9, s10, s11, s12, s13, s14, s15, s16, s17, s18, s19⟩
                    go_simp
                    with_reducible rfl
                  rotate_left
                  · simp only [Act.put, List.setIfInBounds_toArray, List.set_cons_zero, List.set_cons_succ, i64_w, i32_w]
                    rfl
                  refine one_ (i := 5) (N := some 26) #[true, true, true, true, true, true, false, false, false, false, false, false, false, false, false, false, false, false, false, false, false, false, false, false, false, false, false, false, false, false, false, false, false, false, false, false, false, false, false, false, false, false, false, false, false, false, false, false, false, false, false, false, false, false, false, false, false, false, false, false, false, false, false, false, false, false, false, false, false, false, false] rfl rfl (one_of HT_.out (by kernel_rfl)) (by decide) (fun K hK => ?_)
                  refine goes_ Try.func19 (by kernel_rfl) rfl #[.agg #[.int .u64 t335, .int .u64 t336, .int .u64 t337, .int .u64 t338]] (by rfl) rfl rfl (by (try simp only [List.map_toArray, List.map_cons, List.map_nil]); first | done | rfl | (simp only [List.length_drop, List.length_take]; rfl)) ?_
                  with_reducible refine (byteset_Count.calls t335 t336 t337 t338 t351 _ A11.out).mono ?_
                  rintro e w56 ⟨rfl, hb⟩
                  refine ⟨_, rfl, ?_⟩
                  have n0_ := Aside0.mk (blk_below (g := gb331) (o := .cells #[.int .u64 a0_0, .int .u64 a0_1, .int .u64 a0_2, .int .u64 a0_3] 24 (0, 0)) (by (with_reducible repeat (first | refine blk_drewN ?_ _ | refine blk_drew ?_ | refine blk_alloc ?_ _)); exact BK331.out) hb)
                  have n1_ := Aside0.mk (blk_below (g := gb332) (o := .cells #[.int .u64 a1_0, .int .u64 a1_1, .int .u64 a1_2, .int .u64 a1_3] 24 (0, 0)) (by (with_reducible repeat (first | refine blk_drewN ?_ _ | refine blk_drew ?_ | refine blk_alloc ?_ _)); exact BK332.out) hb)
                  have n2_ := Aside0.mk (blk_below (g := gb333) (o := .cells #[.int .u64 a2_0, .int .u64 a2_1, .int .u64 a2_2, .int .u64 a2_3] 24 (0, 0)) (by (with_reducible repeat (first | refine blk_drewN ?_ _ | refine blk_drew ?_ | refine blk_alloc ?_ _)); exact BK333.out) hb)
                  have n3_ := Aside0.mk (blk_below (g := gb340) (o := .cells #[.int .u64 t335, .int .u64 t336, .int .u64 t337, .int .u64 t338] 24 (0, 0)) (by (with_reducible repeat (first | refine blk_drewN ?_ _ | refine blk_drew ?_ | refine blk_alloc ?_ _)); exact BK340.out) hb)
                  have n4_ := Aside0.mk (blk_below (g := gb349) (o := .cells #[.int .u64 t345, .int .u64 t346, .int .u64 t347, .int .u64 t348] 24 (0, 0)) (by (with_reducible repeat (first | refine blk_drewN ?_ _ | refine blk_drew ?_ | refine blk_alloc ?_ _)); exact BK349.out) hb)
                  have n5_ := Aside0.mk (below_step (by repeat (first | (with_reducible first | exact HB.out | apply below_alloc | apply pw_below_drewN | apply below_drew1 | refine below_set ?_ GE331.out | refine below_set ?_ GE332.out | refine below_set ?_ GE333.out | refine below_set ?_ GE340.out | refine below_set ?_ GE349.out) | exact HB.out)) hb)
                  clear BK331
                  clear BK332
                  clear BK333
                  clear BK340
                  clear BK349
                  clear HB
                  have BK331 := n0_
                  have BK332 := n1_
                  have BK333 := n2_
                  have BK340 := n3_
                  have BK349 := n4_
                  have HB := n5_
                  clear n0_ n1_ n2_ n3_ n4_ n5_
                  (try clear hb)
                  (try clear hb2)
                  (try clear hk)
                  (try clear hi)
                  refine hK.out _ _ ⟨(blk_cell BK340.out 0).trans rfl, (blk_cell BK340.out 1).trans rfl, (blk_cell BK340.out 2).trans rfl, (blk_cell BK340.out 3).trans rfl, (blk_cell BK349.out 0).trans rfl, (blk_cell BK349.out 1).trans rfl, (blk_cell BK349.out 2).trans rfl, (blk_cell BK349.out 3).trans rfl, (blk_cell BK331.out 0).trans rfl, (blk_cell BK331.out 1).trans rfl, (blk_cell BK331.out 2).trans rfl, (blk_cell BK331.out 3).trans rfl, (blk_cell BK332.out 0).trans rfl, (blk_cell BK332.out 1).trans rfl, (blk_cell BK332.out 2).trans rfl, (blk_cell BK332.out 3).trans rfl, (blk_cell BK333.out 0).trans rfl, (blk_cell BK333.out 1).trans rfl, (blk_cell BK333.out 2).trans rfl, (blk_cell BK333.out 3).trans rfl⟩ (fun hHeld => ?_)
                  clear hK K
                  refine norm_ (a' := ?_) ?_ ?_
                  rotate_left
                  · show Act.put _ (some 26) _ = _
                    simp only [Act.put, List.setIfInBounds_toArray, List.set_cons_zero, List.set_cons_succ, i64_w, i32_w]
                    rfl
                  refine pure_ (i := 6) (N := some 27) (v := ?_) (a' := ?_) #[true, true, true, true, true, true, true, false, false, false, false, false, false, false, false, false, false, false, false, false, false, false, false, false, false, false, false, false, false, false, false, false, false, false, false, false, false, false, false, false, false, false, false, false, false, false, false, false, false, false, false, false, false, false, false, false, false, false, false, false, false, false, false, false, false, false, false, false, false, false, false] rfl rfl (any_of HT_.out (by kernel_rfl)) (fun _ _ _ h => h) (Or.inl ⟨by rfl, ?_⟩) ?_ ?_
                  rotate_left
                  · intro w'
                    go_simp
                    with_reducible rfl
                  rotate_left
                  · simp only [Act.put, List.setIfInBounds_toArray, List.set_cons_zero, List.set_cons_succ, i64_w, i32_w]
                    rfl
                  refine pure_ (i := 7) (N := some 28) (v := ?_) (a' := ?_) #[true, true, true, true, true, true, true, true, false, false, false, false, false, false, false, false, false, false, false, false, false, false, false, false, false, false, false, false, false, false, false, false, false, false, false, false, false, false, false, false, false, false, false, false, false, false, false, false, false, false, false, false, false, false, false, false, false, false, false, false, false, false, false, false, false, false, false, false, false, false, false] rfl rfl (any_of HT_.out (by kernel_rfl)) (fun _ _ _ h => h) (Or.inl ⟨by rfl, ?_⟩) ?_ ?_
                  rotate_left
                  · intro w'
                    go_simp
                    with_reducible rfl
                  rotate_left
                  · simp only [Act.put, List.setIfInBounds_toArray, List.set_cons_zero, List.set_cons_succ, i64_w, i32_w]
                    rfl
                  refine pure_ (i := 8) (N := some 29) (v := ?_) (a' := ?_) #[true, true, true, true, true, true, true, true, true, false, false, false, false, false, false, false, false, false, false, false, false, false, false, false, false, false, false, false, false, false, false, false, false, false, false, false, false, false, false, false, false, false, false, false, false, false, false, false, false, false, false, false, false, false, false, false, false, false, false, false, false, false, false, false, false, false, false, false, false, false, false] rfl rfl (any_of HT_.out (by kernel_rfl)) (fun _ _ _ h => h) (Or.inl ⟨by rfl, ?_⟩) ?_ ?_
                  rotate_left
                  · intro w'
                    go_simp
                    with_reducible rfl
                  rotate_left
                  · simp only [Act.put, List.setIfInBounds_toArray, List.set_cons_zero, List.set_cons_succ, i64_w, i32_w]
                    rfl
                  refine take_ (i := 9) (N := some 30) (v := ?_) (a' := ?_) #[true, true, true, true, true, true, true, true, true, true, false, false, false, false, false, false, false, false, false, false, false, false, false, false, false, false, false, false, false, false, false, false, false, false, false, false, false, false, false, false, false, false, false, false, false, false, false, false, false, false, false, false, false, false, false, false, false, false, false, false, false, false, false, false, false, false, false, false, false, false, false] rfl rfl (take_ofW HT_.out HW_.out (by kernel_rfl)) (fun _ _ _ h => h) (Or.inl ⟨by rfl, ?_⟩) hHeld ?_ ?_
                  rotate_left
                  · rintro w' ⟨s0, s1, s2, s3, s4, s5, s6, s7, s8, s9, s10, s11, s12, s13, s14, s15, s16, s17, s18, s19⟩
                    go_simp
                    with_reducible rfl
                  rotate_left
                  · simp only [Act.put, List.setIfInBounds_toArray, List.set_cons_zero, List.set_cons_succ, i64_w, i32_w]
                    rfl
                  refine take_ (i := 10) (N := some 31) (v := ?_) (a' := ?_) #[true, true, true, true, true, true, true, true, true, true, true, false, false, false, false, false, false, false, false, false, false, false, false, false, false, false, false, false, false, false, false, false, false, false, false, false, false, false, false, false, false, false, false, false, false, false, false, false, false, false, false, false, false, false, false, false, false, false, false, false, false, false, false, false, false, false, false, false, false, false, false] rfl rfl (take_ofW HT_.out HW_.out (by kernel_rfl)) (fun _ _ _ h => h) (Or.inl ⟨by rfl, ?_⟩) hHeld ?_ ?_
                  rotate_left
                  · rintro w' ⟨s0, s1, s2, s3, s4, s5, s6, s7, s8, s9, s10, s11, s12, s13, s14, s15, s16, s17, s18, s19⟩
                    go_simp
                    with_reducible rfl
                  rotate_left
                  · simp only [Act.put, List.setIfInBounds_toArray, List.set_cons_zero, List.set_cons_succ, i64_w, i32_w]
                    rfl
                  refine take_ (i := 11) (N := some 32) (v := ?_) (a' := ?_) #[true, true, true, true, true, true, true, true, true, true, true, true, false, false, false, false, false, false, false, false, false, false, false, false, false, false, false, false, false, false, false, false, false, false, false, false, false, false, false, false, false, false, false, false, false, false, false, false, false, false, false, false, false, false, false, false, false, false, false, false, false, false, false, false, false, false, false, false, false, false, false] rfl rfl (take_ofW HT_.out HW_.out (by kernel_rfl)) (fun _ _ _ h => h) (Or.inl ⟨by rfl, ?_⟩) hHeld ?_ ?_
                  rotate_left
                  · rintro w' ⟨s0, s1, s2, s3, s4, s5, s6, s7, s8, s9, s10, s11, s12, s13, s14, s15, s16, s17, s18, s19⟩
                    go_simp
                    with_reducible rfl
                  rotate_left
                  · simp only [Act.put, List.setIfInBounds_toArray, List.set_cons_zero, List.set_cons_succ, i64_w, i32_w]
                    rfl
                  refine take_ (i := 13) (N := some 34) (v := ?_) (a' := ?_) #[true, true, true, true, true, true, true, true, true, true, true, true, false, true, false, false, false, false, false, false, false, false, false, false, false, false, false, false, false, false, false, false, false, false, false, false, false, false, false, false, false, false, false, false, false, false, false, false, false, false, false, false, false, false, false, false, false, false, false, false, false, false, false, false, false, false, false, false, false, false, false] rfl rfl (take_ofW HT_.out HW_.out (by kernel_rfl)) (fun _ _ _ h => h) (Or.inl ⟨by rfl, ?_⟩) hHeld ?_ ?_
                  rotate_left
                  · rintro w' ⟨s0, s1, s2, s3, s4, s5, s6, s7, s8, s9, s10, s11, s12, s13, s14, s15, s16, s17, s18, s19⟩
                    go_simp
                    with_reducible rfl
                  rotate_left
                  · simp only [Act.put, List.setIfInBounds_toArray, List.set_cons_zero, List.set_cons_succ, i64_w, i32_w]
                    rfl
                  refine take_ (i := 14) (N := some 35) (v := ?_) (a' := ?_) #[true, true, true, true, true, true, true, true, true, true, true, true, false, true, true, false, false, false, false, false, false, false, false, false, false, false, false, false, false, false, false, false, false, false, false, false, false, false, false, false, false, false, false, false, false, false, false, false, false, false, false, false, false, false, false, false, false, false, false, false, false, false, false, false, false, false, false, false, false, false, false] rfl rfl (take_ofW HT_.out HW_.out (by kernel_rfl)) (fun _ _ _ h => h) (Or.inl ⟨by rfl, ?_⟩) hHeld ?_ ?_
                  rotate_left
                  · rintro w' ⟨s0, s1, s2, s3, s4, s5, s6, s7, s8, s9, s10, s11, s12, s13, s14, s15, s16, s17, s18, s19⟩
                    go_simp
                    with_reducible rfl
                  rotate_left
                  · simp only [Act.put, List.setIfInBounds_toArray, List.set_cons_zero, List.set_cons_succ, i64_w, i32_w]
                    rfl
                  refine one_ (i := 12) (N := some 33) #[true, true, true, true, true, true, true, true, true, true, true, true, true, true, true, false, false, false, false, false, false, false, false, false, false, false, false, false, false, false, false, false, false, false, false, false, false, false, false, false, false, false, false, false, false, false, false, false, false, false, false, false, false, false, false, false, false, false, false, false, false, false, false, false, false, false, false, false, false, false, false] rfl rfl (one_of HT_.out (by kernel_rfl)) (by decide) (fun K hK => ?_)
                  refine goes_ Try.func18 (by kernel_rfl) rfl #[.agg #[.int .u64 t335, .int .u64 t336, .int .u64 t337, .int .u64 t338], .agg #[.int .u64 a0_0, .int .u64 a0_1, .int .u64 a0_2, .int .u64 a0_3]] (by rfl) rfl rfl (by (try simp only [List.map_toArray, List.map_cons, List.map_nil]); first | done | rfl | (simp only [List.length_drop, List.length_take]; rfl)) ?_
                  with_reducible refine (byteset_Minus.calls t335 t336 t337 t338 a0_0 a0_1 a0_2 a0_3 t352 t353 t354 t355 _ A13.out).mono ?_
                  rintro e w57 ⟨rfl, hb⟩
                  refine ⟨_, rfl, ?_⟩
                  have n0_ := Aside0.mk (blk_below (g := gb331) (o := .cells #[.int .u64 a0_0, .int .u64 a0_1, .int .u64 a0_2, .int .u64 a0_3] 24 (0, 0)) (by (with_reducible repeat (first | refine blk_drewN ?_ _ | refine blk_drew ?_ | refine blk_alloc ?_ _)); exact BK331.out) hb)
                  have n1_ := Aside0.mk (blk_below (g := gb332) (o := .cells #[.int .u64 a1_0, .int .u64 a1_1, .int .u64 a1_2, .int .u64 a1_3] 24 (0, 0)) (by (with_reducible repeat (first | refine blk_drewN ?_ _ | refine blk_drew ?_ | refine blk_alloc ?_ _)); exact BK332.out) hb)
                  have n2_ := Aside0.mk (blk_below (g := gb333) (o := .cells #[.int .u64 a2_0, .int .u64 a2_1, .int .u64 a2_2, .int .u64 a2_3] 24 (0, 0)) (by (with_reducible repeat (first | refine blk_drewN ?_ _ | refine blk_drew ?_ | refine blk_alloc ?_ _)); exact BK333.out) hb)
                  have n3_ := Aside0.mk (blk_below (g := gb340) (o := .cells #[.int .u64 t335, .int .u64 t336, .int .u64 t337, .int .u64 t338] 24 (0, 0)) (by (with_reducible repeat (first | refine blk_drewN ?_ _ | refine blk_drew ?_ | refine blk_alloc ?_ _)); exact BK340.out) hb)
                  have n4_ := Aside0.mk (blk_below (g := gb349) (o := .cells #[.int .u64 t345, .int .u64 t346, .int .u64 t347, .int .u64 t348] 24 (0, 0)) (by (with_reducible repeat (first | refine blk_drewN ?_ _ | refine blk_drew ?_ | refine blk_alloc ?_ _)); exact BK349.out) hb)
                  have n5_ := Aside0.mk (below_step (by repeat (first | (with_reducible first | exact HB.out | apply below_alloc | apply pw_below_drewN | apply below_drew1 | refine below_set ?_ GE331.out | refine below_set ?_ GE332.out | refine below_set ?_ GE333.out | refine below_set ?_ GE340.out | refine below_set ?_ GE349.out) | exact HB.out)) hb)
                  clear BK331
                  clear BK332
                  clear BK333
                  clear BK340
                  clear BK349
                  clear HB
                  have BK331 := n0_
                  have BK332 := n1_
                  have BK333 := n2_
                  have BK340 := n3_
                  have BK349 := n4_
                  have HB := n5_
                  clear n0_ n1_ n2_ n3_ n4_ n5_
                  (try clear hb)
                  (try clear hb2)
                  (try clear hk)
                  (try clear hi)
                  refine hK.out _ _ ⟨(blk_cell BK340.out 0).trans rfl, (blk_cell BK340.out 1).trans rfl, (blk_cell BK340.out 2).trans rfl, (blk_cell BK340.out 3).trans rfl, (blk_cell BK349.out 0).trans rfl, (blk_cell BK349.out 1).trans rfl, (blk_cell BK349.out 2).trans rfl, (blk_cell BK349.out 3).trans rfl, (blk_cell BK331.out 0).trans rfl, (blk_cell BK331.out 1).trans rfl, (blk_cell BK331.out 2).trans rfl, (blk_cell BK331.out 3).trans rfl, (blk_cell BK332.out 0).trans rfl, (blk_cell BK332.out 1).trans rfl, (blk_cell BK332.out 2).trans rfl, (blk_cell BK332.out 3).trans rfl, (blk_cell BK333.out 0).trans rfl, (blk_cell BK333.out 1).trans rfl, (blk_cell BK333.out 2).trans rfl, (blk_cell BK333.out 3).trans rfl⟩ (fun hHeld => ?_)
                  clear hK K
                  refine norm_ (a' := ?_) ?_ ?_
                  rotate_left
                  · show Act.put _ (some 33) _ = _
                    simp only [Act.put, List.setIfInBounds_toArray, List.set_cons_zero, List.set_cons_succ, i64_w, i32_w]
                    rfl
                  refine one_ (i := 15) (N := some 36) #[true, true, true, true, true, true, true, true, true, true, true, true, true, true, true, true, false, false, false, false, false, false, false, false, false, false, false, false, false, false, false, false, false, false, false, false, false, false, false, false, false, false, false, false, false, false, false, false, false, false, false, false, false, false, false, false, false, false, false, false, false, false, false, false, false, false, false, false, false, false, false] rfl rfl (one_of HT_.out (by kernel_rfl)) (by decide) (fun K hK => ?_)
                  refine goes_ Try.func18 (by kernel_rfl) rfl #[.agg #[.int .u64 t335, .int .u64 t336, .int .u64 t337, .int .u64 t338], .agg #[.int .u64 a1_0, .int .u64 a1_1, .int .u64 a1_2, .int .u64 a1_3]] (by rfl) rfl rfl (by (try simp only [List.map_toArray, List.map_cons, List.map_nil]); first | done | rfl | (simp only [List.length_drop, List.length_take]; rfl)) ?_
                  with_reducible refine (byteset_Minus.calls t335 t336 t337 t338 a1_0 a1_1 a1_2 a1_3 t356 t357 t358 t359 _ A14.out).mono ?_
                  rintro e w58 ⟨rfl, hb⟩
                  refine ⟨_, rfl, ?_⟩
                  have n0_ := Aside0.mk (blk_below (g := gb331) (o := .cells #[.int .u64 a0_0, .int .u64 a0_1, .int .u64 a0_2, .int .u64 a0_3] 24 (0, 0)) (by (with_reducible repeat (first | refine blk_drewN ?_ _ | refine blk_drew ?_ | refine blk_alloc ?_ _)); exact BK331.out) hb)
                  have n1_ := Aside0.mk (blk_below (g := gb332) (o := .cells #[.int .u64 a1_0, .int .u64 a1_1, .int .u64 a1_2, .int .u64 a1_3] 24 (0, 0)) (by (with_reducible repeat (first | refine blk_drewN ?_ _ | refine blk_drew ?_ | refine blk_alloc ?_ _)); exact BK332.out) hb)
                  have n2_ := Aside0.mk (blk_below (g := gb333) (o := .cells #[.int .u64 a2_0, .int .u64 a2_1, .int .u64 a2_2, .int .u64 a2_3] 24 (0, 0)) (by (with_reducible repeat (first | refine blk_drewN ?_ _ | refine blk_drew ?_ | refine blk_alloc ?_ _)); exact BK333.out) hb)
                  have n3_ := Aside0.mk (blk_below (g := gb340) (o := .cells #[.int .u64 t335, .int .u64 t336, .int .u64 t337, .int .u64 t338] 24 (0, 0)) (by (with_reducible repeat (first | refine blk_drewN ?_ _ | refine blk_drew ?_ | refine blk_alloc ?_ _)); exact BK340.out) hb)
                  have n4_ := Aside0.mk (blk_below (g := gb349) (o := .cells #[.int .u64 t345, .int .u64 t346, .int .u64 t347, .int .u64 t348] 24 (0, 0)) (by (with_reducible repeat (first | refine blk_drewN ?_ _ | refine blk_drew ?_ | refine blk_alloc ?_ _)); exact BK349.out) hb)
                  have n5_ := Aside0.mk (below_step (by repeat (first | (with_reducible first | exact HB.out | apply below_alloc | apply pw_below_drewN | apply below_drew1 | refine below_set ?_ GE331.out | refine below_set ?_ GE332.out | refine below_set ?_ GE333.out | refine below_set ?_ GE340.out | refine below_set ?_ GE349.out) | exact HB.out)) hb)
                  clear BK331
                  clear BK332
                  clear BK333
                  clear BK340
                  clear BK349
                  clear HB
                  have BK331 := n0_
                  have BK332 := n1_
                  have BK333 := n2_
                  have BK340 := n3_
                  have BK349 := n4_
                  have HB := n5_
                  clear n0_ n1_ n2_ n3_ n4_ n5_
                  (try clear hb)
                  (try clear hb2)
                  (try clear hk)
                  (try clear hi)
                  refine hK.out _ _ ⟨(blk_cell BK340.out 0).trans rfl, (blk_cell BK340.out 1).trans rfl, (blk_cell BK340.out 2).trans rfl, (blk_cell BK340.out 3).trans rfl, (blk_cell BK349.out 0).trans rfl, (blk_cell BK349.out 1).trans rfl, (blk_cell BK349.out 2).trans rfl, (blk_cell BK349.out 3).trans rfl, (blk_cell BK331.out 0).trans rfl, (blk_cell BK331.out 1).trans rfl, (blk_cell BK331.out 2).trans rfl, (blk_cell BK331.out 3).trans rfl, (blk_cell BK332.out 0).trans rfl, (blk_cell BK332.out 1).trans rfl, (blk_cell BK332.out 2).trans rfl, (blk_cell BK332.out 3).trans rfl, (blk_cell BK333.out 0).trans rfl, (blk_cell BK333.out 1).trans rfl, (blk_cell BK333.out 2).trans rfl, (blk_cell BK333.out 3).trans rfl⟩ (fun hHeld => ?_)
                  clear hK K
                  refine norm_ (a' := ?_) ?_ ?_
                  rotate_left
                  · show Act.put _ (some 36) _ = _
                    simp only [Act.put, List.setIfInBounds_toArray, List.set_cons_zero, List.set_cons_succ, i64_w, i32_w]
                    rfl
                  refine one_ (i := 16) (N := some 37) #[true, true, true, true, true, true, true, true, true, true, true, true, true, true, true, true, true, false, false, false, false, false, false, false, false, false, false, false, false, false, false, false, false, false, false, false, false, false, false, false, false, false, false, false, false, false, false, false, false, false, false, false, false, false, false, false, false, false, false, false, false, false, false, false, false, false, false, false, false, false, false] rfl rfl (one_of HT_.out (by kernel_rfl)) (by decide) (fun K hK => ?_)
                  refine goes_ Try.func17 (by kernel_rfl) rfl #[.agg #[.int .u64 t352, .int .u64 t353, .int .u64 t354, .int .u64 t355], .agg #[.int .u64 t356, .int .u64 t357, .int .u64 t358, .int .u64 t359]] (by rfl) rfl rfl (by (try simp only [List.map_toArray, List.map_cons, List.map_nil]); first | done | rfl | (simp only [List.length_drop, List.length_take]; rfl)) ?_
                  with_reducible refine (byteset_And.calls t352 t353 t354 t355 t356 t357 t358 t359 t360 t361 t362 t363 _ A15.out).mono ?_
                  rintro e w59 ⟨rfl, hb⟩
                  refine ⟨_, rfl, ?_⟩
                  have n0_ := Aside0.mk (blk_below (g := gb331) (o := .cells #[.int .u64 a0_0, .int .u64 a0_1, .int .u64 a0_2, .int .u64 a0_3] 24 (0, 0)) (by (with_reducible repeat (first | refine blk_drewN ?_ _ | refine blk_drew ?_ | refine blk_alloc ?_ _)); exact BK331.out) hb)
                  have n1_ := Aside0.mk (blk_below (g := gb332) (o := .cells #[.int .u64 a1_0, .int .u64 a1_1, .int .u64 a1_2, .int .u64 a1_3] 24 (0, 0)) (by (with_reducible repeat (first | refine blk_drewN ?_ _ | refine blk_drew ?_ | refine blk_alloc ?_ _)); exact BK332.out) hb)
                  have n2_ := Aside0.mk (blk_below (g := gb333) (o := .cells #[.int .u64 a2_0, .int .u64 a2_1, .int .u64 a2_2, .int .u64 a2_3] 24 (0, 0)) (by (with_reducible repeat (first | refine blk_drewN ?_ _ | refine blk_drew ?_ | refine blk_alloc ?_ _)); exact BK333.out) hb)
                  have n3_ := Aside0.mk (blk_below (g := gb340) (o := .cells #[.int .u64 t335, .int .u64 t336, .int .u64 t337, .int .u64 t338] 24 (0, 0)) (by (with_reducible repeat (first | refine blk_drewN ?_ _ | refine blk_drew ?_ | refine blk_alloc ?_ _)); exact BK340.out) hb)
                  have n4_ := Aside0.mk (blk_below (g := gb349) (o := .cells #[.int .u64 t345, .int .u64 t346, .int .u64 t347, .int .u64 t348] 24 (0, 0)) (by (with_reducible repeat (first | refine blk_drewN ?_ _ | refine blk_drew ?_ | refine blk_alloc ?_ _)); exact BK349.out) hb)
                  have n5_ := Aside0.mk (below_step (by repeat (first | (with_reducible first | exact HB.out | apply below_alloc | apply pw_below_drewN | apply below_drew1 | refine below_set ?_ GE331.out | refine below_set ?_ GE332.out | refine below_set ?_ GE333.out | refine below_set ?_ GE340.out | refine below_set ?_ GE349.out) | exact HB.out)) hb)
                  clear BK331
                  clear BK332
                  clear BK333
                  clear BK340
                  clear BK349
                  clear HB
                  have BK331 := n0_
                  have BK332 := n1_
                  have BK333 := n2_
                  have BK340 := n3_
                  have BK349 := n4_
                  have HB := n5_
                  clear n0_ n1_ n2_ n3_ n4_ n5_
                  (try clear hb)
                  (try clear hb2)
                  (try clear hk)
                  (try clear hi)
                  refine hK.out _ _ ⟨(blk_cell BK340.out 0).trans rfl, (blk_cell BK340.out 1).trans rfl, (blk_cell BK340.out 2).trans rfl, (blk_cell BK340.out 3).trans rfl, (blk_cell BK349.out 0).trans rfl, (blk_cell BK349.out 1).trans rfl, (blk_cell BK349.out 2).trans rfl, (blk_cell BK349.out 3).trans rfl, (blk_cell BK331.out 0).trans rfl, (blk_cell BK331.out 1).trans rfl, (blk_cell BK331.out 2).trans rfl, (blk_cell BK331.out 3).trans rfl, (blk_cell BK332.out 0).trans rfl, (blk_cell BK332.out 1).trans rfl, (blk_cell BK332.out 2).trans rfl, (blk_cell BK332.out 3).trans rfl, (blk_cell BK333.out 0).trans rfl, (blk_cell BK333.out 1).trans rfl, (blk_cell BK333.out 2).trans rfl, (blk_cell BK333.out 3).trans rfl⟩ (fun hHeld => ?_)
                  clear hK K
                  refine norm_ (a' := ?_) ?_ ?_
                  rotate_left
                  · show Act.put _ (some 37) _ = _
                    simp only [Act.put, List.setIfInBounds_toArray, List.set_cons_zero, List.set_cons_succ, i64_w, i32_w]
                    rfl
                  refine pure_ (i := 17) (N := some 38) (v := ?_) (a' := ?_) #[true, true, true, true, true, true, true, true, true, true, true, true, true, true, true, true, true, true, false, false, false, false, false, false, false, false, false, false, false, false, false, false, false, false, false, false, false, false, false, false, false, false, false, false, false, false, false, false, false, false, false, false, false, false, false, false, false, false, false, false, false, false, false, false, false, false, false, false, false, false, false] rfl rfl (any_of HT_.out (by kernel_rfl)) (fun _ _ _ h => h) (Or.inl ⟨by rfl, ?_⟩) ?_ ?_
                  rotate_left
                  · intro w'
                    go_simp
                    with_reducible rfl
                  rotate_left
                  · simp only [Act.put, List.setIfInBounds_toArray, List.set_cons_zero, List.set_cons_succ, i64_w, i32_w]
                    rfl
                  refine pure_ (i := 18) (N := some 39) (v := ?_) (a' := ?_) #[true, true, true, true, true, true, true, true, true, true, true, true, true, true, true, true, true, true, true, false, false, false, false, false, false, false, false, false, false, false, false, false, false, false, false, false, false, false, false, false, false, false, false, false, false, false, false, false, false, false, false, false, false, false, false, false, false, false, false, false, false, false, false, false, false, false, false, false, false, false, false] rfl rfl (any_of HT_.out (by kernel_rfl)) (fun _ _ _ h => h) (Or.inl ⟨by rfl, ?_⟩) ?_ ?_
                  rotate_left
                  · intro w'
                    go_simp
                    with_reducible rfl
                  rotate_left
                  · simp only [Act.put, List.setIfInBounds_toArray, List.set_cons_zero, List.set_cons_succ, i64_w, i32_w]
                    rfl
                  refine pure_ (i := 19) (N := some 40) (v := ?_) (a' := ?_) #[true, true, true, true, true, true, true, true, true, true, true, true, true, true, true, true, true, true, true, true, false, false, false, false, false, false, false, false, false, false, false, false, false, false, false, false, false, false, false, false, false, false, false, false, false, false, false, false, false, false, false, false, false, false, false, false, false, false, false, false, false, false, false, false, false, false, false, false, false, false, false] rfl rfl (any_of HT_.out (by kernel_rfl)) (fun _ _ _ h => h) (Or.inl ⟨by rfl, ?_⟩) ?_ ?_
                  rotate_left
                  · intro w'
                    go_simp
                    with_reducible rfl
                  rotate_left
                  · simp only [Act.put, List.setIfInBounds_toArray, List.set_cons_zero, List.set_cons_succ, i64_w, i32_w]
                    rfl
                  refine take_ (i := 20) (N := some 41) (v := ?_) (a' := ?_) #[true, true, true, true, true, true, true, true, true, true, true, true, true, true, true, true, true, true, true, true, true, false, false, false, false, false, false, false, false, false, false, false, false, false, false, false, false, false, false, false, false, false, false, false, false, false, false, false, false, false, false, false, false, false, false, false, false, false, false, false, false, false, false, false, false, false, false, false, false, false, false] rfl rfl (take_ofW HT_.out HW_.out (by kernel_rfl)) (fun _ _ _ h => h) (Or.inl ⟨by rfl, ?_⟩) hHeld ?_ ?_
                  rotate_left
                  · rintro w' ⟨s0, s1, s2, s3, s4, s5, s6, s7, s8, s9, s10, s11, s12, s13, s14, s15, s16, s17, s18, s19⟩
                    go_simp
                    with_reducible rfl
                  rotate_left
                  · simp only [Act.put, List.setIfInBounds_toArray, List.set_cons_zero, List.set_cons_succ, i64_w, i32_w]
                    rfl
                  refine take_ (i := 21) (N := some 42) (v := ?_) (a' := ?_) #[true, true, true, true, true, true, true, true, true, true, true, true, true, true, true, true, true, true, true, true, true, true, false, false, false, false, false, false, false, false, false, false, false, false, false, false, false, false, false, false, false, false, false, false, false, false, false, false, false, false, false, false, false, false, false, false, false, false, false, false, false, false, false, false, false, false, false, false, false, false, false] rfl rfl (take_ofW HT_.out HW_.out (by kernel_rfl)) (fun _ _ _ h => h) (Or.inl ⟨by rfl, ?_⟩) hHeld ?_ ?_
                  rotate_left
                  · rintro w' ⟨s0, s1, s2, s3, s4, s5, s6, s7, s8, s9, s10, s11, s12, s13, s14, s15, s16, s17, s18, s19⟩
                    go_simp
                    with_reducible rfl
                  rotate_left
                  · simp only [Act.put, List.setIfInBounds_toArray, List.set_cons_zero, List.set_cons_succ, i64_w, i32_w]
                    rfl
                  refine take_ (i := 22) (N := some 43) (v := ?_) (a' := ?_) #[true, true, true, true, true, true, true, true, true, true, true, true, true, true, true, true, true, true, true, true, true, true, true, false, false, false, false, false, false, false, false, false, false, false, false, false, false, false, false, false, false, false, false, false, false, false, false, false, false, false, false, false, false, false, false, false, false, false, false, false, false, false, false, false, false, false, false, false, false, false, false] rfl rfl (take_ofW HT_.out HW_.out (by kernel_rfl)) (fun _ _ _ h => h) (Or.inl ⟨by rfl, ?_⟩) hHeld ?_ ?_
                  rotate_left
                  · rintro w' ⟨s0, s1, s2, s3, s4, s5, s6, s7, s8, s9, s10, s11, s12, s13, s14, s15, s16, s17, s18, s19⟩
                    go_simp
                    with_reducible rfl
                  rotate_left
                  · simp only [Act.put, List.setIfInBounds_toArray, List.set_cons_zero, List.set_cons_succ, i64_w, i32_w]
                    rfl
                  refine take_ (i := 25) (N := some 46) (v := ?_) (a' := ?_) #[true, true, true, true, true, true, true, true, true, true, true, true, true, true, true, true, true, true, true, true, true, true, true, false, false, true, false, false, false, false, false, false, false, false, false, false, false, false, false, false, false, false, false, false, false, false, false, false, false, false, false, false, false, false, false, false, false, false, false, false, false, false, false, false, false, false, false, false, false, false, false] rfl rfl (take_ofW HT_.out HW_.out (by kernel_rfl)) (fun _ _ _ h => h) (Or.inl ⟨by rfl, ?_⟩) hHeld ?_ ?_
                  rotate_left
                  · rintro w' ⟨s0, s1, s2, s3, s4, s5, s6, s7, s8, s9, s10, s11, s12, s13, s14, s15, s16, s17, s18, s19⟩
                    go_simp
                    with_reducible rfl
                  rotate_left
                  · simp only [Act.put, List.setIfInBounds_toArray, List.set_cons_zero, List.set_cons_succ, i64_w, i32_w]
                    rfl
                  refine take_ (i := 26) (N := some 47) (v := ?_) (a' := ?_) #[true, true, true, true, true, true, true, true, true, true, true, true, true, true, true, true, true, true, true, true, true, true, true, false, false, true, true, false, false, false, false, false, false, false, false, false, false, false, false, false, false, false, false, false, false, false, false, false, false, false, false, false, false, false, false, false, false, false, false, false, false, false, false, false, false, false, false, false, false, false, false] rfl rfl (take_ofW HT_.out HW_.out (by kernel_rfl)) (fun _ _ _ h => h) (Or.inl ⟨by rfl, ?_⟩) hHeld ?_ ?_
                  rotate_left
                  · rintro w' ⟨s0, s1, s2, s3, s4, s5, s6, s7, s8, s9, s10, s11, s12, s13, s14, s15, s16, s17, s18, s19⟩
                    go_simp
                    with_reducible rfl
                  rotate_left
                  · simp only [Act.put, List.setIfInBounds_toArray, List.set_cons_zero, List.set_cons_succ, i64_w, i32_w]
                    rfl
                  refine take_ (i := 28) (N := some 49) (v := ?_) (a' := ?_) #[true, true, true, true, true, true, true, true, true, true, true, true, true, true, true, true, true, true, true, true, true, true, true, false, false, true, true, false, true, false, false, false, false, false, false, false, false, false, false, false, false, false, false, false, false, false, false, false, false, false, false, false, false, false, false, false, false, false, false, false, false, false, false, false, false, false, false, false, false, false, false] rfl rfl (take_ofW HT_.out HW_.out (by kernel_rfl)) (fun _ _ _ h => h) (Or.inl ⟨by rfl, ?_⟩) hHeld ?_ ?_
                  rotate_left
                  · rintro w' ⟨s0, s1, s2, s3, s4, s5, s6, s7, s8, s9, s10, s11, s12, s13, s14, s15, s16, s17, s18, s19⟩
                    go_simp
                    with_reducible rfl
                  rotate_left
                  · simp only [Act.put, List.setIfInBounds_toArray, List.set_cons_zero, List.set_cons_succ, i64_w, i32_w]
                    rfl
                  refine take_ (i := 29) (N := some 50) (v := ?_) (a' := ?_) #[true, true, true, true, true, true, true, true, true, true, true, true, true, true, true, true, true, true, true, true, true, true, true, false, false, true, true, false, true, true, false, false, false, false, false, false, false, false, false, false, false, false, false, false, false, false, false, false, false, false, false, false, false, false, false, false, false, false, false, false, false, false, false, false, false, false, false, false, false, false, false] rfl rfl (take_ofW HT_.out HW_.out (by kernel_rfl)) (fun _ _ _ h => h) (Or.inl ⟨by rfl, ?_⟩) hHeld ?_ ?_
                  rotate_left
                  · rintro w' ⟨s0, s1, s2, s3, s4, s5, s6, s7, s8, s9, s10, s11, s12, s13, s14, s15, s16, s17, s18, s19⟩
                    go_simp
                    with_reducible rfl
                  rotate_left
                  · simp only [Act.put, List.setIfInBounds_toArray, List.set_cons_zero, List.set_cons_succ, i64_w, i32_w]
                    rfl
                  refine one_ (i := 23) (N := some 44) #[true, true, true, true, true, true, true, true, true, true, true, true, true, true, true, true, true, true, true, true, true, true, true, true, false, true, true, false, true, true, false, false, false, false, false, false, false, false, false, false, false, false, false, false, false, false, false, false, false, false, false, false, false, false, false, false, false, false, false, false, false, false, false, false, false, false, false, false, false, false, false] rfl rfl (one_of HT_.out (by kernel_rfl)) (by decide) (fun K hK => ?_)
                  refine goes_ Try.func15 (by kernel_rfl) rfl #[.agg #[.int .u64 a1_0, .int .u64 a1_1, .int .u64 a1_2, .int .u64 a1_3], .agg #[.int .u64 a2_0, .int .u64 a2_1, .int .u64 a2_2, .int .u64 a2_3]] (by rfl) rfl rfl (by (try simp only [List.map_toArray, List.map_cons, List.map_nil]); first | done | rfl | (simp only [List.length_drop, List.length_take]; rfl)) ?_
                  with_reducible refine (byteset_Or.calls a1_0 a1_1 a1_2 a1_3 a2_0 a2_1 a2_2 a2_3 t364 t365 t366 t367 _ A17.out).mono ?_
                  rintro e w60 ⟨rfl, hb⟩
                  refine ⟨_, rfl, ?_⟩
                  have n0_ := Aside0.mk (blk_below (g := gb331) (o := .cells #[.int .u64 a0_0, .int .u64 a0_1, .int .u64 a0_2, .int .u64 a0_3] 24 (0, 0)) (by (with_reducible repeat (first | refine blk_drewN ?_ _ | refine blk_drew ?_ | refine blk_alloc ?_ _)); exact BK331.out) hb)
                  have n1_ := Aside0.mk (blk_below (g := gb332) (o := .cells #[.int .u64 a1_0, .int .u64 a1_1, .int .u64 a1_2, .int .u64 a1_3] 24 (0, 0)) (by (with_reducible repeat (first | refine blk_drewN ?_ _ | refine blk_drew ?_ | refine blk_alloc ?_ _)); exact BK332.out) hb)
                  have n2_ := Aside0.mk (blk_below (g := gb333) (o := .cells #[.int .u64 a2_0, .int .u64 a2_1, .int .u64 a2_2, .int .u64 a2_3] 24 (0, 0)) (by (with_reducible repeat (first | refine blk_drewN ?_ _ | refine blk_drew ?_ | refine blk_alloc ?_ _)); exact BK333.out) hb)
                  have n3_ := Aside0.mk (blk_below (g := gb340) (o := .cells #[.int .u64 t335, .int .u64 t336, .int .u64 t337, .int .u64 t338] 24 (0, 0)) (by (with_reducible repeat (first | refine blk_drewN ?_ _ | refine blk_drew ?_ | refine blk_alloc ?_ _)); exact BK340.out) hb)
                  have n4_ := Aside0.mk (blk_below (g := gb349) (o := .cells #[.int .u64 t345, .int .u64 t346, .int .u64 t347, .int .u64 t348] 24 (0, 0)) (by (with_reducible repeat (first | refine blk_drewN ?_ _ | refine blk_drew ?_ | refine blk_alloc ?_ _)); exact BK349.out) hb)
                  have n5_ := Aside0.mk (below_step (by repeat (first | (with_reducible first | exact HB.out | apply below_alloc | apply pw_below_drewN | apply below_drew1 | refine below_set ?_ GE331.out | refine below_set ?_ GE332.out | refine below_set ?_ GE333.out | refine below_set ?_ GE340.out | refine below_set ?_ GE349.out) | exact HB.out)) hb)
                  clear BK331
                  clear BK332
                  clear BK333
                  clear BK340
                  clear BK349
                  clear HB
                  have BK331 := n0_
                  have BK332 := n1_
                  have BK333 := n2_
                  have BK340 := n3_
                  have BK349 := n4_
                  have HB := n5_
                  clear n0_ n1_ n2_ n3_ n4_ n5_
                  (try clear hb)
                  (try clear hb2)
                  (try clear hk)
                  (try clear hi)
                  refine hK.out _ _ ⟨(blk_cell BK340.out 0).trans rfl, (blk_cell BK340.out 1).trans rfl, (blk_cell BK340.out 2).trans rfl, (blk_cell BK340.out 3).trans rfl, (blk_cell BK349.out 0).trans rfl, (blk_cell BK349.out 1).trans rfl, (blk_cell BK349.out 2).trans rfl, (blk_cell BK349.out 3).trans rfl, (blk_cell BK331.out 0).trans rfl, (blk_cell BK331.out 1).trans rfl, (blk_cell BK331.out 2).trans rfl, (blk_cell BK331.out 3).trans rfl, (blk_cell BK332.out 0).trans rfl, (blk_cell BK332.out 1).trans rfl, (blk_cell BK332.out 2).trans rfl, (blk_cell BK332.out 3).trans rfl, (blk_cell BK333.out 0).trans rfl, (blk_cell BK333.out 1).trans rfl, (blk_cell BK333.out 2).trans rfl, (blk_cell BK333.out 3).trans rfl⟩ (fun hHeld => ?_)
                  clear hK K
                  refine norm_ (a' := ?_) ?_ ?_
                  rotate_left
                  · show Act.put _ (some 44) _ = _
                    simp only [Act.put, List.setIfInBounds_toArray, List.set_cons_zero, List.set_cons_succ, i64_w, i32_w]
                    rfl
                  refine one_ (i := 24) (N := some 45) #[true, true, true, true, true, true, true, true, true, true, true, true, true, true, true, true, true, true, true, true, true, true, true, true, true, true, true, false, true, true, false, false, false, false, false, false, false, false, false, false, false, false, false, false, false, false, false, false, false, false, false, false, false, false, false, false, false, false, false, false, false, false, false, false, false, false, false, false, false, false, false] rfl rfl (one_of HT_.out (by kernel_rfl)) (by decide) (fun K hK => ?_)
                  refine goes_ Try.func17 (by kernel_rfl) rfl #[.agg #[.int .u64 a0_0, .int .u64 a0_1, .int .u64 a0_2, .int .u64 a0_3], .agg #[.int .u64 t364, .int .u64 t365, .int .u64 t366, .int .u64 t367]] (by rfl) rfl rfl (by (try simp only [List.map_toArray, List.map_cons, List.map_nil]); first | done | rfl | (simp only [List.length_drop, List.length_take]; rfl)) ?_
                  with_reducible refine (byteset_And.calls a0_0 a0_1 a0_2 a0_3 t364 t365 t366 t367 t368 t369 t370 t371 _ A18.out).mono ?_
                  rintro e w61 ⟨rfl, hb⟩
                  refine ⟨_, rfl, ?_⟩
                  have n0_ := Aside0.mk (blk_below (g := gb331) (o := .cells #[.int .u64 a0_0, .int .u64 a0_1, .int .u64 a0_2, .int .u64 a0_3] 24 (0, 0)) (by (with_reducible repeat (first | refine blk_drewN ?_ _ | refine blk_drew ?_ | refine blk_alloc ?_ _)); exact BK331.out) hb)
                  have n1_ := Aside0.mk (blk_below (g := gb332) (o := .cells #[.int .u64 a1_0, .int .u64 a1_1, .int .u64 a1_2, .int .u64 a1_3] 24 (0, 0)) (by (with_reducible repeat (first | refine blk_drewN ?_ _ | refine blk_drew ?_ | refine blk_alloc ?_ _)); exact BK332.out) hb)
                  have n2_ := Aside0.mk (blk_below (g := gb333) (o := .cells #[.int .u64 a2_0, .int .u64 a2_1, .int .u64 a2_2, .int .u64 a2_3] 24 (0, 0)) (by (with_reducible repeat (first | refine blk_drewN ?_ _ | refine blk_drew ?_ | refine blk_alloc ?_ _)); exact BK333.out) hb)
                  have n3_ := Aside0.mk (blk_below (g := gb340) (o := .cells #[.int .u64 t335, .int .u64 t336, .int .u64 t337, .int .u64 t338] 24 (0, 0)) (by (with_reducible repeat (first | refine blk_drewN ?_ _ | refine blk_drew ?_ | refine blk_alloc ?_ _)); exact BK340.out) hb)
                  have n4_ := Aside0.mk (blk_below (g := gb349) (o := .cells #[.int .u64 t345, .int .u64 t346, .int .u64 t347, .int .u64 t348] 24 (0, 0)) (by (with_reducible repeat (first | refine blk_drewN ?_ _ | refine blk_drew ?_ | refine blk_alloc ?_ _)); exact BK349.out) hb)
                  have n5_ := Aside0.mk (below_step (by repeat (first | (with_reducible first | exact HB.out | apply below_alloc | apply pw_below_drewN | apply below_drew1 | refine below_set ?_ GE331.out | refine below_set ?_ GE332.out | refine below_set ?_ GE333.out | refine below_set ?_ GE340.out | refine below_set ?_ GE349.out) | exact HB.out)) hb)
                  clear BK331
                  clear BK332
                  clear BK333
                  clear BK340
                  clear BK349
                  clear HB
                  have BK331 := n0_
                  have BK332 := n1_
                  have BK333 := n2_
                  have BK340 := n3_
                  have BK349 := n4_
                  have HB := n5_
                  clear n0_ n1_ n2_ n3_ n4_ n5_
                  (try clear hb)
                  (try clear hb2)
                  (try clear hk)
                  (try clear hi)
                  refine hK.out _ _ ⟨(blk_cell BK340.out 0).trans rfl, (blk_cell BK340.out 1).trans rfl, (blk_cell BK340.out 2).trans rfl, (blk_cell BK340.out 3).trans rfl, (blk_cell BK349.out 0).trans rfl, (blk_cell BK349.out 1).trans rfl, (blk_cell BK349.out 2).trans rfl, (blk_cell BK349.out 3).trans rfl, (blk_cell BK331.out 0).trans rfl, (blk_cell BK331.out 1).trans rfl, (blk_cell BK331.out 2).trans rfl, (blk_cell BK331.out 3).trans rfl, (blk_cell BK332.out 0).trans rfl, (blk_cell BK332.out 1).trans rfl, (blk_cell BK332.out 2).trans rfl, (blk_cell BK332.out 3).trans rfl, (blk_cell BK333.out 0).trans rfl, (blk_cell BK333.out 1).trans rfl, (blk_cell BK333.out 2).trans rfl, (blk_cell BK333.out 3).trans rfl⟩ (fun hHeld => ?_)
                  clear hK K
                  refine norm_ (a' := ?_) ?_ ?_
                  rotate_left
                  · show Act.put _ (some 45) _ = _
                    simp only [Act.put, List.setIfInBounds_toArray, List.set_cons_zero, List.set_cons_succ, i64_w, i32_w]
                    rfl
                  refine one_ (i := 27) (N := some 48) #[true, true, true, true, true, true, true, true, true, true, true, true, true, true, true, true, true, true, true, true, true, true, true, true, true, true, true, true, true, true, false, false, false, false, false, false, false, false, false, false, false, false, false, false, false, false, false, false, false, false, false, false, false, false, false, false, false, false, false, false, false, false, false, false, false, false, false, false, false, false, false] rfl rfl (one_of HT_.out (by kernel_rfl)) (by decide) (fun K hK => ?_)
                  refine goes_ Try.func17 (by kernel_rfl) rfl #[.agg #[.int .u64 a0_0, .int .u64 a0_1, .int .u64 a0_2, .int .u64 a0_3], .agg #[.int .u64 a1_0, .int .u64 a1_1, .int .u64 a1_2, .int .u64 a1_3]] (by rfl) rfl rfl (by (try simp only [List.map_toArray, List.map_cons, List.map_nil]); first | done | rfl | (simp only [List.length_drop, List.length_take]; rfl)) ?_
                  with_reducible refine (byteset_And.calls a0_0 a0_1 a0_2 a0_3 a1_0 a1_1 a1_2 a1_3 t372 t373 t374 t375 _ A19.out).mono ?_
                  rintro e w62 ⟨rfl, hb⟩
                  refine ⟨_, rfl, ?_⟩
                  have n0_ := Aside0.mk (blk_below (g := gb331) (o := .cells #[.int .u64 a0_0, .int .u64 a0_1, .int .u64 a0_2, .int .u64 a0_3] 24 (0, 0)) (by (with_reducible repeat (first | refine blk_drewN ?_ _ | refine blk_drew ?_ | refine blk_alloc ?_ _)); exact BK331.out) hb)
                  have n1_ := Aside0.mk (blk_below (g := gb332) (o := .cells #[.int .u64 a1_0, .int .u64 a1_1, .int .u64 a1_2, .int .u64 a1_3] 24 (0, 0)) (by (with_reducible repeat (first | refine blk_drewN ?_ _ | refine blk_drew ?_ | refine blk_alloc ?_ _)); exact BK332.out) hb)
                  have n2_ := Aside0.mk (blk_below (g := gb333) (o := .cells #[.int .u64 a2_0, .int .u64 a2_1, .int .u64 a2_2, .int .u64 a2_3] 24 (0, 0)) (by (with_reducible repeat (first | refine blk_drewN ?_ _ | refine blk_drew ?_ | refine blk_alloc ?_ _)); exact BK333.out) hb)
                  have n3_ := Aside0.mk (blk_below (g := gb340) (o := .cells #[.int .u64 t335, .int .u64 t336, .int .u64 t337, .int .u64 t338] 24 (0, 0)) (by (with_reducible repeat (first | refine blk_drewN ?_ _ | refine blk_drew ?_ | refine blk_alloc ?_ _)); exact BK340.out) hb)
                  have n4_ := Aside0.mk (blk_below (g := gb349) (o := .cells #[.int .u64 t345, .int .u64 t346, .int .u64 t347, .int .u64 t348] 24 (0, 0)) (by (with_reducible repeat (first | refine blk_drewN ?_ _ | refine blk_drew ?_ | refine blk_alloc ?_ _)); exact BK349.out) hb)
                  have n5_ := Aside0.mk (below_step (by repeat (first | (with_reducible first | exact HB.out | apply below_alloc | apply pw_below_drewN | apply below_drew1 | refine below_set ?_ GE331.out | refine below_set ?_ GE332.out | refine below_set ?_ GE333.out | refine below_set ?_ GE340.out | refine below_set ?_ GE349.out) | exact HB.out)) hb)
                  clear BK331
                  clear BK332
                  clear BK333
                  clear BK340
                  clear BK349
                  clear HB
                  have BK331 := n0_
                  have BK332 := n1_
                  have BK333 := n2_
                  have BK340 := n3_
                  have BK349 := n4_
                  have HB := n5_
                  clear n0_ n1_ n2_ n3_ n4_ n5_
                  (try clear hb)
                  (try clear hb2)
                  (try clear hk)
                  (try clear hi)
                  refine hK.out _ _ ⟨(blk_cell BK340.out 0).trans rfl, (blk_cell BK340.out 1).trans rfl, (blk_cell BK340.out 2).trans rfl, (blk_cell BK340.out 3).trans rfl, (blk_cell BK349.out 0).trans rfl, (blk_cell BK349.out 1).trans rfl, (blk_cell BK349.out 2).trans rfl, (blk_cell BK349.out 3).trans rfl, (blk_cell BK331.out 0).trans rfl, (blk_cell BK331.out 1).trans rfl, (blk_cell BK331.out 2).trans rfl, (blk_cell BK331.out 3).trans rfl, (blk_cell BK332.out 0).trans rfl, (blk_cell BK332.out 1).trans rfl, (blk_cell BK332.out 2).trans rfl, (blk_cell BK332.out 3).trans rfl, (blk_cell BK333.out 0).trans rfl, (blk_cell BK333.out 1).trans rfl, (blk_cell BK333.out 2).trans rfl, (blk_cell BK333.out 3).trans rfl⟩ (fun hHeld => ?_)
                  clear hK K
                  refine norm_ (a' := ?_) ?_ ?_
                  rotate_left
                  · show Act.put _ (some 48) _ = _
                    simp only [Act.put, List.setIfInBounds_toArray, List.set_cons_zero, List.set_cons_succ, i64_w, i32_w]
                    rfl
                  refine one_ (i := 30) (N := some 51) #[true, true, true, true, true, true, true, true, true, true, true, true, true, true, true, true, true, true, true, true, true, true, true, true, true, true, true, true, true, true, true, false, false, false, false, false, false, false, false, false, false, false, false, false, false, false, false, false, false, false, false, false, false, false, false, false, false, false, false, false, false, false, false, false, false, false, false, false, false, false, false] rfl rfl (one_of HT_.out (by kernel_rfl)) (by decide) (fun K hK => ?_)
                  refine goes_ Try.func17 (by kernel_rfl) rfl #[.agg #[.int .u64 a0_0, .int .u64 a0_1, .int .u64 a0_2, .int .u64 a0_3], .agg #[.int .u64 a2_0, .int .u64 a2_1, .int .u64 a2_2, .int .u64 a2_3]] (by rfl) rfl rfl (by (try simp only [List.map_toArray, List.map_cons, List.map_nil]); first | done | rfl | (simp only [List.length_drop, List.length_take]; rfl)) ?_
                  with_reducible refine (byteset_And.calls a0_0 a0_1 a0_2 a0_3 a2_0 a2_1 a2_2 a2_3 t376 t377 t378 t379 _ A20.out).mono ?_
                  rintro e w63 ⟨rfl, hb⟩
                  refine ⟨_, rfl, ?_⟩
                  have n0_ := Aside0.mk (blk_below (g := gb331) (o := .cells #[.int .u64 a0_0, .int .u64 a0_1, .int .u64 a0_2, .int .u64 a0_3] 24 (0, 0)) (by (with_reducible repeat (first | refine blk_drewN ?_ _ | refine blk_drew ?_ | refine blk_alloc ?_ _)); exact BK331.out) hb)
                  have n1_ := Aside0.mk (blk_below (g := gb332) (o := .cells #[.int .u64 a1_0, .int .u64 a1_1, .int .u64 a1_2, .int .u64 a1_3] 24 (0, 0)) (by (with_reducible repeat (first | refine blk_drewN ?_ _ | refine blk_drew ?_ | refine blk_alloc ?_ _)); exact BK332.out) hb)
                  have n2_ := Aside0.mk (blk_below (g := gb333) (o := .cells #[.int .u64 a2_0, .int .u64 a2_1, .int .u64 a2_2, .int .u64 a2_3] 24 (0, 0)) (by (with_reducible repeat (first | refine blk_drewN ?_ _ | refine blk_drew ?_ | refine blk_alloc ?_ _)); exact BK333.out) hb)
                  have n3_ := Aside0.mk (blk_below (g := gb340) (o := .cells #[.int .u64 t335, .int .u64 t336, .int .u64 t337, .int .u64 t338] 24 (0, 0)) (by (with_reducible repeat (first | refine blk_drewN ?_ _ | refine blk_drew ?_ | refine blk_alloc ?_ _)); exact BK340.out) hb)
                  have n4_ := Aside0.mk (blk_below (g := gb349) (o := .cells #[.int .u64 t345, .int .u64 t346, .int .u64 t347, .int .u64 t348] 24 (0, 0)) (by (with_reducible repeat (first | refine blk_drewN ?_ _ | refine blk_drew ?_ | refine blk_alloc ?_ _)); exact BK349.out) hb)
                  have n5_ := Aside0.mk (below_step (by repeat (first | (with_reducible first | exact HB.out | apply below_alloc | apply pw_below_drewN | apply below_drew1 | refine below_set ?_ GE331.out | refine below_set ?_ GE332.out | refine below_set ?_ GE333.out | refine below_set ?_ GE340.out | refine below_set ?_ GE349.out) | exact HB.out)) hb)
                  clear BK331
                  clear BK332
                  clear BK333
                  clear BK340
                  clear BK349
                  clear HB
                  have BK331 := n0_
                  have BK332 := n1_
                  have BK333 := n2_
                  have BK340 := n3_
                  have BK349 := n4_
                  have HB := n5_
                  clear n0_ n1_ n2_ n3_ n4_ n5_
                  (try clear hb)
                  (try clear hb2)
                  (try clear hk)
                  (try clear hi)
                  refine hK.out _ _ ⟨(blk_cell BK340.out 0).trans rfl, (blk_cell BK340.out 1).trans rfl, (blk_cell BK340.out 2).trans rfl, (blk_cell BK340.out 3).trans rfl, (blk_cell BK349.out 0).trans rfl, (blk_cell BK349.out 1).trans rfl, (blk_cell BK349.out 2).trans rfl, (blk_cell BK349.out 3).trans rfl, (blk_cell BK331.out 0).trans rfl, (blk_cell BK331.out 1).trans rfl, (blk_cell BK331.out 2).trans rfl, (blk_cell BK331.out 3).trans rfl, (blk_cell BK332.out 0).trans rfl, (blk_cell BK332.out 1).trans rfl, (blk_cell BK332.out 2).trans rfl, (blk_cell BK332.out 3).trans rfl, (blk_cell BK333.out 0).trans rfl, (blk_cell BK333.out 1).trans rfl, (blk_cell BK333.out 2).trans rfl, (blk_cell BK333.out 3).trans rfl⟩ (fun hHeld => ?_)
                  clear hK K
                  refine norm_ (a' := ?_) ?_ ?_
                  rotate_left
                  · show Act.put _ (some 51) _ = _
                    simp only [Act.put, List.setIfInBounds_toArray, List.set_cons_zero, List.set_cons_succ, i64_w, i32_w]
                    rfl
                  refine one_ (i := 31) (N := some 52) #[true, true, true, true, true, true, true, true, true, true, true, true, true, true, true, true, true, true, true, true, true, true, true, true, true, true, true, true, true, true, true, true, false, false, false, false, false, false, false, false, false, false, false, false, false, false, false, false, false, false, false, false, false, false, false, false, false, false, false, false, false, false, false, false, false, false, false, false, false, false, false] rfl rfl (one_of HT_.out (by kernel_rfl)) (by decide) (fun K hK => ?_)
                  refine goes_ Try.func15 (by kernel_rfl) rfl #[.agg #[.int .u64 t372, .int .u64 t373, .int .u64 t374, .int .u64 t375], .agg #[.int .u64 t376, .int .u64 t377, .int .u64 t378, .int .u64 t379]] (by rfl) rfl rfl (by (try simp only [List.map_toArray, List.map_cons, List.map_nil]); first | done | rfl | (simp only [List.length_drop, List.length_take]; rfl)) ?_
                  with_reducible refine (byteset_Or.calls t372 t373 t374 t375 t376 t377 t378 t379 t380 t381 t382 t383 _ A21.out).mono ?_
                  rintro e w64 ⟨rfl, hb⟩
                  refine ⟨_, rfl, ?_⟩
                  have n0_ := Aside0.mk (blk_below (g := gb331) (o := .cells #[.int .u64 a0_0, .int .u64 a0_1, .int .u64 a0_2, .int .u64 a0_3] 24 (0, 0)) (by (with_reducible repeat (first | refine blk_drewN ?_ _ | refine blk_drew ?_ | refine blk_alloc ?_ _)); exact BK331.out) hb)
                  have n1_ := Aside0.mk (blk_below (g := gb332) (o := .cells #[.int .u64 a1_0, .int .u64 a1_1, .int .u64 a1_2, .int .u64 a1_3] 24 (0, 0)) (by (with_reducible repeat (first | refine blk_drewN ?_ _ | refine blk_drew ?_ | refine blk_alloc ?_ _)); exact BK332.out) hb)
                  have n2_ := Aside0.mk (blk_below (g := gb333) (o := .cells #[.int .u64 a2_0, .int .u64 a2_1, .int .u64 a2_2, .int .u64 a2_3] 24 (0, 0)) (by (with_reducible repeat (first | refine blk_drewN ?_ _ | refine blk_drew ?_ | refine blk_alloc ?_ _)); exact BK333.out) hb)
                  have n3_ := Aside0.mk (blk_below (g := gb340) (o := .cells #[.int .u64 t335, .int .u64 t336, .int .u64 t337, .int .u64 t338] 24 (0, 0)) (by (with_reducible repeat (first | refine blk_drewN ?_ _ | refine blk_drew ?_ | refine blk_alloc ?_ _)); exact BK340.out) hb)
                  have n4_ := Aside0.mk (blk_below (g := gb349) (o := .cells #[.int .u64 t345, .int .u64 t346, .int .u64 t347, .int .u64 t348] 24 (0, 0)) (by (with_reducible repeat (first | refine blk_drewN ?_ _ | refine blk_drew ?_ | refine blk_alloc ?_ _)); exact BK349.out) hb)
                  have n5_ := Aside0.mk (below_step (by repeat (first | (with_reducible first | exact HB.out | apply below_alloc | apply pw_below_drewN | apply below_drew1 | refine below_set ?_ GE331.out | refine below_set ?_ GE332.out | refine below_set ?_ GE333.out | refine below_set ?_ GE340.out | refine below_set ?_ GE349.out) | exact HB.out)) hb)
                  clear BK331
                  clear BK332
                  clear BK333
                  clear BK340
                  clear BK349
                  clear HB
                  have BK331 := n0_
                  have BK332 := n1_
                  have BK333 := n2_
                  have BK340 := n3_
                  have BK349 := n4_
                  have HB := n5_
                  clear n0_ n1_ n2_ n3_ n4_ n5_
                  (try clear hb)
                  (try clear hb2)
                  (try clear hk)
                  (try clear hi)
                  refine hK.out _ _ ⟨(blk_cell BK340.out 0).trans rfl, (blk_cell BK340.out 1).trans rfl, (blk_cell BK340.out 2).trans rfl, (blk_cell BK340.out 3).trans rfl, (blk_cell BK349.out 0).trans rfl, (blk_cell BK349.out 1).trans rfl, (blk_cell BK349.out 2).trans rfl, (blk_cell BK349.out 3).trans rfl, (blk_cell BK331.out 0).trans rfl, (blk_cell BK331.out 1).trans rfl, (blk_cell BK331.out 2).trans rfl, (blk_cell BK331.out 3).trans rfl, (blk_cell BK332.out 0).trans rfl, (blk_cell BK332.out 1).trans rfl, (blk_cell BK332.out 2).trans rfl, (blk_cell BK332.out 3).trans rfl, (blk_cell BK333.out 0).trans rfl, (blk_cell BK333.out 1).trans rfl, (blk_cell BK333.out 2).trans rfl, (blk_cell BK333.out 3).trans rfl⟩ (fun hHeld => ?_)
                  clear hK K
                  refine norm_ (a' := ?_) ?_ ?_
                  rotate_left
                  · show Act.put _ (some 52) _ = _
                    simp only [Act.put, List.setIfInBounds_toArray, List.set_cons_zero, List.set_cons_succ, i64_w, i32_w]
                    rfl
                  refine pure_ (i := 32) (N := some 53) (v := ?_) (a' := ?_) #[true, true, true, true, true, true, true, true, true, true, true, true, true, true, true, true, true, true, true, true, true, true, true, true, true, true, true, true, true, true, true, true, true, false, false, false, false, false, false, false, false, false, false, false, false, false, false, false, false, false, false, false, false, false, false, false, false, false, false, false, false, false, false, false, false, false, false, false, false, false, false] rfl rfl (any_of HT_.out (by kernel_rfl)) (fun _ _ _ h => h) (Or.inl ⟨by rfl, ?_⟩) ?_ ?_
                  rotate_left
                  · intro w'
                    go_simp
                    with_reducible rfl
                  rotate_left
                  · simp only [Act.put, List.setIfInBounds_toArray, List.set_cons_zero, List.set_cons_succ, i64_w, i32_w]
                    rfl
                  refine pure_ (i := 33) (N := some 54) (v := ?_) (a' := ?_) #[true, true, true, true, true, true, true, true, true, true, true, true, true, true, true, true, true, true, true, true, true, true, true, true, true, true, true, true, true, true, true, true, true, true, false, false, false, false, false, false, false, false, false, false, false, false, false, false, false, false, false, false, false, false, false, false, false, false, false, false, false, false, false, false, false, false, false, false, false, false, false] rfl rfl (any_of HT_.out (by kernel_rfl)) (fun _ _ _ h => h) (Or.inl ⟨by rfl, ?_⟩) ?_ ?_
                  rotate_left
                  · intro w'
                    go_simp
                    with_reducible rfl
                  rotate_left
                  · simp only [Act.put, List.setIfInBounds_toArray, List.set_cons_zero, List.set_cons_succ, i64_w, i32_w]
                    rfl
                  refine pure_ (i := 34) (N := some 55) (v := ?_) (a' := ?_) #[true, true, true, true, true, true, true, true, true, true, true, true, true, true, true, true, true, true, true, true, true, true, true, true, true, true, true, true, true, true, true, true, true, true, true, false, false, false, false, false, false, false, false, false, false, false, false, false, false, false, false, false, false, false, false, false, false, false, false, false, false, false, false, false, false, false, false, false, false, false, false] rfl rfl (any_of HT_.out (by kernel_rfl)) (fun _ _ _ h => h) (Or.inl ⟨by rfl, ?_⟩) ?_ ?_
                  rotate_left
                  · intro w'
                    go_simp
                    with_reducible rfl
                  rotate_left
                  · simp only [Act.put, List.setIfInBounds_toArray, List.set_cons_zero, List.set_cons_succ, i64_w, i32_w]
                    rfl
                  refine take_ (i := 35) (N := some 56) (v := ?_) (a' := ?_) #[true, true, true, true, true, true, true, true, true, true, true, true, true, true, true, true, true, true, true, true, true, true, true, true, true, true, true, true, true, true, true, true, true, true, true, true, false, false, false, false, false, false, false, false, false, false, false, false, false, false, false, false, false, false, false, false, false, false, false, false, false, false, false, false, false, false, false, false, false, false, false] rfl rfl (take_ofW HT_.out HW_.out (by kernel_rfl)) (fun _ _ _ h => h) (Or.inl ⟨by rfl, ?_⟩) hHeld ?_ ?_
                  rotate_left
                  · rintro w' ⟨s0, s1, s2, s3, s4, s5, s6, s7, s8, s9, s10, s11, s12, s13, s14, s15, s16, s17, s18, s19⟩
                    go_simp
                    with_reducible rfl
                  rotate_left
                  · simp only [Act.put, List.setIfInBounds_toArray, List.set_cons_zero, List.set_cons_succ, i64_w, i32_w]
                    rfl
                  refine take_ (i := 36) (N := some 57) (v := ?_) (a' := ?_) #[true, true, true, true, true, true, true, true, true, true, true, true, true, true, true, true, true, true, true, true, true, true, true, true, true, true, true, true, true, true, true, true, true, true, true, true, true, false, false, false, false, false, false, false, false, false, false, false, false, false, false, false, false, false, false, false, false, false, false, false, false, false, false, false, false, false, false, false, false, false, false] rfl rfl (take_ofW HT_.out HW_.out (by kernel_rfl)) (fun _ _ _ h => h) (Or.inl ⟨by rfl, ?_⟩) hHeld ?_ ?_
                  rotate_left
                  · rintro w' ⟨s0, s1, s2, s3, s4, s5, s6, s7, s8, s9, s10, s11, s12, s13, s14, s15, s16, s17, s18, s19⟩
                    go_simp
                    with_reducible rfl
                  rotate_left
                  · simp only [Act.put, List.setIfInBounds_toArray, List.set_cons_zero, List.set_cons_succ, i64_w, i32_w]
                    rfl
                  refine take_ (i := 38) (N := some 59) (v := ?_) (a' := ?_) #[true, true, true, true, true, true, true, true, true, true, true, true, true, true, true, true, true, true, true, true, true, true, true, true, true, true, true, true, true, true, true, true, true, true, true, true, true, false, true, false, false, false, false, false, false, false, false, false, false, false, false, false, false, false, false, false, false, false, false, false, false, false, false, false, false, false, false, false, false, false, false] rfl rfl (take_ofW HT_.out HW_.out (by kernel_rfl)) (fun _ _ _ h => h) (Or.inl ⟨by rfl, ?_⟩) hHeld ?_ ?_
                  rotate_left
                  · rintro w' ⟨s0, s1, s2, s3, s4, s5, s6, s7, s8, s9, s10, s11, s12, s13, s14, s15, s16, s17, s18, s19⟩
                    go_simp
                    with_reducible rfl
                  rotate_left
                  · simp only [Act.put, List.setIfInBounds_toArray, List.set_cons_zero, List.set_cons_succ, i64_w, i32_w]
                    rfl
                  refine take_ (i := 39) (N := some 60) (v := ?_) (a' := ?_) #[true, true, true, true, true, true, true, true, true, true, true, true, true, true, true, true, true, true, true, true, true, true, true, true, true, true, true, true, true, true, true, true, true, true, true, true, true, false, true, true, false, false, false, false, false, false, false, false, false, false, false, false, false, false, false, false, false, false, false, false, false, false, false, false, false, false, false, false, false, false, false] rfl rfl (take_ofW HT_.out HW_.out (by kernel_rfl)) (fun _ _ _ h => h) (Or.inl ⟨by rfl, ?_⟩) hHeld ?_ ?_
                  rotate_left
                  · rintro w' ⟨s0, s1, s2, s3, s4, s5, s6, s7, s8, s9, s10, s11, s12, s13, s14, s15, s16, s17, s18, s19⟩
                    go_simp
                    with_reducible rfl
                  rotate_left
                  · simp only [Act.put, List.setIfInBounds_toArray, List.set_cons_zero, List.set_cons_succ, i64_w, i32_w]
                    rfl
                  refine one_ (i := 37) (N := some 58) #[true, true, true, true, true, true, true, true, true, true, true, true, true, true, true, true, true, true, true, true, true, true, true, true, true, true, true, true, true, true, true, true, true, true, true, true, true, true, true, true, false, false, false, false, false, false, false, false, false, false, false, false, false, false, false, false, false, false, false, false, false, false, false, false, false, false, false, false, false, false, false] rfl rfl (one_of HT_.out (by kernel_rfl)) (by decide) (fun K hK => ?_)
                  refine goes_ Try.func15 (by kernel_rfl) rfl #[.agg #[.int .u64 a0_0, .int .u64 a0_1, .int .u64 a0_2, .int .u64 a0_3], .agg #[.int .u64 a1_0, .int .u64 a1_1, .int .u64 a1_2, .int .u64 a1_3]] (by rfl) rfl rfl (by (try simp only [List.map_toArray, List.map_cons, List.map_nil]); first | done | rfl | (simp only [List.length_drop, List.length_take]; rfl)) ?_
                  with_reducible refine (byteset_Or.calls a0_0 a0_1 a0_2 a0_3 a1_0 a1_1 a1_2 a1_3 t384 t385 t386 t387 _ A23.out).mono ?_
                  rintro e w65 ⟨rfl, hb⟩
                  refine ⟨_, rfl, ?_⟩
                  have n0_ := Aside0.mk (blk_below (g := gb331) (o := .cells #[.int .u64 a0_0, .int .u64 a0_1, .int .u64 a0_2, .int .u64 a0_3] 24 (0, 0)) (by (with_reducible repeat (first | refine blk_drewN ?_ _ | refine blk_drew ?_ | refine blk_alloc ?_ _)); exact BK331.out) hb)
                  have n1_ := Aside0.mk (blk_below (g := gb332) (o := .cells #[.int .u64 a1_0, .int .u64 a1_1, .int .u64 a1_2, .int .u64 a1_3] 24 (0, 0)) (by (with_reducible repeat (first | refine blk_drewN ?_ _ | refine blk_drew ?_ | refine blk_alloc ?_ _)); exact BK332.out) hb)
                  have n2_ := Aside0.mk (blk_below (g := gb333) (o := .cells #[.int .u64 a2_0, .int .u64 a2_1, .int .u64 a2_2, .int .u64 a2_3] 24 (0, 0)) (by (with_reducible repeat (first | refine blk_drewN ?_ _ | refine blk_drew ?_ | refine blk_alloc ?_ _)); exact BK333.out) hb)
                  have n3_ := Aside0.mk (blk_below (g := gb340) (o := .cells #[.int .u64 t335, .int .u64 t336, .int .u64 t337, .int .u64 t338] 24 (0, 0)) (by (with_reducible repeat (first | refine blk_drewN ?_ _ | refine blk_drew ?_ | refine blk_alloc ?_ _)); exact BK340.out) hb)
                  have n4_ := Aside0.mk (blk_below (g := gb349) (o := .cells #[.int .u64 t345, .int .u64 t346, .int .u64 t347, .int .u64 t348] 24 (0, 0)) (by (with_reducible repeat (first | refine blk_drewN ?_ _ | refine blk_drew ?_ | refine blk_alloc ?_ _)); exact BK349.out) hb)
                  have n5_ := Aside0.mk (below_step (by repeat (first | (with_reducible first | exact HB.out | apply below_alloc | apply pw_below_drewN | apply below_drew1 | refine below_set ?_ GE331.out | refine below_set ?_ GE332.out | refine below_set ?_ GE333.out | refine below_set ?_ GE340.out | refine below_set ?_ GE349.out) | exact HB.out)) hb)
                  clear BK331
                  clear BK332
                  clear BK333
                  clear BK340
                  clear BK349
                  clear HB
                  have BK331 := n0_
                  have BK332 := n1_
                  have BK333 := n2_
                  have BK340 := n3_
                  have BK349 := n4_
                  have HB := n5_
                  clear n0_ n1_ n2_ n3_ n4_ n5_
                  (try clear hb)
                  (try clear hb2)
                  (try clear hk)
                  (try clear hi)
                  refine hK.out _ _ ⟨(blk_cell BK340.out 0).trans rfl, (blk_cell BK340.out 1).trans rfl, (blk_cell BK340.out 2).trans rfl, (blk_cell BK340.out 3).trans rfl, (blk_cell BK349.out 0).trans rfl, (blk_cell BK349.out 1).trans rfl, (blk_cell BK349.out 2).trans rfl, (blk_cell BK349.out 3).trans rfl, (blk_cell BK331.out 0).trans rfl, (blk_cell BK331.out 1).trans rfl, (blk_cell BK331.out 2).trans rfl, (blk_cell BK331.out 3).trans rfl, (blk_cell BK332.out 0).trans rfl, (blk_cell BK332.out 1).trans rfl, (blk_cell BK332.out 2).trans rfl, (blk_cell BK332.out 3).trans rfl, (blk_cell BK333.out 0).trans rfl, (blk_cell BK333.out 1).trans rfl, (blk_cell BK333.out 2).trans rfl, (blk_cell BK333.out 3).trans rfl⟩ (fun hHeld => ?_)
                  clear hK K
                  refine norm_ (a' := ?_) ?_ ?_
                  rotate_left
                  · show Act.put _ (some 58) _ = _
                    simp only [Act.put, List.setIfInBounds_toArray, List.set_cons_zero, List.set_cons_succ, i64_w, i32_w]
                    rfl
                  refine one_ (i := 40) (N := some 61) #[true, true, true, true, true, true, true, true, true, true, true, true, true, true, true, true, true, true, true, true, true, true, true, true, true, true, true, true, true, true, true, true, true, true, true, true, true, true, true, true, true, false, false, false, false, false, false, false, false, false, false, false, false, false, false, false, false, false, false, false, false, false, false, false, false, false, false, false, false, false, false] rfl rfl (one_of HT_.out (by kernel_rfl)) (by decide) (fun K hK => ?_)
                  refine goes_ Try.func15 (by kernel_rfl) rfl #[.agg #[.int .u64 a1_0, .int .u64 a1_1, .int .u64 a1_2, .int .u64 a1_3], .agg #[.int .u64 a0_0, .int .u64 a0_1, .int .u64 a0_2, .int .u64 a0_3]] (by rfl) rfl rfl (by (try simp only [List.map_toArray, List.map_cons, List.map_nil]); first | done | rfl | (simp only [List.length_drop, List.length_take]; rfl)) ?_
                  with_reducible refine (byteset_Or.calls a1_0 a1_1 a1_2 a1_3 a0_0 a0_1 a0_2 a0_3 t388 t389 t390 t391 _ A24.out).mono ?_
                  rintro e w66 ⟨rfl, hb⟩
                  refine ⟨_, rfl, ?_⟩
                  have n0_ := Aside0.mk (blk_below (g := gb331) (o := .cells #[.int .u64 a0_0, .int .u64 a0_1, .int .u64 a0_2, .int .u64 a0_3] 24 (0, 0)) (by (with_reducible repeat (first | refine blk_drewN ?_ _ | refine blk_drew ?_ | refine blk_alloc ?_ _)); exact BK331.out) hb)
                  have n1_ := Aside0.mk (blk_below (g := gb332) (o := .cells #[.int .u64 a1_0, .int .u64 a1_1, .int .u64 a1_2, .int .u64 a1_3] 24 (0, 0)) (by (with_reducible repeat (first | refine blk_drewN ?_ _ | refine blk_drew ?_ | refine blk_alloc ?_ _)); exact BK332.out) hb)
                  have n2_ := Aside0.mk (blk_below (g := gb333) (o := .cells #[.int .u64 a2_0, .int .u64 a2_1, .int .u64 a2_2, .int .u64 a2_3] 24 (0, 0)) (by (with_reducible repeat (first | refine blk_drewN ?_ _ | refine blk_drew ?_ | refine blk_alloc ?_ _)); exact BK333.out) hb)
                  have n3_ := Aside0.mk (blk_below (g := gb340) (o := .cells #[.int .u64 t335, .int .u64 t336, .int .u64 t337, .int .u64 t338] 24 (0, 0)) (by (with_reducible repeat (first | refine blk_drewN ?_ _ | refine blk_drew ?_ | refine blk_alloc ?_ _)); exact BK340.out) hb)
                  have n4_ := Aside0.mk (blk_below (g := gb349) (o := .cells #[.int .u64 t345, .int .u64 t346, .int .u64 t347, .int .u64 t348] 24 (0, 0)) (by (with_reducible repeat (first | refine blk_drewN ?_ _ | refine blk_drew ?_ | refine blk_alloc ?_ _)); exact BK349.out) hb)
                  have n5_ := Aside0.mk (below_step (by repeat (first | (with_reducible first | exact HB.out | apply below_alloc | apply pw_below_drewN | apply below_drew1 | refine below_set ?_ GE331.out | refine below_set ?_ GE332.out | refine below_set ?_ GE333.out | refine below_set ?_ GE340.out | refine below_set ?_ GE349.out) | exact HB.out)) hb)
                  clear BK331
                  clear BK332
                  clear BK333
                  clear BK340
                  clear BK349
                  clear HB
                  have BK331 := n0_
                  have BK332 := n1_
                  have BK333 := n2_
                  have BK340 := n3_
                  have BK349 := n4_
                  have HB := n5_
                  clear n0_ n1_ n2_ n3_ n4_ n5_
                  (try clear hb)
                  (try clear hb2)
                  (try clear hk)
                  (try clear hi)
                  refine hK.out _ _ ⟨(blk_cell BK340.out 0).trans rfl, (blk_cell BK340.out 1).trans rfl, (blk_cell BK340.out 2).trans rfl, (blk_cell BK340.out 3).trans rfl, (blk_cell BK349.out 0).trans rfl, (blk_cell BK349.out 1).trans rfl, (blk_cell BK349.out 2).trans rfl, (blk_cell BK349.out 3).trans rfl, (blk_cell BK331.out 0).trans rfl, (blk_cell BK331.out 1).trans rfl, (blk_cell BK331.out 2).trans rfl, (blk_cell BK331.out 3).trans rfl, (blk_cell BK332.out 0).trans rfl, (blk_cell BK332.out 1).trans rfl, (blk_cell BK332.out 2).trans rfl, (blk_cell BK332.out 3).trans rfl, (blk_cell BK333.out 0).trans rfl, (blk_cell BK333.out 1).trans rfl, (blk_cell BK333.out 2).trans rfl, (blk_cell BK333.out 3).trans rfl⟩ (fun hHeld => ?_)
                  clear hK K
                  refine norm_ (a' := ?_) ?_ ?_
                  rotate_left
                  · show Act.put _ (some 61) _ = _
                    simp only [Act.put, List.setIfInBounds_toArray, List.set_cons_zero, List.set_cons_succ, i64_w, i32_w]
                    rfl
                  refine pure_ (i := 41) (N := some 62) (v := ?_) (a' := ?_) #[true, true, true, true, true, true, true, true, true, true, true, true, true, true, true, true, true, true, true, true, true, true, true, true, true, true, true, true, true, true, true, true, true, true, true, true, true, true, true, true, true, true, false, false, false, false, false, false, false, false, false, false, false, false, false, false, false, false, false, false, false, false, false, false, false, false, false, false, false, false, false] rfl rfl (any_of HT_.out (by kernel_rfl)) (fun _ _ _ h => h) (Or.inl ⟨by rfl, ?_⟩) ?_ ?_
                  rotate_left
                  · intro w'
                    go_simp
                    with_reducible rfl
                  rotate_left
                  · simp only [Act.put, List.setIfInBounds_toArray, List.set_cons_zero, List.set_cons_succ, i64_w, i32_w]
                    rfl
                  refine pure_ (i := 42) (N := some 63) (v := ?_) (a' := ?_) #[true, true, true, true, true, true, true, true, true, true, true, true, true, true, true, true, true, true, true, true, true, true, true, true, true, true, true, true, true, true, true, true, true, true, true, true, true, true, true, true, true, true, true, false, false, false, false, false, false, false, false, false, false, false, false, false, false, false, false, false, false, false, false, false, false, false, false, false, false, false, false] rfl rfl (any_of HT_.out (by kernel_rfl)) (fun _ _ _ h => h) (Or.inl ⟨by rfl, ?_⟩) ?_ ?_
                  rotate_left
                  · intro w'
                    go_simp
                    with_reducible rfl
                  rotate_left
                  · simp only [Act.put, List.setIfInBounds_toArray, List.set_cons_zero, List.set_cons_succ, i64_w, i32_w]
                    rfl
                  refine pure_ (i := 43) (N := some 64) (v := ?_) (a' := ?_) #[true, true, true, true, true, true, true, true, true, true, true, true, true, true, true, true, true, true, true, true, true, true, true, true, true, true, true, true, true, true, true, true, true, true, true, true, true, true, true, true, true, true, true, true, false, false, false, false, false, false, false, false, false, false, false, false, false, false, false, false, false, false, false, false, false, false, false, false, false, false, false] rfl rfl (any_of HT_.out (by kernel_rfl)) (fun _ _ _ h => h) (Or.inl ⟨by rfl, ?_⟩) ?_ ?_
                  rotate_left
                  · intro w'
                    go_simp
                    with_reducible rfl
                  rotate_left
                  · simp only [Act.put, List.setIfInBounds_toArray, List.set_cons_zero, List.set_cons_succ, i64_w, i32_w]
                    rfl
                  refine take_ (i := 44) (N := some 65) (v := ?_) (a' := ?_) #[true, true, true, true, true, true, true, true, true, true, true, true, true, true, true, true, true, true, true, true, true, true, true, true, true, true, true, true, true, true, true, true, true, true, true, true, true, true, true, true, true, true, true, true, true, false, false, false, false, false, false, false, false, false, false, false, false, false, false, false, false, false, false, false, false, false, false, false, false, false, false] rfl rfl (take_ofW HT_.out HW_.out (by kernel_rfl)) (fun _ _ _ h => h) (Or.inl ⟨by rfl, ?_⟩) hHeld ?_ ?_
                  rotate_left
                  · rintro w' ⟨s0, s1, s2, s3, s4, s5, s6, s7, s8, s9, s10, s11, s12, s13, s14, s15, s16, s17, s18, s19⟩
                    go_simp
                    with_reducible rfl
                  rotate_left
                  · simp only [Act.put, List.setIfInBounds_toArray, List.set_cons_zero, List.set_cons_succ, i64_w, i32_w]
                    rfl
                  refine take_ (i := 45) (N := some 66) (v := ?_) (a' := ?_) #[true, true, true, true, true, true, true, true, true, true, true, true, true, true, true, true, true, true, true, true, true, true, true, true, true, true, true, true, true, true, true, true, true, true, true, true, true, true, true, true, true, true, true, true, true, true, false, false, false, false, false, false, false, false, false, false, false, false, false, false, false, false, false, false, false, false, false, false, false, false, false] rfl rfl (take_ofW HT_.out HW_.out (by kernel_rfl)) (fun _ _ _ h => h) (Or.inl ⟨by rfl, ?_⟩) hHeld ?_ ?_
                  rotate_left
                  · rintro w' ⟨s0, s1, s2, s3, s4, s5, s6, s7, s8, s9, s10, s11, s12, s13, s14, s15, s16, s17, s18, s19⟩
                    go_simp
                    with_reducible rfl
                  rotate_left
                  · simp only [Act.put, List.setIfInBounds_toArray, List.set_cons_zero, List.set_cons_succ, i64_w, i32_w]
                    rfl
                  refine take_ (i := 47) (N := some 68) (v := ?_) (a' := ?_) #[true, true, true, true, true, true, true, true, true, true, true, true, true, true, true, true, true, true, true, true, true, true, true, true, true, true, true, true, true, true, true, true, true, true, true, true, true, true, true, true, true, true, true, true, true, true, false, true, false, false, false, false, false, false, false, false, false, false, false, false, false, false, false, false, false, false, false, false, false, false, false] rfl rfl (take_ofW HT_.out HW_.out (by kernel_rfl)) (fun _ _ _ h => h) (Or.inl ⟨by rfl, ?_⟩) hHeld ?_ ?_
                  rotate_left
                  · rintro w' ⟨s0, s1, s2, s3, s4, s5, s6, s7, s8, s9, s10, s11, s12, s13, s14, s15, s16, s17, s18, s19⟩
                    go_simp
                    with_reducible rfl
                  rotate_left
                  · simp only [Act.put, List.setIfInBounds_toArray, List.set_cons_zero, List.set_cons_succ, i64_w, i32_w]
                    rfl
                  refine take_ (i := 49) (N := some 70) (v := ?_) (a' := ?_) #[true, true, true, true, true, true, true, true, true, true, true, true, true, true, true, true, true, true, true, true, true, true, true, true, true, true, true, true, true, true, true, true, true, true, true, true, true, true, true, true, true, true, true, true, true, true, false, true, false, true, false, false, false, false, false, false, false, false, false, false, false, false, false, false, false, false, false, false, false, false, false] rfl rfl (take_ofW HT_.out HW_.out (by kernel_rfl)) (fun _ _ _ h => h) (Or.inl ⟨by rfl, ?_⟩) hHeld ?_ ?_
                  rotate_left
                  · rintro w' ⟨s0, s1, s2, s3, s4, s5, s6, s7, s8, s9, s10, s11, s12, s13, s14, s15, s16, s17, s18, s19⟩
                    go_simp
                    with_reducible rfl
                  rotate_left
                  · simp only [Act.put, List.setIfInBounds_toArray, List.set_cons_zero, List.set_cons_succ, i64_w, i32_w]
                    rfl
                  refine take_ (i := 50) (N := some 71) (v := ?_) (a' := ?_) #[true, true, true, true, true, true, true, true, true, true, true, true, true, true, true, true, true, true, true, true, true, true, true, true, true, true, true, true, true, true, true, true, true, true, true, true, true, true, true, true, true, true, true, true, true, true, false, true, false, true, true, false, false, false, false, false, false, false, false, false, false, false, false, false, false, false, false, false, false, false, false] rfl rfl (take_ofW HT_.out HW_.out (by kernel_rfl)) (fun _ _ _ h => h) (Or.inl ⟨by rfl, ?_⟩) hHeld ?_ ?_
                  rotate_left
                  · rintro w' ⟨s0, s1, s2, s3, s4, s5, s6, s7, s8, s9, s10, s11, s12, s13, s14, s15, s16, s17, s18, s19⟩
                    go_simp
                    with_reducible rfl
                  rotate_left
                  · simp only [Act.put, List.setIfInBounds_toArray, List.set_cons_zero, List.set_cons_succ, i64_w, i32_w]
                    rfl
                  refine take_ (i := 51) (N := some 72) (v := ?_) (a' := ?_) #[true, true, true, true, true, true, true, true, true, true, true, true, true, true, true, true, true, true, true, true, true, true, true, true, true, true, true, true, true, true, true, true, true, true, true, true, true, true, true, true, true, true, true, true, true, true, false, true, false, true, true, true, false, false, false, false, false, false, false, false, false, false, false, false, false, false, false, false, false, false, false] rfl rfl (take_ofW HT_.out HW_.out (by kernel_rfl)) (fun _ _ _ h => h) (Or.inl ⟨by rfl, ?_⟩) hHeld ?_ ?_
                  rotate_left
                  · rintro w' ⟨s0, s1, s2, s3, s4, s5, s6, s7, s8, s9, s10, s11, s12, s13, s14, s15, s16, s17, s18, s19⟩
                    go_simp
                    with_reducible rfl
                  rotate_left
                  · simp only [Act.put, List.setIfInBounds_toArray, List.set_cons_zero, List.set_cons_succ, i64_w, i32_w]
                    rfl
                  refine one_ (i := 46) (N := some 67) #[true, true, true, true, true, true, true, true, true, true, true, true, true, true, true, true, true, true, true, true, true, true, true, true, true, true, true, true, true, true, true, true, true, true, true, true, true, true, true, true, true, true, true, true, true, true, true, true, false, true, true, true, false, false, false, false, false, false, false, false, false, false, false, false, false, false, false, false, false, false, false] rfl rfl (one_of HT_.out (by kernel_rfl)) (by decide) (fun K hK => ?_)
                  refine goes_ Try.func15 (by kernel_rfl) rfl #[.agg #[.int .u64 a0_0, .int .u64 a0_1, .int .u64 a0_2, .int .u64 a0_3], .agg #[.int .u64 a1_0, .int .u64 a1_1, .int .u64 a1_2, .int .u64 a1_3]] (by rfl) rfl rfl (by (try simp only [List.map_toArray, List.map_cons, List.map_nil]); first | done | rfl | (simp only [List.length_drop, List.length_take]; rfl)) ?_
                  with_reducible refine (byteset_Or.calls a0_0 a0_1 a0_2 a0_3 a1_0 a1_1 a1_2 a1_3 t392 t393 t394 t395 _ A26.out).mono ?_
                  rintro e w67 ⟨rfl, hb⟩
                  refine ⟨_, rfl, ?_⟩
                  have n0_ := Aside0.mk (blk_below (g := gb331) (o := .cells #[.int .u64 a0_0, .int .u64 a0_1, .int .u64 a0_2, .int .u64 a0_3] 24 (0, 0)) (by (with_reducible repeat (first | refine blk_drewN ?_ _ | refine blk_drew ?_ | refine blk_alloc ?_ _)); exact BK331.out) hb)
                  have n1_ := Aside0.mk (blk_below (g := gb332) (o := .cells #[.int .u64 a1_0, .int .u64 a1_1, .int .u64 a1_2, .int .u64 a1_3] 24 (0, 0)) (by (with_reducible repeat (first | refine blk_drewN ?_ _ | refine blk_drew ?_ | refine blk_alloc ?_ _)); exact BK332.out) hb)
                  have n2_ := Aside0.mk (blk_below (g := gb333) (o := .cells #[.int .u64 a2_0, .int .u64 a2_1, .int .u64 a2_2, .int .u64 a2_3] 24 (0, 0)) (by (with_reducible repeat (first | refine blk_drewN ?_ _ | refine blk_drew ?_ | refine blk_alloc ?_ _)); exact BK333.out) hb)
                  have n3_ := Aside0.mk (blk_below (g := gb340) (o := .cells #[.int .u64 t335, .int .u64 t336, .int .u64 t337, .int .u64 t338] 24 (0, 0)) (by (with_reducible repeat (first | refine blk_drewN ?_ _ | refine blk_drew ?_ | refine blk_alloc ?_ _)); exact BK340.out) hb)
                  have n4_ := Aside0.mk (blk_below (g := gb349) (o := .cells #[.int .u64 t345, .int .u64 t346, .int .u64 t347, .int .u64 t348] 24 (0, 0)) (by (with_reducible repeat (first | refine blk_drewN ?_ _ | refine blk_drew ?_ | refine blk_alloc ?_ _)); exact BK349.out) hb)
                  have n5_ := Aside0.mk (below_step (by repeat (first | (with_reducible first | exact HB.out | apply below_alloc | apply pw_below_drewN | apply below_drew1 | refine below_set ?_ GE331.out | refine below_set ?_ GE332.out | refine below_set ?_ GE333.out | refine below_set ?_ GE340.out | refine below_set ?_ GE349.out) | exact HB.out)) hb)
                  clear BK331
                  clear BK332
                  clear BK333
                  clear BK340
                  clear BK349
                  clear HB
                  have BK331 := n0_
                  have BK332 := n1_
                  have BK333 := n2_
                  have BK340 := n3_
                  have BK349 := n4_
                  have HB := n5_
                  clear n0_ n1_ n2_ n3_ n4_ n5_
                  (try clear hb)
                  (try clear hb2)
                  (try clear hk)
                  (try clear hi)
                  refine hK.out _ _ ⟨(blk_cell BK340.out 0).trans rfl, (blk_cell BK340.out 1).trans rfl, (blk_cell BK340.out 2).trans rfl, (blk_cell BK340.out 3).trans rfl, (blk_cell BK349.out 0).trans rfl, (blk_cell BK349.out 1).trans rfl, (blk_cell BK349.out 2).trans rfl, (blk_cell BK349.out 3).trans rfl, (blk_cell BK331.out 0).trans rfl, (blk_cell BK331.out 1).trans rfl, (blk_cell BK331.out 2).trans rfl, (blk_cell BK331.out 3).trans rfl, (blk_cell BK332.out 0).trans rfl, (blk_cell BK332.out 1).trans rfl, (blk_cell BK332.out 2).trans rfl, (blk_cell BK332.out 3).trans rfl, (blk_cell BK333.out 0).trans rfl, (blk_cell BK333.out 1).trans rfl, (blk_cell BK333.out 2).trans rfl, (blk_cell BK333.out 3).trans rfl⟩ (fun hHeld => ?_)
                  clear hK K
                  refine norm_ (a' := ?_) ?_ ?_
                  rotate_left
                  · show Act.put _ (some 67) _ = _
                    simp only [Act.put, List.setIfInBounds_toArray, List.set_cons_zero, List.set_cons_succ, i64_w, i32_w]
                    rfl
                  refine one_ (i := 48) (N := some 69) #[true, true, true, true, true, true, true, true, true, true, true, true, true, true, true, true, true, true, true, true, true, true, true, true, true, true, true, true, true, true, true, true, true, true, true, true, true, true, true, true, true, true, true, true, true, true, true, true, true, true, true, true, false, false, false, false, false, false, false, false, false, false, false, false, false, false, false, false, false, false, false] rfl rfl (one_of HT_.out (by kernel_rfl)) (by decide) (fun K hK => ?_)
                  refine goes_ Try.func15 (by kernel_rfl) rfl #[.agg #[.int .u64 t392, .int .u64 t393, .int .u64 t394, .int .u64 t395], .agg #[.int .u64 a2_0, .int .u64 a2_1, .int .u64 a2_2, .int .u64 a2_3]] (by rfl) rfl rfl (by (try simp only [List.map_toArray, List.map_cons, List.map_nil]); first | done | rfl | (simp only [List.length_drop, List.length_take]; rfl)) ?_
                  with_reducible refine (byteset_Or.calls t392 t393 t394 t395 a2_0 a2_1 a2_2 a2_3 t396 t397 t398 t399 _ A27.out).mono ?_
                  rintro e w68 ⟨rfl, hb⟩
                  refine ⟨_, rfl, ?_⟩
                  have n0_ := Aside0.mk (blk_below (g := gb331) (o := .cells #[.int .u64 a0_0, .int .u64 a0_1, .int .u64 a0_2, .int .u64 a0_3] 24 (0, 0)) (by (with_reducible repeat (first | refine blk_drewN ?_ _ | refine blk_drew ?_ | refine blk_alloc ?_ _)); exact BK331.out) hb)
                  have n1_ := Aside0.mk (blk_below (g := gb332) (o := .cells #[.int .u64 a1_0, .int .u64 a1_1, .int .u64 a1_2, .int .u64 a1_3] 24 (0, 0)) (by (with_reducible repeat (first | refine blk_drewN ?_ _ | refine blk_drew ?_ | refine blk_alloc ?_ _)); exact BK332.out) hb)
                  have n2_ := Aside0.mk (blk_below (g := gb333) (o := .cells #[.int .u64 a2_0, .int .u64 a2_1, .int .u64 a2_2, .int .u64 a2_3] 24 (0, 0)) (by (with_reducible repeat (first | refine blk_drewN ?_ _ | refine blk_drew ?_ | refine blk_alloc ?_ _)); exact BK333.out) hb)
                  have n3_ := Aside0.mk (blk_below (g := gb340) (o := .cells #[.int .u64 t335, .int .u64 t336, .int .u64 t337, .int .u64 t338] 24 (0, 0)) (by (with_reducible repeat (first | refine blk_drewN ?_ _ | refine blk_drew ?_ | refine blk_alloc ?_ _)); exact BK340.out) hb)
                  have n4_ := Aside0.mk (blk_below (g := gb349) (o := .cells #[.int .u64 t345, .int .u64 t346, .int .u64 t347, .int .u64 t348] 24 (0, 0)) (by (with_reducible repeat (first | refine blk_drewN ?_ _ | refine blk_drew ?_ | refine blk_alloc ?_ _)); exact BK349.out) hb)
                  have n5_ := Aside0.mk (below_step (by repeat (first | (with_reducible first | exact HB.out | apply below_alloc | apply pw_below_drewN | apply below_drew1 | refine below_set ?_ GE331.out | refine below_set ?_ GE332.out | refine below_set ?_ GE333.out | refine below_set ?_ GE340.out | refine below_set ?_ GE349.out) | exact HB.out)) hb)
                  clear BK331
                  clear BK332
                  clear BK333
                  clear BK340
                  clear BK349
                  clear HB
                  have BK331 := n0_
                  have BK332 := n1_
                  have BK333 := n2_
                  have BK340 := n3_
                  have BK349 := n4_
                  have HB := n5_
                  clear n0_ n1_ n2_ n3_ n4_ n5_
                  (try clear hb)
                  (try clear hb2)
                  (try clear hk)
                  (try clear hi)
                  refine hK.out _ _ ⟨(blk_cell BK340.out 0).trans rfl, (blk_cell BK340.out 1).trans rfl, (blk_cell BK340.out 2).trans rfl, (blk_cell BK340.out 3).trans rfl, (blk_cell BK349.out 0).trans rfl, (blk_cell BK349.out 1).trans rfl, (blk_cell BK349.out 2).trans rfl, (blk_cell BK349.out 3).trans rfl, (blk_cell BK331.out 0).trans rfl, (blk_cell BK331.out 1).trans rfl, (blk_cell BK331.out 2).trans rfl, (blk_cell BK331.out 3).trans rfl, (blk_cell BK332.out 0).trans rfl, (blk_cell BK332.out 1).trans rfl, (blk_cell BK332.out 2).trans rfl, (blk_cell BK332.out 3).trans rfl, (blk_cell BK333.out 0).trans rfl, (blk_cell BK333.out 1).trans rfl, (blk_cell BK333.out 2).trans rfl, (blk_cell BK333.out 3).trans rfl⟩ (fun hHeld => ?_)
                  clear hK K
                  refine norm_ (a' := ?_) ?_ ?_
                  rotate_left
                  · show Act.put _ (some 69) _ = _
                    simp only [Act.put, List.setIfInBounds_toArray, List.set_cons_zero, List.set_cons_succ, i64_w, i32_w]
                    rfl
                  refine one_ (i := 52) (N := some 73) #[true, true, true, true, true, true, true, true, true, true, true, true, true, true, true, true, true, true, true, true, true, true, true, true, true, true, true, true, true, true, true, true, true, true, true, true, true, true, true, true, true, true, true, true, true, true, true, true, true, true, true, true, true, false, false, false, false, false, false, false, false, false, false, false, false, false, false, false, false, false, false] rfl rfl (one_of HT_.out (by kernel_rfl)) (by decide) (fun K hK => ?_)
                  refine goes_ Try.func15 (by kernel_rfl) rfl #[.agg #[.int .u64 a1_0, .int .u64 a1_1, .int .u64 a1_2, .int .u64 a1_3], .agg #[.int .u64 a2_0, .int .u64 a2_1, .int .u64 a2_2, .int .u64 a2_3]] (by rfl) rfl rfl (by (try simp only [List.map_toArray, List.map_cons, List.map_nil]); first | done | rfl | (simp only [List.length_drop, List.length_take]; rfl)) ?_
                  with_reducible refine (byteset_Or.calls a1_0 a1_1 a1_2 a1_3 a2_0 a2_1 a2_2 a2_3 t400 t401 t402 t403 _ A28.out).mono ?_
                  rintro e w69 ⟨rfl, hb⟩
                  refine ⟨_, rfl, ?_⟩
                  have n0_ := Aside0.mk (blk_below (g := gb331) (o := .cells #[.int .u64 a0_0, .int .u64 a0_1, .int .u64 a0_2, .int .u64 a0_3] 24 (0, 0)) (by (with_reducible repeat (first | refine blk_drewN ?_ _ | refine blk_drew ?_ | refine blk_alloc ?_ _)); exact BK331.out) hb)
                  have n1_ := Aside0.mk (blk_below (g := gb332) (o := .cells #[.int .u64 a1_0, .int .u64 a1_1, .int .u64 a1_2, .int .u64 a1_3] 24 (0, 0)) (by (with_reducible repeat (first | refine blk_drewN ?_ _ | refine blk_drew ?_ | refine blk_alloc ?_ _)); exact BK332.out) hb)
                  have n2_ := Aside0.mk (blk_below (g := gb333) (o := .cells #[.int .u64 a2_0, .int .u64 a2_1, .int .u64 a2_2, .int .u64 a2_3] 24 (0, 0)) (by (with_reducible repeat (first | refine blk_drewN ?_ _ | refine blk_drew ?_ | refine blk_alloc ?_ _)); exact BK333.out) hb)
                  have n3_ := Aside0.mk (blk_below (g := gb340) (o := .cells #[.int .u64 t335, .int .u64 t336, .int .u64 t337, .int .u64 t338] 24 (0, 0)) (by (with_reducible repeat (first | refine blk_drewN ?_ _ | refine blk_drew ?_ | refine blk_alloc ?_ _)); exact BK340.out) hb)
                  have n4_ := Aside0.mk (blk_below (g := gb349) (o := .cells #[.int .u64 t345, .int .u64 t346, .int .u64 t347, .int .u64 t348] 24 (0, 0)) (by (with_reducible repeat (first | refine blk_drewN ?_ _ | refine blk_drew ?_ | refine blk_alloc ?_ _)); exact BK349.out) hb)
                  have n5_ := Aside0.mk (below_step (by repeat (first | (with_reducible first | exact HB.out | apply below_alloc | apply pw_below_drewN | apply below_drew1 | refine below_set ?_ GE331.out | refine below_set ?_ GE332.out | refine below_set ?_ GE333.out | refine below_set ?_ GE340.out | refine below_set ?_ GE349.out) | exact HB.out)) hb)
                  clear BK331
                  clear BK332
                  clear BK333
                  clear BK340
                  clear BK349
                  clear HB
                  have BK331 := n0_
                  have BK332 := n1_
                  have BK333 := n2_
                  have BK340 := n3_
                  have BK349 := n4_
                  have HB := n5_
                  clear n0_ n1_ n2_ n3_ n4_ n5_
                  (try clear hb)
                  (try clear hb2)
                  (try clear hk)
                  (try clear hi)
                  refine hK.out _ _ ⟨(blk_cell BK340.out 0).trans rfl, (blk_cell BK340.out 1).trans rfl, (blk_cell BK340.out 2).trans rfl, (blk_cell BK340.out 3).trans rfl, (blk_cell BK349.out 0).trans rfl, (blk_cell BK349.out 1).trans rfl, (blk_cell BK349.out 2).trans rfl, (blk_cell BK349.out 3).trans rfl, (blk_cell BK331.out 0).trans rfl, (blk_cell BK331.out 1).trans rfl, (blk_cell BK331.out 2).trans rfl, (blk_cell BK331.out 3).trans rfl, (blk_cell BK332.out 0).trans rfl, (blk_cell BK332.out 1).trans rfl, (blk_cell BK332.out 2).trans rfl, (blk_cell BK332.out 3).trans rfl, (blk_cell BK333.out 0).trans rfl, (blk_cell BK333.out 1).trans rfl, (blk_cell BK333.out 2).trans rfl, (blk_cell BK333.out 3).trans rfl⟩ (fun hHeld => ?_)
                  clear hK K
                  refine norm_ (a' := ?_) ?_ ?_
                  rotate_left
                  · show Act.put _ (some 73) _ = _
                    simp only [Act.put, List.setIfInBounds_toArray, List.set_cons_zero, List.set_cons_succ, i64_w, i32_w]
                    rfl
                  refine one_ (i := 53) (N := some 74) #[true, true, true, true, true, true, true, true, true, true, true, true, true, true, true, true, true, true, true, true, true, true, true, true, true, true, true, true, true, true, true, true, true, true, true, true, true, true, true, true, true, true, true, true, true, true, true, true, true, true, true, true, true, true, false, false, false, false, false, false, false, false, false, false, false, false, false, false, false, false, false] rfl rfl (one_of HT_.out (by kernel_rfl)) (by decide) (fun K hK => ?_)
                  refine goes_ Try.func15 (by kernel_rfl) rfl #[.agg #[.int .u64 a0_0, .int .u64 a0_1, .int .u64 a0_2, .int .u64 a0_3], .agg #[.int .u64 t400, .int .u64 t401, .int .u64 t402, .int .u64 t403]] (by rfl) rfl rfl (by (try simp only [List.map_toArray, List.map_cons, List.map_nil]); first | done | rfl | (simp only [List.length_drop, List.length_take]; rfl)) ?_
                  with_reducible refine (byteset_Or.calls a0_0 a0_1 a0_2 a0_3 t400 t401 t402 t403 t404 t405 t406 t407 _ A29.out).mono ?_
                  rintro e w70 ⟨rfl, hb⟩
                  refine ⟨_, rfl, ?_⟩
                  have n0_ := Aside0.mk (blk_below (g := gb331) (o := .cells #[.int .u64 a0_0, .int .u64 a0_1, .int .u64 a0_2, .int .u64 a0_3] 24 (0, 0)) (by (with_reducible repeat (first | refine blk_drewN ?_ _ | refine blk_drew ?_ | refine blk_alloc ?_ _)); exact BK331.out) hb)
                  have n1_ := Aside0.mk (blk_below (g := gb332) (o := .cells #[.int .u64 a1_0, .int .u64 a1_1, .int .u64 a1_2, .int .u64 a1_3] 24 (0, 0)) (by (with_reducible repeat (first | refine blk_drewN ?_ _ | refine blk_drew ?_ | refine blk_alloc ?_ _)); exact BK332.out) hb)
                  have n2_ := Aside0.mk (blk_below (g := gb333) (o := .cells #[.int .u64 a2_0, .int .u64 a2_1, .int .u64 a2_2, .int .u64 a2_3] 24 (0, 0)) (by (with_reducible repeat (first | refine blk_drewN ?_ _ | refine blk_drew ?_ | refine blk_alloc ?_ _)); exact BK333.out) hb)
                  have n3_ := Aside0.mk (blk_below (g := gb340) (o := .cells #[.int .u64 t335, .int .u64 t336, .int .u64 t337, .int .u64 t338] 24 (0, 0)) (by (with_reducible repeat (first | refine blk_drewN ?_ _ | refine blk_drew ?_ | refine blk_alloc ?_ _)); exact BK340.out) hb)
                  have n4_ := Aside0.mk (blk_below (g := gb349) (o := .cells #[.int .u64 t345, .int .u64 t346, .int .u64 t347, .int .u64 t348] 24 (0, 0)) (by (with_reducible repeat (first | refine blk_drewN ?_ _ | refine blk_drew ?_ | refine blk_alloc ?_ _)); exact BK349.out) hb)
                  have n5_ := Aside0.mk (below_step (by repeat (first | (with_reducible first | exact HB.out | apply below_alloc | apply pw_below_drewN | apply below_drew1 | refine below_set ?_ GE331.out | refine below_set ?_ GE332.out | refine below_set ?_ GE333.out | refine below_set ?_ GE340.out | refine below_set ?_ GE349.out) | exact HB.out)) hb)
                  clear BK331
                  clear BK332
                  clear BK333
                  clear BK340
                  clear BK349
                  clear HB
                  have BK331 := n0_
                  have BK332 := n1_
                  have BK333 := n2_
                  have BK340 := n3_
                  have BK349 := n4_
                  have HB := n5_
                  clear n0_ n1_ n2_ n3_ n4_ n5_
                  (try clear hb)
                  (try clear hb2)
                  (try clear hk)
                  (try clear hi)
                  refine hK.out _ _ ⟨(blk_cell BK340.out 0).trans rfl, (blk_cell BK340.out 1).trans rfl, (blk_cell BK340.out 2).trans rfl, (blk_cell BK340.out 3).trans rfl, (blk_cell BK349.out 0).trans rfl, (blk_cell BK349.out 1).trans rfl, (blk_cell BK349.out 2).trans rfl, (blk_cell BK349.out 3).trans rfl, (blk_cell BK331.out 0).trans rfl, (blk_cell BK331.out 1).trans rfl, (blk_cell BK331.out 2).trans rfl, (blk_cell BK331.out 3).trans rfl, (blk_cell BK332.out 0).trans rfl, (blk_cell BK332.out 1).trans rfl, (blk_cell BK332.out 2).trans rfl, (blk_cell BK332.out 3).trans rfl, (blk_cell BK333.out 0).trans rfl, (blk_cell BK333.out 1).trans rfl, (blk_cell BK333.out 2).trans rfl, (blk_cell BK333.out 3).trans rfl⟩ (fun hHeld => ?_)
                  clear hK K
                  refine norm_ (a' := ?_) ?_ ?_
                  rotate_left
                  · show Act.put _ (some 74) _ = _
                    simp only [Act.put, List.setIfInBounds_toArray, List.set_cons_zero, List.set_cons_succ, i64_w, i32_w]
                    rfl
                  refine pure_ (i := 54) (N := some 75) (v := ?_) (a' := ?_) #[true, true, true, true, true, true, true, true, true, true, true, true, true, true, true, true, true, true, true, true, true, true, true, true, true, true, true, true, true, true, true, true, true, true, true, true, true, true, true, true, true, true, true, true, true, true, true, true, true, true, true, true, true, true, true, false, false, false, false, false, false, false, false, false, false, false, false, false, false, false, false] rfl rfl (any_of HT_.out (by kernel_rfl)) (fun _ _ _ h => h) (Or.inl ⟨by rfl, ?_⟩) ?_ ?_
                  rotate_left
                  · intro w'
                    go_simp
                    with_reducible rfl
                  rotate_left
                  · simp only [Act.put, List.setIfInBounds_toArray, List.set_cons_zero, List.set_cons_succ, i64_w, i32_w]
                    rfl
                  refine pure_ (i := 55) (N := some 76) (v := ?_) (a' := ?_) #[true, true, true, true, true, true, true, true, true, true, true, true, true, true, true, true, true, true, true, true, true, true, true, true, true, true, true, true, true, true, true, true, true, true, true, true, true, true, true, true, true, true, true, true, true, true, true, true, true, true, true, true, true, true, true, true, false, false, false, false, false, false, false, false, false, false, false, false, false, false, false] rfl rfl (any_of HT_.out (by kernel_rfl)) (fun _ _ _ h => h) (Or.inl ⟨by rfl, ?_⟩) ?_ ?_
                  rotate_left
                  · intro w'
                    go_simp
                    with_reducible rfl
                  rotate_left
                  · simp only [Act.put, List.setIfInBounds_toArray, List.set_cons_zero, List.set_cons_succ, i64_w, i32_w]
                    rfl
                  refine pure_ (i := 56) (N := some 77) (v := ?_) (a' := ?_) #[true, true, true, true, true, true, true, true, true, true, true, true, true, true, true, true, true, true, true, true, true, true, true, true, true, true, true, true, true, true, true, true, true, true, true, true, true, true, true, true, true, true, true, true, true, true, true, true, true, true, true, true, true, true, true, true, true, false, false, false, false, false, false, false, false, false, false, false, false, false, false] rfl rfl (any_of HT_.out (by kernel_rfl)) (fun _ _ _ h => h) (Or.inl ⟨by rfl, ?_⟩) ?_ ?_
                  rotate_left
                  · intro w'
                    go_simp
                    with_reducible rfl
                  rotate_left
                  · simp only [Act.put, List.setIfInBounds_toArray, List.set_cons_zero, List.set_cons_succ, i64_w, i32_w]
                    rfl
                  refine pure_ (i := 60) (N := some 81) (v := ?_) (a' := ?_) #[true, true, true, true, true, true, true, true, true, true, true, true, true, true, true, true, true, true, true, true, true, true, true, true, true, true, true, true, true, true, true, true, true, true, true, true, true, true, true, true, true, true, true, true, true, true, true, true, true, true, true, true, true, true, true, true, true, false, false, false, true, false, false, false, false, false, false, false, false, false, false] rfl rfl (any_of HT_.out (by kernel_rfl)) (fun _ _ _ h => h) (Or.inl ⟨by rfl, ?_⟩) ?_ ?_
                  rotate_left
                  · intro w'
                    go_simp
                    with_reducible rfl
                  rotate_left
                  · simp only [Act.put, List.setIfInBounds_toArray, List.set_cons_zero, List.set_cons_succ, i64_w, i32_w]
                    rfl
                  refine take_ (i := 57) (N := some 78) (v := ?_) (a' := ?_) #[true, true, true, true, true, true, true, true, true, true, true, true, true, true, true, true, true, true, true, true, true, true, true, true, true, true, true, true, true, true, true, true, true, true, true, true, true, true, true, true, true, true, true, true, true, true, true, true, true, true, true, true, true, true, true, true, true, true, false, false, true, false, false, false, false, false, false, false, false, false, false] rfl rfl (take_ofW HT_.out HW_.out (by kernel_rfl)) (fun _ _ _ h => h) (Or.inl ⟨by rfl, ?_⟩) hHeld ?_ ?_
                  rotate_left
                  · rintro w' ⟨s0, s1, s2, s3, s4, s5, s6, s7, s8, s9, s10, s11, s12, s13, s14, s15, s16, s17, s18, s19⟩
                    go_simp
                    with_reducible rfl
                  rotate_left
                  · simp only [Act.put, List.setIfInBounds_toArray, List.set_cons_zero, List.set_cons_succ, i64_w, i32_w]
                    rfl
                  refine take_ (i := 58) (N := some 79) (v := ?_) (a' := ?_) #[true, true, true, true, true, true, true, true, true, true, true, true, true, true, true, true, true, true, true, true, true, true, true, true, true, true, true, true, true, true, true, true, true, true, true, true, true, true, true, true, true, true, true, true, true, true, true, true, true, true, true, true, true, true, true, true, true, true, true, false, true, false, false, false, false, false, false, false, false, false, false] rfl rfl (take_ofW HT_.out HW_.out (by kernel_rfl)) (fun _ _ _ h => h) (Or.inl ⟨by rfl, ?_⟩) hHeld ?_ ?_
                  rotate_left
                  · rintro w' ⟨s0, s1, s2, s3, s4, s5, s6, s7, s8, s9, s10, s11, s12, s13, s14, s15, s16, s17, s18, s19⟩
                    go_simp
                    with_reducible rfl
                  rotate_left
                  · simp only [Act.put, List.setIfInBounds_toArray, List.set_cons_zero, List.set_cons_succ, i64_w, i32_w]
                    rfl
                  refine one_ (i := 59) (N := some 80) #[true, true, true, true, true, true, true, true, true, true, true, true, true, true, true, true, true, true, true, true, true, true, true, true, true, true, true, true, true, true, true, true, true, true, true, true, true, true, true, true, true, true, true, true, true, true, true, true, true, true, true, true, true, true, true, true, true, true, true, true, true, false, false, false, false, false, false, false, false, false, false] rfl rfl (one_of HT_.out (by kernel_rfl)) (by decide) (fun K hK => ?_)
                  refine goes_ Try.func18 (by kernel_rfl) rfl #[.agg #[.int .u64 a0_0, .int .u64 a0_1, .int .u64 a0_2, .int .u64 a0_3], .agg #[.int .u64 a0_0, .int .u64 a0_1, .int .u64 a0_2, .int .u64 a0_3]] (by rfl) rfl rfl (by (try simp only [List.map_toArray, List.map_cons, List.map_nil]); first | done | rfl | (simp only [List.length_drop, List.length_take]; rfl)) ?_
                  with_reducible refine (byteset_Minus.calls a0_0 a0_1 a0_2 a0_3 a0_0 a0_1 a0_2 a0_3 t408 t409 t410 t411 _ A31.out).mono ?_
                  rintro e w71 ⟨rfl, hb⟩
                  refine ⟨_, rfl, ?_⟩
                  have n0_ := Aside0.mk (blk_below (g := gb331) (o := .cells #[.int .u64 a0_0, .int .u64 a0_1, .int .u64 a0_2, .int .u64 a0_3] 24 (0, 0)) (by (with_reducible repeat (first | refine blk_drewN ?_ _ | refine blk_drew ?_ | refine blk_alloc ?_ _)); exact BK331.out) hb)
                  have n1_ := Aside0.mk (blk_below (g := gb332) (o := .cells #[.int .u64 a1_0, .int .u64 a1_1, .int .u64 a1_2, .int .u64 a1_3] 24 (0, 0)) (by (with_reducible repeat (first | refine blk_drewN ?_ _ | refine blk_drew ?_ | refine blk_alloc ?_ _)); exact BK332.out) hb)
                  have n2_ := Aside0.mk (blk_below (g := gb333) (o := .cells #[.int .u64 a2_0, .int .u64 a2_1, .int .u64 a2_2, .int .u64 a2_3] 24 (0, 0)) (by (with_reducible repeat (first | refine blk_drewN ?_ _ | refine blk_drew ?_ | refine blk_alloc ?_ _)); exact BK333.out) hb)
                  have n3_ := Aside0.mk (blk_below (g := gb340) (o := .cells #[.int .u64 t335, .int .u64 t336, .int .u64 t337, .int .u64 t338] 24 (0, 0)) (by (with_reducible repeat (first | refine blk_drewN ?_ _ | refine blk_drew ?_ | refine blk_alloc ?_ _)); exact BK340.out) hb)
                  have n4_ := Aside0.mk (blk_below (g := gb349) (o := .cells #[.int .u64 t345, .int .u64 t346, .int .u64 t347, .int .u64 t348] 24 (0, 0)) (by (with_reducible repeat (first | refine blk_drewN ?_ _ | refine blk_drew ?_ | refine blk_alloc ?_ _)); exact BK349.out) hb)
                  have n5_ := Aside0.mk (below_step (by repeat (first | (with_reducible first | exact HB.out | apply below_alloc | apply pw_below_drewN | apply below_drew1 | refine below_set ?_ GE331.out | refine below_set ?_ GE332.out | refine below_set ?_ GE333.out | refine below_set ?_ GE340.out | refine below_set ?_ GE349.out) | exact HB.out)) hb)
                  clear BK331
                  clear BK332
                  clear BK333
                  clear BK340
                  clear BK349
                  clear HB
                  have BK331 := n0_
                  have BK332 := n1_
                  have BK333 := n2_
                  have BK340 := n3_
                  have BK349 := n4_
                  have HB := n5_
                  clear n0_ n1_ n2_ n3_ n4_ n5_
                  (try clear hb)
                  (try clear hb2)
                  (try clear hk)
                  (try clear hi)
                  refine hK.out _ _ ⟨(blk_cell BK340.out 0).trans rfl, (blk_cell BK340.out 1).trans rfl, (blk_cell BK340.out 2).trans rfl, (blk_cell BK340.out 3).trans rfl, (blk_cell BK349.out 0).trans rfl, (blk_cell BK349.out 1).trans rfl, (blk_cell BK349.out 2).trans rfl, (blk_cell BK349.out 3).trans rfl, (blk_cell BK331.out 0).trans rfl, (blk_cell BK331.out 1).trans rfl, (blk_cell BK331.out 2).trans rfl, (blk_cell BK331.out 3).trans rfl, (blk_cell BK332.out 0).trans rfl, (blk_cell BK332.out 1).trans rfl, (blk_cell BK332.out 2).trans rfl, (blk_cell BK332.out 3).trans rfl, (blk_cell BK333.out 0).trans rfl, (blk_cell BK333.out 1).trans rfl, (blk_cell BK333.out 2).trans rfl, (blk_cell BK333.out 3).trans rfl⟩ (fun hHeld => ?_)
                  clear hK K
                  refine norm_ (a' := ?_) ?_ ?_
                  rotate_left
                  · show Act.put _ (some 80) _ = _
                    simp only [Act.put, List.setIfInBounds_toArray, List.set_cons_zero, List.set_cons_succ, i64_w, i32_w]
                    rfl
                  refine pure_ (i := 61) (N := some 82) (v := ?_) (a' := ?_) #[true, true, true, true, true, true, true, true, true, true, true, true, true, true, true, true, true, true, true, true, true, true, true, true, true, true, true, true, true, true, true, true, true, true, true, true, true, true, true, true, true, true, true, true, true, true, true, true, true, true, true, true, true, true, true, true, true, true, true, true, true, true, false, false, false, false, false, false, false, false, false] rfl rfl (any_of HT_.out (by kernel_rfl)) (fun _ _ _ h => h) (Or.inl ⟨by rfl, ?_⟩) ?_ ?_
                  rotate_left
                  · intro w'
                    go_simp
                    with_reducible rfl
                  rotate_left
                  · simp only [Act.put, List.setIfInBounds_toArray, List.set_cons_zero, List.set_cons_succ, i64_w, i32_w]
                    rfl
                  refine pure_ (i := 62) (N := some 83) (v := ?_) (a' := ?_) #[true, true, true, true, true, true, true, true, true, true, true, true, true, true, true, true, true, true, true, true, true, true, true, true, true, true, true, true, true, true, true, true, true, true, true, true, true, true, true, true, true, true, true, true, true, true, true, true, true, true, true, true, true, true, true, true, true, true, true, true, true, true, true, false, false, false, false, false, false, false, false] rfl rfl (any_of HT_.out (by kernel_rfl)) (fun _ _ _ h => h) (Or.inl ⟨by rfl, ?_⟩) ?_ ?_
                  rotate_left
                  · intro w'
                    go_simp
                    with_reducible rfl
                  rotate_left
                  · simp only [Act.put, List.setIfInBounds_toArray, List.set_cons_zero, List.set_cons_succ, i64_w, i32_w]
                    rfl
                  refine pure_ (i := 63) (N := some 84) (v := ?_) (a' := ?_) #[true, true, true, true, true, true, true, true, true, true, true, true, true, true, true, true, true, true, true, true, true, true, true, true, true, true, true, true, true, true, true, true, true, true, true, true, true, true, true, true, true, true, true, true, true, true, true, true, true, true, true, true, true, true, true, true, true, true, true, true, true, true, true, true, false, false, false, false, false, false, false] rfl rfl (any_of HT_.out (by kernel_rfl)) (fun _ _ _ h => h) (Or.inl ⟨by rfl, ?_⟩) ?_ ?_
                  rotate_left
                  · intro w'
                    go_simp
                    with_reducible rfl
                  rotate_left
                  · simp only [Act.put, List.setIfInBounds_toArray, List.set_cons_zero, List.set_cons_succ, i64_w, i32_w]
                    rfl
                  refine take_ (i := 64) (N := some 85) (v := ?_) (a' := ?_) #[true, true, true, true, true, true, true, true, true, true, true, true, true, true, true, true, true, true, true, true, true, true, true, true, true, true, true, true, true, true, true, true, true, true, true, true, true, true, true, true, true, true, true, true, true, true, true, true, true, true, true, true, true, true, true, true, true, true, true, true, true, true, true, true, true, false, false, false, false, false, false] rfl rfl (take_ofW HT_.out HW_.out (by kernel_rfl)) (fun _ _ _ h => h) (Or.inl ⟨by rfl, ?_⟩) hHeld ?_ ?_
                  rotate_left
                  · rintro w' ⟨s0, s1, s2, s3, s4, s5, s6, s7, s8, s9, s10, s11, s12, s13, s14, s15, s16, s17, s18, s19⟩
                    go_simp
                    with_reducible rfl
                  rotate_left
                  · simp only [Act.put, List.setIfInBounds_toArray, List.set_cons_zero, List.set_cons_succ, i64_w, i32_w]
                    rfl
                  refine take_ (i := 65) (N := some 86) (v := ?_) (a' := ?_) #[true, true, true, true, true, true, true, true, true, true, true, true, true, true, true, true, true, true, true, true, true, true, true, true, true, true, true, true, true, true, true, true, true, true, true, true, true, true, true, true, true, true, true, true, true, true, true, true, true, true, true, true, true, true, true, true, true, true, true, true, true, true, true, true, true, true, false, false, false, false, false] rfl rfl (take_ofW HT_.out HW_.out (by kernel_rfl)) (fun _ _ _ h => h) (Or.inl ⟨by rfl, ?_⟩) hHeld ?_ ?_
                  rotate_left
                  · rintro w' ⟨s0, s1, s2, s3, s4, s5, s6, s7, s8, s9, s10, s11, s12, s13, s14, s15, s16, s17, s18, s19⟩
                    go_simp
                    with_reducible rfl
                  rotate_left
                  · simp only [Act.put, List.setIfInBounds_toArray, List.set_cons_zero, List.set_cons_succ, i64_w, i32_w]
                    rfl
                  refine take_ (i := 67) (N := some 88) (v := ?_) (a' := ?_) #[true, true, true, true, true, true, true, true, true, true, true, true, true, true, true, true, true, true, true, true, true, true, true, true, true, true, true, true, true, true, true, true, true, true, true, true, true, true, true, true, true, true, true, true, true, true, true, true, true, true, true, true, true, true, true, true, true, true, true, true, true, true, true, true, true, true, false, true, false, false, false] rfl rfl (take_ofW HT_.out HW_.out (by kernel_rfl)) (fun _ _ _ h => h) (Or.inl ⟨by rfl, ?_⟩) hHeld ?_ ?_
                  rotate_left
                  · rintro w' ⟨s0, s1, s2, s3, s4, s5, s6, s7, s8, s9, s10, s11, s12, s13, s14, s15, s16, s17, s18, s19⟩
                    go_simp
                    with_reducible rfl
                  rotate_left
                  · simp only [Act.put, List.setIfInBounds_toArray, List.set_cons_zero, List.set_cons_succ, i64_w, i32_w]
                    rfl
                  refine one_ (i := 66) (N := some 87) #[true, true, true, true, true, true, true, true, true, true, true, true, true, true, true, true, true, true, true, true, true, true, true, true, true, true, true, true, true, true, true, true, true, true, true, true, true, true, true, true, true, true, true, true, true, true, true, true, true, true, true, true, true, true, true, true, true, true, true, true, true, true, true, true, true, true, true, true, false, false, false] rfl rfl (one_of HT_.out (by kernel_rfl)) (by decide) (fun K hK => ?_)
                  refine goes_ Try.func15 (by kernel_rfl) rfl #[.agg #[.int .u64 a0_0, .int .u64 a0_1, .int .u64 a0_2, .int .u64 a0_3], .agg #[.int .u64 a0_0, .int .u64 a0_1, .int .u64 a0_2, .int .u64 a0_3]] (by rfl) rfl rfl (by (try simp only [List.map_toArray, List.map_cons, List.map_nil]); first | done | rfl | (simp only [List.length_drop, List.length_take]; rfl)) ?_
                  with_reducible refine (byteset_Or.calls a0_0 a0_1 a0_2 a0_3 a0_0 a0_1 a0_2 a0_3 t412 t413 t414 t415 _ A33.out).mono ?_
                  rintro e w72 ⟨rfl, hb⟩
                  refine ⟨_, rfl, ?_⟩
                  have n0_ := Aside0.mk (blk_below (g := gb331) (o := .cells #[.int .u64 a0_0, .int .u64 a0_1, .int .u64 a0_2, .int .u64 a0_3] 24 (0, 0)) (by (with_reducible repeat (first | refine blk_drewN ?_ _ | refine blk_drew ?_ | refine blk_alloc ?_ _)); exact BK331.out) hb)
                  have n1_ := Aside0.mk (blk_below (g := gb332) (o := .cells #[.int .u64 a1_0, .int .u64 a1_1, .int .u64 a1_2, .int .u64 a1_3] 24 (0, 0)) (by (with_reducible repeat (first | refine blk_drewN ?_ _ | refine blk_drew ?_ | refine blk_alloc ?_ _)); exact BK332.out) hb)
                  have n2_ := Aside0.mk (blk_below (g := gb333) (o := .cells #[.int .u64 a2_0, .int .u64 a2_1, .int .u64 a2_2, .int .u64 a2_3] 24 (0, 0)) (by (with_reducible repeat (first | refine blk_drewN ?_ _ | refine blk_drew ?_ | refine blk_alloc ?_ _)); exact BK333.out) hb)
                  have n3_ := Aside0.mk (blk_below (g := gb340) (o := .cells #[.int .u64 t335, .int .u64 t336, .int .u64 t337, .int .u64 t338] 24 (0, 0)) (by (with_reducible repeat (first | refine blk_drewN ?_ _ | refine blk_drew ?_ | refine blk_alloc ?_ _)); exact BK340.out) hb)
                  have n4_ := Aside0.mk (blk_below (g := gb349) (o := .cells #[.int .u64 t345, .int .u64 t346, .int .u64 t347, .int .u64 t348] 24 (0, 0)) (by (with_reducible repeat (first | refine blk_drewN ?_ _ | refine blk_drew ?_ | refine blk_alloc ?_ _)); exact BK349.out) hb)
                  have n5_ := Aside0.mk (below_step (by repeat (first | (with_reducible first | exact HB.out | apply below_alloc | apply pw_below_drewN | apply below_drew1 | refine below_set ?_ GE331.out | refine below_set ?_ GE332.out | refine below_set ?_ GE333.out | refine below_set ?_ GE340.out | refine below_set ?_ GE349.out) | exact HB.out)) hb)
                  clear BK331
                  clear BK332
                  clear BK333
                  clear BK340
                  clear BK349
                  clear HB
                  have BK331 := n0_
                  have BK332 := n1_
                  have BK333 := n2_
                  have BK340 := n3_
                  have BK349 := n4_
                  have HB := n5_
                  clear n0_ n1_ n2_ n3_ n4_ n5_
                  (try clear hb)
                  (try clear hb2)
                  (try clear hk)
                  (try clear hi)
                  refine hK.out _ _ ⟨(blk_cell BK340.out 0).trans rfl, (blk_cell BK340.out 1).trans rfl, (blk_cell BK340.out 2).trans rfl, (blk_cell BK340.out 3).trans rfl, (blk_cell BK349.out 0).trans rfl, (blk_cell BK349.out 1).trans rfl, (blk_cell BK349.out 2).trans rfl, (blk_cell BK349.out 3).trans rfl, (blk_cell BK331.out 0).trans rfl, (blk_cell BK331.out 1).trans rfl, (blk_cell BK331.out 2).trans rfl, (blk_cell BK331.out 3).trans rfl, (blk_cell BK332.out 0).trans rfl, (blk_cell BK332.out 1).trans rfl, (blk_cell BK332.out 2).trans rfl, (blk_cell BK332.out 3).trans rfl, (blk_cell BK333.out 0).trans rfl, (blk_cell BK333.out 1).trans rfl, (blk_cell BK333.out 2).trans rfl, (blk_cell BK333.out 3).trans rfl⟩ (fun hHeld => ?_)
                  clear hK K
                  refine norm_ (a' := ?_) ?_ ?_
                  rotate_left
                  · show Act.put _ (some 87) _ = _
                    simp only [Act.put, List.setIfInBounds_toArray, List.set_cons_zero, List.set_cons_succ, i64_w, i32_w]
                    rfl
                  refine pure_ (i := 68) (N := some 89) (v := ?_) (a' := ?_) #[true, true, true, true, true, true, true, true, true, true, true, true, true, true, true, true, true, true, true, true, true, true, true, true, true, true, true, true, true, true, true, true, true, true, true, true, true, true, true, true, true, true, true, true, true, true, true, true, true, true, true, true, true, true, true, true, true, true, true, true, true, true, true, true, true, true, true, true, true, false, false] rfl rfl (any_of HT_.out (by kernel_rfl)) (fun _ _ _ h => h) (Or.inl ⟨by rfl, ?_⟩) ?_ ?_
                  rotate_left
                  · intro w'
                    go_simp
                    with_reducible rfl
                  rotate_left
                  · simp only [Act.put, List.setIfInBounds_toArray, List.set_cons_zero, List.set_cons_succ, i64_w, i32_w]
                    rfl
                  refine pure_ (i := 69) (N := some 90) (v := ?_) (a' := ?_) #[true, true, true, true, true, true, true, true, true, true, true, true, true, true, true, true, true, true, true, true, true, true, true, true, true, true, true, true, true, true, true, true, true, true, true, true, true, true, true, true, true, true, true, true, true, true, true, true, true, true, true, true, true, true, true, true, true, true, true, true, true, true, true, true, true, true, true, true, true, true, false] rfl rfl (any_of HT_.out (by kernel_rfl)) (fun _ _ _ h => h) (Or.inl ⟨by rfl, ?_⟩) ?_ ?_
                  rotate_left
                  · intro w'
                    go_simp
                    with_reducible rfl
                  rotate_left
                  · simp only [Act.put, List.setIfInBounds_toArray, List.set_cons_zero, List.set_cons_succ, i64_w, i32_w]
                    rfl
                  refine pure_ (i := 70) (N := some 6) (v := ?_) (a' := ?_) #[true, true, true, true, true, true, true, true, true, true, true, true, true, true, true, true, true, true, true, true, true, true, true, true, true, true, true, true, true, true, true, true, true, true, true, true, true, true, true, true, true, true, true, true, true, true, true, true, true, true, true, true, true, true, true, true, true, true, true, true, true, true, true, true, true, true, true, true, true, true, true] rfl rfl (any_of HT_.out (by kernel_rfl)) (fun _ _ _ h => h) (Or.inl ⟨by rfl, ?_⟩) ?_ ?_
                  rotate_left
                  · intro w'
                    go_simp
                    with_reducible rfl
                  rotate_left
                  · simp only [Act.put, List.setIfInBounds_toArray, List.set_cons_zero, List.set_cons_succ, i64_w, i32_w]
                    rfl
                  refine done_ (done_of HT_.out (by kernel_rfl)) ?_
                  try go_wp2
                  go_ret
                  exact ⟨by first | rfl | (simp [errW_none, errW_some] <;> rfl) | (simp [*, errW_none, errW_some] <;> rfl), by repeat (first | (with_reducible first | exact HB.out | apply below_alloc | apply pw_below_drewN | apply below_drew1 | refine below_set ?_ GE331.out | refine below_set ?_ GE332.out | refine below_set ?_ GE333.out | refine below_set ?_ GE340.out | refine below_set ?_ GE349.out) | exact HB.out)⟩
                · rw [if_neg c32] at H
                  exact absurd H (by simp)
              · rw [if_neg c30] at H
                exact absurd H (by simp)
            · rw [if_neg c25] at H
              exact absurd H (by simp)
          · rw [if_neg c22] at H
            exact absurd H (by simp)
        · rw [if_neg c16] at H
          exact absurd H (by simp)
      · rw [if_neg c12] at H
        exact absurd H (by simp)
    · rw [if_neg c10] at H
      exact absurd H (by simp)
  · replace c5 := Bool.eq_false_iff.mpr c5
    subst c5
    have H1 : (none) = some r := by rw [if_neg (show ¬ (false = true) by decide)] at H; exact H
    clear H
    have H := H1
    clear H1
    exact absurd H (by simp)

end Go.Proofs.Ytldoicmbacppeaa.PL1
