-- written by a program of the session's (wip/myprint.py) out of the translation
import Derived.Test.YtldoicmbacppeaaPL1x0
import Derived.Test.YtldoicmbacppeaaPL1x5
import Derived.Test.YtldoicmbacppeaaPL1x6
import Derived.Test.YtldoicmbacppeaaPL1x9
import Derived.Test.YtldoicmbacppeaaPL1x11
import Derived.Test.YtldoicmbacppeaaPL1x12
import Derived.Test.YtldoicmbacppeaaPL1x18
namespace Go.Proofs.Ytldoicmbacppeaa.PL1
open Go.RowKit Go.Proofs.YtldoicmbacppeaaW.PrintWords Go.Proofs.YtldoicmbacppeaaW.PrintLast Go.Proofs.YtldoicmbacppeaaW.PrintMore
attribute [local go_sem] max2_int min2_int max_two min_two max_three min_three max_four min_four   -- for this text's walks alone
set_option linter.unusedVariables false
set_option linter.unusedSimpArgs false

/-! ### templelaw1_SetBits: function 7 -/
def templelaw1_SetBits.f (k : Nat) (a0_0 : Int) (a0_1 : Int) (a0_2 : Int) (a0_3 : Int) (a1_0 : Int) (a1_1 : Int) (a1_2 : Int) (a1_3 : Int) (a2 : Int) : Option (Bool) := (templelaw1_awake.f k).bind fun t418 => (if t418 = true then ((byteset_Has.f a0_0 a0_1 a0_2 a0_3 (Go.bits .and .i64 a2 255)).bind fun t419 => ((byteset_Has.f a1_0 a1_1 a1_2 a1_3 (Go.bits .and .i64 a2 255)).bind fun t420 => ((byteset_Or.f a0_0 a0_1 a0_2 a0_3 a1_0 a1_1 a1_2 a1_3).bind fun bt421 => ((byteset_Has.f bt421.1 bt421.2.1 bt421.2.2.1 bt421.2.2.2 (Go.bits .and .i64 a2 255)).bind fun t425 => (if t419 = true then (if (t425 == true) = true then ((byteset_And.f a0_0 a0_1 a0_2 a0_3 a1_0 a1_1 a1_2 a1_3).bind fun bt426 => ((byteset_Has.f bt426.1 bt426.2.1 bt426.2.2.1 bt426.2.2.2 (Go.bits .and .i64 a2 255)).bind fun t430 => (if (t430 == t420) = true then ((byteset_Minus.f a0_0 a0_1 a0_2 a0_3 a1_0 a1_1 a1_2 a1_3).bind fun bt431 => ((byteset_Has.f bt431.1 bt431.2.1 bt431.2.2.1 bt431.2.2.2 (Go.bits .and .i64 a2 255)).bind fun t435 => (if (t435 == (!t420)) = true then (if (wrap64 (Int.tdiv (Go.bits .and .i64 a2 255) 64)) = 0 then (if 0 ≤ (Int.tmod (Go.bits .and .i64 a2 255) 64) then (if (t419 == ((Go.bits .and .u64 (shr .u64 a0_0 (Int.tmod (Go.bits .and .i64 a2 255) 64)) 1) == 1)) = true then ((byteset_Has.f a0_0 a0_1 a0_2 a0_3 (wrap64 ((Go.bits .and .i64 a2 255) + 256))).bind fun t436 => (if t436 = true then (none) else ((byteset_Has.f a0_0 a0_1 a0_2 a0_3 (wrap64 ((Go.bits .and .i64 a2 255) - 256))).bind fun t437 => (if t437 = true then (none) else ((templelaw0_Num.f 0).bind fun t438 => (some (t438 == 0))))))) else (none)) else (none)) else (if (wrap64 (Int.tdiv (Go.bits .and .i64 a2 255) 64)) = 1 then (if 0 ≤ (Int.tmod (Go.bits .and .i64 a2 255) 64) then (if (t419 == ((Go.bits .and .u64 (shr .u64 a0_1 (Int.tmod (Go.bits .and .i64 a2 255) 64)) 1) == 1)) = true then ((byteset_Has.f a0_0 a0_1 a0_2 a0_3 (wrap64 ((Go.bits .and .i64 a2 255) + 256))).bind fun t439 => (if t439 = true then (none) else ((byteset_Has.f a0_0 a0_1 a0_2 a0_3 (wrap64 ((Go.bits .and .i64 a2 255) - 256))).bind fun t440 => (if t440 = true then (none) else ((templelaw0_Num.f 0).bind fun t441 => (some (t441 == 0))))))) else (none)) else (none)) else (if (wrap64 (Int.tdiv (Go.bits .and .i64 a2 255) 64)) = 2 then (if 0 ≤ (Int.tmod (Go.bits .and .i64 a2 255) 64) then (if (t419 == ((Go.bits .and .u64 (shr .u64 a0_2 (Int.tmod (Go.bits .and .i64 a2 255) 64)) 1) == 1)) = true then ((byteset_Has.f a0_0 a0_1 a0_2 a0_3 (wrap64 ((Go.bits .and .i64 a2 255) + 256))).bind fun t442 => (if t442 = true then (none) else ((byteset_Has.f a0_0 a0_1 a0_2 a0_3 (wrap64 ((Go.bits .and .i64 a2 255) - 256))).bind fun t443 => (if t443 = true then (none) else ((templelaw0_Num.f 0).bind fun t444 => (some (t444 == 0))))))) else (none)) else (none)) else (if (wrap64 (Int.tdiv (Go.bits .and .i64 a2 255) 64)) = 3 then (if 0 ≤ (Int.tmod (Go.bits .and .i64 a2 255) 64) then (if (t419 == ((Go.bits .and .u64 (shr .u64 a0_3 (Int.tmod (Go.bits .and .i64 a2 255) 64)) 1) == 1)) = true then ((byteset_Has.f a0_0 a0_1 a0_2 a0_3 (wrap64 ((Go.bits .and .i64 a2 255) + 256))).bind fun t445 => (if t445 = true then (none) else ((byteset_Has.f a0_0 a0_1 a0_2 a0_3 (wrap64 ((Go.bits .and .i64 a2 255) - 256))).bind fun t446 => (if t446 = true then (none) else ((templelaw0_Num.f 0).bind fun t447 => (some (t447 == 0))))))) else (none)) else (none)) else (none))))) else (none)))) else (none)))) else (none)) else (if (t425 == t420) = true then ((byteset_And.f a0_0 a0_1 a0_2 a0_3 a1_0 a1_1 a1_2 a1_3).bind fun bt448 => ((byteset_Has.f bt448.1 bt448.2.1 bt448.2.2.1 bt448.2.2.2 (Go.bits .and .i64 a2 255)).bind fun t452 => (if (t452 == false) = true then ((byteset_Minus.f a0_0 a0_1 a0_2 a0_3 a1_0 a1_1 a1_2 a1_3).bind fun bt453 => ((byteset_Has.f bt453.1 bt453.2.1 bt453.2.2.1 bt453.2.2.2 (Go.bits .and .i64 a2 255)).bind fun t457 => (if (t457 == false) = true then (if (wrap64 (Int.tdiv (Go.bits .and .i64 a2 255) 64)) = 0 then (if 0 ≤ (Int.tmod (Go.bits .and .i64 a2 255) 64) then (if (t419 == ((Go.bits .and .u64 (shr .u64 a0_0 (Int.tmod (Go.bits .and .i64 a2 255) 64)) 1) == 1)) = true then ((byteset_Has.f a0_0 a0_1 a0_2 a0_3 (wrap64 ((Go.bits .and .i64 a2 255) + 256))).bind fun t458 => (if t458 = true then (none) else ((byteset_Has.f a0_0 a0_1 a0_2 a0_3 (wrap64 ((Go.bits .and .i64 a2 255) - 256))).bind fun t459 => (if t459 = true then (none) else ((templelaw0_Num.f 0).bind fun t460 => (some (t460 == 0))))))) else (none)) else (none)) else (if (wrap64 (Int.tdiv (Go.bits .and .i64 a2 255) 64)) = 1 then (if 0 ≤ (Int.tmod (Go.bits .and .i64 a2 255) 64) then (if (t419 == ((Go.bits .and .u64 (shr .u64 a0_1 (Int.tmod (Go.bits .and .i64 a2 255) 64)) 1) == 1)) = true then ((byteset_Has.f a0_0 a0_1 a0_2 a0_3 (wrap64 ((Go.bits .and .i64 a2 255) + 256))).bind fun t461 => (if t461 = true then (none) else ((byteset_Has.f a0_0 a0_1 a0_2 a0_3 (wrap64 ((Go.bits .and .i64 a2 255) - 256))).bind fun t462 => (if t462 = true then (none) else ((templelaw0_Num.f 0).bind fun t463 => (some (t463 == 0))))))) else (none)) else (none)) else (if (wrap64 (Int.tdiv (Go.bits .and .i64 a2 255) 64)) = 2 then (if 0 ≤ (Int.tmod (Go.bits .and .i64 a2 255) 64) then (if (t419 == ((Go.bits .and .u64 (shr .u64 a0_2 (Int.tmod (Go.bits .and .i64 a2 255) 64)) 1) == 1)) = true then ((byteset_Has.f a0_0 a0_1 a0_2 a0_3 (wrap64 ((Go.bits .and .i64 a2 255) + 256))).bind fun t464 => (if t464 = true then (none) else ((byteset_Has.f a0_0 a0_1 a0_2 a0_3 (wrap64 ((Go.bits .and .i64 a2 255) - 256))).bind fun t465 => (if t465 = true then (none) else ((templelaw0_Num.f 0).bind fun t466 => (some (t466 == 0))))))) else (none)) else (none)) else (if (wrap64 (Int.tdiv (Go.bits .and .i64 a2 255) 64)) = 3 then (if 0 ≤ (Int.tmod (Go.bits .and .i64 a2 255) 64) then (if (t419 == ((Go.bits .and .u64 (shr .u64 a0_3 (Int.tmod (Go.bits .and .i64 a2 255) 64)) 1) == 1)) = true then ((byteset_Has.f a0_0 a0_1 a0_2 a0_3 (wrap64 ((Go.bits .and .i64 a2 255) + 256))).bind fun t467 => (if t467 = true then (none) else ((byteset_Has.f a0_0 a0_1 a0_2 a0_3 (wrap64 ((Go.bits .and .i64 a2 255) - 256))).bind fun t468 => (if t468 = true then (none) else ((templelaw0_Num.f 0).bind fun t469 => (some (t469 == 0))))))) else (none)) else (none)) else (none))))) else (none)))) else (none)))) else (none))))))) else (none))
theorem templelaw1_SetBits.mono : ∀ a0 a1 a2 a3 a4 a5 a6 a7 a8 k, LeO (templelaw1_SetBits.f k a0 a1 a2 a3 a4 a5 a6 a7 a8) (templelaw1_SetBits.f (k + 1) a0 a1 a2 a3 a4 a5 a6 a7 a8) := by
 intro a0 a1 a2 a3 a4 a5 a6 a7 a8 k
 unfold templelaw1_SetBits.f
 repeat' first
   | (with_reducible exact templelaw1_awake.mono _)
   | (with_reducible exact LeO.refl _)
   | (with_reducible exact LeO.none _)
   | (with_reducible refine LeO.ite ?_ ?_)
   | (with_reducible refine LeO.bind ?_ (fun _ => ?_))
   | exact templelaw1_awake.mono _
   | exact LeO.none _
   | refine LeO.ite ?_ ?_
   | refine LeO.bind ?_ (fun _ => ?_)
def templelaw1_SetBits.T4 : Bool × List (List Nat × List Nat) := (true, [([], []), ([], []), ([0, 1], [0, 1]), ([], []), ([], []), ([3, 4, 2], [3, 4]), ([2, 5, 0, 1, 2], [2]), ([5, 6, 0, 1, 2, 3, 4, 5, 6], [5])])
def templelaw1_SetBits.B4 : List Nat := [0, 0, 3, 0, 0, 31, 63, 127]
theorem templelaw1_SetBits.tab4 : rtab .any (opsOf Try.f7 4) = templelaw1_SetBits.T4 := by kernel_rfl
theorem templelaw1_SetBits.bits4 : waitsOk templelaw1_SetBits.T4.2 templelaw1_SetBits.B4 = true := by kernel_rfl
set_option maxHeartbeats 8000000 in
set_option maxRecDepth 100000 in
theorem templelaw1_SetBits.calls (k : Nat) (a0_0 : Int) (a0_1 : Int) (a0_2 : Int) (a0_3 : Int) (a1_0 : Int) (a1_1 : Int) (a1_2 : Int) (a1_3 : Int) (a2 : Int) (r : Bool) (w : World) (h : templelaw1_SetBits.f k a0_0 a0_1 a0_2 a0_3 a1_0 a1_1 a1_2 a1_3 a2 = some r) :
  Calls Try.prog 7 #[.agg #[.int .u64 a0_0, .int .u64 a0_1, .int .u64 a0_2, .int .u64 a0_3], .agg #[.int .u64 a1_0, .int .u64 a1_1, .int .u64 a1_2, .int .u64 a1_3], .int .i64 a2] w fun e w' => e = .returned (.bool r) ∧ Below w.heap.size w w' := by
 have hu24 := Try.underlying24
 have HB := Aside0.mk (Below.refl w.heap.size w)
 have H : ((templelaw1_awake.f k).bind fun t418 => (if t418 = true then ((byteset_Has.f a0_0 a0_1 a0_2 a0_3 (Go.bits .and .i64 a2 255)).bind fun t419 => ((byteset_Has.f a1_0 a1_1 a1_2 a1_3 (Go.bits .and .i64 a2 255)).bind fun t420 => ((byteset_Or.f a0_0 a0_1 a0_2 a0_3 a1_0 a1_1 a1_2 a1_3).bind fun bt421 => ((byteset_Has.f bt421.1 bt421.2.1 bt421.2.2.1 bt421.2.2.2 (Go.bits .and .i64 a2 255)).bind fun t425 => (if t419 = true then (if (t425 == true) = true then ((byteset_And.f a0_0 a0_1 a0_2 a0_3 a1_0 a1_1 a1_2 a1_3).bind fun bt426 => ((byteset_Has.f bt426.1 bt426.2.1 bt426.2.2.1 bt426.2.2.2 (Go.bits .and .i64 a2 255)).bind fun t430 => (if (t430 == t420) = true then ((byteset_Minus.f a0_0 a0_1 a0_2 a0_3 a1_0 a1_1 a1_2 a1_3).bind fun bt431 => ((byteset_Has.f bt431.1 bt431.2.1 bt431.2.2.1 bt431.2.2.2 (Go.bits .and .i64 a2 255)).bind fun t435 => (if (t435 == (!t420)) = true then (if (wrap64 (Int.tdiv (Go.bits .and .i64 a2 255) 64)) = 0 then (if 0 ≤ (Int.tmod (Go.bits .and .i64 a2 255) 64) then (if (t419 == ((Go.bits .and .u64 (shr .u64 a0_0 (Int.tmod (Go.bits .and .i64 a2 255) 64)) 1) == 1)) = true then ((byteset_Has.f a0_0 a0_1 a0_2 a0_3 (wrap64 ((Go.bits .and .i64 a2 255) + 256))).bind fun t436 => (if t436 = true then (none) else ((byteset_Has.f a0_0 a0_1 a0_2 a0_3 (wrap64 ((Go.bits .and .i64 a2 255) - 256))).bind fun t437 => (if t437 = true then (none) else ((templelaw0_Num.f 0).bind fun t438 => (some (t438 == 0))))))) else (none)) else (none)) else (if (wrap64 (Int.tdiv (Go.bits .and .i64 a2 255) 64)) = 1 then (if 0 ≤ (Int.tmod (Go.bits .and .i64 a2 255) 64) then (if (t419 == ((Go.bits .and .u64 (shr .u64 a0_1 (Int.tmod (Go.bits .and .i64 a2 255) 64)) 1) == 1)) = true then ((byteset_Has.f a0_0 a0_1 a0_2 a0_3 (wrap64 ((Go.bits .and .i64 a2 255) + 256))).bind fun t439 => (if t439 = true then (none) else ((byteset_Has.f a0_0 a0_1 a0_2 a0_3 (wrap64 ((Go.bits .and .i64 a2 255) - 256))).bind fun t440 => (if t440 = true then (none) else ((templelaw0_Num.f 0).bind fun t441 => (some (t441 == 0))))))) else (none)) else (none)) else (if (wrap64 (Int.tdiv (Go.bits .and .i64 a2 255) 64)) = 2 then (if 0 ≤ (Int.tmod (Go.bits .and .i64 a2 255) 64) then (if (t419 == ((Go.bits .and .u64 (shr .u64 a0_2 (Int.tmod (Go.bits .and .i64 a2 255) 64)) 1) == 1)) = true then ((byteset_Has.f a0_0 a0_1 a0_2 a0_3 (wrap64 ((Go.bits .and .i64 a2 255) + 256))).bind fun t442 => (if t442 = true then (none) else ((byteset_Has.f a0_0 a0_1 a0_2 a0_3 (wrap64 ((Go.bits .and .i64 a2 255) - 256))).bind fun t443 => (if t443 = true then (none) else ((templelaw0_Num.f 0).bind fun t444 => (some (t444 == 0))))))) else (none)) else (none)) else (if (wrap64 (Int.tdiv (Go.bits .and .i64 a2 255) 64)) = 3 then (if 0 ≤ (Int.tmod (Go.bits .and .i64 a2 255) 64) then (if (t419 == ((Go.bits .and .u64 (shr .u64 a0_3 (Int.tmod (Go.bits .and .i64 a2 255) 64)) 1) == 1)) = true then ((byteset_Has.f a0_0 a0_1 a0_2 a0_3 (wrap64 ((Go.bits .and .i64 a2 255) + 256))).bind fun t445 => (if t445 = true then (none) else ((byteset_Has.f a0_0 a0_1 a0_2 a0_3 (wrap64 ((Go.bits .and .i64 a2 255) - 256))).bind fun t446 => (if t446 = true then (none) else ((templelaw0_Num.f 0).bind fun t447 => (some (t447 == 0))))))) else (none)) else (none)) else (none))))) else (none)))) else (none)))) else (none)) else (if (t425 == t420) = true then ((byteset_And.f a0_0 a0_1 a0_2 a0_3 a1_0 a1_1 a1_2 a1_3).bind fun bt448 => ((byteset_Has.f bt448.1 bt448.2.1 bt448.2.2.1 bt448.2.2.2 (Go.bits .and .i64 a2 255)).bind fun t452 => (if (t452 == false) = true then ((byteset_Minus.f a0_0 a0_1 a0_2 a0_3 a1_0 a1_1 a1_2 a1_3).bind fun bt453 => ((byteset_Has.f bt453.1 bt453.2.1 bt453.2.2.1 bt453.2.2.2 (Go.bits .and .i64 a2 255)).bind fun t457 => (if (t457 == false) = true then (if (wrap64 (Int.tdiv (Go.bits .and .i64 a2 255) 64)) = 0 then (if 0 ≤ (Int.tmod (Go.bits .and .i64 a2 255) 64) then (if (t419 == ((Go.bits .and .u64 (shr .u64 a0_0 (Int.tmod (Go.bits .and .i64 a2 255) 64)) 1) == 1)) = true then ((byteset_Has.f a0_0 a0_1 a0_2 a0_3 (wrap64 ((Go.bits .and .i64 a2 255) + 256))).bind fun t458 => (if t458 = true then (none) else ((byteset_Has.f a0_0 a0_1 a0_2 a0_3 (wrap64 ((Go.bits .and .i64 a2 255) - 256))).bind fun t459 => (if t459 = true then (none) else ((templelaw0_Num.f 0).bind fun t460 => (some (t460 == 0))))))) else (none)) else (none)) else (if (wrap64 (Int.tdiv (Go.bits .and .i64 a2 255) 64)) = 1 then (if 0 ≤ (Int.tmod (Go.bits .and .i64 a2 255) 64) then (if (t419 == ((Go.bits .and .u64 (shr .u64 a0_1 (Int.tmod (Go.bits .and .i64 a2 255) 64)) 1) == 1)) = true then ((byteset_Has.f a0_0 a0_1 a0_2 a0_3 (wrap64 ((Go.bits .and .i64 a2 255) + 256))).bind fun t461 => (if t461 = true then (none) else ((byteset_Has.f a0_0 a0_1 a0_2 a0_3 (wrap64 ((Go.bits .and .i64 a2 255) - 256))).bind fun t462 => (if t462 = true then (none) else ((templelaw0_Num.f 0).bind fun t463 => (some (t463 == 0))))))) else (none)) else (none)) else (if (wrap64 (Int.tdiv (Go.bits .and .i64 a2 255) 64)) = 2 then (if 0 ≤ (Int.tmod (Go.bits .and .i64 a2 255) 64) then (if (t419 == ((Go.bits .and .u64 (shr .u64 a0_2 (Int.tmod (Go.bits .and .i64 a2 255) 64)) 1) == 1)) = true then ((byteset_Has.f a0_0 a0_1 a0_2 a0_3 (wrap64 ((Go.bits .and .i64 a2 255) + 256))).bind fun t464 => (if t464 = true then (none) else ((byteset_Has.f a0_0 a0_1 a0_2 a0_3 (wrap64 ((Go.bits .and .i64 a2 255) - 256))).bind fun t465 => (if t465 = true then (none) else ((templelaw0_Num.f 0).bind fun t466 => (some (t466 == 0))))))) else (none)) else (none)) else (if (wrap64 (Int.tdiv (Go.bits .and .i64 a2 255) 64)) = 3 then (if 0 ≤ (Int.tmod (Go.bits .and .i64 a2 255) 64) then (if (t419 == ((Go.bits .and .u64 (shr .u64 a0_3 (Int.tmod (Go.bits .and .i64 a2 255) 64)) 1) == 1)) = true then ((byteset_Has.f a0_0 a0_1 a0_2 a0_3 (wrap64 ((Go.bits .and .i64 a2 255) + 256))).bind fun t467 => (if t467 = true then (none) else ((byteset_Has.f a0_0 a0_1 a0_2 a0_3 (wrap64 ((Go.bits .and .i64 a2 255) - 256))).bind fun t468 => (if t468 = true then (none) else ((templelaw0_Num.f 0).bind fun t469 => (some (t469 == 0))))))) else (none)) else (none)) else (none))))) else (none)))) else (none)))) else (none))))))) else (none))) = some r := h
 clear h
 replace H := Option.bind_eq_some_iff.mp H
 obtain ⟨t418, A40, H⟩ := H
 try dsimp only at H
 have A4 := Aside0.mk A40
 clear A40
 by_cases c5 : t418 = true
 ·subst c5
  have H1 := H
  rw [if_pos rfl] at H1
  clear H
  have H := H1
  clear H1
  replace H := Option.bind_eq_some_iff.mp H
  obtain ⟨t419, A60, H⟩ := H
  try dsimp only at H
  have A6 := Aside0.mk A60
  clear A60
  replace H := Option.bind_eq_some_iff.mp H
  obtain ⟨t420, A70, H⟩ := H
  try dsimp only at H
  have A7 := Aside0.mk A70
  clear A70
  replace H := Option.bind_eq_some_iff.mp H
  obtain ⟨⟨t421, t422, t423, t424⟩, A80, H⟩ := H
  try dsimp only at H
  have A8 := Aside0.mk A80
  clear A80
  replace H := Option.bind_eq_some_iff.mp H
  obtain ⟨t425, A90, H⟩ := H
  try dsimp only at H
  have A9 := Aside0.mk A90
  clear A90
  by_cases c10 : t419 = true
  ·subst c10
   have H1 := H
   rw [if_pos rfl] at H1
   clear H
   have H := H1
   clear H1
   by_cases c11 : (t425 == true) = true
   ·rw [if_pos c11] at H
    have c11b0 : (t425 == true) = true := c11
    (try (have c11b1 : decide (t425 = true) = true := by simpa using c11))
    (try (have c11b2 : (t425 == true) = true := by simpa using c11))
    clear c11
    replace H := Option.bind_eq_some_iff.mp H
    obtain ⟨⟨t426, t427, t428, t429⟩, A120, H⟩ := H
    try dsimp only at H
    have A12 := Aside0.mk A120
    clear A120
    replace H := Option.bind_eq_some_iff.mp H
    obtain ⟨t430, A130, H⟩ := H
    try dsimp only at H
    have A13 := Aside0.mk A130
    clear A130
    by_cases c14 : (t430 == t420) = true
    ·rw [if_pos c14] at H
     have c14b0 : (t430 == t420) = true := c14
     (try (have c14b1 : decide (t430 = t420) = true := by simpa using c14))
     (try (have c14b2 : (t430 == t420) = true := by simpa using c14))
     clear c14
     replace H := Option.bind_eq_some_iff.mp H
     obtain ⟨⟨t431, t432, t433, t434⟩, A150, H⟩ := H
     try dsimp only at H
     have A15 := Aside0.mk A150
     clear A150
     replace H := Option.bind_eq_some_iff.mp H
     obtain ⟨t435, A160, H⟩ := H
     try dsimp only at H
     have A16 := Aside0.mk A160
     clear A160
     by_cases c17 : (t435 == (!t420)) = true
     ·rw [if_pos c17] at H
      have c17b0 : (t435 == (!t420)) = true := c17
      (try (have c17b1 : decide (t435 = (!t420)) = true := by simpa using c17))
      (try (have c17b2 : (t435 == (!t420)) = true := by simpa using c17))
      clear c17
      by_cases c18 : (wrap64 (Int.tdiv (Go.bits .and .i64 a2 255) 64)) = 0
      ·rw [if_pos c18] at H
       have hji18 := c18
       have c18b0 : ((wrap64 (Int.tdiv (Go.bits .and .i64 a2 255) 64)) == 0) = true := beq_iff_eq.mpr c18
       have c18b1 : ((wrap64 (Int.tdiv (Go.bits .and .i64 a2 255) 64)) != 0) = false := bne_eq_false_iff_eq.mpr c18
       clear c18
       obtain ⟨ji19, hji19⟩ : ∃ j_ : Int, (Int.tmod (Go.bits .and .i64 a2 255) 64) = j_ := ⟨_, rfl⟩
       replace H : (if 0 ≤ (ji19) then (if (true == ((Go.bits .and .u64 (shr .u64 a0_0 (ji19)) 1) == 1)) = true then ((byteset_Has.f a0_0 a0_1 a0_2 a0_3 (wrap64 ((Go.bits .and .i64 a2 255) + 256))).bind fun t436 => (if t436 = true then (none) else ((byteset_Has.f a0_0 a0_1 a0_2 a0_3 (wrap64 ((Go.bits .and .i64 a2 255) - 256))).bind fun t437 => (if t437 = true then (none) else ((templelaw0_Num.f 0).bind fun t438 => (some (t438 == 0))))))) else (none)) else (none)) = some r := by first | (rw [hji19] at H; exact H) | (simp only [hji19] at H ⊢; exact H)
       (try rw [hji19] at A4)
       (try rw [hji19] at A6)
       (try rw [hji19] at A7)
       (try rw [hji19] at A8)
       (try rw [hji19] at A9)
       (try rw [hji19] at A12)
       (try rw [hji19] at A13)
       (try rw [hji19] at A15)
       (try rw [hji19] at A16)
       by_cases c20 : 0 ≤ (ji19)
       ·rw [if_pos c20] at H
        have c20b0 := eq_true c20
        have c20b1 : decide (0 ≤ (ji19)) = true := decide_eq_true c20
        clear c20
        obtain ⟨ji21, hji21⟩ : ∃ j_ : Int, (shr .u64 a0_0 (ji19)) = j_ := ⟨_, rfl⟩
        replace H : (if (true == ((Go.bits .and .u64 (ji21) 1) == 1)) = true then ((byteset_Has.f a0_0 a0_1 a0_2 a0_3 (wrap64 ((Go.bits .and .i64 a2 255) + 256))).bind fun t436 => (if t436 = true then (none) else ((byteset_Has.f a0_0 a0_1 a0_2 a0_3 (wrap64 ((Go.bits .and .i64 a2 255) - 256))).bind fun t437 => (if t437 = true then (none) else ((templelaw0_Num.f 0).bind fun t438 => (some (t438 == 0))))))) else (none)) = some r := by first | (rw [hji21] at H; exact H) | (simp only [hji21] at H ⊢; exact H)
        (try rw [hji21] at A4)
        (try rw [hji21] at A6)
        (try rw [hji21] at A7)
        (try rw [hji21] at A8)
        (try rw [hji21] at A9)
        (try rw [hji21] at A12)
        (try rw [hji21] at A13)
        (try rw [hji21] at A15)
        (try rw [hji21] at A16)
        have hji21_ : (a0_0 / 2 ^ min (ji19).toNat 64) = ji21 := hji21
        have hji21z : (ji19) ≤ 64 → (a0_0 / 2 ^ (ji19).toNat) = ji21 := shr_small hji21
        by_cases c22 : (true == ((Go.bits .and .u64 (ji21) 1) == 1)) = true
        ·rw [if_pos c22] at H
         have c22b0 : (true == ((Go.bits .and .u64 (ji21) 1) == 1)) = true := c22
         (try (have c22b1 : decide (true = ((Go.bits .and .u64 (ji21) 1) == 1)) = true := by simpa using c22))
         (try (have c22b2 : (true == ((Go.bits .and .u64 (ji21) 1) == 1)) = true := by simpa using c22))
         clear c22
         replace H := Option.bind_eq_some_iff.mp H
         obtain ⟨t436, A230, H⟩ := H
         replace H : (if t436 = true then (none) else ((byteset_Has.f a0_0 a0_1 a0_2 a0_3 (wrap64 ((Go.bits .and .i64 a2 255) - 256))).bind fun t437 => (if t437 = true then (none) else ((templelaw0_Num.f 0).bind fun t438 => (some (t438 == 0)))))) = some r := H
         have A23 := Aside0.mk A230
         clear A230
         by_cases c24 : t436 = true
         ·subst c24
          have H1 : (none) = some r := by rw [if_pos rfl] at H; exact H
          clear H
          have H := H1
          clear H1
          exact absurd H (by simp)
         ·replace c24 := Bool.eq_false_iff.mpr c24
          subst c24
          have H1 : ((byteset_Has.f a0_0 a0_1 a0_2 a0_3 (wrap64 ((Go.bits .and .i64 a2 255) - 256))).bind fun t437 => (if t437 = true then (none) else ((templelaw0_Num.f 0).bind fun t438 => (some (t438 == 0))))) = some r := by rw [if_neg (show ¬ (false = true) by decide)] at H; exact H
          clear H
          have H := H1
          clear H1
          replace H := Option.bind_eq_some_iff.mp H
          obtain ⟨t437, A250, H⟩ := H
          replace H : (if t437 = true then (none) else ((templelaw0_Num.f 0).bind fun t438 => (some (t438 == 0)))) = some r := H
          have A25 := Aside0.mk A250
          clear A250
          by_cases c26 : t437 = true
          ·subst c26
           have H1 : (none) = some r := by rw [if_pos rfl] at H; exact H
           clear H
           have H := H1
           clear H1
           exact absurd H (by simp)
          ·replace c26 := Bool.eq_false_iff.mpr c26
           subst c26
           have H1 : ((templelaw0_Num.f 0).bind fun t438 => (some (t438 == 0))) = some r := by rw [if_neg (show ¬ (false = true) by decide)] at H; exact H
           clear H
           have H := H1
           clear H1
           replace H := Option.bind_eq_some_iff.mp H
           obtain ⟨t438, A270, H⟩ := H
           replace H : (some (t438 == 0)) = some r := H
           have A27 := Aside0.mk A270
           clear A270
           obtain rfl := Option.some.inj H
           go_enter Try.func7, Try.ntmps7
           try go_wp2_with (first | ((with_reducible refine gate_dst (N := 3) rfl ?_); refine box_event ?hg (N := 3) ?hd (cs := #[.int .u64 a0_0, .int .u64 a0_1, .int .u64 a0_2, .int .u64 a0_3]) (t := 24) ?hr ?_; (case hd => rfl); (case hg => rfl); (case hr => first | (go_simp; done) | (go_simp; rfl)); intro gb416 hg w28 hbox hb; have n0_ := Aside0.mk (below_step (by repeat (first | (with_reducible first | exact HB.out | apply below_alloc | apply pw_below_drewN | apply below_drew1) | exact HB.out)) hb); have n1_ := Aside0.mk (hbox); have n2_ := Aside0.mk ((by rw [hg]; exact (below_size (by repeat (first | (with_reducible first | exact HB.out | apply below_alloc | apply pw_below_drewN | apply below_drew1) | exact HB.out))) : w.heap.size ≤ gb416)); have n3_ := Aside0.mk ((by rw [hg]; exact (below_size (by repeat (first | (with_reducible first | exact HB.out | apply below_alloc | apply pw_below_drewN | apply below_drew1) | exact HB.out))) : w.heap.size ≤ gb416)); clear HB; have HB := n0_; have BK416 := n1_; have GW416 := n2_; have GE416 := n3_; clear n0_ n1_ n2_ n3_; clear hb hbox hg) | ((with_reducible refine gate_dst (N := 4) rfl ?_); refine box_event ?hg (N := 4) ?hd (cs := #[.int .u64 a1_0, .int .u64 a1_1, .int .u64 a1_2, .int .u64 a1_3]) (t := 24) ?hr ?_; (case hd => rfl); (case hg => rfl); (case hr => first | (go_simp; done) | (go_simp; rfl)); intro gb417 hg w29 hbox hb; have n0_ := Aside0.mk (blk_below (g := gb416) (o := .cells #[.int .u64 a0_0, .int .u64 a0_1, .int .u64 a0_2, .int .u64 a0_3] 24 (0, 0)) (by (with_reducible repeat (first | refine blk_drewN ?_ _ | refine blk_drew ?_ | refine blk_alloc ?_ _)); exact BK416.out) hb); have n1_ := Aside0.mk (below_step (by repeat (first | (with_reducible first | exact HB.out | apply below_alloc | apply pw_below_drewN | apply below_drew1 | refine below_set ?_ GE416.out) | exact HB.out)) hb); have n2_ := Aside0.mk (hbox); have n3_ := Aside0.mk ((by rw [hg]; exact (below_size (by repeat (first | (with_reducible first | exact HB.out | apply below_alloc | apply pw_below_drewN | apply below_drew1 | refine below_set ?_ GE416.out) | exact HB.out))) : w.heap.size ≤ gb417)); have n4_ := Aside0.mk ((by rw [hg]; exact (below_size (by repeat (first | (with_reducible first | exact HB.out | apply below_alloc | apply pw_below_drewN | apply below_drew1 | refine below_set ?_ GE416.out) | exact HB.out))) : w.heap.size ≤ gb417)); have n5_ := Aside0.mk ((by rw [hg]; exact Nat.ne_of_lt (blk_lt (g := gb416) (o := .cells #[.int .u64 a0_0, .int .u64 a0_1, .int .u64 a0_2, .int .u64 a0_3] 24 (0, 0)) (by (with_reducible repeat (first | refine blk_drewN ?_ _ | refine blk_drew ?_ | refine blk_alloc ?_ _)); exact BK416.out)) : gb416 ≠ gb417)); have n6_ := Aside0.mk ((by rw [hg]; exact Nat.ne_of_gt (blk_lt (g := gb416) (o := .cells #[.int .u64 a0_0, .int .u64 a0_1, .int .u64 a0_2, .int .u64 a0_3] 24 (0, 0)) (by (with_reducible repeat (first | refine blk_drewN ?_ _ | refine blk_drew ?_ | refine blk_alloc ?_ _)); exact BK416.out)) : gb417 ≠ gb416)); clear BK416; clear HB; have BK416 := n0_; have HB := n1_; have BK417 := n2_; have GW417 := n3_; have GE417 := n4_; have NB416_417 := n5_; have NB417_416 := n6_; clear n0_ n1_ n2_ n3_ n4_ n5_ n6_; clear hb hbox hg) | (go_at_call 24; (with_reducible refine (templelaw1_awake.calls k  true _ A4.out).mono ?_); rintro e w30 ⟨rfl, hb⟩; have n0_ := Aside0.mk (blk_below (g := gb416) (o := .cells #[.int .u64 a0_0, .int .u64 a0_1, .int .u64 a0_2, .int .u64 a0_3] 24 (0, 0)) (by (with_reducible repeat (first | refine blk_drewN ?_ _ | refine blk_drew ?_ | refine blk_alloc ?_ _)); exact BK416.out) hb); have n1_ := Aside0.mk (blk_below (g := gb417) (o := .cells #[.int .u64 a1_0, .int .u64 a1_1, .int .u64 a1_2, .int .u64 a1_3] 24 (0, 0)) (by (with_reducible repeat (first | refine blk_drewN ?_ _ | refine blk_drew ?_ | refine blk_alloc ?_ _)); exact BK417.out) hb); have n2_ := Aside0.mk (below_step (by repeat (first | (with_reducible first | exact HB.out | apply below_alloc | apply pw_below_drewN | apply below_drew1 | refine below_set ?_ GE416.out | refine below_set ?_ GE417.out) | exact HB.out)) hb); clear BK416; clear BK417; clear HB; have BK416 := n0_; have BK417 := n1_; have HB := n2_; clear n0_ n1_ n2_; (try clear hb)))
           have n0_ := Aside0.mk (blk_drew BK416.out)
           have n1_ := Aside0.mk (blk_drew BK417.out)
           have n2_ := Aside0.mk (below_drew1 HB.out)
           clear BK416
           clear BK417
           clear HB
           have BK416 := n0_
           have BK417 := n1_
           have HB := n2_
           clear n0_ n1_ n2_
           refine start_ (n := 8) (S := fun w' => w'.cell? ⟨gb416, 0, none⟩ = some (.int .u64 a0_0) ∧ w'.cell? ⟨gb416, 1, none⟩ = some (.int .u64 a0_1) ∧ w'.cell? ⟨gb416, 2, none⟩ = some (.int .u64 a0_2) ∧ w'.cell? ⟨gb416, 3, none⟩ = some (.int .u64 a0_3) ∧ w'.cell? ⟨gb417, 0, none⟩ = some (.int .u64 a1_0) ∧ w'.cell? ⟨gb417, 1, none⟩ = some (.int .u64 a1_1) ∧ w'.cell? ⟨gb417, 2, none⟩ = some (.int .u64 a1_2) ∧ w'.cell? ⟨gb417, 3, none⟩ = some (.int .u64 a1_3)) (ds := []) #[false, false, false, false, false, false, false, false] (by kernel_rfl) rfl rfl ⟨(blk_cell BK416.out 0).trans rfl, (blk_cell BK416.out 1).trans rfl, (blk_cell BK416.out 2).trans rfl, (blk_cell BK416.out 3).trans rfl, (blk_cell BK417.out 0).trans rfl, (blk_cell BK417.out 1).trans rfl, (blk_cell BK417.out 2).trans rfl, (blk_cell BK417.out 3).trans rfl⟩ (fun hHeld => ?_); refine with_tabW templelaw1_SetBits.tab4 templelaw1_SetBits.bits4 (fun HT_ HW_ => ?_)
           generalize w30.drew = w31 at BK416 BK417 HB hHeld ⊢
           refine pure_ (i := 1) (N := some 15) (v := ?_) (a' := ?_) #[false, true, false, false, false, false, false, false] rfl rfl (any_of HT_.out (by kernel_rfl)) (fun _ _ _ h => h) (Or.inl ⟨by rfl, ?_⟩) ?_ ?_
           rotate_left
           ·intro w'
            go_simp
            with_reducible rfl
           rotate_left
           ·simp only [Act.put, List.setIfInBounds_toArray, List.set_cons_zero, List.set_cons_succ, i64_w, i32_w]
            rfl
           refine pure_ (i := 4) (N := some 18) (v := ?_) (a' := ?_) #[false, true, false, false, true, false, false, false] rfl rfl (any_of HT_.out (by kernel_rfl)) (fun _ _ _ h => h) (Or.inl ⟨by rfl, ?_⟩) ?_ ?_
           rotate_left
           ·intro w'
            go_simp
            with_reducible rfl
           rotate_left
           ·simp only [Act.put, List.setIfInBounds_toArray, List.set_cons_zero, List.set_cons_succ, i64_w, i32_w]
            rfl
           refine take_ (i := 0) (N := some 14) (v := ?_) (a' := ?_) #[true, true, false, false, true, false, false, false] rfl rfl (take_ofW HT_.out HW_.out (by kernel_rfl)) (fun _ _ _ h => h) (Or.inl ⟨by rfl, ?_⟩) hHeld ?_ ?_
           rotate_left
           ·rintro w' ⟨s0, s1, s2, s3, s4, s5, s6, s7⟩
            go_simp
            with_reducible rfl
           rotate_left
           ·simp only [Act.put, List.setIfInBounds_toArray, List.set_cons_zero, List.set_cons_succ, i64_w, i32_w]
            rfl
           refine take_ (i := 3) (N := some 17) (v := ?_) (a' := ?_) #[true, true, false, true, true, false, false, false] rfl rfl (take_ofW HT_.out HW_.out (by kernel_rfl)) (fun _ _ _ h => h) (Or.inl ⟨by rfl, ?_⟩) hHeld ?_ ?_
           rotate_left
           ·rintro w' ⟨s0, s1, s2, s3, s4, s5, s6, s7⟩
            go_simp
            with_reducible rfl
           rotate_left
           ·simp only [Act.put, List.setIfInBounds_toArray, List.set_cons_zero, List.set_cons_succ, i64_w, i32_w]
            rfl
           refine one_ (i := 2) (N := some 16) #[true, true, true, true, true, false, false, false] rfl rfl (one_of HT_.out (by kernel_rfl)) (by decide) (fun K hK => ?_)
           refine goes_ Try.func13 (by kernel_rfl) rfl #[.agg #[.int .u64 a0_0, .int .u64 a0_1, .int .u64 a0_2, .int .u64 a0_3], .int .i64 (Go.bits .and .i64 a2 255)] (by rfl) rfl rfl (by (try simp only [List.map_toArray, List.map_cons, List.map_nil]); first | done | rfl | (simp only [List.length_drop, List.length_take]; rfl)) ?_
           with_reducible refine (byteset_Has.calls a0_0 a0_1 a0_2 a0_3 (Go.bits .and .i64 a2 255) true _ A6.out).mono ?_
           rintro e w32 ⟨rfl, hb⟩
           refine ⟨_, rfl, ?_⟩
           have n0_ := Aside0.mk (blk_below (g := gb416) (o := .cells #[.int .u64 a0_0, .int .u64 a0_1, .int .u64 a0_2, .int .u64 a0_3] 24 (0, 0)) (by (with_reducible repeat (first | refine blk_drewN ?_ _ | refine blk_drew ?_ | refine blk_alloc ?_ _)); exact BK416.out) hb)
           have n1_ := Aside0.mk (blk_below (g := gb417) (o := .cells #[.int .u64 a1_0, .int .u64 a1_1, .int .u64 a1_2, .int .u64 a1_3] 24 (0, 0)) (by (with_reducible repeat (first | refine blk_drewN ?_ _ | refine blk_drew ?_ | refine blk_alloc ?_ _)); exact BK417.out) hb)
           have n2_ := Aside0.mk (below_step (by repeat (first | (with_reducible first | exact HB.out | apply below_alloc | apply pw_below_drewN | apply below_drew1 | refine below_set ?_ GE416.out | refine below_set ?_ GE417.out) | exact HB.out)) hb)
           clear BK416
           clear BK417
           clear HB
           have BK416 := n0_
           have BK417 := n1_
           have HB := n2_
           clear n0_ n1_ n2_
           (try clear hb)
           (try clear hb2)
           (try clear hk)
           (try clear hi)
           refine hK.out _ _ ⟨(blk_cell BK416.out 0).trans rfl, (blk_cell BK416.out 1).trans rfl, (blk_cell BK416.out 2).trans rfl, (blk_cell BK416.out 3).trans rfl, (blk_cell BK417.out 0).trans rfl, (blk_cell BK417.out 1).trans rfl, (blk_cell BK417.out 2).trans rfl, (blk_cell BK417.out 3).trans rfl⟩ (fun hHeld => ?_)
           clear hK K
           refine norm_ (a' := ?_) ?_ ?_
           rotate_left
           ·show Act.put _ (some 16) _ = _
            simp only [Act.put, List.setIfInBounds_toArray, List.set_cons_zero, List.set_cons_succ, i64_w, i32_w]
            rfl
           refine one_ (i := 5) (N := some 19) #[true, true, true, true, true, true, false, false] rfl rfl (one_of HT_.out (by kernel_rfl)) (by decide) (fun K hK => ?_)
           refine goes_ Try.func13 (by kernel_rfl) rfl #[.agg #[.int .u64 a1_0, .int .u64 a1_1, .int .u64 a1_2, .int .u64 a1_3], .int .i64 (Go.bits .and .i64 a2 255)] (by rfl) rfl rfl (by (try simp only [List.map_toArray, List.map_cons, List.map_nil]); first | done | rfl | (simp only [List.length_drop, List.length_take]; rfl)) ?_
           with_reducible refine (byteset_Has.calls a1_0 a1_1 a1_2 a1_3 (Go.bits .and .i64 a2 255) t420 _ A7.out).mono ?_
           rintro e w33 ⟨rfl, hb⟩
           refine ⟨_, rfl, ?_⟩
           have n0_ := Aside0.mk (blk_below (g := gb416) (o := .cells #[.int .u64 a0_0, .int .u64 a0_1, .int .u64 a0_2, .int .u64 a0_3] 24 (0, 0)) (by (with_reducible repeat (first | refine blk_drewN ?_ _ | refine blk_drew ?_ | refine blk_alloc ?_ _)); exact BK416.out) hb)
           have n1_ := Aside0.mk (blk_below (g := gb417) (o := .cells #[.int .u64 a1_0, .int .u64 a1_1, .int .u64 a1_2, .int .u64 a1_3] 24 (0, 0)) (by (with_reducible repeat (first | refine blk_drewN ?_ _ | refine blk_drew ?_ | refine blk_alloc ?_ _)); exact BK417.out) hb)
           have n2_ := Aside0.mk (below_step (by repeat (first | (with_reducible first | exact HB.out | apply below_alloc | apply pw_below_drewN | apply below_drew1 | refine below_set ?_ GE416.out | refine below_set ?_ GE417.out) | exact HB.out)) hb)
           clear BK416
           clear BK417
           clear HB
           have BK416 := n0_
           have BK417 := n1_
           have HB := n2_
           clear n0_ n1_ n2_
           (try clear hb)
           (try clear hb2)
           (try clear hk)
           (try clear hi)
           refine hK.out _ _ ⟨(blk_cell BK416.out 0).trans rfl, (blk_cell BK416.out 1).trans rfl, (blk_cell BK416.out 2).trans rfl, (blk_cell BK416.out 3).trans rfl, (blk_cell BK417.out 0).trans rfl, (blk_cell BK417.out 1).trans rfl, (blk_cell BK417.out 2).trans rfl, (blk_cell BK417.out 3).trans rfl⟩ (fun hHeld => ?_)
           clear hK K
           refine norm_ (a' := ?_) ?_ ?_
           rotate_left
           ·show Act.put _ (some 19) _ = _
            simp only [Act.put, List.setIfInBounds_toArray, List.set_cons_zero, List.set_cons_succ, i64_w, i32_w]
            rfl
           refine pure_ (i := 6) (N := some 8) (v := ?_) (a' := ?_) #[true, true, true, true, true, true, true, false] rfl rfl (any_of HT_.out (by kernel_rfl)) (fun _ _ _ h => h) (Or.inl ⟨by rfl, ?_⟩) ?_ ?_
           rotate_left
           ·intro w'
            go_simp
            with_reducible rfl
           rotate_left
           ·simp only [Act.put, List.setIfInBounds_toArray, List.set_cons_zero, List.set_cons_succ, i64_w, i32_w]
            rfl
           refine pure_ (i := 7) (N := some 9) (v := ?_) (a' := ?_) #[true, true, true, true, true, true, true, true] rfl rfl (any_of HT_.out (by kernel_rfl)) (fun _ _ _ h => h) (Or.inl ⟨by rfl, ?_⟩) ?_ ?_
           rotate_left
           ·intro w'
            go_simp
            with_reducible rfl
           rotate_left
           ·simp only [Act.put, List.setIfInBounds_toArray, List.set_cons_zero, List.set_cons_succ, i64_w, i32_w]
            rfl
           refine done_ (done_of HT_.out (by kernel_rfl)) ?_
           have hnb34 := NB416_417.out
           have hnc34 := NB417_416.out
           have hcz35_0 : w33.cell? ⟨gb416, 0, none⟩ = some (.int .u64 a0_0) := (blk_cell BK416.out 0).trans rfl
           have hcz35_1 : w33.cell? ⟨gb416, 1, none⟩ = some (.int .u64 a0_1) := (blk_cell BK416.out 1).trans rfl
           have hcz35_2 : w33.cell? ⟨gb416, 2, none⟩ = some (.int .u64 a0_2) := (blk_cell BK416.out 2).trans rfl
           have hcz35_3 : w33.cell? ⟨gb416, 3, none⟩ = some (.int .u64 a0_3) := (blk_cell BK416.out 3).trans rfl
           have hfz35_0 := blk_frozen BK416.out 0
           have hfz35_1 := blk_frozen BK416.out 1
           have hfz35_2 := blk_frozen BK416.out 2
           have hfz35_3 := blk_frozen BK416.out 3
           have hcz36_0 : w33.cell? ⟨gb417, 0, none⟩ = some (.int .u64 a1_0) := (blk_cell BK417.out 0).trans rfl
           have hcz36_1 : w33.cell? ⟨gb417, 1, none⟩ = some (.int .u64 a1_1) := (blk_cell BK417.out 1).trans rfl
           have hcz36_2 : w33.cell? ⟨gb417, 2, none⟩ = some (.int .u64 a1_2) := (blk_cell BK417.out 2).trans rfl
           have hcz36_3 : w33.cell? ⟨gb417, 3, none⟩ = some (.int .u64 a1_3) := (blk_cell BK417.out 3).trans rfl
           have hfz36_0 := blk_frozen BK417.out 0
           have hfz36_1 := blk_frozen BK417.out 1
           have hfz36_2 := blk_frozen BK417.out 2
           have hfz36_3 := blk_frozen BK417.out 3
           try go_wp2_with (first | (go_at_call 15; (with_reducible refine (byteset_Or.calls a0_0 a0_1 a0_2 a0_3 a1_0 a1_1 a1_2 a1_3 t421 t422 t423 t424 _ A8.out).mono ?_); rintro e w37 ⟨rfl, hb⟩; have n0_ := Aside0.mk (blk_below (g := gb416) (o := .cells #[.int .u64 a0_0, .int .u64 a0_1, .int .u64 a0_2, .int .u64 a0_3] 24 (0, 0)) (by (with_reducible repeat (first | refine blk_drewN ?_ _ | refine blk_drew ?_ | refine blk_alloc ?_ _)); exact BK416.out) hb); have n1_ := Aside0.mk (blk_below (g := gb417) (o := .cells #[.int .u64 a1_0, .int .u64 a1_1, .int .u64 a1_2, .int .u64 a1_3] 24 (0, 0)) (by (with_reducible repeat (first | refine blk_drewN ?_ _ | refine blk_drew ?_ | refine blk_alloc ?_ _)); exact BK417.out) hb); have n2_ := Aside0.mk (below_step (by repeat (first | (with_reducible first | exact HB.out | apply below_alloc | apply pw_below_drewN | apply below_drew1 | refine below_set ?_ GE416.out | refine below_set ?_ GE417.out) | exact HB.out)) hb); clear BK416; clear BK417; clear HB; have BK416 := n0_; have BK417 := n1_; have HB := n2_; clear n0_ n1_ n2_; (try clear hb)) | (go_at_call 13; (with_reducible refine (byteset_Has.calls t421 t422 t423 t424 (Go.bits .and .i64 a2 255) t425 _ A9.out).mono ?_); rintro e w38 ⟨rfl, hb⟩; have n0_ := Aside0.mk (blk_below (g := gb416) (o := .cells #[.int .u64 a0_0, .int .u64 a0_1, .int .u64 a0_2, .int .u64 a0_3] 24 (0, 0)) (by (with_reducible repeat (first | refine blk_drewN ?_ _ | refine blk_drew ?_ | refine blk_alloc ?_ _)); exact BK416.out) hb); have n1_ := Aside0.mk (blk_below (g := gb417) (o := .cells #[.int .u64 a1_0, .int .u64 a1_1, .int .u64 a1_2, .int .u64 a1_3] 24 (0, 0)) (by (with_reducible repeat (first | refine blk_drewN ?_ _ | refine blk_drew ?_ | refine blk_alloc ?_ _)); exact BK417.out) hb); have n2_ := Aside0.mk (below_step (by repeat (first | (with_reducible first | exact HB.out | apply below_alloc | apply pw_below_drewN | apply below_drew1 | refine below_set ?_ GE416.out | refine below_set ?_ GE417.out) | exact HB.out)) hb); clear BK416; clear BK417; clear HB; have BK416 := n0_; have BK417 := n1_; have HB := n2_; clear n0_ n1_ n2_; (try clear hb); have hcz39_0 : w38.cell? ⟨gb416, 0, none⟩ = some (.int .u64 a0_0) := (blk_cell BK416.out 0).trans rfl; have hcz39_1 : w38.cell? ⟨gb416, 1, none⟩ = some (.int .u64 a0_1) := (blk_cell BK416.out 1).trans rfl; have hcz39_2 : w38.cell? ⟨gb416, 2, none⟩ = some (.int .u64 a0_2) := (blk_cell BK416.out 2).trans rfl; have hcz39_3 : w38.cell? ⟨gb416, 3, none⟩ = some (.int .u64 a0_3) := (blk_cell BK416.out 3).trans rfl; have hfz39_0 := blk_frozen BK416.out 0; have hfz39_1 := blk_frozen BK416.out 1; have hfz39_2 := blk_frozen BK416.out 2; have hfz39_3 := blk_frozen BK416.out 3; have hcz40_0 : w38.cell? ⟨gb417, 0, none⟩ = some (.int .u64 a1_0) := (blk_cell BK417.out 0).trans rfl; have hcz40_1 : w38.cell? ⟨gb417, 1, none⟩ = some (.int .u64 a1_1) := (blk_cell BK417.out 1).trans rfl; have hcz40_2 : w38.cell? ⟨gb417, 2, none⟩ = some (.int .u64 a1_2) := (blk_cell BK417.out 2).trans rfl; have hcz40_3 : w38.cell? ⟨gb417, 3, none⟩ = some (.int .u64 a1_3) := (blk_cell BK417.out 3).trans rfl; have hfz40_0 := blk_frozen BK417.out 0; have hfz40_1 := blk_frozen BK417.out 1; have hfz40_2 := blk_frozen BK417.out 2; have hfz40_3 := blk_frozen BK417.out 3) | (go_at_call 17; (with_reducible refine (byteset_And.calls a0_0 a0_1 a0_2 a0_3 a1_0 a1_1 a1_2 a1_3 t426 t427 t428 t429 _ A12.out).mono ?_); rintro e w41 ⟨rfl, hb⟩; have n0_ := Aside0.mk (blk_below (g := gb416) (o := .cells #[.int .u64 a0_0, .int .u64 a0_1, .int .u64 a0_2, .int .u64 a0_3] 24 (0, 0)) (by (with_reducible repeat (first | refine blk_drewN ?_ _ | refine blk_drew ?_ | refine blk_alloc ?_ _)); exact BK416.out) hb); have n1_ := Aside0.mk (blk_below (g := gb417) (o := .cells #[.int .u64 a1_0, .int .u64 a1_1, .int .u64 a1_2, .int .u64 a1_3] 24 (0, 0)) (by (with_reducible repeat (first | refine blk_drewN ?_ _ | refine blk_drew ?_ | refine blk_alloc ?_ _)); exact BK417.out) hb); have n2_ := Aside0.mk (below_step (by repeat (first | (with_reducible first | exact HB.out | apply below_alloc | apply pw_below_drewN | apply below_drew1 | refine below_set ?_ GE416.out | refine below_set ?_ GE417.out) | exact HB.out)) hb); clear BK416; clear BK417; clear HB; have BK416 := n0_; have BK417 := n1_; have HB := n2_; clear n0_ n1_ n2_; (try clear hb)) | (go_at_call 13; (with_reducible refine (byteset_Has.calls t426 t427 t428 t429 (Go.bits .and .i64 a2 255) t430 _ A13.out).mono ?_); rintro e w42 ⟨rfl, hb⟩; have n0_ := Aside0.mk (blk_below (g := gb416) (o := .cells #[.int .u64 a0_0, .int .u64 a0_1, .int .u64 a0_2, .int .u64 a0_3] 24 (0, 0)) (by (with_reducible repeat (first | refine blk_drewN ?_ _ | refine blk_drew ?_ | refine blk_alloc ?_ _)); exact BK416.out) hb); have n1_ := Aside0.mk (blk_below (g := gb417) (o := .cells #[.int .u64 a1_0, .int .u64 a1_1, .int .u64 a1_2, .int .u64 a1_3] 24 (0, 0)) (by (with_reducible repeat (first | refine blk_drewN ?_ _ | refine blk_drew ?_ | refine blk_alloc ?_ _)); exact BK417.out) hb); have n2_ := Aside0.mk (below_step (by repeat (first | (with_reducible first | exact HB.out | apply below_alloc | apply pw_below_drewN | apply below_drew1 | refine below_set ?_ GE416.out | refine below_set ?_ GE417.out) | exact HB.out)) hb); clear BK416; clear BK417; clear HB; have BK416 := n0_; have BK417 := n1_; have HB := n2_; clear n0_ n1_ n2_; (try clear hb); have hcz43_0 : w42.cell? ⟨gb416, 0, none⟩ = some (.int .u64 a0_0) := (blk_cell BK416.out 0).trans rfl; have hcz43_1 : w42.cell? ⟨gb416, 1, none⟩ = some (.int .u64 a0_1) := (blk_cell BK416.out 1).trans rfl; have hcz43_2 : w42.cell? ⟨gb416, 2, none⟩ = some (.int .u64 a0_2) := (blk_cell BK416.out 2).trans rfl; have hcz43_3 : w42.cell? ⟨gb416, 3, none⟩ = some (.int .u64 a0_3) := (blk_cell BK416.out 3).trans rfl; have hfz43_0 := blk_frozen BK416.out 0; have hfz43_1 := blk_frozen BK416.out 1; have hfz43_2 := blk_frozen BK416.out 2; have hfz43_3 := blk_frozen BK416.out 3; have hcz44_0 : w42.cell? ⟨gb417, 0, none⟩ = some (.int .u64 a1_0) := (blk_cell BK417.out 0).trans rfl; have hcz44_1 : w42.cell? ⟨gb417, 1, none⟩ = some (.int .u64 a1_1) := (blk_cell BK417.out 1).trans rfl; have hcz44_2 : w42.cell? ⟨gb417, 2, none⟩ = some (.int .u64 a1_2) := (blk_cell BK417.out 2).trans rfl; have hcz44_3 : w42.cell? ⟨gb417, 3, none⟩ = some (.int .u64 a1_3) := (blk_cell BK417.out 3).trans rfl; have hfz44_0 := blk_frozen BK417.out 0; have hfz44_1 := blk_frozen BK417.out 1; have hfz44_2 := blk_frozen BK417.out 2; have hfz44_3 := blk_frozen BK417.out 3) | (go_at_call 18; (with_reducible refine (byteset_Minus.calls a0_0 a0_1 a0_2 a0_3 a1_0 a1_1 a1_2 a1_3 t431 t432 t433 t434 _ A15.out).mono ?_); rintro e w45 ⟨rfl, hb⟩; have n0_ := Aside0.mk (blk_below (g := gb416) (o := .cells #[.int .u64 a0_0, .int .u64 a0_1, .int .u64 a0_2, .int .u64 a0_3] 24 (0, 0)) (by (with_reducible repeat (first | refine blk_drewN ?_ _ | refine blk_drew ?_ | refine blk_alloc ?_ _)); exact BK416.out) hb); have n1_ := Aside0.mk (blk_below (g := gb417) (o := .cells #[.int .u64 a1_0, .int .u64 a1_1, .int .u64 a1_2, .int .u64 a1_3] 24 (0, 0)) (by (with_reducible repeat (first | refine blk_drewN ?_ _ | refine blk_drew ?_ | refine blk_alloc ?_ _)); exact BK417.out) hb); have n2_ := Aside0.mk (below_step (by repeat (first | (with_reducible first | exact HB.out | apply below_alloc | apply pw_below_drewN | apply below_drew1 | refine below_set ?_ GE416.out | refine below_set ?_ GE417.out) | exact HB.out)) hb); clear BK416; clear BK417; clear HB; have BK416 := n0_; have BK417 := n1_; have HB := n2_; clear n0_ n1_ n2_; (try clear hb)) | (go_at_call 13; (with_reducible refine (byteset_Has.calls t431 t432 t433 t434 (Go.bits .and .i64 a2 255) t435 _ A16.out).mono ?_); rintro e w46 ⟨rfl, hb⟩; have n0_ := Aside0.mk (blk_below (g := gb416) (o := .cells #[.int .u64 a0_0, .int .u64 a0_1, .int .u64 a0_2, .int .u64 a0_3] 24 (0, 0)) (by (with_reducible repeat (first | refine blk_drewN ?_ _ | refine blk_drew ?_ | refine blk_alloc ?_ _)); exact BK416.out) hb); have n1_ := Aside0.mk (blk_below (g := gb417) (o := .cells #[.int .u64 a1_0, .int .u64 a1_1, .int .u64 a1_2, .int .u64 a1_3] 24 (0, 0)) (by (with_reducible repeat (first | refine blk_drewN ?_ _ | refine blk_drew ?_ | refine blk_alloc ?_ _)); exact BK417.out) hb); have n2_ := Aside0.mk (below_step (by repeat (first | (with_reducible first | exact HB.out | apply below_alloc | apply pw_below_drewN | apply below_drew1 | refine below_set ?_ GE416.out | refine below_set ?_ GE417.out) | exact HB.out)) hb); clear BK416; clear BK417; clear HB; have BK416 := n0_; have BK417 := n1_; have HB := n2_; clear n0_ n1_ n2_; (try clear hb); have hcz47_0 : w46.cell? ⟨gb416, 0, none⟩ = some (.int .u64 a0_0) := (blk_cell BK416.out 0).trans rfl; have hcz47_1 : w46.cell? ⟨gb416, 1, none⟩ = some (.int .u64 a0_1) := (blk_cell BK416.out 1).trans rfl; have hcz47_2 : w46.cell? ⟨gb416, 2, none⟩ = some (.int .u64 a0_2) := (blk_cell BK416.out 2).trans rfl; have hcz47_3 : w46.cell? ⟨gb416, 3, none⟩ = some (.int .u64 a0_3) := (blk_cell BK416.out 3).trans rfl; have hfz47_0 := blk_frozen BK416.out 0; have hfz47_1 := blk_frozen BK416.out 1; have hfz47_2 := blk_frozen BK416.out 2; have hfz47_3 := blk_frozen BK416.out 3) | (go_at_call 13; (with_reducible refine (byteset_Has.calls a0_0 a0_1 a0_2 a0_3 (wrap64 ((Go.bits .and .i64 a2 255) + 256)) false _ A23.out).mono ?_); rintro e w48 ⟨rfl, hb⟩; have n0_ := Aside0.mk (blk_below (g := gb416) (o := .cells #[.int .u64 a0_0, .int .u64 a0_1, .int .u64 a0_2, .int .u64 a0_3] 24 (0, 0)) (by (with_reducible repeat (first | refine blk_drewN ?_ _ | refine blk_drew ?_ | refine blk_alloc ?_ _)); exact BK416.out) hb); have n1_ := Aside0.mk (blk_below (g := gb417) (o := .cells #[.int .u64 a1_0, .int .u64 a1_1, .int .u64 a1_2, .int .u64 a1_3] 24 (0, 0)) (by (with_reducible repeat (first | refine blk_drewN ?_ _ | refine blk_drew ?_ | refine blk_alloc ?_ _)); exact BK417.out) hb); have n2_ := Aside0.mk (below_step (by repeat (first | (with_reducible first | exact HB.out | apply below_alloc | apply pw_below_drewN | apply below_drew1 | refine below_set ?_ GE416.out | refine below_set ?_ GE417.out) | exact HB.out)) hb); clear BK416; clear BK417; clear HB; have BK416 := n0_; have BK417 := n1_; have HB := n2_; clear n0_ n1_ n2_; (try clear hb); have hcz49_0 : w48.cell? ⟨gb416, 0, none⟩ = some (.int .u64 a0_0) := (blk_cell BK416.out 0).trans rfl; have hcz49_1 : w48.cell? ⟨gb416, 1, none⟩ = some (.int .u64 a0_1) := (blk_cell BK416.out 1).trans rfl; have hcz49_2 : w48.cell? ⟨gb416, 2, none⟩ = some (.int .u64 a0_2) := (blk_cell BK416.out 2).trans rfl; have hcz49_3 : w48.cell? ⟨gb416, 3, none⟩ = some (.int .u64 a0_3) := (blk_cell BK416.out 3).trans rfl; have hfz49_0 := blk_frozen BK416.out 0; have hfz49_1 := blk_frozen BK416.out 1; have hfz49_2 := blk_frozen BK416.out 2; have hfz49_3 := blk_frozen BK416.out 3) | (go_at_call 13; (with_reducible refine (byteset_Has.calls a0_0 a0_1 a0_2 a0_3 (wrap64 ((Go.bits .and .i64 a2 255) - 256)) false _ A25.out).mono ?_); rintro e w50 ⟨rfl, hb⟩; have n0_ := Aside0.mk (blk_below (g := gb416) (o := .cells #[.int .u64 a0_0, .int .u64 a0_1, .int .u64 a0_2, .int .u64 a0_3] 24 (0, 0)) (by (with_reducible repeat (first | refine blk_drewN ?_ _ | refine blk_drew ?_ | refine blk_alloc ?_ _)); exact BK416.out) hb); have n1_ := Aside0.mk (blk_below (g := gb417) (o := .cells #[.int .u64 a1_0, .int .u64 a1_1, .int .u64 a1_2, .int .u64 a1_3] 24 (0, 0)) (by (with_reducible repeat (first | refine blk_drewN ?_ _ | refine blk_drew ?_ | refine blk_alloc ?_ _)); exact BK417.out) hb); have n2_ := Aside0.mk (below_step (by repeat (first | (with_reducible first | exact HB.out | apply below_alloc | apply pw_below_drewN | apply below_drew1 | refine below_set ?_ GE416.out | refine below_set ?_ GE417.out) | exact HB.out)) hb); clear BK416; clear BK417; clear HB; have BK416 := n0_; have BK417 := n1_; have HB := n2_; clear n0_ n1_ n2_; (try clear hb)) | (go_at_call 12; (with_reducible refine (templelaw0_Num.calls 0 t438 _ A27.out).mono ?_); rintro e w' ⟨rfl, ⟨nd, rfl⟩⟩))
           go_ret
           exact ⟨by first | rfl | (simp [errW_none, errW_some] <;> rfl) | (simp only [← hji19, ← hji21]; first | rfl | (simp [errW_none, errW_some] <;> rfl)) | (simp [*, errW_none, errW_some] <;> rfl), by repeat (first | (with_reducible first | exact HB.out | apply below_alloc | apply pw_below_drewN | apply below_drew1 | refine below_set ?_ GE416.out | refine below_set ?_ GE417.out) | exact HB.out)⟩
        ·rw [if_neg c22] at H
         exact absurd H (by simp)
       ·rw [if_neg c20] at H
        exact absurd H (by simp)
      ·rw [if_neg c18] at H
       have c18b0 : ((wrap64 (Int.tdiv (Go.bits .and .i64 a2 255) 64)) == 0) = false := beq_eq_false_iff_ne.mpr c18
       have c18b1 : ((wrap64 (Int.tdiv (Go.bits .and .i64 a2 255) 64)) != 0) = true := bne_iff_ne.mpr c18
       by_cases c51 : (wrap64 (Int.tdiv (Go.bits .and .i64 a2 255) 64)) = 1
       ·rw [if_pos c51] at H
        have hji51 := c51
        have c51b0 : ((wrap64 (Int.tdiv (Go.bits .and .i64 a2 255) 64)) == 1) = true := beq_iff_eq.mpr c51
        have c51b1 : ((wrap64 (Int.tdiv (Go.bits .and .i64 a2 255) 64)) != 1) = false := bne_eq_false_iff_eq.mpr c51
        clear c51
        obtain ⟨ji52, hji52⟩ : ∃ j_ : Int, (Int.tmod (Go.bits .and .i64 a2 255) 64) = j_ := ⟨_, rfl⟩
        replace H : (if 0 ≤ (ji52) then (if (true == ((Go.bits .and .u64 (shr .u64 a0_1 (ji52)) 1) == 1)) = true then ((byteset_Has.f a0_0 a0_1 a0_2 a0_3 (wrap64 ((Go.bits .and .i64 a2 255) + 256))).bind fun t439 => (if t439 = true then (none) else ((byteset_Has.f a0_0 a0_1 a0_2 a0_3 (wrap64 ((Go.bits .and .i64 a2 255) - 256))).bind fun t440 => (if t440 = true then (none) else ((templelaw0_Num.f 0).bind fun t441 => (some (t441 == 0))))))) else (none)) else (none)) = some r := by first | (rw [hji52] at H; exact H) | (simp only [hji52] at H ⊢; exact H)
        (try rw [hji52] at A4)
        (try rw [hji52] at A6)
        (try rw [hji52] at A7)
        (try rw [hji52] at A8)
        (try rw [hji52] at A9)
        (try rw [hji52] at A12)
        (try rw [hji52] at A13)
        (try rw [hji52] at A15)
        (try rw [hji52] at A16)
        by_cases c53 : 0 ≤ (ji52)
        ·rw [if_pos c53] at H
         have c53b0 := eq_true c53
         have c53b1 : decide (0 ≤ (ji52)) = true := decide_eq_true c53
         clear c53
         obtain ⟨ji54, hji54⟩ : ∃ j_ : Int, (shr .u64 a0_1 (ji52)) = j_ := ⟨_, rfl⟩
         replace H : (if (true == ((Go.bits .and .u64 (ji54) 1) == 1)) = true then ((byteset_Has.f a0_0 a0_1 a0_2 a0_3 (wrap64 ((Go.bits .and .i64 a2 255) + 256))).bind fun t439 => (if t439 = true then (none) else ((byteset_Has.f a0_0 a0_1 a0_2 a0_3 (wrap64 ((Go.bits .and .i64 a2 255) - 256))).bind fun t440 => (if t440 = true then (none) else ((templelaw0_Num.f 0).bind fun t441 => (some (t441 == 0))))))) else (none)) = some r := by first | (rw [hji54] at H; exact H) | (simp only [hji54] at H ⊢; exact H)
         (try rw [hji54] at A4)
         (try rw [hji54] at A6)
         (try rw [hji54] at A7)
         (try rw [hji54] at A8)
         (try rw [hji54] at A9)
         (try rw [hji54] at A12)
         (try rw [hji54] at A13)
         (try rw [hji54] at A15)
         (try rw [hji54] at A16)
         have hji54_ : (a0_1 / 2 ^ min (ji52).toNat 64) = ji54 := hji54
         have hji54z : (ji52) ≤ 64 → (a0_1 / 2 ^ (ji52).toNat) = ji54 := shr_small hji54
         by_cases c55 : (true == ((Go.bits .and .u64 (ji54) 1) == 1)) = true
         ·rw [if_pos c55] at H
          have c55b0 : (true == ((Go.bits .and .u64 (ji54) 1) == 1)) = true := c55
          (try (have c55b1 : decide (true = ((Go.bits .and .u64 (ji54) 1) == 1)) = true := by simpa using c55))
          (try (have c55b2 : (true == ((Go.bits .and .u64 (ji54) 1) == 1)) = true := by simpa using c55))
          clear c55
          replace H := Option.bind_eq_some_iff.mp H
          obtain ⟨t439, A560, H⟩ := H
          replace H : (if t439 = true then (none) else ((byteset_Has.f a0_0 a0_1 a0_2 a0_3 (wrap64 ((Go.bits .and .i64 a2 255) - 256))).bind fun t440 => (if t440 = true then (none) else ((templelaw0_Num.f 0).bind fun t441 => (some (t441 == 0)))))) = some r := H
          have A56 := Aside0.mk A560
          clear A560
          by_cases c57 : t439 = true
          ·subst c57
           have H1 : (none) = some r := by rw [if_pos rfl] at H; exact H
           clear H
           have H := H1
           clear H1
           exact absurd H (by simp)
          ·replace c57 := Bool.eq_false_iff.mpr c57
           subst c57
           have H1 : ((byteset_Has.f a0_0 a0_1 a0_2 a0_3 (wrap64 ((Go.bits .and .i64 a2 255) - 256))).bind fun t440 => (if t440 = true then (none) else ((templelaw0_Num.f 0).bind fun t441 => (some (t441 == 0))))) = some r := by rw [if_neg (show ¬ (false = true) by decide)] at H; exact H
           clear H
           have H := H1
           clear H1
           replace H := Option.bind_eq_some_iff.mp H
           obtain ⟨t440, A580, H⟩ := H
           replace H : (if t440 = true then (none) else ((templelaw0_Num.f 0).bind fun t441 => (some (t441 == 0)))) = some r := H
           have A58 := Aside0.mk A580
           clear A580
           by_cases c59 : t440 = true
           ·subst c59
            have H1 : (none) = some r := by rw [if_pos rfl] at H; exact H
            clear H
            have H := H1
            clear H1
            exact absurd H (by simp)
           ·replace c59 := Bool.eq_false_iff.mpr c59
            subst c59
            have H1 : ((templelaw0_Num.f 0).bind fun t441 => (some (t441 == 0))) = some r := by rw [if_neg (show ¬ (false = true) by decide)] at H; exact H
            clear H
            have H := H1
            clear H1
            replace H := Option.bind_eq_some_iff.mp H
            obtain ⟨t441, A600, H⟩ := H
            replace H : (some (t441 == 0)) = some r := H
            have A60 := Aside0.mk A600
            clear A600
            obtain rfl := Option.some.inj H
            go_enter Try.func7, Try.ntmps7
            try go_wp2_with (first | ((with_reducible refine gate_dst (N := 3) rfl ?_); refine box_event ?hg (N := 3) ?hd (cs := #[.int .u64 a0_0, .int .u64 a0_1, .int .u64 a0_2, .int .u64 a0_3]) (t := 24) ?hr ?_; (case hd => rfl); (case hg => rfl); (case hr => first | (go_simp; done) | (go_simp; rfl)); intro gb416 hg w61 hbox hb; have n0_ := Aside0.mk (below_step (by repeat (first | (with_reducible first | exact HB.out | apply below_alloc | apply pw_below_drewN | apply below_drew1) | exact HB.out)) hb); have n1_ := Aside0.mk (hbox); have n2_ := Aside0.mk ((by rw [hg]; exact (below_size (by repeat (first | (with_reducible first | exact HB.out | apply below_alloc | apply pw_below_drewN | apply below_drew1) | exact HB.out))) : w.heap.size ≤ gb416)); have n3_ := Aside0.mk ((by rw [hg]; exact (below_size (by repeat (first | (with_reducible first | exact HB.out | apply below_alloc | apply pw_below_drewN | apply below_drew1) | exact HB.out))) : w.heap.size ≤ gb416)); clear HB; have HB := n0_; have BK416 := n1_; have GW416 := n2_; have GE416 := n3_; clear n0_ n1_ n2_ n3_; clear hb hbox hg) | ((with_reducible refine gate_dst (N := 4) rfl ?_); refine box_event ?hg (N := 4) ?hd (cs := #[.int .u64 a1_0, .int .u64 a1_1, .int .u64 a1_2, .int .u64 a1_3]) (t := 24) ?hr ?_; (case hd => rfl); (case hg => rfl); (case hr => first | (go_simp; done) | (go_simp; rfl)); intro gb417 hg w62 hbox hb; have n0_ := Aside0.mk (blk_below (g := gb416) (o := .cells #[.int .u64 a0_0, .int .u64 a0_1, .int .u64 a0_2, .int .u64 a0_3] 24 (0, 0)) (by (with_reducible repeat (first | refine blk_drewN ?_ _ | refine blk_drew ?_ | refine blk_alloc ?_ _)); exact BK416.out) hb); have n1_ := Aside0.mk (below_step (by repeat (first | (with_reducible first | exact HB.out | apply below_alloc | apply pw_below_drewN | apply below_drew1 | refine below_set ?_ GE416.out) | exact HB.out)) hb); have n2_ := Aside0.mk (hbox); have n3_ := Aside0.mk ((by rw [hg]; exact (below_size (by repeat (first | (with_reducible first | exact HB.out | apply below_alloc | apply pw_below_drewN | apply below_drew1 | refine below_set ?_ GE416.out) | exact HB.out))) : w.heap.size ≤ gb417)); have n4_ := Aside0.mk ((by rw [hg]; exact (below_size (by repeat (first | (with_reducible first | exact HB.out | apply below_alloc | apply pw_below_drewN | apply below_drew1 | refine below_set ?_ GE416.out) | exact HB.out))) : w.heap.size ≤ gb417)); have n5_ := Aside0.mk ((by rw [hg]; exact Nat.ne_of_lt (blk_lt (g := gb416) (o := .cells #[.int .u64 a0_0, .int .u64 a0_1, .int .u64 a0_2, .int .u64 a0_3] 24 (0, 0)) (by (with_reducible repeat (first | refine blk_drewN ?_ _ | refine blk_drew ?_ | refine blk_alloc ?_ _)); exact BK416.out)) : gb416 ≠ gb417)); have n6_ := Aside0.mk ((by rw [hg]; exact Nat.ne_of_gt (blk_lt (g := gb416) (o := .cells #[.int .u64 a0_0, .int .u64 a0_1, .int .u64 a0_2, .int .u64 a0_3] 24 (0, 0)) (by (with_reducible repeat (first | refine blk_drewN ?_ _ | refine blk_drew ?_ | refine blk_alloc ?_ _)); exact BK416.out)) : gb417 ≠ gb416)); clear BK416; clear HB; have BK416 := n0_; have HB := n1_; have BK417 := n2_; have GW417 := n3_; have GE417 := n4_; have NB416_417 := n5_; have NB417_416 := n6_; clear n0_ n1_ n2_ n3_ n4_ n5_ n6_; clear hb hbox hg) | (go_at_call 24; (with_reducible refine (templelaw1_awake.calls k  true _ A4.out).mono ?_); rintro e w63 ⟨rfl, hb⟩; have n0_ := Aside0.mk (blk_below (g := gb416) (o := .cells #[.int .u64 a0_0, .int .u64 a0_1, .int .u64 a0_2, .int .u64 a0_3] 24 (0, 0)) (by (with_reducible repeat (first | refine blk_drewN ?_ _ | refine blk_drew ?_ | refine blk_alloc ?_ _)); exact BK416.out) hb); have n1_ := Aside0.mk (blk_below (g := gb417) (o := .cells #[.int .u64 a1_0, .int .u64 a1_1, .int .u64 a1_2, .int .u64 a1_3] 24 (0, 0)) (by (with_reducible repeat (first | refine blk_drewN ?_ _ | refine blk_drew ?_ | refine blk_alloc ?_ _)); exact BK417.out) hb); have n2_ := Aside0.mk (below_step (by repeat (first | (with_reducible first | exact HB.out | apply below_alloc | apply pw_below_drewN | apply below_drew1 | refine below_set ?_ GE416.out | refine below_set ?_ GE417.out) | exact HB.out)) hb); clear BK416; clear BK417; clear HB; have BK416 := n0_; have BK417 := n1_; have HB := n2_; clear n0_ n1_ n2_; (try clear hb)))
            have n0_ := Aside0.mk (blk_drew BK416.out)
            have n1_ := Aside0.mk (blk_drew BK417.out)
            have n2_ := Aside0.mk (below_drew1 HB.out)
            clear BK416
            clear BK417
            clear HB
            have BK416 := n0_
            have BK417 := n1_
            have HB := n2_
            clear n0_ n1_ n2_
            refine start_ (n := 8) (S := fun w' => w'.cell? ⟨gb416, 0, none⟩ = some (.int .u64 a0_0) ∧ w'.cell? ⟨gb416, 1, none⟩ = some (.int .u64 a0_1) ∧ w'.cell? ⟨gb416, 2, none⟩ = some (.int .u64 a0_2) ∧ w'.cell? ⟨gb416, 3, none⟩ = some (.int .u64 a0_3) ∧ w'.cell? ⟨gb417, 0, none⟩ = some (.int .u64 a1_0) ∧ w'.cell? ⟨gb417, 1, none⟩ = some (.int .u64 a1_1) ∧ w'.cell? ⟨gb417, 2, none⟩ = some (.int .u64 a1_2) ∧ w'.cell? ⟨gb417, 3, none⟩ = some (.int .u64 a1_3)) (ds := []) #[false, false, false, false, false, false, false, false] (by kernel_rfl) rfl rfl ⟨(blk_cell BK416.out 0).trans rfl, (blk_cell BK416.out 1).trans rfl, (blk_cell BK416.out 2).trans rfl, (blk_cell BK416.out 3).trans rfl, (blk_cell BK417.out 0).trans rfl, (blk_cell BK417.out 1).trans rfl, (blk_cell BK417.out 2).trans rfl, (blk_cell BK417.out 3).trans rfl⟩ (fun hHeld => ?_); refine with_tabW templelaw1_SetBits.tab4 templelaw1_SetBits.bits4 (fun HT_ HW_ => ?_)
            generalize w63.drew = w64 at BK416 BK417 HB hHeld ⊢
            refine pure_ (i := 1) (N := some 15) (v := ?_) (a' := ?_) #[false, true, false, false, false, false, false, false] rfl rfl (any_of HT_.out (by kernel_rfl)) (fun _ _ _ h => h) (Or.inl ⟨by rfl, ?_⟩) ?_ ?_
            rotate_left
            ·intro w'
             go_simp
             with_reducible rfl
            rotate_left
            ·simp only [Act.put, List.setIfInBounds_toArray, List.set_cons_zero, List.set_cons_succ, i64_w, i32_w]
             rfl
            refine pure_ (i := 4) (N := some 18) (v := ?_) (a' := ?_) #[false, true, false, false, true, false, false, false] rfl rfl (any_of HT_.out (by kernel_rfl)) (fun _ _ _ h => h) (Or.inl ⟨by rfl, ?_⟩) ?_ ?_
            rotate_left
            ·intro w'
             go_simp
             with_reducible rfl
            rotate_left
            ·simp only [Act.put, List.setIfInBounds_toArray, List.set_cons_zero, List.set_cons_succ, i64_w, i32_w]
             rfl
            refine take_ (i := 0) (N := some 14) (v := ?_) (a' := ?_) #[true, true, false, false, true, false, false, false] rfl rfl (take_ofW HT_.out HW_.out (by kernel_rfl)) (fun _ _ _ h => h) (Or.inl ⟨by rfl, ?_⟩) hHeld ?_ ?_
            rotate_left
            ·rintro w' ⟨s0, s1, s2, s3, s4, s5, s6, s7⟩
             go_simp
             with_reducible rfl
            rotate_left
            ·simp only [Act.put, List.setIfInBounds_toArray, List.set_cons_zero, List.set_cons_succ, i64_w, i32_w]
             rfl
            refine take_ (i := 3) (N := some 17) (v := ?_) (a' := ?_) #[true, true, false, true, true, false, false, false] rfl rfl (take_ofW HT_.out HW_.out (by kernel_rfl)) (fun _ _ _ h => h) (Or.inl ⟨by rfl, ?_⟩) hHeld ?_ ?_
            rotate_left
            ·rintro w' ⟨s0, s1, s2, s3, s4, s5, s6, s7⟩
             go_simp
             with_reducible rfl
            rotate_left
            ·simp only [Act.put, List.setIfInBounds_toArray, List.set_cons_zero, List.set_cons_succ, i64_w, i32_w]
             rfl
            refine one_ (i := 2) (N := some 16) #[true, true, true, true, true, false, false, false] rfl rfl (one_of HT_.out (by kernel_rfl)) (by decide) (fun K hK => ?_)
            refine goes_ Try.func13 (by kernel_rfl) rfl #[.agg #[.int .u64 a0_0, .int .u64 a0_1, .int .u64 a0_2, .int .u64 a0_3], .int .i64 (Go.bits .and .i64 a2 255)] (by rfl) rfl rfl (by (try simp only [List.map_toArray, List.map_cons, List.map_nil]); first | done | rfl | (simp only [List.length_drop, List.length_take]; rfl)) ?_
            with_reducible refine (byteset_Has.calls a0_0 a0_1 a0_2 a0_3 (Go.bits .and .i64 a2 255) true _ A6.out).mono ?_
            rintro e w65 ⟨rfl, hb⟩
            refine ⟨_, rfl, ?_⟩
            have n0_ := Aside0.mk (blk_below (g := gb416) (o := .cells #[.int .u64 a0_0, .int .u64 a0_1, .int .u64 a0_2, .int .u64 a0_3] 24 (0, 0)) (by (with_reducible repeat (first | refine blk_drewN ?_ _ | refine blk_drew ?_ | refine blk_alloc ?_ _)); exact BK416.out) hb)
            have n1_ := Aside0.mk (blk_below (g := gb417) (o := .cells #[.int .u64 a1_0, .int .u64 a1_1, .int .u64 a1_2, .int .u64 a1_3] 24 (0, 0)) (by (with_reducible repeat (first | refine blk_drewN ?_ _ | refine blk_drew ?_ | refine blk_alloc ?_ _)); exact BK417.out) hb)
            have n2_ := Aside0.mk (below_step (by repeat (first | (with_reducible first | exact HB.out | apply below_alloc | apply pw_below_drewN | apply below_drew1 | refine below_set ?_ GE416.out | refine below_set ?_ GE417.out) | exact HB.out)) hb)
            clear BK416
            clear BK417
            clear HB
            have BK416 := n0_
            have BK417 := n1_
            have HB := n2_
            clear n0_ n1_ n2_
            (try clear hb)
            (try clear hb2)
            (try clear hk)
            (try clear hi)
            refine hK.out _ _ ⟨(blk_cell BK416.out 0).trans rfl, (blk_cell BK416.out 1).trans rfl, (blk_cell BK416.out 2).trans rfl, (blk_cell BK416.out 3).trans rfl, (blk_cell BK417.out 0).trans rfl, (blk_cell BK417.out 1).trans rfl, (blk_cell BK417.out 2).trans rfl, (blk_cell BK417.out 3).trans rfl⟩ (fun hHeld => ?_)
            clear hK K
            refine norm_ (a' := ?_) ?_ ?_
            rotate_left
            ·show Act.put _ (some 16) _ = _
             simp only [Act.put, List.setIfInBounds_toArray, List.set_cons_zero, List.set_cons_succ, i64_w, i32_w]
             rfl
            refine one_ (i := 5) (N := some 19) #[true, true, true, true, true, true, false, false] rfl rfl (one_of HT_.out (by kernel_rfl)) (by decide) (fun K hK => ?_)
            refine goes_ Try.func13 (by kernel_rfl) rfl #[.agg #[.int .u64 a1_0, .int .u64 a1_1, .int .u64 a1_2, .int .u64 a1_3], .int .i64 (Go.bits .and .i64 a2 255)] (by rfl) rfl rfl (by (try simp only [List.map_toArray, List.map_cons, List.map_nil]); first | done | rfl | (simp only [List.length_drop, List.length_take]; rfl)) ?_
            with_reducible refine (byteset_Has.calls a1_0 a1_1 a1_2 a1_3 (Go.bits .and .i64 a2 255) t420 _ A7.out).mono ?_
            rintro e w66 ⟨rfl, hb⟩
            refine ⟨_, rfl, ?_⟩
            have n0_ := Aside0.mk (blk_below (g := gb416) (o := .cells #[.int .u64 a0_0, .int .u64 a0_1, .int .u64 a0_2, .int .u64 a0_3] 24 (0, 0)) (by (with_reducible repeat (first | refine blk_drewN ?_ _ | refine blk_drew ?_ | refine blk_alloc ?_ _)); exact BK416.out) hb)
            have n1_ := Aside0.mk (blk_below (g := gb417) (o := .cells #[.int .u64 a1_0, .int .u64 a1_1, .int .u64 a1_2, .int .u64 a1_3] 24 (0, 0)) (by (with_reducible repeat (first | refine blk_drewN ?_ _ | refine blk_drew ?_ | refine blk_alloc ?_ _)); exact BK417.out) hb)
            have n2_ := Aside0.mk (below_step (by repeat (first | (with_reducible first | exact HB.out | apply below_alloc | apply pw_below_drewN | apply below_drew1 | refine below_set ?_ GE416.out | refine below_set ?_ GE417.out) | exact HB.out)) hb)
            clear BK416
            clear BK417
            clear HB
            have BK416 := n0_
            have BK417 := n1_
            have HB := n2_
            clear n0_ n1_ n2_
            (try clear hb)
            (try clear hb2)
            (try clear hk)
            (try clear hi)
            refine hK.out _ _ ⟨(blk_cell BK416.out 0).trans rfl, (blk_cell BK416.out 1).trans rfl, (blk_cell BK416.out 2).trans rfl, (blk_cell BK416.out 3).trans rfl, (blk_cell BK417.out 0).trans rfl, (blk_cell BK417.out 1).trans rfl, (blk_cell BK417.out 2).trans rfl, (blk_cell BK417.out 3).trans rfl⟩ (fun hHeld => ?_)
            clear hK K
            refine norm_ (a' := ?_) ?_ ?_
            rotate_left
            ·show Act.put _ (some 19) _ = _
             simp only [Act.put, List.setIfInBounds_toArray, List.set_cons_zero, List.set_cons_succ, i64_w, i32_w]
             rfl
            refine pure_ (i := 6) (N := some 8) (v := ?_) (a' := ?_) #[true, true, true, true, true, true, true, false] rfl rfl (any_of HT_.out (by kernel_rfl)) (fun _ _ _ h => h) (Or.inl ⟨by rfl, ?_⟩) ?_ ?_
            rotate_left
            ·intro w'
             go_simp
             with_reducible rfl
            rotate_left
            ·simp only [Act.put, List.setIfInBounds_toArray, List.set_cons_zero, List.set_cons_succ, i64_w, i32_w]
             rfl
            refine pure_ (i := 7) (N := some 9) (v := ?_) (a' := ?_) #[true, true, true, true, true, true, true, true] rfl rfl (any_of HT_.out (by kernel_rfl)) (fun _ _ _ h => h) (Or.inl ⟨by rfl, ?_⟩) ?_ ?_
            rotate_left
            ·intro w'
             go_simp
             with_reducible rfl
            rotate_left
            ·simp only [Act.put, List.setIfInBounds_toArray, List.set_cons_zero, List.set_cons_succ, i64_w, i32_w]
             rfl
            refine done_ (done_of HT_.out (by kernel_rfl)) ?_
            have hnb67 := NB416_417.out
            have hnc67 := NB417_416.out
            have hcz68_0 : w66.cell? ⟨gb416, 0, none⟩ = some (.int .u64 a0_0) := (blk_cell BK416.out 0).trans rfl
            have hcz68_1 : w66.cell? ⟨gb416, 1, none⟩ = some (.int .u64 a0_1) := (blk_cell BK416.out 1).trans rfl
            have hcz68_2 : w66.cell? ⟨gb416, 2, none⟩ = some (.int .u64 a0_2) := (blk_cell BK416.out 2).trans rfl
            have hcz68_3 : w66.cell? ⟨gb416, 3, none⟩ = some (.int .u64 a0_3) := (blk_cell BK416.out 3).trans rfl
            have hfz68_0 := blk_frozen BK416.out 0
            have hfz68_1 := blk_frozen BK416.out 1
            have hfz68_2 := blk_frozen BK416.out 2
            have hfz68_3 := blk_frozen BK416.out 3
            have hcz69_0 : w66.cell? ⟨gb417, 0, none⟩ = some (.int .u64 a1_0) := (blk_cell BK417.out 0).trans rfl
            have hcz69_1 : w66.cell? ⟨gb417, 1, none⟩ = some (.int .u64 a1_1) := (blk_cell BK417.out 1).trans rfl
            have hcz69_2 : w66.cell? ⟨gb417, 2, none⟩ = some (.int .u64 a1_2) := (blk_cell BK417.out 2).trans rfl
            have hcz69_3 : w66.cell? ⟨gb417, 3, none⟩ = some (.int .u64 a1_3) := (blk_cell BK417.out 3).trans rfl
            have hfz69_0 := blk_frozen BK417.out 0
            have hfz69_1 := blk_frozen BK417.out 1
            have hfz69_2 := blk_frozen BK417.out 2
            have hfz69_3 := blk_frozen BK417.out 3
            try go_wp2_with (first | (go_at_call 15; (with_reducible refine (byteset_Or.calls a0_0 a0_1 a0_2 a0_3 a1_0 a1_1 a1_2 a1_3 t421 t422 t423 t424 _ A8.out).mono ?_); rintro e w70 ⟨rfl, hb⟩; have n0_ := Aside0.mk (blk_below (g := gb416) (o := .cells #[.int .u64 a0_0, .int .u64 a0_1, .int .u64 a0_2, .int .u64 a0_3] 24 (0, 0)) (by (with_reducible repeat (first | refine blk_drewN ?_ _ | refine blk_drew ?_ | refine blk_alloc ?_ _)); exact BK416.out) hb); have n1_ := Aside0.mk (blk_below (g := gb417) (o := .cells #[.int .u64 a1_0, .int .u64 a1_1, .int .u64 a1_2, .int .u64 a1_3] 24 (0, 0)) (by (with_reducible repeat (first | refine blk_drewN ?_ _ | refine blk_drew ?_ | refine blk_alloc ?_ _)); exact BK417.out) hb); have n2_ := Aside0.mk (below_step (by repeat (first | (with_reducible first | exact HB.out | apply below_alloc | apply pw_below_drewN | apply below_drew1 | refine below_set ?_ GE416.out | refine below_set ?_ GE417.out) | exact HB.out)) hb); clear BK416; clear BK417; clear HB; have BK416 := n0_; have BK417 := n1_; have HB := n2_; clear n0_ n1_ n2_; (try clear hb)) | (go_at_call 13; (with_reducible refine (byteset_Has.calls t421 t422 t423 t424 (Go.bits .and .i64 a2 255) t425 _ A9.out).mono ?_); rintro e w71 ⟨rfl, hb⟩; have n0_ := Aside0.mk (blk_below (g := gb416) (o := .cells #[.int .u64 a0_0, .int .u64 a0_1, .int .u64 a0_2, .int .u64 a0_3] 24 (0, 0)) (by (with_reducible repeat (first | refine blk_drewN ?_ _ | refine blk_drew ?_ | refine blk_alloc ?_ _)); exact BK416.out) hb); have n1_ := Aside0.mk (blk_below (g := gb417) (o := .cells #[.int .u64 a1_0, .int .u64 a1_1, .int .u64 a1_2, .int .u64 a1_3] 24 (0, 0)) (by (with_reducible repeat (first | refine blk_drewN ?_ _ | refine blk_drew ?_ | refine blk_alloc ?_ _)); exact BK417.out) hb); have n2_ := Aside0.mk (below_step (by repeat (first | (with_reducible first | exact HB.out | apply below_alloc | apply pw_below_drewN | apply below_drew1 | refine below_set ?_ GE416.out | refine below_set ?_ GE417.out) | exact HB.out)) hb); clear BK416; clear BK417; clear HB; have BK416 := n0_; have BK417 := n1_; have HB := n2_; clear n0_ n1_ n2_; (try clear hb); have hcz72_0 : w71.cell? ⟨gb416, 0, none⟩ = some (.int .u64 a0_0) := (blk_cell BK416.out 0).trans rfl; have hcz72_1 : w71.cell? ⟨gb416, 1, none⟩ = some (.int .u64 a0_1) := (blk_cell BK416.out 1).trans rfl; have hcz72_2 : w71.cell? ⟨gb416, 2, none⟩ = some (.int .u64 a0_2) := (blk_cell BK416.out 2).trans rfl; have hcz72_3 : w71.cell? ⟨gb416, 3, none⟩ = some (.int .u64 a0_3) := (blk_cell BK416.out 3).trans rfl; have hfz72_0 := blk_frozen BK416.out 0; have hfz72_1 := blk_frozen BK416.out 1; have hfz72_2 := blk_frozen BK416.out 2; have hfz72_3 := blk_frozen BK416.out 3; have hcz73_0 : w71.cell? ⟨gb417, 0, none⟩ = some (.int .u64 a1_0) := (blk_cell BK417.out 0).trans rfl; have hcz73_1 : w71.cell? ⟨gb417, 1, none⟩ = some (.int .u64 a1_1) := (blk_cell BK417.out 1).trans rfl; have hcz73_2 : w71.cell? ⟨gb417, 2, none⟩ = some (.int .u64 a1_2) := (blk_cell BK417.out 2).trans rfl; have hcz73_3 : w71.cell? ⟨gb417, 3, none⟩ = some (.int .u64 a1_3) := (blk_cell BK417.out 3).trans rfl; have hfz73_0 := blk_frozen BK417.out 0; have hfz73_1 := blk_frozen BK417.out 1; have hfz73_2 := blk_frozen BK417.out 2; have hfz73_3 := blk_frozen BK417.out 3) | (go_at_call 17; (with_reducible refine (byteset_And.calls a0_0 a0_1 a0_2 a0_3 a1_0 a1_1 a1_2 a1_3 t426 t427 t428 t429 _ A12.out).mono ?_); rintro e w74 ⟨rfl, hb⟩; have n0_ := Aside0.mk (blk_below (g := gb416) (o := .cells #[.int .u64 a0_0, .int .u64 a0_1, .int .u64 a0_2, .int .u64 a0_3] 24 (0, 0)) (by (with_reducible repeat (first | refine blk_drewN ?_ _ | refine blk_drew ?_ | refine blk_alloc ?_ _)); exact BK416.out) hb); have n1_ := Aside0.mk (blk_below (g := gb417) (o := .cells #[.int .u64 a1_0, .int .u64 a1_1, .int .u64 a1_2, .int .u64 a1_3] 24 (0, 0)) (by (with_reducible repeat (first | refine blk_drewN ?_ _ | refine blk_drew ?_ | refine blk_alloc ?_ _)); exact BK417.out) hb); have n2_ := Aside0.mk (below_step (by repeat (first | (with_reducible first | exact HB.out | apply below_alloc | apply pw_below_drewN | apply below_drew1 | refine below_set ?_ GE416.out | refine below_set ?_ GE417.out) | exact HB.out)) hb); clear BK416; clear BK417; clear HB; have BK416 := n0_; have BK417 := n1_; have HB := n2_; clear n0_ n1_ n2_; (try clear hb)) | (go_at_call 13; (with_reducible refine (byteset_Has.calls t426 t427 t428 t429 (Go.bits .and .i64 a2 255) t430 _ A13.out).mono ?_); rintro e w75 ⟨rfl, hb⟩; have n0_ := Aside0.mk (blk_below (g := gb416) (o := .cells #[.int .u64 a0_0, .int .u64 a0_1, .int .u64 a0_2, .int .u64 a0_3] 24 (0, 0)) (by (with_reducible repeat (first | refine blk_drewN ?_ _ | refine blk_drew ?_ | refine blk_alloc ?_ _)); exact BK416.out) hb); have n1_ := Aside0.mk (blk_below (g := gb417) (o := .cells #[.int .u64 a1_0, .int .u64 a1_1, .int .u64 a1_2, .int .u64 a1_3] 24 (0, 0)) (by (with_reducible repeat (first | refine blk_drewN ?_ _ | refine blk_drew ?_ | refine blk_alloc ?_ _)); exact BK417.out) hb); have n2_ := Aside0.mk (below_step (by repeat (first | (with_reducible first | exact HB.out | apply below_alloc | apply pw_below_drewN | apply below_drew1 | refine below_set ?_ GE416.out | refine below_set ?_ GE417.out) | exact HB.out)) hb); clear BK416; clear BK417; clear HB; have BK416 := n0_; have BK417 := n1_; have HB := n2_; clear n0_ n1_ n2_; (try clear hb); have hcz76_0 : w75.cell? ⟨gb416, 0, none⟩ = some (.int .u64 a0_0) := (blk_cell BK416.out 0).trans rfl; have hcz76_1 : w75.cell? ⟨gb416, 1, none⟩ = some (.int .u64 a0_1) := (blk_cell BK416.out 1).trans rfl; have hcz76_2 : w75.cell? ⟨gb416, 2, none⟩ = some (.int .u64 a0_2) := (blk_cell BK416.out 2).trans rfl; have hcz76_3 : w75.cell? ⟨gb416, 3, none⟩ = some (.int .u64 a0_3) := (blk_cell BK416.out 3).trans rfl; have hfz76_0 := blk_frozen BK416.out 0; have hfz76_1 := blk_frozen BK416.out 1; have hfz76_2 := blk_frozen BK416.out 2; have hfz76_3 := blk_frozen BK416.out 3; have hcz77_0 : w75.cell? ⟨gb417, 0, none⟩ = some (.int .u64 a1_0) := (blk_cell BK417.out 0).trans rfl; have hcz77_1 : w75.cell? ⟨gb417, 1, none⟩ = some (.int .u64 a1_1) := (blk_cell BK417.out 1).trans rfl; have hcz77_2 : w75.cell? ⟨gb417, 2, none⟩ = some (.int .u64 a1_2) := (blk_cell BK417.out 2).trans rfl; have hcz77_3 : w75.cell? ⟨gb417, 3, none⟩ = some (.int .u64 a1_3) := (blk_cell BK417.out 3).trans rfl; have hfz77_0 := blk_frozen BK417.out 0; have hfz77_1 := blk_frozen BK417.out 1; have hfz77_2 := blk_frozen BK417.out 2; have hfz77_3 := blk_frozen BK417.out 3) | (go_at_call 18; (with_reducible refine (byteset_Minus.calls a0_0 a0_1 a0_2 a0_3 a1_0 a1_1 a1_2 a1_3 t431 t432 t433 t434 _ A15.out).mono ?_); rintro e w78 ⟨rfl, hb⟩; have n0_ := Aside0.mk (blk_below (g := gb416) (o := .cells #[.int .u64 a0_0, .int .u64 a0_1, .int .u64 a0_2, .int .u64 a0_3] 24 (0, 0)) (by (with_reducible repeat (first | refine blk_drewN ?_ _ | refine blk_drew ?_ | refine blk_alloc ?_ _)); exact BK416.out) hb); have n1_ := Aside0.mk (blk_below (g := gb417) (o := .cells #[.int .u64 a1_0, .int .u64 a1_1, .int .u64 a1_2, .int .u64 a1_3] 24 (0, 0)) (by (with_reducible repeat (first | refine blk_drewN ?_ _ | refine blk_drew ?_ | refine blk_alloc ?_ _)); exact BK417.out) hb); have n2_ := Aside0.mk (below_step (by repeat (first | (with_reducible first | exact HB.out | apply below_alloc | apply pw_below_drewN | apply below_drew1 | refine below_set ?_ GE416.out | refine below_set ?_ GE417.out) | exact HB.out)) hb); clear BK416; clear BK417; clear HB; have BK416 := n0_; have BK417 := n1_; have HB := n2_; clear n0_ n1_ n2_; (try clear hb)) | (go_at_call 13; (with_reducible refine (byteset_Has.calls t431 t432 t433 t434 (Go.bits .and .i64 a2 255) t435 _ A16.out).mono ?_); rintro e w79 ⟨rfl, hb⟩; have n0_ := Aside0.mk (blk_below (g := gb416) (o := .cells #[.int .u64 a0_0, .int .u64 a0_1, .int .u64 a0_2, .int .u64 a0_3] 24 (0, 0)) (by (with_reducible repeat (first | refine blk_drewN ?_ _ | refine blk_drew ?_ | refine blk_alloc ?_ _)); exact BK416.out) hb); have n1_ := Aside0.mk (blk_below (g := gb417) (o := .cells #[.int .u64 a1_0, .int .u64 a1_1, .int .u64 a1_2, .int .u64 a1_3] 24 (0, 0)) (by (with_reducible repeat (first | refine blk_drewN ?_ _ | refine blk_drew ?_ | refine blk_alloc ?_ _)); exact BK417.out) hb); have n2_ := Aside0.mk (below_step (by repeat (first | (with_reducible first | exact HB.out | apply below_alloc | apply pw_below_drewN | apply below_drew1 | refine below_set ?_ GE416.out | refine below_set ?_ GE417.out) | exact HB.out)) hb); clear BK416; clear BK417; clear HB; have BK416 := n0_; have BK417 := n1_; have HB := n2_; clear n0_ n1_ n2_; (try clear hb); have hcz80_0 : w79.cell? ⟨gb416, 0, none⟩ = some (.int .u64 a0_0) := (blk_cell BK416.out 0).trans rfl; have hcz80_1 : w79.cell? ⟨gb416, 1, none⟩ = some (.int .u64 a0_1) := (blk_cell BK416.out 1).trans rfl; have hcz80_2 : w79.cell? ⟨gb416, 2, none⟩ = some (.int .u64 a0_2) := (blk_cell BK416.out 2).trans rfl; have hcz80_3 : w79.cell? ⟨gb416, 3, none⟩ = some (.int .u64 a0_3) := (blk_cell BK416.out 3).trans rfl; have hfz80_0 := blk_frozen BK416.out 0; have hfz80_1 := blk_frozen BK416.out 1; have hfz80_2 := blk_frozen BK416.out 2; have hfz80_3 := blk_frozen BK416.out 3) | (go_at_call 13; (with_reducible refine (byteset_Has.calls a0_0 a0_1 a0_2 a0_3 (wrap64 ((Go.bits .and .i64 a2 255) + 256)) false _ A56.out).mono ?_); rintro e w81 ⟨rfl, hb⟩; have n0_ := Aside0.mk (blk_below (g := gb416) (o := .cells #[.int .u64 a0_0, .int .u64 a0_1, .int .u64 a0_2, .int .u64 a0_3] 24 (0, 0)) (by (with_reducible repeat (first | refine blk_drewN ?_ _ | refine blk_drew ?_ | refine blk_alloc ?_ _)); exact BK416.out) hb); have n1_ := Aside0.mk (blk_below (g := gb417) (o := .cells #[.int .u64 a1_0, .int .u64 a1_1, .int .u64 a1_2, .int .u64 a1_3] 24 (0, 0)) (by (with_reducible repeat (first | refine blk_drewN ?_ _ | refine blk_drew ?_ | refine blk_alloc ?_ _)); exact BK417.out) hb); have n2_ := Aside0.mk (below_step (by repeat (first | (with_reducible first | exact HB.out | apply below_alloc | apply pw_below_drewN | apply below_drew1 | refine below_set ?_ GE416.out | refine below_set ?_ GE417.out) | exact HB.out)) hb); clear BK416; clear BK417; clear HB; have BK416 := n0_; have BK417 := n1_; have HB := n2_; clear n0_ n1_ n2_; (try clear hb); have hcz82_0 : w81.cell? ⟨gb416, 0, none⟩ = some (.int .u64 a0_0) := (blk_cell BK416.out 0).trans rfl; have hcz82_1 : w81.cell? ⟨gb416, 1, none⟩ = some (.int .u64 a0_1) := (blk_cell BK416.out 1).trans rfl; have hcz82_2 : w81.cell? ⟨gb416, 2, none⟩ = some (.int .u64 a0_2) := (blk_cell BK416.out 2).trans rfl; have hcz82_3 : w81.cell? ⟨gb416, 3, none⟩ = some (.int .u64 a0_3) := (blk_cell BK416.out 3).trans rfl; have hfz82_0 := blk_frozen BK416.out 0; have hfz82_1 := blk_frozen BK416.out 1; have hfz82_2 := blk_frozen BK416.out 2; have hfz82_3 := blk_frozen BK416.out 3) | (go_at_call 13; (with_reducible refine (byteset_Has.calls a0_0 a0_1 a0_2 a0_3 (wrap64 ((Go.bits .and .i64 a2 255) - 256)) false _ A58.out).mono ?_); rintro e w83 ⟨rfl, hb⟩; have n0_ := Aside0.mk (blk_below (g := gb416) (o := .cells #[.int .u64 a0_0, .int .u64 a0_1, .int .u64 a0_2, .int .u64 a0_3] 24 (0, 0)) (by (with_reducible repeat (first | refine blk_drewN ?_ _ | refine blk_drew ?_ | refine blk_alloc ?_ _)); exact BK416.out) hb); have n1_ := Aside0.mk (blk_below (g := gb417) (o := .cells #[.int .u64 a1_0, .int .u64 a1_1, .int .u64 a1_2, .int .u64 a1_3] 24 (0, 0)) (by (with_reducible repeat (first | refine blk_drewN ?_ _ | refine blk_drew ?_ | refine blk_alloc ?_ _)); exact BK417.out) hb); have n2_ := Aside0.mk (below_step (by repeat (first | (with_reducible first | exact HB.out | apply below_alloc | apply pw_below_drewN | apply below_drew1 | refine below_set ?_ GE416.out | refine below_set ?_ GE417.out) | exact HB.out)) hb); clear BK416; clear BK417; clear HB; have BK416 := n0_; have BK417 := n1_; have HB := n2_; clear n0_ n1_ n2_; (try clear hb)) | (go_at_call 12; (with_reducible refine (templelaw0_Num.calls 0 t441 _ A60.out).mono ?_); rintro e w' ⟨rfl, ⟨nd, rfl⟩⟩))
            go_ret
            exact ⟨by first | rfl | (simp [errW_none, errW_some] <;> rfl) | (simp only [← hji52, ← hji54]; first | rfl | (simp [errW_none, errW_some] <;> rfl)) | (simp [*, errW_none, errW_some] <;> rfl), by repeat (first | (with_reducible first | exact HB.out | apply below_alloc | apply pw_below_drewN | apply below_drew1 | refine below_set ?_ GE416.out | refine below_set ?_ GE417.out) | exact HB.out)⟩
         ·rw [if_neg c55] at H
          exact absurd H (by simp)
        ·rw [if_neg c53] at H
         exact absurd H (by simp)
       ·rw [if_neg c51] at H
        have c51b0 : ((wrap64 (Int.tdiv (Go.bits .and .i64 a2 255) 64)) == 1) = false := beq_eq_false_iff_ne.mpr c51
        have c51b1 : ((wrap64 (Int.tdiv (Go.bits .and .i64 a2 255) 64)) != 1) = true := bne_iff_ne.mpr c51
        by_cases c84 : (wrap64 (Int.tdiv (Go.bits .and .i64 a2 255) 64)) = 2
        ·rw [if_pos c84] at H
         have hji84 := c84
         have c84b0 : ((wrap64 (Int.tdiv (Go.bits .and .i64 a2 255) 64)) == 2) = true := beq_iff_eq.mpr c84
         have c84b1 : ((wrap64 (Int.tdiv (Go.bits .and .i64 a2 255) 64)) != 2) = false := bne_eq_false_iff_eq.mpr c84
         clear c84
         obtain ⟨ji85, hji85⟩ : ∃ j_ : Int, (Int.tmod (Go.bits .and .i64 a2 255) 64) = j_ := ⟨_, rfl⟩
         replace H : (if 0 ≤ (ji85) then (if (true == ((Go.bits .and .u64 (shr .u64 a0_2 (ji85)) 1) == 1)) = true then ((byteset_Has.f a0_0 a0_1 a0_2 a0_3 (wrap64 ((Go.bits .and .i64 a2 255) + 256))).bind fun t442 => (if t442 = true then (none) else ((byteset_Has.f a0_0 a0_1 a0_2 a0_3 (wrap64 ((Go.bits .and .i64 a2 255) - 256))).bind fun t443 => (if t443 = true then (none) else ((templelaw0_Num.f 0).bind fun t444 => (some (t444 == 0))))))) else (none)) else (none)) = some r := by first | (rw [hji85] at H; exact H) | (simp only [hji85] at H ⊢; exact H)
         (try rw [hji85] at A4)
         (try rw [hji85] at A6)
         (try rw [hji85] at A7)
         (try rw [hji85] at A8)
         (try rw [hji85] at A9)
         (try rw [hji85] at A12)
         (try rw [hji85] at A13)
         (try rw [hji85] at A15)
         (try rw [hji85] at A16)
         by_cases c86 : 0 ≤ (ji85)
         ·rw [if_pos c86] at H
          have c86b0 := eq_true c86
          have c86b1 : decide (0 ≤ (ji85)) = true := decide_eq_true c86
          clear c86
          obtain ⟨ji87, hji87⟩ : ∃ j_ : Int, (shr .u64 a0_2 (ji85)) = j_ := ⟨_, rfl⟩
          replace H : (if (true == ((Go.bits .and .u64 (ji87) 1) == 1)) = true then ((byteset_Has.f a0_0 a0_1 a0_2 a0_3 (wrap64 ((Go.bits .and .i64 a2 255) + 256))).bind fun t442 => (if t442 = true then (none) else ((byteset_Has.f a0_0 a0_1 a0_2 a0_3 (wrap64 ((Go.bits .and .i64 a2 255) - 256))).bind fun t443 => (if t443 = true then (none) else ((templelaw0_Num.f 0).bind fun t444 => (some (t444 == 0))))))) else (none)) = some r := by first | (rw [hji87] at H; exact H) | (simp only [hji87] at H ⊢; exact H)
          (try rw [hji87] at A4)
          (try rw [hji87] at A6)
          (try rw [hji87] at A7)
          (try rw [hji87] at A8)
          (try rw [hji87] at A9)
          (try rw [hji87] at A12)
          (try rw [hji87] at A13)
          (try rw [hji87] at A15)
          (try rw [hji87] at A16)
          have hji87_ : (a0_2 / 2 ^ min (ji85).toNat 64) = ji87 := hji87
          have hji87z : (ji85) ≤ 64 → (a0_2 / 2 ^ (ji85).toNat) = ji87 := shr_small hji87
          by_cases c88 : (true == ((Go.bits .and .u64 (ji87) 1) == 1)) = true
          ·rw [if_pos c88] at H
           have c88b0 : (true == ((Go.bits .and .u64 (ji87) 1) == 1)) = true := c88
           (try (have c88b1 : decide (true = ((Go.bits .and .u64 (ji87) 1) == 1)) = true := by simpa using c88))
           (try (have c88b2 : (true == ((Go.bits .and .u64 (ji87) 1) == 1)) = true := by simpa using c88))
           clear c88
           replace H := Option.bind_eq_some_iff.mp H
           obtain ⟨t442, A890, H⟩ := H
           replace H : (if t442 = true then (none) else ((byteset_Has.f a0_0 a0_1 a0_2 a0_3 (wrap64 ((Go.bits .and .i64 a2 255) - 256))).bind fun t443 => (if t443 = true then (none) else ((templelaw0_Num.f 0).bind fun t444 => (some (t444 == 0)))))) = some r := H
           have A89 := Aside0.mk A890
           clear A890
           by_cases c90 : t442 = true
           ·subst c90
            have H1 : (none) = some r := by rw [if_pos rfl] at H; exact H
            clear H
            have H := H1
            clear H1
            exact absurd H (by simp)
           ·replace c90 := Bool.eq_false_iff.mpr c90
            subst c90
            have H1 : ((byteset_Has.f a0_0 a0_1 a0_2 a0_3 (wrap64 ((Go.bits .and .i64 a2 255) - 256))).bind fun t443 => (if t443 = true then (none) else ((templelaw0_Num.f 0).bind fun t444 => (some (t444 == 0))))) = some r := by rw [if_neg (show ¬ (false = true) by decide)] at H; exact H
            clear H
            have H := H1
            clear H1
            replace H := Option.bind_eq_some_iff.mp H
            obtain ⟨t443, A910, H⟩ := H
            replace H : (if t443 = true then (none) else ((templelaw0_Num.f 0).bind fun t444 => (some (t444 == 0)))) = some r := H
            have A91 := Aside0.mk A910
            clear A910
            by_cases c92 : t443 = true
            ·subst c92
             have H1 : (none) = some r := by rw [if_pos rfl] at H; exact H
             clear H
             have H := H1
             clear H1
             exact absurd H (by simp)
            ·replace c92 := Bool.eq_false_iff.mpr c92
             subst c92
             have H1 : ((templelaw0_Num.f 0).bind fun t444 => (some (t444 == 0))) = some r := by rw [if_neg (show ¬ (false = true) by decide)] at H; exact H
             clear H
             have H := H1
             clear H1
             replace H := Option.bind_eq_some_iff.mp H
             obtain ⟨t444, A930, H⟩ := H
             replace H : (some (t444 == 0)) = some r := H
             have A93 := Aside0.mk A930
             clear A930
             obtain rfl := Option.some.inj H
             go_enter Try.func7, Try.ntmps7
             try go_wp2_with (first | ((with_reducible refine gate_dst (N := 3) rfl ?_); refine box_event ?hg (N := 3) ?hd (cs := #[.int .u64 a0_0, .int .u64 a0_1, .int .u64 a0_2, .int .u64 a0_3]) (t := 24) ?hr ?_; (case hd => rfl); (case hg => rfl); (case hr => first | (go_simp; done) | (go_simp; rfl)); intro gb416 hg w94 hbox hb; have n0_ := Aside0.mk (below_step (by repeat (first | (with_reducible first | exact HB.out | apply below_alloc | apply pw_below_drewN | apply below_drew1) | exact HB.out)) hb); have n1_ := Aside0.mk (hbox); have n2_ := Aside0.mk ((by rw [hg]; exact (below_size (by repeat (first | (with_reducible first | exact HB.out | apply below_alloc | apply pw_below_drewN | apply below_drew1) | exact HB.out))) : w.heap.size ≤ gb416)); have n3_ := Aside0.mk ((by rw [hg]; exact (below_size (by repeat (first | (with_reducible first | exact HB.out | apply below_alloc | apply pw_below_drewN | apply below_drew1) | exact HB.out))) : w.heap.size ≤ gb416)); clear HB; have HB := n0_; have BK416 := n1_; have GW416 := n2_; have GE416 := n3_; clear n0_ n1_ n2_ n3_; clear hb hbox hg) | ((with_reducible refine gate_dst (N := 4) rfl ?_); refine box_event ?hg (N := 4) ?hd (cs := #[.int .u64 a1_0, .int .u64 a1_1, .int .u64 a1_2, .int .u64 a1_3]) (t := 24) ?hr ?_; (case hd => rfl); (case hg => rfl); (case hr => first | (go_simp; done) | (go_simp; rfl)); intro gb417 hg w95 hbox hb; have n0_ := Aside0.mk (blk_below (g := gb416) (o := .cells #[.int .u64 a0_0, .int .u64 a0_1, .int .u64 a0_2, .int .u64 a0_3] 24 (0, 0)) (by (with_reducible repeat (first | refine blk_drewN ?_ _ | refine blk_drew ?_ | refine blk_alloc ?_ _)); exact BK416.out) hb); have n1_ := Aside0.mk (below_step (by repeat (first | (with_reducible first | exact HB.out | apply below_alloc | apply pw_below_drewN | apply below_drew1 | refine below_set ?_ GE416.out) | exact HB.out)) hb); have n2_ := Aside0.mk (hbox); have n3_ := Aside0.mk ((by rw [hg]; exact (below_size (by repeat (first | (with_reducible first | exact HB.out | apply below_alloc | apply pw_below_drewN | apply below_drew1 | refine below_set ?_ GE416.out) | exact HB.out))) : w.heap.size ≤ gb417)); have n4_ := Aside0.mk ((by rw [hg]; exact (below_size (by repeat (first | (with_reducible first | exact HB.out | apply below_alloc | apply pw_below_drewN | apply below_drew1 | refine below_set ?_ GE416.out) | exact HB.out))) : w.heap.size ≤ gb417)); have n5_ := Aside0.mk ((by rw [hg]; exact Nat.ne_of_lt (blk_lt (g := gb416) (o := .cells #[.int .u64 a0_0, .int .u64 a0_1, .int .u64 a0_2, .int .u64 a0_3] 24 (0, 0)) (by (with_reducible repeat (first | refine blk_drewN ?_ _ | refine blk_drew ?_ | refine blk_alloc ?_ _)); exact BK416.out)) : gb416 ≠ gb417)); have n6_ := Aside0.mk ((by rw [hg]; exact Nat.ne_of_gt (blk_lt (g := gb416) (o := .cells #[.int .u64 a0_0, .int .u64 a0_1, .int .u64 a0_2, .int .u64 a0_3] 24 (0, 0)) (by (with_reducible repeat (first | refine blk_drewN ?_ _ | refine blk_drew ?_ | refine blk_alloc ?_ _)); exact BK416.out)) : gb417 ≠ gb416)); clear BK416; clear HB; have BK416 := n0_; have HB := n1_; have BK417 := n2_; have GW417 := n3_; have GE417 := n4_; have NB416_417 := n5_; have NB417_416 := n6_; clear n0_ n1_ n2_ n3_ n4_ n5_ n6_; clear hb hbox hg) | (go_at_call 24; (with_reducible refine (templelaw1_awake.calls k  true _ A4.out).mono ?_); rintro e w96 ⟨rfl, hb⟩; have n0_ := Aside0.mk (blk_below (g := gb416) (o := .cells #[.int .u64 a0_0, .int .u64 a0_1, .int .u64 a0_2, .int .u64 a0_3] 24 (0, 0)) (by (with_reducible repeat (first | refine blk_drewN ?_ _ | refine blk_drew ?_ | refine blk_alloc ?_ _)); exact BK416.out) hb); have n1_ := Aside0.mk (blk_below (g := gb417) (o := .cells #[.int .u64 a1_0, .int .u64 a1_1, .int .u64 a1_2, .int .u64 a1_3] 24 (0, 0)) (by (with_reducible repeat (first | refine blk_drewN ?_ _ | refine blk_drew ?_ | refine blk_alloc ?_ _)); exact BK417.out) hb); have n2_ := Aside0.mk (below_step (by repeat (first | (with_reducible first | exact HB.out | apply below_alloc | apply pw_below_drewN | apply below_drew1 | refine below_set ?_ GE416.out | refine below_set ?_ GE417.out) | exact HB.out)) hb); clear BK416; clear BK417; clear HB; have BK416 := n0_; have BK417 := n1_; have HB := n2_; clear n0_ n1_ n2_; (try clear hb)))
             have n0_ := Aside0.mk (blk_drew BK416.out)
             have n1_ := Aside0.mk (blk_drew BK417.out)
             have n2_ := Aside0.mk (below_drew1 HB.out)
             clear BK416
             clear BK417
             clear HB
             have BK416 := n0_
             have BK417 := n1_
             have HB := n2_
             clear n0_ n1_ n2_
             refine start_ (n := 8) (S := fun w' => w'.cell? ⟨gb416, 0, none⟩ = some (.int .u64 a0_0) ∧ w'.cell? ⟨gb416, 1, none⟩ = some (.int .u64 a0_1) ∧ w'.cell? ⟨gb416, 2, none⟩ = some (.int .u64 a0_2) ∧ w'.cell? ⟨gb416, 3, none⟩ = some (.int .u64 a0_3) ∧ w'.cell? ⟨gb417, 0, none⟩ = some (.int .u64 a1_0) ∧ w'.cell? ⟨gb417, 1, none⟩ = some (.int .u64 a1_1) ∧ w'.cell? ⟨gb417, 2, none⟩ = some (.int .u64 a1_2) ∧ w'.cell? ⟨gb417, 3, none⟩ = some (.int .u64 a1_3)) (ds := []) #[false, false, false, false, false, false, false, false] (by kernel_rfl) rfl rfl ⟨(blk_cell BK416.out 0).trans rfl, (blk_cell BK416.out 1).trans rfl, (blk_cell BK416.out 2).trans rfl, (blk_cell BK416.out 3).trans rfl, (blk_cell BK417.out 0).trans rfl, (blk_cell BK417.out 1).trans rfl, (blk_cell BK417.out 2).trans rfl, (blk_cell BK417.out 3).trans rfl⟩ (fun hHeld => ?_); refine with_tabW templelaw1_SetBits.tab4 templelaw1_SetBits.bits4 (fun HT_ HW_ => ?_)
             generalize w96.drew = w97 at BK416 BK417 HB hHeld ⊢
             refine pure_ (i := 1) (N := some 15) (v := ?_) (a' := ?_) #[false, true, false, false, false, false, false, false] rfl rfl (any_of HT_.out (by kernel_rfl)) (fun _ _ _ h => h) (Or.inl ⟨by rfl, ?_⟩) ?_ ?_
             rotate_left
             ·intro w'
              go_simp
              with_reducible rfl
             rotate_left
             ·simp only [Act.put, List.setIfInBounds_toArray, List.set_cons_zero, List.set_cons_succ, i64_w, i32_w]
              rfl
             refine pure_ (i := 4) (N := some 18) (v := ?_) (a' := ?_) #[false, true, false, false, true, false, false, false] rfl rfl (any_of HT_.out (by kernel_rfl)) (fun _ _ _ h => h) (Or.inl ⟨by rfl, ?_⟩) ?_ ?_
             rotate_left
             ·intro w'
              go_simp
              with_reducible rfl
             rotate_left
             ·simp only [Act.put, List.setIfInBounds_toArray, List.set_cons_zero, List.set_cons_succ, i64_w, i32_w]
              rfl
             refine take_ (i := 0) (N := some 14) (v := ?_) (a' := ?_) #[true, true, false, false, true, false, false, false] rfl rfl (take_ofW HT_.out HW_.out (by kernel_rfl)) (fun _ _ _ h => h) (Or.inl ⟨by rfl, ?_⟩) hHeld ?_ ?_
             rotate_left
             ·rintro w' ⟨s0, s1, s2, s3, s4, s5, s6, s7⟩
              go_simp
              with_reducible rfl
             rotate_left
             ·simp only [Act.put, List.setIfInBounds_toArray, List.set_cons_zero, List.set_cons_succ, i64_w, i32_w]
              rfl
             refine take_ (i := 3) (N := some 17) (v := ?_) (a' := ?_) #[true, true, false, true, true, false, false, false] rfl rfl (take_ofW HT_.out HW_.out (by kernel_rfl)) (fun _ _ _ h => h) (Or.inl ⟨by rfl, ?_⟩) hHeld ?_ ?_
             rotate_left
             ·rintro w' ⟨s0, s1, s2, s3, s4, s5, s6, s7⟩
              go_simp
              with_reducible rfl
             rotate_left
             ·simp only [Act.put, List.setIfInBounds_toArray, List.set_cons_zero, List.set_cons_succ, i64_w, i32_w]
              rfl
             refine one_ (i := 2) (N := some 16) #[true, true, true, true, true, false, false, false] rfl rfl (one_of HT_.out (by kernel_rfl)) (by decide) (fun K hK => ?_)
             refine goes_ Try.func13 (by kernel_rfl) rfl #[.agg #[.int .u64 a0_0, .int .u64 a0_1, .int .u64 a0_2, .int .u64 a0_3], .int .i64 (Go.bits .and .i64 a2 255)] (by rfl) rfl rfl (by (try simp only [List.map_toArray, List.map_cons, List.map_nil]); first | done | rfl | (simp only [List.length_drop, List.length_take]; rfl)) ?_
             with_reducible refine (byteset_Has.calls a0_0 a0_1 a0_2 a0_3 (Go.bits .and .i64 a2 255) true _ A6.out).mono ?_
             rintro e w98 ⟨rfl, hb⟩
             refine ⟨_, rfl, ?_⟩
             have n0_ := Aside0.mk (blk_below (g := gb416) (o := .cells #[.int .u64 a0_0, .int .u64 a0_1, .int .u64 a0_2, .int .u64 a0_3] 24 (0, 0)) (by (with_reducible repeat (first | refine blk_drewN ?_ _ | refine blk_drew ?_ | refine blk_alloc ?_ _)); exact BK416.out) hb)
             have n1_ := Aside0.mk (blk_below (g := gb417) (o := .cells #[.int .u64 a1_0, .int .u64 a1_1, .int .u64 a1_2, .int .u64 a1_3] 24 (0, 0)) (by (with_reducible repeat (first | refine blk_drewN ?_ _ | refine blk_drew ?_ | refine blk_alloc ?_ _)); exact BK417.out) hb)
             have n2_ := Aside0.mk (below_step (by repeat (first | (with_reducible first | exact HB.out | apply below_alloc | apply pw_below_drewN | apply below_drew1 | refine below_set ?_ GE416.out | refine below_set ?_ GE417.out) | exact HB.out)) hb)
             clear BK416
             clear BK417
             clear HB
             have BK416 := n0_
             have BK417 := n1_
             have HB := n2_
             clear n0_ n1_ n2_
             (try clear hb)
             (try clear hb2)
             (try clear hk)
             (try clear hi)
             refine hK.out _ _ ⟨(blk_cell BK416.out 0).trans rfl, (blk_cell BK416.out 1).trans rfl, (blk_cell BK416.out 2).trans rfl, (blk_cell BK416.out 3).trans rfl, (blk_cell BK417.out 0).trans rfl, (blk_cell BK417.out 1).trans rfl, (blk_cell BK417.out 2).trans rfl, (blk_cell BK417.out 3).trans rfl⟩ (fun hHeld => ?_)
             clear hK K
             refine norm_ (a' := ?_) ?_ ?_
             rotate_left
             ·show Act.put _ (some 16) _ = _
              simp only [Act.put, List.setIfInBounds_toArray, List.set_cons_zero, List.set_cons_succ, i64_w, i32_w]
              rfl
             refine one_ (i := 5) (N := some 19) #[true, true, true, true, true, true, false, false] rfl rfl (one_of HT_.out (by kernel_rfl)) (by decide) (fun K hK => ?_)
             refine goes_ Try.func13 (by kernel_rfl) rfl #[.agg #[.int .u64 a1_0, .int .u64 a1_1, .int .u64 a1_2, .int .u64 a1_3], .int .i64 (Go.bits .and .i64 a2 255)] (by rfl) rfl rfl (by (try simp only [List.map_toArray, List.map_cons, List.map_nil]); first | done | rfl | (simp only [List.length_drop, List.length_take]; rfl)) ?_
             with_reducible refine (byteset_Has.calls a1_0 a1_1 a1_2 a1_3 (Go.bits .and .i64 a2 255) t420 _ A7.out).mono ?_
             rintro e w99 ⟨rfl, hb⟩
             refine ⟨_, rfl, ?_⟩
             have n0_ := Aside0.mk (blk_below (g := gb416) (o := .cells #[.int .u64 a0_0, .int .u64 a0_1, .int .u64 a0_2, .int .u64 a0_3] 24 (0, 0)) (by (with_reducible repeat (first | refine blk_drewN ?_ _ | refine blk_drew ?_ | refine blk_alloc ?_ _)); exact BK416.out) hb)
             have n1_ := Aside0.mk (blk_below (g := gb417) (o := .cells #[.int .u64 a1_0, .int .u64 a1_1, .int .u64 a1_2, .int .u64 a1_3] 24 (0, 0)) (by (with_reducible repeat (first | refine blk_drewN ?_ _ | refine blk_drew ?_ | refine blk_alloc ?_ _)); exact BK417.out) hb)
             have n2_ := Aside0.mk (below_step (by repeat (first | (with_reducible first | exact HB.out | apply below_alloc | apply pw_below_drewN | apply below_drew1 | refine below_set ?_ GE416.out | refine below_set ?_ GE417.out) | exact HB.out)) hb)
             clear BK416
             clear BK417
             clear HB
             have BK416 := n0_
             have BK417 := n1_
             have HB := n2_
             clear n0_ n1_ n2_
             (try clear hb)
             (try clear hb2)
             (try clear hk)
             (try clear hi)
             refine hK.out _ _ ⟨(blk_cell BK416.out 0).trans rfl, (blk_cell BK416.out 1).trans rfl, (blk_cell BK416.out 2).trans rfl, (blk_cell BK416.out 3).trans rfl, (blk_cell BK417.out 0).trans rfl, (blk_cell BK417.out 1).trans rfl, (blk_cell BK417.out 2).trans rfl, (blk_cell BK417.out 3).trans rfl⟩ (fun hHeld => ?_)
             clear hK K
             refine norm_ (a' := ?_) ?_ ?_
             rotate_left
             ·show Act.put _ (some 19) _ = _
              simp only [Act.put, List.setIfInBounds_toArray, List.set_cons_zero, List.set_cons_succ, i64_w, i32_w]
              rfl
             refine pure_ (i := 6) (N := some 8) (v := ?_) (a' := ?_) #[true, true, true, true, true, true, true, false] rfl rfl (any_of HT_.out (by kernel_rfl)) (fun _ _ _ h => h) (Or.inl ⟨by rfl, ?_⟩) ?_ ?_
             rotate_left
             ·intro w'
              go_simp
              with_reducible rfl
             rotate_left
             ·simp only [Act.put, List.setIfInBounds_toArray, List.set_cons_zero, List.set_cons_succ, i64_w, i32_w]
              rfl
             refine pure_ (i := 7) (N := some 9) (v := ?_) (a' := ?_) #[true, true, true, true, true, true, true, true] rfl rfl (any_of HT_.out (by kernel_rfl)) (fun _ _ _ h => h) (Or.inl ⟨by rfl, ?_⟩) ?_ ?_
             rotate_left
             ·intro w'
              go_simp
              with_reducible rfl
             rotate_left
             ·simp only [Act.put, List.setIfInBounds_toArray, List.set_cons_zero, List.set_cons_succ, i64_w, i32_w]
              rfl
             refine done_ (done_of HT_.out (by kernel_rfl)) ?_
             have hnb100 := NB416_417.out
             have hnc100 := NB417_416.out
             have hcz101_0 : w99.cell? ⟨gb416, 0, none⟩ = some (.int .u64 a0_0) := (blk_cell BK416.out 0).trans rfl
             have hcz101_1 : w99.cell? ⟨gb416, 1, none⟩ = some (.int .u64 a0_1) := (blk_cell BK416.out 1).trans rfl
             have hcz101_2 : w99.cell? ⟨gb416, 2, none⟩ = some (.int .u64 a0_2) := (blk_cell BK416.out 2).trans rfl
             have hcz101_3 : w99.cell? ⟨gb416, 3, none⟩ = some (.int .u64 a0_3) := (blk_cell BK416.out 3).trans rfl
             have hfz101_0 := blk_frozen BK416.out 0
             have hfz101_1 := blk_frozen BK416.out 1
             have hfz101_2 := blk_frozen BK416.out 2
             have hfz101_3 := blk_frozen BK416.out 3
             have hcz102_0 : w99.cell? ⟨gb417, 0, none⟩ = some (.int .u64 a1_0) := (blk_cell BK417.out 0).trans rfl
             have hcz102_1 : w99.cell? ⟨gb417, 1, none⟩ = some (.int .u64 a1_1) := (blk_cell BK417.out 1).trans rfl
             have hcz102_2 : w99.cell? ⟨gb417, 2, none⟩ = some (.int .u64 a1_2) := (blk_cell BK417.out 2).trans rfl
             have hcz102_3 : w99.cell? ⟨gb417, 3, none⟩ = some (.int .u64 a1_3) := (blk_cell BK417.out 3).trans rfl
             have hfz102_0 := blk_frozen BK417.out 0
             have hfz102_1 := blk_frozen BK417.out 1
             have hfz102_2 := blk_frozen BK417.out 2
             have hfz102_3 := blk_frozen BK417.out 3
             try go_wp2_with (first | (go_at_call 15; (with_reducible refine (byteset_Or.calls a0_0 a0_1 a0_2 a0_3 a1_0 a1_1 a1_2 a1_3 t421 t422 t423 t424 _ A8.out).mono ?_); rintro e w103 ⟨rfl, hb⟩; have n0_ := Aside0.mk (blk_below (g := gb416) (o := .cells #[.int .u64 a0_0, .int .u64 a0_1, .int .u64 a0_2, .int .u64 a0_3] 24 (0, 0)) (by (with_reducible repeat (first | refine blk_drewN ?_ _ | refine blk_drew ?_ | refine blk_alloc ?_ _)); exact BK416.out) hb); have n1_ := Aside0.mk (blk_below (g := gb417) (o := .cells #[.int .u64 a1_0, .int .u64 a1_1, .int .u64 a1_2, .int .u64 a1_3] 24 (0, 0)) (by (with_reducible repeat (first | refine blk_drewN ?_ _ | refine blk_drew ?_ | refine blk_alloc ?_ _)); exact BK417.out) hb); have n2_ := Aside0.mk (below_step (by repeat (first | (with_reducible first | exact HB.out | apply below_alloc | apply pw_below_drewN | apply below_drew1 | refine below_set ?_ GE416.out | refine below_set ?_ GE417.out) | exact HB.out)) hb); clear BK416; clear BK417; clear HB; have BK416 := n0_; have BK417 := n1_; have HB := n2_; clear n0_ n1_ n2_; (try clear hb)) | (go_at_call 13; (with_reducible refine (byteset_Has.calls t421 t422 t423 t424 (Go.bits .and .i64 a2 255) t425 _ A9.out).mono ?_); rintro e w104 ⟨rfl, hb⟩; have n0_ := Aside0.mk (blk_below (g := gb416) (o := .cells #[.int .u64 a0_0, .int .u64 a0_1, .int .u64 a0_2, .int .u64 a0_3] 24 (0, 0)) (by (with_reducible repeat (first | refine blk_drewN ?_ _ | refine blk_drew ?_ | refine blk_alloc ?_ _)); exact BK416.out) hb); have n1_ := Aside0.mk (blk_below (g := gb417) (o := .cells #[.int .u64 a1_0, .int .u64 a1_1, .int .u64 a1_2, .int .u64 a1_3] 24 (0, 0)) (by (with_reducible repeat (first | refine blk_drewN ?_ _ | refine blk_drew ?_ | refine blk_alloc ?_ _)); exact BK417.out) hb); have n2_ := Aside0.mk (below_step (by repeat (first | (with_reducible first | exact HB.out | apply below_alloc | apply pw_below_drewN | apply below_drew1 | refine below_set ?_ GE416.out | refine below_set ?_ GE417.out) | exact HB.out)) hb); clear BK416; clear BK417; clear HB; have BK416 := n0_; have BK417 := n1_; have HB := n2_; clear n0_ n1_ n2_; (try clear hb); have hcz105_0 : w104.cell? ⟨gb416, 0, none⟩ = some (.int .u64 a0_0) := (blk_cell BK416.out 0).trans rfl; have hcz105_1 : w104.cell? ⟨gb416, 1, none⟩ = some (.int .u64 a0_1) := (blk_cell BK416.out 1).trans rfl; have hcz105_2 : w104.cell? ⟨gb416, 2, none⟩ = some (.int .u64 a0_2) := (blk_cell BK416.out 2).trans rfl; have hcz105_3 : w104.cell? ⟨gb416, 3, none⟩ = some (.int .u64 a0_3) := (blk_cell BK416.out 3).trans rfl; have hfz105_0 := blk_frozen BK416.out 0; have hfz105_1 := blk_frozen BK416.out 1; have hfz105_2 := blk_frozen BK416.out 2; have hfz105_3 := blk_frozen BK416.out 3; have hcz106_0 : w104.cell? ⟨gb417, 0, none⟩ = some (.int .u64 a1_0) := (blk_cell BK417.out 0).trans rfl; have hcz106_1 : w104.cell? ⟨gb417, 1, none⟩ = some (.int .u64 a1_1) := (blk_cell BK417.out 1).trans rfl; have hcz106_2 : w104.cell? ⟨gb417, 2, none⟩ = some (.int .u64 a1_2) := (blk_cell BK417.out 2).trans rfl; have hcz106_3 : w104.cell? ⟨gb417, 3, none⟩ = some (.int .u64 a1_3) := (blk_cell BK417.out 3).trans rfl; have hfz106_0 := blk_frozen BK417.out 0; have hfz106_1 := blk_frozen BK417.out 1; have hfz106_2 := blk_frozen BK417.out 2; have hfz106_3 := blk_frozen BK417.out 3) | (go_at_call 17; (with_reducible refine (byteset_And.calls a0_0 a0_1 a0_2 a0_3 a1_0 a1_1 a1_2 a1_3 t426 t427 t428 t429 _ A12.out).mono ?_); rintro e w107 ⟨rfl, hb⟩; have n0_ := Aside0.mk (blk_below (g := gb416) (o := .cells #[.int .u64 a0_0, .int .u64 a0_1, .int .u64 a0_2, .int .u64 a0_3] 24 (0, 0)) (by (with_reducible repeat (first | refine blk_drewN ?_ _ | refine blk_drew ?_ | refine blk_alloc ?_ _)); exact BK416.out) hb); have n1_ := Aside0.mk (blk_below (g := gb417) (o := .cells #[.int .u64 a1_0, .int .u64 a1_1, .int .u64 a1_2, .int .u64 a1_3] 24 (0, 0)) (by (with_reducible repeat (first | refine blk_drewN ?_ _ | refine blk_drew ?_ | refine blk_alloc ?_ _)); exact BK417.out) hb); have n2_ := Aside0.mk (below_step (by repeat (first | (with_reducible first | exact HB.out | apply below_alloc | apply pw_below_drewN | apply below_drew1 | refine below_set ?_ GE416.out | refine below_set ?_ GE417.out) | exact HB.out)) hb); clear BK416; clear BK417; clear HB; have BK416 := n0_; have BK417 := n1_; have HB := n2_; clear n0_ n1_ n2_; (try clear hb)) | (go_at_call 13; (with_reducible refine (byteset_Has.calls t426 t427 t428 t429 (Go.bits .and .i64 a2 255) t430 _ A13.out).mono ?_); rintro e w108 ⟨rfl, hb⟩; have n0_ := Aside0.mk (blk_below (g := gb416) (o := .cells #[.int .u64 a0_0, .int .u64 a0_1, .int .u64 a0_2, .int .u64 a0_3] 24 (0, 0)) (by (with_reducible repeat (first | refine blk_drewN ?_ _ | refine blk_drew ?_ | refine blk_alloc ?_ _)); exact BK416.out) hb); have n1_ := Aside0.mk (blk_below (g := gb417) (o := .cells #[.int .u64 a1_0, .int .u64 a1_1, .int .u64 a1_2, .int .u64 a1_3] 24 (0, 0)) (by (with_reducible repeat (first | refine blk_drewN ?_ _ | refine blk_drew ?_ | refine blk_alloc ?_ _)); exact BK417.out) hb); have n2_ := Aside0.mk (below_step (by repeat (first | (with_reducible first | exact HB.out | apply below_alloc | apply pw_below_drewN | apply below_drew1 | refine below_set ?_ GE416.out | refine below_set ?_ GE417.out) | exact HB.out)) hb); clear BK416; clear BK417; clear HB; have BK416 := n0_; have BK417 := n1_; have HB := n2_; clear n0_ n1_ n2_; (try clear hb); have hcz109_0 : w108.cell? ⟨gb416, 0, none⟩ = some (.int .u64 a0_0) := (blk_cell BK416.out 0).trans rfl; have hcz109_1 : w108.cell? ⟨gb416, 1, none⟩ = some (.int .u64 a0_1) := (blk_cell BK416.out 1).trans rfl; have hcz109_2 : w108.cell? ⟨gb416, 2, none⟩ = some (.int .u64 a0_2) := (blk_cell BK416.out 2).trans rfl; have hcz109_3 : w108.cell? ⟨gb416, 3, none⟩ = some (.int .u64 a0_3) := (blk_cell BK416.out 3).trans rfl; have hfz109_0 := blk_frozen BK416.out 0; have hfz109_1 := blk_frozen BK416.out 1; have hfz109_2 := blk_frozen BK416.out 2; have hfz109_3 := blk_frozen BK416.out 3; have hcz110_0 : w108.cell? ⟨gb417, 0, none⟩ = some (.int .u64 a1_0) := (blk_cell BK417.out 0).trans rfl; have hcz110_1 : w108.cell? ⟨gb417, 1, none⟩ = some (.int .u64 a1_1) := (blk_cell BK417.out 1).trans rfl; have hcz110_2 : w108.cell? ⟨gb417, 2, none⟩ = some (.int .u64 a1_2) := (blk_cell BK417.out 2).trans rfl; have hcz110_3 : w108.cell? ⟨gb417, 3, none⟩ = some (.int .u64 a1_3) := (blk_cell BK417.out 3).trans rfl; have hfz110_0 := blk_frozen BK417.out 0; have hfz110_1 := blk_frozen BK417.out 1; have hfz110_2 := blk_frozen BK417.out 2; have hfz110_3 := blk_frozen BK417.out 3) | (go_at_call 18; (with_reducible refine (byteset_Minus.calls a0_0 a0_1 a0_2 a0_3 a1_0 a1_1 a1_2 a1_3 t431 t432 t433 t434 _ A15.out).mono ?_); rintro e w111 ⟨rfl, hb⟩; have n0_ := Aside0.mk (blk_below (g := gb416) (o := .cells #[.int .u64 a0_0, .int .u64 a0_1, .int .u64 a0_2, .int .u64 a0_3] 24 (0, 0)) (by (with_reducible repeat (first | refine blk_drewN ?_ _ | refine blk_drew ?_ | refine blk_alloc ?_ _)); exact BK416.out) hb); have n1_ := Aside0.mk (blk_below (g := gb417) (o := .cells #[.int .u64 a1_0, .int .u64 a1_1, .int .u64 a1_2, .int .u64 a1_3] 24 (0, 0)) (by (with_reducible repeat (first | refine blk_drewN ?_ _ | refine blk_drew ?_ | refine blk_alloc ?_ _)); exact BK417.out) hb); have n2_ := Aside0.mk (below_step (by repeat (first | (with_reducible first | exact HB.out | apply below_alloc | apply pw_below_drewN | apply below_drew1 | refine below_set ?_ GE416.out | refine below_set ?_ GE417.out) | exact HB.out)) hb); clear BK416; clear BK417; clear HB; have BK416 := n0_; have BK417 := n1_; have HB := n2_; clear n0_ n1_ n2_; (try clear hb)) | (go_at_call 13; (with_reducible refine (byteset_Has.calls t431 t432 t433 t434 (Go.bits .and .i64 a2 255) t435 _ A16.out).mono ?_); rintro e w112 ⟨rfl, hb⟩; have n0_ := Aside0.mk (blk_below (g := gb416) (o := .cells #[.int .u64 a0_0, .int .u64 a0_1, .int .u64 a0_2, .int .u64 a0_3] 24 (0, 0)) (by (with_reducible repeat (first | refine blk_drewN ?_ _ | refine blk_drew ?_ | refine blk_alloc ?_ _)); exact BK416.out) hb); have n1_ := Aside0.mk (blk_below (g := gb417) (o := .cells #[.int .u64 a1_0, .int .u64 a1_1, .int .u64 a1_2, .int .u64 a1_3] 24 (0, 0)) (by (with_reducible repeat (first | refine blk_drewN ?_ _ | refine blk_drew ?_ | refine blk_alloc ?_ _)); exact BK417.out) hb); have n2_ := Aside0.mk (below_step (by repeat (first | (with_reducible first | exact HB.out | apply below_alloc | apply pw_below_drewN | apply below_drew1 | refine below_set ?_ GE416.out | refine below_set ?_ GE417.out) | exact HB.out)) hb); clear BK416; clear BK417; clear HB; have BK416 := n0_; have BK417 := n1_; have HB := n2_; clear n0_ n1_ n2_; (try clear hb); have hcz113_0 : w112.cell? ⟨gb416, 0, none⟩ = some (.int .u64 a0_0) := (blk_cell BK416.out 0).trans rfl; have hcz113_1 : w112.cell? ⟨gb416, 1, none⟩ = some (.int .u64 a0_1) := (blk_cell BK416.out 1).trans rfl; have hcz113_2 : w112.cell? ⟨gb416, 2, none⟩ = some (.int .u64 a0_2) := (blk_cell BK416.out 2).trans rfl; have hcz113_3 : w112.cell? ⟨gb416, 3, none⟩ = some (.int .u64 a0_3) := (blk_cell BK416.out 3).trans rfl; have hfz113_0 := blk_frozen BK416.out 0; have hfz113_1 := blk_frozen BK416.out 1; have hfz113_2 := blk_frozen BK416.out 2; have hfz113_3 := blk_frozen BK416.out 3) | (go_at_call 13; (with_reducible refine (byteset_Has.calls a0_0 a0_1 a0_2 a0_3 (wrap64 ((Go.bits .and .i64 a2 255) + 256)) false _ A89.out).mono ?_); rintro e w114 ⟨rfl, hb⟩; have n0_ := Aside0.mk (blk_below (g := gb416) (o := .cells #[.int .u64 a0_0, .int .u64 a0_1, .int .u64 a0_2, .int .u64 a0_3] 24 (0, 0)) (by (with_reducible repeat (first | refine blk_drewN ?_ _ | refine blk_drew ?_ | refine blk_alloc ?_ _)); exact BK416.out) hb); have n1_ := Aside0.mk (blk_below (g := gb417) (o := .cells #[.int .u64 a1_0, .int .u64 a1_1, .int .u64 a1_2, .int .u64 a1_3] 24 (0, 0)) (by (with_reducible repeat (first | refine blk_drewN ?_ _ | refine blk_drew ?_ | refine blk_alloc ?_ _)); exact BK417.out) hb); have n2_ := Aside0.mk (below_step (by repeat (first | (with_reducible first | exact HB.out | apply below_alloc | apply pw_below_drewN | apply below_drew1 | refine below_set ?_ GE416.out | refine below_set ?_ GE417.out) | exact HB.out)) hb); clear BK416; clear BK417; clear HB; have BK416 := n0_; have BK417 := n1_; have HB := n2_; clear n0_ n1_ n2_; (try clear hb); have hcz115_0 : w114.cell? ⟨gb416, 0, none⟩ = some (.int .u64 a0_0) := (blk_cell BK416.out 0).trans rfl; have hcz115_1 : w114.cell? ⟨gb416, 1, none⟩ = some (.int .u64 a0_1) := (blk_cell BK416.out 1).trans rfl; have hcz115_2 : w114.cell? ⟨gb416, 2, none⟩ = some (.int .u64 a0_2) := (blk_cell BK416.out 2).trans rfl; have hcz115_3 : w114.cell? ⟨gb416, 3, none⟩ = some (.int .u64 a0_3) := (blk_cell BK416.out 3).trans rfl; have hfz115_0 := blk_frozen BK416.out 0; have hfz115_1 := blk_frozen BK416.out 1; have hfz115_2 := blk_frozen BK416.out 2; have hfz115_3 := blk_frozen BK416.out 3) | (go_at_call 13; (with_reducible refine (byteset_Has.calls a0_0 a0_1 a0_2 a0_3 (wrap64 ((Go.bits .and .i64 a2 255) - 256)) false _ A91.out).mono ?_); rintro e w116 ⟨rfl, hb⟩; have n0_ := Aside0.mk (blk_below (g := gb416) (o := .cells #[.int .u64 a0_0, .int .u64 a0_1, .int .u64 a0_2, .int .u64 a0_3] 24 (0, 0)) (by (with_reducible repeat (first | refine blk_drewN ?_ _ | refine blk_drew ?_ | refine blk_alloc ?_ _)); exact BK416.out) hb); have n1_ := Aside0.mk (blk_below (g := gb417) (o := .cells #[.int .u64 a1_0, .int .u64 a1_1, .int .u64 a1_2, .int .u64 a1_3] 24 (0, 0)) (by (with_reducible repeat (first | refine blk_drewN ?_ _ | refine blk_drew ?_ | refine blk_alloc ?_ _)); exact BK417.out) hb); have n2_ := Aside0.mk (below_step (by repeat (first | (with_reducible first | exact HB.out | apply below_alloc | apply pw_below_drewN | apply below_drew1 | refine below_set ?_ GE416.out | refine below_set ?_ GE417.out) | exact HB.out)) hb); clear BK416; clear BK417; clear HB; have BK416 := n0_; have BK417 := n1_; have HB := n2_; clear n0_ n1_ n2_; (try clear hb)) | (go_at_call 12; (with_reducible refine (templelaw0_Num.calls 0 t444 _ A93.out).mono ?_); rintro e w' ⟨rfl, ⟨nd, rfl⟩⟩))
             go_ret
             exact ⟨by first | rfl | (simp [errW_none, errW_some] <;> rfl) | (simp only [← hji85, ← hji87]; first | rfl | (simp [errW_none, errW_some] <;> rfl)) | (simp [*, errW_none, errW_some] <;> rfl), by repeat (first | (with_reducible first | exact HB.out | apply below_alloc | apply pw_below_drewN | apply below_drew1 | refine below_set ?_ GE416.out | refine below_set ?_ GE417.out) | exact HB.out)⟩
          ·rw [if_neg c88] at H
           exact absurd H (by simp)
         ·rw [if_neg c86] at H
          exact absurd H (by simp)
        ·rw [if_neg c84] at H
         have c84b0 : ((wrap64 (Int.tdiv (Go.bits .and .i64 a2 255) 64)) == 2) = false := beq_eq_false_iff_ne.mpr c84
         have c84b1 : ((wrap64 (Int.tdiv (Go.bits .and .i64 a2 255) 64)) != 2) = true := bne_iff_ne.mpr c84
         by_cases c117 : (wrap64 (Int.tdiv (Go.bits .and .i64 a2 255) 64)) = 3
         ·rw [if_pos c117] at H
          have hji117 := c117
          have c117b0 : ((wrap64 (Int.tdiv (Go.bits .and .i64 a2 255) 64)) == 3) = true := beq_iff_eq.mpr c117
          have c117b1 : ((wrap64 (Int.tdiv (Go.bits .and .i64 a2 255) 64)) != 3) = false := bne_eq_false_iff_eq.mpr c117
          clear c117
          obtain ⟨ji118, hji118⟩ : ∃ j_ : Int, (Int.tmod (Go.bits .and .i64 a2 255) 64) = j_ := ⟨_, rfl⟩
          replace H : (if 0 ≤ (ji118) then (if (true == ((Go.bits .and .u64 (shr .u64 a0_3 (ji118)) 1) == 1)) = true then ((byteset_Has.f a0_0 a0_1 a0_2 a0_3 (wrap64 ((Go.bits .and .i64 a2 255) + 256))).bind fun t445 => (if t445 = true then (none) else ((byteset_Has.f a0_0 a0_1 a0_2 a0_3 (wrap64 ((Go.bits .and .i64 a2 255) - 256))).bind fun t446 => (if t446 = true then (none) else ((templelaw0_Num.f 0).bind fun t447 => (some (t447 == 0))))))) else (none)) else (none)) = some r := by first | (rw [hji118] at H; exact H) | (simp only [hji118] at H ⊢; exact H)
          (try rw [hji118] at A4)
          (try rw [hji118] at A6)
          (try rw [hji118] at A7)
          (try rw [hji118] at A8)
          (try rw [hji118] at A9)
          (try rw [hji118] at A12)
          (try rw [hji118] at A13)
          (try rw [hji118] at A15)
          (try rw [hji118] at A16)
          by_cases c119 : 0 ≤ (ji118)
          ·rw [if_pos c119] at H
           have c119b0 := eq_true c119
           have c119b1 : decide (0 ≤ (ji118)) = true := decide_eq_true c119
           clear c119
           obtain ⟨ji120, hji120⟩ : ∃ j_ : Int, (shr .u64 a0_3 (ji118)) = j_ := ⟨_, rfl⟩
           replace H : (if (true == ((Go.bits .and .u64 (ji120) 1) == 1)) = true then ((byteset_Has.f a0_0 a0_1 a0_2 a0_3 (wrap64 ((Go.bits .and .i64 a2 255) + 256))).bind fun t445 => (if t445 = true then (none) else ((byteset_Has.f a0_0 a0_1 a0_2 a0_3 (wrap64 ((Go.bits .and .i64 a2 255) - 256))).bind fun t446 => (if t446 = true then (none) else ((templelaw0_Num.f 0).bind fun t447 => (some (t447 == 0))))))) else (none)) = some r := by first | (rw [hji120] at H; exact H) | (simp only [hji120] at H ⊢; exact H)
           (try rw [hji120] at A4)
           (try rw [hji120] at A6)
           (try rw [hji120] at A7)
           (try rw [hji120] at A8)
           (try rw [hji120] at A9)
           (try rw [hji120] at A12)
           (try rw [hji120] at A13)
           (try rw [hji120] at A15)
           (try rw [hji120] at A16)
           have hji120_ : (a0_3 / 2 ^ min (ji118).toNat 64) = ji120 := hji120
           have hji120z : (ji118) ≤ 64 → (a0_3 / 2 ^ (ji118).toNat) = ji120 := shr_small hji120
           by_cases c121 : (true == ((Go.bits .and .u64 (ji120) 1) == 1)) = true
           ·rw [if_pos c121] at H
            have c121b0 : (true == ((Go.bits .and .u64 (ji120) 1) == 1)) = true := c121
            (try (have c121b1 : decide (true = ((Go.bits .and .u64 (ji120) 1) == 1)) = true := by simpa using c121))
            (try (have c121b2 : (true == ((Go.bits .and .u64 (ji120) 1) == 1)) = true := by simpa using c121))
            clear c121
            replace H := Option.bind_eq_some_iff.mp H
            obtain ⟨t445, A1220, H⟩ := H
            replace H : (if t445 = true then (none) else ((byteset_Has.f a0_0 a0_1 a0_2 a0_3 (wrap64 ((Go.bits .and .i64 a2 255) - 256))).bind fun t446 => (if t446 = true then (none) else ((templelaw0_Num.f 0).bind fun t447 => (some (t447 == 0)))))) = some r := H
            have A122 := Aside0.mk A1220
            clear A1220
            by_cases c123 : t445 = true
            ·subst c123
             have H1 : (none) = some r := by rw [if_pos rfl] at H; exact H
             clear H
             have H := H1
             clear H1
             exact absurd H (by simp)
            ·replace c123 := Bool.eq_false_iff.mpr c123
             subst c123
             have H1 := H
             rw [if_neg (show ¬ (false = true) by decide)] at H1
             clear H
             have H := H1
             clear H1
             replace H := Option.bind_eq_some_iff.mp H
             obtain ⟨t446, A1240, H⟩ := H
             replace H : (if t446 = true then (none) else ((templelaw0_Num.f 0).bind fun t447 => (some (t447 == 0)))) = some r := H
             have A124 := Aside0.mk A1240
             clear A1240
             by_cases c125 : t446 = true
             ·subst c125
              have H1 : (none) = some r := by rw [if_pos rfl] at H; exact H
              clear H
              have H := H1
              clear H1
              exact absurd H (by simp)
             ·replace c125 := Bool.eq_false_iff.mpr c125
              subst c125
              have H1 : ((templelaw0_Num.f 0).bind fun t447 => (some (t447 == 0))) = some r := by rw [if_neg (show ¬ (false = true) by decide)] at H; exact H
              clear H
              have H := H1
              clear H1
              replace H := Option.bind_eq_some_iff.mp H
              obtain ⟨t447, A1260, H⟩ := H
              replace H : (some (t447 == 0)) = some r := H
              have A126 := Aside0.mk A1260
              clear A1260
              obtain rfl := Option.some.inj H
              go_enter Try.func7, Try.ntmps7
              try go_wp2_with (first | ((with_reducible refine gate_dst (N := 3) rfl ?_); refine box_event ?hg (N := 3) ?hd (cs := #[.int .u64 a0_0, .int .u64 a0_1, .int .u64 a0_2, .int .u64 a0_3]) (t := 24) ?hr ?_; (case hd => rfl); (case hg => rfl); (case hr => first | (go_simp; done) | (go_simp; rfl)); intro gb416 hg w127 hbox hb; have n0_ := Aside0.mk (below_step (by repeat (first | (with_reducible first | exact HB.out | apply below_alloc | apply pw_below_drewN | apply below_drew1) | exact HB.out)) hb); have n1_ := Aside0.mk (hbox); have n2_ := Aside0.mk ((by rw [hg]; exact (below_size (by repeat (first | (with_reducible first | exact HB.out | apply below_alloc | apply pw_below_drewN | apply below_drew1) | exact HB.out))) : w.heap.size ≤ gb416)); have n3_ := Aside0.mk ((by rw [hg]; exact (below_size (by repeat (first | (with_reducible first | exact HB.out | apply below_alloc | apply pw_below_drewN | apply below_drew1) | exact HB.out))) : w.heap.size ≤ gb416)); clear HB; have HB := n0_; have BK416 := n1_; have GW416 := n2_; have GE416 := n3_; clear n0_ n1_ n2_ n3_; clear hb hbox hg) | ((with_reducible refine gate_dst (N := 4) rfl ?_); refine box_event ?hg (N := 4) ?hd (cs := #[.int .u64 a1_0, .int .u64 a1_1, .int .u64 a1_2, .int .u64 a1_3]) (t := 24) ?hr ?_; (case hd => rfl); (case hg => rfl); (case hr => first | (go_simp; done) | (go_simp; rfl)); intro gb417 hg w128 hbox hb; have n0_ := Aside0.mk (blk_below (g := gb416) (o := .cells #[.int .u64 a0_0, .int .u64 a0_1, .int .u64 a0_2, .int .u64 a0_3] 24 (0, 0)) (by (with_reducible repeat (first | refine blk_drewN ?_ _ | refine blk_drew ?_ | refine blk_alloc ?_ _)); exact BK416.out) hb); have n1_ := Aside0.mk (below_step (by repeat (first | (with_reducible first | exact HB.out | apply below_alloc | apply pw_below_drewN | apply below_drew1 | refine below_set ?_ GE416.out) | exact HB.out)) hb); have n2_ := Aside0.mk (hbox); have n3_ := Aside0.mk ((by rw [hg]; exact (below_size (by repeat (first | (with_reducible first | exact HB.out | apply below_alloc | apply pw_below_drewN | apply below_drew1 | refine below_set ?_ GE416.out) | exact HB.out))) : w.heap.size ≤ gb417)); have n4_ := Aside0.mk ((by rw [hg]; exact (below_size (by repeat (first | (with_reducible first | exact HB.out | apply below_alloc | apply pw_below_drewN | apply below_drew1 | refine below_set ?_ GE416.out) | exact HB.out))) : w.heap.size ≤ gb417)); have n5_ := Aside0.mk ((by rw [hg]; exact Nat.ne_of_lt (blk_lt (g := gb416) (o := .cells #[.int .u64 a0_0, .int .u64 a0_1, .int .u64 a0_2, .int .u64 a0_3] 24 (0, 0)) (by (with_reducible repeat (first | refine blk_drewN ?_ _ | refine blk_drew ?_ | refine blk_alloc ?_ _)); exact BK416.out)) : gb416 ≠ gb417)); have n6_ := Aside0.mk ((by rw [hg]; exact Nat.ne_of_gt (blk_lt (g := gb416) (o := .cells #[.int .u64 a0_0, .int .u64 a0_1, .int .u64 a0_2, .int .u64 a0_3] 24 (0, 0)) (by (with_reducible repeat (first | refine blk_drewN ?_ _ | refine blk_drew ?_ | refine blk_alloc ?_ _)); exact BK416.out)) : gb417 ≠ gb416)); clear BK416; clear HB; have BK416 := n0_; have HB := n1_; have BK417 := n2_; have GW417 := n3_; have GE417 := n4_; have NB416_417 := n5_; have NB417_416 := n6_; clear n0_ n1_ n2_ n3_ n4_ n5_ n6_; clear hb hbox hg) | (go_at_call 24; (with_reducible refine (templelaw1_awake.calls k  true _ A4.out).mono ?_); rintro e w129 ⟨rfl, hb⟩; have n0_ := Aside0.mk (blk_below (g := gb416) (o := .cells #[.int .u64 a0_0, .int .u64 a0_1, .int .u64 a0_2, .int .u64 a0_3] 24 (0, 0)) (by (with_reducible repeat (first | refine blk_drewN ?_ _ | refine blk_drew ?_ | refine blk_alloc ?_ _)); exact BK416.out) hb); have n1_ := Aside0.mk (blk_below (g := gb417) (o := .cells #[.int .u64 a1_0, .int .u64 a1_1, .int .u64 a1_2, .int .u64 a1_3] 24 (0, 0)) (by (with_reducible repeat (first | refine blk_drewN ?_ _ | refine blk_drew ?_ | refine blk_alloc ?_ _)); exact BK417.out) hb); have n2_ := Aside0.mk (below_step (by repeat (first | (with_reducible first | exact HB.out | apply below_alloc | apply pw_below_drewN | apply below_drew1 | refine below_set ?_ GE416.out | refine below_set ?_ GE417.out) | exact HB.out)) hb); clear BK416; clear BK417; clear HB; have BK416 := n0_; have BK417 := n1_; have HB := n2_; clear n0_ n1_ n2_; (try clear hb)))
              have n0_ := Aside0.mk (blk_drew BK416.out)
              have n1_ := Aside0.mk (blk_drew BK417.out)
              have n2_ := Aside0.mk (below_drew1 HB.out)
              clear BK416
              clear BK417
              clear HB
              have BK416 := n0_
              have BK417 := n1_
              have HB := n2_
              clear n0_ n1_ n2_
              refine start_ (n := 8) (S := fun w' => w'.cell? ⟨gb416, 0, none⟩ = some (.int .u64 a0_0) ∧ w'.cell? ⟨gb416, 1, none⟩ = some (.int .u64 a0_1) ∧ w'.cell? ⟨gb416, 2, none⟩ = some (.int .u64 a0_2) ∧ w'.cell? ⟨gb416, 3, none⟩ = some (.int .u64 a0_3) ∧ w'.cell? ⟨gb417, 0, none⟩ = some (.int .u64 a1_0) ∧ w'.cell? ⟨gb417, 1, none⟩ = some (.int .u64 a1_1) ∧ w'.cell? ⟨gb417, 2, none⟩ = some (.int .u64 a1_2) ∧ w'.cell? ⟨gb417, 3, none⟩ = some (.int .u64 a1_3)) (ds := []) #[false, false, false, false, false, false, false, false] (by kernel_rfl) rfl rfl ⟨(blk_cell BK416.out 0).trans rfl, (blk_cell BK416.out 1).trans rfl, (blk_cell BK416.out 2).trans rfl, (blk_cell BK416.out 3).trans rfl, (blk_cell BK417.out 0).trans rfl, (blk_cell BK417.out 1).trans rfl, (blk_cell BK417.out 2).trans rfl, (blk_cell BK417.out 3).trans rfl⟩ (fun hHeld => ?_); refine with_tabW templelaw1_SetBits.tab4 templelaw1_SetBits.bits4 (fun HT_ HW_ => ?_)
              generalize w129.drew = w130 at BK416 BK417 HB hHeld ⊢
              refine pure_ (i := 1) (N := some 15) (v := ?_) (a' := ?_) #[false, true, false, false, false, false, false, false] rfl rfl (any_of HT_.out (by kernel_rfl)) (fun _ _ _ h => h) (Or.inl ⟨by rfl, ?_⟩) ?_ ?_
              rotate_left
              ·intro w'
               go_simp
               with_reducible rfl
              rotate_left
              ·simp only [Act.put, List.setIfInBounds_toArray, List.set_cons_zero, List.set_cons_succ, i64_w, i32_w]
               rfl
              refine pure_ (i := 4) (N := some 18) (v := ?_) (a' := ?_) #[false, true, false, false, true, false, false, false] rfl rfl (any_of HT_.out (by kernel_rfl)) (fun _ _ _ h => h) (Or.inl ⟨by rfl, ?_⟩) ?_ ?_
              rotate_left
              ·intro w'
               go_simp
               with_reducible rfl
              rotate_left
              ·simp only [Act.put, List.setIfInBounds_toArray, List.set_cons_zero, List.set_cons_succ, i64_w, i32_w]
               rfl
              refine take_ (i := 0) (N := some 14) (v := ?_) (a' := ?_) #[true, true, false, false, true, false, false, false] rfl rfl (take_ofW HT_.out HW_.out (by kernel_rfl)) (fun _ _ _ h => h) (Or.inl ⟨by rfl, ?_⟩) hHeld ?_ ?_
              rotate_left
              ·rintro w' ⟨s0, s1, s2, s3, s4, s5, s6, s7⟩
               go_simp
               with_reducible rfl
              rotate_left
              ·simp only [Act.put, List.setIfInBounds_toArray, List.set_cons_zero, List.set_cons_succ, i64_w, i32_w]
               rfl
              refine take_ (i := 3) (N := some 17) (v := ?_) (a' := ?_) #[true, true, false, true, true, false, false, false] rfl rfl (take_ofW HT_.out HW_.out (by kernel_rfl)) (fun _ _ _ h => h) (Or.inl ⟨by rfl, ?_⟩) hHeld ?_ ?_
              rotate_left
              ·rintro w' ⟨s0, s1, s2, s3, s4, s5, s6, s7⟩
               go_simp
               with_reducible rfl
              rotate_left
              ·simp only [Act.put, List.setIfInBounds_toArray, List.set_cons_zero, List.set_cons_succ, i64_w, i32_w]
               rfl
              refine one_ (i := 2) (N := some 16) #[true, true, true, true, true, false, false, false] rfl rfl (one_of HT_.out (by kernel_rfl)) (by decide) (fun K hK => ?_)
              refine goes_ Try.func13 (by kernel_rfl) rfl #[.agg #[.int .u64 a0_0, .int .u64 a0_1, .int .u64 a0_2, .int .u64 a0_3], .int .i64 (Go.bits .and .i64 a2 255)] (by rfl) rfl rfl (by (try simp only [List.map_toArray, List.map_cons, List.map_nil]); first | done | rfl | (simp only [List.length_drop, List.length_take]; rfl)) ?_
              with_reducible refine (byteset_Has.calls a0_0 a0_1 a0_2 a0_3 (Go.bits .and .i64 a2 255) true _ A6.out).mono ?_
              rintro e w131 ⟨rfl, hb⟩
              refine ⟨_, rfl, ?_⟩
              have n0_ := Aside0.mk (blk_below (g := gb416) (o := .cells #[.int .u64 a0_0, .int .u64 a0_1, .int .u64 a0_2, .int .u64 a0_3] 24 (0, 0)) (by (with_reducible repeat (first | refine blk_drewN ?_ _ | refine blk_drew ?_ | refine blk_alloc ?_ _)); exact BK416.out) hb)
              have n1_ := Aside0.mk (blk_below (g := gb417) (o := .cells #[.int .u64 a1_0, .int .u64 a1_1, .int .u64 a1_2, .int .u64 a1_3] 24 (0, 0)) (by (with_reducible repeat (first | refine blk_drewN ?_ _ | refine blk_drew ?_ | refine blk_alloc ?_ _)); exact BK417.out) hb)
              have n2_ := Aside0.mk (below_step (by repeat (first | (with_reducible first | exact HB.out | apply below_alloc | apply pw_below_drewN | apply below_drew1 | refine below_set ?_ GE416.out | refine below_set ?_ GE417.out) | exact HB.out)) hb)
              clear BK416
              clear BK417
              clear HB
              have BK416 := n0_
              have BK417 := n1_
              have HB := n2_
              clear n0_ n1_ n2_
              (try clear hb)
              (try clear hb2)
              (try clear hk)
              (try clear hi)
              refine hK.out _ _ ⟨(blk_cell BK416.out 0).trans rfl, (blk_cell BK416.out 1).trans rfl, (blk_cell BK416.out 2).trans rfl, (blk_cell BK416.out 3).trans rfl, (blk_cell BK417.out 0).trans rfl, (blk_cell BK417.out 1).trans rfl, (blk_cell BK417.out 2).trans rfl, (blk_cell BK417.out 3).trans rfl⟩ (fun hHeld => ?_)
              clear hK K
              refine norm_ (a' := ?_) ?_ ?_
              rotate_left
              ·show Act.put _ (some 16) _ = _
               simp only [Act.put, List.setIfInBounds_toArray, List.set_cons_zero, List.set_cons_succ, i64_w, i32_w]
               rfl
              refine one_ (i := 5) (N := some 19) #[true, true, true, true, true, true, false, false] rfl rfl (one_of HT_.out (by kernel_rfl)) (by decide) (fun K hK => ?_)
              refine goes_ Try.func13 (by kernel_rfl) rfl #[.agg #[.int .u64 a1_0, .int .u64 a1_1, .int .u64 a1_2, .int .u64 a1_3], .int .i64 (Go.bits .and .i64 a2 255)] (by rfl) rfl rfl (by (try simp only [List.map_toArray, List.map_cons, List.map_nil]); first | done | rfl | (simp only [List.length_drop, List.length_take]; rfl)) ?_
              with_reducible refine (byteset_Has.calls a1_0 a1_1 a1_2 a1_3 (Go.bits .and .i64 a2 255) t420 _ A7.out).mono ?_
              rintro e w132 ⟨rfl, hb⟩
              refine ⟨_, rfl, ?_⟩
              have n0_ := Aside0.mk (blk_below (g := gb416) (o := .cells #[.int .u64 a0_0, .int .u64 a0_1, .int .u64 a0_2, .int .u64 a0_3] 24 (0, 0)) (by (with_reducible repeat (first | refine blk_drewN ?_ _ | refine blk_drew ?_ | refine blk_alloc ?_ _)); exact BK416.out) hb)
              have n1_ := Aside0.mk (blk_below (g := gb417) (o := .cells #[.int .u64 a1_0, .int .u64 a1_1, .int .u64 a1_2, .int .u64 a1_3] 24 (0, 0)) (by (with_reducible repeat (first | refine blk_drewN ?_ _ | refine blk_drew ?_ | refine blk_alloc ?_ _)); exact BK417.out) hb)
              have n2_ := Aside0.mk (below_step (by repeat (first | (with_reducible first | exact HB.out | apply below_alloc | apply pw_below_drewN | apply below_drew1 | refine below_set ?_ GE416.out | refine below_set ?_ GE417.out) | exact HB.out)) hb)
              clear BK416
              clear BK417
              clear HB
              have BK416 := n0_
              have BK417 := n1_
              have HB := n2_
              clear n0_ n1_ n2_
              (try clear hb)
              (try clear hb2)
              (try clear hk)
              (try clear hi)
              refine hK.out _ _ ⟨(blk_cell BK416.out 0).trans rfl, (blk_cell BK416.out 1).trans rfl, (blk_cell BK416.out 2).trans rfl, (blk_cell BK416.out 3).trans rfl, (blk_cell BK417.out 0).trans rfl, (blk_cell BK417.out 1).trans rfl, (blk_cell BK417.out 2).trans rfl, (blk_cell BK417.out 3).trans rfl⟩ (fun hHeld => ?_)
              clear hK K
              refine norm_ (a' := ?_) ?_ ?_
              rotate_left
              ·show Act.put _ (some 19) _ = _
               simp only [Act.put, List.setIfInBounds_toArray, List.set_cons_zero, List.set_cons_succ, i64_w, i32_w]
               rfl
              refine pure_ (i := 6) (N := some 8) (v := ?_) (a' := ?_) #[true, true, true, true, true, true, true, false] rfl rfl (any_of HT_.out (by kernel_rfl)) (fun _ _ _ h => h) (Or.inl ⟨by rfl, ?_⟩) ?_ ?_
              rotate_left
              ·intro w'
               go_simp
               with_reducible rfl
              rotate_left
              ·simp only [Act.put, List.setIfInBounds_toArray, List.set_cons_zero, List.set_cons_succ, i64_w, i32_w]
               rfl
              refine pure_ (i := 7) (N := some 9) (v := ?_) (a' := ?_) #[true, true, true, true, true, true, true, true] rfl rfl (any_of HT_.out (by kernel_rfl)) (fun _ _ _ h => h) (Or.inl ⟨by rfl, ?_⟩) ?_ ?_
              rotate_left
              ·intro w'
               go_simp
               with_reducible rfl
              rotate_left
              ·simp only [Act.put, List.setIfInBounds_toArray, List.set_cons_zero, List.set_cons_succ, i64_w, i32_w]
               rfl
              refine done_ (done_of HT_.out (by kernel_rfl)) ?_
              have hnb133 := NB416_417.out
              have hnc133 := NB417_416.out
              have hcz134_0 : w132.cell? ⟨gb416, 0, none⟩ = some (.int .u64 a0_0) := (blk_cell BK416.out 0).trans rfl
              have hcz134_1 : w132.cell? ⟨gb416, 1, none⟩ = some (.int .u64 a0_1) := (blk_cell BK416.out 1).trans rfl
              have hcz134_2 : w132.cell? ⟨gb416, 2, none⟩ = some (.int .u64 a0_2) := (blk_cell BK416.out 2).trans rfl
              have hcz134_3 : w132.cell? ⟨gb416, 3, none⟩ = some (.int .u64 a0_3) := (blk_cell BK416.out 3).trans rfl
              have hfz134_0 := blk_frozen BK416.out 0
              have hfz134_1 := blk_frozen BK416.out 1
              have hfz134_2 := blk_frozen BK416.out 2
              have hfz134_3 := blk_frozen BK416.out 3
              have hcz135_0 : w132.cell? ⟨gb417, 0, none⟩ = some (.int .u64 a1_0) := (blk_cell BK417.out 0).trans rfl
              have hcz135_1 : w132.cell? ⟨gb417, 1, none⟩ = some (.int .u64 a1_1) := (blk_cell BK417.out 1).trans rfl
              have hcz135_2 : w132.cell? ⟨gb417, 2, none⟩ = some (.int .u64 a1_2) := (blk_cell BK417.out 2).trans rfl
              have hcz135_3 : w132.cell? ⟨gb417, 3, none⟩ = some (.int .u64 a1_3) := (blk_cell BK417.out 3).trans rfl
              have hfz135_0 := blk_frozen BK417.out 0
              have hfz135_1 := blk_frozen BK417.out 1
              have hfz135_2 := blk_frozen BK417.out 2
              have hfz135_3 := blk_frozen BK417.out 3
              try go_wp2_with (first | (go_at_call 15; (with_reducible refine (byteset_Or.calls a0_0 a0_1 a0_2 a0_3 a1_0 a1_1 a1_2 a1_3 t421 t422 t423 t424 _ A8.out).mono ?_); rintro e w136 ⟨rfl, hb⟩; have n0_ := Aside0.mk (blk_below (g := gb416) (o := .cells #[.int .u64 a0_0, .int .u64 a0_1, .int .u64 a0_2, .int .u64 a0_3] 24 (0, 0)) (by (with_reducible repeat (first | refine blk_drewN ?_ _ | refine blk_drew ?_ | refine blk_alloc ?_ _)); exact BK416.out) hb); have n1_ := Aside0.mk (blk_below (g := gb417) (o := .cells #[.int .u64 a1_0, .int .u64 a1_1, .int .u64 a1_2, .int .u64 a1_3] 24 (0, 0)) (by (with_reducible repeat (first | refine blk_drewN ?_ _ | refine blk_drew ?_ | refine blk_alloc ?_ _)); exact BK417.out) hb); have n2_ := Aside0.mk (below_step (by repeat (first | (with_reducible first | exact HB.out | apply below_alloc | apply pw_below_drewN | apply below_drew1 | refine below_set ?_ GE416.out | refine below_set ?_ GE417.out) | exact HB.out)) hb); clear BK416; clear BK417; clear HB; have BK416 := n0_; have BK417 := n1_; have HB := n2_; clear n0_ n1_ n2_; (try clear hb)) | (go_at_call 13; (with_reducible refine (byteset_Has.calls t421 t422 t423 t424 (Go.bits .and .i64 a2 255) t425 _ A9.out).mono ?_); rintro e w137 ⟨rfl, hb⟩; have n0_ := Aside0.mk (blk_below (g := gb416) (o := .cells #[.int .u64 a0_0, .int .u64 a0_1, .int .u64 a0_2, .int .u64 a0_3] 24 (0, 0)) (by (with_reducible repeat (first | refine blk_drewN ?_ _ | refine blk_drew ?_ | refine blk_alloc ?_ _)); exact BK416.out) hb); have n1_ := Aside0.mk (blk_below (g := gb417) (o := .cells #[.int .u64 a1_0, .int .u64 a1_1, .int .u64 a1_2, .int .u64 a1_3] 24 (0, 0)) (by (with_reducible repeat (first | refine blk_drewN ?_ _ | refine blk_drew ?_ | refine blk_alloc ?_ _)); exact BK417.out) hb); have n2_ := Aside0.mk (below_step (by repeat (first | (with_reducible first | exact HB.out | apply below_alloc | apply pw_below_drewN | apply below_drew1 | refine below_set ?_ GE416.out | refine below_set ?_ GE417.out) | exact HB.out)) hb); clear BK416; clear BK417; clear HB; have BK416 := n0_; have BK417 := n1_; have HB := n2_; clear n0_ n1_ n2_; (try clear hb); have hcz138_0 : w137.cell? ⟨gb416, 0, none⟩ = some (.int .u64 a0_0) := (blk_cell BK416.out 0).trans rfl; have hcz138_1 : w137.cell? ⟨gb416, 1, none⟩ = some (.int .u64 a0_1) := (blk_cell BK416.out 1).trans rfl; have hcz138_2 : w137.cell? ⟨gb416, 2, none⟩ = some (.int .u64 a0_2) := (blk_cell BK416.out 2).trans rfl; have hcz138_3 : w137.cell? ⟨gb416, 3, none⟩ = some (.int .u64 a0_3) := (blk_cell BK416.out 3).trans rfl; have hfz138_0 := blk_frozen BK416.out 0; have hfz138_1 := blk_frozen BK416.out 1; have hfz138_2 := blk_frozen BK416.out 2; have hfz138_3 := blk_frozen BK416.out 3; have hcz139_0 : w137.cell? ⟨gb417, 0, none⟩ = some (.int .u64 a1_0) := (blk_cell BK417.out 0).trans rfl; have hcz139_1 : w137.cell? ⟨gb417, 1, none⟩ = some (.int .u64 a1_1) := (blk_cell BK417.out 1).trans rfl; have hcz139_2 : w137.cell? ⟨gb417, 2, none⟩ = some (.int .u64 a1_2) := (blk_cell BK417.out 2).trans rfl; have hcz139_3 : w137.cell? ⟨gb417, 3, none⟩ = some (.int .u64 a1_3) := (blk_cell BK417.out 3).trans rfl; have hfz139_0 := blk_frozen BK417.out 0; have hfz139_1 := blk_frozen BK417.out 1; have hfz139_2 := blk_frozen BK417.out 2; have hfz139_3 := blk_frozen BK417.out 3) | (go_at_call 17; (with_reducible refine (byteset_And.calls a0_0 a0_1 a0_2 a0_3 a1_0 a1_1 a1_2 a1_3 t426 t427 t428 t429 _ A12.out).mono ?_); rintro e w140 ⟨rfl, hb⟩; have n0_ := Aside0.mk (blk_below (g := gb416) (o := .cells #[.int .u64 a0_0, .int .u64 a0_1, .int .u64 a0_2, .int .u64 a0_3] 24 (0, 0)) (by (with_reducible repeat (first | refine blk_drewN ?_ _ | refine blk_drew ?_ | refine blk_alloc ?_ _)); exact BK416.out) hb); have n1_ := Aside0.mk (blk_below (g := gb417) (o := .cells #[.int .u64 a1_0, .int .u64 a1_1, .int .u64 a1_2, .int .u64 a1_3] 24 (0, 0)) (by (with_reducible repeat (first | refine blk_drewN ?_ _ | refine blk_drew ?_ | refine blk_alloc ?_ _)); exact BK417.out) hb); have n2_ := Aside0.mk (below_step (by repeat (first | (with_reducible first | exact HB.out | apply below_alloc | apply pw_below_drewN | apply below_drew1 | refine below_set ?_ GE416.out | refine below_set ?_ GE417.out) | exact HB.out)) hb); clear BK416; clear BK417; clear HB; have BK416 := n0_; have BK417 := n1_; have HB := n2_; clear n0_ n1_ n2_; (try clear hb)) | (go_at_call 13; (with_reducible refine (byteset_Has.calls t426 t427 t428 t429 (Go.bits .and .i64 a2 255) t430 _ A13.out).mono ?_); rintro e w141 ⟨rfl, hb⟩; have n0_ := Aside0.mk (blk_below (g := gb416) (o := .cells #[.int .u64 a0_0, .int .u64 a0_1, .int .u64 a0_2, .int .u64 a0_3] 24 (0, 0)) (by (with_reducible repeat (first | refine blk_drewN ?_ _ | refine blk_drew ?_ | refine blk_alloc ?_ _)); exact BK416.out) hb); have n1_ := Aside0.mk (blk_below (g := gb417) (o := .cells #[.int .u64 a1_0, .int .u64 a1_1, .int .u64 a1_2, .int .u64 a1_3] 24 (0, 0)) (by (with_reducible repeat (first | refine blk_drewN ?_ _ | refine blk_drew ?_ | refine blk_alloc ?_ _)); exact BK417.out) hb); have n2_ := Aside0.mk (below_step (by repeat (first | (with_reducible first | exact HB.out | apply below_alloc | apply pw_below_drewN | apply below_drew1 | refine below_set ?_ GE416.out | refine below_set ?_ GE417.out) | exact HB.out)) hb); clear BK416; clear BK417; clear HB; have BK416 := n0_; have BK417 := n1_; have HB := n2_; clear n0_ n1_ n2_; (try clear hb); have hcz142_0 : w141.cell? ⟨gb416, 0, none⟩ = some (.int .u64 a0_0) := (blk_cell BK416.out 0).trans rfl; have hcz142_1 : w141.cell? ⟨gb416, 1, none⟩ = some (.int .u64 a0_1) := (blk_cell BK416.out 1).trans rfl; have hcz142_2 : w141.cell? ⟨gb416, 2, none⟩ = some (.int .u64 a0_2) := (blk_cell BK416.out 2).trans rfl; have hcz142_3 : w141.cell? ⟨gb416, 3, none⟩ = some (.int .u64 a0_3) := (blk_cell BK416.out 3).trans rfl; have hfz142_0 := blk_frozen BK416.out 0; have hfz142_1 := blk_frozen BK416.out 1; have hfz142_2 := blk_frozen BK416.out 2; have hfz142_3 := blk_frozen BK416.out 3; have hcz143_0 : w141.cell? ⟨gb417, 0, none⟩ = some (.int .u64 a1_0) := (blk_cell BK417.out 0).trans rfl; have hcz143_1 : w141.cell? ⟨gb417, 1, none⟩ = some (.int .u64 a1_1) := (blk_cell BK417.out 1).trans rfl; have hcz143_2 : w141.cell? ⟨gb417, 2, none⟩ = some (.int .u64 a1_2) := (blk_cell BK417.out 2).trans rfl; have hcz143_3 : w141.cell? ⟨gb417, 3, none⟩ = some (.int .u64 a1_3) := (blk_cell BK417.out 3).trans rfl; have hfz143_0 := blk_frozen BK417.out 0; have hfz143_1 := blk_frozen BK417.out 1; have hfz143_2 := blk_frozen BK417.out 2; have hfz143_3 := blk_frozen BK417.out 3) | (go_at_call 18; (with_reducible refine (byteset_Minus.calls a0_0 a0_1 a0_2 a0_3 a1_0 a1_1 a1_2 a1_3 t431 t432 t433 t434 _ A15.out).mono ?_); rintro e w144 ⟨rfl, hb⟩; have n0_ := Aside0.mk (blk_below (g := gb416) (o := .cells #[.int .u64 a0_0, .int .u64 a0_1, .int .u64 a0_2, .int .u64 a0_3] 24 (0, 0)) (by (with_reducible repeat (first | refine blk_drewN ?_ _ | refine blk_drew ?_ | refine blk_alloc ?_ _)); exact BK416.out) hb); have n1_ := Aside0.mk (blk_below (g := gb417) (o := .cells #[.int .u64 a1_0, .int .u64 a1_1, .int .u64 a1_2, .int .u64 a1_3] 24 (0, 0)) (by (with_reducible repeat (first | refine blk_drewN ?_ _ | refine blk_drew ?_ | refine blk_alloc ?_ _)); exact BK417.out) hb); have n2_ := Aside0.mk (below_step (by repeat (first | (with_reducible first | exact HB.out | apply below_alloc | apply pw_below_drewN | apply below_drew1 | refine below_set ?_ GE416.out | refine below_set ?_ GE417.out) | exact HB.out)) hb); clear BK416; clear BK417; clear HB; have BK416 := n0_; have BK417 := n1_; have HB := n2_; clear n0_ n1_ n2_; (try clear hb)) | (go_at_call 13; (with_reducible refine (byteset_Has.calls t431 t432 t433 t434 (Go.bits .and .i64 a2 255) t435 _ A16.out).mono ?_); rintro e w145 ⟨rfl, hb⟩; have n0_ := Aside0.mk (blk_below (g := gb416) (o := .cells #[.int .u64 a0_0, .int .u64 a0_1, .int .u64 a0_2, .int .u64 a0_3] 24 (0, 0)) (by (with_reducible repeat (first | refine blk_drewN ?_ _ | refine blk_drew ?_ | refine blk_alloc ?_ _)); exact BK416.out) hb); have n1_ := Aside0.mk (blk_below (g := gb417) (o := .cells #[.int .u64 a1_0, .int .u64 a1_1, .int .u64 a1_2, .int .u64 a1_3] 24 (0, 0)) (by (with_reducible repeat (first | refine blk_drewN ?_ _ | refine blk_drew ?_ | refine blk_alloc ?_ _)); exact BK417.out) hb); have n2_ := Aside0.mk (below_step (by repeat (first | (with_reducible first | exact HB.out | apply below_alloc | apply pw_below_drewN | apply below_drew1 | refine below_set ?_ GE416.out | refine below_set ?_ GE417.out) | exact HB.out)) hb); clear BK416; clear BK417; clear HB; have BK416 := n0_; have BK417 := n1_; have HB := n2_; clear n0_ n1_ n2_; (try clear hb); have hcz146_0 : w145.cell? ⟨gb416, 0, none⟩ = some (.int .u64 a0_0) := (blk_cell BK416.out 0).trans rfl; have hcz146_1 : w145.cell? ⟨gb416, 1, none⟩ = some (.int .u64 a0_1) := (blk_cell BK416.out 1).trans rfl; have hcz146_2 : w145.cell? ⟨gb416, 2, none⟩ = some (.int .u64 a0_2) := (blk_cell BK416.out 2).trans rfl; have hcz146_3 : w145.cell? ⟨gb416, 3, none⟩ = some (.int .u64 a0_3) := (blk_cell BK416.out 3).trans rfl; have hfz146_0 := blk_frozen BK416.out 0; have hfz146_1 := blk_frozen BK416.out 1; have hfz146_2 := blk_frozen BK416.out 2; have hfz146_3 := blk_frozen BK416.out 3) | (go_at_call 13; (with_reducible refine (byteset_Has.calls a0_0 a0_1 a0_2 a0_3 (wrap64 ((Go.bits .and .i64 a2 255) + 256)) false _ A122.out).mono ?_); rintro e w147 ⟨rfl, hb⟩; have n0_ := Aside0.mk (blk_below (g := gb416) (o := .cells #[.int .u64 a0_0, .int .u64 a0_1, .int .u64 a0_2, .int .u64 a0_3] 24 (0, 0)) (by (with_reducible repeat (first | refine blk_drewN ?_ _ | refine blk_drew ?_ | refine blk_alloc ?_ _)); exact BK416.out) hb); have n1_ := Aside0.mk (blk_below (g := gb417) (o := .cells #[.int .u64 a1_0, .int .u64 a1_1, .int .u64 a1_2, .int .u64 a1_3] 24 (0, 0)) (by (with_reducible repeat (first | refine blk_drewN ?_ _ | refine blk_drew ?_ | refine blk_alloc ?_ _)); exact BK417.out) hb); have n2_ := Aside0.mk (below_step (by repeat (first | (with_reducible first | exact HB.out | apply below_alloc | apply pw_below_drewN | apply below_drew1 | refine below_set ?_ GE416.out | refine below_set ?_ GE417.out) | exact HB.out)) hb); clear BK416; clear BK417; clear HB; have BK416 := n0_; have BK417 := n1_; have HB := n2_; clear n0_ n1_ n2_; (try clear hb); have hcz148_0 : w147.cell? ⟨gb416, 0, none⟩ = some (.int .u64 a0_0) := (blk_cell BK416.out 0).trans rfl; have hcz148_1 : w147.cell? ⟨gb416, 1, none⟩ = some (.int .u64 a0_1) := (blk_cell BK416.out 1).trans rfl; have hcz148_2 : w147.cell? ⟨gb416, 2, none⟩ = some (.int .u64 a0_2) := (blk_cell BK416.out 2).trans rfl; have hcz148_3 : w147.cell? ⟨gb416, 3, none⟩ = some (.int .u64 a0_3) := (blk_cell BK416.out 3).trans rfl; have hfz148_0 := blk_frozen BK416.out 0; have hfz148_1 := blk_frozen BK416.out 1; have hfz148_2 := blk_frozen BK416.out 2; have hfz148_3 := blk_frozen BK416.out 3) | (go_at_call 13; (with_reducible refine (byteset_Has.calls a0_0 a0_1 a0_2 a0_3 (wrap64 ((Go.bits .and .i64 a2 255) - 256)) false _ A124.out).mono ?_); rintro e w149 ⟨rfl, hb⟩; have n0_ := Aside0.mk (blk_below (g := gb416) (o := .cells #[.int .u64 a0_0, .int .u64 a0_1, .int .u64 a0_2, .int .u64 a0_3] 24 (0, 0)) (by (with_reducible repeat (first | refine blk_drewN ?_ _ | refine blk_drew ?_ | refine blk_alloc ?_ _)); exact BK416.out) hb); have n1_ := Aside0.mk (blk_below (g := gb417) (o := .cells #[.int .u64 a1_0, .int .u64 a1_1, .int .u64 a1_2, .int .u64 a1_3] 24 (0, 0)) (by (with_reducible repeat (first | refine blk_drewN ?_ _ | refine blk_drew ?_ | refine blk_alloc ?_ _)); exact BK417.out) hb); have n2_ := Aside0.mk (below_step (by repeat (first | (with_reducible first | exact HB.out | apply below_alloc | apply pw_below_drewN | apply below_drew1 | refine below_set ?_ GE416.out | refine below_set ?_ GE417.out) | exact HB.out)) hb); clear BK416; clear BK417; clear HB; have BK416 := n0_; have BK417 := n1_; have HB := n2_; clear n0_ n1_ n2_; (try clear hb)) | (go_at_call 12; (with_reducible refine (templelaw0_Num.calls 0 t447 _ A126.out).mono ?_); rintro e w' ⟨rfl, ⟨nd, rfl⟩⟩))
              go_ret
              exact ⟨by first | rfl | (simp [errW_none, errW_some] <;> rfl) | (simp only [← hji118, ← hji120]; first | rfl | (simp [errW_none, errW_some] <;> rfl)) | (simp [*, errW_none, errW_some] <;> rfl), by repeat (first | (with_reducible first | exact HB.out | apply below_alloc | apply pw_below_drewN | apply below_drew1 | refine below_set ?_ GE416.out | refine below_set ?_ GE417.out) | exact HB.out)⟩
           ·rw [if_neg c121] at H
            exact absurd H (by simp)
          ·rw [if_neg c119] at H
           exact absurd H (by simp)
         ·rw [if_neg c117] at H
          exact absurd H (by simp)
     ·rw [if_neg c17] at H
      exact absurd H (by simp)
    ·rw [if_neg c14] at H
     exact absurd H (by simp)
   ·rw [if_neg c11] at H
    exact absurd H (by simp)
  ·replace c10 := Bool.eq_false_iff.mpr c10
   subst c10
   have H1 := H
   rw [if_neg (show ¬ (false = true) by decide)] at H1
   clear H
   have H := H1
   clear H1
   by_cases c150 : (t425 == t420) = true
   ·rw [if_pos c150] at H
    have c150b0 : (t425 == t420) = true := c150
    (try (have c150b1 : decide (t425 = t420) = true := by simpa using c150))
    (try (have c150b2 : (t425 == t420) = true := by simpa using c150))
    clear c150
    replace H := Option.bind_eq_some_iff.mp H
    obtain ⟨⟨t448, t449, t450, t451⟩, A1510, H⟩ := H
    try dsimp only at H
    have A151 := Aside0.mk A1510
    clear A1510
    replace H := Option.bind_eq_some_iff.mp H
    obtain ⟨t452, A1520, H⟩ := H
    try dsimp only at H
    have A152 := Aside0.mk A1520
    clear A1520
    by_cases c153 : (t452 == false) = true
    ·rw [if_pos c153] at H
     have c153b0 : (t452 == false) = true := c153
     (try (have c153b1 : decide (t452 = false) = true := by simpa using c153))
     (try (have c153b2 : (t452 == false) = true := by simpa using c153))
     clear c153
     replace H := Option.bind_eq_some_iff.mp H
     obtain ⟨⟨t453, t454, t455, t456⟩, A1540, H⟩ := H
     try dsimp only at H
     have A154 := Aside0.mk A1540
     clear A1540
     replace H := Option.bind_eq_some_iff.mp H
     obtain ⟨t457, A1550, H⟩ := H
     try dsimp only at H
     have A155 := Aside0.mk A1550
     clear A1550
     by_cases c156 : (t457 == false) = true
     ·rw [if_pos c156] at H
      have c156b0 : (t457 == false) = true := c156
      (try (have c156b1 : decide (t457 = false) = true := by simpa using c156))
      (try (have c156b2 : (t457 == false) = true := by simpa using c156))
      clear c156
      by_cases c157 : (wrap64 (Int.tdiv (Go.bits .and .i64 a2 255) 64)) = 0
      ·rw [if_pos c157] at H
       have hji157 := c157
       have c157b0 : ((wrap64 (Int.tdiv (Go.bits .and .i64 a2 255) 64)) == 0) = true := beq_iff_eq.mpr c157
       have c157b1 : ((wrap64 (Int.tdiv (Go.bits .and .i64 a2 255) 64)) != 0) = false := bne_eq_false_iff_eq.mpr c157
       clear c157
       obtain ⟨ji158, hji158⟩ : ∃ j_ : Int, (Int.tmod (Go.bits .and .i64 a2 255) 64) = j_ := ⟨_, rfl⟩
       replace H : (if 0 ≤ (ji158) then (if (false == ((Go.bits .and .u64 (shr .u64 a0_0 (ji158)) 1) == 1)) = true then ((byteset_Has.f a0_0 a0_1 a0_2 a0_3 (wrap64 ((Go.bits .and .i64 a2 255) + 256))).bind fun t458 => (if t458 = true then (none) else ((byteset_Has.f a0_0 a0_1 a0_2 a0_3 (wrap64 ((Go.bits .and .i64 a2 255) - 256))).bind fun t459 => (if t459 = true then (none) else ((templelaw0_Num.f 0).bind fun t460 => (some (t460 == 0))))))) else (none)) else (none)) = some r := by first | (rw [hji158] at H; exact H) | (simp only [hji158] at H ⊢; exact H)
       (try rw [hji158] at A4)
       (try rw [hji158] at A6)
       (try rw [hji158] at A7)
       (try rw [hji158] at A8)
       (try rw [hji158] at A9)
       (try rw [hji158] at A151)
       (try rw [hji158] at A152)
       (try rw [hji158] at A154)
       (try rw [hji158] at A155)
       by_cases c159 : 0 ≤ (ji158)
       ·rw [if_pos c159] at H
        have c159b0 := eq_true c159
        have c159b1 : decide (0 ≤ (ji158)) = true := decide_eq_true c159
        clear c159
        obtain ⟨ji160, hji160⟩ : ∃ j_ : Int, (shr .u64 a0_0 (ji158)) = j_ := ⟨_, rfl⟩
        replace H : (if (false == ((Go.bits .and .u64 (ji160) 1) == 1)) = true then ((byteset_Has.f a0_0 a0_1 a0_2 a0_3 (wrap64 ((Go.bits .and .i64 a2 255) + 256))).bind fun t458 => (if t458 = true then (none) else ((byteset_Has.f a0_0 a0_1 a0_2 a0_3 (wrap64 ((Go.bits .and .i64 a2 255) - 256))).bind fun t459 => (if t459 = true then (none) else ((templelaw0_Num.f 0).bind fun t460 => (some (t460 == 0))))))) else (none)) = some r := by first | (rw [hji160] at H; exact H) | (simp only [hji160] at H ⊢; exact H)
        (try rw [hji160] at A4)
        (try rw [hji160] at A6)
        (try rw [hji160] at A7)
        (try rw [hji160] at A8)
        (try rw [hji160] at A9)
        (try rw [hji160] at A151)
        (try rw [hji160] at A152)
        (try rw [hji160] at A154)
        (try rw [hji160] at A155)
        have hji160_ : (a0_0 / 2 ^ min (ji158).toNat 64) = ji160 := hji160
        have hji160z : (ji158) ≤ 64 → (a0_0 / 2 ^ (ji158).toNat) = ji160 := shr_small hji160
        by_cases c161 : (false == ((Go.bits .and .u64 (ji160) 1) == 1)) = true
        ·rw [if_pos c161] at H
         have c161b0 : (false == ((Go.bits .and .u64 (ji160) 1) == 1)) = true := c161
         (try (have c161b1 : decide (false = ((Go.bits .and .u64 (ji160) 1) == 1)) = true := by simpa using c161))
         (try (have c161b2 : (false == ((Go.bits .and .u64 (ji160) 1) == 1)) = true := by simpa using c161))
         clear c161
         replace H := Option.bind_eq_some_iff.mp H
         obtain ⟨t458, A1620, H⟩ := H
         replace H : (if t458 = true then (none) else ((byteset_Has.f a0_0 a0_1 a0_2 a0_3 (wrap64 ((Go.bits .and .i64 a2 255) - 256))).bind fun t459 => (if t459 = true then (none) else ((templelaw0_Num.f 0).bind fun t460 => (some (t460 == 0)))))) = some r := H
         have A162 := Aside0.mk A1620
         clear A1620
         by_cases c163 : t458 = true
         ·subst c163
          have H1 : (none) = some r := by rw [if_pos rfl] at H; exact H
          clear H
          have H := H1
          clear H1
          exact absurd H (by simp)
         ·replace c163 := Bool.eq_false_iff.mpr c163
          subst c163
          have H1 : ((byteset_Has.f a0_0 a0_1 a0_2 a0_3 (wrap64 ((Go.bits .and .i64 a2 255) - 256))).bind fun t459 => (if t459 = true then (none) else ((templelaw0_Num.f 0).bind fun t460 => (some (t460 == 0))))) = some r := by rw [if_neg (show ¬ (false = true) by decide)] at H; exact H
          clear H
          have H := H1
          clear H1
          replace H := Option.bind_eq_some_iff.mp H
          obtain ⟨t459, A1640, H⟩ := H
          replace H : (if t459 = true then (none) else ((templelaw0_Num.f 0).bind fun t460 => (some (t460 == 0)))) = some r := H
          have A164 := Aside0.mk A1640
          clear A1640
          by_cases c165 : t459 = true
          ·subst c165
           have H1 : (none) = some r := by rw [if_pos rfl] at H; exact H
           clear H
           have H := H1
           clear H1
           exact absurd H (by simp)
          ·replace c165 := Bool.eq_false_iff.mpr c165
           subst c165
           have H1 : ((templelaw0_Num.f 0).bind fun t460 => (some (t460 == 0))) = some r := by rw [if_neg (show ¬ (false = true) by decide)] at H; exact H
           clear H
           have H := H1
           clear H1
           replace H := Option.bind_eq_some_iff.mp H
           obtain ⟨t460, A1660, H⟩ := H
           replace H : (some (t460 == 0)) = some r := H
           have A166 := Aside0.mk A1660
           clear A1660
           obtain rfl := Option.some.inj H
           go_enter Try.func7, Try.ntmps7
           try go_wp2_with (first | ((with_reducible refine gate_dst (N := 3) rfl ?_); refine box_event ?hg (N := 3) ?hd (cs := #[.int .u64 a0_0, .int .u64 a0_1, .int .u64 a0_2, .int .u64 a0_3]) (t := 24) ?hr ?_; (case hd => rfl); (case hg => rfl); (case hr => first | (go_simp; done) | (go_simp; rfl)); intro gb416 hg w167 hbox hb; have n0_ := Aside0.mk (below_step (by repeat (first | (with_reducible first | exact HB.out | apply below_alloc | apply pw_below_drewN | apply below_drew1) | exact HB.out)) hb); have n1_ := Aside0.mk (hbox); have n2_ := Aside0.mk ((by rw [hg]; exact (below_size (by repeat (first | (with_reducible first | exact HB.out | apply below_alloc | apply pw_below_drewN | apply below_drew1) | exact HB.out))) : w.heap.size ≤ gb416)); have n3_ := Aside0.mk ((by rw [hg]; exact (below_size (by repeat (first | (with_reducible first | exact HB.out | apply below_alloc | apply pw_below_drewN | apply below_drew1) | exact HB.out))) : w.heap.size ≤ gb416)); clear HB; have HB := n0_; have BK416 := n1_; have GW416 := n2_; have GE416 := n3_; clear n0_ n1_ n2_ n3_; clear hb hbox hg) | ((with_reducible refine gate_dst (N := 4) rfl ?_); refine box_event ?hg (N := 4) ?hd (cs := #[.int .u64 a1_0, .int .u64 a1_1, .int .u64 a1_2, .int .u64 a1_3]) (t := 24) ?hr ?_; (case hd => rfl); (case hg => rfl); (case hr => first | (go_simp; done) | (go_simp; rfl)); intro gb417 hg w168 hbox hb; have n0_ := Aside0.mk (blk_below (g := gb416) (o := .cells #[.int .u64 a0_0, .int .u64 a0_1, .int .u64 a0_2, .int .u64 a0_3] 24 (0, 0)) (by (with_reducible repeat (first | refine blk_drewN ?_ _ | refine blk_drew ?_ | refine blk_alloc ?_ _)); exact BK416.out) hb); have n1_ := Aside0.mk (below_step (by repeat (first | (with_reducible first | exact HB.out | apply below_alloc | apply pw_below_drewN | apply below_drew1 | refine below_set ?_ GE416.out) | exact HB.out)) hb); have n2_ := Aside0.mk (hbox); have n3_ := Aside0.mk ((by rw [hg]; exact (below_size (by repeat (first | (with_reducible first | exact HB.out | apply below_alloc | apply pw_below_drewN | apply below_drew1 | refine below_set ?_ GE416.out) | exact HB.out))) : w.heap.size ≤ gb417)); have n4_ := Aside0.mk ((by rw [hg]; exact (below_size (by repeat (first | (with_reducible first | exact HB.out | apply below_alloc | apply pw_below_drewN | apply below_drew1 | refine below_set ?_ GE416.out) | exact HB.out))) : w.heap.size ≤ gb417)); have n5_ := Aside0.mk ((by rw [hg]; exact Nat.ne_of_lt (blk_lt (g := gb416) (o := .cells #[.int .u64 a0_0, .int .u64 a0_1, .int .u64 a0_2, .int .u64 a0_3] 24 (0, 0)) (by (with_reducible repeat (first | refine blk_drewN ?_ _ | refine blk_drew ?_ | refine blk_alloc ?_ _)); exact BK416.out)) : gb416 ≠ gb417)); have n6_ := Aside0.mk ((by rw [hg]; exact Nat.ne_of_gt (blk_lt (g := gb416) (o := .cells #[.int .u64 a0_0, .int .u64 a0_1, .int .u64 a0_2, .int .u64 a0_3] 24 (0, 0)) (by (with_reducible repeat (first | refine blk_drewN ?_ _ | refine blk_drew ?_ | refine blk_alloc ?_ _)); exact BK416.out)) : gb417 ≠ gb416)); clear BK416; clear HB; have BK416 := n0_; have HB := n1_; have BK417 := n2_; have GW417 := n3_; have GE417 := n4_; have NB416_417 := n5_; have NB417_416 := n6_; clear n0_ n1_ n2_ n3_ n4_ n5_ n6_; clear hb hbox hg) | (go_at_call 24; (with_reducible refine (templelaw1_awake.calls k  true _ A4.out).mono ?_); rintro e w169 ⟨rfl, hb⟩; have n0_ := Aside0.mk (blk_below (g := gb416) (o := .cells #[.int .u64 a0_0, .int .u64 a0_1, .int .u64 a0_2, .int .u64 a0_3] 24 (0, 0)) (by (with_reducible repeat (first | refine blk_drewN ?_ _ | refine blk_drew ?_ | refine blk_alloc ?_ _)); exact BK416.out) hb); have n1_ := Aside0.mk (blk_below (g := gb417) (o := .cells #[.int .u64 a1_0, .int .u64 a1_1, .int .u64 a1_2, .int .u64 a1_3] 24 (0, 0)) (by (with_reducible repeat (first | refine blk_drewN ?_ _ | refine blk_drew ?_ | refine blk_alloc ?_ _)); exact BK417.out) hb); have n2_ := Aside0.mk (below_step (by repeat (first | (with_reducible first | exact HB.out | apply below_alloc | apply pw_below_drewN | apply below_drew1 | refine below_set ?_ GE416.out | refine below_set ?_ GE417.out) | exact HB.out)) hb); clear BK416; clear BK417; clear HB; have BK416 := n0_; have BK417 := n1_; have HB := n2_; clear n0_ n1_ n2_; (try clear hb)))
           have n0_ := Aside0.mk (blk_drew BK416.out)
           have n1_ := Aside0.mk (blk_drew BK417.out)
           have n2_ := Aside0.mk (below_drew1 HB.out)
           clear BK416
           clear BK417
           clear HB
           have BK416 := n0_
           have BK417 := n1_
           have HB := n2_
           clear n0_ n1_ n2_
           refine start_ (n := 8) (S := fun w' => w'.cell? ⟨gb416, 0, none⟩ = some (.int .u64 a0_0) ∧ w'.cell? ⟨gb416, 1, none⟩ = some (.int .u64 a0_1) ∧ w'.cell? ⟨gb416, 2, none⟩ = some (.int .u64 a0_2) ∧ w'.cell? ⟨gb416, 3, none⟩ = some (.int .u64 a0_3) ∧ w'.cell? ⟨gb417, 0, none⟩ = some (.int .u64 a1_0) ∧ w'.cell? ⟨gb417, 1, none⟩ = some (.int .u64 a1_1) ∧ w'.cell? ⟨gb417, 2, none⟩ = some (.int .u64 a1_2) ∧ w'.cell? ⟨gb417, 3, none⟩ = some (.int .u64 a1_3)) (ds := []) #[false, false, false, false, false, false, false, false] (by kernel_rfl) rfl rfl ⟨(blk_cell BK416.out 0).trans rfl, (blk_cell BK416.out 1).trans rfl, (blk_cell BK416.out 2).trans rfl, (blk_cell BK416.out 3).trans rfl, (blk_cell BK417.out 0).trans rfl, (blk_cell BK417.out 1).trans rfl, (blk_cell BK417.out 2).trans rfl, (blk_cell BK417.out 3).trans rfl⟩ (fun hHeld => ?_); refine with_tabW templelaw1_SetBits.tab4 templelaw1_SetBits.bits4 (fun HT_ HW_ => ?_)
           generalize w169.drew = w170 at BK416 BK417 HB hHeld ⊢
           refine pure_ (i := 1) (N := some 15) (v := ?_) (a' := ?_) #[false, true, false, false, false, false, false, false] rfl rfl (any_of HT_.out (by kernel_rfl)) (fun _ _ _ h => h) (Or.inl ⟨by rfl, ?_⟩) ?_ ?_
           rotate_left
           ·intro w'
            go_simp
            with_reducible rfl
           rotate_left
           ·simp only [Act.put, List.setIfInBounds_toArray, List.set_cons_zero, List.set_cons_succ, i64_w, i32_w]
            rfl
           refine pure_ (i := 4) (N := some 18) (v := ?_) (a' := ?_) #[false, true, false, false, true, false, false, false] rfl rfl (any_of HT_.out (by kernel_rfl)) (fun _ _ _ h => h) (Or.inl ⟨by rfl, ?_⟩) ?_ ?_
           rotate_left
           ·intro w'
            go_simp
            with_reducible rfl
           rotate_left
           ·simp only [Act.put, List.setIfInBounds_toArray, List.set_cons_zero, List.set_cons_succ, i64_w, i32_w]
            rfl
           refine take_ (i := 0) (N := some 14) (v := ?_) (a' := ?_) #[true, true, false, false, true, false, false, false] rfl rfl (take_ofW HT_.out HW_.out (by kernel_rfl)) (fun _ _ _ h => h) (Or.inl ⟨by rfl, ?_⟩) hHeld ?_ ?_
           rotate_left
           ·rintro w' ⟨s0, s1, s2, s3, s4, s5, s6, s7⟩
            go_simp
            with_reducible rfl
           rotate_left
           ·simp only [Act.put, List.setIfInBounds_toArray, List.set_cons_zero, List.set_cons_succ, i64_w, i32_w]
            rfl
           refine take_ (i := 3) (N := some 17) (v := ?_) (a' := ?_) #[true, true, false, true, true, false, false, false] rfl rfl (take_ofW HT_.out HW_.out (by kernel_rfl)) (fun _ _ _ h => h) (Or.inl ⟨by rfl, ?_⟩) hHeld ?_ ?_
           rotate_left
           ·rintro w' ⟨s0, s1, s2, s3, s4, s5, s6, s7⟩
            go_simp
            with_reducible rfl
           rotate_left
           ·simp only [Act.put, List.setIfInBounds_toArray, List.set_cons_zero, List.set_cons_succ, i64_w, i32_w]
            rfl
           refine one_ (i := 2) (N := some 16) #[true, true, true, true, true, false, false, false] rfl rfl (one_of HT_.out (by kernel_rfl)) (by decide) (fun K hK => ?_)
           refine goes_ Try.func13 (by kernel_rfl) rfl #[.agg #[.int .u64 a0_0, .int .u64 a0_1, .int .u64 a0_2, .int .u64 a0_3], .int .i64 (Go.bits .and .i64 a2 255)] (by rfl) rfl rfl (by (try simp only [List.map_toArray, List.map_cons, List.map_nil]); first | done | rfl | (simp only [List.length_drop, List.length_take]; rfl)) ?_
           with_reducible refine (byteset_Has.calls a0_0 a0_1 a0_2 a0_3 (Go.bits .and .i64 a2 255) false _ A6.out).mono ?_
           rintro e w171 ⟨rfl, hb⟩
           refine ⟨_, rfl, ?_⟩
           have n0_ := Aside0.mk (blk_below (g := gb416) (o := .cells #[.int .u64 a0_0, .int .u64 a0_1, .int .u64 a0_2, .int .u64 a0_3] 24 (0, 0)) (by (with_reducible repeat (first | refine blk_drewN ?_ _ | refine blk_drew ?_ | refine blk_alloc ?_ _)); exact BK416.out) hb)
           have n1_ := Aside0.mk (blk_below (g := gb417) (o := .cells #[.int .u64 a1_0, .int .u64 a1_1, .int .u64 a1_2, .int .u64 a1_3] 24 (0, 0)) (by (with_reducible repeat (first | refine blk_drewN ?_ _ | refine blk_drew ?_ | refine blk_alloc ?_ _)); exact BK417.out) hb)
           have n2_ := Aside0.mk (below_step (by repeat (first | (with_reducible first | exact HB.out | apply below_alloc | apply pw_below_drewN | apply below_drew1 | refine below_set ?_ GE416.out | refine below_set ?_ GE417.out) | exact HB.out)) hb)
           clear BK416
           clear BK417
           clear HB
           have BK416 := n0_
           have BK417 := n1_
           have HB := n2_
           clear n0_ n1_ n2_
           (try clear hb)
           (try clear hb2)
           (try clear hk)
           (try clear hi)
           refine hK.out _ _ ⟨(blk_cell BK416.out 0).trans rfl, (blk_cell BK416.out 1).trans rfl, (blk_cell BK416.out 2).trans rfl, (blk_cell BK416.out 3).trans rfl, (blk_cell BK417.out 0).trans rfl, (blk_cell BK417.out 1).trans rfl, (blk_cell BK417.out 2).trans rfl, (blk_cell BK417.out 3).trans rfl⟩ (fun hHeld => ?_)
           clear hK K
           refine norm_ (a' := ?_) ?_ ?_
           rotate_left
           ·show Act.put _ (some 16) _ = _
            simp only [Act.put, List.setIfInBounds_toArray, List.set_cons_zero, List.set_cons_succ, i64_w, i32_w]
            rfl
           refine one_ (i := 5) (N := some 19) #[true, true, true, true, true, true, false, false] rfl rfl (one_of HT_.out (by kernel_rfl)) (by decide) (fun K hK => ?_)
           refine goes_ Try.func13 (by kernel_rfl) rfl #[.agg #[.int .u64 a1_0, .int .u64 a1_1, .int .u64 a1_2, .int .u64 a1_3], .int .i64 (Go.bits .and .i64 a2 255)] (by rfl) rfl rfl (by (try simp only [List.map_toArray, List.map_cons, List.map_nil]); first | done | rfl | (simp only [List.length_drop, List.length_take]; rfl)) ?_
           with_reducible refine (byteset_Has.calls a1_0 a1_1 a1_2 a1_3 (Go.bits .and .i64 a2 255) t420 _ A7.out).mono ?_
           rintro e w172 ⟨rfl, hb⟩
           refine ⟨_, rfl, ?_⟩
           have n0_ := Aside0.mk (blk_below (g := gb416) (o := .cells #[.int .u64 a0_0, .int .u64 a0_1, .int .u64 a0_2, .int .u64 a0_3] 24 (0, 0)) (by (with_reducible repeat (first | refine blk_drewN ?_ _ | refine blk_drew ?_ | refine blk_alloc ?_ _)); exact BK416.out) hb)
           have n1_ := Aside0.mk (blk_below (g := gb417) (o := .cells #[.int .u64 a1_0, .int .u64 a1_1, .int .u64 a1_2, .int .u64 a1_3] 24 (0, 0)) (by (with_reducible repeat (first | refine blk_drewN ?_ _ | refine blk_drew ?_ | refine blk_alloc ?_ _)); exact BK417.out) hb)
           have n2_ := Aside0.mk (below_step (by repeat (first | (with_reducible first | exact HB.out | apply below_alloc | apply pw_below_drewN | apply below_drew1 | refine below_set ?_ GE416.out | refine below_set ?_ GE417.out) | exact HB.out)) hb)
           clear BK416
           clear BK417
           clear HB
           have BK416 := n0_
           have BK417 := n1_
           have HB := n2_
           clear n0_ n1_ n2_
           (try clear hb)
           (try clear hb2)
           (try clear hk)
           (try clear hi)
           refine hK.out _ _ ⟨(blk_cell BK416.out 0).trans rfl, (blk_cell BK416.out 1).trans rfl, (blk_cell BK416.out 2).trans rfl, (blk_cell BK416.out 3).trans rfl, (blk_cell BK417.out 0).trans rfl, (blk_cell BK417.out 1).trans rfl, (blk_cell BK417.out 2).trans rfl, (blk_cell BK417.out 3).trans rfl⟩ (fun hHeld => ?_)
           clear hK K
           refine norm_ (a' := ?_) ?_ ?_
           rotate_left
           ·show Act.put _ (some 19) _ = _
            simp only [Act.put, List.setIfInBounds_toArray, List.set_cons_zero, List.set_cons_succ, i64_w, i32_w]
            rfl
           refine pure_ (i := 6) (N := some 8) (v := ?_) (a' := ?_) #[true, true, true, true, true, true, true, false] rfl rfl (any_of HT_.out (by kernel_rfl)) (fun _ _ _ h => h) (Or.inl ⟨by rfl, ?_⟩) ?_ ?_
           rotate_left
           ·intro w'
            go_simp
            with_reducible rfl
           rotate_left
           ·simp only [Act.put, List.setIfInBounds_toArray, List.set_cons_zero, List.set_cons_succ, i64_w, i32_w]
            rfl
           refine pure_ (i := 7) (N := some 9) (v := ?_) (a' := ?_) #[true, true, true, true, true, true, true, true] rfl rfl (any_of HT_.out (by kernel_rfl)) (fun _ _ _ h => h) (Or.inl ⟨by rfl, ?_⟩) ?_ ?_
           rotate_left
           ·intro w'
            go_simp
            with_reducible rfl
           rotate_left
           ·simp only [Act.put, List.setIfInBounds_toArray, List.set_cons_zero, List.set_cons_succ, i64_w, i32_w]
            rfl
           refine done_ (done_of HT_.out (by kernel_rfl)) ?_
           have hnb173 := NB416_417.out
           have hnc173 := NB417_416.out
           have hcz174_0 : w172.cell? ⟨gb416, 0, none⟩ = some (.int .u64 a0_0) := (blk_cell BK416.out 0).trans rfl
           have hcz174_1 : w172.cell? ⟨gb416, 1, none⟩ = some (.int .u64 a0_1) := (blk_cell BK416.out 1).trans rfl
           have hcz174_2 : w172.cell? ⟨gb416, 2, none⟩ = some (.int .u64 a0_2) := (blk_cell BK416.out 2).trans rfl
           have hcz174_3 : w172.cell? ⟨gb416, 3, none⟩ = some (.int .u64 a0_3) := (blk_cell BK416.out 3).trans rfl
           have hfz174_0 := blk_frozen BK416.out 0
           have hfz174_1 := blk_frozen BK416.out 1
           have hfz174_2 := blk_frozen BK416.out 2
           have hfz174_3 := blk_frozen BK416.out 3
           have hcz175_0 : w172.cell? ⟨gb417, 0, none⟩ = some (.int .u64 a1_0) := (blk_cell BK417.out 0).trans rfl
           have hcz175_1 : w172.cell? ⟨gb417, 1, none⟩ = some (.int .u64 a1_1) := (blk_cell BK417.out 1).trans rfl
           have hcz175_2 : w172.cell? ⟨gb417, 2, none⟩ = some (.int .u64 a1_2) := (blk_cell BK417.out 2).trans rfl
           have hcz175_3 : w172.cell? ⟨gb417, 3, none⟩ = some (.int .u64 a1_3) := (blk_cell BK417.out 3).trans rfl
           have hfz175_0 := blk_frozen BK417.out 0
           have hfz175_1 := blk_frozen BK417.out 1
           have hfz175_2 := blk_frozen BK417.out 2
           have hfz175_3 := blk_frozen BK417.out 3
           try go_wp2_with (first | (go_at_call 15; (with_reducible refine (byteset_Or.calls a0_0 a0_1 a0_2 a0_3 a1_0 a1_1 a1_2 a1_3 t421 t422 t423 t424 _ A8.out).mono ?_); rintro e w176 ⟨rfl, hb⟩; have n0_ := Aside0.mk (blk_below (g := gb416) (o := .cells #[.int .u64 a0_0, .int .u64 a0_1, .int .u64 a0_2, .int .u64 a0_3] 24 (0, 0)) (by (with_reducible repeat (first | refine blk_drewN ?_ _ | refine blk_drew ?_ | refine blk_alloc ?_ _)); exact BK416.out) hb); have n1_ := Aside0.mk (blk_below (g := gb417) (o := .cells #[.int .u64 a1_0, .int .u64 a1_1, .int .u64 a1_2, .int .u64 a1_3] 24 (0, 0)) (by (with_reducible repeat (first | refine blk_drewN ?_ _ | refine blk_drew ?_ | refine blk_alloc ?_ _)); exact BK417.out) hb); have n2_ := Aside0.mk (below_step (by repeat (first | (with_reducible first | exact HB.out | apply below_alloc | apply pw_below_drewN | apply below_drew1 | refine below_set ?_ GE416.out | refine below_set ?_ GE417.out) | exact HB.out)) hb); clear BK416; clear BK417; clear HB; have BK416 := n0_; have BK417 := n1_; have HB := n2_; clear n0_ n1_ n2_; (try clear hb)) | (go_at_call 13; (with_reducible refine (byteset_Has.calls t421 t422 t423 t424 (Go.bits .and .i64 a2 255) t425 _ A9.out).mono ?_); rintro e w177 ⟨rfl, hb⟩; have n0_ := Aside0.mk (blk_below (g := gb416) (o := .cells #[.int .u64 a0_0, .int .u64 a0_1, .int .u64 a0_2, .int .u64 a0_3] 24 (0, 0)) (by (with_reducible repeat (first | refine blk_drewN ?_ _ | refine blk_drew ?_ | refine blk_alloc ?_ _)); exact BK416.out) hb); have n1_ := Aside0.mk (blk_below (g := gb417) (o := .cells #[.int .u64 a1_0, .int .u64 a1_1, .int .u64 a1_2, .int .u64 a1_3] 24 (0, 0)) (by (with_reducible repeat (first | refine blk_drewN ?_ _ | refine blk_drew ?_ | refine blk_alloc ?_ _)); exact BK417.out) hb); have n2_ := Aside0.mk (below_step (by repeat (first | (with_reducible first | exact HB.out | apply below_alloc | apply pw_below_drewN | apply below_drew1 | refine below_set ?_ GE416.out | refine below_set ?_ GE417.out) | exact HB.out)) hb); clear BK416; clear BK417; clear HB; have BK416 := n0_; have BK417 := n1_; have HB := n2_; clear n0_ n1_ n2_; (try clear hb); have hcz178_0 : w177.cell? ⟨gb416, 0, none⟩ = some (.int .u64 a0_0) := (blk_cell BK416.out 0).trans rfl; have hcz178_1 : w177.cell? ⟨gb416, 1, none⟩ = some (.int .u64 a0_1) := (blk_cell BK416.out 1).trans rfl; have hcz178_2 : w177.cell? ⟨gb416, 2, none⟩ = some (.int .u64 a0_2) := (blk_cell BK416.out 2).trans rfl; have hcz178_3 : w177.cell? ⟨gb416, 3, none⟩ = some (.int .u64 a0_3) := (blk_cell BK416.out 3).trans rfl; have hfz178_0 := blk_frozen BK416.out 0; have hfz178_1 := blk_frozen BK416.out 1; have hfz178_2 := blk_frozen BK416.out 2; have hfz178_3 := blk_frozen BK416.out 3; have hcz179_0 : w177.cell? ⟨gb417, 0, none⟩ = some (.int .u64 a1_0) := (blk_cell BK417.out 0).trans rfl; have hcz179_1 : w177.cell? ⟨gb417, 1, none⟩ = some (.int .u64 a1_1) := (blk_cell BK417.out 1).trans rfl; have hcz179_2 : w177.cell? ⟨gb417, 2, none⟩ = some (.int .u64 a1_2) := (blk_cell BK417.out 2).trans rfl; have hcz179_3 : w177.cell? ⟨gb417, 3, none⟩ = some (.int .u64 a1_3) := (blk_cell BK417.out 3).trans rfl; have hfz179_0 := blk_frozen BK417.out 0; have hfz179_1 := blk_frozen BK417.out 1; have hfz179_2 := blk_frozen BK417.out 2; have hfz179_3 := blk_frozen BK417.out 3) | (go_at_call 17; (with_reducible refine (byteset_And.calls a0_0 a0_1 a0_2 a0_3 a1_0 a1_1 a1_2 a1_3 t448 t449 t450 t451 _ A151.out).mono ?_); rintro e w180 ⟨rfl, hb⟩; have n0_ := Aside0.mk (blk_below (g := gb416) (o := .cells #[.int .u64 a0_0, .int .u64 a0_1, .int .u64 a0_2, .int .u64 a0_3] 24 (0, 0)) (by (with_reducible repeat (first | refine blk_drewN ?_ _ | refine blk_drew ?_ | refine blk_alloc ?_ _)); exact BK416.out) hb); have n1_ := Aside0.mk (blk_below (g := gb417) (o := .cells #[.int .u64 a1_0, .int .u64 a1_1, .int .u64 a1_2, .int .u64 a1_3] 24 (0, 0)) (by (with_reducible repeat (first | refine blk_drewN ?_ _ | refine blk_drew ?_ | refine blk_alloc ?_ _)); exact BK417.out) hb); have n2_ := Aside0.mk (below_step (by repeat (first | (with_reducible first | exact HB.out | apply below_alloc | apply pw_below_drewN | apply below_drew1 | refine below_set ?_ GE416.out | refine below_set ?_ GE417.out) | exact HB.out)) hb); clear BK416; clear BK417; clear HB; have BK416 := n0_; have BK417 := n1_; have HB := n2_; clear n0_ n1_ n2_; (try clear hb)) | (go_at_call 13; (with_reducible refine (byteset_Has.calls t448 t449 t450 t451 (Go.bits .and .i64 a2 255) t452 _ A152.out).mono ?_); rintro e w181 ⟨rfl, hb⟩; have n0_ := Aside0.mk (blk_below (g := gb416) (o := .cells #[.int .u64 a0_0, .int .u64 a0_1, .int .u64 a0_2, .int .u64 a0_3] 24 (0, 0)) (by (with_reducible repeat (first | refine blk_drewN ?_ _ | refine blk_drew ?_ | refine blk_alloc ?_ _)); exact BK416.out) hb); have n1_ := Aside0.mk (blk_below (g := gb417) (o := .cells #[.int .u64 a1_0, .int .u64 a1_1, .int .u64 a1_2, .int .u64 a1_3] 24 (0, 0)) (by (with_reducible repeat (first | refine blk_drewN ?_ _ | refine blk_drew ?_ | refine blk_alloc ?_ _)); exact BK417.out) hb); have n2_ := Aside0.mk (below_step (by repeat (first | (with_reducible first | exact HB.out | apply below_alloc | apply pw_below_drewN | apply below_drew1 | refine below_set ?_ GE416.out | refine below_set ?_ GE417.out) | exact HB.out)) hb); clear BK416; clear BK417; clear HB; have BK416 := n0_; have BK417 := n1_; have HB := n2_; clear n0_ n1_ n2_; (try clear hb); have hcz182_0 : w181.cell? ⟨gb416, 0, none⟩ = some (.int .u64 a0_0) := (blk_cell BK416.out 0).trans rfl; have hcz182_1 : w181.cell? ⟨gb416, 1, none⟩ = some (.int .u64 a0_1) := (blk_cell BK416.out 1).trans rfl; have hcz182_2 : w181.cell? ⟨gb416, 2, none⟩ = some (.int .u64 a0_2) := (blk_cell BK416.out 2).trans rfl; have hcz182_3 : w181.cell? ⟨gb416, 3, none⟩ = some (.int .u64 a0_3) := (blk_cell BK416.out 3).trans rfl; have hfz182_0 := blk_frozen BK416.out 0; have hfz182_1 := blk_frozen BK416.out 1; have hfz182_2 := blk_frozen BK416.out 2; have hfz182_3 := blk_frozen BK416.out 3; have hcz183_0 : w181.cell? ⟨gb417, 0, none⟩ = some (.int .u64 a1_0) := (blk_cell BK417.out 0).trans rfl; have hcz183_1 : w181.cell? ⟨gb417, 1, none⟩ = some (.int .u64 a1_1) := (blk_cell BK417.out 1).trans rfl; have hcz183_2 : w181.cell? ⟨gb417, 2, none⟩ = some (.int .u64 a1_2) := (blk_cell BK417.out 2).trans rfl; have hcz183_3 : w181.cell? ⟨gb417, 3, none⟩ = some (.int .u64 a1_3) := (blk_cell BK417.out 3).trans rfl; have hfz183_0 := blk_frozen BK417.out 0; have hfz183_1 := blk_frozen BK417.out 1; have hfz183_2 := blk_frozen BK417.out 2; have hfz183_3 := blk_frozen BK417.out 3) | (go_at_call 18; (with_reducible refine (byteset_Minus.calls a0_0 a0_1 a0_2 a0_3 a1_0 a1_1 a1_2 a1_3 t453 t454 t455 t456 _ A154.out).mono ?_); rintro e w184 ⟨rfl, hb⟩; have n0_ := Aside0.mk (blk_below (g := gb416) (o := .cells #[.int .u64 a0_0, .int .u64 a0_1, .int .u64 a0_2, .int .u64 a0_3] 24 (0, 0)) (by (with_reducible repeat (first | refine blk_drewN ?_ _ | refine blk_drew ?_ | refine blk_alloc ?_ _)); exact BK416.out) hb); have n1_ := Aside0.mk (blk_below (g := gb417) (o := .cells #[.int .u64 a1_0, .int .u64 a1_1, .int .u64 a1_2, .int .u64 a1_3] 24 (0, 0)) (by (with_reducible repeat (first | refine blk_drewN ?_ _ | refine blk_drew ?_ | refine blk_alloc ?_ _)); exact BK417.out) hb); have n2_ := Aside0.mk (below_step (by repeat (first | (with_reducible first | exact HB.out | apply below_alloc | apply pw_below_drewN | apply below_drew1 | refine below_set ?_ GE416.out | refine below_set ?_ GE417.out) | exact HB.out)) hb); clear BK416; clear BK417; clear HB; have BK416 := n0_; have BK417 := n1_; have HB := n2_; clear n0_ n1_ n2_; (try clear hb)) | (go_at_call 13; (with_reducible refine (byteset_Has.calls t453 t454 t455 t456 (Go.bits .and .i64 a2 255) t457 _ A155.out).mono ?_); rintro e w185 ⟨rfl, hb⟩; have n0_ := Aside0.mk (blk_below (g := gb416) (o := .cells #[.int .u64 a0_0, .int .u64 a0_1, .int .u64 a0_2, .int .u64 a0_3] 24 (0, 0)) (by (with_reducible repeat (first | refine blk_drewN ?_ _ | refine blk_drew ?_ | refine blk_alloc ?_ _)); exact BK416.out) hb); have n1_ := Aside0.mk (blk_below (g := gb417) (o := .cells #[.int .u64 a1_0, .int .u64 a1_1, .int .u64 a1_2, .int .u64 a1_3] 24 (0, 0)) (by (with_reducible repeat (first | refine blk_drewN ?_ _ | refine blk_drew ?_ | refine blk_alloc ?_ _)); exact BK417.out) hb); have n2_ := Aside0.mk (below_step (by repeat (first | (with_reducible first | exact HB.out | apply below_alloc | apply pw_below_drewN | apply below_drew1 | refine below_set ?_ GE416.out | refine below_set ?_ GE417.out) | exact HB.out)) hb); clear BK416; clear BK417; clear HB; have BK416 := n0_; have BK417 := n1_; have HB := n2_; clear n0_ n1_ n2_; (try clear hb); have hcz186_0 : w185.cell? ⟨gb416, 0, none⟩ = some (.int .u64 a0_0) := (blk_cell BK416.out 0).trans rfl; have hcz186_1 : w185.cell? ⟨gb416, 1, none⟩ = some (.int .u64 a0_1) := (blk_cell BK416.out 1).trans rfl; have hcz186_2 : w185.cell? ⟨gb416, 2, none⟩ = some (.int .u64 a0_2) := (blk_cell BK416.out 2).trans rfl; have hcz186_3 : w185.cell? ⟨gb416, 3, none⟩ = some (.int .u64 a0_3) := (blk_cell BK416.out 3).trans rfl; have hfz186_0 := blk_frozen BK416.out 0; have hfz186_1 := blk_frozen BK416.out 1; have hfz186_2 := blk_frozen BK416.out 2; have hfz186_3 := blk_frozen BK416.out 3) | (go_at_call 13; (with_reducible refine (byteset_Has.calls a0_0 a0_1 a0_2 a0_3 (wrap64 ((Go.bits .and .i64 a2 255) + 256)) false _ A162.out).mono ?_); rintro e w187 ⟨rfl, hb⟩; have n0_ := Aside0.mk (blk_below (g := gb416) (o := .cells #[.int .u64 a0_0, .int .u64 a0_1, .int .u64 a0_2, .int .u64 a0_3] 24 (0, 0)) (by (with_reducible repeat (first | refine blk_drewN ?_ _ | refine blk_drew ?_ | refine blk_alloc ?_ _)); exact BK416.out) hb); have n1_ := Aside0.mk (blk_below (g := gb417) (o := .cells #[.int .u64 a1_0, .int .u64 a1_1, .int .u64 a1_2, .int .u64 a1_3] 24 (0, 0)) (by (with_reducible repeat (first | refine blk_drewN ?_ _ | refine blk_drew ?_ | refine blk_alloc ?_ _)); exact BK417.out) hb); have n2_ := Aside0.mk (below_step (by repeat (first | (with_reducible first | exact HB.out | apply below_alloc | apply pw_below_drewN | apply below_drew1 | refine below_set ?_ GE416.out | refine below_set ?_ GE417.out) | exact HB.out)) hb); clear BK416; clear BK417; clear HB; have BK416 := n0_; have BK417 := n1_; have HB := n2_; clear n0_ n1_ n2_; (try clear hb); have hcz188_0 : w187.cell? ⟨gb416, 0, none⟩ = some (.int .u64 a0_0) := (blk_cell BK416.out 0).trans rfl; have hcz188_1 : w187.cell? ⟨gb416, 1, none⟩ = some (.int .u64 a0_1) := (blk_cell BK416.out 1).trans rfl; have hcz188_2 : w187.cell? ⟨gb416, 2, none⟩ = some (.int .u64 a0_2) := (blk_cell BK416.out 2).trans rfl; have hcz188_3 : w187.cell? ⟨gb416, 3, none⟩ = some (.int .u64 a0_3) := (blk_cell BK416.out 3).trans rfl; have hfz188_0 := blk_frozen BK416.out 0; have hfz188_1 := blk_frozen BK416.out 1; have hfz188_2 := blk_frozen BK416.out 2; have hfz188_3 := blk_frozen BK416.out 3) | (go_at_call 13; (with_reducible refine (byteset_Has.calls a0_0 a0_1 a0_2 a0_3 (wrap64 ((Go.bits .and .i64 a2 255) - 256)) false _ A164.out).mono ?_); rintro e w189 ⟨rfl, hb⟩; have n0_ := Aside0.mk (blk_below (g := gb416) (o := .cells #[.int .u64 a0_0, .int .u64 a0_1, .int .u64 a0_2, .int .u64 a0_3] 24 (0, 0)) (by (with_reducible repeat (first | refine blk_drewN ?_ _ | refine blk_drew ?_ | refine blk_alloc ?_ _)); exact BK416.out) hb); have n1_ := Aside0.mk (blk_below (g := gb417) (o := .cells #[.int .u64 a1_0, .int .u64 a1_1, .int .u64 a1_2, .int .u64 a1_3] 24 (0, 0)) (by (with_reducible repeat (first | refine blk_drewN ?_ _ | refine blk_drew ?_ | refine blk_alloc ?_ _)); exact BK417.out) hb); have n2_ := Aside0.mk (below_step (by repeat (first | (with_reducible first | exact HB.out | apply below_alloc | apply pw_below_drewN | apply below_drew1 | refine below_set ?_ GE416.out | refine below_set ?_ GE417.out) | exact HB.out)) hb); clear BK416; clear BK417; clear HB; have BK416 := n0_; have BK417 := n1_; have HB := n2_; clear n0_ n1_ n2_; (try clear hb)) | (go_at_call 12; (with_reducible refine (templelaw0_Num.calls 0 t460 _ A166.out).mono ?_); rintro e w' ⟨rfl, ⟨nd, rfl⟩⟩))
           go_ret
           exact ⟨by first | rfl | (simp [errW_none, errW_some] <;> rfl) | (simp only [← hji158, ← hji160]; first | rfl | (simp [errW_none, errW_some] <;> rfl)) | (simp [*, errW_none, errW_some] <;> rfl), by repeat (first | (with_reducible first | exact HB.out | apply below_alloc | apply pw_below_drewN | apply below_drew1 | refine below_set ?_ GE416.out | refine below_set ?_ GE417.out) | exact HB.out)⟩
        ·rw [if_neg c161] at H
         exact absurd H (by simp)
       ·rw [if_neg c159] at H
        exact absurd H (by simp)
      ·rw [if_neg c157] at H
       have c157b0 : ((wrap64 (Int.tdiv (Go.bits .and .i64 a2 255) 64)) == 0) = false := beq_eq_false_iff_ne.mpr c157
       have c157b1 : ((wrap64 (Int.tdiv (Go.bits .and .i64 a2 255) 64)) != 0) = true := bne_iff_ne.mpr c157
       by_cases c190 : (wrap64 (Int.tdiv (Go.bits .and .i64 a2 255) 64)) = 1
       ·rw [if_pos c190] at H
        have hji190 := c190
        have c190b0 : ((wrap64 (Int.tdiv (Go.bits .and .i64 a2 255) 64)) == 1) = true := beq_iff_eq.mpr c190
        have c190b1 : ((wrap64 (Int.tdiv (Go.bits .and .i64 a2 255) 64)) != 1) = false := bne_eq_false_iff_eq.mpr c190
        clear c190
        obtain ⟨ji191, hji191⟩ : ∃ j_ : Int, (Int.tmod (Go.bits .and .i64 a2 255) 64) = j_ := ⟨_, rfl⟩
        replace H : (if 0 ≤ (ji191) then (if (false == ((Go.bits .and .u64 (shr .u64 a0_1 (ji191)) 1) == 1)) = true then ((byteset_Has.f a0_0 a0_1 a0_2 a0_3 (wrap64 ((Go.bits .and .i64 a2 255) + 256))).bind fun t461 => (if t461 = true then (none) else ((byteset_Has.f a0_0 a0_1 a0_2 a0_3 (wrap64 ((Go.bits .and .i64 a2 255) - 256))).bind fun t462 => (if t462 = true then (none) else ((templelaw0_Num.f 0).bind fun t463 => (some (t463 == 0))))))) else (none)) else (none)) = some r := by first | (rw [hji191] at H; exact H) | (simp only [hji191] at H ⊢; exact H)
        (try rw [hji191] at A4)
        (try rw [hji191] at A6)
        (try rw [hji191] at A7)
        (try rw [hji191] at A8)
        (try rw [hji191] at A9)
        (try rw [hji191] at A151)
        (try rw [hji191] at A152)
        (try rw [hji191] at A154)
        (try rw [hji191] at A155)
        by_cases c192 : 0 ≤ (ji191)
        ·rw [if_pos c192] at H
         have c192b0 := eq_true c192
         have c192b1 : decide (0 ≤ (ji191)) = true := decide_eq_true c192
         clear c192
         obtain ⟨ji193, hji193⟩ : ∃ j_ : Int, (shr .u64 a0_1 (ji191)) = j_ := ⟨_, rfl⟩
         replace H : (if (false == ((Go.bits .and .u64 (ji193) 1) == 1)) = true then ((byteset_Has.f a0_0 a0_1 a0_2 a0_3 (wrap64 ((Go.bits .and .i64 a2 255) + 256))).bind fun t461 => (if t461 = true then (none) else ((byteset_Has.f a0_0 a0_1 a0_2 a0_3 (wrap64 ((Go.bits .and .i64 a2 255) - 256))).bind fun t462 => (if t462 = true then (none) else ((templelaw0_Num.f 0).bind fun t463 => (some (t463 == 0))))))) else (none)) = some r := by first | (rw [hji193] at H; exact H) | (simp only [hji193] at H ⊢; exact H)
         (try rw [hji193] at A4)
         (try rw [hji193] at A6)
         (try rw [hji193] at A7)
         (try rw [hji193] at A8)
         (try rw [hji193] at A9)
         (try rw [hji193] at A151)
         (try rw [hji193] at A152)
         (try rw [hji193] at A154)
         (try rw [hji193] at A155)
         have hji193_ : (a0_1 / 2 ^ min (ji191).toNat 64) = ji193 := hji193
         have hji193z : (ji191) ≤ 64 → (a0_1 / 2 ^ (ji191).toNat) = ji193 := shr_small hji193
         by_cases c194 : (false == ((Go.bits .and .u64 (ji193) 1) == 1)) = true
         ·rw [if_pos c194] at H
          have c194b0 : (false == ((Go.bits .and .u64 (ji193) 1) == 1)) = true := c194
          (try (have c194b1 : decide (false = ((Go.bits .and .u64 (ji193) 1) == 1)) = true := by simpa using c194))
          (try (have c194b2 : (false == ((Go.bits .and .u64 (ji193) 1) == 1)) = true := by simpa using c194))
          clear c194
          replace H := Option.bind_eq_some_iff.mp H
          obtain ⟨t461, A1950, H⟩ := H
          replace H : (if t461 = true then (none) else ((byteset_Has.f a0_0 a0_1 a0_2 a0_3 (wrap64 ((Go.bits .and .i64 a2 255) - 256))).bind fun t462 => (if t462 = true then (none) else ((templelaw0_Num.f 0).bind fun t463 => (some (t463 == 0)))))) = some r := H
          have A195 := Aside0.mk A1950
          clear A1950
          by_cases c196 : t461 = true
          ·subst c196
           have H1 : (none) = some r := by rw [if_pos rfl] at H; exact H
           clear H
           have H := H1
           clear H1
           exact absurd H (by simp)
          ·replace c196 := Bool.eq_false_iff.mpr c196
           subst c196
           have H1 : ((byteset_Has.f a0_0 a0_1 a0_2 a0_3 (wrap64 ((Go.bits .and .i64 a2 255) - 256))).bind fun t462 => (if t462 = true then (none) else ((templelaw0_Num.f 0).bind fun t463 => (some (t463 == 0))))) = some r := by rw [if_neg (show ¬ (false = true) by decide)] at H; exact H
           clear H
           have H := H1
           clear H1
           replace H := Option.bind_eq_some_iff.mp H
           obtain ⟨t462, A1970, H⟩ := H
           replace H : (if t462 = true then (none) else ((templelaw0_Num.f 0).bind fun t463 => (some (t463 == 0)))) = some r := H
           have A197 := Aside0.mk A1970
           clear A1970
           by_cases c198 : t462 = true
           ·subst c198
            have H1 : (none) = some r := by rw [if_pos rfl] at H; exact H
            clear H
            have H := H1
            clear H1
            exact absurd H (by simp)
           ·replace c198 := Bool.eq_false_iff.mpr c198
            subst c198
            have H1 : ((templelaw0_Num.f 0).bind fun t463 => (some (t463 == 0))) = some r := by rw [if_neg (show ¬ (false = true) by decide)] at H; exact H
            clear H
            have H := H1
            clear H1
            replace H := Option.bind_eq_some_iff.mp H
            obtain ⟨t463, A1990, H⟩ := H
            replace H : (some (t463 == 0)) = some r := H
            have A199 := Aside0.mk A1990
            clear A1990
            obtain rfl := Option.some.inj H
            go_enter Try.func7, Try.ntmps7
            try go_wp2_with (first | ((with_reducible refine gate_dst (N := 3) rfl ?_); refine box_event ?hg (N := 3) ?hd (cs := #[.int .u64 a0_0, .int .u64 a0_1, .int .u64 a0_2, .int .u64 a0_3]) (t := 24) ?hr ?_; (case hd => rfl); (case hg => rfl); (case hr => first | (go_simp; done) | (go_simp; rfl)); intro gb416 hg w200 hbox hb; have n0_ := Aside0.mk (below_step (by repeat (first | (with_reducible first | exact HB.out | apply below_alloc | apply pw_below_drewN | apply below_drew1) | exact HB.out)) hb); have n1_ := Aside0.mk (hbox); have n2_ := Aside0.mk ((by rw [hg]; exact (below_size (by repeat (first | (with_reducible first | exact HB.out | apply below_alloc | apply pw_below_drewN | apply below_drew1) | exact HB.out))) : w.heap.size ≤ gb416)); have n3_ := Aside0.mk ((by rw [hg]; exact (below_size (by repeat (first | (with_reducible first | exact HB.out | apply below_alloc | apply pw_below_drewN | apply below_drew1) | exact HB.out))) : w.heap.size ≤ gb416)); clear HB; have HB := n0_; have BK416 := n1_; have GW416 := n2_; have GE416 := n3_; clear n0_ n1_ n2_ n3_; clear hb hbox hg) | ((with_reducible refine gate_dst (N := 4) rfl ?_); refine box_event ?hg (N := 4) ?hd (cs := #[.int .u64 a1_0, .int .u64 a1_1, .int .u64 a1_2, .int .u64 a1_3]) (t := 24) ?hr ?_; (case hd => rfl); (case hg => rfl); (case hr => first | (go_simp; done) | (go_simp; rfl)); intro gb417 hg w201 hbox hb; have n0_ := Aside0.mk (blk_below (g := gb416) (o := .cells #[.int .u64 a0_0, .int .u64 a0_1, .int .u64 a0_2, .int .u64 a0_3] 24 (0, 0)) (by (with_reducible repeat (first | refine blk_drewN ?_ _ | refine blk_drew ?_ | refine blk_alloc ?_ _)); exact BK416.out) hb); have n1_ := Aside0.mk (below_step (by repeat (first | (with_reducible first | exact HB.out | apply below_alloc | apply pw_below_drewN | apply below_drew1 | refine below_set ?_ GE416.out) | exact HB.out)) hb); have n2_ := Aside0.mk (hbox); have n3_ := Aside0.mk ((by rw [hg]; exact (below_size (by repeat (first | (with_reducible first | exact HB.out | apply below_alloc | apply pw_below_drewN | apply below_drew1 | refine below_set ?_ GE416.out) | exact HB.out))) : w.heap.size ≤ gb417)); have n4_ := Aside0.mk ((by rw [hg]; exact (below_size (by repeat (first | (with_reducible first | exact HB.out | apply below_alloc | apply pw_below_drewN | apply below_drew1 | refine below_set ?_ GE416.out) | exact HB.out))) : w.heap.size ≤ gb417)); have n5_ := Aside0.mk ((by rw [hg]; exact Nat.ne_of_lt (blk_lt (g := gb416) (o := .cells #[.int .u64 a0_0, .int .u64 a0_1, .int .u64 a0_2, .int .u64 a0_3] 24 (0, 0)) (by (with_reducible repeat (first | refine blk_drewN ?_ _ | refine blk_drew ?_ | refine blk_alloc ?_ _)); exact BK416.out)) : gb416 ≠ gb417)); have n6_ := Aside0.mk ((by rw [hg]; exact Nat.ne_of_gt (blk_lt (g := gb416) (o := .cells #[.int .u64 a0_0, .int .u64 a0_1, .int .u64 a0_2, .int .u64 a0_3] 24 (0, 0)) (by (with_reducible repeat (first | refine blk_drewN ?_ _ | refine blk_drew ?_ | refine blk_alloc ?_ _)); exact BK416.out)) : gb417 ≠ gb416)); clear BK416; clear HB; have BK416 := n0_; have HB := n1_; have BK417 := n2_; have GW417 := n3_; have GE417 := n4_; have NB416_417 := n5_; have NB417_416 := n6_; clear n0_ n1_ n2_ n3_ n4_ n5_ n6_; clear hb hbox hg) | (go_at_call 24; (with_reducible refine (templelaw1_awake.calls k  true _ A4.out).mono ?_); rintro e w202 ⟨rfl, hb⟩; have n0_ := Aside0.mk (blk_below (g := gb416) (o := .cells #[.int .u64 a0_0, .int .u64 a0_1, .int .u64 a0_2, .int .u64 a0_3] 24 (0, 0)) (by (with_reducible repeat (first | refine blk_drewN ?_ _ | refine blk_drew ?_ | refine blk_alloc ?_ _)); exact BK416.out) hb); have n1_ := Aside0.mk (blk_below (g := gb417) (o := .cells #[.int .u64 a1_0, .int .u64 a1_1, .int .u64 a1_2, .int .u64 a1_3] 24 (0, 0)) (by (with_reducible repeat (first | refine blk_drewN ?_ _ | refine blk_drew ?_ | refine blk_alloc ?_ _)); exact BK417.out) hb); have n2_ := Aside0.mk (below_step (by repeat (first | (with_reducible first | exact HB.out | apply below_alloc | apply pw_below_drewN | apply below_drew1 | refine below_set ?_ GE416.out | refine below_set ?_ GE417.out) | exact HB.out)) hb); clear BK416; clear BK417; clear HB; have BK416 := n0_; have BK417 := n1_; have HB := n2_; clear n0_ n1_ n2_; (try clear hb)))
            have n0_ := Aside0.mk (blk_drew BK416.out)
            have n1_ := Aside0.mk (blk_drew BK417.out)
            have n2_ := Aside0.mk (below_drew1 HB.out)
            clear BK416
            clear BK417
            clear HB
            have BK416 := n0_
            have BK417 := n1_
            have HB := n2_
            clear n0_ n1_ n2_
            refine start_ (n := 8) (S := fun w' => w'.cell? ⟨gb416, 0, none⟩ = some (.int .u64 a0_0) ∧ w'.cell? ⟨gb416, 1, none⟩ = some (.int .u64 a0_1) ∧ w'.cell? ⟨gb416, 2, none⟩ = some (.int .u64 a0_2) ∧ w'.cell? ⟨gb416, 3, none⟩ = some (.int .u64 a0_3) ∧ w'.cell? ⟨gb417, 0, none⟩ = some (.int .u64 a1_0) ∧ w'.cell? ⟨gb417, 1, none⟩ = some (.int .u64 a1_1) ∧ w'.cell? ⟨gb417, 2, none⟩ = some (.int .u64 a1_2) ∧ w'.cell? ⟨gb417, 3, none⟩ = some (.int .u64 a1_3)) (ds := []) #[false, false, false, false, false, false, false, false] (by kernel_rfl) rfl rfl ⟨(blk_cell BK416.out 0).trans rfl, (blk_cell BK416.out 1).trans rfl, (blk_cell BK416.out 2).trans rfl, (blk_cell BK416.out 3).trans rfl, (blk_cell BK417.out 0).trans rfl, (blk_cell BK417.out 1).trans rfl, (blk_cell BK417.out 2).trans rfl, (blk_cell BK417.out 3).trans rfl⟩ (fun hHeld => ?_); refine with_tabW templelaw1_SetBits.tab4 templelaw1_SetBits.bits4 (fun HT_ HW_ => ?_)
            generalize w202.drew = w203 at BK416 BK417 HB hHeld ⊢
            refine pure_ (i := 1) (N := some 15) (v := ?_) (a' := ?_) #[false, true, false, false, false, false, false, false] rfl rfl (any_of HT_.out (by kernel_rfl)) (fun _ _ _ h => h) (Or.inl ⟨by rfl, ?_⟩) ?_ ?_
            rotate_left
            ·intro w'
             go_simp
             with_reducible rfl
            rotate_left
            ·simp only [Act.put, List.setIfInBounds_toArray, List.set_cons_zero, List.set_cons_succ, i64_w, i32_w]
             rfl
            refine pure_ (i := 4) (N := some 18) (v := ?_) (a' := ?_) #[false, true, false, false, true, false, false, false] rfl rfl (any_of HT_.out (by kernel_rfl)) (fun _ _ _ h => h) (Or.inl ⟨by rfl, ?_⟩) ?_ ?_
            rotate_left
            ·intro w'
             go_simp
             with_reducible rfl
            rotate_left
            ·simp only [Act.put, List.setIfInBounds_toArray, List.set_cons_zero, List.set_cons_succ, i64_w, i32_w]
             rfl
            refine take_ (i := 0) (N := some 14) (v := ?_) (a' := ?_) #[true, true, false, false, true, false, false, false] rfl rfl (take_ofW HT_.out HW_.out (by kernel_rfl)) (fun _ _ _ h => h) (Or.inl ⟨by rfl, ?_⟩) hHeld ?_ ?_
            rotate_left
            ·rintro w' ⟨s0, s1, s2, s3, s4, s5, s6, s7⟩
             go_simp
             with_reducible rfl
            rotate_left
            ·simp only [Act.put, List.setIfInBounds_toArray, List.set_cons_zero, List.set_cons_succ, i64_w, i32_w]
             rfl
            refine take_ (i := 3) (N := some 17) (v := ?_) (a' := ?_) #[true, true, false, true, true, false, false, false] rfl rfl (take_ofW HT_.out HW_.out (by kernel_rfl)) (fun _ _ _ h => h) (Or.inl ⟨by rfl, ?_⟩) hHeld ?_ ?_
            rotate_left
            ·rintro w' ⟨s0, s1, s2, s3, s4, s5, s6, s7⟩
             go_simp
             with_reducible rfl
            rotate_left
            ·simp only [Act.put, List.setIfInBounds_toArray, List.set_cons_zero, List.set_cons_succ, i64_w, i32_w]
             rfl
            refine one_ (i := 2) (N := some 16) #[true, true, true, true, true, false, false, false] rfl rfl (one_of HT_.out (by kernel_rfl)) (by decide) (fun K hK => ?_)
            refine goes_ Try.func13 (by kernel_rfl) rfl #[.agg #[.int .u64 a0_0, .int .u64 a0_1, .int .u64 a0_2, .int .u64 a0_3], .int .i64 (Go.bits .and .i64 a2 255)] (by rfl) rfl rfl (by (try simp only [List.map_toArray, List.map_cons, List.map_nil]); first | done | rfl | (simp only [List.length_drop, List.length_take]; rfl)) ?_
            with_reducible refine (byteset_Has.calls a0_0 a0_1 a0_2 a0_3 (Go.bits .and .i64 a2 255) false _ A6.out).mono ?_
            rintro e w204 ⟨rfl, hb⟩
            refine ⟨_, rfl, ?_⟩
            have n0_ := Aside0.mk (blk_below (g := gb416) (o := .cells #[.int .u64 a0_0, .int .u64 a0_1, .int .u64 a0_2, .int .u64 a0_3] 24 (0, 0)) (by (with_reducible repeat (first | refine blk_drewN ?_ _ | refine blk_drew ?_ | refine blk_alloc ?_ _)); exact BK416.out) hb)
            have n1_ := Aside0.mk (blk_below (g := gb417) (o := .cells #[.int .u64 a1_0, .int .u64 a1_1, .int .u64 a1_2, .int .u64 a1_3] 24 (0, 0)) (by (with_reducible repeat (first | refine blk_drewN ?_ _ | refine blk_drew ?_ | refine blk_alloc ?_ _)); exact BK417.out) hb)
            have n2_ := Aside0.mk (below_step (by repeat (first | (with_reducible first | exact HB.out | apply below_alloc | apply pw_below_drewN | apply below_drew1 | refine below_set ?_ GE416.out | refine below_set ?_ GE417.out) | exact HB.out)) hb)
            clear BK416
            clear BK417
            clear HB
            have BK416 := n0_
            have BK417 := n1_
            have HB := n2_
            clear n0_ n1_ n2_
            (try clear hb)
            (try clear hb2)
            (try clear hk)
            (try clear hi)
            refine hK.out _ _ ⟨(blk_cell BK416.out 0).trans rfl, (blk_cell BK416.out 1).trans rfl, (blk_cell BK416.out 2).trans rfl, (blk_cell BK416.out 3).trans rfl, (blk_cell BK417.out 0).trans rfl, (blk_cell BK417.out 1).trans rfl, (blk_cell BK417.out 2).trans rfl, (blk_cell BK417.out 3).trans rfl⟩ (fun hHeld => ?_)
            clear hK K
            refine norm_ (a' := ?_) ?_ ?_
            rotate_left
            ·show Act.put _ (some 16) _ = _
             simp only [Act.put, List.setIfInBounds_toArray, List.set_cons_zero, List.set_cons_succ, i64_w, i32_w]
             rfl
            refine one_ (i := 5) (N := some 19) #[true, true, true, true, true, true, false, false] rfl rfl (one_of HT_.out (by kernel_rfl)) (by decide) (fun K hK => ?_)
            refine goes_ Try.func13 (by kernel_rfl) rfl #[.agg #[.int .u64 a1_0, .int .u64 a1_1, .int .u64 a1_2, .int .u64 a1_3], .int .i64 (Go.bits .and .i64 a2 255)] (by rfl) rfl rfl (by (try simp only [List.map_toArray, List.map_cons, List.map_nil]); first | done | rfl | (simp only [List.length_drop, List.length_take]; rfl)) ?_
            with_reducible refine (byteset_Has.calls a1_0 a1_1 a1_2 a1_3 (Go.bits .and .i64 a2 255) t420 _ A7.out).mono ?_
            rintro e w205 ⟨rfl, hb⟩
            refine ⟨_, rfl, ?_⟩
            have n0_ := Aside0.mk (blk_below (g := gb416) (o := .cells #[.int .u64 a0_0, .int .u64 a0_1, .int .u64 a0_2, .int .u64 a0_3] 24 (0, 0)) (by (with_reducible repeat (first | refine blk_drewN ?_ _ | refine blk_drew ?_ | refine blk_alloc ?_ _)); exact BK416.out) hb)
            have n1_ := Aside0.mk (blk_below (g := gb417) (o := .cells #[.int .u64 a1_0, .int .u64 a1_1, .int .u64 a1_2, .int .u64 a1_3] 24 (0, 0)) (by (with_reducible repeat (first | refine blk_drewN ?_ _ | refine blk_drew ?_ | refine blk_alloc ?_ _)); exact BK417.out) hb)
            have n2_ := Aside0.mk (below_step (by repeat (first | (with_reducible first | exact HB.out | apply below_alloc | apply pw_below_drewN | apply below_drew1 | refine below_set ?_ GE416.out | refine below_set ?_ GE417.out) | exact HB.out)) hb)
            clear BK416
            clear BK417
            clear HB
            have BK416 := n0_
            have BK417 := n1_
            have HB := n2_
            clear n0_ n1_ n2_
            (try clear hb)
            (try clear hb2)
            (try clear hk)
            (try clear hi)
            refine hK.out _ _ ⟨(blk_cell BK416.out 0).trans rfl, (blk_cell BK416.out 1).trans rfl, (blk_cell BK416.out 2).trans rfl, (blk_cell BK416.out 3).trans rfl, (blk_cell BK417.out 0).trans rfl, (blk_cell BK417.out 1).trans rfl, (blk_cell BK417.out 2).trans rfl, (blk_cell BK417.out 3).trans rfl⟩ (fun hHeld => ?_)
            clear hK K
            refine norm_ (a' := ?_) ?_ ?_
            rotate_left
            ·show Act.put _ (some 19) _ = _
             simp only [Act.put, List.setIfInBounds_toArray, List.set_cons_zero, List.set_cons_succ, i64_w, i32_w]
             rfl
            refine pure_ (i := 6) (N := some 8) (v := ?_) (a' := ?_) #[true, true, true, true, true, true, true, false] rfl rfl (any_of HT_.out (by kernel_rfl)) (fun _ _ _ h => h) (Or.inl ⟨by rfl, ?_⟩) ?_ ?_
            rotate_left
            ·intro w'
             go_simp
             with_reducible rfl
            rotate_left
            ·simp only [Act.put, List.setIfInBounds_toArray, List.set_cons_zero, List.set_cons_succ, i64_w, i32_w]
             rfl
            refine pure_ (i := 7) (N := some 9) (v := ?_) (a' := ?_) #[true, true, true, true, true, true, true, true] rfl rfl (any_of HT_.out (by kernel_rfl)) (fun _ _ _ h => h) (Or.inl ⟨by rfl, ?_⟩) ?_ ?_
            rotate_left
            ·intro w'
             go_simp
             with_reducible rfl
            rotate_left
            ·simp only [Act.put, List.setIfInBounds_toArray, List.set_cons_zero, List.set_cons_succ, i64_w, i32_w]
             rfl
            refine done_ (done_of HT_.out (by kernel_rfl)) ?_
            have hnb206 := NB416_417.out
            have hnc206 := NB417_416.out
            have hcz207_0 : w205.cell? ⟨gb416, 0, none⟩ = some (.int .u64 a0_0) := (blk_cell BK416.out 0).trans rfl
            have hcz207_1 : w205.cell? ⟨gb416, 1, none⟩ = some (.int .u64 a0_1) := (blk_cell BK416.out 1).trans rfl
            have hcz207_2 : w205.cell? ⟨gb416, 2, none⟩ = some (.int .u64 a0_2) := (blk_cell BK416.out 2).trans rfl
            have hcz207_3 : w205.cell? ⟨gb416, 3, none⟩ = some (.int .u64 a0_3) := (blk_cell BK416.out 3).trans rfl
            have hfz207_0 := blk_frozen BK416.out 0
            have hfz207_1 := blk_frozen BK416.out 1
            have hfz207_2 := blk_frozen BK416.out 2
            have hfz207_3 := blk_frozen BK416.out 3
            have hcz208_0 : w205.cell? ⟨gb417, 0, none⟩ = some (.int .u64 a1_0) := (blk_cell BK417.out 0).trans rfl
            have hcz208_1 : w205.cell? ⟨gb417, 1, none⟩ = some (.int .u64 a1_1) := (blk_cell BK417.out 1).trans rfl
            have hcz208_2 : w205.cell? ⟨gb417, 2, none⟩ = some (.int .u64 a1_2) := (blk_cell BK417.out 2).trans rfl
            have hcz208_3 : w205.cell? ⟨gb417, 3, none⟩ = some (.int .u64 a1_3) := (blk_cell BK417.out 3).trans rfl
            have hfz208_0 := blk_frozen BK417.out 0
            have hfz208_1 := blk_frozen BK417.out 1
            have hfz208_2 := blk_frozen BK417.out 2
            have hfz208_3 := blk_frozen BK417.out 3
            try go_wp2_with (first | (go_at_call 15; (with_reducible refine (byteset_Or.calls a0_0 a0_1 a0_2 a0_3 a1_0 a1_1 a1_2 a1_3 t421 t422 t423 t424 _ A8.out).mono ?_); rintro e w209 ⟨rfl, hb⟩; have n0_ := Aside0.mk (blk_below (g := gb416) (o := .cells #[.int .u64 a0_0, .int .u64 a0_1, .int .u64 a0_2, .int .u64 a0_3] 24 (0, 0)) (by (with_reducible repeat (first | refine blk_drewN ?_ _ | refine blk_drew ?_ | refine blk_alloc ?_ _)); exact BK416.out) hb); have n1_ := Aside0.mk (blk_below (g := gb417) (o := .cells #[.int .u64 a1_0, .int .u64 a1_1, .int .u64 a1_2, .int .u64 a1_3] 24 (0, 0)) (by (with_reducible repeat (first | refine blk_drewN ?_ _ | refine blk_drew ?_ | refine blk_alloc ?_ _)); exact BK417.out) hb); have n2_ := Aside0.mk (below_step (by repeat (first | (with_reducible first | exact HB.out | apply below_alloc | apply pw_below_drewN | apply below_drew1 | refine below_set ?_ GE416.out | refine below_set ?_ GE417.out) | exact HB.out)) hb); clear BK416; clear BK417; clear HB; have BK416 := n0_; have BK417 := n1_; have HB := n2_; clear n0_ n1_ n2_; (try clear hb)) | (go_at_call 13; (with_reducible refine (byteset_Has.calls t421 t422 t423 t424 (Go.bits .and .i64 a2 255) t425 _ A9.out).mono ?_); rintro e w210 ⟨rfl, hb⟩; have n0_ := Aside0.mk (blk_below (g := gb416) (o := .cells #[.int .u64 a0_0, .int .u64 a0_1, .int .u64 a0_2, .int .u64 a0_3] 24 (0, 0)) (by (with_reducible repeat (first | refine blk_drewN ?_ _ | refine blk_drew ?_ | refine blk_alloc ?_ _)); exact BK416.out) hb); have n1_ := Aside0.mk (blk_below (g := gb417) (o := .cells #[.int .u64 a1_0, .int .u64 a1_1, .int .u64 a1_2, .int .u64 a1_3] 24 (0, 0)) (by (with_reducible repeat (first | refine blk_drewN ?_ _ | refine blk_drew ?_ | refine blk_alloc ?_ _)); exact BK417.out) hb); have n2_ := Aside0.mk (below_step (by repeat (first | (with_reducible first | exact HB.out | apply below_alloc | apply pw_below_drewN | apply below_drew1 | refine below_set ?_ GE416.out | refine below_set ?_ GE417.out) | exact HB.out)) hb); clear BK416; clear BK417; clear HB; have BK416 := n0_; have BK417 := n1_; have HB := n2_; clear n0_ n1_ n2_; (try clear hb); have hcz211_0 : w210.cell? ⟨gb416, 0, none⟩ = some (.int .u64 a0_0) := (blk_cell BK416.out 0).trans rfl; have hcz211_1 : w210.cell? ⟨gb416, 1, none⟩ = some (.int .u64 a0_1) := (blk_cell BK416.out 1).trans rfl; have hcz211_2 : w210.cell? ⟨gb416, 2, none⟩ = some (.int .u64 a0_2) := (blk_cell BK416.out 2).trans rfl; have hcz211_3 : w210.cell? ⟨gb416, 3, none⟩ = some (.int .u64 a0_3) := (blk_cell BK416.out 3).trans rfl; have hfz211_0 := blk_frozen BK416.out 0; have hfz211_1 := blk_frozen BK416.out 1; have hfz211_2 := blk_frozen BK416.out 2; have hfz211_3 := blk_frozen BK416.out 3; have hcz212_0 : w210.cell? ⟨gb417, 0, none⟩ = some (.int .u64 a1_0) := (blk_cell BK417.out 0).trans rfl; have hcz212_1 : w210.cell? ⟨gb417, 1, none⟩ = some (.int .u64 a1_1) := (blk_cell BK417.out 1).trans rfl; have hcz212_2 : w210.cell? ⟨gb417, 2, none⟩ = some (.int .u64 a1_2) := (blk_cell BK417.out 2).trans rfl; have hcz212_3 : w210.cell? ⟨gb417, 3, none⟩ = some (.int .u64 a1_3) := (blk_cell BK417.out 3).trans rfl; have hfz212_0 := blk_frozen BK417.out 0; have hfz212_1 := blk_frozen BK417.out 1; have hfz212_2 := blk_frozen BK417.out 2; have hfz212_3 := blk_frozen BK417.out 3) | (go_at_call 17; (with_reducible refine (byteset_And.calls a0_0 a0_1 a0_2 a0_3 a1_0 a1_1 a1_2 a1_3 t448 t449 t450 t451 _ A151.out).mono ?_); rintro e w213 ⟨rfl, hb⟩; have n0_ := Aside0.mk (blk_below (g := gb416) (o := .cells #[.int .u64 a0_0, .int .u64 a0_1, .int .u64 a0_2, .int .u64 a0_3] 24 (0, 0)) (by (with_reducible repeat (first | refine blk_drewN ?_ _ | refine blk_drew ?_ | refine blk_alloc ?_ _)); exact BK416.out) hb); have n1_ := Aside0.mk (blk_below (g := gb417) (o := .cells #[.int .u64 a1_0, .int .u64 a1_1, .int .u64 a1_2, .int .u64 a1_3] 24 (0, 0)) (by (with_reducible repeat (first | refine blk_drewN ?_ _ | refine blk_drew ?_ | refine blk_alloc ?_ _)); exact BK417.out) hb); have n2_ := Aside0.mk (below_step (by repeat (first | (with_reducible first | exact HB.out | apply below_alloc | apply pw_below_drewN | apply below_drew1 | refine below_set ?_ GE416.out | refine below_set ?_ GE417.out) | exact HB.out)) hb); clear BK416; clear BK417; clear HB; have BK416 := n0_; have BK417 := n1_; have HB := n2_; clear n0_ n1_ n2_; (try clear hb)) | (go_at_call 13; (with_reducible refine (byteset_Has.calls t448 t449 t450 t451 (Go.bits .and .i64 a2 255) t452 _ A152.out).mono ?_); rintro e w214 ⟨rfl, hb⟩; have n0_ := Aside0.mk (blk_below (g := gb416) (o := .cells #[.int .u64 a0_0, .int .u64 a0_1, .int .u64 a0_2, .int .u64 a0_3] 24 (0, 0)) (by (with_reducible repeat (first | refine blk_drewN ?_ _ | refine blk_drew ?_ | refine blk_alloc ?_ _)); exact BK416.out) hb); have n1_ := Aside0.mk (blk_below (g := gb417) (o := .cells #[.int .u64 a1_0, .int .u64 a1_1, .int .u64 a1_2, .int .u64 a1_3] 24 (0, 0)) (by (with_reducible repeat (first | refine blk_drewN ?_ _ | refine blk_drew ?_ | refine blk_alloc ?_ _)); exact BK417.out) hb); have n2_ := Aside0.mk (below_step (by repeat (first | (with_reducible first | exact HB.out | apply below_alloc | apply pw_below_drewN | apply below_drew1 | refine below_set ?_ GE416.out | refine below_set ?_ GE417.out) | exact HB.out)) hb); clear BK416; clear BK417; clear HB; have BK416 := n0_; have BK417 := n1_; have HB := n2_; clear n0_ n1_ n2_; (try clear hb); have hcz215_0 : w214.cell? ⟨gb416, 0, none⟩ = some (.int .u64 a0_0) := (blk_cell BK416.out 0).trans rfl; have hcz215_1 : w214.cell? ⟨gb416, 1, none⟩ = some (.int .u64 a0_1) := (blk_cell BK416.out 1).trans rfl; have hcz215_2 : w214.cell? ⟨gb416, 2, none⟩ = some (.int .u64 a0_2) := (blk_cell BK416.out 2).trans rfl; have hcz215_3 : w214.cell? ⟨gb416, 3, none⟩ = some (.int .u64 a0_3) := (blk_cell BK416.out 3).trans rfl; have hfz215_0 := blk_frozen BK416.out 0; have hfz215_1 := blk_frozen BK416.out 1; have hfz215_2 := blk_frozen BK416.out 2; have hfz215_3 := blk_frozen BK416.out 3; have hcz216_0 : w214.cell? ⟨gb417, 0, none⟩ = some (.int .u64 a1_0) := (blk_cell BK417.out 0).trans rfl; have hcz216_1 : w214.cell? ⟨gb417, 1, none⟩ = some (.int .u64 a1_1) := (blk_cell BK417.out 1).trans rfl; have hcz216_2 : w214.cell? ⟨gb417, 2, none⟩ = some (.int .u64 a1_2) := (blk_cell BK417.out 2).trans rfl; have hcz216_3 : w214.cell? ⟨gb417, 3, none⟩ = some (.int .u64 a1_3) := (blk_cell BK417.out 3).trans rfl; have hfz216_0 := blk_frozen BK417.out 0; have hfz216_1 := blk_frozen BK417.out 1; have hfz216_2 := blk_frozen BK417.out 2; have hfz216_3 := blk_frozen BK417.out 3) | (go_at_call 18; (with_reducible refine (byteset_Minus.calls a0_0 a0_1 a0_2 a0_3 a1_0 a1_1 a1_2 a1_3 t453 t454 t455 t456 _ A154.out).mono ?_); rintro e w217 ⟨rfl, hb⟩; have n0_ := Aside0.mk (blk_below (g := gb416) (o := .cells #[.int .u64 a0_0, .int .u64 a0_1, .int .u64 a0_2, .int .u64 a0_3] 24 (0, 0)) (by (with_reducible repeat (first | refine blk_drewN ?_ _ | refine blk_drew ?_ | refine blk_alloc ?_ _)); exact BK416.out) hb); have n1_ := Aside0.mk (blk_below (g := gb417) (o := .cells #[.int .u64 a1_0, .int .u64 a1_1, .int .u64 a1_2, .int .u64 a1_3] 24 (0, 0)) (by (with_reducible repeat (first | refine blk_drewN ?_ _ | refine blk_drew ?_ | refine blk_alloc ?_ _)); exact BK417.out) hb); have n2_ := Aside0.mk (below_step (by repeat (first | (with_reducible first | exact HB.out | apply below_alloc | apply pw_below_drewN | apply below_drew1 | refine below_set ?_ GE416.out | refine below_set ?_ GE417.out) | exact HB.out)) hb); clear BK416; clear BK417; clear HB; have BK416 := n0_; have BK417 := n1_; have HB := n2_; clear n0_ n1_ n2_; (try clear hb)) | (go_at_call 13; (with_reducible refine (byteset_Has.calls t453 t454 t455 t456 (Go.bits .and .i64 a2 255) t457 _ A155.out).mono ?_); rintro e w218 ⟨rfl, hb⟩; have n0_ := Aside0.mk (blk_below (g := gb416) (o := .cells #[.int .u64 a0_0, .int .u64 a0_1, .int .u64 a0_2, .int .u64 a0_3] 24 (0, 0)) (by (with_reducible repeat (first | refine blk_drewN ?_ _ | refine blk_drew ?_ | refine blk_alloc ?_ _)); exact BK416.out) hb); have n1_ := Aside0.mk (blk_below (g := gb417) (o := .cells #[.int .u64 a1_0, .int .u64 a1_1, .int .u64 a1_2, .int .u64 a1_3] 24 (0, 0)) (by (with_reducible repeat (first | refine blk_drewN ?_ _ | refine blk_drew ?_ | refine blk_alloc ?_ _)); exact BK417.out) hb); have n2_ := Aside0.mk (below_step (by repeat (first | (with_reducible first | exact HB.out | apply below_alloc | apply pw_below_drewN | apply below_drew1 | refine below_set ?_ GE416.out | refine below_set ?_ GE417.out) | exact HB.out)) hb); clear BK416; clear BK417; clear HB; have BK416 := n0_; have BK417 := n1_; have HB := n2_; clear n0_ n1_ n2_; (try clear hb); have hcz219_0 : w218.cell? ⟨gb416, 0, none⟩ = some (.int .u64 a0_0) := (blk_cell BK416.out 0).trans rfl; have hcz219_1 : w218.cell? ⟨gb416, 1, none⟩ = some (.int .u64 a0_1) := (blk_cell BK416.out 1).trans rfl; have hcz219_2 : w218.cell? ⟨gb416, 2, none⟩ = some (.int .u64 a0_2) := (blk_cell BK416.out 2).trans rfl; have hcz219_3 : w218.cell? ⟨gb416, 3, none⟩ = some (.int .u64 a0_3) := (blk_cell BK416.out 3).trans rfl; have hfz219_0 := blk_frozen BK416.out 0; have hfz219_1 := blk_frozen BK416.out 1; have hfz219_2 := blk_frozen BK416.out 2; have hfz219_3 := blk_frozen BK416.out 3) | (go_at_call 13; (with_reducible refine (byteset_Has.calls a0_0 a0_1 a0_2 a0_3 (wrap64 ((Go.bits .and .i64 a2 255) + 256)) false _ A195.out).mono ?_); rintro e w220 ⟨rfl, hb⟩; have n0_ := Aside0.mk (blk_below (g := gb416) (o := .cells #[.int .u64 a0_0, .int .u64 a0_1, .int .u64 a0_2, .int .u64 a0_3] 24 (0, 0)) (by (with_reducible repeat (first | refine blk_drewN ?_ _ | refine blk_drew ?_ | refine blk_alloc ?_ _)); exact BK416.out) hb); have n1_ := Aside0.mk (blk_below (g := gb417) (o := .cells #[.int .u64 a1_0, .int .u64 a1_1, .int .u64 a1_2, .int .u64 a1_3] 24 (0, 0)) (by (with_reducible repeat (first | refine blk_drewN ?_ _ | refine blk_drew ?_ | refine blk_alloc ?_ _)); exact BK417.out) hb); have n2_ := Aside0.mk (below_step (by repeat (first | (with_reducible first | exact HB.out | apply below_alloc | apply pw_below_drewN | apply below_drew1 | refine below_set ?_ GE416.out | refine below_set ?_ GE417.out) | exact HB.out)) hb); clear BK416; clear BK417; clear HB; have BK416 := n0_; have BK417 := n1_; have HB := n2_; clear n0_ n1_ n2_; (try clear hb); have hcz221_0 : w220.cell? ⟨gb416, 0, none⟩ = some (.int .u64 a0_0) := (blk_cell BK416.out 0).trans rfl; have hcz221_1 : w220.cell? ⟨gb416, 1, none⟩ = some (.int .u64 a0_1) := (blk_cell BK416.out 1).trans rfl; have hcz221_2 : w220.cell? ⟨gb416, 2, none⟩ = some (.int .u64 a0_2) := (blk_cell BK416.out 2).trans rfl; have hcz221_3 : w220.cell? ⟨gb416, 3, none⟩ = some (.int .u64 a0_3) := (blk_cell BK416.out 3).trans rfl; have hfz221_0 := blk_frozen BK416.out 0; have hfz221_1 := blk_frozen BK416.out 1; have hfz221_2 := blk_frozen BK416.out 2; have hfz221_3 := blk_frozen BK416.out 3) | (go_at_call 13; (with_reducible refine (byteset_Has.calls a0_0 a0_1 a0_2 a0_3 (wrap64 ((Go.bits .and .i64 a2 255) - 256)) false _ A197.out).mono ?_); rintro e w222 ⟨rfl, hb⟩; have n0_ := Aside0.mk (blk_below (g := gb416) (o := .cells #[.int .u64 a0_0, .int .u64 a0_1, .int .u64 a0_2, .int .u64 a0_3] 24 (0, 0)) (by (with_reducible repeat (first | refine blk_drewN ?_ _ | refine blk_drew ?_ | refine blk_alloc ?_ _)); exact BK416.out) hb); have n1_ := Aside0.mk (blk_below (g := gb417) (o := .cells #[.int .u64 a1_0, .int .u64 a1_1, .int .u64 a1_2, .int .u64 a1_3] 24 (0, 0)) (by (with_reducible repeat (first | refine blk_drewN ?_ _ | refine blk_drew ?_ | refine blk_alloc ?_ _)); exact BK417.out) hb); have n2_ := Aside0.mk (below_step (by repeat (first | (with_reducible first | exact HB.out | apply below_alloc | apply pw_below_drewN | apply below_drew1 | refine below_set ?_ GE416.out | refine below_set ?_ GE417.out) | exact HB.out)) hb); clear BK416; clear BK417; clear HB; have BK416 := n0_; have BK417 := n1_; have HB := n2_; clear n0_ n1_ n2_; (try clear hb)) | (go_at_call 12; (with_reducible refine (templelaw0_Num.calls 0 t463 _ A199.out).mono ?_); rintro e w' ⟨rfl, ⟨nd, rfl⟩⟩))
            go_ret
            exact ⟨by first | rfl | (simp [errW_none, errW_some] <;> rfl) | (simp only [← hji191, ← hji193]; first | rfl | (simp [errW_none, errW_some] <;> rfl)) | (simp [*, errW_none, errW_some] <;> rfl), by repeat (first | (with_reducible first | exact HB.out | apply below_alloc | apply pw_below_drewN | apply below_drew1 | refine below_set ?_ GE416.out | refine below_set ?_ GE417.out) | exact HB.out)⟩
         ·rw [if_neg c194] at H
          exact absurd H (by simp)
        ·rw [if_neg c192] at H
         exact absurd H (by simp)
       ·rw [if_neg c190] at H
        have c190b0 : ((wrap64 (Int.tdiv (Go.bits .and .i64 a2 255) 64)) == 1) = false := beq_eq_false_iff_ne.mpr c190
        have c190b1 : ((wrap64 (Int.tdiv (Go.bits .and .i64 a2 255) 64)) != 1) = true := bne_iff_ne.mpr c190
        by_cases c223 : (wrap64 (Int.tdiv (Go.bits .and .i64 a2 255) 64)) = 2
        ·rw [if_pos c223] at H
         have hji223 := c223
         have c223b0 : ((wrap64 (Int.tdiv (Go.bits .and .i64 a2 255) 64)) == 2) = true := beq_iff_eq.mpr c223
         have c223b1 : ((wrap64 (Int.tdiv (Go.bits .and .i64 a2 255) 64)) != 2) = false := bne_eq_false_iff_eq.mpr c223
         clear c223
         obtain ⟨ji224, hji224⟩ : ∃ j_ : Int, (Int.tmod (Go.bits .and .i64 a2 255) 64) = j_ := ⟨_, rfl⟩
         replace H : (if 0 ≤ (ji224) then (if (false == ((Go.bits .and .u64 (shr .u64 a0_2 (ji224)) 1) == 1)) = true then ((byteset_Has.f a0_0 a0_1 a0_2 a0_3 (wrap64 ((Go.bits .and .i64 a2 255) + 256))).bind fun t464 => (if t464 = true then (none) else ((byteset_Has.f a0_0 a0_1 a0_2 a0_3 (wrap64 ((Go.bits .and .i64 a2 255) - 256))).bind fun t465 => (if t465 = true then (none) else ((templelaw0_Num.f 0).bind fun t466 => (some (t466 == 0))))))) else (none)) else (none)) = some r := by first | (rw [hji224] at H; exact H) | (simp only [hji224] at H ⊢; exact H)
         (try rw [hji224] at A4)
         (try rw [hji224] at A6)
         (try rw [hji224] at A7)
         (try rw [hji224] at A8)
         (try rw [hji224] at A9)
         (try rw [hji224] at A151)
         (try rw [hji224] at A152)
         (try rw [hji224] at A154)
         (try rw [hji224] at A155)
         by_cases c225 : 0 ≤ (ji224)
         ·rw [if_pos c225] at H
          have c225b0 := eq_true c225
          have c225b1 : decide (0 ≤ (ji224)) = true := decide_eq_true c225
          clear c225
          obtain ⟨ji226, hji226⟩ : ∃ j_ : Int, (shr .u64 a0_2 (ji224)) = j_ := ⟨_, rfl⟩
          replace H : (if (false == ((Go.bits .and .u64 (ji226) 1) == 1)) = true then ((byteset_Has.f a0_0 a0_1 a0_2 a0_3 (wrap64 ((Go.bits .and .i64 a2 255) + 256))).bind fun t464 => (if t464 = true then (none) else ((byteset_Has.f a0_0 a0_1 a0_2 a0_3 (wrap64 ((Go.bits .and .i64 a2 255) - 256))).bind fun t465 => (if t465 = true then (none) else ((templelaw0_Num.f 0).bind fun t466 => (some (t466 == 0))))))) else (none)) = some r := by first | (rw [hji226] at H; exact H) | (simp only [hji226] at H ⊢; exact H)
          (try rw [hji226] at A4)
          (try rw [hji226] at A6)
          (try rw [hji226] at A7)
          (try rw [hji226] at A8)
          (try rw [hji226] at A9)
          (try rw [hji226] at A151)
          (try rw [hji226] at A152)
          (try rw [hji226] at A154)
          (try rw [hji226] at A155)
          have hji226_ : (a0_2 / 2 ^ min (ji224).toNat 64) = ji226 := hji226
          have hji226z : (ji224) ≤ 64 → (a0_2 / 2 ^ (ji224).toNat) = ji226 := shr_small hji226
          by_cases c227 : (false == ((Go.bits .and .u64 (ji226) 1) == 1)) = true
          ·rw [if_pos c227] at H
           have c227b0 : (false == ((Go.bits .and .u64 (ji226) 1) == 1)) = true := c227
           (try (have c227b1 : decide (false = ((Go.bits .and .u64 (ji226) 1) == 1)) = true := by simpa using c227))
           (try (have c227b2 : (false == ((Go.bits .and .u64 (ji226) 1) == 1)) = true := by simpa using c227))
           clear c227
           replace H := Option.bind_eq_some_iff.mp H
           obtain ⟨t464, A2280, H⟩ := H
           replace H : (if t464 = true then (none) else ((byteset_Has.f a0_0 a0_1 a0_2 a0_3 (wrap64 ((Go.bits .and .i64 a2 255) - 256))).bind fun t465 => (if t465 = true then (none) else ((templelaw0_Num.f 0).bind fun t466 => (some (t466 == 0)))))) = some r := H
           have A228 := Aside0.mk A2280
           clear A2280
           by_cases c229 : t464 = true
           ·subst c229
            have H1 : (none) = some r := by rw [if_pos rfl] at H; exact H
            clear H
            have H := H1
            clear H1
            exact absurd H (by simp)
           ·replace c229 := Bool.eq_false_iff.mpr c229
            subst c229
            have H1 : ((byteset_Has.f a0_0 a0_1 a0_2 a0_3 (wrap64 ((Go.bits .and .i64 a2 255) - 256))).bind fun t465 => (if t465 = true then (none) else ((templelaw0_Num.f 0).bind fun t466 => (some (t466 == 0))))) = some r := by rw [if_neg (show ¬ (false = true) by decide)] at H; exact H
            clear H
            have H := H1
            clear H1
            replace H := Option.bind_eq_some_iff.mp H
            obtain ⟨t465, A2300, H⟩ := H
            replace H : (if t465 = true then (none) else ((templelaw0_Num.f 0).bind fun t466 => (some (t466 == 0)))) = some r := H
            have A230 := Aside0.mk A2300
            clear A2300
            by_cases c231 : t465 = true
            ·subst c231
             have H1 : (none) = some r := by rw [if_pos rfl] at H; exact H
             clear H
             have H := H1
             clear H1
             exact absurd H (by simp)
            ·replace c231 := Bool.eq_false_iff.mpr c231
             subst c231
             have H1 : ((templelaw0_Num.f 0).bind fun t466 => (some (t466 == 0))) = some r := by rw [if_neg (show ¬ (false = true) by decide)] at H; exact H
             clear H
             have H := H1
             clear H1
             replace H := Option.bind_eq_some_iff.mp H
             obtain ⟨t466, A2320, H⟩ := H
             replace H : (some (t466 == 0)) = some r := H
             have A232 := Aside0.mk A2320
             clear A2320
             obtain rfl := Option.some.inj H
             go_enter Try.func7, Try.ntmps7
             try go_wp2_with (first | ((with_reducible refine gate_dst (N := 3) rfl ?_); refine box_event ?hg (N := 3) ?hd (cs := #[.int .u64 a0_0, .int .u64 a0_1, .int .u64 a0_2, .int .u64 a0_3]) (t := 24) ?hr ?_; (case hd => rfl); (case hg => rfl); (case hr => first | (go_simp; done) | (go_simp; rfl)); intro gb416 hg w233 hbox hb; have n0_ := Aside0.mk (below_step (by repeat (first | (with_reducible first | exact HB.out | apply below_alloc | apply pw_below_drewN | apply below_drew1) | exact HB.out)) hb); have n1_ := Aside0.mk (hbox); have n2_ := Aside0.mk ((by rw [hg]; exact (below_size (by repeat (first | (with_reducible first | exact HB.out | apply below_alloc | apply pw_below_drewN | apply below_drew1) | exact HB.out))) : w.heap.size ≤ gb416)); have n3_ := Aside0.mk ((by rw [hg]; exact (below_size (by repeat (first | (with_reducible first | exact HB.out | apply below_alloc | apply pw_below_drewN | apply below_drew1) | exact HB.out))) : w.heap.size ≤ gb416)); clear HB; have HB := n0_; have BK416 := n1_; have GW416 := n2_; have GE416 := n3_; clear n0_ n1_ n2_ n3_; clear hb hbox hg) | ((with_reducible refine gate_dst (N := 4) rfl ?_); refine box_event ?hg (N := 4) ?hd (cs := #[.int .u64 a1_0, .int .u64 a1_1, .int .u64 a1_2, .int .u64 a1_3]) (t := 24) ?hr ?_; (case hd => rfl); (case hg => rfl); (case hr => first | (go_simp; done) | (go_simp; rfl)); intro gb417 hg w234 hbox hb; have n0_ := Aside0.mk (blk_below (g := gb416) (o := .cells #[.int .u64 a0_0, .int .u64 a0_1, .int .u64 a0_2, .int .u64 a0_3] 24 (0, 0)) (by (with_reducible repeat (first | refine blk_drewN ?_ _ | refine blk_drew ?_ | refine blk_alloc ?_ _)); exact BK416.out) hb); have n1_ := Aside0.mk (below_step (by repeat (first | (with_reducible first | exact HB.out | apply below_alloc | apply pw_below_drewN | apply below_drew1 | refine below_set ?_ GE416.out) | exact HB.out)) hb); have n2_ := Aside0.mk (hbox); have n3_ := Aside0.mk ((by rw [hg]; exact (below_size (by repeat (first | (with_reducible first | exact HB.out | apply below_alloc | apply pw_below_drewN | apply below_drew1 | refine below_set ?_ GE416.out) | exact HB.out))) : w.heap.size ≤ gb417)); have n4_ := Aside0.mk ((by rw [hg]; exact (below_size (by repeat (first | (with_reducible first | exact HB.out | apply below_alloc | apply pw_below_drewN | apply below_drew1 | refine below_set ?_ GE416.out) | exact HB.out))) : w.heap.size ≤ gb417)); have n5_ := Aside0.mk ((by rw [hg]; exact Nat.ne_of_lt (blk_lt (g := gb416) (o := .cells #[.int .u64 a0_0, .int .u64 a0_1, .int .u64 a0_2, .int .u64 a0_3] 24 (0, 0)) (by (with_reducible repeat (first | refine blk_drewN ?_ _ | refine blk_drew ?_ | refine blk_alloc ?_ _)); exact BK416.out)) : gb416 ≠ gb417)); have n6_ := Aside0.mk ((by rw [hg]; exact Nat.ne_of_gt (blk_lt (g := gb416) (o := .cells #[.int .u64 a0_0, .int .u64 a0_1, .int .u64 a0_2, .int .u64 a0_3] 24 (0, 0)) (by (with_reducible repeat (first | refine blk_drewN ?_ _ | refine blk_drew ?_ | refine blk_alloc ?_ _)); exact BK416.out)) : gb417 ≠ gb416)); clear BK416; clear HB; have BK416 := n0_; have HB := n1_; have BK417 := n2_; have GW417 := n3_; have GE417 := n4_; have NB416_417 := n5_; have NB417_416 := n6_; clear n0_ n1_ n2_ n3_ n4_ n5_ n6_; clear hb hbox hg) | (go_at_call 24; (with_reducible refine (templelaw1_awake.calls k  true _ A4.out).mono ?_); rintro e w235 ⟨rfl, hb⟩; have n0_ := Aside0.mk (blk_below (g := gb416) (o := .cells #[.int .u64 a0_0, .int .u64 a0_1, .int .u64 a0_2, .int .u64 a0_3] 24 (0, 0)) (by (with_reducible repeat (first | refine blk_drewN ?_ _ | refine blk_drew ?_ | refine blk_alloc ?_ _)); exact BK416.out) hb); have n1_ := Aside0.mk (blk_below (g := gb417) (o := .cells #[.int .u64 a1_0, .int .u64 a1_1, .int .u64 a1_2, .int .u64 a1_3] 24 (0, 0)) (by (with_reducible repeat (first | refine blk_drewN ?_ _ | refine blk_drew ?_ | refine blk_alloc ?_ _)); exact BK417.out) hb); have n2_ := Aside0.mk (below_step (by repeat (first | (with_reducible first | exact HB.out | apply below_alloc | apply pw_below_drewN | apply below_drew1 | refine below_set ?_ GE416.out | refine below_set ?_ GE417.out) | exact HB.out)) hb); clear BK416; clear BK417; clear HB; have BK416 := n0_; have BK417 := n1_; have HB := n2_; clear n0_ n1_ n2_; (try clear hb)))
             have n0_ := Aside0.mk (blk_drew BK416.out)
             have n1_ := Aside0.mk (blk_drew BK417.out)
             have n2_ := Aside0.mk (below_drew1 HB.out)
             clear BK416
             clear BK417
             clear HB
             have BK416 := n0_
             have BK417 := n1_
             have HB := n2_
             clear n0_ n1_ n2_
             refine start_ (n := 8) (S := fun w' => w'.cell? ⟨gb416, 0, none⟩ = some (.int .u64 a0_0) ∧ w'.cell? ⟨gb416, 1, none⟩ = some (.int .u64 a0_1) ∧ w'.cell? ⟨gb416, 2, none⟩ = some (.int .u64 a0_2) ∧ w'.cell? ⟨gb416, 3, none⟩ = some (.int .u64 a0_3) ∧ w'.cell? ⟨gb417, 0, none⟩ = some (.int .u64 a1_0) ∧ w'.cell? ⟨gb417, 1, none⟩ = some (.int .u64 a1_1) ∧ w'.cell? ⟨gb417, 2, none⟩ = some (.int .u64 a1_2) ∧ w'.cell? ⟨gb417, 3, none⟩ = some (.int .u64 a1_3)) (ds := []) #[false, false, false, false, false, false, false, false] (by kernel_rfl) rfl rfl ⟨(blk_cell BK416.out 0).trans rfl, (blk_cell BK416.out 1).trans rfl, (blk_cell BK416.out 2).trans rfl, (blk_cell BK416.out 3).trans rfl, (blk_cell BK417.out 0).trans rfl, (blk_cell BK417.out 1).trans rfl, (blk_cell BK417.out 2).trans rfl, (blk_cell BK417.out 3).trans rfl⟩ (fun hHeld => ?_); refine with_tabW templelaw1_SetBits.tab4 templelaw1_SetBits.bits4 (fun HT_ HW_ => ?_)
             generalize w235.drew = w236 at BK416 BK417 HB hHeld ⊢
             refine pure_ (i := 1) (N := some 15) (v := ?_) (a' := ?_) #[false, true, false, false, false, false, false, false] rfl rfl (any_of HT_.out (by kernel_rfl)) (fun _ _ _ h => h) (Or.inl ⟨by rfl, ?_⟩) ?_ ?_
             rotate_left
             ·intro w'
              go_simp
              with_reducible rfl
             rotate_left
             ·simp only [Act.put, List.setIfInBounds_toArray, List.set_cons_zero, List.set_cons_succ, i64_w, i32_w]
              rfl
             refine pure_ (i := 4) (N := some 18) (v := ?_) (a' := ?_) #[false, true, false, false, true, false, false, false] rfl rfl (any_of HT_.out (by kernel_rfl)) (fun _ _ _ h => h) (Or.inl ⟨by rfl, ?_⟩) ?_ ?_
             rotate_left
             ·intro w'
              go_simp
              with_reducible rfl
             rotate_left
             ·simp only [Act.put, List.setIfInBounds_toArray, List.set_cons_zero, List.set_cons_succ, i64_w, i32_w]
              rfl
             refine take_ (i := 0) (N := some 14) (v := ?_) (a' := ?_) #[true, true, false, false, true, false, false, false] rfl rfl (take_ofW HT_.out HW_.out (by kernel_rfl)) (fun _ _ _ h => h) (Or.inl ⟨by rfl, ?_⟩) hHeld ?_ ?_
             rotate_left
             ·rintro w' ⟨s0, s1, s2, s3, s4, s5, s6, s7⟩
              go_simp
              with_reducible rfl
             rotate_left
             ·simp only [Act.put, List.setIfInBounds_toArray, List.set_cons_zero, List.set_cons_succ, i64_w, i32_w]
              rfl
             refine take_ (i := 3) (N := some 17) (v := ?_) (a' := ?_) #[true, true, false, true, true, false, false, false] rfl rfl (take_ofW HT_.out HW_.out (by kernel_rfl)) (fun _ _ _ h => h) (Or.inl ⟨by rfl, ?_⟩) hHeld ?_ ?_
             rotate_left
             ·rintro w' ⟨s0, s1, s2, s3, s4, s5, s6, s7⟩
              go_simp
              with_reducible rfl
             rotate_left
             ·simp only [Act.put, List.setIfInBounds_toArray, List.set_cons_zero, List.set_cons_succ, i64_w, i32_w]
              rfl
             refine one_ (i := 2) (N := some 16) #[true, true, true, true, true, false, false, false] rfl rfl (one_of HT_.out (by kernel_rfl)) (by decide) (fun K hK => ?_)
             refine goes_ Try.func13 (by kernel_rfl) rfl #[.agg #[.int .u64 a0_0, .int .u64 a0_1, .int .u64 a0_2, .int .u64 a0_3], .int .i64 (Go.bits .and .i64 a2 255)] (by rfl) rfl rfl (by (try simp only [List.map_toArray, List.map_cons, List.map_nil]); first | done | rfl | (simp only [List.length_drop, List.length_take]; rfl)) ?_
             with_reducible refine (byteset_Has.calls a0_0 a0_1 a0_2 a0_3 (Go.bits .and .i64 a2 255) false _ A6.out).mono ?_
             rintro e w237 ⟨rfl, hb⟩
             refine ⟨_, rfl, ?_⟩
             have n0_ := Aside0.mk (blk_below (g := gb416) (o := .cells #[.int .u64 a0_0, .int .u64 a0_1, .int .u64 a0_2, .int .u64 a0_3] 24 (0, 0)) (by (with_reducible repeat (first | refine blk_drewN ?_ _ | refine blk_drew ?_ | refine blk_alloc ?_ _)); exact BK416.out) hb)
             have n1_ := Aside0.mk (blk_below (g := gb417) (o := .cells #[.int .u64 a1_0, .int .u64 a1_1, .int .u64 a1_2, .int .u64 a1_3] 24 (0, 0)) (by (with_reducible repeat (first | refine blk_drewN ?_ _ | refine blk_drew ?_ | refine blk_alloc ?_ _)); exact BK417.out) hb)
             have n2_ := Aside0.mk (below_step (by repeat (first | (with_reducible first | exact HB.out | apply below_alloc | apply pw_below_drewN | apply below_drew1 | refine below_set ?_ GE416.out | refine below_set ?_ GE417.out) | exact HB.out)) hb)
             clear BK416
             clear BK417
             clear HB
             have BK416 := n0_
             have BK417 := n1_
             have HB := n2_
             clear n0_ n1_ n2_
             (try clear hb)
             (try clear hb2)
             (try clear hk)
             (try clear hi)
             refine hK.out _ _ ⟨(blk_cell BK416.out 0).trans rfl, (blk_cell BK416.out 1).trans rfl, (blk_cell BK416.out 2).trans rfl, (blk_cell BK416.out 3).trans rfl, (blk_cell BK417.out 0).trans rfl, (blk_cell BK417.out 1).trans rfl, (blk_cell BK417.out 2).trans rfl, (blk_cell BK417.out 3).trans rfl⟩ (fun hHeld => ?_)
             clear hK K
             refine norm_ (a' := ?_) ?_ ?_
             rotate_left
             ·show Act.put _ (some 16) _ = _
              simp only [Act.put, List.setIfInBounds_toArray, List.set_cons_zero, List.set_cons_succ, i64_w, i32_w]
              rfl
             refine one_ (i := 5) (N := some 19) #[true, true, true, true, true, true, false, false] rfl rfl (one_of HT_.out (by kernel_rfl)) (by decide) (fun K hK => ?_)
             refine goes_ Try.func13 (by kernel_rfl) rfl #[.agg #[.int .u64 a1_0, .int .u64 a1_1, .int .u64 a1_2, .int .u64 a1_3], .int .i64 (Go.bits .and .i64 a2 255)] (by rfl) rfl rfl (by (try simp only [List.map_toArray, List.map_cons, List.map_nil]); first | done | rfl | (simp only [List.length_drop, List.length_take]; rfl)) ?_
             with_reducible refine (byteset_Has.calls a1_0 a1_1 a1_2 a1_3 (Go.bits .and .i64 a2 255) t420 _ A7.out).mono ?_
             rintro e w238 ⟨rfl, hb⟩
             refine ⟨_, rfl, ?_⟩
             have n0_ := Aside0.mk (blk_below (g := gb416) (o := .cells #[.int .u64 a0_0, .int .u64 a0_1, .int .u64 a0_2, .int .u64 a0_3] 24 (0, 0)) (by (with_reducible repeat (first | refine blk_drewN ?_ _ | refine blk_drew ?_ | refine blk_alloc ?_ _)); exact BK416.out) hb)
             have n1_ := Aside0.mk (blk_below (g := gb417) (o := .cells #[.int .u64 a1_0, .int .u64 a1_1, .int .u64 a1_2, .int .u64 a1_3] 24 (0, 0)) (by (with_reducible repeat (first | refine blk_drewN ?_ _ | refine blk_drew ?_ | refine blk_alloc ?_ _)); exact BK417.out) hb)
             have n2_ := Aside0.mk (below_step (by repeat (first | (with_reducible first | exact HB.out | apply below_alloc | apply pw_below_drewN | apply below_drew1 | refine below_set ?_ GE416.out | refine below_set ?_ GE417.out) | exact HB.out)) hb)
             clear BK416
             clear BK417
             clear HB
             have BK416 := n0_
             have BK417 := n1_
             have HB := n2_
             clear n0_ n1_ n2_
             (try clear hb)
             (try clear hb2)
             (try clear hk)
             (try clear hi)
             refine hK.out _ _ ⟨(blk_cell BK416.out 0).trans rfl, (blk_cell BK416.out 1).trans rfl, (blk_cell BK416.out 2).trans rfl, (blk_cell BK416.out 3).trans rfl, (blk_cell BK417.out 0).trans rfl, (blk_cell BK417.out 1).trans rfl, (blk_cell BK417.out 2).trans rfl, (blk_cell BK417.out 3).trans rfl⟩ (fun hHeld => ?_)
             clear hK K
             refine norm_ (a' := ?_) ?_ ?_
             rotate_left
             ·show Act.put _ (some 19) _ = _
              simp only [Act.put, List.setIfInBounds_toArray, List.set_cons_zero, List.set_cons_succ, i64_w, i32_w]
              rfl
             refine pure_ (i := 6) (N := some 8) (v := ?_) (a' := ?_) #[true, true, true, true, true, true, true, false] rfl rfl (any_of HT_.out (by kernel_rfl)) (fun _ _ _ h => h) (Or.inl ⟨by rfl, ?_⟩) ?_ ?_
             rotate_left
             ·intro w'
              go_simp
              with_reducible rfl
             rotate_left
             ·simp only [Act.put, List.setIfInBounds_toArray, List.set_cons_zero, List.set_cons_succ, i64_w, i32_w]
              rfl
             refine pure_ (i := 7) (N := some 9) (v := ?_) (a' := ?_) #[true, true, true, true, true, true, true, true] rfl rfl (any_of HT_.out (by kernel_rfl)) (fun _ _ _ h => h) (Or.inl ⟨by rfl, ?_⟩) ?_ ?_
             rotate_left
             ·intro w'
              go_simp
              with_reducible rfl
             rotate_left
             ·simp only [Act.put, List.setIfInBounds_toArray, List.set_cons_zero, List.set_cons_succ, i64_w, i32_w]
              rfl
             refine done_ (done_of HT_.out (by kernel_rfl)) ?_
             have hnb239 := NB416_417.out
             have hnc239 := NB417_416.out
             have hcz240_0 : w238.cell? ⟨gb416, 0, none⟩ = some (.int .u64 a0_0) := (blk_cell BK416.out 0).trans rfl
             have hcz240_1 : w238.cell? ⟨gb416, 1, none⟩ = some (.int .u64 a0_1) := (blk_cell BK416.out 1).trans rfl
             have hcz240_2 : w238.cell? ⟨gb416, 2, none⟩ = some (.int .u64 a0_2) := (blk_cell BK416.out 2).trans rfl
             have hcz240_3 : w238.cell? ⟨gb416, 3, none⟩ = some (.int .u64 a0_3) := (blk_cell BK416.out 3).trans rfl
             have hfz240_0 := blk_frozen BK416.out 0
             have hfz240_1 := blk_frozen BK416.out 1
             have hfz240_2 := blk_frozen BK416.out 2
             have hfz240_3 := blk_frozen BK416.out 3
             have hcz241_0 : w238.cell? ⟨gb417, 0, none⟩ = some (.int .u64 a1_0) := (blk_cell BK417.out 0).trans rfl
             have hcz241_1 : w238.cell? ⟨gb417, 1, none⟩ = some (.int .u64 a1_1) := (blk_cell BK417.out 1).trans rfl
             have hcz241_2 : w238.cell? ⟨gb417, 2, none⟩ = some (.int .u64 a1_2) := (blk_cell BK417.out 2).trans rfl
             have hcz241_3 : w238.cell? ⟨gb417, 3, none⟩ = some (.int .u64 a1_3) := (blk_cell BK417.out 3).trans rfl
             have hfz241_0 := blk_frozen BK417.out 0
             have hfz241_1 := blk_frozen BK417.out 1
             have hfz241_2 := blk_frozen BK417.out 2
             have hfz241_3 := blk_frozen BK417.out 3
             try go_wp2_with (first | (go_at_call 15; (with_reducible refine (byteset_Or.calls a0_0 a0_1 a0_2 a0_3 a1_0 a1_1 a1_2 a1_3 t421 t422 t423 t424 _ A8.out).mono ?_); rintro e w242 ⟨rfl, hb⟩; have n0_ := Aside0.mk (blk_below (g := gb416) (o := .cells #[.int .u64 a0_0, .int .u64 a0_1, .int .u64 a0_2, .int .u64 a0_3] 24 (0, 0)) (by (with_reducible repeat (first | refine blk_drewN ?_ _ | refine blk_drew ?_ | refine blk_alloc ?_ _)); exact BK416.out) hb); have n1_ := Aside0.mk (blk_below (g := gb417) (o := .cells #[.int .u64 a1_0, .int .u64 a1_1, .int .u64 a1_2, .int .u64 a1_3] 24 (0, 0)) (by (with_reducible repeat (first | refine blk_drewN ?_ _ | refine blk_drew ?_ | refine blk_alloc ?_ _)); exact BK417.out) hb); have n2_ := Aside0.mk (below_step (by repeat (first | (with_reducible first | exact HB.out | apply below_alloc | apply pw_below_drewN | apply below_drew1 | refine below_set ?_ GE416.out | refine below_set ?_ GE417.out) | exact HB.out)) hb); clear BK416; clear BK417; clear HB; have BK416 := n0_; have BK417 := n1_; have HB := n2_; clear n0_ n1_ n2_; (try clear hb)) | (go_at_call 13; (with_reducible refine (byteset_Has.calls t421 t422 t423 t424 (Go.bits .and .i64 a2 255) t425 _ A9.out).mono ?_); rintro e w243 ⟨rfl, hb⟩; have n0_ := Aside0.mk (blk_below (g := gb416) (o := .cells #[.int .u64 a0_0, .int .u64 a0_1, .int .u64 a0_2, .int .u64 a0_3] 24 (0, 0)) (by (with_reducible repeat (first | refine blk_drewN ?_ _ | refine blk_drew ?_ | refine blk_alloc ?_ _)); exact BK416.out) hb); have n1_ := Aside0.mk (blk_below (g := gb417) (o := .cells #[.int .u64 a1_0, .int .u64 a1_1, .int .u64 a1_2, .int .u64 a1_3] 24 (0, 0)) (by (with_reducible repeat (first | refine blk_drewN ?_ _ | refine blk_drew ?_ | refine blk_alloc ?_ _)); exact BK417.out) hb); have n2_ := Aside0.mk (below_step (by repeat (first | (with_reducible first | exact HB.out | apply below_alloc | apply pw_below_drewN | apply below_drew1 | refine below_set ?_ GE416.out | refine below_set ?_ GE417.out) | exact HB.out)) hb); clear BK416; clear BK417; clear HB; have BK416 := n0_; have BK417 := n1_; have HB := n2_; clear n0_ n1_ n2_; (try clear hb); have hcz244_0 : w243.cell? ⟨gb416, 0, none⟩ = some (.int .u64 a0_0) := (blk_cell BK416.out 0).trans rfl; have hcz244_1 : w243.cell? ⟨gb416, 1, none⟩ = some (.int .u64 a0_1) := (blk_cell BK416.out 1).trans rfl; have hcz244_2 : w243.cell? ⟨gb416, 2, none⟩ = some (.int .u64 a0_2) := (blk_cell BK416.out 2).trans rfl; have hcz244_3 : w243.cell? ⟨gb416, 3, none⟩ = some (.int .u64 a0_3) := (blk_cell BK416.out 3).trans rfl; have hfz244_0 := blk_frozen BK416.out 0; have hfz244_1 := blk_frozen BK416.out 1; have hfz244_2 := blk_frozen BK416.out 2; have hfz244_3 := blk_frozen BK416.out 3; have hcz245_0 : w243.cell? ⟨gb417, 0, none⟩ = some (.int .u64 a1_0) := (blk_cell BK417.out 0).trans rfl; have hcz245_1 : w243.cell? ⟨gb417, 1, none⟩ = some (.int .u64 a1_1) := (blk_cell BK417.out 1).trans rfl; have hcz245_2 : w243.cell? ⟨gb417, 2, none⟩ = some (.int .u64 a1_2) := (blk_cell BK417.out 2).trans rfl; have hcz245_3 : w243.cell? ⟨gb417, 3, none⟩ = some (.int .u64 a1_3) := (blk_cell BK417.out 3).trans rfl; have hfz245_0 := blk_frozen BK417.out 0; have hfz245_1 := blk_frozen BK417.out 1; have hfz245_2 := blk_frozen BK417.out 2; have hfz245_3 := blk_frozen BK417.out 3) | (go_at_call 17; (with_reducible refine (byteset_And.calls a0_0 a0_1 a0_2 a0_3 a1_0 a1_1 a1_2 a1_3 t448 t449 t450 t451 _ A151.out).mono ?_); rintro e w246 ⟨rfl, hb⟩; have n0_ := Aside0.mk (blk_below (g := gb416) (o := .cells #[.int .u64 a0_0, .int .u64 a0_1, .int .u64 a0_2, .int .u64 a0_3] 24 (0, 0)) (by (with_reducible repeat (first | refine blk_drewN ?_ _ | refine blk_drew ?_ | refine blk_alloc ?_ _)); exact BK416.out) hb); have n1_ := Aside0.mk (blk_below (g := gb417) (o := .cells #[.int .u64 a1_0, .int .u64 a1_1, .int .u64 a1_2, .int .u64 a1_3] 24 (0, 0)) (by (with_reducible repeat (first | refine blk_drewN ?_ _ | refine blk_drew ?_ | refine blk_alloc ?_ _)); exact BK417.out) hb); have n2_ := Aside0.mk (below_step (by repeat (first | (with_reducible first | exact HB.out | apply below_alloc | apply pw_below_drewN | apply below_drew1 | refine below_set ?_ GE416.out | refine below_set ?_ GE417.out) | exact HB.out)) hb); clear BK416; clear BK417; clear HB; have BK416 := n0_; have BK417 := n1_; have HB := n2_; clear n0_ n1_ n2_; (try clear hb)) | (go_at_call 13; (with_reducible refine (byteset_Has.calls t448 t449 t450 t451 (Go.bits .and .i64 a2 255) t452 _ A152.out).mono ?_); rintro e w247 ⟨rfl, hb⟩; have n0_ := Aside0.mk (blk_below (g := gb416) (o := .cells #[.int .u64 a0_0, .int .u64 a0_1, .int .u64 a0_2, .int .u64 a0_3] 24 (0, 0)) (by (with_reducible repeat (first | refine blk_drewN ?_ _ | refine blk_drew ?_ | refine blk_alloc ?_ _)); exact BK416.out) hb); have n1_ := Aside0.mk (blk_below (g := gb417) (o := .cells #[.int .u64 a1_0, .int .u64 a1_1, .int .u64 a1_2, .int .u64 a1_3] 24 (0, 0)) (by (with_reducible repeat (first | refine blk_drewN ?_ _ | refine blk_drew ?_ | refine blk_alloc ?_ _)); exact BK417.out) hb); have n2_ := Aside0.mk (below_step (by repeat (first | (with_reducible first | exact HB.out | apply below_alloc | apply pw_below_drewN | apply below_drew1 | refine below_set ?_ GE416.out | refine below_set ?_ GE417.out) | exact HB.out)) hb); clear BK416; clear BK417; clear HB; have BK416 := n0_; have BK417 := n1_; have HB := n2_; clear n0_ n1_ n2_; (try clear hb); have hcz248_0 : w247.cell? ⟨gb416, 0, none⟩ = some (.int .u64 a0_0) := (blk_cell BK416.out 0).trans rfl; have hcz248_1 : w247.cell? ⟨gb416, 1, none⟩ = some (.int .u64 a0_1) := (blk_cell BK416.out 1).trans rfl; have hcz248_2 : w247.cell? ⟨gb416, 2, none⟩ = some (.int .u64 a0_2) := (blk_cell BK416.out 2).trans rfl; have hcz248_3 : w247.cell? ⟨gb416, 3, none⟩ = some (.int .u64 a0_3) := (blk_cell BK416.out 3).trans rfl; have hfz248_0 := blk_frozen BK416.out 0; have hfz248_1 := blk_frozen BK416.out 1; have hfz248_2 := blk_frozen BK416.out 2; have hfz248_3 := blk_frozen BK416.out 3; have hcz249_0 : w247.cell? ⟨gb417, 0, none⟩ = some (.int .u64 a1_0) := (blk_cell BK417.out 0).trans rfl; have hcz249_1 : w247.cell? ⟨gb417, 1, none⟩ = some (.int .u64 a1_1) := (blk_cell BK417.out 1).trans rfl; have hcz249_2 : w247.cell? ⟨gb417, 2, none⟩ = some (.int .u64 a1_2) := (blk_cell BK417.out 2).trans rfl; have hcz249_3 : w247.cell? ⟨gb417, 3, none⟩ = some (.int .u64 a1_3) := (blk_cell BK417.out 3).trans rfl; have hfz249_0 := blk_frozen BK417.out 0; have hfz249_1 := blk_frozen BK417.out 1; have hfz249_2 := blk_frozen BK417.out 2; have hfz249_3 := blk_frozen BK417.out 3) | (go_at_call 18; (with_reducible refine (byteset_Minus.calls a0_0 a0_1 a0_2 a0_3 a1_0 a1_1 a1_2 a1_3 t453 t454 t455 t456 _ A154.out).mono ?_); rintro e w250 ⟨rfl, hb⟩; have n0_ := Aside0.mk (blk_below (g := gb416) (o := .cells #[.int .u64 a0_0, .int .u64 a0_1, .int .u64 a0_2, .int .u64 a0_3] 24 (0, 0)) (by (with_reducible repeat (first | refine blk_drewN ?_ _ | refine blk_drew ?_ | refine blk_alloc ?_ _)); exact BK416.out) hb); have n1_ := Aside0.mk (blk_below (g := gb417) (o := .cells #[.int .u64 a1_0, .int .u64 a1_1, .int .u64 a1_2, .int .u64 a1_3] 24 (0, 0)) (by (with_reducible repeat (first | refine blk_drewN ?_ _ | refine blk_drew ?_ | refine blk_alloc ?_ _)); exact BK417.out) hb); have n2_ := Aside0.mk (below_step (by repeat (first | (with_reducible first | exact HB.out | apply below_alloc | apply pw_below_drewN | apply below_drew1 | refine below_set ?_ GE416.out | refine below_set ?_ GE417.out) | exact HB.out)) hb); clear BK416; clear BK417; clear HB; have BK416 := n0_; have BK417 := n1_; have HB := n2_; clear n0_ n1_ n2_; (try clear hb)) | (go_at_call 13; (with_reducible refine (byteset_Has.calls t453 t454 t455 t456 (Go.bits .and .i64 a2 255) t457 _ A155.out).mono ?_); rintro e w251 ⟨rfl, hb⟩; have n0_ := Aside0.mk (blk_below (g := gb416) (o := .cells #[.int .u64 a0_0, .int .u64 a0_1, .int .u64 a0_2, .int .u64 a0_3] 24 (0, 0)) (by (with_reducible repeat (first | refine blk_drewN ?_ _ | refine blk_drew ?_ | refine blk_alloc ?_ _)); exact BK416.out) hb); have n1_ := Aside0.mk (blk_below (g := gb417) (o := .cells #[.int .u64 a1_0, .int .u64 a1_1, .int .u64 a1_2, .int .u64 a1_3] 24 (0, 0)) (by (with_reducible repeat (first | refine blk_drewN ?_ _ | refine blk_drew ?_ | refine blk_alloc ?_ _)); exact BK417.out) hb); have n2_ := Aside0.mk (below_step (by repeat (first | (with_reducible first | exact HB.out | apply below_alloc | apply pw_below_drewN | apply below_drew1 | refine below_set ?_ GE416.out | refine below_set ?_ GE417.out) | exact HB.out)) hb); clear BK416; clear BK417; clear HB; have BK416 := n0_; have BK417 := n1_; have HB := n2_; clear n0_ n1_ n2_; (try clear hb); have hcz252_0 : w251.cell? ⟨gb416, 0, none⟩ = some (.int .u64 a0_0) := (blk_cell BK416.out 0).trans rfl; have hcz252_1 : w251.cell? ⟨gb416, 1, none⟩ = some (.int .u64 a0_1) := (blk_cell BK416.out 1).trans rfl; have hcz252_2 : w251.cell? ⟨gb416, 2, none⟩ = some (.int .u64 a0_2) := (blk_cell BK416.out 2).trans rfl; have hcz252_3 : w251.cell? ⟨gb416, 3, none⟩ = some (.int .u64 a0_3) := (blk_cell BK416.out 3).trans rfl; have hfz252_0 := blk_frozen BK416.out 0; have hfz252_1 := blk_frozen BK416.out 1; have hfz252_2 := blk_frozen BK416.out 2; have hfz252_3 := blk_frozen BK416.out 3) | (go_at_call 13; (with_reducible refine (byteset_Has.calls a0_0 a0_1 a0_2 a0_3 (wrap64 ((Go.bits .and .i64 a2 255) + 256)) false _ A228.out).mono ?_); rintro e w253 ⟨rfl, hb⟩; have n0_ := Aside0.mk (blk_below (g := gb416) (o := .cells #[.int .u64 a0_0, .int .u64 a0_1, .int .u64 a0_2, .int .u64 a0_3] 24 (0, 0)) (by (with_reducible repeat (first | refine blk_drewN ?_ _ | refine blk_drew ?_ | refine blk_alloc ?_ _)); exact BK416.out) hb); have n1_ := Aside0.mk (blk_below (g := gb417) (o := .cells #[.int .u64 a1_0, .int .u64 a1_1, .int .u64 a1_2, .int .u64 a1_3] 24 (0, 0)) (by (with_reducible repeat (first | refine blk_drewN ?_ _ | refine blk_drew ?_ | refine blk_alloc ?_ _)); exact BK417.out) hb); have n2_ := Aside0.mk (below_step (by repeat (first | (with_reducible first | exact HB.out | apply below_alloc | apply pw_below_drewN | apply below_drew1 | refine below_set ?_ GE416.out | refine below_set ?_ GE417.out) | exact HB.out)) hb); clear BK416; clear BK417; clear HB; have BK416 := n0_; have BK417 := n1_; have HB := n2_; clear n0_ n1_ n2_; (try clear hb); have hcz254_0 : w253.cell? ⟨gb416, 0, none⟩ = some (.int .u64 a0_0) := (blk_cell BK416.out 0).trans rfl; have hcz254_1 : w253.cell? ⟨gb416, 1, none⟩ = some (.int .u64 a0_1) := (blk_cell BK416.out 1).trans rfl; have hcz254_2 : w253.cell? ⟨gb416, 2, none⟩ = some (.int .u64 a0_2) := (blk_cell BK416.out 2).trans rfl; have hcz254_3 : w253.cell? ⟨gb416, 3, none⟩ = some (.int .u64 a0_3) := (blk_cell BK416.out 3).trans rfl; have hfz254_0 := blk_frozen BK416.out 0; have hfz254_1 := blk_frozen BK416.out 1; have hfz254_2 := blk_frozen BK416.out 2; have hfz254_3 := blk_frozen BK416.out 3) | (go_at_call 13; (with_reducible refine (byteset_Has.calls a0_0 a0_1 a0_2 a0_3 (wrap64 ((Go.bits .and .i64 a2 255) - 256)) false _ A230.out).mono ?_); rintro e w255 ⟨rfl, hb⟩; have n0_ := Aside0.mk (blk_below (g := gb416) (o := .cells #[.int .u64 a0_0, .int .u64 a0_1, .int .u64 a0_2, .int .u64 a0_3] 24 (0, 0)) (by (with_reducible repeat (first | refine blk_drewN ?_ _ | refine blk_drew ?_ | refine blk_alloc ?_ _)); exact BK416.out) hb); have n1_ := Aside0.mk (blk_below (g := gb417) (o := .cells #[.int .u64 a1_0, .int .u64 a1_1, .int .u64 a1_2, .int .u64 a1_3] 24 (0, 0)) (by (with_reducible repeat (first | refine blk_drewN ?_ _ | refine blk_drew ?_ | refine blk_alloc ?_ _)); exact BK417.out) hb); have n2_ := Aside0.mk (below_step (by repeat (first | (with_reducible first | exact HB.out | apply below_alloc | apply pw_below_drewN | apply below_drew1 | refine below_set ?_ GE416.out | refine below_set ?_ GE417.out) | exact HB.out)) hb); clear BK416; clear BK417; clear HB; have BK416 := n0_; have BK417 := n1_; have HB := n2_; clear n0_ n1_ n2_; (try clear hb)) | (go_at_call 12; (with_reducible refine (templelaw0_Num.calls 0 t466 _ A232.out).mono ?_); rintro e w' ⟨rfl, ⟨nd, rfl⟩⟩))
             go_ret
             exact ⟨by first | rfl | (simp [errW_none, errW_some] <;> rfl) | (simp only [← hji224, ← hji226]; first | rfl | (simp [errW_none, errW_some] <;> rfl)) | (simp [*, errW_none, errW_some] <;> rfl), by repeat (first | (with_reducible first | exact HB.out | apply below_alloc | apply pw_below_drewN | apply below_drew1 | refine below_set ?_ GE416.out | refine below_set ?_ GE417.out) | exact HB.out)⟩
          ·rw [if_neg c227] at H
           exact absurd H (by simp)
         ·rw [if_neg c225] at H
          exact absurd H (by simp)
        ·rw [if_neg c223] at H
         have c223b0 : ((wrap64 (Int.tdiv (Go.bits .and .i64 a2 255) 64)) == 2) = false := beq_eq_false_iff_ne.mpr c223
         have c223b1 : ((wrap64 (Int.tdiv (Go.bits .and .i64 a2 255) 64)) != 2) = true := bne_iff_ne.mpr c223
         by_cases c256 : (wrap64 (Int.tdiv (Go.bits .and .i64 a2 255) 64)) = 3
         ·rw [if_pos c256] at H
          have hji256 := c256
          have c256b0 : ((wrap64 (Int.tdiv (Go.bits .and .i64 a2 255) 64)) == 3) = true := beq_iff_eq.mpr c256
          have c256b1 : ((wrap64 (Int.tdiv (Go.bits .and .i64 a2 255) 64)) != 3) = false := bne_eq_false_iff_eq.mpr c256
          clear c256
          obtain ⟨ji257, hji257⟩ : ∃ j_ : Int, (Int.tmod (Go.bits .and .i64 a2 255) 64) = j_ := ⟨_, rfl⟩
          replace H : (if 0 ≤ (ji257) then (if (false == ((Go.bits .and .u64 (shr .u64 a0_3 (ji257)) 1) == 1)) = true then ((byteset_Has.f a0_0 a0_1 a0_2 a0_3 (wrap64 ((Go.bits .and .i64 a2 255) + 256))).bind fun t467 => (if t467 = true then (none) else ((byteset_Has.f a0_0 a0_1 a0_2 a0_3 (wrap64 ((Go.bits .and .i64 a2 255) - 256))).bind fun t468 => (if t468 = true then (none) else ((templelaw0_Num.f 0).bind fun t469 => (some (t469 == 0))))))) else (none)) else (none)) = some r := by first | (rw [hji257] at H; exact H) | (simp only [hji257] at H ⊢; exact H)
          (try rw [hji257] at A4)
          (try rw [hji257] at A6)
          (try rw [hji257] at A7)
          (try rw [hji257] at A8)
          (try rw [hji257] at A9)
          (try rw [hji257] at A151)
          (try rw [hji257] at A152)
          (try rw [hji257] at A154)
          (try rw [hji257] at A155)
          by_cases c258 : 0 ≤ (ji257)
          ·rw [if_pos c258] at H
           have c258b0 := eq_true c258
           have c258b1 : decide (0 ≤ (ji257)) = true := decide_eq_true c258
           clear c258
           obtain ⟨ji259, hji259⟩ : ∃ j_ : Int, (shr .u64 a0_3 (ji257)) = j_ := ⟨_, rfl⟩
           replace H : (if (false == ((Go.bits .and .u64 (ji259) 1) == 1)) = true then ((byteset_Has.f a0_0 a0_1 a0_2 a0_3 (wrap64 ((Go.bits .and .i64 a2 255) + 256))).bind fun t467 => (if t467 = true then (none) else ((byteset_Has.f a0_0 a0_1 a0_2 a0_3 (wrap64 ((Go.bits .and .i64 a2 255) - 256))).bind fun t468 => (if t468 = true then (none) else ((templelaw0_Num.f 0).bind fun t469 => (some (t469 == 0))))))) else (none)) = some r := by first | (rw [hji259] at H; exact H) | (simp only [hji259] at H ⊢; exact H)
           (try rw [hji259] at A4)
           (try rw [hji259] at A6)
           (try rw [hji259] at A7)
           (try rw [hji259] at A8)
           (try rw [hji259] at A9)
           (try rw [hji259] at A151)
           (try rw [hji259] at A152)
           (try rw [hji259] at A154)
           (try rw [hji259] at A155)
           have hji259_ : (a0_3 / 2 ^ min (ji257).toNat 64) = ji259 := hji259
           have hji259z : (ji257) ≤ 64 → (a0_3 / 2 ^ (ji257).toNat) = ji259 := shr_small hji259
           by_cases c260 : (false == ((Go.bits .and .u64 (ji259) 1) == 1)) = true
           ·rw [if_pos c260] at H
            have c260b0 : (false == ((Go.bits .and .u64 (ji259) 1) == 1)) = true := c260
            (try (have c260b1 : decide (false = ((Go.bits .and .u64 (ji259) 1) == 1)) = true := by simpa using c260))
            (try (have c260b2 : (false == ((Go.bits .and .u64 (ji259) 1) == 1)) = true := by simpa using c260))
            clear c260
            replace H := Option.bind_eq_some_iff.mp H
            obtain ⟨t467, A2610, H⟩ := H
            replace H : (if t467 = true then (none) else ((byteset_Has.f a0_0 a0_1 a0_2 a0_3 (wrap64 ((Go.bits .and .i64 a2 255) - 256))).bind fun t468 => (if t468 = true then (none) else ((templelaw0_Num.f 0).bind fun t469 => (some (t469 == 0)))))) = some r := H
            have A261 := Aside0.mk A2610
            clear A2610
            by_cases c262 : t467 = true
            ·subst c262
             have H1 : (none) = some r := by rw [if_pos rfl] at H; exact H
             clear H
             have H := H1
             clear H1
             exact absurd H (by simp)
            ·replace c262 := Bool.eq_false_iff.mpr c262
             subst c262
             have H1 := H
             rw [if_neg (show ¬ (false = true) by decide)] at H1
             clear H
             have H := H1
             clear H1
             replace H := Option.bind_eq_some_iff.mp H
             obtain ⟨t468, A2630, H⟩ := H
             replace H : (if t468 = true then (none) else ((templelaw0_Num.f 0).bind fun t469 => (some (t469 == 0)))) = some r := H
             have A263 := Aside0.mk A2630
             clear A2630
             by_cases c264 : t468 = true
             ·subst c264
              have H1 : (none) = some r := by rw [if_pos rfl] at H; exact H
              clear H
              have H := H1
              clear H1
              exact absurd H (by simp)
             ·replace c264 := Bool.eq_false_iff.mpr c264
              subst c264
              have H1 : ((templelaw0_Num.f 0).bind fun t469 => (some (t469 == 0))) = some r := by rw [if_neg (show ¬ (false = true) by decide)] at H; exact H
              clear H
              have H := H1
              clear H1
              replace H := Option.bind_eq_some_iff.mp H
              obtain ⟨t469, A2650, H⟩ := H
              replace H : (some (t469 == 0)) = some r := H
              have A265 := Aside0.mk A2650
              clear A2650
              obtain rfl := Option.some.inj H
              go_enter Try.func7, Try.ntmps7
              try go_wp2_with (first | ((with_reducible refine gate_dst (N := 3) rfl ?_); refine box_event ?hg (N := 3) ?hd (cs := #[.int .u64 a0_0, .int .u64 a0_1, .int .u64 a0_2, .int .u64 a0_3]) (t := 24) ?hr ?_; (case hd => rfl); (case hg => rfl); (case hr => first | (go_simp; done) | (go_simp; rfl)); intro gb416 hg w266 hbox hb; have n0_ := Aside0.mk (below_step (by repeat (first | (with_reducible first | exact HB.out | apply below_alloc | apply pw_below_drewN | apply below_drew1) | exact HB.out)) hb); have n1_ := Aside0.mk (hbox); have n2_ := Aside0.mk ((by rw [hg]; exact (below_size (by repeat (first | (with_reducible first | exact HB.out | apply below_alloc | apply pw_below_drewN | apply below_drew1) | exact HB.out))) : w.heap.size ≤ gb416)); have n3_ := Aside0.mk ((by rw [hg]; exact (below_size (by repeat (first | (with_reducible first | exact HB.out | apply below_alloc | apply pw_below_drewN | apply below_drew1) | exact HB.out))) : w.heap.size ≤ gb416)); clear HB; have HB := n0_; have BK416 := n1_; have GW416 := n2_; have GE416 := n3_; clear n0_ n1_ n2_ n3_; clear hb hbox hg) | ((with_reducible refine gate_dst (N := 4) rfl ?_); refine box_event ?hg (N := 4) ?hd (cs := #[.int .u64 a1_0, .int .u64 a1_1, .int .u64 a1_2, .int .u64 a1_3]) (t := 24) ?hr ?_; (case hd => rfl); (case hg => rfl); (case hr => first | (go_simp; done) | (go_simp; rfl)); intro gb417 hg w267 hbox hb; have n0_ := Aside0.mk (blk_below (g := gb416) (o := .cells #[.int .u64 a0_0, .int .u64 a0_1, .int .u64 a0_2, .int .u64 a0_3] 24 (0, 0)) (by (with_reducible repeat (first | refine blk_drewN ?_ _ | refine blk_drew ?_ | refine blk_alloc ?_ _)); exact BK416.out) hb); have n1_ := Aside0.mk (below_step (by repeat (first | (with_reducible first | exact HB.out | apply below_alloc | apply pw_below_drewN | apply below_drew1 | refine below_set ?_ GE416.out) | exact HB.out)) hb); have n2_ := Aside0.mk (hbox); have n3_ := Aside0.mk ((by rw [hg]; exact (below_size (by repeat (first | (with_reducible first | exact HB.out | apply below_alloc | apply pw_below_drewN | apply below_drew1 | refine below_set ?_ GE416.out) | exact HB.out))) : w.heap.size ≤ gb417)); have n4_ := Aside0.mk ((by rw [hg]; exact (below_size (by repeat (first | (with_reducible first | exact HB.out | apply below_alloc | apply pw_below_drewN | apply below_drew1 | refine below_set ?_ GE416.out) | exact HB.out))) : w.heap.size ≤ gb417)); have n5_ := Aside0.mk ((by rw [hg]; exact Nat.ne_of_lt (blk_lt (g := gb416) (o := .cells #[.int .u64 a0_0, .int .u64 a0_1, .int .u64 a0_2, .int .u64 a0_3] 24 (0, 0)) (by (with_reducible repeat (first | refine blk_drewN ?_ _ | refine blk_drew ?_ | refine blk_alloc ?_ _)); exact BK416.out)) : gb416 ≠ gb417)); have n6_ := Aside0.mk ((by rw [hg]; exact Nat.ne_of_gt (blk_lt (g := gb416) (o := .cells #[.int .u64 a0_0, .int .u64 a0_1, .int .u64 a0_2, .int .u64 a0_3] 24 (0, 0)) (by (with_reducible repeat (first | refine blk_drewN ?_ _ | refine blk_drew ?_ | refine blk_alloc ?_ _)); exact BK416.out)) : gb417 ≠ gb416)); clear BK416; clear HB; have BK416 := n0_; have HB := n1_; have BK417 := n2_; have GW417 := n3_; have GE417 := n4_; have NB416_417 := n5_; have NB417_416 := n6_; clear n0_ n1_ n2_ n3_ n4_ n5_ n6_; clear hb hbox hg) | (go_at_call 24; (with_reducible refine (templelaw1_awake.calls k  true _ A4.out).mono ?_); rintro e w268 ⟨rfl, hb⟩; have n0_ := Aside0.mk (blk_below (g := gb416) (o := .cells #[.int .u64 a0_0, .int .u64 a0_1, .int .u64 a0_2, .int .u64 a0_3] 24 (0, 0)) (by (with_reducible repeat (first | refine blk_drewN ?_ _ | refine blk_drew ?_ | refine blk_alloc ?_ _)); exact BK416.out) hb); have n1_ := Aside0.mk (blk_below (g := gb417) (o := .cells #[.int .u64 a1_0, .int .u64 a1_1, .int .u64 a1_2, .int .u64 a1_3] 24 (0, 0)) (by (with_reducible repeat (first | refine blk_drewN ?_ _ | refine blk_drew ?_ | refine blk_alloc ?_ _)); exact BK417.out) hb); have n2_ := Aside0.mk (below_step (by repeat (first | (with_reducible first | exact HB.out | apply below_alloc | apply pw_below_drewN | apply below_drew1 | refine below_set ?_ GE416.out | refine below_set ?_ GE417.out) | exact HB.out)) hb); clear BK416; clear BK417; clear HB; have BK416 := n0_; have BK417 := n1_; have HB := n2_; clear n0_ n1_ n2_; (try clear hb)))
              have n0_ := Aside0.mk (blk_drew BK416.out)
              have n1_ := Aside0.mk (blk_drew BK417.out)
              have n2_ := Aside0.mk (below_drew1 HB.out)
              clear BK416
              clear BK417
              clear HB
              have BK416 := n0_
              have BK417 := n1_
              have HB := n2_
              clear n0_ n1_ n2_
              refine start_ (n := 8) (S := fun w' => w'.cell? ⟨gb416, 0, none⟩ = some (.int .u64 a0_0) ∧ w'.cell? ⟨gb416, 1, none⟩ = some (.int .u64 a0_1) ∧ w'.cell? ⟨gb416, 2, none⟩ = some (.int .u64 a0_2) ∧ w'.cell? ⟨gb416, 3, none⟩ = some (.int .u64 a0_3) ∧ w'.cell? ⟨gb417, 0, none⟩ = some (.int .u64 a1_0) ∧ w'.cell? ⟨gb417, 1, none⟩ = some (.int .u64 a1_1) ∧ w'.cell? ⟨gb417, 2, none⟩ = some (.int .u64 a1_2) ∧ w'.cell? ⟨gb417, 3, none⟩ = some (.int .u64 a1_3)) (ds := []) #[false, false, false, false, false, false, false, false] (by kernel_rfl) rfl rfl ⟨(blk_cell BK416.out 0).trans rfl, (blk_cell BK416.out 1).trans rfl, (blk_cell BK416.out 2).trans rfl, (blk_cell BK416.out 3).trans rfl, (blk_cell BK417.out 0).trans rfl, (blk_cell BK417.out 1).trans rfl, (blk_cell BK417.out 2).trans rfl, (blk_cell BK417.out 3).trans rfl⟩ (fun hHeld => ?_); refine with_tabW templelaw1_SetBits.tab4 templelaw1_SetBits.bits4 (fun HT_ HW_ => ?_)
              generalize w268.drew = w269 at BK416 BK417 HB hHeld ⊢
              refine pure_ (i := 1) (N := some 15) (v := ?_) (a' := ?_) #[false, true, false, false, false, false, false, false] rfl rfl (any_of HT_.out (by kernel_rfl)) (fun _ _ _ h => h) (Or.inl ⟨by rfl, ?_⟩) ?_ ?_
              rotate_left
              ·intro w'
               go_simp
               with_reducible rfl
              rotate_left
              ·simp only [Act.put, List.setIfInBounds_toArray, List.set_cons_zero, List.set_cons_succ, i64_w, i32_w]
               rfl
              refine pure_ (i := 4) (N := some 18) (v := ?_) (a' := ?_) #[false, true, false, false, true, false, false, false] rfl rfl (any_of HT_.out (by kernel_rfl)) (fun _ _ _ h => h) (Or.inl ⟨by rfl, ?_⟩) ?_ ?_
              rotate_left
              ·intro w'
               go_simp
               with_reducible rfl
              rotate_left
              ·simp only [Act.put, List.setIfInBounds_toArray, List.set_cons_zero, List.set_cons_succ, i64_w, i32_w]
               rfl
              refine take_ (i := 0) (N := some 14) (v := ?_) (a' := ?_) #[true, true, false, false, true, false, false, false] rfl rfl (take_ofW HT_.out HW_.out (by kernel_rfl)) (fun _ _ _ h => h) (Or.inl ⟨by rfl, ?_⟩) hHeld ?_ ?_
              rotate_left
              ·rintro w' ⟨s0, s1, s2, s3, s4, s5, s6, s7⟩
               go_simp
               with_reducible rfl
              rotate_left
              ·simp only [Act.put, List.setIfInBounds_toArray, List.set_cons_zero, List.set_cons_succ, i64_w, i32_w]
               rfl
              refine take_ (i := 3) (N := some 17) (v := ?_) (a' := ?_) #[true, true, false, true, true, false, false, false] rfl rfl (take_ofW HT_.out HW_.out (by kernel_rfl)) (fun _ _ _ h => h) (Or.inl ⟨by rfl, ?_⟩) hHeld ?_ ?_
              rotate_left
              ·rintro w' ⟨s0, s1, s2, s3, s4, s5, s6, s7⟩
               go_simp
               with_reducible rfl
              rotate_left
              ·simp only [Act.put, List.setIfInBounds_toArray, List.set_cons_zero, List.set_cons_succ, i64_w, i32_w]
               rfl
              refine one_ (i := 2) (N := some 16) #[true, true, true, true, true, false, false, false] rfl rfl (one_of HT_.out (by kernel_rfl)) (by decide) (fun K hK => ?_)
              refine goes_ Try.func13 (by kernel_rfl) rfl #[.agg #[.int .u64 a0_0, .int .u64 a0_1, .int .u64 a0_2, .int .u64 a0_3], .int .i64 (Go.bits .and .i64 a2 255)] (by rfl) rfl rfl (by (try simp only [List.map_toArray, List.map_cons, List.map_nil]); first | done | rfl | (simp only [List.length_drop, List.length_take]; rfl)) ?_
              with_reducible refine (byteset_Has.calls a0_0 a0_1 a0_2 a0_3 (Go.bits .and .i64 a2 255) false _ A6.out).mono ?_
              rintro e w270 ⟨rfl, hb⟩
              refine ⟨_, rfl, ?_⟩
              have n0_ := Aside0.mk (blk_below (g := gb416) (o := .cells #[.int .u64 a0_0, .int .u64 a0_1, .int .u64 a0_2, .int .u64 a0_3] 24 (0, 0)) (by (with_reducible repeat (first | refine blk_drewN ?_ _ | refine blk_drew ?_ | refine blk_alloc ?_ _)); exact BK416.out) hb)
              have n1_ := Aside0.mk (blk_below (g := gb417) (o := .cells #[.int .u64 a1_0, .int .u64 a1_1, .int .u64 a1_2, .int .u64 a1_3] 24 (0, 0)) (by (with_reducible repeat (first | refine blk_drewN ?_ _ | refine blk_drew ?_ | refine blk_alloc ?_ _)); exact BK417.out) hb)
              have n2_ := Aside0.mk (below_step (by repeat (first | (with_reducible first | exact HB.out | apply below_alloc | apply pw_below_drewN | apply below_drew1 | refine below_set ?_ GE416.out | refine below_set ?_ GE417.out) | exact HB.out)) hb)
              clear BK416
              clear BK417
              clear HB
              have BK416 := n0_
              have BK417 := n1_
              have HB := n2_
              clear n0_ n1_ n2_
              (try clear hb)
              (try clear hb2)
              (try clear hk)
              (try clear hi)
              refine hK.out _ _ ⟨(blk_cell BK416.out 0).trans rfl, (blk_cell BK416.out 1).trans rfl, (blk_cell BK416.out 2).trans rfl, (blk_cell BK416.out 3).trans rfl, (blk_cell BK417.out 0).trans rfl, (blk_cell BK417.out 1).trans rfl, (blk_cell BK417.out 2).trans rfl, (blk_cell BK417.out 3).trans rfl⟩ (fun hHeld => ?_)
              clear hK K
              refine norm_ (a' := ?_) ?_ ?_
              rotate_left
              ·show Act.put _ (some 16) _ = _
               simp only [Act.put, List.setIfInBounds_toArray, List.set_cons_zero, List.set_cons_succ, i64_w, i32_w]
               rfl
              refine one_ (i := 5) (N := some 19) #[true, true, true, true, true, true, false, false] rfl rfl (one_of HT_.out (by kernel_rfl)) (by decide) (fun K hK => ?_)
              refine goes_ Try.func13 (by kernel_rfl) rfl #[.agg #[.int .u64 a1_0, .int .u64 a1_1, .int .u64 a1_2, .int .u64 a1_3], .int .i64 (Go.bits .and .i64 a2 255)] (by rfl) rfl rfl (by (try simp only [List.map_toArray, List.map_cons, List.map_nil]); first | done | rfl | (simp only [List.length_drop, List.length_take]; rfl)) ?_
              with_reducible refine (byteset_Has.calls a1_0 a1_1 a1_2 a1_3 (Go.bits .and .i64 a2 255) t420 _ A7.out).mono ?_
              rintro e w271 ⟨rfl, hb⟩
              refine ⟨_, rfl, ?_⟩
              have n0_ := Aside0.mk (blk_below (g := gb416) (o := .cells #[.int .u64 a0_0, .int .u64 a0_1, .int .u64 a0_2, .int .u64 a0_3] 24 (0, 0)) (by (with_reducible repeat (first | refine blk_drewN ?_ _ | refine blk_drew ?_ | refine blk_alloc ?_ _)); exact BK416.out) hb)
              have n1_ := Aside0.mk (blk_below (g := gb417) (o := .cells #[.int .u64 a1_0, .int .u64 a1_1, .int .u64 a1_2, .int .u64 a1_3] 24 (0, 0)) (by (with_reducible repeat (first | refine blk_drewN ?_ _ | refine blk_drew ?_ | refine blk_alloc ?_ _)); exact BK417.out) hb)
              have n2_ := Aside0.mk (below_step (by repeat (first | (with_reducible first | exact HB.out | apply below_alloc | apply pw_below_drewN | apply below_drew1 | refine below_set ?_ GE416.out | refine below_set ?_ GE417.out) | exact HB.out)) hb)
              clear BK416
              clear BK417
              clear HB
              have BK416 := n0_
              have BK417 := n1_
              have HB := n2_
              clear n0_ n1_ n2_
              (try clear hb)
              (try clear hb2)
              (try clear hk)
              (try clear hi)
              refine hK.out _ _ ⟨(blk_cell BK416.out 0).trans rfl, (blk_cell BK416.out 1).trans rfl, (blk_cell BK416.out 2).trans rfl, (blk_cell BK416.out 3).trans rfl, (blk_cell BK417.out 0).trans rfl, (blk_cell BK417.out 1).trans rfl, (blk_cell BK417.out 2).trans rfl, (blk_cell BK417.out 3).trans rfl⟩ (fun hHeld => ?_)
              clear hK K
              refine norm_ (a' := ?_) ?_ ?_
              rotate_left
              ·show Act.put _ (some 19) _ = _
               simp only [Act.put, List.setIfInBounds_toArray, List.set_cons_zero, List.set_cons_succ, i64_w, i32_w]
               rfl
              refine pure_ (i := 6) (N := some 8) (v := ?_) (a' := ?_) #[true, true, true, true, true, true, true, false] rfl rfl (any_of HT_.out (by kernel_rfl)) (fun _ _ _ h => h) (Or.inl ⟨by rfl, ?_⟩) ?_ ?_
              rotate_left
              ·intro w'
               go_simp
               with_reducible rfl
              rotate_left
              ·simp only [Act.put, List.setIfInBounds_toArray, List.set_cons_zero, List.set_cons_succ, i64_w, i32_w]
               rfl
              refine pure_ (i := 7) (N := some 9) (v := ?_) (a' := ?_) #[true, true, true, true, true, true, true, true] rfl rfl (any_of HT_.out (by kernel_rfl)) (fun _ _ _ h => h) (Or.inl ⟨by rfl, ?_⟩) ?_ ?_
              rotate_left
              ·intro w'
               go_simp
               with_reducible rfl
              rotate_left
              ·simp only [Act.put, List.setIfInBounds_toArray, List.set_cons_zero, List.set_cons_succ, i64_w, i32_w]
               rfl
              refine done_ (done_of HT_.out (by kernel_rfl)) ?_
              have hnb272 := NB416_417.out
              have hnc272 := NB417_416.out
              have hcz273_0 : w271.cell? ⟨gb416, 0, none⟩ = some (.int .u64 a0_0) := (blk_cell BK416.out 0).trans rfl
              have hcz273_1 : w271.cell? ⟨gb416, 1, none⟩ = some (.int .u64 a0_1) := (blk_cell BK416.out 1).trans rfl
              have hcz273_2 : w271.cell? ⟨gb416, 2, none⟩ = some (.int .u64 a0_2) := (blk_cell BK416.out 2).trans rfl
              have hcz273_3 : w271.cell? ⟨gb416, 3, none⟩ = some (.int .u64 a0_3) := (blk_cell BK416.out 3).trans rfl
              have hfz273_0 := blk_frozen BK416.out 0
              have hfz273_1 := blk_frozen BK416.out 1
              have hfz273_2 := blk_frozen BK416.out 2
              have hfz273_3 := blk_frozen BK416.out 3
              have hcz274_0 : w271.cell? ⟨gb417, 0, none⟩ = some (.int .u64 a1_0) := (blk_cell BK417.out 0).trans rfl
              have hcz274_1 : w271.cell? ⟨gb417, 1, none⟩ = some (.int .u64 a1_1) := (blk_cell BK417.out 1).trans rfl
              have hcz274_2 : w271.cell? ⟨gb417, 2, none⟩ = some (.int .u64 a1_2) := (blk_cell BK417.out 2).trans rfl
              have hcz274_3 : w271.cell? ⟨gb417, 3, none⟩ = some (.int .u64 a1_3) := (blk_cell BK417.out 3).trans rfl
              have hfz274_0 := blk_frozen BK417.out 0
              have hfz274_1 := blk_frozen BK417.out 1
              have hfz274_2 := blk_frozen BK417.out 2
              have hfz274_3 := blk_frozen BK417.out 3
              try go_wp2_with (first | (go_at_call 15; (with_reducible refine (byteset_Or.calls a0_0 a0_1 a0_2 a0_3 a1_0 a1_1 a1_2 a1_3 t421 t422 t423 t424 _ A8.out).mono ?_); rintro e w275 ⟨rfl, hb⟩; have n0_ := Aside0.mk (blk_below (g := gb416) (o := .cells #[.int .u64 a0_0, .int .u64 a0_1, .int .u64 a0_2, .int .u64 a0_3] 24 (0, 0)) (by (with_reducible repeat (first | refine blk_drewN ?_ _ | refine blk_drew ?_ | refine blk_alloc ?_ _)); exact BK416.out) hb); have n1_ := Aside0.mk (blk_below (g := gb417) (o := .cells #[.int .u64 a1_0, .int .u64 a1_1, .int .u64 a1_2, .int .u64 a1_3] 24 (0, 0)) (by (with_reducible repeat (first | refine blk_drewN ?_ _ | refine blk_drew ?_ | refine blk_alloc ?_ _)); exact BK417.out) hb); have n2_ := Aside0.mk (below_step (by repeat (first | (with_reducible first | exact HB.out | apply below_alloc | apply pw_below_drewN | apply below_drew1 | refine below_set ?_ GE416.out | refine below_set ?_ GE417.out) | exact HB.out)) hb); clear BK416; clear BK417; clear HB; have BK416 := n0_; have BK417 := n1_; have HB := n2_; clear n0_ n1_ n2_; (try clear hb)) | (go_at_call 13; (with_reducible refine (byteset_Has.calls t421 t422 t423 t424 (Go.bits .and .i64 a2 255) t425 _ A9.out).mono ?_); rintro e w276 ⟨rfl, hb⟩; have n0_ := Aside0.mk (blk_below (g := gb416) (o := .cells #[.int .u64 a0_0, .int .u64 a0_1, .int .u64 a0_2, .int .u64 a0_3] 24 (0, 0)) (by (with_reducible repeat (first | refine blk_drewN ?_ _ | refine blk_drew ?_ | refine blk_alloc ?_ _)); exact BK416.out) hb); have n1_ := Aside0.mk (blk_below (g := gb417) (o := .cells #[.int .u64 a1_0, .int .u64 a1_1, .int .u64 a1_2, .int .u64 a1_3] 24 (0, 0)) (by (with_reducible repeat (first | refine blk_drewN ?_ _ | refine blk_drew ?_ | refine blk_alloc ?_ _)); exact BK417.out) hb); have n2_ := Aside0.mk (below_step (by repeat (first | (with_reducible first | exact HB.out | apply below_alloc | apply pw_below_drewN | apply below_drew1 | refine below_set ?_ GE416.out | refine below_set ?_ GE417.out) | exact HB.out)) hb); clear BK416; clear BK417; clear HB; have BK416 := n0_; have BK417 := n1_; have HB := n2_; clear n0_ n1_ n2_; (try clear hb); have hcz277_0 : w276.cell? ⟨gb416, 0, none⟩ = some (.int .u64 a0_0) := (blk_cell BK416.out 0).trans rfl; have hcz277_1 : w276.cell? ⟨gb416, 1, none⟩ = some (.int .u64 a0_1) := (blk_cell BK416.out 1).trans rfl; have hcz277_2 : w276.cell? ⟨gb416, 2, none⟩ = some (.int .u64 a0_2) := (blk_cell BK416.out 2).trans rfl; have hcz277_3 : w276.cell? ⟨gb416, 3, none⟩ = some (.int .u64 a0_3) := (blk_cell BK416.out 3).trans rfl; have hfz277_0 := blk_frozen BK416.out 0; have hfz277_1 := blk_frozen BK416.out 1; have hfz277_2 := blk_frozen BK416.out 2; have hfz277_3 := blk_frozen BK416.out 3; have hcz278_0 : w276.cell? ⟨gb417, 0, none⟩ = some (.int .u64 a1_0) := (blk_cell BK417.out 0).trans rfl; have hcz278_1 : w276.cell? ⟨gb417, 1, none⟩ = some (.int .u64 a1_1) := (blk_cell BK417.out 1).trans rfl; have hcz278_2 : w276.cell? ⟨gb417, 2, none⟩ = some (.int .u64 a1_2) := (blk_cell BK417.out 2).trans rfl; have hcz278_3 : w276.cell? ⟨gb417, 3, none⟩ = some (.int .u64 a1_3) := (blk_cell BK417.out 3).trans rfl; have hfz278_0 := blk_frozen BK417.out 0; have hfz278_1 := blk_frozen BK417.out 1; have hfz278_2 := blk_frozen BK417.out 2; have hfz278_3 := blk_frozen BK417.out 3) | (go_at_call 17; (with_reducible refine (byteset_And.calls a0_0 a0_1 a0_2 a0_3 a1_0 a1_1 a1_2 a1_3 t448 t449 t450 t451 _ A151.out).mono ?_); rintro e w279 ⟨rfl, hb⟩; have n0_ := Aside0.mk (blk_below (g := gb416) (o := .cells #[.int .u64 a0_0, .int .u64 a0_1, .int .u64 a0_2, .int .u64 a0_3] 24 (0, 0)) (by (with_reducible repeat (first | refine blk_drewN ?_ _ | refine blk_drew ?_ | refine blk_alloc ?_ _)); exact BK416.out) hb); have n1_ := Aside0.mk (blk_below (g := gb417) (o := .cells #[.int .u64 a1_0, .int .u64 a1_1, .int .u64 a1_2, .int .u64 a1_3] 24 (0, 0)) (by (with_reducible repeat (first | refine blk_drewN ?_ _ | refine blk_drew ?_ | refine blk_alloc ?_ _)); exact BK417.out) hb); have n2_ := Aside0.mk (below_step (by repeat (first | (with_reducible first | exact HB.out | apply below_alloc | apply pw_below_drewN | apply below_drew1 | refine below_set ?_ GE416.out | refine below_set ?_ GE417.out) | exact HB.out)) hb); clear BK416; clear BK417; clear HB; have BK416 := n0_; have BK417 := n1_; have HB := n2_; clear n0_ n1_ n2_; (try clear hb)) | (go_at_call 13; (with_reducible refine (byteset_Has.calls t448 t449 t450 t451 (Go.bits .and .i64 a2 255) t452 _ A152.out).mono ?_); rintro e w280 ⟨rfl, hb⟩; have n0_ := Aside0.mk (blk_below (g := gb416) (o := .cells #[.int .u64 a0_0, .int .u64 a0_1, .int .u64 a0_2, .int .u64 a0_3] 24 (0, 0)) (by (with_reducible repeat (first | refine blk_drewN ?_ _ | refine blk_drew ?_ | refine blk_alloc ?_ _)); exact BK416.out) hb); have n1_ := Aside0.mk (blk_below (g := gb417) (o := .cells #[.int .u64 a1_0, .int .u64 a1_1, .int .u64 a1_2, .int .u64 a1_3] 24 (0, 0)) (by (with_reducible repeat (first | refine blk_drewN ?_ _ | refine blk_drew ?_ | refine blk_alloc ?_ _)); exact BK417.out) hb); have n2_ := Aside0.mk (below_step (by repeat (first | (with_reducible first | exact HB.out | apply below_alloc | apply pw_below_drewN | apply below_drew1 | refine below_set ?_ GE416.out | refine below_set ?_ GE417.out) | exact HB.out)) hb); clear BK416; clear BK417; clear HB; have BK416 := n0_; have BK417 := n1_; have HB := n2_; clear n0_ n1_ n2_; (try clear hb); have hcz281_0 : w280.cell? ⟨gb416, 0, none⟩ = some (.int .u64 a0_0) := (blk_cell BK416.out 0).trans rfl; have hcz281_1 : w280.cell? ⟨gb416, 1, none⟩ = some (.int .u64 a0_1) := (blk_cell BK416.out 1).trans rfl; have hcz281_2 : w280.cell? ⟨gb416, 2, none⟩ = some (.int .u64 a0_2) := (blk_cell BK416.out 2).trans rfl; have hcz281_3 : w280.cell? ⟨gb416, 3, none⟩ = some (.int .u64 a0_3) := (blk_cell BK416.out 3).trans rfl; have hfz281_0 := blk_frozen BK416.out 0; have hfz281_1 := blk_frozen BK416.out 1; have hfz281_2 := blk_frozen BK416.out 2; have hfz281_3 := blk_frozen BK416.out 3; have hcz282_0 : w280.cell? ⟨gb417, 0, none⟩ = some (.int .u64 a1_0) := (blk_cell BK417.out 0).trans rfl; have hcz282_1 : w280.cell? ⟨gb417, 1, none⟩ = some (.int .u64 a1_1) := (blk_cell BK417.out 1).trans rfl; have hcz282_2 : w280.cell? ⟨gb417, 2, none⟩ = some (.int .u64 a1_2) := (blk_cell BK417.out 2).trans rfl; have hcz282_3 : w280.cell? ⟨gb417, 3, none⟩ = some (.int .u64 a1_3) := (blk_cell BK417.out 3).trans rfl; have hfz282_0 := blk_frozen BK417.out 0; have hfz282_1 := blk_frozen BK417.out 1; have hfz282_2 := blk_frozen BK417.out 2; have hfz282_3 := blk_frozen BK417.out 3) | (go_at_call 18; (with_reducible refine (byteset_Minus.calls a0_0 a0_1 a0_2 a0_3 a1_0 a1_1 a1_2 a1_3 t453 t454 t455 t456 _ A154.out).mono ?_); rintro e w283 ⟨rfl, hb⟩; have n0_ := Aside0.mk (blk_below (g := gb416) (o := .cells #[.int .u64 a0_0, .int .u64 a0_1, .int .u64 a0_2, .int .u64 a0_3] 24 (0, 0)) (by (with_reducible repeat (first | refine blk_drewN ?_ _ | refine blk_drew ?_ | refine blk_alloc ?_ _)); exact BK416.out) hb); have n1_ := Aside0.mk (blk_below (g := gb417) (o := .cells #[.int .u64 a1_0, .int .u64 a1_1, .int .u64 a1_2, .int .u64 a1_3] 24 (0, 0)) (by (with_reducible repeat (first | refine blk_drewN ?_ _ | refine blk_drew ?_ | refine blk_alloc ?_ _)); exact BK417.out) hb); have n2_ := Aside0.mk (below_step (by repeat (first | (with_reducible first | exact HB.out | apply below_alloc | apply pw_below_drewN | apply below_drew1 | refine below_set ?_ GE416.out | refine below_set ?_ GE417.out) | exact HB.out)) hb); clear BK416; clear BK417; clear HB; have BK416 := n0_; have BK417 := n1_; have HB := n2_; clear n0_ n1_ n2_; (try clear hb)) | (go_at_call 13; (with_reducible refine (byteset_Has.calls t453 t454 t455 t456 (Go.bits .and .i64 a2 255) t457 _ A155.out).mono ?_); rintro e w284 ⟨rfl, hb⟩; have n0_ := Aside0.mk (blk_below (g := gb416) (o := .cells #[.int .u64 a0_0, .int .u64 a0_1, .int .u64 a0_2, .int .u64 a0_3] 24 (0, 0)) (by (with_reducible repeat (first | refine blk_drewN ?_ _ | refine blk_drew ?_ | refine blk_alloc ?_ _)); exact BK416.out) hb); have n1_ := Aside0.mk (blk_below (g := gb417) (o := .cells #[.int .u64 a1_0, .int .u64 a1_1, .int .u64 a1_2, .int .u64 a1_3] 24 (0, 0)) (by (with_reducible repeat (first | refine blk_drewN ?_ _ | refine blk_drew ?_ | refine blk_alloc ?_ _)); exact BK417.out) hb); have n2_ := Aside0.mk (below_step (by repeat (first | (with_reducible first | exact HB.out | apply below_alloc | apply pw_below_drewN | apply below_drew1 | refine below_set ?_ GE416.out | refine below_set ?_ GE417.out) | exact HB.out)) hb); clear BK416; clear BK417; clear HB; have BK416 := n0_; have BK417 := n1_; have HB := n2_; clear n0_ n1_ n2_; (try clear hb); have hcz285_0 : w284.cell? ⟨gb416, 0, none⟩ = some (.int .u64 a0_0) := (blk_cell BK416.out 0).trans rfl; have hcz285_1 : w284.cell? ⟨gb416, 1, none⟩ = some (.int .u64 a0_1) := (blk_cell BK416.out 1).trans rfl; have hcz285_2 : w284.cell? ⟨gb416, 2, none⟩ = some (.int .u64 a0_2) := (blk_cell BK416.out 2).trans rfl; have hcz285_3 : w284.cell? ⟨gb416, 3, none⟩ = some (.int .u64 a0_3) := (blk_cell BK416.out 3).trans rfl; have hfz285_0 := blk_frozen BK416.out 0; have hfz285_1 := blk_frozen BK416.out 1; have hfz285_2 := blk_frozen BK416.out 2; have hfz285_3 := blk_frozen BK416.out 3) | (go_at_call 13; (with_reducible refine (byteset_Has.calls a0_0 a0_1 a0_2 a0_3 (wrap64 ((Go.bits .and .i64 a2 255) + 256)) false _ A261.out).mono ?_); rintro e w286 ⟨rfl, hb⟩; have n0_ := Aside0.mk (blk_below (g := gb416) (o := .cells #[.int .u64 a0_0, .int .u64 a0_1, .int .u64 a0_2, .int .u64 a0_3] 24 (0, 0)) (by (with_reducible repeat (first | refine blk_drewN ?_ _ | refine blk_drew ?_ | refine blk_alloc ?_ _)); exact BK416.out) hb); have n1_ := Aside0.mk (blk_below (g := gb417) (o := .cells #[.int .u64 a1_0, .int .u64 a1_1, .int .u64 a1_2, .int .u64 a1_3] 24 (0, 0)) (by (with_reducible repeat (first | refine blk_drewN ?_ _ | refine blk_drew ?_ | refine blk_alloc ?_ _)); exact BK417.out) hb); have n2_ := Aside0.mk (below_step (by repeat (first | (with_reducible first | exact HB.out | apply below_alloc | apply pw_below_drewN | apply below_drew1 | refine below_set ?_ GE416.out | refine below_set ?_ GE417.out) | exact HB.out)) hb); clear BK416; clear BK417; clear HB; have BK416 := n0_; have BK417 := n1_; have HB := n2_; clear n0_ n1_ n2_; (try clear hb); have hcz287_0 : w286.cell? ⟨gb416, 0, none⟩ = some (.int .u64 a0_0) := (blk_cell BK416.out 0).trans rfl; have hcz287_1 : w286.cell? ⟨gb416, 1, none⟩ = some (.int .u64 a0_1) := (blk_cell BK416.out 1).trans rfl; have hcz287_2 : w286.cell? ⟨gb416, 2, none⟩ = some (.int .u64 a0_2) := (blk_cell BK416.out 2).trans rfl; have hcz287_3 : w286.cell? ⟨gb416, 3, none⟩ = some (.int .u64 a0_3) := (blk_cell BK416.out 3).trans rfl; have hfz287_0 := blk_frozen BK416.out 0; have hfz287_1 := blk_frozen BK416.out 1; have hfz287_2 := blk_frozen BK416.out 2; have hfz287_3 := blk_frozen BK416.out 3) | (go_at_call 13; (with_reducible refine (byteset_Has.calls a0_0 a0_1 a0_2 a0_3 (wrap64 ((Go.bits .and .i64 a2 255) - 256)) false _ A263.out).mono ?_); rintro e w288 ⟨rfl, hb⟩; have n0_ := Aside0.mk (blk_below (g := gb416) (o := .cells #[.int .u64 a0_0, .int .u64 a0_1, .int .u64 a0_2, .int .u64 a0_3] 24 (0, 0)) (by (with_reducible repeat (first | refine blk_drewN ?_ _ | refine blk_drew ?_ | refine blk_alloc ?_ _)); exact BK416.out) hb); have n1_ := Aside0.mk (blk_below (g := gb417) (o := .cells #[.int .u64 a1_0, .int .u64 a1_1, .int .u64 a1_2, .int .u64 a1_3] 24 (0, 0)) (by (with_reducible repeat (first | refine blk_drewN ?_ _ | refine blk_drew ?_ | refine blk_alloc ?_ _)); exact BK417.out) hb); have n2_ := Aside0.mk (below_step (by repeat (first | (with_reducible first | exact HB.out | apply below_alloc | apply pw_below_drewN | apply below_drew1 | refine below_set ?_ GE416.out | refine below_set ?_ GE417.out) | exact HB.out)) hb); clear BK416; clear BK417; clear HB; have BK416 := n0_; have BK417 := n1_; have HB := n2_; clear n0_ n1_ n2_; (try clear hb)) | (go_at_call 12; (with_reducible refine (templelaw0_Num.calls 0 t469 _ A265.out).mono ?_); rintro e w' ⟨rfl, ⟨nd, rfl⟩⟩))
              go_ret
              exact ⟨by first | rfl | (simp [errW_none, errW_some] <;> rfl) | (simp only [← hji257, ← hji259]; first | rfl | (simp [errW_none, errW_some] <;> rfl)) | (simp [*, errW_none, errW_some] <;> rfl), by repeat (first | (with_reducible first | exact HB.out | apply below_alloc | apply pw_below_drewN | apply below_drew1 | refine below_set ?_ GE416.out | refine below_set ?_ GE417.out) | exact HB.out)⟩
           ·rw [if_neg c260] at H
            exact absurd H (by simp)
          ·rw [if_neg c258] at H
           exact absurd H (by simp)
         ·rw [if_neg c256] at H
          exact absurd H (by simp)
     ·rw [if_neg c156] at H
      exact absurd H (by simp)
    ·rw [if_neg c153] at H
     exact absurd H (by simp)
   ·rw [if_neg c150] at H
    exact absurd H (by simp)
 ·replace c5 := Bool.eq_false_iff.mpr c5
  subst c5
  have H1 : (none) = some r := by rw [if_neg (show ¬ (false = true) by decide)] at H; exact H
  clear H
  have H := H1
  clear H1
  exact absurd H (by simp)

end Go.Proofs.Ytldoicmbacppeaa.PL1
