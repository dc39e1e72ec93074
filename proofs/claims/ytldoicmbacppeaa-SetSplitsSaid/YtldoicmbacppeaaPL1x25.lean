-- written by a program of the session's (wip/myprint.py) out of the translation
import Derived.Test.YtldoicmbacppeaaPL1x0
import Derived.Test.YtldoicmbacppeaaPL1x1
import Derived.Test.YtldoicmbacppeaaPL1x3
import Derived.Test.YtldoicmbacppeaaPL1x5
import Derived.Test.YtldoicmbacppeaaPL1x9
import Derived.Test.YtldoicmbacppeaaPL1x11
import Derived.Test.YtldoicmbacppeaaPL1x12
import Derived.Test.YtldoicmbacppeaaPL1x13
import Derived.Test.YtldoicmbacppeaaPL1x15
import Derived.Test.YtldoicmbacppeaaPL1x16
import Derived.Test.YtldoicmbacppeaaPL1x18
namespace Go.Proofs.Ytldoicmbacppeaa.PL1
open Go.RowKit Go.Proofs.YtldoicmbacppeaaW.PrintWords Go.Proofs.YtldoicmbacppeaaW.PrintLast Go.Proofs.YtldoicmbacppeaaW.PrintMore
attribute [local go_sem] max2_int min2_int max_two min_two max_three min_three max_four min_four   -- for this text's walks alone
set_option linter.unusedVariables false
set_option linter.unusedSimpArgs false

attribute [local go_sem high] eqA24
/-! ### templelaw1_SetSplits: function 9 -/
def templelaw1_SetSplits.j0 : Nat → Int → Int → Int → Bool → Option (Bool)
  | 0, _, _, _, _ => none
  | k + 1, x7, x8, x9, x31 => if x31 = true then (some true) else ((byteset_Range.f x7 x8).bind fun bt449 => ((byteset_Range.f x7 x9).bind fun bt455 => ((byteset_Range.f (wrap64 (x9 + 1)) x8).bind fun bt461 => ((templelaw0_Num.f bt449.2.2.2.2).bind fun t467 => (if t467 = 0 then ((templelaw0_Num.f bt455.2.2.2.2).bind fun t468 => (if t468 = 0 then ((templelaw0_Num.f bt461.2.2.2.2).bind fun t469 => (if t469 = 0 then ((byteset_Or.f bt455.1 bt455.2.1 bt455.2.2.1 bt455.2.2.2.1 bt461.1 bt461.2.1 bt461.2.2.1 bt461.2.2.2.1).bind fun bt470 => (if (bt470.1 == bt449.1 && (bt470.2.1 == bt449.2.1 && (bt470.2.2.1 == bt449.2.2.1 && (bt470.2.2.2 == bt449.2.2.2.1)))) = true then ((byteset_And.f bt455.1 bt455.2.1 bt455.2.2.1 bt455.2.2.2.1 bt461.1 bt461.2.1 bt461.2.2.1 bt461.2.2.2.1).bind fun bt474 => ((byteset_Count.f bt474.1 bt474.2.1 bt474.2.2.1 bt474.2.2.2).bind fun t478 => (if t478 = 0 then ((byteset_Minus.f bt449.1 bt449.2.1 bt449.2.2.1 bt449.2.2.2.1 bt455.1 bt455.2.1 bt455.2.2.1 bt455.2.2.2.1).bind fun bt479 => (if (bt479.1 == bt461.1 && (bt479.2.1 == bt461.2.1 && (bt479.2.2.1 == bt461.2.2.1 && (bt479.2.2.2 == bt461.2.2.2.1)))) = true then ((byteset_Or.f bt461.1 bt461.2.1 bt461.2.2.1 bt461.2.2.2.1 bt455.1 bt455.2.1 bt455.2.2.1 bt455.2.2.2.1).bind fun bt483 => ((byteset_Ranges.f k bt483.1 bt483.2.1 bt483.2.2.1 bt483.2.2.2).bind fun t487 => ((templelaw0_SameEnds.f k t487 (([(⟨x7, x8⟩ : S40)] : List (S40)))).bind fun t493 => (some t493)))) else (none))) else (none)))) else (none))) else (none))) else (none))) else (none))))))
def templelaw1_SetSplits.f (k : Nat) (a0 : Int) (a1 : Int) (a2 : Int) : Option (Bool) := (templelaw1_awake.f k).bind fun t448 => (if t448 = true then (if (Go.bits .and .i64 a0 255) > (Go.bits .and .i64 a2 255) then (templelaw1_SetSplits.j0 k (Go.bits .and .i64 a0 255) (Go.bits .and .i64 a1 255) (Go.bits .and .i64 a2 255) true) else (templelaw1_SetSplits.j0 k (Go.bits .and .i64 a0 255) (Go.bits .and .i64 a1 255) (Go.bits .and .i64 a2 255) (decide ((Go.bits .and .i64 a2 255) ≥ (Go.bits .and .i64 a1 255))))) else (none))
theorem templelaw1_SetSplits.mono_l : ∀ k, (∀ y0 y1 y2 y3, LeO (templelaw1_SetSplits.j0 k y0 y1 y2 y3) (templelaw1_SetSplits.j0 (k + 1) y0 y1 y2 y3))
  | 0 => fun _ _ _ _ r h => by simp [templelaw1_SetSplits.j0] at h
  | k + 1 => by
    have ih0 := templelaw1_SetSplits.mono_l k
    · intro y0 y1 y2 y3
      unfold templelaw1_SetSplits.j0
      repeat' first
      | (with_reducible exact ih0 _ _ _ _)
      | (with_reducible exact byteset_Ranges.mono _ _ _ _ _)
      | (with_reducible exact templelaw0_SameEnds.mono _ _ _)
      | (with_reducible exact templelaw1_awake.mono _)
      | (with_reducible exact LeO.refl _)
      | (with_reducible exact LeO.none _)
      | (with_reducible refine LeO.ite ?_ ?_)
      | (with_reducible refine LeO.bind ?_ (fun _ => ?_))
      | exact ih0 _ _ _ _
      | exact byteset_Ranges.mono _ _ _ _ _
      | exact templelaw0_SameEnds.mono _ _ _
      | exact templelaw1_awake.mono _
      | exact LeO.none _
      | refine LeO.ite ?_ ?_
      | refine LeO.bind ?_ (fun _ => ?_)
theorem templelaw1_SetSplits.mono : ∀ a0 a1 a2 k, LeO (templelaw1_SetSplits.f k a0 a1 a2) (templelaw1_SetSplits.f (k + 1) a0 a1 a2) := by
  intro a0 a1 a2 k
  have ih0 := templelaw1_SetSplits.mono_l k
  unfold templelaw1_SetSplits.f
  repeat' first
      | (with_reducible exact ih0 _ _ _ _)
      | (with_reducible exact byteset_Ranges.mono _ _ _ _ _)
      | (with_reducible exact templelaw0_SameEnds.mono _ _ _)
      | (with_reducible exact templelaw1_awake.mono _)
      | (with_reducible exact LeO.refl _)
      | (with_reducible exact LeO.none _)
      | (with_reducible refine LeO.ite ?_ ?_)
      | (with_reducible refine LeO.bind ?_ (fun _ => ?_))
      | exact ih0 _ _ _ _
      | exact byteset_Ranges.mono _ _ _ _ _
      | exact templelaw0_SameEnds.mono _ _ _
      | exact templelaw1_awake.mono _
      | exact LeO.none _
      | refine LeO.ite ?_ ?_
      | refine LeO.bind ?_ (fun _ => ?_)
def templelaw1_SetSplits.T9 : Bool × List (List Nat × List Nat) := (true, [([], []), ([0], [0]), ([1], [1]), ([2, 1], [2]), ([3], [3]), ([4, 3, 3], [3, 4]), ([5, 3], [3, 5]), ([3, 6], [3, 6]), ([7, 5], [7]), ([8], [8]), ([9, 8, 8], [8, 9]), ([10, 8], [8, 10]), ([8, 11], [8, 11]), ([12, 10], [12]), ([13], [13]), ([13], [13]), ([14, 15, 13, 13], [13, 14, 15]), ([13], [13]), ([16, 17, 13], [13, 16, 17]), ([13, 18], [13, 18]), ([19, 16], [19]), ([20], [20]), ([20], [20]), ([21, 22, 20, 20], [20, 21, 22]), ([23, 23, 20], [20, 23]), ([24, 20], [20, 24]), ([20, 25], [20, 25]), ([26, 24], [26]), ([27], [27]), ([27], [27]), ([28, 29, 27, 27], [27, 28, 29]), ([27], [27]), ([30, 31, 27], [27, 30, 31]), ([27, 32], [27, 32]), ([33, 30], [33]), ([34], [34]), ([34], [34]), ([35, 36, 34, 34], [34, 35, 36]), ([37, 37, 34], [34, 37]), ([34], [34]), ([34], [34]), ([39, 40, 34], [34, 39, 40]), ([41, 34], [34, 41]), ([38, 42, 38, 34], [34, 38, 42]), ([34, 43], [34, 43]), ([44, 43, 0, 1, 2, 3, 4, 5, 6, 7, 8, 9, 10, 11, 12, 13, 14, 15, 16, 17, 18, 19, 20, 21, 22, 23, 24, 25, 26, 27, 28, 29, 30, 31, 32, 33, 34, 35, 36, 37, 38, 39, 40, 41, 42, 43, 44], [44])])
def templelaw1_SetSplits.B9 : List Nat := [0, 1, 3, 7, 15, 31, 63, 127, 255, 511, 1023, 2047, 4095, 8191, 16383, 16383, 65535, 16383, 262143, 524287, 1048575, 2097151, 2097151, 8388607, 16777215, 33554431, 67108863, 134217727, 268435455, 268435455, 1073741823, 268435455, 4294967295, 8589934591, 17179869183, 34359738367, 34359738367, 137438953471, 274877906943, 34359738367, 34359738367, 1683627180031, 3882650435583, 8796093022207, 17592186044415, 35184372088831]
theorem templelaw1_SetSplits.tab9 : rtab .any (opsOf Try.f9 9) = templelaw1_SetSplits.T9 := by kernel_rfl
theorem templelaw1_SetSplits.bits9 : waitsOk templelaw1_SetSplits.T9.2 templelaw1_SetSplits.B9 = true := by kernel_rfl
set_option maxHeartbeats 8000000 in
set_option maxRecDepth 100000 in
theorem templelaw1_SetSplits.calls (k : Nat) (a0 : Int) (a1 : Int) (a2 : Int) (r : Bool) (w : World) (h : templelaw1_SetSplits.f k a0 a1 a2 = some r) :
    Calls Try.prog 9 #[.int .i64 a0, .int .i64 a1, .int .i64 a2] w fun e w' => e = .returned (.bool r) ∧ Below w.heap.size w w' := by
  have hu24 := Try.underlying24
  have hu40 := Try.underlying40
  have HB := Aside0.mk (Below.refl w.heap.size w)
  have H : ((templelaw1_awake.f k).bind fun t448 => (if t448 = true then (if (Go.bits .and .i64 a0 255) > (Go.bits .and .i64 a2 255) then (templelaw1_SetSplits.j0 k (Go.bits .and .i64 a0 255) (Go.bits .and .i64 a1 255) (Go.bits .and .i64 a2 255) true) else (templelaw1_SetSplits.j0 k (Go.bits .and .i64 a0 255) (Go.bits .and .i64 a1 255) (Go.bits .and .i64 a2 255) (decide ((Go.bits .and .i64 a2 255) ≥ (Go.bits .and .i64 a1 255))))) else (none))) = some r := h
  clear h
  replace H := Option.bind_eq_some_iff.mp H
  obtain ⟨t448, A40, H⟩ := H
  replace H : (if t448 = true then (if (Go.bits .and .i64 a0 255) > (Go.bits .and .i64 a2 255) then (templelaw1_SetSplits.j0 k (Go.bits .and .i64 a0 255) (Go.bits .and .i64 a1 255) (Go.bits .and .i64 a2 255) true) else (templelaw1_SetSplits.j0 k (Go.bits .and .i64 a0 255) (Go.bits .and .i64 a1 255) (Go.bits .and .i64 a2 255) (decide ((Go.bits .and .i64 a2 255) ≥ (Go.bits .and .i64 a1 255))))) else (none)) = some r := H
  have A4 := Aside0.mk A40
  clear A40
  by_cases c5 : t448 = true
  · subst c5
    have H1 : (if (Go.bits .and .i64 a0 255) > (Go.bits .and .i64 a2 255) then (templelaw1_SetSplits.j0 k (Go.bits .and .i64 a0 255) (Go.bits .and .i64 a1 255) (Go.bits .and .i64 a2 255) true) else (templelaw1_SetSplits.j0 k (Go.bits .and .i64 a0 255) (Go.bits .and .i64 a1 255) (Go.bits .and .i64 a2 255) (decide ((Go.bits .and .i64 a2 255) ≥ (Go.bits .and .i64 a1 255))))) = some r := by rw [if_pos rfl] at H; exact H
    clear H
    have H := H1
    clear H1
    have HC6 := Aside0.mk H
    clear H
    go_enter Try.func9, Try.ntmps9
    go_upto_region 4 with (first | ((with_reducible refine gate_callee (f := 24) rfl ?_); refine goesL_ (some 16) rfl rfl Try.func24 (by kernel_rfl) rfl #[] rfl (by (try simp only [List.map_toArray, List.map_cons, List.map_nil]); first | done | rfl | (simp only [List.length_drop, List.length_take]; rfl)) ?_; (with_reducible refine (templelaw1_awake.calls k  true _ A4.out).mono ?_); rintro e w7 ⟨rfl, hb⟩; refine ⟨_, rfl, ?_⟩; have n0_ := Aside0.mk (below_step (by repeat (first | (with_reducible first | exact HB.out | apply below_alloc | apply pw_below_drewN | apply below_drew1) | exact HB.out)) hb); clear HB; have HB := n0_; clear n0_; (try clear hb); (try clear hb2); (try clear hk); (try clear hi)))
    (try simp only [Act.put, List.setIfInBounds_toArray, List.set_cons_zero, List.set_cons_succ])
    go_cut [31] (fun v31 wc => ∃ (kq : Nat) (x31_5 : Bool), v31 = .bool x31_5 ∧ Aside0 (templelaw1_SetSplits.j0 kq (Go.bits .and .i64 a0 255) (Go.bits .and .i64 a1 255) (Go.bits .and .i64 a2 255) x31_5 = some r) ∧ Aside0 (kq ≤ k) ∧ Aside0 (Below w.heap.size w wc))
    case first =>
      have H := HC6.out
      clear HC6
      by_cases c8 : (Go.bits .and .i64 a0 255) > (Go.bits .and .i64 a2 255)
      · rw [if_pos c8] at H
        have c8b0 : decide ((Go.bits .and .i64 a2 255) < (Go.bits .and .i64 a0 255)) = true := decide_eq_true c8
        clear c8
        (first | rw [c8b0] | (simp only [i64_w, i32_w]; rw [c8b0]) | skip)
        have H' := Aside0.mk H
        clear H
        go_wp2
        go_meet
        case rel => exact ⟨_, (true), (by first | rfl | (simp; done) | (simp [*]; done)), H', ⟨by first | omega | exact Nat.le_refl _⟩, ⟨by repeat (first | (with_reducible first | exact HB.out | apply below_alloc | apply pw_below_drewN | apply below_drew1) | exact HB.out)⟩⟩
      · rw [if_neg c8] at H
        have c8b0 : decide ((Go.bits .and .i64 a2 255) < (Go.bits .and .i64 a0 255)) = false := decide_eq_false c8
        clear c8
        (first | rw [c8b0] | (simp only [i64_w, i32_w]; rw [c8b0]) | skip)
        have H' := Aside0.mk H
        clear H
        go_wp2
        go_meet
        case rel => exact ⟨_, (decide ((Go.bits .and .i64 a2 255) ≥ (Go.bits .and .i64 a1 255))), (by first | rfl | (simp; done) | (simp [*]; done)), H', ⟨by first | omega | exact Nat.le_refl _⟩, ⟨by repeat (first | (with_reducible first | exact HB.out | apply below_alloc | apply pw_below_drewN | apply below_drew1) | exact HB.out)⟩⟩
    case rest =>
      clear HC6
      try clear c2
      try clear p2
      try clear c5
      try clear c8
      try clear c8b0
      obtain ⟨kq, x31_5, rfl, HA, HJ5, HB⟩ := hcut
      cases kq with
      | zero => exact absurd HA.out (by simp [templelaw1_SetSplits.j0])
      | succ kj5 =>
        have H := HA.out
        clear HA
        simp only [templelaw1_SetSplits.j0] at H
        by_cases c9 : x31_5 = true
        · subst c9
          have H1 : (some true) = some r := by rw [if_pos rfl] at H; exact H
          clear H
          have H := H1
          clear H1
          obtain rfl := Option.some.inj H
          go_wp2
          go_ret
          exact ⟨by first | rfl | (simp [errW_none, errW_some] <;> rfl) | (simp [*, errW_none, errW_some] <;> rfl), by repeat (first | (with_reducible first | exact HB.out | apply below_alloc | apply pw_below_drewN | apply below_drew1) | exact HB.out)⟩
        · replace c9 := Bool.eq_false_iff.mpr c9
          subst c9
          have H1 : ((byteset_Range.f (Go.bits .and .i64 a0 255) (Go.bits .and .i64 a1 255)).bind fun bt449 => ((byteset_Range.f (Go.bits .and .i64 a0 255) (Go.bits .and .i64 a2 255)).bind fun bt455 => ((byteset_Range.f (wrap64 ((Go.bits .and .i64 a2 255) + 1)) (Go.bits .and .i64 a1 255)).bind fun bt461 => ((templelaw0_Num.f bt449.2.2.2.2).bind fun t467 => (if t467 = 0 then ((templelaw0_Num.f bt455.2.2.2.2).bind fun t468 => (if t468 = 0 then ((templelaw0_Num.f bt461.2.2.2.2).bind fun t469 => (if t469 = 0 then ((byteset_Or.f bt455.1 bt455.2.1 bt455.2.2.1 bt455.2.2.2.1 bt461.1 bt461.2.1 bt461.2.2.1 bt461.2.2.2.1).bind fun bt470 => (if (bt470.1 == bt449.1 && (bt470.2.1 == bt449.2.1 && (bt470.2.2.1 == bt449.2.2.1 && (bt470.2.2.2 == bt449.2.2.2.1)))) = true then ((byteset_And.f bt455.1 bt455.2.1 bt455.2.2.1 bt455.2.2.2.1 bt461.1 bt461.2.1 bt461.2.2.1 bt461.2.2.2.1).bind fun bt474 => ((byteset_Count.f bt474.1 bt474.2.1 bt474.2.2.1 bt474.2.2.2).bind fun t478 => (if t478 = 0 then ((byteset_Minus.f bt449.1 bt449.2.1 bt449.2.2.1 bt449.2.2.2.1 bt455.1 bt455.2.1 bt455.2.2.1 bt455.2.2.2.1).bind fun bt479 => (if (bt479.1 == bt461.1 && (bt479.2.1 == bt461.2.1 && (bt479.2.2.1 == bt461.2.2.1 && (bt479.2.2.2 == bt461.2.2.2.1)))) = true then ((byteset_Or.f bt461.1 bt461.2.1 bt461.2.2.1 bt461.2.2.2.1 bt455.1 bt455.2.1 bt455.2.2.1 bt455.2.2.2.1).bind fun bt483 => ((byteset_Ranges.f kj5 bt483.1 bt483.2.1 bt483.2.2.1 bt483.2.2.2).bind fun t487 => ((templelaw0_SameEnds.f kj5 t487 (([(⟨(Go.bits .and .i64 a0 255), (Go.bits .and .i64 a1 255)⟩ : S40)] : List (S40)))).bind fun t493 => (some t493)))) else (none))) else (none)))) else (none))) else (none))) else (none))) else (none)))))) = some r := by rw [if_neg (show ¬ (false = true) by decide)] at H; exact H
          clear H
          have H := H1
          clear H1
          replace H := Option.bind_eq_some_iff.mp H
          obtain ⟨⟨t449, t450, t451, t452, t453⟩, A100, H⟩ := H
          replace H : ((byteset_Range.f (Go.bits .and .i64 a0 255) (Go.bits .and .i64 a2 255)).bind fun bt455 => ((byteset_Range.f (wrap64 ((Go.bits .and .i64 a2 255) + 1)) (Go.bits .and .i64 a1 255)).bind fun bt461 => ((templelaw0_Num.f t453).bind fun t467 => (if t467 = 0 then ((templelaw0_Num.f bt455.2.2.2.2).bind fun t468 => (if t468 = 0 then ((templelaw0_Num.f bt461.2.2.2.2).bind fun t469 => (if t469 = 0 then ((byteset_Or.f bt455.1 bt455.2.1 bt455.2.2.1 bt455.2.2.2.1 bt461.1 bt461.2.1 bt461.2.2.1 bt461.2.2.2.1).bind fun bt470 => (if (bt470.1 == t449 && (bt470.2.1 == t450 && (bt470.2.2.1 == t451 && (bt470.2.2.2 == t452)))) = true then ((byteset_And.f bt455.1 bt455.2.1 bt455.2.2.1 bt455.2.2.2.1 bt461.1 bt461.2.1 bt461.2.2.1 bt461.2.2.2.1).bind fun bt474 => ((byteset_Count.f bt474.1 bt474.2.1 bt474.2.2.1 bt474.2.2.2).bind fun t478 => (if t478 = 0 then ((byteset_Minus.f t449 t450 t451 t452 bt455.1 bt455.2.1 bt455.2.2.1 bt455.2.2.2.1).bind fun bt479 => (if (bt479.1 == bt461.1 && (bt479.2.1 == bt461.2.1 && (bt479.2.2.1 == bt461.2.2.1 && (bt479.2.2.2 == bt461.2.2.2.1)))) = true then ((byteset_Or.f bt461.1 bt461.2.1 bt461.2.2.1 bt461.2.2.2.1 bt455.1 bt455.2.1 bt455.2.2.1 bt455.2.2.2.1).bind fun bt483 => ((byteset_Ranges.f kj5 bt483.1 bt483.2.1 bt483.2.2.1 bt483.2.2.2).bind fun t487 => ((templelaw0_SameEnds.f kj5 t487 (([(⟨(Go.bits .and .i64 a0 255), (Go.bits .and .i64 a1 255)⟩ : S40)] : List (S40)))).bind fun t493 => (some t493)))) else (none))) else (none)))) else (none))) else (none))) else (none))) else (none))))) = some r := H
          have A10 := Aside0.mk A100
          clear A100
          replace H := Option.bind_eq_some_iff.mp H
          obtain ⟨⟨t455, t456, t457, t458, t459⟩, A110, H⟩ := H
          replace H : ((byteset_Range.f (wrap64 ((Go.bits .and .i64 a2 255) + 1)) (Go.bits .and .i64 a1 255)).bind fun bt461 => ((templelaw0_Num.f t453).bind fun t467 => (if t467 = 0 then ((templelaw0_Num.f t459).bind fun t468 => (if t468 = 0 then ((templelaw0_Num.f bt461.2.2.2.2).bind fun t469 => (if t469 = 0 then ((byteset_Or.f t455 t456 t457 t458 bt461.1 bt461.2.1 bt461.2.2.1 bt461.2.2.2.1).bind fun bt470 => (if (bt470.1 == t449 && (bt470.2.1 == t450 && (bt470.2.2.1 == t451 && (bt470.2.2.2 == t452)))) = true then ((byteset_And.f t455 t456 t457 t458 bt461.1 bt461.2.1 bt461.2.2.1 bt461.2.2.2.1).bind fun bt474 => ((byteset_Count.f bt474.1 bt474.2.1 bt474.2.2.1 bt474.2.2.2).bind fun t478 => (if t478 = 0 then ((byteset_Minus.f t449 t450 t451 t452 t455 t456 t457 t458).bind fun bt479 => (if (bt479.1 == bt461.1 && (bt479.2.1 == bt461.2.1 && (bt479.2.2.1 == bt461.2.2.1 && (bt479.2.2.2 == bt461.2.2.2.1)))) = true then ((byteset_Or.f bt461.1 bt461.2.1 bt461.2.2.1 bt461.2.2.2.1 t455 t456 t457 t458).bind fun bt483 => ((byteset_Ranges.f kj5 bt483.1 bt483.2.1 bt483.2.2.1 bt483.2.2.2).bind fun t487 => ((templelaw0_SameEnds.f kj5 t487 (([(⟨(Go.bits .and .i64 a0 255), (Go.bits .and .i64 a1 255)⟩ : S40)] : List (S40)))).bind fun t493 => (some t493)))) else (none))) else (none)))) else (none))) else (none))) else (none))) else (none)))) = some r := H
          have A11 := Aside0.mk A110
          clear A110
          replace H := Option.bind_eq_some_iff.mp H
          obtain ⟨⟨t461, t462, t463, t464, t465⟩, A120, H⟩ := H
          replace H : ((templelaw0_Num.f t453).bind fun t467 => (if t467 = 0 then ((templelaw0_Num.f t459).bind fun t468 => (if t468 = 0 then ((templelaw0_Num.f t465).bind fun t469 => (if t469 = 0 then ((byteset_Or.f t455 t456 t457 t458 t461 t462 t463 t464).bind fun bt470 => (if (bt470.1 == t449 && (bt470.2.1 == t450 && (bt470.2.2.1 == t451 && (bt470.2.2.2 == t452)))) = true then ((byteset_And.f t455 t456 t457 t458 t461 t462 t463 t464).bind fun bt474 => ((byteset_Count.f bt474.1 bt474.2.1 bt474.2.2.1 bt474.2.2.2).bind fun t478 => (if t478 = 0 then ((byteset_Minus.f t449 t450 t451 t452 t455 t456 t457 t458).bind fun bt479 => (if (bt479.1 == t461 && (bt479.2.1 == t462 && (bt479.2.2.1 == t463 && (bt479.2.2.2 == t464)))) = true then ((byteset_Or.f t461 t462 t463 t464 t455 t456 t457 t458).bind fun bt483 => ((byteset_Ranges.f kj5 bt483.1 bt483.2.1 bt483.2.2.1 bt483.2.2.2).bind fun t487 => ((templelaw0_SameEnds.f kj5 t487 (([(⟨(Go.bits .and .i64 a0 255), (Go.bits .and .i64 a1 255)⟩ : S40)] : List (S40)))).bind fun t493 => (some t493)))) else (none))) else (none)))) else (none))) else (none))) else (none))) else (none))) = some r := H
          have A12 := Aside0.mk A120
          clear A120
          replace H := Option.bind_eq_some_iff.mp H
          obtain ⟨t467, A130, H⟩ := H
          replace H : (if t467 = 0 then ((templelaw0_Num.f t459).bind fun t468 => (if t468 = 0 then ((templelaw0_Num.f t465).bind fun t469 => (if t469 = 0 then ((byteset_Or.f t455 t456 t457 t458 t461 t462 t463 t464).bind fun bt470 => (if (bt470.1 == t449 && (bt470.2.1 == t450 && (bt470.2.2.1 == t451 && (bt470.2.2.2 == t452)))) = true then ((byteset_And.f t455 t456 t457 t458 t461 t462 t463 t464).bind fun bt474 => ((byteset_Count.f bt474.1 bt474.2.1 bt474.2.2.1 bt474.2.2.2).bind fun t478 => (if t478 = 0 then ((byteset_Minus.f t449 t450 t451 t452 t455 t456 t457 t458).bind fun bt479 => (if (bt479.1 == t461 && (bt479.2.1 == t462 && (bt479.2.2.1 == t463 && (bt479.2.2.2 == t464)))) = true then ((byteset_Or.f t461 t462 t463 t464 t455 t456 t457 t458).bind fun bt483 => ((byteset_Ranges.f kj5 bt483.1 bt483.2.1 bt483.2.2.1 bt483.2.2.2).bind fun t487 => ((templelaw0_SameEnds.f kj5 t487 (([(⟨(Go.bits .and .i64 a0 255), (Go.bits .and .i64 a1 255)⟩ : S40)] : List (S40)))).bind fun t493 => (some t493)))) else (none))) else (none)))) else (none))) else (none))) else (none))) else (none)) = some r := H
          have A13 := Aside0.mk A130
          clear A130
          by_cases c14 : t467 = 0
          · rw [if_pos c14] at H
            have c14b0 : (t467 == 0) = true := beq_iff_eq.mpr c14
            have c14b1 : (t467 != 0) = false := bne_eq_false_iff_eq.mpr c14
            clear c14
            replace H := Option.bind_eq_some_iff.mp H
            obtain ⟨t468, A150, H⟩ := H
            replace H : (if t468 = 0 then ((templelaw0_Num.f t465).bind fun t469 => (if t469 = 0 then ((byteset_Or.f t455 t456 t457 t458 t461 t462 t463 t464).bind fun bt470 => (if (bt470.1 == t449 && (bt470.2.1 == t450 && (bt470.2.2.1 == t451 && (bt470.2.2.2 == t452)))) = true then ((byteset_And.f t455 t456 t457 t458 t461 t462 t463 t464).bind fun bt474 => ((byteset_Count.f bt474.1 bt474.2.1 bt474.2.2.1 bt474.2.2.2).bind fun t478 => (if t478 = 0 then ((byteset_Minus.f t449 t450 t451 t452 t455 t456 t457 t458).bind fun bt479 => (if (bt479.1 == t461 && (bt479.2.1 == t462 && (bt479.2.2.1 == t463 && (bt479.2.2.2 == t464)))) = true then ((byteset_Or.f t461 t462 t463 t464 t455 t456 t457 t458).bind fun bt483 => ((byteset_Ranges.f kj5 bt483.1 bt483.2.1 bt483.2.2.1 bt483.2.2.2).bind fun t487 => ((templelaw0_SameEnds.f kj5 t487 (([(⟨(Go.bits .and .i64 a0 255), (Go.bits .and .i64 a1 255)⟩ : S40)] : List (S40)))).bind fun t493 => (some t493)))) else (none))) else (none)))) else (none))) else (none))) else (none)) = some r := H
            have A15 := Aside0.mk A150
            clear A150
            by_cases c16 : t468 = 0
            · rw [if_pos c16] at H
              have c16b0 : (t468 == 0) = true := beq_iff_eq.mpr c16
              have c16b1 : (t468 != 0) = false := bne_eq_false_iff_eq.mpr c16
              clear c16
              replace H := Option.bind_eq_some_iff.mp H
              obtain ⟨t469, A170, H⟩ := H
              replace H : (if t469 = 0 then ((byteset_Or.f t455 t456 t457 t458 t461 t462 t463 t464).bind fun bt470 => (if (bt470.1 == t449 && (bt470.2.1 == t450 && (bt470.2.2.1 == t451 && (bt470.2.2.2 == t452)))) = true then ((byteset_And.f t455 t456 t457 t458 t461 t462 t463 t464).bind fun bt474 => ((byteset_Count.f bt474.1 bt474.2.1 bt474.2.2.1 bt474.2.2.2).bind fun t478 => (if t478 = 0 then ((byteset_Minus.f t449 t450 t451 t452 t455 t456 t457 t458).bind fun bt479 => (if (bt479.1 == t461 && (bt479.2.1 == t462 && (bt479.2.2.1 == t463 && (bt479.2.2.2 == t464)))) = true then ((byteset_Or.f t461 t462 t463 t464 t455 t456 t457 t458).bind fun bt483 => ((byteset_Ranges.f kj5 bt483.1 bt483.2.1 bt483.2.2.1 bt483.2.2.2).bind fun t487 => ((templelaw0_SameEnds.f kj5 t487 (([(⟨(Go.bits .and .i64 a0 255), (Go.bits .and .i64 a1 255)⟩ : S40)] : List (S40)))).bind fun t493 => (some t493)))) else (none))) else (none)))) else (none))) else (none)) = some r := H
              have A17 := Aside0.mk A170
              clear A170
              by_cases c18 : t469 = 0
              · rw [if_pos c18] at H
                have c18b0 : (t469 == 0) = true := beq_iff_eq.mpr c18
                have c18b1 : (t469 != 0) = false := bne_eq_false_iff_eq.mpr c18
                clear c18
                replace H := Option.bind_eq_some_iff.mp H
                obtain ⟨⟨t470, t471, t472, t473⟩, A190, H⟩ := H
                replace H : (if (t470 == t449 && (t471 == t450 && (t472 == t451 && (t473 == t452)))) = true then ((byteset_And.f t455 t456 t457 t458 t461 t462 t463 t464).bind fun bt474 => ((byteset_Count.f bt474.1 bt474.2.1 bt474.2.2.1 bt474.2.2.2).bind fun t478 => (if t478 = 0 then ((byteset_Minus.f t449 t450 t451 t452 t455 t456 t457 t458).bind fun bt479 => (if (bt479.1 == t461 && (bt479.2.1 == t462 && (bt479.2.2.1 == t463 && (bt479.2.2.2 == t464)))) = true then ((byteset_Or.f t461 t462 t463 t464 t455 t456 t457 t458).bind fun bt483 => ((byteset_Ranges.f kj5 bt483.1 bt483.2.1 bt483.2.2.1 bt483.2.2.2).bind fun t487 => ((templelaw0_SameEnds.f kj5 t487 (([(⟨(Go.bits .and .i64 a0 255), (Go.bits .and .i64 a1 255)⟩ : S40)] : List (S40)))).bind fun t493 => (some t493)))) else (none))) else (none)))) else (none)) = some r := H
                have A19 := Aside0.mk A190
                clear A190
                by_cases c20 : (t470 == t449 && (t471 == t450 && (t472 == t451 && (t473 == t452)))) = true
                · rw [if_pos c20] at H
                  have c20b0 : (t470 == t449 && (t471 == t450 && (t472 == t451 && (t473 == t452)))) = true := c20
                  (try (have c20b1 : decide (t470 = t449 && (t471 == t450 && (t472 == t451 && (t473 == t452)))) = true := by simpa using c20))
                  (try (have c20b2 : (t470 == t449 && (t471 == t450 && (t472 == t451 && (t473 == t452)))) = true := by simpa using c20))
                  clear c20
                  replace H := Option.bind_eq_some_iff.mp H
                  obtain ⟨⟨t474, t475, t476, t477⟩, A210, H⟩ := H
                  replace H : ((byteset_Count.f t474 t475 t476 t477).bind fun t478 => (if t478 = 0 then ((byteset_Minus.f t449 t450 t451 t452 t455 t456 t457 t458).bind fun bt479 => (if (bt479.1 == t461 && (bt479.2.1 == t462 && (bt479.2.2.1 == t463 && (bt479.2.2.2 == t464)))) = true then ((byteset_Or.f t461 t462 t463 t464 t455 t456 t457 t458).bind fun bt483 => ((byteset_Ranges.f kj5 bt483.1 bt483.2.1 bt483.2.2.1 bt483.2.2.2).bind fun t487 => ((templelaw0_SameEnds.f kj5 t487 (([(⟨(Go.bits .and .i64 a0 255), (Go.bits .and .i64 a1 255)⟩ : S40)] : List (S40)))).bind fun t493 => (some t493)))) else (none))) else (none))) = some r := H
                  have A21 := Aside0.mk A210
                  clear A210
                  replace H := Option.bind_eq_some_iff.mp H
                  obtain ⟨t478, A220, H⟩ := H
                  replace H : (if t478 = 0 then ((byteset_Minus.f t449 t450 t451 t452 t455 t456 t457 t458).bind fun bt479 => (if (bt479.1 == t461 && (bt479.2.1 == t462 && (bt479.2.2.1 == t463 && (bt479.2.2.2 == t464)))) = true then ((byteset_Or.f t461 t462 t463 t464 t455 t456 t457 t458).bind fun bt483 => ((byteset_Ranges.f kj5 bt483.1 bt483.2.1 bt483.2.2.1 bt483.2.2.2).bind fun t487 => ((templelaw0_SameEnds.f kj5 t487 (([(⟨(Go.bits .and .i64 a0 255), (Go.bits .and .i64 a1 255)⟩ : S40)] : List (S40)))).bind fun t493 => (some t493)))) else (none))) else (none)) = some r := H
                  have A22 := Aside0.mk A220
                  clear A220
                  by_cases c23 : t478 = 0
                  · rw [if_pos c23] at H
                    have c23b0 : (t478 == 0) = true := beq_iff_eq.mpr c23
                    have c23b1 : (t478 != 0) = false := bne_eq_false_iff_eq.mpr c23
                    clear c23
                    replace H := Option.bind_eq_some_iff.mp H
                    obtain ⟨⟨t479, t480, t481, t482⟩, A240, H⟩ := H
                    replace H : (if (t479 == t461 && (t480 == t462 && (t481 == t463 && (t482 == t464)))) = true then ((byteset_Or.f t461 t462 t463 t464 t455 t456 t457 t458).bind fun bt483 => ((byteset_Ranges.f kj5 bt483.1 bt483.2.1 bt483.2.2.1 bt483.2.2.2).bind fun t487 => ((templelaw0_SameEnds.f kj5 t487 (([(⟨(Go.bits .and .i64 a0 255), (Go.bits .and .i64 a1 255)⟩ : S40)] : List (S40)))).bind fun t493 => (some t493)))) else (none)) = some r := H
                    have A24 := Aside0.mk A240
                    clear A240
                    by_cases c25 : (t479 == t461 && (t480 == t462 && (t481 == t463 && (t482 == t464)))) = true
                    · rw [if_pos c25] at H
                      have c25b0 : (t479 == t461 && (t480 == t462 && (t481 == t463 && (t482 == t464)))) = true := c25
                      (try (have c25b1 : decide (t479 = t461 && (t480 == t462 && (t481 == t463 && (t482 == t464)))) = true := by simpa using c25))
                      (try (have c25b2 : (t479 == t461 && (t480 == t462 && (t481 == t463 && (t482 == t464)))) = true := by simpa using c25))
                      clear c25
                      replace H := Option.bind_eq_some_iff.mp H
                      obtain ⟨⟨t483, t484, t485, t486⟩, A260, H⟩ := H
                      replace H : ((byteset_Ranges.f kj5 t483 t484 t485 t486).bind fun t487 => ((templelaw0_SameEnds.f kj5 t487 (([(⟨(Go.bits .and .i64 a0 255), (Go.bits .and .i64 a1 255)⟩ : S40)] : List (S40)))).bind fun t493 => (some t493))) = some r := H
                      have A26 := Aside0.mk A260
                      clear A260
                      replace H := Option.bind_eq_some_iff.mp H
                      obtain ⟨t487, A270, H⟩ := H
                      replace H : ((templelaw0_SameEnds.f kj5 t487 (([(⟨(Go.bits .and .i64 a0 255), (Go.bits .and .i64 a1 255)⟩ : S40)] : List (S40)))).bind fun t493 => (some t493)) = some r := H
                      have A27 := Aside0.mk A270
                      clear A270
                      obtain ⟨y490, hy490⟩ : ∃ y_ : List (S40), y_ = (([(⟨(Go.bits .and .i64 a0 255), (Go.bits .and .i64 a1 255)⟩ : S40)] : List (S40))) := ⟨_, rfl⟩
                      replace H : ((templelaw0_SameEnds.f kj5 t487 y490).bind fun t493 => (some t493)) = some r := by first | (rw [hy490]; with_reducible exact H) | (have H2_ := (Option.bind_some _ _).symm.trans H; rw [hy490]; with_reducible exact H2_) | (have H2_ := (Option.bind_some _ _).symm.trans H; with_reducible exact H2_) | with_reducible exact H | (rw [hy490]; exact H) | exact H
                      have Ny490 := Aside0.mk hy490
                      clear hy490
                      replace H := Option.bind_eq_some_iff.mp H
                      obtain ⟨t493, A280, H⟩ := H
                      replace H : (some t493) = some r := H
                      have A28 := Aside0.mk A280
                      clear A280
                      obtain rfl := Option.some.inj H
                      try go_wp2_with (first | ((with_reducible refine gate_callee (f := 10) rfl ?_); refine goesL_ (some 35) rfl rfl Try.func10 (by kernel_rfl) rfl #[.int .i64 (Go.bits .and .i64 a0 255), .int .i64 (Go.bits .and .i64 a1 255)] rfl (by (try simp only [List.map_toArray, List.map_cons, List.map_nil]); first | done | rfl | (simp only [List.length_drop, List.length_take]; rfl)) ?_; (with_reducible refine (byteset_Range.calls (Go.bits .and .i64 a0 255) (Go.bits .and .i64 a1 255) t449 t450 t451 t452 t453 _ A10.out).mono ?_); rintro e w29 ⟨rfl, hb⟩; refine ⟨_, rfl, ?_⟩; have n0_ := Aside0.mk (below_step (by repeat (first | (with_reducible first | exact HB.out | apply below_alloc | apply pw_below_drewN | apply below_drew1) | exact HB.out)) hb); clear HB; have HB := n0_; clear n0_; (try clear hb); (try clear hb2); (try clear hk); (try clear hi)) | ((with_reducible refine gate_dst (N := 10) rfl ?_); (try (refine gate_guard (by rfl) ?_; dsimp only)); refine box_event ?hg (N := 10) ?hd (cs := #[.int .u64 0, .int .u64 0, .int .u64 0, .int .u64 0]) (t := 24) ?hr ?_; (case hd => rfl); (case hg => rfl); (case hr => first | (go_simp; done) | (go_simp; rfl)); intro gb454 hg w30 hbox hb; have n0_ := Aside0.mk (below_step (by repeat (first | (with_reducible first | exact HB.out | apply below_alloc | apply pw_below_drewN | apply below_drew1) | exact HB.out)) hb); have n1_ := Aside0.mk (hbox); have n2_ := Aside0.mk ((by rw [hg]; exact (below_size (by repeat (first | (with_reducible first | exact HB.out | apply below_alloc | apply pw_below_drewN | apply below_drew1) | exact HB.out))) : w.heap.size ≤ gb454)); have n3_ := Aside0.mk ((by rw [hg]; exact (below_size (by repeat (first | (with_reducible first | exact HB.out | apply below_alloc | apply pw_below_drewN | apply below_drew1) | exact HB.out))) : w.heap.size ≤ gb454)); clear HB; have HB := n0_; have BK454 := n1_; have GW454 := n2_; have GE454 := n3_; clear n0_ n1_ n2_ n3_; clear hb hbox hg; have hcz31_0 : w30.cell? ⟨gb454, 0, none⟩ = some (.int .u64 0) := (blk_cell BK454.out 0).trans rfl; have hcz31_1 : w30.cell? ⟨gb454, 1, none⟩ = some (.int .u64 0) := (blk_cell BK454.out 1).trans rfl; have hcz31_2 : w30.cell? ⟨gb454, 2, none⟩ = some (.int .u64 0) := (blk_cell BK454.out 2).trans rfl; have hcz31_3 : w30.cell? ⟨gb454, 3, none⟩ = some (.int .u64 0) := (blk_cell BK454.out 3).trans rfl; have hfz31_0 := blk_frozen BK454.out 0; have hfz31_1 := blk_frozen BK454.out 1; have hfz31_2 := blk_frozen BK454.out 2; have hfz31_3 := blk_frozen BK454.out 3) | ((with_reducible refine gate_callee (f := 10) rfl ?_); refine goesL_ (some 41) rfl rfl Try.func10 (by kernel_rfl) rfl #[.int .i64 (Go.bits .and .i64 a0 255), .int .i64 (Go.bits .and .i64 a2 255)] rfl (by (try simp only [List.map_toArray, List.map_cons, List.map_nil]); first | done | rfl | (simp only [List.length_drop, List.length_take]; rfl)) ?_; (with_reducible refine (byteset_Range.calls (Go.bits .and .i64 a0 255) (Go.bits .and .i64 a2 255) t455 t456 t457 t458 t459 _ A11.out).mono ?_); rintro e w32 ⟨rfl, hb⟩; refine ⟨_, rfl, ?_⟩; have n0_ := Aside0.mk (blk_below (g := gb454) (o := .cells #[.int .u64 t449, .int .u64 t450, .int .u64 t451, .int .u64 t452] 24 (0, 0)) (by (with_reducible repeat (first | refine blk_drewN ?_ _ | refine blk_drew ?_ | refine blk_alloc ?_ _)); refine blk_put (cs := #[.int .u64 t449, .int .u64 t450, .int .u64 t451, .int .u64 0]) ?_ 3 _ rfl; (with_reducible repeat (first | refine blk_drewN ?_ _ | refine blk_drew ?_ | refine blk_alloc ?_ _)); refine blk_put (cs := #[.int .u64 t449, .int .u64 t450, .int .u64 0, .int .u64 0]) ?_ 2 _ rfl; (with_reducible repeat (first | refine blk_drewN ?_ _ | refine blk_drew ?_ | refine blk_alloc ?_ _)); refine blk_put (cs := #[.int .u64 t449, .int .u64 0, .int .u64 0, .int .u64 0]) ?_ 1 _ rfl; (with_reducible repeat (first | refine blk_drewN ?_ _ | refine blk_drew ?_ | refine blk_alloc ?_ _)); refine blk_put (cs := #[.int .u64 0, .int .u64 0, .int .u64 0, .int .u64 0]) ?_ 0 _ rfl; (with_reducible repeat (first | refine blk_drewN ?_ _ | refine blk_drew ?_ | refine blk_alloc ?_ _)); exact BK454.out) hb); have n1_ := Aside0.mk (below_step (by repeat (first | (with_reducible first | exact HB.out | apply below_alloc | apply pw_below_drewN | apply below_drew1 | refine below_set ?_ GE454.out) | exact HB.out)) hb); clear BK454; clear HB; have BK454 := n0_; have HB := n1_; clear n0_ n1_; (try clear hb); (try clear hb2); (try clear hk); (try clear hi)) | ((with_reducible refine gate_dst (N := 12) rfl ?_); (try (refine gate_guard (by rfl) ?_; dsimp only)); refine box_event ?hg (N := 12) ?hd (cs := #[.int .u64 0, .int .u64 0, .int .u64 0, .int .u64 0]) (t := 24) ?hr ?_; (case hd => rfl); (case hg => rfl); (case hr => first | (go_simp; done) | (go_simp; rfl)); intro gb460 hg w33 hbox hb; have n0_ := Aside0.mk (blk_below (g := gb454) (o := .cells #[.int .u64 t449, .int .u64 t450, .int .u64 t451, .int .u64 t452] 24 (0, 0)) (by (with_reducible repeat (first | refine blk_drewN ?_ _ | refine blk_drew ?_ | refine blk_alloc ?_ _)); exact BK454.out) hb); have n1_ := Aside0.mk (below_step (by repeat (first | (with_reducible first | exact HB.out | apply below_alloc | apply pw_below_drewN | apply below_drew1 | refine below_set ?_ GE454.out) | exact HB.out)) hb); have n2_ := Aside0.mk (hbox); have n3_ := Aside0.mk ((by rw [hg]; exact (below_size (by repeat (first | (with_reducible first | exact HB.out | apply below_alloc | apply pw_below_drewN | apply below_drew1 | refine below_set ?_ GE454.out) | exact HB.out))) : w.heap.size ≤ gb460)); have n4_ := Aside0.mk ((by rw [hg]; exact (below_size (by repeat (first | (with_reducible first | exact HB.out | apply below_alloc | apply pw_below_drewN | apply below_drew1 | refine below_set ?_ GE454.out) | exact HB.out))) : w.heap.size ≤ gb460)); have n5_ := Aside0.mk ((by rw [hg]; exact Nat.ne_of_lt (blk_lt (g := gb454) (o := .cells #[.int .u64 t449, .int .u64 t450, .int .u64 t451, .int .u64 t452] 24 (0, 0)) (by (with_reducible repeat (first | refine blk_drewN ?_ _ | refine blk_drew ?_ | refine blk_alloc ?_ _)); exact BK454.out)) : gb454 ≠ gb460)); have n6_ := Aside0.mk ((by rw [hg]; exact Nat.ne_of_gt (blk_lt (g := gb454) (o := .cells #[.int .u64 t449, .int .u64 t450, .int .u64 t451, .int .u64 t452] 24 (0, 0)) (by (with_reducible repeat (first | refine blk_drewN ?_ _ | refine blk_drew ?_ | refine blk_alloc ?_ _)); exact BK454.out)) : gb460 ≠ gb454)); clear BK454; clear HB; have BK454 := n0_; have HB := n1_; have BK460 := n2_; have GW460 := n3_; have GE460 := n4_; have NB454_460 := n5_; have NB460_454 := n6_; clear n0_ n1_ n2_ n3_ n4_ n5_ n6_; clear hb hbox hg; have hnb34 := NB460_454.out; have hnc34 := NB454_460.out; have hcz35_0 : w33.cell? ⟨gb460, 0, none⟩ = some (.int .u64 0) := (blk_cell BK460.out 0).trans rfl; have hcz35_1 : w33.cell? ⟨gb460, 1, none⟩ = some (.int .u64 0) := (blk_cell BK460.out 1).trans rfl; have hcz35_2 : w33.cell? ⟨gb460, 2, none⟩ = some (.int .u64 0) := (blk_cell BK460.out 2).trans rfl; have hcz35_3 : w33.cell? ⟨gb460, 3, none⟩ = some (.int .u64 0) := (blk_cell BK460.out 3).trans rfl; have hfz35_0 := blk_frozen BK460.out 0; have hfz35_1 := blk_frozen BK460.out 1; have hfz35_2 := blk_frozen BK460.out 2; have hfz35_3 := blk_frozen BK460.out 3) | ((with_reducible refine gate_callee (f := 10) rfl ?_); refine goesL_ (some 48) rfl rfl Try.func10 (by kernel_rfl) rfl #[.int .i64 (wrap64 ((Go.bits .and .i64 a2 255) + 1)), .int .i64 (Go.bits .and .i64 a1 255)] rfl (by (try simp only [List.map_toArray, List.map_cons, List.map_nil]); first | done | rfl | (simp only [List.length_drop, List.length_take]; rfl)) ?_; (with_reducible refine (byteset_Range.calls (wrap64 ((Go.bits .and .i64 a2 255) + 1)) (Go.bits .and .i64 a1 255) t461 t462 t463 t464 t465 _ A12.out).mono ?_); rintro e w36 ⟨rfl, hb⟩; refine ⟨_, rfl, ?_⟩; have n0_ := Aside0.mk (blk_below (g := gb454) (o := .cells #[.int .u64 t449, .int .u64 t450, .int .u64 t451, .int .u64 t452] 24 (0, 0)) (by (with_reducible repeat (first | refine blk_drewN ?_ _ | refine blk_drew ?_ | refine blk_alloc ?_ _)); refine blk_far ?_ NB454_460.out _; (with_reducible repeat (first | refine blk_drewN ?_ _ | refine blk_drew ?_ | refine blk_alloc ?_ _)); refine blk_far ?_ NB454_460.out _; (with_reducible repeat (first | refine blk_drewN ?_ _ | refine blk_drew ?_ | refine blk_alloc ?_ _)); refine blk_far ?_ NB454_460.out _; (with_reducible repeat (first | refine blk_drewN ?_ _ | refine blk_drew ?_ | refine blk_alloc ?_ _)); refine blk_far ?_ NB454_460.out _; (with_reducible repeat (first | refine blk_drewN ?_ _ | refine blk_drew ?_ | refine blk_alloc ?_ _)); exact BK454.out) hb); have n1_ := Aside0.mk (blk_below (g := gb460) (o := .cells #[.int .u64 t455, .int .u64 t456, .int .u64 t457, .int .u64 t458] 24 (0, 0)) (by (with_reducible repeat (first | refine blk_drewN ?_ _ | refine blk_drew ?_ | refine blk_alloc ?_ _)); refine blk_put (cs := #[.int .u64 t455, .int .u64 t456, .int .u64 t457, .int .u64 0]) ?_ 3 _ rfl; (with_reducible repeat (first | refine blk_drewN ?_ _ | refine blk_drew ?_ | refine blk_alloc ?_ _)); refine blk_put (cs := #[.int .u64 t455, .int .u64 t456, .int .u64 0, .int .u64 0]) ?_ 2 _ rfl; (with_reducible repeat (first | refine blk_drewN ?_ _ | refine blk_drew ?_ | refine blk_alloc ?_ _)); refine blk_put (cs := #[.int .u64 t455, .int .u64 0, .int .u64 0, .int .u64 0]) ?_ 1 _ rfl; (with_reducible repeat (first | refine blk_drewN ?_ _ | refine blk_drew ?_ | refine blk_alloc ?_ _)); refine blk_put (cs := #[.int .u64 0, .int .u64 0, .int .u64 0, .int .u64 0]) ?_ 0 _ rfl; (with_reducible repeat (first | refine blk_drewN ?_ _ | refine blk_drew ?_ | refine blk_alloc ?_ _)); exact BK460.out) hb); have n2_ := Aside0.mk (below_step (by repeat (first | (with_reducible first | exact HB.out | apply below_alloc | apply pw_below_drewN | apply below_drew1 | refine below_set ?_ GE454.out | refine below_set ?_ GE460.out) | exact HB.out)) hb); clear BK454; clear BK460; clear HB; have BK454 := n0_; have BK460 := n1_; have HB := n2_; clear n0_ n1_ n2_; (try clear hb); (try clear hb2); (try clear hk); (try clear hi)) | ((with_reducible refine gate_dst (N := 14) rfl ?_); (try (refine gate_guard (by rfl) ?_; dsimp only)); refine box_event ?hg (N := 14) ?hd (cs := #[.int .u64 0, .int .u64 0, .int .u64 0, .int .u64 0]) (t := 24) ?hr ?_; (case hd => rfl); (case hg => rfl); (case hr => first | (go_simp; done) | (go_simp; rfl)); intro gb466 hg w37 hbox hb; have n0_ := Aside0.mk (blk_below (g := gb454) (o := .cells #[.int .u64 t449, .int .u64 t450, .int .u64 t451, .int .u64 t452] 24 (0, 0)) (by (with_reducible repeat (first | refine blk_drewN ?_ _ | refine blk_drew ?_ | refine blk_alloc ?_ _)); exact BK454.out) hb); have n1_ := Aside0.mk (blk_below (g := gb460) (o := .cells #[.int .u64 t455, .int .u64 t456, .int .u64 t457, .int .u64 t458] 24 (0, 0)) (by (with_reducible repeat (first | refine blk_drewN ?_ _ | refine blk_drew ?_ | refine blk_alloc ?_ _)); exact BK460.out) hb); have n2_ := Aside0.mk (below_step (by repeat (first | (with_reducible first | exact HB.out | apply below_alloc | apply pw_below_drewN | apply below_drew1 | refine below_set ?_ GE454.out | refine below_set ?_ GE460.out) | exact HB.out)) hb); have n3_ := Aside0.mk (hbox); have n4_ := Aside0.mk ((by rw [hg]; exact (below_size (by repeat (first | (with_reducible first | exact HB.out | apply below_alloc | apply pw_below_drewN | apply below_drew1 | refine below_set ?_ GE454.out | refine below_set ?_ GE460.out) | exact HB.out))) : w.heap.size ≤ gb466)); have n5_ := Aside0.mk ((by rw [hg]; exact (below_size (by repeat (first | (with_reducible first | exact HB.out | apply below_alloc | apply pw_below_drewN | apply below_drew1 | refine below_set ?_ GE454.out | refine below_set ?_ GE460.out) | exact HB.out))) : w.heap.size ≤ gb466)); have n6_ := Aside0.mk ((by rw [hg]; exact Nat.ne_of_lt (blk_lt (g := gb454) (o := .cells #[.int .u64 t449, .int .u64 t450, .int .u64 t451, .int .u64 t452] 24 (0, 0)) (by (with_reducible repeat (first | refine blk_drewN ?_ _ | refine blk_drew ?_ | refine blk_alloc ?_ _)); exact BK454.out)) : gb454 ≠ gb466)); have n7_ := Aside0.mk ((by rw [hg]; exact Nat.ne_of_gt (blk_lt (g := gb454) (o := .cells #[.int .u64 t449, .int .u64 t450, .int .u64 t451, .int .u64 t452] 24 (0, 0)) (by (with_reducible repeat (first | refine blk_drewN ?_ _ | refine blk_drew ?_ | refine blk_alloc ?_ _)); exact BK454.out)) : gb466 ≠ gb454)); have n8_ := Aside0.mk ((by rw [hg]; exact Nat.ne_of_lt (blk_lt (g := gb460) (o := .cells #[.int .u64 t455, .int .u64 t456, .int .u64 t457, .int .u64 t458] 24 (0, 0)) (by (with_reducible repeat (first | refine blk_drewN ?_ _ | refine blk_drew ?_ | refine blk_alloc ?_ _)); exact BK460.out)) : gb460 ≠ gb466)); have n9_ := Aside0.mk ((by rw [hg]; exact Nat.ne_of_gt (blk_lt (g := gb460) (o := .cells #[.int .u64 t455, .int .u64 t456, .int .u64 t457, .int .u64 t458] 24 (0, 0)) (by (with_reducible repeat (first | refine blk_drewN ?_ _ | refine blk_drew ?_ | refine blk_alloc ?_ _)); exact BK460.out)) : gb466 ≠ gb460)); clear BK454; clear BK460; clear HB; have BK454 := n0_; have BK460 := n1_; have HB := n2_; have BK466 := n3_; have GW466 := n4_; have GE466 := n5_; have NB454_466 := n6_; have NB466_454 := n7_; have NB460_466 := n8_; have NB466_460 := n9_; clear n0_ n1_ n2_ n3_ n4_ n5_ n6_ n7_ n8_ n9_; clear hb hbox hg; have hnb38 := NB466_454.out; have hnc38 := NB454_466.out; have hnb39 := NB466_460.out; have hnc39 := NB460_466.out; have hcz40_0 : w37.cell? ⟨gb466, 0, none⟩ = some (.int .u64 0) := (blk_cell BK466.out 0).trans rfl; have hcz40_1 : w37.cell? ⟨gb466, 1, none⟩ = some (.int .u64 0) := (blk_cell BK466.out 1).trans rfl; have hcz40_2 : w37.cell? ⟨gb466, 2, none⟩ = some (.int .u64 0) := (blk_cell BK466.out 2).trans rfl; have hcz40_3 : w37.cell? ⟨gb466, 3, none⟩ = some (.int .u64 0) := (blk_cell BK466.out 3).trans rfl; have hfz40_0 := blk_frozen BK466.out 0; have hfz40_1 := blk_frozen BK466.out 1; have hfz40_2 := blk_frozen BK466.out 2; have hfz40_3 := blk_frozen BK466.out 3))
                      have n0_ : Aside0 (((((w37.setCell ⟨gb466, 0, none⟩ (.int .u64 t461)).setCell ⟨gb466, 1, none⟩ (.int .u64 t462)).setCell ⟨gb466, 2, none⟩ (.int .u64 t463)).setCell ⟨gb466, 3, none⟩ (.int .u64 t464)).heap[gb454]? = some (.cells #[.int .u64 t449, .int .u64 t450, .int .u64 t451, .int .u64 t452] 24 (0, 0))) := ⟨by (with_reducible repeat (first | refine blk_drewN ?_ _ | refine blk_drew ?_ | refine blk_alloc ?_ _)); refine blk_far ?_ NB454_466.out _; (with_reducible repeat (first | refine blk_drewN ?_ _ | refine blk_drew ?_ | refine blk_alloc ?_ _)); refine blk_far ?_ NB454_466.out _; (with_reducible repeat (first | refine blk_drewN ?_ _ | refine blk_drew ?_ | refine blk_alloc ?_ _)); refine blk_far ?_ NB454_466.out _; (with_reducible repeat (first | refine blk_drewN ?_ _ | refine blk_drew ?_ | refine blk_alloc ?_ _)); refine blk_far ?_ NB454_466.out _; (with_reducible repeat (first | refine blk_drewN ?_ _ | refine blk_drew ?_ | refine blk_alloc ?_ _)); exact BK454.out⟩
                      have n1_ : Aside0 (((((w37.setCell ⟨gb466, 0, none⟩ (.int .u64 t461)).setCell ⟨gb466, 1, none⟩ (.int .u64 t462)).setCell ⟨gb466, 2, none⟩ (.int .u64 t463)).setCell ⟨gb466, 3, none⟩ (.int .u64 t464)).heap[gb460]? = some (.cells #[.int .u64 t455, .int .u64 t456, .int .u64 t457, .int .u64 t458] 24 (0, 0))) := ⟨by (with_reducible repeat (first | refine blk_drewN ?_ _ | refine blk_drew ?_ | refine blk_alloc ?_ _)); refine blk_far ?_ NB460_466.out _; (with_reducible repeat (first | refine blk_drewN ?_ _ | refine blk_drew ?_ | refine blk_alloc ?_ _)); refine blk_far ?_ NB460_466.out _; (with_reducible repeat (first | refine blk_drewN ?_ _ | refine blk_drew ?_ | refine blk_alloc ?_ _)); refine blk_far ?_ NB460_466.out _; (with_reducible repeat (first | refine blk_drewN ?_ _ | refine blk_drew ?_ | refine blk_alloc ?_ _)); refine blk_far ?_ NB460_466.out _; (with_reducible repeat (first | refine blk_drewN ?_ _ | refine blk_drew ?_ | refine blk_alloc ?_ _)); exact BK460.out⟩
                      have n2_ : Aside0 (((((w37.setCell ⟨gb466, 0, none⟩ (.int .u64 t461)).setCell ⟨gb466, 1, none⟩ (.int .u64 t462)).setCell ⟨gb466, 2, none⟩ (.int .u64 t463)).setCell ⟨gb466, 3, none⟩ (.int .u64 t464)).heap[gb466]? = some (.cells #[.int .u64 t461, .int .u64 t462, .int .u64 t463, .int .u64 t464] 24 (0, 0))) := ⟨by (with_reducible repeat (first | refine blk_drewN ?_ _ | refine blk_drew ?_ | refine blk_alloc ?_ _)); refine blk_put (cs := #[.int .u64 t461, .int .u64 t462, .int .u64 t463, .int .u64 0]) ?_ 3 _ rfl; (with_reducible repeat (first | refine blk_drewN ?_ _ | refine blk_drew ?_ | refine blk_alloc ?_ _)); refine blk_put (cs := #[.int .u64 t461, .int .u64 t462, .int .u64 0, .int .u64 0]) ?_ 2 _ rfl; (with_reducible repeat (first | refine blk_drewN ?_ _ | refine blk_drew ?_ | refine blk_alloc ?_ _)); refine blk_put (cs := #[.int .u64 t461, .int .u64 0, .int .u64 0, .int .u64 0]) ?_ 1 _ rfl; (with_reducible repeat (first | refine blk_drewN ?_ _ | refine blk_drew ?_ | refine blk_alloc ?_ _)); refine blk_put (cs := #[.int .u64 0, .int .u64 0, .int .u64 0, .int .u64 0]) ?_ 0 _ rfl; (with_reducible repeat (first | refine blk_drewN ?_ _ | refine blk_drew ?_ | refine blk_alloc ?_ _)); exact BK466.out⟩
                      have n3_ : Aside0 (Below w.heap.size w ((((w37.setCell ⟨gb466, 0, none⟩ (.int .u64 t461)).setCell ⟨gb466, 1, none⟩ (.int .u64 t462)).setCell ⟨gb466, 2, none⟩ (.int .u64 t463)).setCell ⟨gb466, 3, none⟩ (.int .u64 t464))) := ⟨by repeat (first | (with_reducible first | exact HB.out | apply below_alloc | apply pw_below_drewN | apply below_drew1 | refine below_set ?_ GE454.out | refine below_set ?_ GE460.out | refine below_set ?_ GE466.out) | exact HB.out)⟩
                      (try clear BK454)
                      (try clear BK460)
                      (try clear BK466)
                      (try clear HB)
                      generalize ((((w37.setCell ⟨gb466, 0, none⟩ (.int .u64 t461)).setCell ⟨gb466, 1, none⟩ (.int .u64 t462)).setCell ⟨gb466, 2, none⟩ (.int .u64 t463)).setCell ⟨gb466, 3, none⟩ (.int .u64 t464)) = w41 at n0_ n1_ n2_ n3_ ⊢
                      have BK454 := n0_
                      have BK460 := n1_
                      have BK466 := n2_
                      have HB := n3_
                      clear n0_ n1_ n2_ n3_
                      have n0_ := Aside0.mk (blk_drew BK454.out)
                      have n1_ := Aside0.mk (blk_drew BK460.out)
                      have n2_ := Aside0.mk (blk_drew BK466.out)
                      have n3_ := Aside0.mk (below_drew1 HB.out)
                      clear BK454
                      clear BK460
                      clear BK466
                      clear HB
                      have BK454 := n0_
                      have BK460 := n1_
                      have BK466 := n2_
                      have HB := n3_
                      clear n0_ n1_ n2_ n3_
                      refine start_ (n := 46) (S := fun w' => w'.cell? ⟨gb460, 0, none⟩ = some (.int .u64 t455) ∧ w'.cell? ⟨gb460, 1, none⟩ = some (.int .u64 t456) ∧ w'.cell? ⟨gb460, 2, none⟩ = some (.int .u64 t457) ∧ w'.cell? ⟨gb460, 3, none⟩ = some (.int .u64 t458) ∧ w'.cell? ⟨gb466, 0, none⟩ = some (.int .u64 t461) ∧ w'.cell? ⟨gb466, 1, none⟩ = some (.int .u64 t462) ∧ w'.cell? ⟨gb466, 2, none⟩ = some (.int .u64 t463) ∧ w'.cell? ⟨gb466, 3, none⟩ = some (.int .u64 t464) ∧ w'.cell? ⟨gb454, 0, none⟩ = some (.int .u64 t449) ∧ w'.cell? ⟨gb454, 1, none⟩ = some (.int .u64 t450) ∧ w'.cell? ⟨gb454, 2, none⟩ = some (.int .u64 t451) ∧ w'.cell? ⟨gb454, 3, none⟩ = some (.int .u64 t452)) (ds := []) #[false, false, false, false, false, false, false, false, false, false, false, false, false, false, false, false, false, false, false, false, false, false, false, false, false, false, false, false, false, false, false, false, false, false, false, false, false, false, false, false, false, false, false, false, false, false] (by kernel_rfl) rfl rfl ⟨(blk_cell BK460.out 0).trans rfl, (blk_cell BK460.out 1).trans rfl, (blk_cell BK460.out 2).trans rfl, (blk_cell BK460.out 3).trans rfl, (blk_cell BK466.out 0).trans rfl, (blk_cell BK466.out 1).trans rfl, (blk_cell BK466.out 2).trans rfl, (blk_cell BK466.out 3).trans rfl, (blk_cell BK454.out 0).trans rfl, (blk_cell BK454.out 1).trans rfl, (blk_cell BK454.out 2).trans rfl, (blk_cell BK454.out 3).trans rfl⟩ (fun hHeld => ?_); refine with_tabW templelaw1_SetSplits.tab9 templelaw1_SetSplits.bits9 (fun HT_ HW_ => ?_)
                      generalize w41.drew = w42 at BK454 BK460 BK466 HB hHeld ⊢
                      refine pure_ (i := 0) (N := some 51) (v := ?_) (a' := ?_) #[true, false, false, false, false, false, false, false, false, false, false, false, false, false, false, false, false, false, false, false, false, false, false, false, false, false, false, false, false, false, false, false, false, false, false, false, false, false, false, false, false, false, false, false, false, false] rfl rfl (any_of HT_.out (by kernel_rfl)) (fun _ _ _ h => h) (Or.inl ⟨by rfl, ?_⟩) ?_ ?_
                      rotate_left
                      · intro w'
                        go_simp
                        with_reducible rfl
                      rotate_left
                      · simp only [Act.put, List.setIfInBounds_toArray, List.set_cons_zero, List.set_cons_succ, i64_w, i32_w]
                        rfl
                      refine one_ (i := 1) (N := some 52) #[true, true, false, false, false, false, false, false, false, false, false, false, false, false, false, false, false, false, false, false, false, false, false, false, false, false, false, false, false, false, false, false, false, false, false, false, false, false, false, false, false, false, false, false, false, false] rfl rfl (one_of HT_.out (by kernel_rfl)) (by decide) (fun K hK => ?_)
                      refine goes_ Try.func12 (by kernel_rfl) rfl #[.int .i64 t453] (by rfl) rfl rfl (by (try simp only [List.map_toArray, List.map_cons, List.map_nil]); first | done | rfl | (simp only [List.length_drop, List.length_take]; rfl)) ?_
                      with_reducible refine (templelaw0_Num.calls t453 t467 _ A13.out).mono ?_
                      rintro e w' ⟨rfl, ⟨nd, rfl⟩⟩
                      refine ⟨_, rfl, ?_⟩
                      refine hK.out _ _ ⟨(blk_cell BK460.out 0).trans rfl, (blk_cell BK460.out 1).trans rfl, (blk_cell BK460.out 2).trans rfl, (blk_cell BK460.out 3).trans rfl, (blk_cell BK466.out 0).trans rfl, (blk_cell BK466.out 1).trans rfl, (blk_cell BK466.out 2).trans rfl, (blk_cell BK466.out 3).trans rfl, (blk_cell BK454.out 0).trans rfl, (blk_cell BK454.out 1).trans rfl, (blk_cell BK454.out 2).trans rfl, (blk_cell BK454.out 3).trans rfl⟩ (fun hHeld => ?_)
                      clear hK K
                      refine norm_ (a' := ?_) ?_ ?_
                      rotate_left
                      · show Act.put _ (some 52) _ = _
                        simp only [Act.put, List.setIfInBounds_toArray, List.set_cons_zero, List.set_cons_succ, i64_w, i32_w]
                        rfl
                      refine pure_ (i := 2) (N := some 53) (v := ?_) (a' := ?_) #[true, true, true, false, false, false, false, false, false, false, false, false, false, false, false, false, false, false, false, false, false, false, false, false, false, false, false, false, false, false, false, false, false, false, false, false, false, false, false, false, false, false, false, false, false, false] rfl rfl (any_of HT_.out (by kernel_rfl)) (fun _ _ _ h => h) (Or.inl ⟨by rfl, ?_⟩) ?_ ?_
                      rotate_left
                      · intro w'
                        go_simp
                        with_reducible rfl
                      rotate_left
                      · simp only [Act.put, List.setIfInBounds_toArray, List.set_cons_zero, List.set_cons_succ, i64_w, i32_w]
                        rfl
                      refine pure_ (i := 3) (N := some 54) (v := ?_) (a' := ?_) #[true, true, true, true, false, false, false, false, false, false, false, false, false, false, false, false, false, false, false, false, false, false, false, false, false, false, false, false, false, false, false, false, false, false, false, false, false, false, false, false, false, false, false, false, false, false] rfl rfl (any_of HT_.out (by kernel_rfl)) (fun _ _ _ h => h) (Or.inl ⟨by rfl, ?_⟩) ?_ ?_
                      rotate_left
                      · intro w'
                        go_simp
                        with_reducible rfl
                      rotate_left
                      · simp only [Act.put, List.setIfInBounds_toArray, List.set_cons_zero, List.set_cons_succ, i64_w, i32_w]
                        rfl
                      refine pure_ (i := 4) (N := some 55) (v := ?_) (a' := ?_) #[true, true, true, true, true, false, false, false, false, false, false, false, false, false, false, false, false, false, false, false, false, false, false, false, false, false, false, false, false, false, false, false, false, false, false, false, false, false, false, false, false, false, false, false, false, false] rfl rfl (any_of HT_.out (by kernel_rfl)) (fun _ _ _ h => h) (Or.inl ⟨by rfl, ?_⟩) ?_ ?_
                      rotate_left
                      · intro w'
                        go_simp
                        with_reducible rfl
                      rotate_left
                      · simp only [Act.put, List.setIfInBounds_toArray, List.set_cons_zero, List.set_cons_succ, i64_w, i32_w]
                        rfl
                      refine one_ (i := 5) (N := some 56) #[true, true, true, true, true, true, false, false, false, false, false, false, false, false, false, false, false, false, false, false, false, false, false, false, false, false, false, false, false, false, false, false, false, false, false, false, false, false, false, false, false, false, false, false, false, false] rfl rfl (one_of HT_.out (by kernel_rfl)) (by decide) (fun K hK => ?_)
                      refine goes_ Try.func12 (by kernel_rfl) rfl #[.int .i64 t459] (by rfl) rfl rfl (by (try simp only [List.map_toArray, List.map_cons, List.map_nil]); first | done | rfl | (simp only [List.length_drop, List.length_take]; rfl)) ?_
                      with_reducible refine (templelaw0_Num.calls t459 t468 _ A15.out).mono ?_
                      rintro e w' ⟨rfl, ⟨nd, rfl⟩⟩
                      refine ⟨_, rfl, ?_⟩
                      refine hK.out _ _ ⟨(blk_cell BK460.out 0).trans rfl, (blk_cell BK460.out 1).trans rfl, (blk_cell BK460.out 2).trans rfl, (blk_cell BK460.out 3).trans rfl, (blk_cell BK466.out 0).trans rfl, (blk_cell BK466.out 1).trans rfl, (blk_cell BK466.out 2).trans rfl, (blk_cell BK466.out 3).trans rfl, (blk_cell BK454.out 0).trans rfl, (blk_cell BK454.out 1).trans rfl, (blk_cell BK454.out 2).trans rfl, (blk_cell BK454.out 3).trans rfl⟩ (fun hHeld => ?_)
                      clear hK K
                      refine norm_ (a' := ?_) ?_ ?_
                      rotate_left
                      · show Act.put _ (some 56) _ = _
                        simp only [Act.put, List.setIfInBounds_toArray, List.set_cons_zero, List.set_cons_succ, i64_w, i32_w]
                        rfl
                      refine pure_ (i := 6) (N := some 57) (v := ?_) (a' := ?_) #[true, true, true, true, true, true, true, false, false, false, false, false, false, false, false, false, false, false, false, false, false, false, false, false, false, false, false, false, false, false, false, false, false, false, false, false, false, false, false, false, false, false, false, false, false, false] rfl rfl (any_of HT_.out (by kernel_rfl)) (fun _ _ _ h => h) (Or.inl ⟨by rfl, ?_⟩) ?_ ?_
                      rotate_left
                      · intro w'
                        go_simp
                        with_reducible rfl
                      rotate_left
                      · simp only [Act.put, List.setIfInBounds_toArray, List.set_cons_zero, List.set_cons_succ, i64_w, i32_w]
                        rfl
                      refine pure_ (i := 7) (N := some 58) (v := ?_) (a' := ?_) #[true, true, true, true, true, true, true, true, false, false, false, false, false, false, false, false, false, false, false, false, false, false, false, false, false, false, false, false, false, false, false, false, false, false, false, false, false, false, false, false, false, false, false, false, false, false] rfl rfl (any_of HT_.out (by kernel_rfl)) (fun _ _ _ h => h) (Or.inl ⟨by rfl, ?_⟩) ?_ ?_
                      rotate_left
                      · intro w'
                        go_simp
                        with_reducible rfl
                      rotate_left
                      · simp only [Act.put, List.setIfInBounds_toArray, List.set_cons_zero, List.set_cons_succ, i64_w, i32_w]
                        rfl
                      refine pure_ (i := 8) (N := some 59) (v := ?_) (a' := ?_) #[true, true, true, true, true, true, true, true, true, false, false, false, false, false, false, false, false, false, false, false, false, false, false, false, false, false, false, false, false, false, false, false, false, false, false, false, false, false, false, false, false, false, false, false, false, false] rfl rfl (any_of HT_.out (by kernel_rfl)) (fun _ _ _ h => h) (Or.inl ⟨by rfl, ?_⟩) ?_ ?_
                      rotate_left
                      · intro w'
                        go_simp
                        with_reducible rfl
                      rotate_left
                      · simp only [Act.put, List.setIfInBounds_toArray, List.set_cons_zero, List.set_cons_succ, i64_w, i32_w]
                        rfl
                      refine pure_ (i := 9) (N := some 60) (v := ?_) (a' := ?_) #[true, true, true, true, true, true, true, true, true, true, false, false, false, false, false, false, false, false, false, false, false, false, false, false, false, false, false, false, false, false, false, false, false, false, false, false, false, false, false, false, false, false, false, false, false, false] rfl rfl (any_of HT_.out (by kernel_rfl)) (fun _ _ _ h => h) (Or.inl ⟨by rfl, ?_⟩) ?_ ?_
                      rotate_left
                      · intro w'
                        go_simp
                        with_reducible rfl
                      rotate_left
                      · simp only [Act.put, List.setIfInBounds_toArray, List.set_cons_zero, List.set_cons_succ, i64_w, i32_w]
                        rfl
                      refine one_ (i := 10) (N := some 61) #[true, true, true, true, true, true, true, true, true, true, true, false, false, false, false, false, false, false, false, false, false, false, false, false, false, false, false, false, false, false, false, false, false, false, false, false, false, false, false, false, false, false, false, false, false, false] rfl rfl (one_of HT_.out (by kernel_rfl)) (by decide) (fun K hK => ?_)
                      refine goes_ Try.func12 (by kernel_rfl) rfl #[.int .i64 t465] (by rfl) rfl rfl (by (try simp only [List.map_toArray, List.map_cons, List.map_nil]); first | done | rfl | (simp only [List.length_drop, List.length_take]; rfl)) ?_
                      with_reducible refine (templelaw0_Num.calls t465 t469 _ A17.out).mono ?_
                      rintro e w' ⟨rfl, ⟨nd, rfl⟩⟩
                      refine ⟨_, rfl, ?_⟩
                      refine hK.out _ _ ⟨(blk_cell BK460.out 0).trans rfl, (blk_cell BK460.out 1).trans rfl, (blk_cell BK460.out 2).trans rfl, (blk_cell BK460.out 3).trans rfl, (blk_cell BK466.out 0).trans rfl, (blk_cell BK466.out 1).trans rfl, (blk_cell BK466.out 2).trans rfl, (blk_cell BK466.out 3).trans rfl, (blk_cell BK454.out 0).trans rfl, (blk_cell BK454.out 1).trans rfl, (blk_cell BK454.out 2).trans rfl, (blk_cell BK454.out 3).trans rfl⟩ (fun hHeld => ?_)
                      clear hK K
                      refine norm_ (a' := ?_) ?_ ?_
                      rotate_left
                      · show Act.put _ (some 61) _ = _
                        simp only [Act.put, List.setIfInBounds_toArray, List.set_cons_zero, List.set_cons_succ, i64_w, i32_w]
                        rfl
                      refine pure_ (i := 11) (N := some 62) (v := ?_) (a' := ?_) #[true, true, true, true, true, true, true, true, true, true, true, true, false, false, false, false, false, false, false, false, false, false, false, false, false, false, false, false, false, false, false, false, false, false, false, false, false, false, false, false, false, false, false, false, false, false] rfl rfl (any_of HT_.out (by kernel_rfl)) (fun _ _ _ h => h) (Or.inl ⟨by rfl, ?_⟩) ?_ ?_
                      rotate_left
                      · intro w'
                        go_simp
                        with_reducible rfl
                      rotate_left
                      · simp only [Act.put, List.setIfInBounds_toArray, List.set_cons_zero, List.set_cons_succ, i64_w, i32_w]
                        rfl
                      refine pure_ (i := 12) (N := some 63) (v := ?_) (a' := ?_) #[true, true, true, true, true, true, true, true, true, true, true, true, true, false, false, false, false, false, false, false, false, false, false, false, false, false, false, false, false, false, false, false, false, false, false, false, false, false, false, false, false, false, false, false, false, false] rfl rfl (any_of HT_.out (by kernel_rfl)) (fun _ _ _ h => h) (Or.inl ⟨by rfl, ?_⟩) ?_ ?_
                      rotate_left
                      · intro w'
                        go_simp
                        with_reducible rfl
                      rotate_left
                      · simp only [Act.put, List.setIfInBounds_toArray, List.set_cons_zero, List.set_cons_succ, i64_w, i32_w]
                        rfl
                      refine pure_ (i := 13) (N := some 64) (v := ?_) (a' := ?_) #[true, true, true, true, true, true, true, true, true, true, true, true, true, true, false, false, false, false, false, false, false, false, false, false, false, false, false, false, false, false, false, false, false, false, false, false, false, false, false, false, false, false, false, false, false, false] rfl rfl (any_of HT_.out (by kernel_rfl)) (fun _ _ _ h => h) (Or.inl ⟨by rfl, ?_⟩) ?_ ?_
                      rotate_left
                      · intro w'
                        go_simp
                        with_reducible rfl
                      rotate_left
                      · simp only [Act.put, List.setIfInBounds_toArray, List.set_cons_zero, List.set_cons_succ, i64_w, i32_w]
                        rfl
                      refine take_ (i := 14) (N := some 65) (v := ?_) (a' := ?_) #[true, true, true, true, true, true, true, true, true, true, true, true, true, true, true, false, false, false, false, false, false, false, false, false, false, false, false, false, false, false, false, false, false, false, false, false, false, false, false, false, false, false, false, false, false, false] rfl rfl (take_ofW HT_.out HW_.out (by kernel_rfl)) (fun _ _ _ h => h) (Or.inl ⟨by rfl, ?_⟩) hHeld ?_ ?_
                      rotate_left
                      · rintro w' ⟨s0, s1, s2, s3, s4, s5, s6, s7, s8, s9, s10, s11⟩
                        go_simp
                        with_reducible rfl
                      rotate_left
                      · simp only [Act.put, List.setIfInBounds_toArray, List.set_cons_zero, List.set_cons_succ, i64_w, i32_w]
                        rfl
                      refine take_ (i := 15) (N := some 66) (v := ?_) (a' := ?_) #[true, true, true, true, true, true, true, true, true, true, true, true, true, true, true, true, false, false, false, false, false, false, false, false, false, false, false, false, false, false, false, false, false, false, false, false, false, false, false, false, false, false, false, false, false, false] rfl rfl (take_ofW HT_.out HW_.out (by kernel_rfl)) (fun _ _ _ h => h) (Or.inl ⟨by rfl, ?_⟩) hHeld ?_ ?_
                      rotate_left
                      · rintro w' ⟨s0, s1, s2, s3, s4, s5, s6, s7, s8, s9, s10, s11⟩
                        go_simp
                        with_reducible rfl
                      rotate_left
                      · simp only [Act.put, List.setIfInBounds_toArray, List.set_cons_zero, List.set_cons_succ, i64_w, i32_w]
                        rfl
                      refine take_ (i := 17) (N := some 68) (v := ?_) (a' := ?_) #[true, true, true, true, true, true, true, true, true, true, true, true, true, true, true, true, false, true, false, false, false, false, false, false, false, false, false, false, false, false, false, false, false, false, false, false, false, false, false, false, false, false, false, false, false, false] rfl rfl (take_ofW HT_.out HW_.out (by kernel_rfl)) (fun _ _ _ h => h) (Or.inl ⟨by rfl, ?_⟩) hHeld ?_ ?_
                      rotate_left
                      · rintro w' ⟨s0, s1, s2, s3, s4, s5, s6, s7, s8, s9, s10, s11⟩
                        go_simp
                        with_reducible rfl
                      rotate_left
                      · simp only [Act.put, List.setIfInBounds_toArray, List.set_cons_zero, List.set_cons_succ, i64_w, i32_w]
                        rfl
                      refine one_ (i := 16) (N := some 67) #[true, true, true, true, true, true, true, true, true, true, true, true, true, true, true, true, true, true, false, false, false, false, false, false, false, false, false, false, false, false, false, false, false, false, false, false, false, false, false, false, false, false, false, false, false, false] rfl rfl (one_of HT_.out (by kernel_rfl)) (by decide) (fun K hK => ?_)
                      refine goes_ Try.func15 (by kernel_rfl) rfl #[.agg #[.int .u64 t455, .int .u64 t456, .int .u64 t457, .int .u64 t458], .agg #[.int .u64 t461, .int .u64 t462, .int .u64 t463, .int .u64 t464]] (by rfl) rfl rfl (by (try simp only [List.map_toArray, List.map_cons, List.map_nil]); first | done | rfl | (simp only [List.length_drop, List.length_take]; rfl)) ?_
                      with_reducible refine (byteset_Or.calls t455 t456 t457 t458 t461 t462 t463 t464 t470 t471 t472 t473 _ A19.out).mono ?_
                      rintro e w43 ⟨rfl, hb⟩
                      refine ⟨_, rfl, ?_⟩
                      have n0_ := Aside0.mk (blk_below (g := gb454) (o := .cells #[.int .u64 t449, .int .u64 t450, .int .u64 t451, .int .u64 t452] 24 (0, 0)) (by (with_reducible repeat (first | refine blk_drewN ?_ _ | refine blk_drew ?_ | refine blk_alloc ?_ _)); exact BK454.out) hb)
                      have n1_ := Aside0.mk (blk_below (g := gb460) (o := .cells #[.int .u64 t455, .int .u64 t456, .int .u64 t457, .int .u64 t458] 24 (0, 0)) (by (with_reducible repeat (first | refine blk_drewN ?_ _ | refine blk_drew ?_ | refine blk_alloc ?_ _)); exact BK460.out) hb)
                      have n2_ := Aside0.mk (blk_below (g := gb466) (o := .cells #[.int .u64 t461, .int .u64 t462, .int .u64 t463, .int .u64 t464] 24 (0, 0)) (by (with_reducible repeat (first | refine blk_drewN ?_ _ | refine blk_drew ?_ | refine blk_alloc ?_ _)); exact BK466.out) hb)
                      have n3_ := Aside0.mk (below_step (by repeat (first | (with_reducible first | exact HB.out | apply below_alloc | apply pw_below_drewN | apply below_drew1 | refine below_set ?_ GE454.out | refine below_set ?_ GE460.out | refine below_set ?_ GE466.out) | exact HB.out)) hb)
                      clear BK454
                      clear BK460
                      clear BK466
                      clear HB
                      have BK454 := n0_
                      have BK460 := n1_
                      have BK466 := n2_
                      have HB := n3_
                      clear n0_ n1_ n2_ n3_
                      (try clear hb)
                      (try clear hb2)
                      (try clear hk)
                      (try clear hi)
                      refine hK.out _ _ ⟨(blk_cell BK460.out 0).trans rfl, (blk_cell BK460.out 1).trans rfl, (blk_cell BK460.out 2).trans rfl, (blk_cell BK460.out 3).trans rfl, (blk_cell BK466.out 0).trans rfl, (blk_cell BK466.out 1).trans rfl, (blk_cell BK466.out 2).trans rfl, (blk_cell BK466.out 3).trans rfl, (blk_cell BK454.out 0).trans rfl, (blk_cell BK454.out 1).trans rfl, (blk_cell BK454.out 2).trans rfl, (blk_cell BK454.out 3).trans rfl⟩ (fun hHeld => ?_)
                      clear hK K
                      refine norm_ (a' := ?_) ?_ ?_
                      rotate_left
                      · show Act.put _ (some 67) _ = _
                        simp only [Act.put, List.setIfInBounds_toArray, List.set_cons_zero, List.set_cons_succ, i64_w, i32_w]
                        rfl
                      refine pure_ (i := 18) (N := some 69) (v := ?_) (a' := ?_) #[true, true, true, true, true, true, true, true, true, true, true, true, true, true, true, true, true, true, true, false, false, false, false, false, false, false, false, false, false, false, false, false, false, false, false, false, false, false, false, false, false, false, false, false, false, false] rfl rfl (any_of HT_.out (by kernel_rfl)) (fun _ _ _ h => h) (Or.inl ⟨by rfl, ?_⟩) ?_ ?_
                      rotate_left
                      · intro w'
                        go_simp
                        with_reducible rfl
                      rotate_left
                      · simp only [Act.put, List.setIfInBounds_toArray, List.set_cons_zero, List.set_cons_succ, i64_w, i32_w]
                        rfl
                      refine pure_ (i := 19) (N := some 70) (v := ?_) (a' := ?_) #[true, true, true, true, true, true, true, true, true, true, true, true, true, true, true, true, true, true, true, true, false, false, false, false, false, false, false, false, false, false, false, false, false, false, false, false, false, false, false, false, false, false, false, false, false, false] rfl rfl (any_of HT_.out (by kernel_rfl)) (fun _ _ _ h => h) (Or.inl ⟨by rfl, ?_⟩) ?_ ?_
                      rotate_left
                      · intro w'
                        go_simp
                        with_reducible rfl
                      rotate_left
                      · simp only [Act.put, List.setIfInBounds_toArray, List.set_cons_zero, List.set_cons_succ, i64_w, i32_w]
                        rfl
                      refine pure_ (i := 20) (N := some 71) (v := ?_) (a' := ?_) #[true, true, true, true, true, true, true, true, true, true, true, true, true, true, true, true, true, true, true, true, true, false, false, false, false, false, false, false, false, false, false, false, false, false, false, false, false, false, false, false, false, false, false, false, false, false] rfl rfl (any_of HT_.out (by kernel_rfl)) (fun _ _ _ h => h) (Or.inl ⟨by rfl, ?_⟩) ?_ ?_
                      rotate_left
                      · intro w'
                        go_simp
                        with_reducible rfl
                      rotate_left
                      · simp only [Act.put, List.setIfInBounds_toArray, List.set_cons_zero, List.set_cons_succ, i64_w, i32_w]
                        rfl
                      refine take_ (i := 21) (N := some 72) (v := ?_) (a' := ?_) #[true, true, true, true, true, true, true, true, true, true, true, true, true, true, true, true, true, true, true, true, true, true, false, false, false, false, false, false, false, false, false, false, false, false, false, false, false, false, false, false, false, false, false, false, false, false] rfl rfl (take_ofW HT_.out HW_.out (by kernel_rfl)) (fun _ _ _ h => h) (Or.inl ⟨by rfl, ?_⟩) hHeld ?_ ?_
                      rotate_left
                      · rintro w' ⟨s0, s1, s2, s3, s4, s5, s6, s7, s8, s9, s10, s11⟩
                        go_simp
                        with_reducible rfl
                      rotate_left
                      · simp only [Act.put, List.setIfInBounds_toArray, List.set_cons_zero, List.set_cons_succ, i64_w, i32_w]
                        rfl
                      refine take_ (i := 22) (N := some 73) (v := ?_) (a' := ?_) #[true, true, true, true, true, true, true, true, true, true, true, true, true, true, true, true, true, true, true, true, true, true, true, false, false, false, false, false, false, false, false, false, false, false, false, false, false, false, false, false, false, false, false, false, false, false] rfl rfl (take_ofW HT_.out HW_.out (by kernel_rfl)) (fun _ _ _ h => h) (Or.inl ⟨by rfl, ?_⟩) hHeld ?_ ?_
                      rotate_left
                      · rintro w' ⟨s0, s1, s2, s3, s4, s5, s6, s7, s8, s9, s10, s11⟩
                        go_simp
                        with_reducible rfl
                      rotate_left
                      · simp only [Act.put, List.setIfInBounds_toArray, List.set_cons_zero, List.set_cons_succ, i64_w, i32_w]
                        rfl
                      refine one_ (i := 23) (N := some 74) #[true, true, true, true, true, true, true, true, true, true, true, true, true, true, true, true, true, true, true, true, true, true, true, true, false, false, false, false, false, false, false, false, false, false, false, false, false, false, false, false, false, false, false, false, false, false] rfl rfl (one_of HT_.out (by kernel_rfl)) (by decide) (fun K hK => ?_)
                      refine goes_ Try.func17 (by kernel_rfl) rfl #[.agg #[.int .u64 t455, .int .u64 t456, .int .u64 t457, .int .u64 t458], .agg #[.int .u64 t461, .int .u64 t462, .int .u64 t463, .int .u64 t464]] (by rfl) rfl rfl (by (try simp only [List.map_toArray, List.map_cons, List.map_nil]); first | done | rfl | (simp only [List.length_drop, List.length_take]; rfl)) ?_
                      with_reducible refine (byteset_And.calls t455 t456 t457 t458 t461 t462 t463 t464 t474 t475 t476 t477 _ A21.out).mono ?_
                      rintro e w44 ⟨rfl, hb⟩
                      refine ⟨_, rfl, ?_⟩
                      have n0_ := Aside0.mk (blk_below (g := gb454) (o := .cells #[.int .u64 t449, .int .u64 t450, .int .u64 t451, .int .u64 t452] 24 (0, 0)) (by (with_reducible repeat (first | refine blk_drewN ?_ _ | refine blk_drew ?_ | refine blk_alloc ?_ _)); exact BK454.out) hb)
                      have n1_ := Aside0.mk (blk_below (g := gb460) (o := .cells #[.int .u64 t455, .int .u64 t456, .int .u64 t457, .int .u64 t458] 24 (0, 0)) (by (with_reducible repeat (first | refine blk_drewN ?_ _ | refine blk_drew ?_ | refine blk_alloc ?_ _)); exact BK460.out) hb)
                      have n2_ := Aside0.mk (blk_below (g := gb466) (o := .cells #[.int .u64 t461, .int .u64 t462, .int .u64 t463, .int .u64 t464] 24 (0, 0)) (by (with_reducible repeat (first | refine blk_drewN ?_ _ | refine blk_drew ?_ | refine blk_alloc ?_ _)); exact BK466.out) hb)
                      have n3_ := Aside0.mk (below_step (by repeat (first | (with_reducible first | exact HB.out | apply below_alloc | apply pw_below_drewN | apply below_drew1 | refine below_set ?_ GE454.out | refine below_set ?_ GE460.out | refine below_set ?_ GE466.out) | exact HB.out)) hb)
                      clear BK454
                      clear BK460
                      clear BK466
                      clear HB
                      have BK454 := n0_
                      have BK460 := n1_
                      have BK466 := n2_
                      have HB := n3_
                      clear n0_ n1_ n2_ n3_
                      (try clear hb)
                      (try clear hb2)
                      (try clear hk)
                      (try clear hi)
                      refine hK.out _ _ ⟨(blk_cell BK460.out 0).trans rfl, (blk_cell BK460.out 1).trans rfl, (blk_cell BK460.out 2).trans rfl, (blk_cell BK460.out 3).trans rfl, (blk_cell BK466.out 0).trans rfl, (blk_cell BK466.out 1).trans rfl, (blk_cell BK466.out 2).trans rfl, (blk_cell BK466.out 3).trans rfl, (blk_cell BK454.out 0).trans rfl, (blk_cell BK454.out 1).trans rfl, (blk_cell BK454.out 2).trans rfl, (blk_cell BK454.out 3).trans rfl⟩ (fun hHeld => ?_)
                      clear hK K
                      refine norm_ (a' := ?_) ?_ ?_
                      rotate_left
                      · show Act.put _ (some 74) _ = _
                        simp only [Act.put, List.setIfInBounds_toArray, List.set_cons_zero, List.set_cons_succ, i64_w, i32_w]
                        rfl
                      refine one_ (i := 24) (N := some 75) #[true, true, true, true, true, true, true, true, true, true, true, true, true, true, true, true, true, true, true, true, true, true, true, true, true, false, false, false, false, false, false, false, false, false, false, false, false, false, false, false, false, false, false, false, false, false] rfl rfl (one_of HT_.out (by kernel_rfl)) (by decide) (fun K hK => ?_)
                      refine goes_ Try.func19 (by kernel_rfl) rfl #[.agg #[.int .u64 t474, .int .u64 t475, .int .u64 t476, .int .u64 t477]] (by rfl) rfl rfl (by (try simp only [List.map_toArray, List.map_cons, List.map_nil]); first | done | rfl | (simp only [List.length_drop, List.length_take]; rfl)) ?_
                      with_reducible refine (byteset_Count.calls t474 t475 t476 t477 t478 _ A22.out).mono ?_
                      rintro e w45 ⟨rfl, hb⟩
                      refine ⟨_, rfl, ?_⟩
                      have n0_ := Aside0.mk (blk_below (g := gb454) (o := .cells #[.int .u64 t449, .int .u64 t450, .int .u64 t451, .int .u64 t452] 24 (0, 0)) (by (with_reducible repeat (first | refine blk_drewN ?_ _ | refine blk_drew ?_ | refine blk_alloc ?_ _)); exact BK454.out) hb)
                      have n1_ := Aside0.mk (blk_below (g := gb460) (o := .cells #[.int .u64 t455, .int .u64 t456, .int .u64 t457, .int .u64 t458] 24 (0, 0)) (by (with_reducible repeat (first | refine blk_drewN ?_ _ | refine blk_drew ?_ | refine blk_alloc ?_ _)); exact BK460.out) hb)
                      have n2_ := Aside0.mk (blk_below (g := gb466) (o := .cells #[.int .u64 t461, .int .u64 t462, .int .u64 t463, .int .u64 t464] 24 (0, 0)) (by (with_reducible repeat (first | refine blk_drewN ?_ _ | refine blk_drew ?_ | refine blk_alloc ?_ _)); exact BK466.out) hb)
                      have n3_ := Aside0.mk (below_step (by repeat (first | (with_reducible first | exact HB.out | apply below_alloc | apply pw_below_drewN | apply below_drew1 | refine below_set ?_ GE454.out | refine below_set ?_ GE460.out | refine below_set ?_ GE466.out) | exact HB.out)) hb)
                      clear BK454
                      clear BK460
                      clear BK466
                      clear HB
                      have BK454 := n0_
                      have BK460 := n1_
                      have BK466 := n2_
                      have HB := n3_
                      clear n0_ n1_ n2_ n3_
                      (try clear hb)
                      (try clear hb2)
                      (try clear hk)
                      (try clear hi)
                      refine hK.out _ _ ⟨(blk_cell BK460.out 0).trans rfl, (blk_cell BK460.out 1).trans rfl, (blk_cell BK460.out 2).trans rfl, (blk_cell BK460.out 3).trans rfl, (blk_cell BK466.out 0).trans rfl, (blk_cell BK466.out 1).trans rfl, (blk_cell BK466.out 2).trans rfl, (blk_cell BK466.out 3).trans rfl, (blk_cell BK454.out 0).trans rfl, (blk_cell BK454.out 1).trans rfl, (blk_cell BK454.out 2).trans rfl, (blk_cell BK454.out 3).trans rfl⟩ (fun hHeld => ?_)
                      clear hK K
                      refine norm_ (a' := ?_) ?_ ?_
                      rotate_left
                      · show Act.put _ (some 75) _ = _
                        simp only [Act.put, List.setIfInBounds_toArray, List.set_cons_zero, List.set_cons_succ, i64_w, i32_w]
                        rfl
                      refine pure_ (i := 25) (N := some 76) (v := ?_) (a' := ?_) #[true, true, true, true, true, true, true, true, true, true, true, true, true, true, true, true, true, true, true, true, true, true, true, true, true, true, false, false, false, false, false, false, false, false, false, false, false, false, false, false, false, false, false, false, false, false] rfl rfl (any_of HT_.out (by kernel_rfl)) (fun _ _ _ h => h) (Or.inl ⟨by rfl, ?_⟩) ?_ ?_
                      rotate_left
                      · intro w'
                        go_simp
                        with_reducible rfl
                      rotate_left
                      · simp only [Act.put, List.setIfInBounds_toArray, List.set_cons_zero, List.set_cons_succ, i64_w, i32_w]
                        rfl
                      refine pure_ (i := 26) (N := some 77) (v := ?_) (a' := ?_) #[true, true, true, true, true, true, true, true, true, true, true, true, true, true, true, true, true, true, true, true, true, true, true, true, true, true, true, false, false, false, false, false, false, false, false, false, false, false, false, false, false, false, false, false, false, false] rfl rfl (any_of HT_.out (by kernel_rfl)) (fun _ _ _ h => h) (Or.inl ⟨by rfl, ?_⟩) ?_ ?_
                      rotate_left
                      · intro w'
                        go_simp
                        with_reducible rfl
                      rotate_left
                      · simp only [Act.put, List.setIfInBounds_toArray, List.set_cons_zero, List.set_cons_succ, i64_w, i32_w]
                        rfl
                      refine pure_ (i := 27) (N := some 78) (v := ?_) (a' := ?_) #[true, true, true, true, true, true, true, true, true, true, true, true, true, true, true, true, true, true, true, true, true, true, true, true, true, true, true, true, false, false, false, false, false, false, false, false, false, false, false, false, false, false, false, false, false, false] rfl rfl (any_of HT_.out (by kernel_rfl)) (fun _ _ _ h => h) (Or.inl ⟨by rfl, ?_⟩) ?_ ?_
                      rotate_left
                      · intro w'
                        go_simp
                        with_reducible rfl
                      rotate_left
                      · simp only [Act.put, List.setIfInBounds_toArray, List.set_cons_zero, List.set_cons_succ, i64_w, i32_w]
                        rfl
                      refine take_ (i := 28) (N := some 79) (v := ?_) (a' := ?_) #[true, true, true, true, true, true, true, true, true, true, true, true, true, true, true, true, true, true, true, true, true, true, true, true, true, true, true, true, true, false, false, false, false, false, false, false, false, false, false, false, false, false, false, false, false, false] rfl rfl (take_ofW HT_.out HW_.out (by kernel_rfl)) (fun _ _ _ h => h) (Or.inl ⟨by rfl, ?_⟩) hHeld ?_ ?_
                      rotate_left
                      · rintro w' ⟨s0, s1, s2, s3, s4, s5, s6, s7, s8, s9, s10, s11⟩
                        go_simp
                        with_reducible rfl
                      rotate_left
                      · simp only [Act.put, List.setIfInBounds_toArray, List.set_cons_zero, List.set_cons_succ, i64_w, i32_w]
                        rfl
                      refine take_ (i := 29) (N := some 80) (v := ?_) (a' := ?_) #[true, true, true, true, true, true, true, true, true, true, true, true, true, true, true, true, true, true, true, true, true, true, true, true, true, true, true, true, true, true, false, false, false, false, false, false, false, false, false, false, false, false, false, false, false, false] rfl rfl (take_ofW HT_.out HW_.out (by kernel_rfl)) (fun _ _ _ h => h) (Or.inl ⟨by rfl, ?_⟩) hHeld ?_ ?_
                      rotate_left
                      · rintro w' ⟨s0, s1, s2, s3, s4, s5, s6, s7, s8, s9, s10, s11⟩
                        go_simp
                        with_reducible rfl
                      rotate_left
                      · simp only [Act.put, List.setIfInBounds_toArray, List.set_cons_zero, List.set_cons_succ, i64_w, i32_w]
                        rfl
                      refine take_ (i := 31) (N := some 82) (v := ?_) (a' := ?_) #[true, true, true, true, true, true, true, true, true, true, true, true, true, true, true, true, true, true, true, true, true, true, true, true, true, true, true, true, true, true, false, true, false, false, false, false, false, false, false, false, false, false, false, false, false, false] rfl rfl (take_ofW HT_.out HW_.out (by kernel_rfl)) (fun _ _ _ h => h) (Or.inl ⟨by rfl, ?_⟩) hHeld ?_ ?_
                      rotate_left
                      · rintro w' ⟨s0, s1, s2, s3, s4, s5, s6, s7, s8, s9, s10, s11⟩
                        go_simp
                        with_reducible rfl
                      rotate_left
                      · simp only [Act.put, List.setIfInBounds_toArray, List.set_cons_zero, List.set_cons_succ, i64_w, i32_w]
                        rfl
                      refine one_ (i := 30) (N := some 81) #[true, true, true, true, true, true, true, true, true, true, true, true, true, true, true, true, true, true, true, true, true, true, true, true, true, true, true, true, true, true, true, true, false, false, false, false, false, false, false, false, false, false, false, false, false, false] rfl rfl (one_of HT_.out (by kernel_rfl)) (by decide) (fun K hK => ?_)
                      refine goes_ Try.func18 (by kernel_rfl) rfl #[.agg #[.int .u64 t449, .int .u64 t450, .int .u64 t451, .int .u64 t452], .agg #[.int .u64 t455, .int .u64 t456, .int .u64 t457, .int .u64 t458]] (by rfl) rfl rfl (by (try simp only [List.map_toArray, List.map_cons, List.map_nil]); first | done | rfl | (simp only [List.length_drop, List.length_take]; rfl)) ?_
                      with_reducible refine (byteset_Minus.calls t449 t450 t451 t452 t455 t456 t457 t458 t479 t480 t481 t482 _ A24.out).mono ?_
                      rintro e w46 ⟨rfl, hb⟩
                      refine ⟨_, rfl, ?_⟩
                      have n0_ := Aside0.mk (blk_below (g := gb454) (o := .cells #[.int .u64 t449, .int .u64 t450, .int .u64 t451, .int .u64 t452] 24 (0, 0)) (by (with_reducible repeat (first | refine blk_drewN ?_ _ | refine blk_drew ?_ | refine blk_alloc ?_ _)); exact BK454.out) hb)
                      have n1_ := Aside0.mk (blk_below (g := gb460) (o := .cells #[.int .u64 t455, .int .u64 t456, .int .u64 t457, .int .u64 t458] 24 (0, 0)) (by (with_reducible repeat (first | refine blk_drewN ?_ _ | refine blk_drew ?_ | refine blk_alloc ?_ _)); exact BK460.out) hb)
                      have n2_ := Aside0.mk (blk_below (g := gb466) (o := .cells #[.int .u64 t461, .int .u64 t462, .int .u64 t463, .int .u64 t464] 24 (0, 0)) (by (with_reducible repeat (first | refine blk_drewN ?_ _ | refine blk_drew ?_ | refine blk_alloc ?_ _)); exact BK466.out) hb)
                      have n3_ := Aside0.mk (below_step (by repeat (first | (with_reducible first | exact HB.out | apply below_alloc | apply pw_below_drewN | apply below_drew1 | refine below_set ?_ GE454.out | refine below_set ?_ GE460.out | refine below_set ?_ GE466.out) | exact HB.out)) hb)
                      clear BK454
                      clear BK460
                      clear BK466
                      clear HB
                      have BK454 := n0_
                      have BK460 := n1_
                      have BK466 := n2_
                      have HB := n3_
                      clear n0_ n1_ n2_ n3_
                      (try clear hb)
                      (try clear hb2)
                      (try clear hk)
                      (try clear hi)
                      refine hK.out _ _ ⟨(blk_cell BK460.out 0).trans rfl, (blk_cell BK460.out 1).trans rfl, (blk_cell BK460.out 2).trans rfl, (blk_cell BK460.out 3).trans rfl, (blk_cell BK466.out 0).trans rfl, (blk_cell BK466.out 1).trans rfl, (blk_cell BK466.out 2).trans rfl, (blk_cell BK466.out 3).trans rfl, (blk_cell BK454.out 0).trans rfl, (blk_cell BK454.out 1).trans rfl, (blk_cell BK454.out 2).trans rfl, (blk_cell BK454.out 3).trans rfl⟩ (fun hHeld => ?_)
                      clear hK K
                      refine norm_ (a' := ?_) ?_ ?_
                      rotate_left
                      · show Act.put _ (some 81) _ = _
                        simp only [Act.put, List.setIfInBounds_toArray, List.set_cons_zero, List.set_cons_succ, i64_w, i32_w]
                        rfl
                      refine pure_ (i := 32) (N := some 83) (v := ?_) (a' := ?_) #[true, true, true, true, true, true, true, true, true, true, true, true, true, true, true, true, true, true, true, true, true, true, true, true, true, true, true, true, true, true, true, true, true, false, false, false, false, false, false, false, false, false, false, false, false, false] rfl rfl (any_of HT_.out (by kernel_rfl)) (fun _ _ _ h => h) (Or.inl ⟨by rfl, ?_⟩) ?_ ?_
                      rotate_left
                      · intro w'
                        go_simp
                        with_reducible rfl
                      rotate_left
                      · simp only [Act.put, List.setIfInBounds_toArray, List.set_cons_zero, List.set_cons_succ, i64_w, i32_w]
                        rfl
                      refine pure_ (i := 33) (N := some 84) (v := ?_) (a' := ?_) #[true, true, true, true, true, true, true, true, true, true, true, true, true, true, true, true, true, true, true, true, true, true, true, true, true, true, true, true, true, true, true, true, true, true, false, false, false, false, false, false, false, false, false, false, false, false] rfl rfl (any_of HT_.out (by kernel_rfl)) (fun _ _ _ h => h) (Or.inl ⟨by rfl, ?_⟩) ?_ ?_
                      rotate_left
                      · intro w'
                        go_simp
                        with_reducible rfl
                      rotate_left
                      · simp only [Act.put, List.setIfInBounds_toArray, List.set_cons_zero, List.set_cons_succ, i64_w, i32_w]
                        rfl
                      refine pure_ (i := 34) (N := some 85) (v := ?_) (a' := ?_) #[true, true, true, true, true, true, true, true, true, true, true, true, true, true, true, true, true, true, true, true, true, true, true, true, true, true, true, true, true, true, true, true, true, true, true, false, false, false, false, false, false, false, false, false, false, false] rfl rfl (any_of HT_.out (by kernel_rfl)) (fun _ _ _ h => h) (Or.inl ⟨by rfl, ?_⟩) ?_ ?_
                      rotate_left
                      · intro w'
                        go_simp
                        with_reducible rfl
                      rotate_left
                      · simp only [Act.put, List.setIfInBounds_toArray, List.set_cons_zero, List.set_cons_succ, i64_w, i32_w]
                        rfl
                      refine pure_ (i := 39) (N := some 90) (v := ?_) (a' := ?_) #[true, true, true, true, true, true, true, true, true, true, true, true, true, true, true, true, true, true, true, true, true, true, true, true, true, true, true, true, true, true, true, true, true, true, true, false, false, false, false, true, false, false, false, false, false, false] rfl rfl (any_of HT_.out (by kernel_rfl)) (fun _ _ _ h => h) (Or.inl ⟨by rfl, ?_⟩) ?_ ?_
                      rotate_left
                      · intro w'
                        go_simp
                        with_reducible rfl
                      rotate_left
                      · simp only [Act.put, List.setIfInBounds_toArray, List.set_cons_zero, List.set_cons_succ, i64_w, i32_w]
                        rfl
                      refine pure_ (i := 40) (N := some 91) (v := ?_) (a' := ?_) #[true, true, true, true, true, true, true, true, true, true, true, true, true, true, true, true, true, true, true, true, true, true, true, true, true, true, true, true, true, true, true, true, true, true, true, false, false, false, false, true, true, false, false, false, false, false] rfl rfl (any_of HT_.out (by kernel_rfl)) (fun _ _ _ h => h) (Or.inl ⟨by rfl, ?_⟩) ?_ ?_
                      rotate_left
                      · intro w'
                        go_simp
                        with_reducible rfl
                      rotate_left
                      · simp only [Act.put, List.setIfInBounds_toArray, List.set_cons_zero, List.set_cons_succ, i64_w, i32_w]
                        rfl
                      refine pure_ (i := 41) (N := some 92) (v := ?_) (a' := ?_) #[true, true, true, true, true, true, true, true, true, true, true, true, true, true, true, true, true, true, true, true, true, true, true, true, true, true, true, true, true, true, true, true, true, true, true, false, false, false, false, true, true, true, false, false, false, false] rfl rfl (any_of HT_.out (by kernel_rfl)) (fun _ _ _ h => h) (Or.inl ⟨by rfl, ?_⟩) ?_ ?_
                      rotate_left
                      · intro w'
                        go_simp
                        with_reducible rfl
                      rotate_left
                      · simp only [Act.put, List.setIfInBounds_toArray, List.set_cons_zero, List.set_cons_succ, i64_w, i32_w]
                        rfl
                      refine take_ (i := 35) (N := some 86) (v := ?_) (a' := ?_) #[true, true, true, true, true, true, true, true, true, true, true, true, true, true, true, true, true, true, true, true, true, true, true, true, true, true, true, true, true, true, true, true, true, true, true, true, false, false, false, true, true, true, false, false, false, false] rfl rfl (take_ofW HT_.out HW_.out (by kernel_rfl)) (fun _ _ _ h => h) (Or.inl ⟨by rfl, ?_⟩) hHeld ?_ ?_
                      rotate_left
                      · rintro w' ⟨s0, s1, s2, s3, s4, s5, s6, s7, s8, s9, s10, s11⟩
                        go_simp
                        with_reducible rfl
                      rotate_left
                      · simp only [Act.put, List.setIfInBounds_toArray, List.set_cons_zero, List.set_cons_succ, i64_w, i32_w]
                        rfl
                      refine take_ (i := 36) (N := some 87) (v := ?_) (a' := ?_) #[true, true, true, true, true, true, true, true, true, true, true, true, true, true, true, true, true, true, true, true, true, true, true, true, true, true, true, true, true, true, true, true, true, true, true, true, true, false, false, true, true, true, false, false, false, false] rfl rfl (take_ofW HT_.out HW_.out (by kernel_rfl)) (fun _ _ _ h => h) (Or.inl ⟨by rfl, ?_⟩) hHeld ?_ ?_
                      rotate_left
                      · rintro w' ⟨s0, s1, s2, s3, s4, s5, s6, s7, s8, s9, s10, s11⟩
                        go_simp
                        with_reducible rfl
                      rotate_left
                      · simp only [Act.put, List.setIfInBounds_toArray, List.set_cons_zero, List.set_cons_succ, i64_w, i32_w]
                        rfl
                      refine join_ (σ := Value × Value) 3 #[true, true, true, true, true, true, true, true, true, true, true, true, true, true, true, true, true, true, true, true, true, true, true, true, true, true, true, true, true, true, true, true, true, true, true, true, true, true, true, true, true, true, true, false, false, false] (fun s_ => [(88, .agg #[.int .u64 t483, .int .u64 t484, .int .u64 t485, .int .u64 t486]), (89, s_.1), (93, s_.2)]) (fun s_ w' => (w'.cell? ⟨gb460, 0, none⟩ = some (.int .u64 t455) ∧ w'.cell? ⟨gb460, 1, none⟩ = some (.int .u64 t456) ∧ w'.cell? ⟨gb460, 2, none⟩ = some (.int .u64 t457) ∧ w'.cell? ⟨gb460, 3, none⟩ = some (.int .u64 t458) ∧ w'.cell? ⟨gb466, 0, none⟩ = some (.int .u64 t461) ∧ w'.cell? ⟨gb466, 1, none⟩ = some (.int .u64 t462) ∧ w'.cell? ⟨gb466, 2, none⟩ = some (.int .u64 t463) ∧ w'.cell? ⟨gb466, 3, none⟩ = some (.int .u64 t464) ∧ w'.cell? ⟨gb454, 0, none⟩ = some (.int .u64 t449) ∧ w'.cell? ⟨gb454, 1, none⟩ = some (.int .u64 t450) ∧ w'.cell? ⟨gb454, 2, none⟩ = some (.int .u64 t451) ∧ w'.cell? ⟨gb454, 3, none⟩ = some (.int .u64 t452)) ∧ (Kd.R k40 40 w' w.heap.size (fun k_ => some k_ ≠ (s_.2 : Value).ownBlock) s_.1 t487) ∧ (Kd.R k40 40 w' w.heap.size (fun k_ => some k_ ≠ (s_.1 : Value).ownBlock) s_.2 y490) ∧ (w'.heap[gb454]? = some (.cells #[.int .u64 t449, .int .u64 t450, .int .u64 t451, .int .u64 t452] 24 (0, 0))) ∧ (w'.heap[gb460]? = some (.cells #[.int .u64 t455, .int .u64 t456, .int .u64 t457, .int .u64 t458] 24 (0, 0))) ∧ (w'.heap[gb466]? = some (.cells #[.int .u64 t461, .int .u64 t462, .int .u64 t463, .int .u64 t464] 24 (0, 0))) ∧ (Below w.heap.size w w')) ?_ ?_
                      rotate_left
                      · intro hCont
                        refine two_ (i := 37) (j := 42) (Ni := some 88) (Nj := some 93) #[true, true, true, true, true, true, true, true, true, true, true, true, true, true, true, true, true, true, true, true, true, true, true, true, true, true, true, true, true, true, true, true, true, true, true, true, true, true, false, true, true, true, false, false, false, false] #[true, true, true, true, true, true, true, true, true, true, true, true, true, true, true, true, true, true, true, true, true, true, true, true, true, true, true, true, true, true, true, true, true, true, true, true, true, false, false, true, true, true, true, false, false, false] rfl rfl rfl rfl (two_of HT_.out (by kernel_rfl)) (by decide) (by decide) (fun K hK => ?_) (fun K hK => ?_)
                        · skip
                          refine goes_ Try.func15 (by kernel_rfl) rfl #[.agg #[.int .u64 t461, .int .u64 t462, .int .u64 t463, .int .u64 t464], .agg #[.int .u64 t455, .int .u64 t456, .int .u64 t457, .int .u64 t458]] (by rfl) rfl rfl (by (try simp only [List.map_toArray, List.map_cons, List.map_nil]); first | done | rfl | (simp only [List.length_drop, List.length_take]; rfl)) ?_
                          with_reducible refine (byteset_Or.calls t461 t462 t463 t464 t455 t456 t457 t458 t483 t484 t485 t486 _ A26.out).mono ?_
                          rintro e w47 ⟨rfl, hb⟩
                          refine ⟨_, rfl, ?_⟩
                          have n0_ := Aside0.mk (blk_below (g := gb454) (o := .cells #[.int .u64 t449, .int .u64 t450, .int .u64 t451, .int .u64 t452] 24 (0, 0)) (by (with_reducible repeat (first | refine blk_drewN ?_ _ | refine blk_drew ?_ | refine blk_alloc ?_ _)); exact BK454.out) hb)
                          have n1_ := Aside0.mk (blk_below (g := gb460) (o := .cells #[.int .u64 t455, .int .u64 t456, .int .u64 t457, .int .u64 t458] 24 (0, 0)) (by (with_reducible repeat (first | refine blk_drewN ?_ _ | refine blk_drew ?_ | refine blk_alloc ?_ _)); exact BK460.out) hb)
                          have n2_ := Aside0.mk (blk_below (g := gb466) (o := .cells #[.int .u64 t461, .int .u64 t462, .int .u64 t463, .int .u64 t464] 24 (0, 0)) (by (with_reducible repeat (first | refine blk_drewN ?_ _ | refine blk_drew ?_ | refine blk_alloc ?_ _)); exact BK466.out) hb)
                          have n3_ := Aside0.mk (below_step (by repeat (first | (with_reducible first | exact HB.out | apply below_alloc | apply pw_below_drewN | apply below_drew1 | refine below_set ?_ GE454.out | refine below_set ?_ GE460.out | refine below_set ?_ GE466.out) | exact HB.out)) hb)
                          clear BK454
                          clear BK460
                          clear BK466
                          clear HB
                          have BK454 := n0_
                          have BK460 := n1_
                          have BK466 := n2_
                          have HB := n3_
                          clear n0_ n1_ n2_ n3_
                          (try clear hb)
                          (try clear hb2)
                          (try clear hk)
                          (try clear hi)
                          refine hK.out _ _ ⟨(blk_cell BK460.out 0).trans rfl, (blk_cell BK460.out 1).trans rfl, (blk_cell BK460.out 2).trans rfl, (blk_cell BK460.out 3).trans rfl, (blk_cell BK466.out 0).trans rfl, (blk_cell BK466.out 1).trans rfl, (blk_cell BK466.out 2).trans rfl, (blk_cell BK466.out 3).trans rfl, (blk_cell BK454.out 0).trans rfl, (blk_cell BK454.out 1).trans rfl, (blk_cell BK454.out 2).trans rfl, (blk_cell BK454.out 3).trans rfl⟩ (fun hHeld => ?_)
                          clear hK K
                          refine norm_ (a' := ?_) ?_ ?_
                          rotate_left
                          · show Act.put _ (some 88) _ = _
                            simp only [Act.put, List.setIfInBounds_toArray, List.set_cons_zero, List.set_cons_succ, i64_w, i32_w]
                            rfl
                          refine two_ (i := 38) (j := 42) (Ni := some 89) (Nj := some 93) #[true, true, true, true, true, true, true, true, true, true, true, true, true, true, true, true, true, true, true, true, true, true, true, true, true, true, true, true, true, true, true, true, true, true, true, true, true, true, true, true, true, true, false, false, false, false] #[true, true, true, true, true, true, true, true, true, true, true, true, true, true, true, true, true, true, true, true, true, true, true, true, true, true, true, true, true, true, true, true, true, true, true, true, true, true, false, true, true, true, true, false, false, false] rfl rfl rfl rfl (two_of HT_.out (by kernel_rfl)) (by decide) (by decide) (fun K hK => ?_) (fun K hK => ?_)
                          · skip
                            refine goes_ Try.func22 (by kernel_rfl) rfl #[.agg #[.int .u64 t483, .int .u64 t484, .int .u64 t485, .int .u64 t486]] (by rfl) rfl rfl (by (try simp only [List.map_toArray, List.map_cons, List.map_nil]); first | done | rfl | (simp only [List.length_drop, List.length_take]; rfl)) ?_
                            with_reducible refine (byteset_Ranges.calls kj5 t483 t484 t485 t486 t487 _ A27.out).mono ?_
                            rintro e w48 ⟨v488, rfl, ho0, hb⟩
                            refine ⟨_, rfl, ?_⟩
                            have n0_ := Aside0.mk (Kd.R_lower ho0 (below_size (by repeat (first | (with_reducible first | exact HB.out | apply below_alloc | apply pw_below_drewN | apply below_drew1 | refine below_set ?_ GE454.out | refine below_set ?_ GE460.out | refine below_set ?_ GE466.out) | exact HB.out))))
                            have n1_ := Aside0.mk (blk_below (g := gb454) (o := .cells #[.int .u64 t449, .int .u64 t450, .int .u64 t451, .int .u64 t452] 24 (0, 0)) (by (with_reducible repeat (first | refine blk_drewN ?_ _ | refine blk_drew ?_ | refine blk_alloc ?_ _)); exact BK454.out) hb)
                            have n2_ := Aside0.mk (blk_below (g := gb460) (o := .cells #[.int .u64 t455, .int .u64 t456, .int .u64 t457, .int .u64 t458] 24 (0, 0)) (by (with_reducible repeat (first | refine blk_drewN ?_ _ | refine blk_drew ?_ | refine blk_alloc ?_ _)); exact BK460.out) hb)
                            have n3_ := Aside0.mk (blk_below (g := gb466) (o := .cells #[.int .u64 t461, .int .u64 t462, .int .u64 t463, .int .u64 t464] 24 (0, 0)) (by (with_reducible repeat (first | refine blk_drewN ?_ _ | refine blk_drew ?_ | refine blk_alloc ?_ _)); exact BK466.out) hb)
                            have n4_ := Aside0.mk (below_step (by repeat (first | (with_reducible first | exact HB.out | apply below_alloc | apply pw_below_drewN | apply below_drew1 | refine below_set ?_ GE454.out | refine below_set ?_ GE460.out | refine below_set ?_ GE466.out) | exact HB.out)) hb)
                            clear BK454
                            clear BK460
                            clear BK466
                            clear HB
                            have HO489 := n0_
                            have BK454 := n1_
                            have BK460 := n2_
                            have BK466 := n3_
                            have HB := n4_
                            clear n0_ n1_ n2_ n3_ n4_
                            (try clear hb)
                            (try clear hb2)
                            (try clear hk)
                            (try clear hi)
                            (try clear ho0)
                            refine hK.out _ _ ⟨(blk_cell BK460.out 0).trans rfl, (blk_cell BK460.out 1).trans rfl, (blk_cell BK460.out 2).trans rfl, (blk_cell BK460.out 3).trans rfl, (blk_cell BK466.out 0).trans rfl, (blk_cell BK466.out 1).trans rfl, (blk_cell BK466.out 2).trans rfl, (blk_cell BK466.out 3).trans rfl, (blk_cell BK454.out 0).trans rfl, (blk_cell BK454.out 1).trans rfl, (blk_cell BK454.out 2).trans rfl, (blk_cell BK454.out 3).trans rfl⟩ (fun hHeld => ?_)
                            clear hK K
                            refine norm_ (a' := ?_) ?_ ?_
                            rotate_left
                            · show Act.put _ (some 89) _ = _
                              simp only [Act.put, List.setIfInBounds_toArray, List.set_cons_zero, List.set_cons_succ, i64_w, i32_w]
                              rfl
                            refine one_ (i := 42) (N := some 93) #[true, true, true, true, true, true, true, true, true, true, true, true, true, true, true, true, true, true, true, true, true, true, true, true, true, true, true, true, true, true, true, true, true, true, true, true, true, true, true, true, true, true, true, false, false, false] rfl rfl (one_of HT_.out (by kernel_rfl)) (by decide) (fun K hK => ?_)
                            refine Kd.R_lit_step k40 _ 40 ?hg (N := 93) ?hd (xs := ([(⟨(Go.bits .and .i64 a0 255), (Go.bits .and .i64 a1 255)⟩ : S40)] : List (S40))) (inner := [.int .i64 (Go.bits .and .i64 a0 255), .int .i64 (Go.bits .and .i64 a1 255)]) (ok := fun _ => True) (okp := fun _ => True) ?hr ?hp (fun _ hk => hk) trivial (Below.refl _ _) (Nat.le_refl _) (by simp) ?_; (case hd => rfl); (case hg => rfl); (case hr => first | (go_simp; done) | (go_simp; rfl)); (case hp => exact (Reps.c2 (show Kd.M k40 _ _ _ (⟨(Go.bits .and .i64 a0 255), (Go.bits .and .i64 a1 255)⟩ : S40) [.int .i64 (Go.bits .and .i64 a0 255), .int .i64 (Go.bits .and .i64 a1 255)] from (k40_mkM _ _ _ (⟨(Go.bits .and .i64 a0 255), (Go.bits .and .i64 a1 255)⟩ : S40) )) (Reps.none _ _)))
                            intro v491 w49 ho50 hb hg_ hnew_
                            clear hg_ hnew_
                            (first | rw [← Ny490.out] at ho50 | (simp only [Int.reduceToNat] at ho50; rw [← Ny490.out] at ho50))
                            have n0_ := Aside0.mk (Kd.R_elder' (by (with_reducible repeat (first | apply Kd.R_alloc | apply Kd.R_drewN | apply Kd.R_drew)); exact HO489.out) (Kd.R_base ho50) hb)
                            have n1_ := Aside0.mk (Kd.R_lower (Kd.R_new' ho50 (Kd.R_lt (by (with_reducible repeat (first | apply Kd.R_alloc | apply Kd.R_drewN | apply Kd.R_drew)); exact HO489.out))) (below_size (by repeat (first | (with_reducible first | exact HB.out | apply below_alloc | apply pw_below_drewN | apply below_drew1 | refine below_set ?_ GE454.out | refine below_set ?_ GE460.out | refine below_set ?_ GE466.out) | exact HB.out))))
                            have n2_ := Aside0.mk (blk_below (g := gb454) (o := .cells #[.int .u64 t449, .int .u64 t450, .int .u64 t451, .int .u64 t452] 24 (0, 0)) (by (with_reducible repeat (first | refine blk_drewN ?_ _ | refine blk_drew ?_ | refine blk_alloc ?_ _)); exact BK454.out) hb)
                            have n3_ := Aside0.mk (blk_below (g := gb460) (o := .cells #[.int .u64 t455, .int .u64 t456, .int .u64 t457, .int .u64 t458] 24 (0, 0)) (by (with_reducible repeat (first | refine blk_drewN ?_ _ | refine blk_drew ?_ | refine blk_alloc ?_ _)); exact BK460.out) hb)
                            have n4_ := Aside0.mk (blk_below (g := gb466) (o := .cells #[.int .u64 t461, .int .u64 t462, .int .u64 t463, .int .u64 t464] 24 (0, 0)) (by (with_reducible repeat (first | refine blk_drewN ?_ _ | refine blk_drew ?_ | refine blk_alloc ?_ _)); exact BK466.out) hb)
                            have n5_ := Aside0.mk (below_step (by repeat (first | (with_reducible first | exact HB.out | apply below_alloc | apply pw_below_drewN | apply below_drew1 | refine below_set ?_ GE454.out | refine below_set ?_ GE460.out | refine below_set ?_ GE466.out) | exact HB.out)) hb)
                            clear HO489
                            clear BK454
                            clear BK460
                            clear BK466
                            clear HB
                            have HO489 := n0_
                            have HO492 := n1_
                            have BK454 := n2_
                            have BK460 := n3_
                            have BK466 := n4_
                            have HB := n5_
                            clear n0_ n1_ n2_ n3_ n4_ n5_
                            clear hb ho50
                            refine hK.out _ _ ⟨(blk_cell BK460.out 0).trans rfl, (blk_cell BK460.out 1).trans rfl, (blk_cell BK460.out 2).trans rfl, (blk_cell BK460.out 3).trans rfl, (blk_cell BK466.out 0).trans rfl, (blk_cell BK466.out 1).trans rfl, (blk_cell BK466.out 2).trans rfl, (blk_cell BK466.out 3).trans rfl, (blk_cell BK454.out 0).trans rfl, (blk_cell BK454.out 1).trans rfl, (blk_cell BK454.out 2).trans rfl, (blk_cell BK454.out 3).trans rfl⟩ (fun hHeld => ?_)
                            clear hK K
                            refine norm_ (a' := ?_) ?_ ?_
                            rotate_left
                            · show Act.put _ (some 93) _ = _
                              simp only [Act.put, List.setIfInBounds_toArray, List.set_cons_zero, List.set_cons_succ, i64_w, i32_w]
                              rfl
                            exact norm_ (by simp only [putAll, Act.put, List.setIfInBounds_toArray, List.set_cons_zero, List.set_cons_succ]) (hCont (v488, v491) _ ⟨hHeld, (by (with_reducible repeat (first | apply Kd.R_alloc | apply Kd.R_drewN | apply Kd.R_drew)); exact Kd.R_mono HO489.out (fun _ hk => hk.2)), (by (with_reducible repeat (first | apply Kd.R_alloc | apply Kd.R_drewN | apply Kd.R_drew)); exact Kd.R_mono HO492.out (fun _ hk => hk.2)), (by (with_reducible repeat (first | refine blk_drewN ?_ _ | refine blk_drew ?_ | refine blk_alloc ?_ _)); exact BK454.out), (by (with_reducible repeat (first | refine blk_drewN ?_ _ | refine blk_drew ?_ | refine blk_alloc ?_ _)); exact BK460.out), (by (with_reducible repeat (first | refine blk_drewN ?_ _ | refine blk_drew ?_ | refine blk_alloc ?_ _)); exact BK466.out), (by repeat (first | (with_reducible first | exact HB.out | apply below_alloc | apply pw_below_drewN | apply below_drew1 | refine below_set ?_ GE454.out | refine below_set ?_ GE460.out | refine below_set ?_ GE466.out) | exact HB.out))⟩)
                          · skip
                            refine Kd.R_lit_step k40 _ 40 ?hg (N := 93) ?hd (xs := ([(⟨(Go.bits .and .i64 a0 255), (Go.bits .and .i64 a1 255)⟩ : S40)] : List (S40))) (inner := [.int .i64 (Go.bits .and .i64 a0 255), .int .i64 (Go.bits .and .i64 a1 255)]) (ok := fun _ => True) (okp := fun _ => True) ?hr ?hp (fun _ hk => hk) trivial (Below.refl _ _) (Nat.le_refl _) (by simp) ?_; (case hd => rfl); (case hg => rfl); (case hr => first | (go_simp; done) | (go_simp; rfl)); (case hp => exact (Reps.c2 (show Kd.M k40 _ _ _ (⟨(Go.bits .and .i64 a0 255), (Go.bits .and .i64 a1 255)⟩ : S40) [.int .i64 (Go.bits .and .i64 a0 255), .int .i64 (Go.bits .and .i64 a1 255)] from (k40_mkM _ _ _ (⟨(Go.bits .and .i64 a0 255), (Go.bits .and .i64 a1 255)⟩ : S40) )) (Reps.none _ _)))
                            intro v491 w48 ho49 hb hg_ hnew_
                            clear hg_ hnew_
                            (first | rw [← Ny490.out] at ho49 | (simp only [Int.reduceToNat] at ho49; rw [← Ny490.out] at ho49))
                            have n0_ := Aside0.mk (Kd.R_lower ho49 (below_size (by repeat (first | (with_reducible first | exact HB.out | apply below_alloc | apply pw_below_drewN | apply below_drew1 | refine below_set ?_ GE454.out | refine below_set ?_ GE460.out | refine below_set ?_ GE466.out) | exact HB.out))))
                            have n1_ := Aside0.mk (blk_below (g := gb454) (o := .cells #[.int .u64 t449, .int .u64 t450, .int .u64 t451, .int .u64 t452] 24 (0, 0)) (by (with_reducible repeat (first | refine blk_drewN ?_ _ | refine blk_drew ?_ | refine blk_alloc ?_ _)); exact BK454.out) hb)
                            have n2_ := Aside0.mk (blk_below (g := gb460) (o := .cells #[.int .u64 t455, .int .u64 t456, .int .u64 t457, .int .u64 t458] 24 (0, 0)) (by (with_reducible repeat (first | refine blk_drewN ?_ _ | refine blk_drew ?_ | refine blk_alloc ?_ _)); exact BK460.out) hb)
                            have n3_ := Aside0.mk (blk_below (g := gb466) (o := .cells #[.int .u64 t461, .int .u64 t462, .int .u64 t463, .int .u64 t464] 24 (0, 0)) (by (with_reducible repeat (first | refine blk_drewN ?_ _ | refine blk_drew ?_ | refine blk_alloc ?_ _)); exact BK466.out) hb)
                            have n4_ := Aside0.mk (below_step (by repeat (first | (with_reducible first | exact HB.out | apply below_alloc | apply pw_below_drewN | apply below_drew1 | refine below_set ?_ GE454.out | refine below_set ?_ GE460.out | refine below_set ?_ GE466.out) | exact HB.out)) hb)
                            clear BK454
                            clear BK460
                            clear BK466
                            clear HB
                            have HO492 := n0_
                            have BK454 := n1_
                            have BK460 := n2_
                            have BK466 := n3_
                            have HB := n4_
                            clear n0_ n1_ n2_ n3_ n4_
                            clear hb ho49
                            refine hK.out _ _ ⟨(blk_cell BK460.out 0).trans rfl, (blk_cell BK460.out 1).trans rfl, (blk_cell BK460.out 2).trans rfl, (blk_cell BK460.out 3).trans rfl, (blk_cell BK466.out 0).trans rfl, (blk_cell BK466.out 1).trans rfl, (blk_cell BK466.out 2).trans rfl, (blk_cell BK466.out 3).trans rfl, (blk_cell BK454.out 0).trans rfl, (blk_cell BK454.out 1).trans rfl, (blk_cell BK454.out 2).trans rfl, (blk_cell BK454.out 3).trans rfl⟩ (fun hHeld => ?_)
                            clear hK K
                            refine norm_ (a' := ?_) ?_ ?_
                            rotate_left
                            · show Act.put _ (some 93) _ = _
                              simp only [Act.put, List.setIfInBounds_toArray, List.set_cons_zero, List.set_cons_succ, i64_w, i32_w]
                              rfl
                            refine one_ (i := 38) (N := some 89) #[true, true, true, true, true, true, true, true, true, true, true, true, true, true, true, true, true, true, true, true, true, true, true, true, true, true, true, true, true, true, true, true, true, true, true, true, true, true, true, true, true, true, true, false, false, false] rfl rfl (one_of HT_.out (by kernel_rfl)) (by decide) (fun K hK => ?_)
                            refine goes_ Try.func22 (by kernel_rfl) rfl #[.agg #[.int .u64 t483, .int .u64 t484, .int .u64 t485, .int .u64 t486]] (by rfl) rfl rfl (by (try simp only [List.map_toArray, List.map_cons, List.map_nil]); first | done | rfl | (simp only [List.length_drop, List.length_take]; rfl)) ?_
                            with_reducible refine (byteset_Ranges.calls kj5 t483 t484 t485 t486 t487 _ A27.out).mono ?_
                            rintro e w50 ⟨v488, rfl, ho0, hb⟩
                            refine ⟨_, rfl, ?_⟩
                            have n0_ := Aside0.mk (Kd.R_elder' (by (with_reducible repeat (first | apply Kd.R_alloc | apply Kd.R_drewN | apply Kd.R_drew)); exact HO492.out) (Kd.R_base ho0) hb)
                            have n1_ := Aside0.mk (Kd.R_lower (Kd.R_new' ho0 (Kd.R_lt (by (with_reducible repeat (first | apply Kd.R_alloc | apply Kd.R_drewN | apply Kd.R_drew)); exact HO492.out))) (below_size (by repeat (first | (with_reducible first | exact HB.out | apply below_alloc | apply pw_below_drewN | apply below_drew1 | refine below_set ?_ GE454.out | refine below_set ?_ GE460.out | refine below_set ?_ GE466.out) | exact HB.out))))
                            have n2_ := Aside0.mk (blk_below (g := gb454) (o := .cells #[.int .u64 t449, .int .u64 t450, .int .u64 t451, .int .u64 t452] 24 (0, 0)) (by (with_reducible repeat (first | refine blk_drewN ?_ _ | refine blk_drew ?_ | refine blk_alloc ?_ _)); exact BK454.out) hb)
                            have n3_ := Aside0.mk (blk_below (g := gb460) (o := .cells #[.int .u64 t455, .int .u64 t456, .int .u64 t457, .int .u64 t458] 24 (0, 0)) (by (with_reducible repeat (first | refine blk_drewN ?_ _ | refine blk_drew ?_ | refine blk_alloc ?_ _)); exact BK460.out) hb)
                            have n4_ := Aside0.mk (blk_below (g := gb466) (o := .cells #[.int .u64 t461, .int .u64 t462, .int .u64 t463, .int .u64 t464] 24 (0, 0)) (by (with_reducible repeat (first | refine blk_drewN ?_ _ | refine blk_drew ?_ | refine blk_alloc ?_ _)); exact BK466.out) hb)
                            have n5_ := Aside0.mk (below_step (by repeat (first | (with_reducible first | exact HB.out | apply below_alloc | apply pw_below_drewN | apply below_drew1 | refine below_set ?_ GE454.out | refine below_set ?_ GE460.out | refine below_set ?_ GE466.out) | exact HB.out)) hb)
                            clear HO492
                            clear BK454
                            clear BK460
                            clear BK466
                            clear HB
                            have HO492 := n0_
                            have HO489 := n1_
                            have BK454 := n2_
                            have BK460 := n3_
                            have BK466 := n4_
                            have HB := n5_
                            clear n0_ n1_ n2_ n3_ n4_ n5_
                            (try clear hb)
                            (try clear hb2)
                            (try clear hk)
                            (try clear hi)
                            (try clear ho0)
                            refine hK.out _ _ ⟨(blk_cell BK460.out 0).trans rfl, (blk_cell BK460.out 1).trans rfl, (blk_cell BK460.out 2).trans rfl, (blk_cell BK460.out 3).trans rfl, (blk_cell BK466.out 0).trans rfl, (blk_cell BK466.out 1).trans rfl, (blk_cell BK466.out 2).trans rfl, (blk_cell BK466.out 3).trans rfl, (blk_cell BK454.out 0).trans rfl, (blk_cell BK454.out 1).trans rfl, (blk_cell BK454.out 2).trans rfl, (blk_cell BK454.out 3).trans rfl⟩ (fun hHeld => ?_)
                            clear hK K
                            refine norm_ (a' := ?_) ?_ ?_
                            rotate_left
                            · show Act.put _ (some 89) _ = _
                              simp only [Act.put, List.setIfInBounds_toArray, List.set_cons_zero, List.set_cons_succ, i64_w, i32_w]
                              rfl
                            exact norm_ (by simp only [putAll, Act.put, List.setIfInBounds_toArray, List.set_cons_zero, List.set_cons_succ]) (hCont (v488, v491) _ ⟨hHeld, (by (with_reducible repeat (first | apply Kd.R_alloc | apply Kd.R_drewN | apply Kd.R_drew)); exact Kd.R_mono HO489.out (fun _ hk => hk.2)), (by (with_reducible repeat (first | apply Kd.R_alloc | apply Kd.R_drewN | apply Kd.R_drew)); exact Kd.R_mono HO492.out (fun _ hk => hk.2)), (by (with_reducible repeat (first | refine blk_drewN ?_ _ | refine blk_drew ?_ | refine blk_alloc ?_ _)); exact BK454.out), (by (with_reducible repeat (first | refine blk_drewN ?_ _ | refine blk_drew ?_ | refine blk_alloc ?_ _)); exact BK460.out), (by (with_reducible repeat (first | refine blk_drewN ?_ _ | refine blk_drew ?_ | refine blk_alloc ?_ _)); exact BK466.out), (by repeat (first | (with_reducible first | exact HB.out | apply below_alloc | apply pw_below_drewN | apply below_drew1 | refine below_set ?_ GE454.out | refine below_set ?_ GE460.out | refine below_set ?_ GE466.out) | exact HB.out))⟩)
                        · skip
                          refine Kd.R_lit_step k40 _ 40 ?hg (N := 93) ?hd (xs := ([(⟨(Go.bits .and .i64 a0 255), (Go.bits .and .i64 a1 255)⟩ : S40)] : List (S40))) (inner := [.int .i64 (Go.bits .and .i64 a0 255), .int .i64 (Go.bits .and .i64 a1 255)]) (ok := fun _ => True) (okp := fun _ => True) ?hr ?hp (fun _ hk => hk) trivial (Below.refl _ _) (Nat.le_refl _) (by simp) ?_; (case hd => rfl); (case hg => rfl); (case hr => first | (go_simp; done) | (go_simp; rfl)); (case hp => exact (Reps.c2 (show Kd.M k40 _ _ _ (⟨(Go.bits .and .i64 a0 255), (Go.bits .and .i64 a1 255)⟩ : S40) [.int .i64 (Go.bits .and .i64 a0 255), .int .i64 (Go.bits .and .i64 a1 255)] from (k40_mkM _ _ _ (⟨(Go.bits .and .i64 a0 255), (Go.bits .and .i64 a1 255)⟩ : S40) )) (Reps.none _ _)))
                          intro v491 w47 ho48 hb hg_ hnew_
                          clear hg_ hnew_
                          (first | rw [← Ny490.out] at ho48 | (simp only [Int.reduceToNat] at ho48; rw [← Ny490.out] at ho48))
                          have n0_ := Aside0.mk (Kd.R_lower ho48 (below_size (by repeat (first | (with_reducible first | exact HB.out | apply below_alloc | apply pw_below_drewN | apply below_drew1 | refine below_set ?_ GE454.out | refine below_set ?_ GE460.out | refine below_set ?_ GE466.out) | exact HB.out))))
                          have n1_ := Aside0.mk (blk_below (g := gb454) (o := .cells #[.int .u64 t449, .int .u64 t450, .int .u64 t451, .int .u64 t452] 24 (0, 0)) (by (with_reducible repeat (first | refine blk_drewN ?_ _ | refine blk_drew ?_ | refine blk_alloc ?_ _)); exact BK454.out) hb)
                          have n2_ := Aside0.mk (blk_below (g := gb460) (o := .cells #[.int .u64 t455, .int .u64 t456, .int .u64 t457, .int .u64 t458] 24 (0, 0)) (by (with_reducible repeat (first | refine blk_drewN ?_ _ | refine blk_drew ?_ | refine blk_alloc ?_ _)); exact BK460.out) hb)
                          have n3_ := Aside0.mk (blk_below (g := gb466) (o := .cells #[.int .u64 t461, .int .u64 t462, .int .u64 t463, .int .u64 t464] 24 (0, 0)) (by (with_reducible repeat (first | refine blk_drewN ?_ _ | refine blk_drew ?_ | refine blk_alloc ?_ _)); exact BK466.out) hb)
                          have n4_ := Aside0.mk (below_step (by repeat (first | (with_reducible first | exact HB.out | apply below_alloc | apply pw_below_drewN | apply below_drew1 | refine below_set ?_ GE454.out | refine below_set ?_ GE460.out | refine below_set ?_ GE466.out) | exact HB.out)) hb)
                          clear BK454
                          clear BK460
                          clear BK466
                          clear HB
                          have HO492 := n0_
                          have BK454 := n1_
                          have BK460 := n2_
                          have BK466 := n3_
                          have HB := n4_
                          clear n0_ n1_ n2_ n3_ n4_
                          clear hb ho48
                          refine hK.out _ _ ⟨(blk_cell BK460.out 0).trans rfl, (blk_cell BK460.out 1).trans rfl, (blk_cell BK460.out 2).trans rfl, (blk_cell BK460.out 3).trans rfl, (blk_cell BK466.out 0).trans rfl, (blk_cell BK466.out 1).trans rfl, (blk_cell BK466.out 2).trans rfl, (blk_cell BK466.out 3).trans rfl, (blk_cell BK454.out 0).trans rfl, (blk_cell BK454.out 1).trans rfl, (blk_cell BK454.out 2).trans rfl, (blk_cell BK454.out 3).trans rfl⟩ (fun hHeld => ?_)
                          clear hK K
                          refine norm_ (a' := ?_) ?_ ?_
                          rotate_left
                          · show Act.put _ (some 93) _ = _
                            simp only [Act.put, List.setIfInBounds_toArray, List.set_cons_zero, List.set_cons_succ, i64_w, i32_w]
                            rfl
                          refine one_ (i := 37) (N := some 88) #[true, true, true, true, true, true, true, true, true, true, true, true, true, true, true, true, true, true, true, true, true, true, true, true, true, true, true, true, true, true, true, true, true, true, true, true, true, true, false, true, true, true, true, false, false, false] rfl rfl (one_of HT_.out (by kernel_rfl)) (by decide) (fun K hK => ?_)
                          refine goes_ Try.func15 (by kernel_rfl) rfl #[.agg #[.int .u64 t461, .int .u64 t462, .int .u64 t463, .int .u64 t464], .agg #[.int .u64 t455, .int .u64 t456, .int .u64 t457, .int .u64 t458]] (by rfl) rfl rfl (by (try simp only [List.map_toArray, List.map_cons, List.map_nil]); first | done | rfl | (simp only [List.length_drop, List.length_take]; rfl)) ?_
                          with_reducible refine (byteset_Or.calls t461 t462 t463 t464 t455 t456 t457 t458 t483 t484 t485 t486 _ A26.out).mono ?_
                          rintro e w49 ⟨rfl, hb⟩
                          refine ⟨_, rfl, ?_⟩
                          have n0_ := Aside0.mk (Kd.R_below (by (with_reducible repeat (first | apply Kd.R_alloc | apply Kd.R_drewN | apply Kd.R_drew)); exact HO492.out) hb)
                          have n1_ := Aside0.mk (blk_below (g := gb454) (o := .cells #[.int .u64 t449, .int .u64 t450, .int .u64 t451, .int .u64 t452] 24 (0, 0)) (by (with_reducible repeat (first | refine blk_drewN ?_ _ | refine blk_drew ?_ | refine blk_alloc ?_ _)); exact BK454.out) hb)
                          have n2_ := Aside0.mk (blk_below (g := gb460) (o := .cells #[.int .u64 t455, .int .u64 t456, .int .u64 t457, .int .u64 t458] 24 (0, 0)) (by (with_reducible repeat (first | refine blk_drewN ?_ _ | refine blk_drew ?_ | refine blk_alloc ?_ _)); exact BK460.out) hb)
                          have n3_ := Aside0.mk (blk_below (g := gb466) (o := .cells #[.int .u64 t461, .int .u64 t462, .int .u64 t463, .int .u64 t464] 24 (0, 0)) (by (with_reducible repeat (first | refine blk_drewN ?_ _ | refine blk_drew ?_ | refine blk_alloc ?_ _)); exact BK466.out) hb)
                          have n4_ := Aside0.mk (below_step (by repeat (first | (with_reducible first | exact HB.out | apply below_alloc | apply pw_below_drewN | apply below_drew1 | refine below_set ?_ GE454.out | refine below_set ?_ GE460.out | refine below_set ?_ GE466.out) | exact HB.out)) hb)
                          clear HO492
                          clear BK454
                          clear BK460
                          clear BK466
                          clear HB
                          have HO492 := n0_
                          have BK454 := n1_
                          have BK460 := n2_
                          have BK466 := n3_
                          have HB := n4_
                          clear n0_ n1_ n2_ n3_ n4_
                          (try clear hb)
                          (try clear hb2)
                          (try clear hk)
                          (try clear hi)
                          refine hK.out _ _ ⟨(blk_cell BK460.out 0).trans rfl, (blk_cell BK460.out 1).trans rfl, (blk_cell BK460.out 2).trans rfl, (blk_cell BK460.out 3).trans rfl, (blk_cell BK466.out 0).trans rfl, (blk_cell BK466.out 1).trans rfl, (blk_cell BK466.out 2).trans rfl, (blk_cell BK466.out 3).trans rfl, (blk_cell BK454.out 0).trans rfl, (blk_cell BK454.out 1).trans rfl, (blk_cell BK454.out 2).trans rfl, (blk_cell BK454.out 3).trans rfl⟩ (fun hHeld => ?_)
                          clear hK K
                          refine norm_ (a' := ?_) ?_ ?_
                          rotate_left
                          · show Act.put _ (some 88) _ = _
                            simp only [Act.put, List.setIfInBounds_toArray, List.set_cons_zero, List.set_cons_succ, i64_w, i32_w]
                            rfl
                          refine one_ (i := 38) (N := some 89) #[true, true, true, true, true, true, true, true, true, true, true, true, true, true, true, true, true, true, true, true, true, true, true, true, true, true, true, true, true, true, true, true, true, true, true, true, true, true, true, true, true, true, true, false, false, false] rfl rfl (one_of HT_.out (by kernel_rfl)) (by decide) (fun K hK => ?_)
                          refine goes_ Try.func22 (by kernel_rfl) rfl #[.agg #[.int .u64 t483, .int .u64 t484, .int .u64 t485, .int .u64 t486]] (by rfl) rfl rfl (by (try simp only [List.map_toArray, List.map_cons, List.map_nil]); first | done | rfl | (simp only [List.length_drop, List.length_take]; rfl)) ?_
                          with_reducible refine (byteset_Ranges.calls kj5 t483 t484 t485 t486 t487 _ A27.out).mono ?_
                          rintro e w50 ⟨v488, rfl, ho0, hb⟩
                          refine ⟨_, rfl, ?_⟩
                          have n0_ := Aside0.mk (Kd.R_elder' (by (with_reducible repeat (first | apply Kd.R_alloc | apply Kd.R_drewN | apply Kd.R_drew)); exact HO492.out) (Kd.R_base ho0) hb)
                          have n1_ := Aside0.mk (Kd.R_lower (Kd.R_new' ho0 (Kd.R_lt (by (with_reducible repeat (first | apply Kd.R_alloc | apply Kd.R_drewN | apply Kd.R_drew)); exact HO492.out))) (below_size (by repeat (first | (with_reducible first | exact HB.out | apply below_alloc | apply pw_below_drewN | apply below_drew1 | refine below_set ?_ GE454.out | refine below_set ?_ GE460.out | refine below_set ?_ GE466.out) | exact HB.out))))
                          have n2_ := Aside0.mk (blk_below (g := gb454) (o := .cells #[.int .u64 t449, .int .u64 t450, .int .u64 t451, .int .u64 t452] 24 (0, 0)) (by (with_reducible repeat (first | refine blk_drewN ?_ _ | refine blk_drew ?_ | refine blk_alloc ?_ _)); exact BK454.out) hb)
                          have n3_ := Aside0.mk (blk_below (g := gb460) (o := .cells #[.int .u64 t455, .int .u64 t456, .int .u64 t457, .int .u64 t458] 24 (0, 0)) (by (with_reducible repeat (first | refine blk_drewN ?_ _ | refine blk_drew ?_ | refine blk_alloc ?_ _)); exact BK460.out) hb)
                          have n4_ := Aside0.mk (blk_below (g := gb466) (o := .cells #[.int .u64 t461, .int .u64 t462, .int .u64 t463, .int .u64 t464] 24 (0, 0)) (by (with_reducible repeat (first | refine blk_drewN ?_ _ | refine blk_drew ?_ | refine blk_alloc ?_ _)); exact BK466.out) hb)
                          have n5_ := Aside0.mk (below_step (by repeat (first | (with_reducible first | exact HB.out | apply below_alloc | apply pw_below_drewN | apply below_drew1 | refine below_set ?_ GE454.out | refine below_set ?_ GE460.out | refine below_set ?_ GE466.out) | exact HB.out)) hb)
                          clear HO492
                          clear BK454
                          clear BK460
                          clear BK466
                          clear HB
                          have HO492 := n0_
                          have HO489 := n1_
                          have BK454 := n2_
                          have BK460 := n3_
                          have BK466 := n4_
                          have HB := n5_
                          clear n0_ n1_ n2_ n3_ n4_ n5_
                          (try clear hb)
                          (try clear hb2)
                          (try clear hk)
                          (try clear hi)
                          (try clear ho0)
                          refine hK.out _ _ ⟨(blk_cell BK460.out 0).trans rfl, (blk_cell BK460.out 1).trans rfl, (blk_cell BK460.out 2).trans rfl, (blk_cell BK460.out 3).trans rfl, (blk_cell BK466.out 0).trans rfl, (blk_cell BK466.out 1).trans rfl, (blk_cell BK466.out 2).trans rfl, (blk_cell BK466.out 3).trans rfl, (blk_cell BK454.out 0).trans rfl, (blk_cell BK454.out 1).trans rfl, (blk_cell BK454.out 2).trans rfl, (blk_cell BK454.out 3).trans rfl⟩ (fun hHeld => ?_)
                          clear hK K
                          refine norm_ (a' := ?_) ?_ ?_
                          rotate_left
                          · show Act.put _ (some 89) _ = _
                            simp only [Act.put, List.setIfInBounds_toArray, List.set_cons_zero, List.set_cons_succ, i64_w, i32_w]
                            rfl
                          exact norm_ (by simp only [putAll, Act.put, List.setIfInBounds_toArray, List.set_cons_zero, List.set_cons_succ]) (hCont (v488, v491) _ ⟨hHeld, (by (with_reducible repeat (first | apply Kd.R_alloc | apply Kd.R_drewN | apply Kd.R_drew)); exact Kd.R_mono HO489.out (fun _ hk => hk.2)), (by (with_reducible repeat (first | apply Kd.R_alloc | apply Kd.R_drewN | apply Kd.R_drew)); exact Kd.R_mono HO492.out (fun _ hk => hk.2)), (by (with_reducible repeat (first | refine blk_drewN ?_ _ | refine blk_drew ?_ | refine blk_alloc ?_ _)); exact BK454.out), (by (with_reducible repeat (first | refine blk_drewN ?_ _ | refine blk_drew ?_ | refine blk_alloc ?_ _)); exact BK460.out), (by (with_reducible repeat (first | refine blk_drewN ?_ _ | refine blk_drew ?_ | refine blk_alloc ?_ _)); exact BK466.out), (by repeat (first | (with_reducible first | exact HB.out | apply below_alloc | apply pw_below_drewN | apply below_drew1 | refine below_set ?_ GE454.out | refine below_set ?_ GE460.out | refine below_set ?_ GE466.out) | exact HB.out))⟩)
                      rintro ⟨v488, v491⟩ w51 ⟨hS_, h0_, h1_, h2_, h3_, h4_, h5_⟩
                      have n0_ : Aside0 (Kd.R k40 40 w51 w.heap.size (fun k_ => some k_ ≠ (v491 : Value).ownBlock) v488 t487) := ⟨h0_⟩
                      have n1_ : Aside0 (Kd.R k40 40 w51 w.heap.size (fun k_ => some k_ ≠ (v488 : Value).ownBlock) v491 y490) := ⟨h1_⟩
                      have n2_ : Aside0 (w51.heap[gb454]? = some (.cells #[.int .u64 t449, .int .u64 t450, .int .u64 t451, .int .u64 t452] 24 (0, 0))) := ⟨h2_⟩
                      have n3_ : Aside0 (w51.heap[gb460]? = some (.cells #[.int .u64 t455, .int .u64 t456, .int .u64 t457, .int .u64 t458] 24 (0, 0))) := ⟨h3_⟩
                      have n4_ : Aside0 (w51.heap[gb466]? = some (.cells #[.int .u64 t461, .int .u64 t462, .int .u64 t463, .int .u64 t464] 24 (0, 0))) := ⟨h4_⟩
                      have n5_ : Aside0 (Below w.heap.size w w51) := ⟨h5_⟩
                      clear BK454
                      clear BK460
                      clear BK466
                      clear HB
                      clear h0_ h1_ h2_ h3_ h4_ h5_
                      have HO489 := n0_
                      have HO492 := n1_
                      have BK454 := n2_
                      have BK460 := n3_
                      have BK466 := n4_
                      have HB := n5_
                      clear n0_ n1_ n2_ n3_ n4_ n5_
                      have hHeld : w51.cell? ⟨gb460, 0, none⟩ = some (.int .u64 t455) ∧ w51.cell? ⟨gb460, 1, none⟩ = some (.int .u64 t456) ∧ w51.cell? ⟨gb460, 2, none⟩ = some (.int .u64 t457) ∧ w51.cell? ⟨gb460, 3, none⟩ = some (.int .u64 t458) ∧ w51.cell? ⟨gb466, 0, none⟩ = some (.int .u64 t461) ∧ w51.cell? ⟨gb466, 1, none⟩ = some (.int .u64 t462) ∧ w51.cell? ⟨gb466, 2, none⟩ = some (.int .u64 t463) ∧ w51.cell? ⟨gb466, 3, none⟩ = some (.int .u64 t464) ∧ w51.cell? ⟨gb454, 0, none⟩ = some (.int .u64 t449) ∧ w51.cell? ⟨gb454, 1, none⟩ = some (.int .u64 t450) ∧ w51.cell? ⟨gb454, 2, none⟩ = some (.int .u64 t451) ∧ w51.cell? ⟨gb454, 3, none⟩ = some (.int .u64 t452) := hS_
                      obtain ⟨Ao52, co52, eo52⟩ := Kd.R_slice HO489.out
                      (first | subst eo52 | (injection eo52 with f1_ f2_ f3_; have f4_ := f1_.symm; have f5_ := f3_.symm; clear f1_ f2_ f3_; subst f4_; subst f5_))
                      obtain ⟨Ao53, co53, eo53⟩ := Kd.R_slice HO492.out
                      (first | subst eo53 | (injection eo53 with f1_ f2_ f3_; have f4_ := f1_.symm; have f5_ := f3_.symm; clear f1_ f2_ f3_; subst f4_; subst f5_))
                      refine norm_ (a' := ?_) ?_ ?_
                      rotate_left
                      · simp only [putAll, Act.put, List.setIfInBounds_toArray, List.set_cons_zero, List.set_cons_succ]
                        rfl
                      refine one_ (i := 43) (N := some 94) #[true, true, true, true, true, true, true, true, true, true, true, true, true, true, true, true, true, true, true, true, true, true, true, true, true, true, true, true, true, true, true, true, true, true, true, true, true, true, true, true, true, true, true, true, false, false] rfl rfl (one_of HT_.out (by kernel_rfl)) (by decide) (fun K hK => ?_)
                      refine goes_ Try.func21 (by kernel_rfl) rfl #[.slice Ao52 t487.length co52, .slice Ao53 y490.length co53] (by rfl) rfl rfl (by (try simp only [List.map_toArray, List.map_cons, List.map_nil]); first | done | rfl | (simp only [List.length_drop, List.length_take]; rfl)) ?_
                      with_reducible refine (templelaw0_SameEnds.calls kj5 _ _ t487 _ _ y490 t493 _ ?side1 ?side2 ?side3 ?side4 A28.out).mono ?_
                      (case side1 => repeat (first | exact (Kd.R_reads' HO489.out).2.2 | (with_reducible refine Kd.C_alloc ?_ _) | (with_reducible refine Kd.C_drewN ?_ _) | (with_reducible refine Kd.C_drew ?_)))
                      (case side2 => exact (Kd.R_reads' HO489.out).2.1)
                      (case side3 => repeat (first | exact (Kd.R_reads' HO492.out).2.2 | (with_reducible refine Kd.C_alloc ?_ _) | (with_reducible refine Kd.C_drewN ?_ _) | (with_reducible refine Kd.C_drew ?_)))
                      (case side4 => exact (Kd.R_reads' HO492.out).2.1)
                      rintro e w' ⟨rfl, ⟨nd, rfl⟩⟩
                      refine ⟨_, rfl, ?_⟩
                      refine hK.out _ _ ⟨(blk_cell BK460.out 0).trans rfl, (blk_cell BK460.out 1).trans rfl, (blk_cell BK460.out 2).trans rfl, (blk_cell BK460.out 3).trans rfl, (blk_cell BK466.out 0).trans rfl, (blk_cell BK466.out 1).trans rfl, (blk_cell BK466.out 2).trans rfl, (blk_cell BK466.out 3).trans rfl, (blk_cell BK454.out 0).trans rfl, (blk_cell BK454.out 1).trans rfl, (blk_cell BK454.out 2).trans rfl, (blk_cell BK454.out 3).trans rfl⟩ (fun hHeld => ?_)
                      clear hK K
                      refine norm_ (a' := ?_) ?_ ?_
                      rotate_left
                      · show Act.put _ (some 94) _ = _
                        simp only [Act.put, List.setIfInBounds_toArray, List.set_cons_zero, List.set_cons_succ, i64_w, i32_w]
                        rfl
                      refine pure_ (i := 44) (N := some 95) (v := ?_) (a' := ?_) #[true, true, true, true, true, true, true, true, true, true, true, true, true, true, true, true, true, true, true, true, true, true, true, true, true, true, true, true, true, true, true, true, true, true, true, true, true, true, true, true, true, true, true, true, true, false] rfl rfl (any_of HT_.out (by kernel_rfl)) (fun _ _ _ h => h) (Or.inl ⟨by rfl, ?_⟩) ?_ ?_
                      rotate_left
                      · intro w'
                        go_simp
                        with_reducible rfl
                      rotate_left
                      · simp only [Act.put, List.setIfInBounds_toArray, List.set_cons_zero, List.set_cons_succ, i64_w, i32_w]
                        rfl
                      refine pure_ (i := 45) (N := some 6) (v := ?_) (a' := ?_) #[true, true, true, true, true, true, true, true, true, true, true, true, true, true, true, true, true, true, true, true, true, true, true, true, true, true, true, true, true, true, true, true, true, true, true, true, true, true, true, true, true, true, true, true, true, true] rfl rfl (any_of HT_.out (by kernel_rfl)) (fun _ _ _ h => h) (Or.inl ⟨by rfl, ?_⟩) ?_ ?_
                      rotate_left
                      · intro w'
                        go_simp
                        with_reducible rfl
                      rotate_left
                      · simp only [Act.put, List.setIfInBounds_toArray, List.set_cons_zero, List.set_cons_succ, i64_w, i32_w]
                        rfl
                      refine done_ (done_of HT_.out (by kernel_rfl)) ?_
                      try go_wp2
                      go_ret
                      exact ⟨by first | rfl | (simp [errW_none, errW_some] <;> rfl) | (simp [*, errW_none, errW_some] <;> rfl), by repeat (first | (with_reducible first | exact HB.out | apply below_alloc | apply pw_below_drewN | apply below_drew1 | refine below_set ?_ GE454.out | refine below_set ?_ GE460.out | refine below_set ?_ GE466.out) | exact HB.out)⟩
                    · rw [if_neg c25] at H
                      exact absurd H (by simp)
                  · rw [if_neg c23] at H
                    exact absurd H (by simp)
                · rw [if_neg c20] at H
                  exact absurd H (by simp)
              · rw [if_neg c18] at H
                exact absurd H (by simp)
            · rw [if_neg c16] at H
              exact absurd H (by simp)
          · rw [if_neg c14] at H
            exact absurd H (by simp)
  · replace c5 := Bool.eq_false_iff.mpr c5
    subst c5
    have H1 : (none) = some r := by rw [if_neg (show ¬ (false = true) by decide)] at H; exact H
    clear H
    have H := H1
    clear H1
    exact absurd H (by simp)

/-- THE ONE PURE STATEMENT of templelaw1_SetSplits: yours. -/
def templelaw1_SetSplits.Pure : Prop := ∀ (a0 : Int) (a1 : Int) (a2 : Int), (Lit.int .i64 a0).wf = true → (Lit.int .i64 a1).wf = true → (Lit.int .i64 a2).wf = true → ∃ k, templelaw1_SetSplits.f k a0 a1 a2 = some true
theorem templelaw1_SetSplits.walk (P : templelaw1_SetSplits.Pure) (a0 : Int) (a1 : Int) (a2 : Int) (w : World) (w0 : (Lit.int .i64 a0).wf = true) (w1 : (Lit.int .i64 a1).wf = true) (w2 : (Lit.int .i64 a2).wf = true) :
    Calls Try.prog 9 #[.int .i64 a0, .int .i64 a1, .int .i64 a2] w fun e w' => e = .returned (.bool true) ∧ Below w.heap.size w w' := by
  obtain ⟨k, h⟩ := P a0 a1 a2 w0 w1 w2
  refine (templelaw1_SetSplits.calls k a0 a1 a2 true w h).mono ?_
  rintro e w' ⟨rfl, hd⟩
  exact ⟨rfl, hd⟩

end Go.Proofs.Ytldoicmbacppeaa.PL1
