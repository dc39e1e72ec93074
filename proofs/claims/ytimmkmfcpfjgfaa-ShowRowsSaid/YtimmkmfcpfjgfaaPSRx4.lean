-- written by a program of the session's (wip/myprint.py) out of the translation
import Derived.Test.YtimmkmfcpfjgfaaPSRx0
import Derived.Test.YtimmkmfcpfjgfaaPSRx3
namespace Go.Proofs.Ytimmkmfcpfjgfaa.PSR
open Go.RowKit Go.Proofs.YtimmkmfcpfjgfaaW.PrintWords Go.Proofs.YtimmkmfcpfjgfaaW.PrintLast Go.Proofs.YtimmkmfcpfjgfaaW.PrintMore
attribute [local go_sem] max2_int min2_int max_two min_two max_three min_three max_four min_four   -- for this text's walks alone
set_option linter.unusedVariables false
set_option linter.unusedSimpArgs false

/-! ### templelaw0_Num: function 12 -/
def templelaw0_Num.f (a0 : Int) : Option (Int) := some a0
set_option maxHeartbeats 8000000 in
set_option maxRecDepth 100000 in
theorem templelaw0_Num.calls (a0 : Int) (r : Int) (w : World) (h : templelaw0_Num.f a0 = some r) :
    Calls Try.prog 12 #[.int .i64 a0] w fun e w' => e = .returned (.int .i64 r) ∧ Drawn0 w w' := by
  have H : (some a0) = some r := h
  clear h
  obtain rfl := Option.some.inj H
  go_enter Try.func12, Try.ntmps12
  go_wp2
  go_ret
  exact ⟨by first | rfl | (simp; done) | (simp [*]; done), by repeat (first | exact Drawn0.refl _ | apply Drawn0.step)⟩

/-! ### templelaw5_awake: function 14 -/
def templelaw5_awake.f  : Option (Bool) := (show_Show.f 0 (([(⟨#[83]⟩ : ByteArray)] : List ByteArray)) (([(⟨0, (([(⟨false, ([] : List (S38))⟩ : S41), (⟨true, (([(⟨(-1), 34, 34⟩ : S38), (⟨(-1), 10, 10⟩ : S38), (⟨0, 0, 0⟩ : S38), (⟨(-1), 39, 122⟩ : S38)] : List (S38)))⟩ : S41)] : List (S41)))⟩ : S44), (⟨0, (([(⟨false, (([(⟨0, 0, 0⟩ : S38)] : List (S38)))⟩ : S41)] : List (S41)))⟩ : S44)] : List (S44)))).bind fun bt128 => ((show_Show.f 0 ([] : List ByteArray) ([] : List (S44))).bind fun bt130 => (if bt128.1.toList = ([115, 116, 97, 114, 116, 32, 83, 59, 10, 83, 32, 61, 32, 34, 34, 32, 38, 32, 126, 34, 92, 34, 92, 120, 48, 97, 34, 32, 83, 32, 39, 92, 39, 39, 46, 46, 39, 122, 39, 32, 124, 32, 83, 59, 10] : List UInt8) then ((templelaw0_Num.f bt128.2).bind fun t132 => (if t132 = 0 then ((templelaw0_Num.f bt130.2).bind fun t133 => (some (t133 == 500))) else (none))) else (none)))
set_option maxHeartbeats 8000000 in
set_option maxRecDepth 100000 in
theorem templelaw5_awake.calls  (r : Bool) (w : World) (h : templelaw5_awake.f  = some r) :
    Calls Try.prog 14 #[] w fun e w' => e = .returned (.bool r) ∧ Below w.heap.size w w' := by
  have hu41 := Try.underlying41
  have hu38 := Try.underlying38
  have hu44 := Try.underlying44
  have hu25 := Try.underlying25
  have HB := Aside0.mk (Below.refl w.heap.size w)
  have H : ((show_Show.f 0 (([(⟨#[83]⟩ : ByteArray)] : List ByteArray)) (([(⟨0, (([(⟨false, ([] : List (S38))⟩ : S41), (⟨true, (([(⟨(-1), 34, 34⟩ : S38), (⟨(-1), 10, 10⟩ : S38), (⟨0, 0, 0⟩ : S38), (⟨(-1), 39, 122⟩ : S38)] : List (S38)))⟩ : S41)] : List (S41)))⟩ : S44), (⟨0, (([(⟨false, (([(⟨0, 0, 0⟩ : S38)] : List (S38)))⟩ : S41)] : List (S41)))⟩ : S44)] : List (S44)))).bind fun bt128 => ((show_Show.f 0 ([] : List ByteArray) ([] : List (S44))).bind fun bt130 => (if bt128.1.toList = ([115, 116, 97, 114, 116, 32, 83, 59, 10, 83, 32, 61, 32, 34, 34, 32, 38, 32, 126, 34, 92, 34, 92, 120, 48, 97, 34, 32, 83, 32, 39, 92, 39, 39, 46, 46, 39, 122, 39, 32, 124, 32, 83, 59, 10] : List UInt8) then ((templelaw0_Num.f bt128.2).bind fun t132 => (if t132 = 0 then ((templelaw0_Num.f bt130.2).bind fun t133 => (some (t133 == 500))) else (none))) else (none)))) = some r := h
  clear h
  obtain ⟨y110, hy110⟩ : ∃ y_ : List ByteArray, y_ = (([(⟨#[83]⟩ : ByteArray)] : List ByteArray)) := ⟨_, rfl⟩
  replace H : ((show_Show.f 0 y110 (([(⟨0, (([(⟨false, ([] : List (S38))⟩ : S41), (⟨true, (([(⟨(-1), 34, 34⟩ : S38), (⟨(-1), 10, 10⟩ : S38), (⟨0, 0, 0⟩ : S38), (⟨(-1), 39, 122⟩ : S38)] : List (S38)))⟩ : S41)] : List (S41)))⟩ : S44), (⟨0, (([(⟨false, (([(⟨0, 0, 0⟩ : S38)] : List (S38)))⟩ : S41)] : List (S41)))⟩ : S44)] : List (S44)))).bind fun bt128 => ((show_Show.f 0 ([] : List ByteArray) ([] : List (S44))).bind fun bt130 => (if bt128.1.toList = ([115, 116, 97, 114, 116, 32, 83, 59, 10, 83, 32, 61, 32, 34, 34, 32, 38, 32, 126, 34, 92, 34, 92, 120, 48, 97, 34, 32, 83, 32, 39, 92, 39, 39, 46, 46, 39, 122, 39, 32, 124, 32, 83, 59, 10] : List UInt8) then ((templelaw0_Num.f bt128.2).bind fun t132 => (if t132 = 0 then ((templelaw0_Num.f bt130.2).bind fun t133 => (some (t133 == 500))) else (none))) else (none)))) = some r := by first | (rw [hy110]; with_reducible exact H) | (have H2_ := (Option.bind_some _ _).symm.trans H; rw [hy110]; with_reducible exact H2_) | (have H2_ := (Option.bind_some _ _).symm.trans H; with_reducible exact H2_) | with_reducible exact H | (rw [hy110]; exact H) | exact H
  have Ny110 := Aside0.mk hy110
  clear hy110
  obtain ⟨y113, hy113⟩ : ∃ y_ : List (S38), y_ = (([(⟨(-1), 34, 34⟩ : S38), (⟨(-1), 10, 10⟩ : S38), (⟨0, 0, 0⟩ : S38), (⟨(-1), 39, 122⟩ : S38)] : List (S38))) := ⟨_, rfl⟩
  replace H : ((show_Show.f 0 y110 (([(⟨0, (([(⟨false, ([] : List (S38))⟩ : S41), (⟨true, y113⟩ : S41)] : List (S41)))⟩ : S44), (⟨0, (([(⟨false, (([(⟨0, 0, 0⟩ : S38)] : List (S38)))⟩ : S41)] : List (S41)))⟩ : S44)] : List (S44)))).bind fun bt128 => ((show_Show.f 0 ([] : List ByteArray) ([] : List (S44))).bind fun bt130 => (if bt128.1.toList = ([115, 116, 97, 114, 116, 32, 83, 59, 10, 83, 32, 61, 32, 34, 34, 32, 38, 32, 126, 34, 92, 34, 92, 120, 48, 97, 34, 32, 83, 32, 39, 92, 39, 39, 46, 46, 39, 122, 39, 32, 124, 32, 83, 59, 10] : List UInt8) then ((templelaw0_Num.f bt128.2).bind fun t132 => (if t132 = 0 then ((templelaw0_Num.f bt130.2).bind fun t133 => (some (t133 == 500))) else (none))) else (none)))) = some r := by first | (rw [hy113]; with_reducible exact H) | (have H2_ := (Option.bind_some _ _).symm.trans H; rw [hy113]; with_reducible exact H2_) | (have H2_ := (Option.bind_some _ _).symm.trans H; with_reducible exact H2_) | with_reducible exact H | (rw [hy113]; exact H) | exact H
  have Ny113 := Aside0.mk hy113
  clear hy113
  obtain ⟨y116, hy116⟩ : ∃ y_ : List (S41), y_ = (([(⟨false, ([] : List (S38))⟩ : S41), (⟨true, y113⟩ : S41)] : List (S41))) := ⟨_, rfl⟩
  replace H : ((show_Show.f 0 y110 (([(⟨0, y116⟩ : S44), (⟨0, (([(⟨false, (([(⟨0, 0, 0⟩ : S38)] : List (S38)))⟩ : S41)] : List (S41)))⟩ : S44)] : List (S44)))).bind fun bt128 => ((show_Show.f 0 ([] : List ByteArray) ([] : List (S44))).bind fun bt130 => (if bt128.1.toList = ([115, 116, 97, 114, 116, 32, 83, 59, 10, 83, 32, 61, 32, 34, 34, 32, 38, 32, 126, 34, 92, 34, 92, 120, 48, 97, 34, 32, 83, 32, 39, 92, 39, 39, 46, 46, 39, 122, 39, 32, 124, 32, 83, 59, 10] : List UInt8) then ((templelaw0_Num.f bt128.2).bind fun t132 => (if t132 = 0 then ((templelaw0_Num.f bt130.2).bind fun t133 => (some (t133 == 500))) else (none))) else (none)))) = some r := by first | (rw [hy116]; with_reducible exact H) | (have H2_ := (Option.bind_some _ _).symm.trans H; rw [hy116]; with_reducible exact H2_) | (have H2_ := (Option.bind_some _ _).symm.trans H; with_reducible exact H2_) | with_reducible exact H | (rw [hy116]; exact H) | exact H
  have Ny116 := Aside0.mk hy116
  clear hy116
  obtain ⟨y119, hy119⟩ : ∃ y_ : List (S38), y_ = (([(⟨0, 0, 0⟩ : S38)] : List (S38))) := ⟨_, rfl⟩
  replace H : ((show_Show.f 0 y110 (([(⟨0, y116⟩ : S44), (⟨0, (([(⟨false, y119⟩ : S41)] : List (S41)))⟩ : S44)] : List (S44)))).bind fun bt128 => ((show_Show.f 0 ([] : List ByteArray) ([] : List (S44))).bind fun bt130 => (if bt128.1.toList = ([115, 116, 97, 114, 116, 32, 83, 59, 10, 83, 32, 61, 32, 34, 34, 32, 38, 32, 126, 34, 92, 34, 92, 120, 48, 97, 34, 32, 83, 32, 39, 92, 39, 39, 46, 46, 39, 122, 39, 32, 124, 32, 83, 59, 10] : List UInt8) then ((templelaw0_Num.f bt128.2).bind fun t132 => (if t132 = 0 then ((templelaw0_Num.f bt130.2).bind fun t133 => (some (t133 == 500))) else (none))) else (none)))) = some r := by first | (rw [hy119]; with_reducible exact H) | (have H2_ := (Option.bind_some _ _).symm.trans H; rw [hy119]; with_reducible exact H2_) | (have H2_ := (Option.bind_some _ _).symm.trans H; with_reducible exact H2_) | with_reducible exact H | (rw [hy119]; exact H) | exact H
  have Ny119 := Aside0.mk hy119
  clear hy119
  obtain ⟨y122, hy122⟩ : ∃ y_ : List (S41), y_ = (([(⟨false, y119⟩ : S41)] : List (S41))) := ⟨_, rfl⟩
  replace H : ((show_Show.f 0 y110 (([(⟨0, y116⟩ : S44), (⟨0, y122⟩ : S44)] : List (S44)))).bind fun bt128 => ((show_Show.f 0 ([] : List ByteArray) ([] : List (S44))).bind fun bt130 => (if bt128.1.toList = ([115, 116, 97, 114, 116, 32, 83, 59, 10, 83, 32, 61, 32, 34, 34, 32, 38, 32, 126, 34, 92, 34, 92, 120, 48, 97, 34, 32, 83, 32, 39, 92, 39, 39, 46, 46, 39, 122, 39, 32, 124, 32, 83, 59, 10] : List UInt8) then ((templelaw0_Num.f bt128.2).bind fun t132 => (if t132 = 0 then ((templelaw0_Num.f bt130.2).bind fun t133 => (some (t133 == 500))) else (none))) else (none)))) = some r := by first | (rw [hy122]; with_reducible exact H) | (have H2_ := (Option.bind_some _ _).symm.trans H; rw [hy122]; with_reducible exact H2_) | (have H2_ := (Option.bind_some _ _).symm.trans H; with_reducible exact H2_) | with_reducible exact H | (rw [hy122]; exact H) | exact H
  have Ny122 := Aside0.mk hy122
  clear hy122
  obtain ⟨y125, hy125⟩ : ∃ y_ : List (S44), y_ = (([(⟨0, y116⟩ : S44), (⟨0, y122⟩ : S44)] : List (S44))) := ⟨_, rfl⟩
  replace H : ((show_Show.f 0 y110 y125).bind fun bt128 => ((show_Show.f 0 ([] : List ByteArray) ([] : List (S44))).bind fun bt130 => (if bt128.1.toList = ([115, 116, 97, 114, 116, 32, 83, 59, 10, 83, 32, 61, 32, 34, 34, 32, 38, 32, 126, 34, 92, 34, 92, 120, 48, 97, 34, 32, 83, 32, 39, 92, 39, 39, 46, 46, 39, 122, 39, 32, 124, 32, 83, 59, 10] : List UInt8) then ((templelaw0_Num.f bt128.2).bind fun t132 => (if t132 = 0 then ((templelaw0_Num.f bt130.2).bind fun t133 => (some (t133 == 500))) else (none))) else (none)))) = some r := by first | (rw [hy125]; with_reducible exact H) | (have H2_ := (Option.bind_some _ _).symm.trans H; rw [hy125]; with_reducible exact H2_) | (have H2_ := (Option.bind_some _ _).symm.trans H; with_reducible exact H2_) | with_reducible exact H | (rw [hy125]; exact H) | exact H
  have Ny125 := Aside0.mk hy125
  clear hy125
  replace H := Option.bind_eq_some_iff.mp H
  obtain ⟨⟨t128, t129⟩, A10, H⟩ := H
  replace H : ((show_Show.f 0 ([] : List ByteArray) ([] : List (S44))).bind fun bt130 => (if t128.toList = ([115, 116, 97, 114, 116, 32, 83, 59, 10, 83, 32, 61, 32, 34, 34, 32, 38, 32, 126, 34, 92, 34, 92, 120, 48, 97, 34, 32, 83, 32, 39, 92, 39, 39, 46, 46, 39, 122, 39, 32, 124, 32, 83, 59, 10] : List UInt8) then ((templelaw0_Num.f t129).bind fun t132 => (if t132 = 0 then ((templelaw0_Num.f bt130.2).bind fun t133 => (some (t133 == 500))) else (none))) else (none))) = some r := H
  have A1 := Aside0.mk A10
  clear A10
  replace H := Option.bind_eq_some_iff.mp H
  obtain ⟨⟨t130, t131⟩, A20, H⟩ := H
  replace H : (if t128.toList = ([115, 116, 97, 114, 116, 32, 83, 59, 10, 83, 32, 61, 32, 34, 34, 32, 38, 32, 126, 34, 92, 34, 92, 120, 48, 97, 34, 32, 83, 32, 39, 92, 39, 39, 46, 46, 39, 122, 39, 32, 124, 32, 83, 59, 10] : List UInt8) then ((templelaw0_Num.f t129).bind fun t132 => (if t132 = 0 then ((templelaw0_Num.f t131).bind fun t133 => (some (t133 == 500))) else (none))) else (none)) = some r := H
  have A2 := Aside0.mk A20
  clear A20
  by_cases c3 : t128.toList = ([115, 116, 97, 114, 116, 32, 83, 59, 10, 83, 32, 61, 32, 34, 34, 32, 38, 32, 126, 34, 92, 34, 92, 120, 48, 97, 34, 32, 83, 32, 39, 92, 39, 39, 46, 46, 39, 122, 39, 32, 124, 32, 83, 59, 10] : List UInt8)
  · rw [if_pos c3] at H
    have c3b0 : (t128.toList == ([115, 116, 97, 114, 116, 32, 83, 59, 10, 83, 32, 61, 32, 34, 34, 32, 38, 32, 126, 34, 92, 34, 92, 120, 48, 97, 34, 32, 83, 32, 39, 92, 39, 39, 46, 46, 39, 122, 39, 32, 124, 32, 83, 59, 10] : List UInt8)) = true := beq_iff_eq.mpr c3
    have c3b1 : (t128.toList != ([115, 116, 97, 114, 116, 32, 83, 59, 10, 83, 32, 61, 32, 34, 34, 32, 38, 32, 126, 34, 92, 34, 92, 120, 48, 97, 34, 32, 83, 32, 39, 92, 39, 39, 46, 46, 39, 122, 39, 32, 124, 32, 83, 59, 10] : List UInt8)) = false := bne_eq_false_iff_eq.mpr c3
    clear c3
    replace H := Option.bind_eq_some_iff.mp H
    obtain ⟨t132, A40, H⟩ := H
    replace H : (if t132 = 0 then ((templelaw0_Num.f t131).bind fun t133 => (some (t133 == 500))) else (none)) = some r := H
    have A4 := Aside0.mk A40
    clear A40
    by_cases c5 : t132 = 0
    · rw [if_pos c5] at H
      have c5b0 : (t132 == 0) = true := beq_iff_eq.mpr c5
      have c5b1 : (t132 != 0) = false := bne_eq_false_iff_eq.mpr c5
      clear c5
      replace H := Option.bind_eq_some_iff.mp H
      obtain ⟨t133, A60, H⟩ := H
      replace H : (some (t133 == 500)) = some r := H
      have A6 := Aside0.mk A60
      clear A60
      obtain rfl := Option.some.inj H
      go_enter Try.func14, Try.ntmps14
      go_wp2_with (first | ((with_reducible refine gate_dst (N := 6) rfl ?_); refine Kd.R_lit Kd.string _ 9 ?hg (N := 6) ?hd (xs := ([(⟨#[83]⟩ : ByteArray)] : List ByteArray)) (inner := [.string (⟨#[83]⟩ : ByteArray)]) (ok := fun _ => True) (okp := fun _ => True) ?hr ?hp (fun _ hk => hk) trivial (Below.refl _ _) (Nat.le_refl _) (by simp) ?_; (case hd => rfl); (case hg => rfl); (case hr => first | (go_simp; done) | (go_simp; rfl)); (case hp => exact (Reps.one (show Kd.M Kd.string _ _ _ (⟨#[83]⟩ : ByteArray) [.string (⟨#[83]⟩ : ByteArray)] from rfl) (Reps.none _ _))); intro v111 w7 ho8 hb hg_ hnew_; clear hg_ hnew_; (first | rw [← Ny110.out] at ho8 | (simp only [Int.reduceToNat] at ho8; rw [← Ny110.out] at ho8)); have n0_ := Aside0.mk (Kd.R_lower ho8 (below_size (by repeat (first | (with_reducible first | exact HB.out | apply below_alloc | apply pw_below_drewN | apply below_drew1) | exact HB.out)))); have n1_ := Aside0.mk (below_step (by repeat (first | (with_reducible first | exact HB.out | apply below_alloc | apply pw_below_drewN | apply below_drew1) | exact HB.out)) hb); clear HB; have HO112 := n0_; have HB := n1_; clear n0_ n1_; clear hb ho8) | ((with_reducible refine gate_dst (N := 12) rfl ?_); refine Kd.R_lit k38 _ 38 ?hg (N := 12) ?hd (xs := ([(⟨(-1), 34, 34⟩ : S38), (⟨(-1), 10, 10⟩ : S38), (⟨0, 0, 0⟩ : S38), (⟨(-1), 39, 122⟩ : S38)] : List (S38))) (inner := [.int .i64 (-1), .int .i64 34, .int .i64 34, .int .i64 (-1), .int .i64 10, .int .i64 10, .int .i64 0, .int .i64 0, .int .i64 0, .int .i64 (-1), .int .i64 39, .int .i64 122]) (ok := fun _ => True) (okp := fun _ => True) ?hr ?hp (fun _ hk => hk) trivial (Below.refl _ _) (Nat.le_refl _) (by simp) ?_; (case hd => rfl); (case hg => rfl); (case hr => first | (go_simp; done) | (go_simp; rfl)); (case hp => exact (Reps.c3 (show Kd.M k38 _ _ _ (⟨(-1), 34, 34⟩ : S38) [.int .i64 (-1), .int .i64 34, .int .i64 34] from (k38_mkM _ _ _ (⟨(-1), 34, 34⟩ : S38) )) (Reps.c3 (show Kd.M k38 _ _ _ (⟨(-1), 10, 10⟩ : S38) [.int .i64 (-1), .int .i64 10, .int .i64 10] from (k38_mkM _ _ _ (⟨(-1), 10, 10⟩ : S38) )) (Reps.c3 (show Kd.M k38 _ _ _ (⟨0, 0, 0⟩ : S38) [.int .i64 0, .int .i64 0, .int .i64 0] from (k38_mkM _ _ _ (⟨0, 0, 0⟩ : S38) )) (Reps.c3 (show Kd.M k38 _ _ _ (⟨(-1), 39, 122⟩ : S38) [.int .i64 (-1), .int .i64 39, .int .i64 122] from (k38_mkM _ _ _ (⟨(-1), 39, 122⟩ : S38) )) (Reps.none _ _)))))); intro v114 w9 ho10 hb hg_ hnew_; clear hg_ hnew_; (first | rw [← Ny113.out] at ho10 | (simp only [Int.reduceToNat] at ho10; rw [← Ny113.out] at ho10)); have n0_ := Aside0.mk (Kd.R_below (by (with_reducible repeat (first | apply Kd.R_alloc | apply Kd.R_drewN | apply Kd.R_drew)); exact HO112.out) hb); have n1_ := Aside0.mk (Kd.R_lower ho10 (below_size (by repeat (first | (with_reducible first | exact HB.out | apply below_alloc | apply pw_below_drewN | apply below_drew1) | exact HB.out)))); have n2_ := Aside0.mk (below_step (by repeat (first | (with_reducible first | exact HB.out | apply below_alloc | apply pw_below_drewN | apply below_drew1) | exact HB.out)) hb); clear HO112; clear HB; have HO112 := n0_; have HO115 := n1_; have HB := n2_; clear n0_ n1_ n2_; clear hb ho10; obtain ⟨Ao11, co11, eo11⟩ := Kd.R_slice HO115.out; subst eo11) | ((with_reducible refine gate_dst (N := 14) rfl ?_); refine Kd.N_lit k41 _ 41 ?hg (N' := 14) ?hd (xs := ([(⟨false, ([] : List (S38))⟩ : S41), (⟨true, y113⟩ : S41)] : List (S41))) (inner := [.bool false, .slice none 0 0, .bool true, .slice Ao11 y113.length co11]) (ok := (fun k_ => some k_ ≠ (v111 : Value).ownBlock)) (okp := (fun k_ => some k_ ≠ (v111 : Value).ownBlock)) ?hr ?hp (fun _ hk => hk) ((show ∀ k_, w9.heap.size ≤ k_ → (fun k_ => some k_ ≠ (v111 : Value).ownBlock) k_ from fun k_ hk => Kd.fresh' (Kd.R_lt (by (with_reducible repeat (first | apply Kd.R_alloc | apply Kd.R_drewN | apply Kd.R_drew)); exact HO112.out)) k_ hk) _ (Nat.le_refl _)) (Below.refl _ _) (Nat.le_refl _) (by simp) ?_; (case hd => rfl); (case hg => rfl); (case hr => first | (go_simp; done) | (go_simp; rfl)); (case hp => exact (Reps.c2 (show Kd.FK k41 _ _ (⟨false, ([] : List (S38))⟩ : S41) [.bool false, .slice none 0 0] from (k41_mkF _ _ (⟨false, ([] : List (S38))⟩ : S41) (Nat.le_refl _) (Kd.F_nil _ _ _))) (Reps.c2 (show Kd.FK k41 _ _ (⟨true, y113⟩ : S41) [.bool true, .slice Ao11 y113.length co11] from (k41_mkF _ _ (⟨true, y113⟩ : S41) (Kd.R_reads' (Kd.R_mono (ok' := (fun k_ => some k_ ≠ (v111 : Value).ownBlock)) (Kd.R_apart' (HO115.out) (Kd.R_typed HO112.out) (by decide)) (fun k_ hk => hk.2))).2.1 (Kd.R_F (Kd.R_mono (ok' := (fun k_ => some k_ ≠ (v111 : Value).ownBlock)) (Kd.R_apart' (HO115.out) (Kd.R_typed HO112.out) (by decide)) (fun k_ hk => hk.2))))) (Reps.none _ _)))); intro v117 w12 ho13 hb hg_ hnew_; clear hg_ hnew_; (first | rw [← Ny116.out] at ho13 | (simp only [Int.reduceToNat] at ho13; rw [← Ny116.out] at ho13)); have n0_ := Aside0.mk (Kd.R_below (by (with_reducible repeat (first | apply Kd.R_alloc | apply Kd.R_drewN | apply Kd.R_drew)); exact HO112.out) hb); have n1_ := Aside0.mk (Kd.N_lower ho13 (below_size (by repeat (first | (with_reducible first | exact HB.out | apply below_alloc | apply pw_below_drewN | apply below_drew1) | exact HB.out)))); have n2_ := Aside0.mk (below_step (by repeat (first | (with_reducible first | exact HB.out | apply below_alloc | apply pw_below_drewN | apply below_drew1) | exact HB.out)) hb); clear HO112; clear HB; clear HO115; have HO112 := n0_; have HO118 := n1_; have HB := n2_; clear n0_ n1_ n2_; clear hb ho13; obtain ⟨Ao14, co14, eo14⟩ := Kd.N_slice HO118.out; subst eo14) | ((with_reducible refine gate_dst (N := 17) rfl ?_); refine Kd.R_lit k38 _ 38 ?hg (N := 17) ?hd (xs := ([(⟨0, 0, 0⟩ : S38)] : List (S38))) (inner := [.int .i64 0, .int .i64 0, .int .i64 0]) (ok := fun _ => True) (okp := fun _ => True) ?hr ?hp (fun _ hk => hk) trivial (Below.refl _ _) (Nat.le_refl _) (by simp) ?_; (case hd => rfl); (case hg => rfl); (case hr => first | (go_simp; done) | (go_simp; rfl)); (case hp => exact (Reps.c3 (show Kd.M k38 _ _ _ (⟨0, 0, 0⟩ : S38) [.int .i64 0, .int .i64 0, .int .i64 0] from (k38_mkM _ _ _ (⟨0, 0, 0⟩ : S38) )) (Reps.none _ _))); intro v120 w15 ho16 hb hg_ hnew_; clear hg_ hnew_; (first | rw [← Ny119.out] at ho16 | (simp only [Int.reduceToNat] at ho16; rw [← Ny119.out] at ho16)); have n0_ := Aside0.mk (Kd.R_below (by (with_reducible repeat (first | apply Kd.R_alloc | apply Kd.R_drewN | apply Kd.R_drew)); exact HO112.out) hb); have n1_ := Aside0.mk (Kd.N_elder' (by (with_reducible repeat (first | apply Kd.N_alloc | apply Kd.N_drewN | apply Kd.N_drew)); exact HO118.out) (Kd.R_base ho16) hb); have n2_ := Aside0.mk (Kd.R_lower ho16 (below_size (by repeat (first | (with_reducible first | exact HB.out | apply below_alloc | apply pw_below_drewN | apply below_drew1) | exact HB.out)))); have n3_ := Aside0.mk (below_step (by repeat (first | (with_reducible first | exact HB.out | apply below_alloc | apply pw_below_drewN | apply below_drew1) | exact HB.out)) hb); clear HO112; clear HO118; clear HB; have HO112 := n0_; have HO118 := n1_; have HO121 := n2_; have HB := n3_; clear n0_ n1_ n2_ n3_; clear hb ho16; obtain ⟨Ao17, co17, eo17⟩ := Kd.R_slice HO121.out; subst eo17) | ((with_reducible refine gate_dst (N := 19) rfl ?_); refine Kd.N_lit k41 _ 41 ?hg (N' := 19) ?hd (xs := ([(⟨false, y119⟩ : S41)] : List (S41))) (inner := [.bool false, .slice Ao17 y119.length co17]) (ok := (fun k_ => some k_ ≠ (v111 : Value).ownBlock ∧ some k_ ≠ (.slice Ao14 y116.length co14 : Value).ownBlock)) (okp := (fun k_ => some k_ ≠ (v111 : Value).ownBlock ∧ some k_ ≠ (.slice Ao14 y116.length co14 : Value).ownBlock)) ?hr ?hp (fun _ hk => hk) ((show ∀ k_, w15.heap.size ≤ k_ → (fun k_ => some k_ ≠ (v111 : Value).ownBlock ∧ some k_ ≠ (.slice Ao14 y116.length co14 : Value).ownBlock) k_ from fun k_ hk => ⟨Kd.fresh' (Kd.R_lt (by (with_reducible repeat (first | apply Kd.R_alloc | apply Kd.R_drewN | apply Kd.R_drew)); exact HO112.out)) k_ hk, Kd.fresh' (Kd.N_lt (by (with_reducible repeat (first | apply Kd.N_alloc | apply Kd.N_drewN | apply Kd.N_drew)); exact HO118.out)) k_ hk⟩) _ (Nat.le_refl _)) (Below.refl _ _) (Nat.le_refl _) (by simp) ?_; (case hd => rfl); (case hg => rfl); (case hr => first | (go_simp; done) | (go_simp; rfl)); (case hp => exact (Reps.c2 (show Kd.FK k41 _ _ (⟨false, y119⟩ : S41) [.bool false, .slice Ao17 y119.length co17] from (k41_mkF _ _ (⟨false, y119⟩ : S41) (Kd.R_reads' (Kd.R_mono (ok' := (fun k_ => some k_ ≠ (v111 : Value).ownBlock ∧ some k_ ≠ (.slice Ao14 y116.length co14 : Value).ownBlock)) (Kd.R_apart' (Kd.R_apart' (HO121.out) (Kd.R_typed HO112.out) (by decide)) (Kd.N_typed HO118.out) (by decide)) (fun k_ hk => ⟨hk.1.2, hk.2⟩))).2.1 (Kd.R_F (Kd.R_mono (ok' := (fun k_ => some k_ ≠ (v111 : Value).ownBlock ∧ some k_ ≠ (.slice Ao14 y116.length co14 : Value).ownBlock)) (Kd.R_apart' (Kd.R_apart' (HO121.out) (Kd.R_typed HO112.out) (by decide)) (Kd.N_typed HO118.out) (by decide)) (fun k_ hk => ⟨hk.1.2, hk.2⟩))))) (Reps.none _ _))); intro v123 w18 ho19 hb hg_ hnew_; clear hg_ hnew_; (first | rw [← Ny122.out] at ho19 | (simp only [Int.reduceToNat] at ho19; rw [← Ny122.out] at ho19)); have n0_ := Aside0.mk (Kd.R_below (by (with_reducible repeat (first | apply Kd.R_alloc | apply Kd.R_drewN | apply Kd.R_drew)); exact HO112.out) hb); have n1_ := Aside0.mk (Kd.N_elder' (by (with_reducible repeat (first | apply Kd.N_alloc | apply Kd.N_drewN | apply Kd.N_drew)); exact HO118.out) (Kd.N_base ho19) hb); have n2_ := Aside0.mk (Kd.N_lower ho19 (below_size (by repeat (first | (with_reducible first | exact HB.out | apply below_alloc | apply pw_below_drewN | apply below_drew1) | exact HB.out)))); have n3_ := Aside0.mk (below_step (by repeat (first | (with_reducible first | exact HB.out | apply below_alloc | apply pw_below_drewN | apply below_drew1) | exact HB.out)) hb); clear HO112; clear HO118; clear HB; clear HO121; have HO112 := n0_; have HO118 := n1_; have HO124 := n2_; have HB := n3_; clear n0_ n1_ n2_ n3_; clear hb ho19; obtain ⟨Ao20, co20, eo20⟩ := Kd.N_slice HO124.out; subst eo20) | ((with_reducible refine gate_dst (N := 21) rfl ?_); refine Kd.N_lit k44 _ 44 ?hg (N' := 21) ?hd (xs := ([(⟨0, y116⟩ : S44), (⟨0, y122⟩ : S44)] : List (S44))) (inner := [.int .i64 0, .slice Ao14 y116.length co14, .int .i64 0, .slice Ao20 y122.length co20]) (ok := (fun k_ => some k_ ≠ (v111 : Value).ownBlock)) (okp := (fun k_ => some k_ ≠ (v111 : Value).ownBlock)) ?hr ?hp (fun _ hk => hk) ((show ∀ k_, w18.heap.size ≤ k_ → (fun k_ => some k_ ≠ (v111 : Value).ownBlock) k_ from fun k_ hk => Kd.fresh' (Kd.R_lt (by (with_reducible repeat (first | apply Kd.R_alloc | apply Kd.R_drewN | apply Kd.R_drew)); exact HO112.out)) k_ hk) _ (Nat.le_refl _)) (Below.refl _ _) (Nat.le_refl _) (by simp) ?_; (case hd => rfl); (case hg => rfl); (case hr => first | (go_simp; done) | (go_simp; rfl)); (case hp => exact (Reps.c2 (show Kd.FK k44 _ _ (⟨0, y116⟩ : S44) [.int .i64 0, .slice Ao14 y116.length co14] from (k44_mkF _ _ (⟨0, y116⟩ : S44) (Kd.N_reads' (Kd.N_mono (ok' := (fun k_ => some k_ ≠ (v111 : Value).ownBlock)) (HO118.out) (fun k_ hk => hk.1.1))).2.1 (Kd.N_F (Kd.N_mono (ok' := (fun k_ => some k_ ≠ (v111 : Value).ownBlock)) (HO118.out) (fun k_ hk => hk.1.1))))) (Reps.c2 (show Kd.FK k44 _ _ (⟨0, y122⟩ : S44) [.int .i64 0, .slice Ao20 y122.length co20] from (k44_mkF _ _ (⟨0, y122⟩ : S44) (Kd.N_reads' (Kd.N_mono (ok' := (fun k_ => some k_ ≠ (v111 : Value).ownBlock)) (HO124.out) (fun k_ hk => hk.1))).2.1 (Kd.N_F (Kd.N_mono (ok' := (fun k_ => some k_ ≠ (v111 : Value).ownBlock)) (HO124.out) (fun k_ hk => hk.1))))) (Reps.none _ _)))); intro v126 w21 ho22 hb hg_ hnew_; clear hg_ hnew_; (first | rw [← Ny125.out] at ho22 | (simp only [Int.reduceToNat] at ho22; rw [← Ny125.out] at ho22)); have n0_ := Aside0.mk (Kd.R_below (by (with_reducible repeat (first | apply Kd.R_alloc | apply Kd.R_drewN | apply Kd.R_drew)); exact HO112.out) hb); have n1_ := Aside0.mk (Kd.N_lower ho22 (below_size (by repeat (first | (with_reducible first | exact HB.out | apply below_alloc | apply pw_below_drewN | apply below_drew1) | exact HB.out)))); have n2_ := Aside0.mk (below_step (by repeat (first | (with_reducible first | exact HB.out | apply below_alloc | apply pw_below_drewN | apply below_drew1) | exact HB.out)) hb); clear HO112; clear HB; clear HO118; clear HO124; have HO112 := n0_; have HO127 := n1_; have HB := n2_; clear n0_ n1_ n2_; clear hb ho22; obtain ⟨Ao23, co23, eo23⟩ := Kd.N_slice HO127.out; subst eo23; obtain ⟨Ao24, co24, eo24⟩ := Kd.R_slice HO112.out; subst eo24) | ((with_reducible refine gate_callee (f := 10) rfl ?_); refine goesL_ (some 23) rfl rfl Try.func10 (by kernel_rfl) rfl #[.agg #[.int .i64 0, .slice Ao24 y110.length co24, .slice Ao23 y125.length co23]] rfl (by (try simp only [List.map_toArray, List.map_cons, List.map_nil]); first | done | rfl | (simp only [List.length_drop, List.length_take]; rfl)) ?_; (with_reducible refine (show_Show.calls 0 _ _ y110 _ _ y125 t128 t129 _ ?side1 ?side2 ?side3 ?side4 A1.out).mono ?_); (case side1 => repeat (first | exact (Kd.R_reads' HO112.out).2.2 | (with_reducible refine Kd.C_alloc ?_ _) | (with_reducible refine Kd.C_drewN ?_ _) | (with_reducible refine Kd.C_drew ?_))); (case side2 => exact (Kd.R_reads' HO112.out).2.1); (case side3 => repeat (first | exact (Kd.N_reads' HO127.out).2.2 | (with_reducible refine Kd.C_alloc ?_ _) | (with_reducible refine Kd.C_drewN ?_ _) | (with_reducible refine Kd.C_drew ?_))); (case side4 => exact (Kd.N_reads' HO127.out).2.1); rintro e w25 ⟨rfl, hb⟩; refine ⟨_, rfl, ?_⟩; have n0_ := Aside0.mk (Kd.R_below (by (with_reducible repeat (first | apply Kd.R_alloc | apply Kd.R_drewN | apply Kd.R_drew)); exact HO112.out) hb); have n1_ := Aside0.mk (Kd.N_below (by (with_reducible repeat (first | apply Kd.N_alloc | apply Kd.N_drewN | apply Kd.N_drew)); exact HO127.out) hb); have n2_ := Aside0.mk (below_step (by repeat (first | (with_reducible first | exact HB.out | apply below_alloc | apply pw_below_drewN | apply below_drew1) | exact HB.out)) hb); clear HO112; clear HO127; clear HB; have HO112 := n0_; have HO127 := n1_; have HB := n2_; clear n0_ n1_ n2_; (try clear hb); (try clear hb2); (try clear hk); (try clear hi)) | ((with_reducible refine gate_callee (f := 10) rfl ?_); refine goesL_ (some 28) rfl rfl Try.func10 (by kernel_rfl) rfl #[.agg #[.int .i64 0, .slice none 0 0, .slice none 0 0]] rfl (by (try simp only [List.map_toArray, List.map_cons, List.map_nil]); first | done | rfl | (simp only [List.length_drop, List.length_take]; rfl)) ?_; (refine (show_Show.calls 0 _ _ ([] : List ByteArray) _ _ ([] : List (S44)) t130 t131 _ ?side1 ?side2 ?side3 ?side4 A2.out).mono ?_); (case side1 => exact Kd.C_nil _ _); (case side2 => exact Nat.le_refl _); (case side3 => exact Kd.C_nil _ _); (case side4 => exact Nat.le_refl _); rintro e w26 ⟨rfl, hb⟩; refine ⟨_, rfl, ?_⟩; have n0_ := Aside0.mk (Kd.R_below (by (with_reducible repeat (first | apply Kd.R_alloc | apply Kd.R_drewN | apply Kd.R_drew)); exact HO112.out) hb); have n1_ := Aside0.mk (Kd.N_below (by (with_reducible repeat (first | apply Kd.N_alloc | apply Kd.N_drewN | apply Kd.N_drew)); exact HO127.out) hb); have n2_ := Aside0.mk (below_step (by repeat (first | (with_reducible first | exact HB.out | apply below_alloc | apply pw_below_drewN | apply below_drew1) | exact HB.out)) hb); clear HO112; clear HO127; clear HB; have HO112 := n0_; have HO127 := n1_; have HB := n2_; clear n0_ n1_ n2_; (try clear hb); (try clear hb2); (try clear hk); (try clear hi)) | (go_at_call 12; (with_reducible refine (templelaw0_Num.calls t129 t132 _ A4.out).mono ?_); rintro e w' ⟨rfl, ⟨nd, rfl⟩⟩) | (go_at_call 12; (with_reducible refine (templelaw0_Num.calls t131 t133 _ A6.out).mono ?_); rintro e w' ⟨rfl, ⟨nd, rfl⟩⟩))
      go_ret
      exact ⟨by first | rfl | (simp [errW_none, errW_some] <;> rfl) | (simp [*, errW_none, errW_some] <;> rfl), by repeat (first | (with_reducible first | exact HB.out | apply below_alloc | apply pw_below_drewN | apply below_drew1) | exact HB.out)⟩
    · rw [if_neg c5] at H
      exact absurd H (by simp)
  · rw [if_neg c3] at H
    exact absurd H (by simp)

/-! ### templeref0_Decimal: function 15 -/
mutual
def templeref0_Decimal.j0 : Nat → Int → Int → Option (ByteArray)
  | 0, _, _ => none
  | k + 1, x0, x3 => templeref0_Decimal.l0 k x0 x3 ([] : List Int)
def templeref0_Decimal.l0 : Nat → Int → Int → List Int → Option (ByteArray)
  | 0, _, _, _ => none
  | k + 1, x0, x3, x4 => if x3 > 0 then ((some (([(IntKind.u64.wrap (48 + (Int.tmod x3 10))) % 256] : List Int) : List Int)).bind fun y134 => (if y134.length + x4.length < 140737488355328 then (templeref0_Decimal.l0 k x0 (IntKind.u64.wrap (Int.tdiv x3 10)) (y134 ++ x4)) else (none))) else (if (x4.length : Int) = 0 then ((some (([(IntKind.u64.wrap (48 + (Int.tmod x3 10))) % 256] : List Int) : List Int)).bind fun y140 => (if y140.length + x4.length < 140737488355328 then (templeref0_Decimal.l0 k x0 (IntKind.u64.wrap (Int.tdiv x3 10)) (y140 ++ x4)) else (none))) else (if x0 < 0 then ((some (([45] : List Int) : List Int)).bind fun y146 => (if y146.length + x4.length < 140737488355328 then (some (strOfNums (y146 ++ x4))) else (none))) else (some (strOfNums x4))))
end
def templeref0_Decimal.f (k : Nat) (a0 : Int) : Option (ByteArray) := if a0 < 0 then (templeref0_Decimal.j0 k a0 (IntKind.u64.wrap ((IntKind.u64.wrap (wrap64 (-(wrap64 (a0 + 1))))) + 1))) else (templeref0_Decimal.j0 k a0 (IntKind.u64.wrap (a0)))
theorem templeref0_Decimal.mono_l : ∀ k, (∀ y0 y1, LeO (templeref0_Decimal.j0 k y0 y1) (templeref0_Decimal.j0 (k + 1) y0 y1)) ∧ (∀ y0 y1 y2, LeO (templeref0_Decimal.l0 k y0 y1 y2) (templeref0_Decimal.l0 (k + 1) y0 y1 y2))
  | 0 => ⟨fun _ _ r h => by simp [templeref0_Decimal.j0] at h, fun _ _ _ r h => by simp [templeref0_Decimal.l0] at h⟩
  | k + 1 => by
    obtain ⟨ih0, ih1⟩ := templeref0_Decimal.mono_l k
    refine ⟨?_, ?_⟩
    · intro y0 y1
      unfold templeref0_Decimal.j0
      repeat' first
      | (with_reducible exact ih0 _ _)
      | (with_reducible exact ih1 _ _ _)
      | (with_reducible exact LeO.refl _)
      | (with_reducible exact LeO.none _)
      | (with_reducible refine LeO.ite ?_ ?_)
      | (with_reducible refine LeO.bind ?_ (fun _ => ?_))
      | exact ih0 _ _
      | exact ih1 _ _ _
      | exact LeO.none _
      | refine LeO.ite ?_ ?_
      | refine LeO.bind ?_ (fun _ => ?_)
    · intro y0 y1 y2
      unfold templeref0_Decimal.l0
      repeat' first
      | (with_reducible exact ih0 _ _)
      | (with_reducible exact ih1 _ _ _)
      | (with_reducible exact LeO.refl _)
      | (with_reducible exact LeO.none _)
      | (with_reducible refine LeO.ite ?_ ?_)
      | (with_reducible refine LeO.bind ?_ (fun _ => ?_))
      | exact ih0 _ _
      | exact ih1 _ _ _
      | exact LeO.none _
      | refine LeO.ite ?_ ?_
      | refine LeO.bind ?_ (fun _ => ?_)
theorem templeref0_Decimal.mono : ∀ a0 k, LeO (templeref0_Decimal.f k a0) (templeref0_Decimal.f (k + 1) a0) := by
  intro a0 k
  obtain ⟨ih0, ih1⟩ := templeref0_Decimal.mono_l k
  unfold templeref0_Decimal.f
  repeat' first
      | (with_reducible exact ih0 _ _)
      | (with_reducible exact ih1 _ _ _)
      | (with_reducible exact LeO.refl _)
      | (with_reducible exact LeO.none _)
      | (with_reducible refine LeO.ite ?_ ?_)
      | (with_reducible refine LeO.bind ?_ (fun _ => ?_))
      | exact ih0 _ _
      | exact ih1 _ _ _
      | exact LeO.none _
      | refine LeO.ite ?_ ?_
      | refine LeO.bind ?_ (fun _ => ?_)
set_option maxHeartbeats 8000000 in
set_option maxRecDepth 100000 in
theorem templeref0_Decimal.calls (k : Nat) (a0 : Int) (r : ByteArray) (w : World) (h : templeref0_Decimal.f k a0 = some r) :
    Calls Try.prog 15 #[.int .i64 a0] w fun e w' => e = .returned (.string r) ∧ Below w.heap.size w w' := by
  have HB := Aside0.mk (Below.refl w.heap.size w)
  have H : (if a0 < 0 then (templeref0_Decimal.j0 k a0 (IntKind.u64.wrap ((IntKind.u64.wrap (wrap64 (-(wrap64 (a0 + 1))))) + 1))) else (templeref0_Decimal.j0 k a0 (IntKind.u64.wrap (a0)))) = some r := h
  clear h
  have HC2 := Aside0.mk H
  clear H
  go_enter Try.func15, Try.ntmps15
  go_upto_if 8 with (fail)
  go_cut [3] (fun v3 wc => ∃ (kq : Nat) (x3_1 : Int), v3 = .int .u64 x3_1 ∧ Aside0 (templeref0_Decimal.j0 kq a0 x3_1 = some r) ∧ Aside0 (kq ≤ k) ∧ Aside0 (Below w.heap.size w wc))
  case first =>
    have H := HC2.out
    clear HC2
    by_cases c3 : a0 < 0
    · rw [if_pos c3] at H
      have c3b0 : decide (a0 < 0) = true := decide_eq_true c3
      clear c3
      (first | rw [c3b0] | (simp only [i64_w, i32_w]; rw [c3b0]) | skip)
      have H' := Aside0.mk H
      clear H
      go_wp2
      go_meet
      case rel => exact ⟨_, (IntKind.u64.wrap ((IntKind.u64.wrap (wrap64 (-(wrap64 (a0 + 1))))) + 1)), (by first | rfl | (simp; done) | (simp [i64_w]; done) | (simp [*]; done) | (simp [*, i64_w]; done) | (simp [*]; unfold wrap64; omega)), H', ⟨by first | omega | exact Nat.le_refl _⟩, ⟨by repeat (first | (with_reducible first | exact HB.out | apply below_alloc | apply pw_below_drewN | apply below_drew1) | exact HB.out)⟩⟩
    · rw [if_neg c3] at H
      have c3b0 : decide (a0 < 0) = false := decide_eq_false c3
      clear c3
      (first | rw [c3b0] | (simp only [i64_w, i32_w]; rw [c3b0]) | skip)
      have H' := Aside0.mk H
      clear H
      go_wp2
      go_meet
      case rel => exact ⟨_, (IntKind.u64.wrap (a0)), (by first | rfl | (simp; done) | (simp [i64_w]; done) | (simp [*]; done) | (simp [*, i64_w]; done) | (simp [*]; unfold wrap64; omega)), H', ⟨by first | omega | exact Nat.le_refl _⟩, ⟨by repeat (first | (with_reducible first | exact HB.out | apply below_alloc | apply pw_below_drewN | apply below_drew1) | exact HB.out)⟩⟩
  case rest =>
    clear HC2
    try clear c1
    try clear p2
    try clear c3
    try clear c3b0
    obtain ⟨kq, x3_1, rfl, HA, HJ1, HB⟩ := hcut
    cases kq with
    | zero => exact absurd HA.out (by simp [templeref0_Decimal.j0])
    | succ kj1 =>
      have H := HA.out
      clear HA
      simp only [templeref0_Decimal.j0] at H
      have H' := Aside0.mk H
      clear H
      go_wp2
      go_loopg [3, 4] kj1 (fun kq v3 v4 w' => ∃ (x3_2 : Int) (x4_2 : List Int), v3 = .int .u64 x3_2 ∧ Aside0 (templeref0_Decimal.l0 kq a0 x3_2 x4_2 = some r) ∧ Aside0 (kq ≤ kj1) ∧ Aside0 (Kd.R (Kd.int .u8) 5 w' w.heap.size (fun _ => True) v4 x4_2) ∧ Aside0 (Below w.heap.size w w'))
      case atStart => exact ⟨(x3_1), (([] : List Int)), (by first | rfl | (simp; done) | (simp [i64_w]; done) | (simp [*]; done) | (simp [*, i64_w]; done) | (simp [*]; unfold wrap64; omega)), H', ⟨Nat.le_refl _⟩, ⟨by first | exact Kd.R_nil _ _ _ _ _ | exact Kd.N_nil _ _ _ _ _ | exact Kd.V_nil _ _ _ _ _ | exact Kd.Q_nil _ _ _ _ _ | exact Kd.S_nil _ _ _ _ _⟩, ⟨by repeat (first | (with_reducible first | exact HB.out | apply below_alloc | apply pw_below_drewN | apply below_drew1) | exact HB.out)⟩⟩
      case round =>
        clear H'
        try clear c1
        try clear p2
        try clear c3
        try clear c3b0
        try clear p2
        obtain ⟨x3_2, x4_2, rfl, HA, HK2, HO_4, HB⟩ := hrel
        cases gk with
        | zero => exact absurd HA.out (by simp [templeref0_Decimal.l0])
        | succ k2 =>
          have H := HA.out
          clear HA
          simp only [templeref0_Decimal.l0] at H
          by_cases c4 : x3_2 > 0
          · rw [if_pos c4] at H
            have c4b0 : decide (0 < x3_2) = true := decide_eq_true c4
            clear c4
            obtain ⟨y134, hy134⟩ : ∃ y_ : List Int, y_ = (([(IntKind.u64.wrap (48 + (Int.tmod x3_2 10))) % 256] : List Int)) := ⟨_, rfl⟩
            replace H : (if y134.length + x4_2.length < 140737488355328 then (templeref0_Decimal.l0 k2 a0 (IntKind.u64.wrap (Int.tdiv x3_2 10)) (y134 ++ x4_2)) else (none)) = some r := by first | (rw [hy134]; with_reducible exact H) | (have H2_ := (Option.bind_some _ _).symm.trans H; rw [hy134]; with_reducible exact H2_) | (have H2_ := (Option.bind_some _ _).symm.trans H; with_reducible exact H2_) | with_reducible exact H | (rw [hy134]; exact H) | exact H
            have Ny134 := Aside0.mk hy134
            clear hy134
            by_cases c5 : y134.length + x4_2.length < 140737488355328
            · rw [if_pos c5] at H
              have LMc5 := Aside0.mk c5
              clear c5
              obtain ⟨y137, hy137⟩ : ∃ y_ : List Int, y_ = (y134 ++ x4_2) := ⟨_, rfl⟩
              replace H : (templeref0_Decimal.l0 k2 a0 (IntKind.u64.wrap (Int.tdiv x3_2 10)) y137) = some r := by first | (rw [hy137]; with_reducible exact H) | (have H2_ := (Option.bind_some _ _).symm.trans H; rw [hy137]; with_reducible exact H2_) | (have H2_ := (Option.bind_some _ _).symm.trans H; with_reducible exact H2_) | with_reducible exact H | (rw [hy137]; exact H) | exact H
              have Ny137 := Aside0.mk hy137
              clear hy137
              have H' := Aside0.mk H
              clear H
              go_wp2_with (first | ((with_reducible refine gate_dst (N := 25) rfl ?_); (try (refine gate_guard (by rfl) ?_; dsimp only)); refine Kd.R_lit (Kd.int .u8) _ 5 ?hg (N := 25) ?hd (xs := ([(IntKind.u64.wrap (48 + (Int.tmod x3_2 10))) % 256] : List Int)) (inner := [.int .u8 ((IntKind.u64.wrap (48 + (Int.tmod x3_2 10))) % 256)]) (ok := fun _ => True) (okp := fun _ => True) ?hr ?hp (fun _ hk => hk) trivial (Below.refl _ _) (Nat.le_refl _) (by simp) ?_; (case hd => rfl); (case hg => rfl); (case hr => first | (go_simp; done) | (go_simp; rfl)); (case hp => exact (Reps.one (show Kd.M (Kd.int .u8) _ _ _ ((IntKind.u64.wrap (48 + (Int.tmod x3_2 10))) % 256) [.int .u8 ((IntKind.u64.wrap (48 + (Int.tmod x3_2 10))) % 256)] from rfl) (Reps.none _ _))); intro v135 w6 ho7 hb hg_ hnew_; clear hg_ hnew_; (first | rw [← Ny134.out] at ho7 | (simp only [Int.reduceToNat] at ho7; rw [← Ny134.out] at ho7)); have n0_ := Aside0.mk (Kd.R_elder' (by (with_reducible repeat (first | apply Kd.R_alloc | apply Kd.R_drewN | apply Kd.R_drew)); exact HO_4.out) (Kd.R_base ho7) hb); have n1_ := Aside0.mk (Kd.R_lower (Kd.R_new' ho7 (Kd.R_lt (by (with_reducible repeat (first | apply Kd.R_alloc | apply Kd.R_drewN | apply Kd.R_drew)); exact HO_4.out))) (below_size (by repeat (first | (with_reducible first | exact HB.out | apply below_alloc | apply pw_below_drewN | apply below_drew1) | exact HB.out)))); have n2_ := Aside0.mk (below_step (by repeat (first | (with_reducible first | exact HB.out | apply below_alloc | apply pw_below_drewN | apply below_drew1) | exact HB.out)) hb); clear HO_4; clear HB; have HO_4 := n0_; have HO136 := n1_; have HB := n2_; clear n0_ n1_ n2_; clear hb ho7; obtain ⟨Ao9, co9, eo9⟩ := Kd.R_slice HO_4.out; subst eo9) | ((with_reducible refine gate_builtin (b := .append) (xs := #[.tmp 25, .tmp 26]) rfl ?_); (try (refine gate_guard (by rfl) ?_; dsimp only)); at_builtin; refine Kd.R_append_rows (Kd.int .u8) (w0 := w) w.heap.size rfl (.tmp 25) (.tmp 26) 36 5 (.int .u8 0) 1 rfl Try.underlying36 info5 rfl (by decide) (by omega) v135 y134 x4_2 _ _ _ (fun k_ => some k_ ≠ (.slice Ao9 x4_2.length co9 : Value).ownBlock) (fun _ => False) rfl rfl ?aO ?aR (fun _ _ h => h) (fun _ h => h.elim) ?aF ?aB ?aS ?aL ?_; (case aR => repeat (first | exact (Kd.R_reads' HO_4.out).2.2 | (with_reducible refine Kd.C_alloc ?_ _) | (with_reducible refine Kd.C_drewN ?_ _) | (with_reducible refine Kd.C_drew ?_))); (case aB => exact (by repeat (first | (with_reducible first | exact HB.out | apply below_alloc | apply pw_below_drewN | apply below_drew1) | exact HB.out))); (case aF => exact (fun k_ hk => Kd.fresh' (Kd.R_lt (by (with_reducible repeat (first | apply Kd.R_alloc | apply Kd.R_drewN | apply Kd.R_drew)); exact HO_4.out)) k_ hk)); (case aO => exact (by (with_reducible repeat (first | apply Kd.R_alloc | apply Kd.R_drewN | apply Kd.R_drew)); exact Kd.R_mono HO136.out (fun _ hk => hk.2))); (case aS => exact (below_size (by repeat (first | (with_reducible first | exact HB.out | apply below_alloc | apply pw_below_drewN | apply below_drew1) | exact HB.out)))); (case aL => have := LMc5.out; omega); intro v138 w8 ho hb hg hat; rw [← Ny137.out] at ho; have n0_ := Aside0.mk (Kd.R_after (ok := (fun _ => True)) (by (with_reducible repeat (first | apply Kd.R_alloc | apply Kd.R_drewN | apply Kd.R_drew)); exact HO_4.out) hg hat); have n1_ := Aside0.mk (hb); have n2_ := Aside0.mk (ho); clear HO_4; clear HB; clear HO136; have HO_4 := n0_; have HB := n1_; have HO139 := n2_; clear n0_ n1_ n2_; clear ho hb hg hat))
              go_roundg k2
              case measure => have := HJ1.out; have := HK2.out; omega
              case rel => exact ⟨(IntKind.u64.wrap (Int.tdiv x3_2 10)), (y137), (by first | rfl | (simp; done) | (simp [i64_w]; done) | (simp [*]; done) | (simp [*, i64_w]; done) | (simp [*]; unfold wrap64; omega)), H', ⟨by have := HJ1.out; have := HK2.out; omega⟩, ⟨by (with_reducible repeat (first | apply Kd.R_alloc | apply Kd.R_drewN | apply Kd.R_drew)); exact Kd.R_mono HO139.out (fun _ hk => trivial)⟩, ⟨by repeat (first | (with_reducible first | exact HB.out | apply below_alloc | apply pw_below_drewN | apply below_drew1) | exact HB.out)⟩⟩
            · rw [if_neg c5] at H
              exact absurd H (by simp)
          · rw [if_neg c4] at H
            have c4b0 : decide (0 < x3_2) = false := decide_eq_false c4
            clear c4
            by_cases c10 : (x4_2.length : Int) = 0
            · rw [if_pos c10] at H
              have c10b0 : ((x4_2.length : Int) == 0) = true := beq_iff_eq.mpr c10
              have c10b1 : ((x4_2.length : Int) != 0) = false := bne_eq_false_iff_eq.mpr c10
              clear c10
              obtain ⟨y140, hy140⟩ : ∃ y_ : List Int, y_ = (([(IntKind.u64.wrap (48 + (Int.tmod x3_2 10))) % 256] : List Int)) := ⟨_, rfl⟩
              replace H : (if y140.length + x4_2.length < 140737488355328 then (templeref0_Decimal.l0 k2 a0 (IntKind.u64.wrap (Int.tdiv x3_2 10)) (y140 ++ x4_2)) else (none)) = some r := by first | (rw [hy140]; with_reducible exact H) | (have H2_ := (Option.bind_some _ _).symm.trans H; rw [hy140]; with_reducible exact H2_) | (have H2_ := (Option.bind_some _ _).symm.trans H; with_reducible exact H2_) | with_reducible exact H | (rw [hy140]; exact H) | exact H
              have Ny140 := Aside0.mk hy140
              clear hy140
              by_cases c11 : y140.length + x4_2.length < 140737488355328
              · rw [if_pos c11] at H
                have LMc11 := Aside0.mk c11
                clear c11
                obtain ⟨y143, hy143⟩ : ∃ y_ : List Int, y_ = (y140 ++ x4_2) := ⟨_, rfl⟩
                replace H : (templeref0_Decimal.l0 k2 a0 (IntKind.u64.wrap (Int.tdiv x3_2 10)) y143) = some r := by first | (rw [hy143]; with_reducible exact H) | (have H2_ := (Option.bind_some _ _).symm.trans H; rw [hy143]; with_reducible exact H2_) | (have H2_ := (Option.bind_some _ _).symm.trans H; with_reducible exact H2_) | with_reducible exact H | (rw [hy143]; exact H) | exact H
                have Ny143 := Aside0.mk hy143
                clear hy143
                have H' := Aside0.mk H
                clear H
                obtain ⟨Ao12, co12, eo12⟩ := Kd.R_slice HO_4.out
                subst eo12
                go_wp2_with (first | ((with_reducible refine gate_dst (N := 25) rfl ?_); (try (refine gate_guard (by rfl) ?_; dsimp only)); refine Kd.R_lit (Kd.int .u8) _ 5 ?hg (N := 25) ?hd (xs := ([(IntKind.u64.wrap (48 + (Int.tmod x3_2 10))) % 256] : List Int)) (inner := [.int .u8 ((IntKind.u64.wrap (48 + (Int.tmod x3_2 10))) % 256)]) (ok := fun _ => True) (okp := fun _ => True) ?hr ?hp (fun _ hk => hk) trivial (Below.refl _ _) (Nat.le_refl _) (by simp) ?_; (case hd => rfl); (case hg => rfl); (case hr => first | (go_simp; done) | (go_simp; rfl)); (case hp => exact (Reps.one (show Kd.M (Kd.int .u8) _ _ _ ((IntKind.u64.wrap (48 + (Int.tmod x3_2 10))) % 256) [.int .u8 ((IntKind.u64.wrap (48 + (Int.tmod x3_2 10))) % 256)] from rfl) (Reps.none _ _))); intro v141 w13 ho14 hb hg_ hnew_; clear hg_ hnew_; (first | rw [← Ny140.out] at ho14 | (simp only [Int.reduceToNat] at ho14; rw [← Ny140.out] at ho14)); have n0_ := Aside0.mk (Kd.R_elder' (by (with_reducible repeat (first | apply Kd.R_alloc | apply Kd.R_drewN | apply Kd.R_drew)); exact HO_4.out) (Kd.R_base ho14) hb); have n1_ := Aside0.mk (Kd.R_lower (Kd.R_new' ho14 (Kd.R_lt (by (with_reducible repeat (first | apply Kd.R_alloc | apply Kd.R_drewN | apply Kd.R_drew)); exact HO_4.out))) (below_size (by repeat (first | (with_reducible first | exact HB.out | apply below_alloc | apply pw_below_drewN | apply below_drew1) | exact HB.out)))); have n2_ := Aside0.mk (below_step (by repeat (first | (with_reducible first | exact HB.out | apply below_alloc | apply pw_below_drewN | apply below_drew1) | exact HB.out)) hb); clear HO_4; clear HB; have HO_4 := n0_; have HO142 := n1_; have HB := n2_; clear n0_ n1_ n2_; clear hb ho14) | ((with_reducible refine gate_builtin (b := .append) (xs := #[.tmp 25, .tmp 26]) rfl ?_); (try (refine gate_guard (by rfl) ?_; dsimp only)); at_builtin; refine Kd.R_append_rows (Kd.int .u8) (w0 := w) w.heap.size rfl (.tmp 25) (.tmp 26) 36 5 (.int .u8 0) 1 rfl Try.underlying36 info5 rfl (by decide) (by omega) v141 y140 x4_2 _ _ _ (fun k_ => some k_ ≠ (.slice Ao12 x4_2.length co12 : Value).ownBlock) (fun _ => False) rfl rfl ?aO ?aR (fun _ _ h => h) (fun _ h => h.elim) ?aF ?aB ?aS ?aL ?_; (case aR => repeat (first | exact (Kd.R_reads' HO_4.out).2.2 | (with_reducible refine Kd.C_alloc ?_ _) | (with_reducible refine Kd.C_drewN ?_ _) | (with_reducible refine Kd.C_drew ?_))); (case aB => exact (by repeat (first | (with_reducible first | exact HB.out | apply below_alloc | apply pw_below_drewN | apply below_drew1) | exact HB.out))); (case aF => exact (fun k_ hk => Kd.fresh' (Kd.R_lt (by (with_reducible repeat (first | apply Kd.R_alloc | apply Kd.R_drewN | apply Kd.R_drew)); exact HO_4.out)) k_ hk)); (case aO => exact (by (with_reducible repeat (first | apply Kd.R_alloc | apply Kd.R_drewN | apply Kd.R_drew)); exact Kd.R_mono HO142.out (fun _ hk => hk.2))); (case aS => exact (below_size (by repeat (first | (with_reducible first | exact HB.out | apply below_alloc | apply pw_below_drewN | apply below_drew1) | exact HB.out)))); (case aL => have := LMc11.out; omega); intro v144 w15 ho hb hg hat; rw [← Ny143.out] at ho; have n0_ := Aside0.mk (Kd.R_after (ok := (fun _ => True)) (by (with_reducible repeat (first | apply Kd.R_alloc | apply Kd.R_drewN | apply Kd.R_drew)); exact HO_4.out) hg hat); have n1_ := Aside0.mk (hb); have n2_ := Aside0.mk (ho); clear HO_4; clear HB; clear HO142; have HO_4 := n0_; have HB := n1_; have HO145 := n2_; clear n0_ n1_ n2_; clear ho hb hg hat))
                go_roundg k2
                case measure => have := HJ1.out; have := HK2.out; omega
                case rel => exact ⟨(IntKind.u64.wrap (Int.tdiv x3_2 10)), (y143), (by first | rfl | (simp; done) | (simp [i64_w]; done) | (simp [*]; done) | (simp [*, i64_w]; done) | (simp [*]; unfold wrap64; omega)), H', ⟨by have := HJ1.out; have := HK2.out; omega⟩, ⟨by (with_reducible repeat (first | apply Kd.R_alloc | apply Kd.R_drewN | apply Kd.R_drew)); exact Kd.R_mono HO145.out (fun _ hk => trivial)⟩, ⟨by repeat (first | (with_reducible first | exact HB.out | apply below_alloc | apply pw_below_drewN | apply below_drew1) | exact HB.out)⟩⟩
              · rw [if_neg c11] at H
                exact absurd H (by simp)
            · rw [if_neg c10] at H
              have c10b0 : ((x4_2.length : Int) == 0) = false := beq_eq_false_iff_ne.mpr c10
              have c10b1 : ((x4_2.length : Int) != 0) = true := bne_iff_ne.mpr c10
              have c10b2 : ¬ (x4_2 = []) := fun h_ => c10 (by rw [h_]; rfl)
              by_cases c16 : a0 < 0
              · rw [if_pos c16] at H
                have c16b0 : decide (a0 < 0) = true := decide_eq_true c16
                clear c16
                obtain ⟨y146, hy146⟩ : ∃ y_ : List Int, y_ = (([45] : List Int)) := ⟨_, rfl⟩
                replace H : (if y146.length + x4_2.length < 140737488355328 then (some (strOfNums (y146 ++ x4_2))) else (none)) = some r := by first | (rw [hy146]; with_reducible exact H) | (have H2_ := (Option.bind_some _ _).symm.trans H; rw [hy146]; with_reducible exact H2_) | (have H2_ := (Option.bind_some _ _).symm.trans H; with_reducible exact H2_) | with_reducible exact H | (rw [hy146]; exact H) | exact H
                have Ny146 := Aside0.mk hy146
                clear hy146
                by_cases c17 : y146.length + x4_2.length < 140737488355328
                · rw [if_pos c17] at H
                  have LMc17 := Aside0.mk c17
                  clear c17
                  obtain ⟨y149, hy149⟩ : ∃ y_ : List Int, y_ = (y146 ++ x4_2) := ⟨_, rfl⟩
                  replace H : (some (strOfNums y149)) = some r := by first | (rw [hy149]; with_reducible exact H) | (have H2_ := (Option.bind_some _ _).symm.trans H; rw [hy149]; with_reducible exact H2_) | (have H2_ := (Option.bind_some _ _).symm.trans H; with_reducible exact H2_) | with_reducible exact H | (rw [hy149]; exact H) | exact H
                  have Ny149 := Aside0.mk hy149
                  clear hy149
                  obtain rfl := Option.some.inj H
                  obtain ⟨Ao18, co18, eo18⟩ := Kd.R_slice HO_4.out
                  subst eo18
                  go_wp2_with (first | ((with_reducible refine gate_dst (N := 32) rfl ?_); (try (refine gate_guard (by rfl) ?_; dsimp only)); refine Kd.R_lit (Kd.int .u8) _ 5 ?hg (N := 32) ?hd (xs := ([45] : List Int)) (inner := [.int .u8 45]) (ok := fun _ => True) (okp := fun _ => True) ?hr ?hp (fun _ hk => hk) trivial (Below.refl _ _) (Nat.le_refl _) (by simp) ?_; (case hd => rfl); (case hg => rfl); (case hr => first | (go_simp; done) | (go_simp; rfl)); (case hp => exact (Reps.one (show Kd.M (Kd.int .u8) _ _ _ 45 [.int .u8 45] from rfl) (Reps.none _ _))); intro v147 w19 ho20 hb hg_ hnew_; clear hg_ hnew_; (first | rw [← Ny146.out] at ho20 | (simp only [Int.reduceToNat] at ho20; rw [← Ny146.out] at ho20)); have n0_ := Aside0.mk (Kd.R_elder' (by (with_reducible repeat (first | apply Kd.R_alloc | apply Kd.R_drewN | apply Kd.R_drew)); exact HO_4.out) (Kd.R_base ho20) hb); have n1_ := Aside0.mk (Kd.R_lower (Kd.R_new' ho20 (Kd.R_lt (by (with_reducible repeat (first | apply Kd.R_alloc | apply Kd.R_drewN | apply Kd.R_drew)); exact HO_4.out))) (below_size (by repeat (first | (with_reducible first | exact HB.out | apply below_alloc | apply pw_below_drewN | apply below_drew1) | exact HB.out)))); have n2_ := Aside0.mk (below_step (by repeat (first | (with_reducible first | exact HB.out | apply below_alloc | apply pw_below_drewN | apply below_drew1) | exact HB.out)) hb); clear HO_4; clear HB; have HO_4 := n0_; have HO148 := n1_; have HB := n2_; clear n0_ n1_ n2_; clear hb ho20) | ((with_reducible refine gate_builtin (b := .append) (xs := #[.tmp 32, .tmp 33]) rfl ?_); (try (refine gate_guard (by rfl) ?_; dsimp only)); at_builtin; refine Kd.R_append_rows (Kd.int .u8) (w0 := w) w.heap.size rfl (.tmp 32) (.tmp 33) 36 5 (.int .u8 0) 1 rfl Try.underlying36 info5 rfl (by decide) (by omega) v147 y146 x4_2 _ _ _ (fun k_ => some k_ ≠ (.slice Ao18 x4_2.length co18 : Value).ownBlock) (fun _ => False) rfl rfl ?aO ?aR (fun _ _ h => h) (fun _ h => h.elim) ?aF ?aB ?aS ?aL ?_; (case aR => repeat (first | exact (Kd.R_reads' HO_4.out).2.2 | (with_reducible refine Kd.C_alloc ?_ _) | (with_reducible refine Kd.C_drewN ?_ _) | (with_reducible refine Kd.C_drew ?_))); (case aB => exact (by repeat (first | (with_reducible first | exact HB.out | apply below_alloc | apply pw_below_drewN | apply below_drew1) | exact HB.out))); (case aF => exact (fun k_ hk => Kd.fresh' (Kd.R_lt (by (with_reducible repeat (first | apply Kd.R_alloc | apply Kd.R_drewN | apply Kd.R_drew)); exact HO_4.out)) k_ hk)); (case aO => exact (by (with_reducible repeat (first | apply Kd.R_alloc | apply Kd.R_drewN | apply Kd.R_drew)); exact Kd.R_mono HO148.out (fun _ hk => hk.2))); (case aS => exact (below_size (by repeat (first | (with_reducible first | exact HB.out | apply below_alloc | apply pw_below_drewN | apply below_drew1) | exact HB.out)))); (case aL => have := LMc17.out; omega); intro v150 w21 ho hb hg hat; rw [← Ny149.out] at ho; have n0_ := Aside0.mk (Kd.R_after (ok := (fun _ => True)) (by (with_reducible repeat (first | apply Kd.R_alloc | apply Kd.R_drewN | apply Kd.R_drew)); exact HO_4.out) hg hat); have n1_ := Aside0.mk (hb); have n2_ := Aside0.mk (ho); clear HO_4; clear HB; clear HO148; have HO_4 := n0_; have HB := n1_; have HO151 := n2_; clear n0_ n1_ n2_; clear ho hb hg hat; have hcv22 := own_string (P := Try.prog) Try.underlying36 Try.underlying5 Try.underlying9 (Kd.own_of_R HO151.out)))
                  go_ret
                  exact ⟨by first | rfl | (simp [errW_none, errW_some] <;> rfl) | (simp [*, errW_none, errW_some] <;> rfl), by repeat (first | (with_reducible first | exact HB.out | apply below_alloc | apply pw_below_drewN | apply below_drew1) | exact HB.out)⟩
                · rw [if_neg c17] at H
                  exact absurd H (by simp)
              · rw [if_neg c16] at H
                have c16b0 : decide (a0 < 0) = false := decide_eq_false c16
                clear c16
                obtain rfl := Option.some.inj H
                obtain ⟨Ao23, co23, eo23⟩ := Kd.R_slice HO_4.out
                subst eo23
                have hcv24 := own_string (P := Try.prog) Try.underlying36 Try.underlying5 Try.underlying9 (Kd.own_of_R HO_4.out)
                go_wp2
                go_ret
                exact ⟨by first | rfl | (simp [errW_none, errW_some] <;> rfl) | (simp [*, errW_none, errW_some] <;> rfl), by repeat (first | (with_reducible first | exact HB.out | apply below_alloc | apply pw_below_drewN | apply below_drew1) | exact HB.out)⟩

end Go.Proofs.Ytimmkmfcpfjgfaa.PSR
