-- written by a program of the session's (wip/myprint.py) out of the translation
import Derived.Test.YtimmkmfcpfjgfaaPS5x0
import Derived.Test.YtimmkmfcpfjgfaaPS5x20
import Derived.Test.YtimmkmfcpfjgfaaPS5x32
import Derived.Test.YtimmkmfcpfjgfaaPS5x37
namespace Go.Proofs.Ytimmkmfcpfjgfaa.PS5
open Go.RowKit Go.Proofs.YtimmkmfcpfjgfaaW.PrintWords Go.Proofs.YtimmkmfcpfjgfaaW.PrintLast Go.Proofs.YtimmkmfcpfjgfaaW.PrintMore
attribute [local go_sem] max2_int min2_int max_two min_two max_three min_three max_four min_four   -- for this text's walks alone
set_option linter.unusedVariables false
set_option linter.unusedSimpArgs false

/-! ### templelaw5_ShowBytes: function 4 -/
mutual
def templelaw5_ShowBytes.j1 : Nat → Int → ByteArray → ByteArray → Option (Bool)
  | 0, _, _, _ => none
  | k + 1, x3, x6, x7 => (show_Show.f 0 (([(⟨#[113]⟩ : ByteArray)] : List ByteArray)) (([(⟨0, (([(⟨false, (([(⟨(-1), x3, x3⟩ : S38)] : List (S38)))⟩ : S41)] : List (S41)))⟩ : S44)] : List (S44)))).bind fun bt277 => ((templelaw0_Num.f bt277.2).bind fun t279 => (if t279 = 0 then (if 14 + x6.size ≤ 9223372036854775807 then (if ((⟨#[115, 116, 97, 114, 116, 32, 113, 59, 10, 113, 32, 61, 32, 34]⟩ : ByteArray) ++ x6).size + 3 ≤ 9223372036854775807 then (if bt277.1.toList = (((⟨#[115, 116, 97, 114, 116, 32, 113, 59, 10, 113, 32, 61, 32, 34]⟩ : ByteArray) ++ x6) ++ (⟨#[34, 59, 10]⟩ : ByteArray)).toList then (if x3 = 255 then (some true) else ((show_Show.f 0 (([(⟨#[113]⟩ : ByteArray)] : List ByteArray)) (([(⟨0, (([(⟨false, (([(⟨(-1), x3, 255⟩ : S38)] : List (S38)))⟩ : S41)] : List (S41)))⟩ : S44)] : List (S44)))).bind fun bt292 => ((templelaw0_Num.f bt292.2).bind fun t294 => (if t294 = 0 then (if 14 + x7.size ≤ 9223372036854775807 then (if ((⟨#[115, 116, 97, 114, 116, 32, 113, 59, 10, 113, 32, 61, 32, 39]⟩ : ByteArray) ++ x7).size + 11 ≤ 9223372036854775807 then (some (bt292.1.toList == (((⟨#[115, 116, 97, 114, 116, 32, 113, 59, 10, 113, 32, 61, 32, 39]⟩ : ByteArray) ++ x7) ++ (⟨#[39, 46, 46, 39, 92, 120, 102, 102, 39, 59, 10]⟩ : ByteArray)).toList)) else (none)) else (none)) else (none))))) else (none)) else (none)) else (none)) else (none)))
def templelaw5_ShowBytes.j0 : Nat → Int → ByteArray → ByteArray → ByteArray → Bool → Option (Bool)
  | 0, _, _, _, _, _ => none
  | k + 1, x3, x4, x6, x7, x22 => if x22 = true then (if 0 ≤ (wrap64 (Int.tdiv x3 16)) then (if (wrap64 (Int.tdiv x3 16)) < (x4.size : Int) then (if 0 ≤ (Int.tmod x3 16) then (if (Int.tmod x3 16) < (x4.size : Int) then ((some (([bt x4 (wrap64 (Int.tdiv x3 16)), bt x4 (Int.tmod x3 16)] : List Int) : List Int)).bind fun y262 => (if 2 + (strOfNums y262).size ≤ 9223372036854775807 then (templelaw5_ShowBytes.j1 k x3 ((⟨#[92, 120]⟩ : ByteArray) ++ (strOfNums y262)) ((⟨#[92, 120]⟩ : ByteArray) ++ (strOfNums y262))) else (none))) else (none)) else (none)) else (none)) else (none)) else (if x3 = 92 then (templelaw5_ShowBytes.j1 k x3 (⟨#[92, 92]⟩ : ByteArray) (⟨#[92, 92]⟩ : ByteArray)) else (if x3 = 34 then (templelaw5_ShowBytes.j1 k x3 (⟨#[92, 34]⟩ : ByteArray) x7) else (if x3 = 39 then (templelaw5_ShowBytes.j1 k x3 x6 (⟨#[92, 39]⟩ : ByteArray)) else (templelaw5_ShowBytes.j1 k x3 x6 x7))))
end
def templelaw5_ShowBytes.f (k : Nat) (a0 : Int) : Option (Bool) := (templelaw5_awake.f).bind fun t258 => (if t258 = true then ((some (([(Go.bits .and .i64 a0 255) % 256] : List Int) : List Int)).bind fun y259 => (if (Go.bits .and .i64 a0 255) < 32 then (templelaw5_ShowBytes.j0 k (Go.bits .and .i64 a0 255) (⟨#[48, 49, 50, 51, 52, 53, 54, 55, 56, 57, 97, 98, 99, 100, 101, 102]⟩ : ByteArray) (strOfNums y259) (strOfNums y259) true) else (templelaw5_ShowBytes.j0 k (Go.bits .and .i64 a0 255) (⟨#[48, 49, 50, 51, 52, 53, 54, 55, 56, 57, 97, 98, 99, 100, 101, 102]⟩ : ByteArray) (strOfNums y259) (strOfNums y259) (decide ((Go.bits .and .i64 a0 255) > 126))))) else (none))
theorem templelaw5_ShowBytes.mono_l : ∀ k, (∀ y0 y1 y2, LeO (templelaw5_ShowBytes.j1 k y0 y1 y2) (templelaw5_ShowBytes.j1 (k + 1) y0 y1 y2)) ∧ (∀ y0 y1 y2 y3 y4, LeO (templelaw5_ShowBytes.j0 k y0 y1 y2 y3 y4) (templelaw5_ShowBytes.j0 (k + 1) y0 y1 y2 y3 y4))
  | 0 => ⟨fun _ _ _ r h => by simp [templelaw5_ShowBytes.j1] at h, fun _ _ _ _ _ r h => by simp [templelaw5_ShowBytes.j0] at h⟩
  | k + 1 => by
    obtain ⟨ih0, ih1⟩ := templelaw5_ShowBytes.mono_l k
    refine ⟨?_, ?_⟩
    · intro y0 y1 y2
      unfold templelaw5_ShowBytes.j1
      repeat' first
      | (with_reducible exact ih0 _ _ _)
      | (with_reducible exact ih1 _ _ _ _ _)
      | (with_reducible exact LeO.refl _)
      | (with_reducible exact LeO.none _)
      | (with_reducible refine LeO.ite ?_ ?_)
      | (with_reducible refine LeO.bind ?_ (fun _ => ?_))
      | exact ih0 _ _ _
      | exact ih1 _ _ _ _ _
      | exact LeO.none _
      | refine LeO.ite ?_ ?_
      | refine LeO.bind ?_ (fun _ => ?_)
    · intro y0 y1 y2 y3 y4
      unfold templelaw5_ShowBytes.j0
      repeat' first
      | (with_reducible exact ih0 _ _ _)
      | (with_reducible exact ih1 _ _ _ _ _)
      | (with_reducible exact LeO.refl _)
      | (with_reducible exact LeO.none _)
      | (with_reducible refine LeO.ite ?_ ?_)
      | (with_reducible refine LeO.bind ?_ (fun _ => ?_))
      | exact ih0 _ _ _
      | exact ih1 _ _ _ _ _
      | exact LeO.none _
      | refine LeO.ite ?_ ?_
      | refine LeO.bind ?_ (fun _ => ?_)
theorem templelaw5_ShowBytes.mono : ∀ a0 k, LeO (templelaw5_ShowBytes.f k a0) (templelaw5_ShowBytes.f (k + 1) a0) := by
  intro a0 k
  obtain ⟨ih0, ih1⟩ := templelaw5_ShowBytes.mono_l k
  unfold templelaw5_ShowBytes.f
  repeat' first
      | (with_reducible exact ih0 _ _ _)
      | (with_reducible exact ih1 _ _ _ _ _)
      | (with_reducible exact LeO.refl _)
      | (with_reducible exact LeO.none _)
      | (with_reducible refine LeO.ite ?_ ?_)
      | (with_reducible refine LeO.bind ?_ (fun _ => ?_))
      | exact ih0 _ _ _
      | exact ih1 _ _ _ _ _
      | exact LeO.none _
      | refine LeO.ite ?_ ?_
      | refine LeO.bind ?_ (fun _ => ?_)
def templelaw5_ShowBytes.T8 : Bool × List (List Nat × List Nat) := (true, [([], []), ([], []), ([1], [1]), ([0, 2], [0, 2]), ([], []), ([], []), ([5], [5]), ([4, 6], [4, 6]), ([3, 7], [3, 7]), ([8], [8]), ([9], [9]), ([10, 0, 1, 2, 3, 4, 5, 6, 7, 8, 9, 10], [10])])
def templelaw5_ShowBytes.B8 : List Nat := [0, 0, 2, 7, 0, 0, 32, 112, 255, 511, 1023, 2047]
theorem templelaw5_ShowBytes.tab8 : rtab .any (opsOf Try.f4 8) = templelaw5_ShowBytes.T8 := by kernel_rfl
theorem templelaw5_ShowBytes.bits8 : waitsOk templelaw5_ShowBytes.T8.2 templelaw5_ShowBytes.B8 = true := by kernel_rfl
set_option maxHeartbeats 8000000 in
set_option maxRecDepth 100000 in
theorem templelaw5_ShowBytes.calls (k : Nat) (a0 : Int) (r : Bool) (w : World) (h : templelaw5_ShowBytes.f k a0 = some r) :
    Calls Try.prog 4 #[.int .i64 a0] w fun e w' => e = .returned (.bool r) ∧ Below w.heap.size w w' := by
  have hu38 := Try.underlying38
  have hu41 := Try.underlying41
  have hu44 := Try.underlying44
  have hu25 := Try.underlying25
  have HB := Aside0.mk (Below.refl w.heap.size w)
  have H : ((templelaw5_awake.f).bind fun t258 => (if t258 = true then ((some (([(Go.bits .and .i64 a0 255) % 256] : List Int) : List Int)).bind fun y259 => (if (Go.bits .and .i64 a0 255) < 32 then (templelaw5_ShowBytes.j0 k (Go.bits .and .i64 a0 255) (⟨#[48, 49, 50, 51, 52, 53, 54, 55, 56, 57, 97, 98, 99, 100, 101, 102]⟩ : ByteArray) (strOfNums y259) (strOfNums y259) true) else (templelaw5_ShowBytes.j0 k (Go.bits .and .i64 a0 255) (⟨#[48, 49, 50, 51, 52, 53, 54, 55, 56, 57, 97, 98, 99, 100, 101, 102]⟩ : ByteArray) (strOfNums y259) (strOfNums y259) (decide ((Go.bits .and .i64 a0 255) > 126))))) else (none))) = some r := h
  clear h
  replace H := Option.bind_eq_some_iff.mp H
  obtain ⟨t258, A20, H⟩ := H
  replace H : (if t258 = true then ((some (([(Go.bits .and .i64 a0 255) % 256] : List Int) : List Int)).bind fun y259 => (if (Go.bits .and .i64 a0 255) < 32 then (templelaw5_ShowBytes.j0 k (Go.bits .and .i64 a0 255) (⟨#[48, 49, 50, 51, 52, 53, 54, 55, 56, 57, 97, 98, 99, 100, 101, 102]⟩ : ByteArray) (strOfNums y259) (strOfNums y259) true) else (templelaw5_ShowBytes.j0 k (Go.bits .and .i64 a0 255) (⟨#[48, 49, 50, 51, 52, 53, 54, 55, 56, 57, 97, 98, 99, 100, 101, 102]⟩ : ByteArray) (strOfNums y259) (strOfNums y259) (decide ((Go.bits .and .i64 a0 255) > 126))))) else (none)) = some r := H
  have A2 := Aside0.mk A20
  clear A20
  by_cases c3 : t258 = true
  · subst c3
    have H1 : ((some (([(Go.bits .and .i64 a0 255) % 256] : List Int) : List Int)).bind fun y259 => (if (Go.bits .and .i64 a0 255) < 32 then (templelaw5_ShowBytes.j0 k (Go.bits .and .i64 a0 255) (⟨#[48, 49, 50, 51, 52, 53, 54, 55, 56, 57, 97, 98, 99, 100, 101, 102]⟩ : ByteArray) (strOfNums y259) (strOfNums y259) true) else (templelaw5_ShowBytes.j0 k (Go.bits .and .i64 a0 255) (⟨#[48, 49, 50, 51, 52, 53, 54, 55, 56, 57, 97, 98, 99, 100, 101, 102]⟩ : ByteArray) (strOfNums y259) (strOfNums y259) (decide ((Go.bits .and .i64 a0 255) > 126))))) = some r := by rw [if_pos rfl] at H; exact H
    clear H
    have H := H1
    clear H1
    obtain ⟨y259, hy259⟩ : ∃ y_ : List Int, y_ = (([(Go.bits .and .i64 a0 255) % 256] : List Int)) := ⟨_, rfl⟩
    replace H : (if (Go.bits .and .i64 a0 255) < 32 then (templelaw5_ShowBytes.j0 k (Go.bits .and .i64 a0 255) (⟨#[48, 49, 50, 51, 52, 53, 54, 55, 56, 57, 97, 98, 99, 100, 101, 102]⟩ : ByteArray) (strOfNums y259) (strOfNums y259) true) else (templelaw5_ShowBytes.j0 k (Go.bits .and .i64 a0 255) (⟨#[48, 49, 50, 51, 52, 53, 54, 55, 56, 57, 97, 98, 99, 100, 101, 102]⟩ : ByteArray) (strOfNums y259) (strOfNums y259) (decide ((Go.bits .and .i64 a0 255) > 126)))) = some r := by first | (rw [hy259]; with_reducible exact H) | (have H2_ := (Option.bind_some _ _).symm.trans H; rw [hy259]; with_reducible exact H2_) | (have H2_ := (Option.bind_some _ _).symm.trans H; with_reducible exact H2_) | with_reducible exact H | (rw [hy259]; exact H) | exact H
    have Ny259 := Aside0.mk hy259
    clear hy259
    have HC4 := Aside0.mk H
    clear H
    go_enter Try.func4, Try.ntmps4
    go_upto_block 0 with (first | ((with_reducible refine gate_callee (f := 14) rfl ?_); refine goesL_ (some 12) rfl rfl Try.func14 (by kernel_rfl) rfl #[] rfl (by (try simp only [List.map_toArray, List.map_cons, List.map_nil]); first | done | rfl | (simp only [List.length_drop, List.length_take]; rfl)) ?_; (with_reducible refine (templelaw5_awake.calls  true _ A2.out).mono ?_); rintro e w5 ⟨rfl, hb⟩; refine ⟨_, rfl, ?_⟩; have n0_ := Aside0.mk (below_step (by repeat (first | (with_reducible first | exact HB.out | apply below_alloc | apply pw_below_drewN | apply below_drew1) | exact HB.out)) hb); clear HB; have HB := n0_; clear n0_; (try clear hb); (try clear hb2); (try clear hk); (try clear hi)) | ((with_reducible refine gate_dst (N := 18) rfl ?_); refine Kd.R_lit (Kd.int .u8) _ 5 ?hg (N := 18) ?hd (xs := ([(Go.bits .and .i64 a0 255) % 256] : List Int)) (inner := [.int .u8 ((Go.bits .and .i64 a0 255) % 256)]) (ok := fun _ => True) (okp := fun _ => True) ?hr ?hp (fun _ hk => hk) trivial (Below.refl _ _) (Nat.le_refl _) (by simp) ?_; (case hd => rfl); (case hg => rfl); (case hr => first | (go_simp; done) | (go_simp; rfl)); (case hp => exact (Reps.one (show Kd.M (Kd.int .u8) _ _ _ ((Go.bits .and .i64 a0 255) % 256) [.int .u8 ((Go.bits .and .i64 a0 255) % 256)] from rfl) (Reps.none _ _))); intro v260 w6 ho7 hb hg_ hnew_; clear hg_ hnew_; (first | rw [← Ny259.out] at ho7 | (simp only [Int.reduceToNat] at ho7; rw [← Ny259.out] at ho7)); have n0_ := Aside0.mk (Kd.R_lower ho7 (below_size (by repeat (first | (with_reducible first | exact HB.out | apply below_alloc | apply pw_below_drewN | apply below_drew1) | exact HB.out)))); have n1_ := Aside0.mk (below_step (by repeat (first | (with_reducible first | exact HB.out | apply below_alloc | apply pw_below_drewN | apply below_drew1) | exact HB.out)) hb); clear HB; have HO261 := n0_; have HB := n1_; clear n0_ n1_; clear hb ho7; have hcv8 := own_string (P := Try.prog) Try.underlying36 Try.underlying5 Try.underlying9 (Kd.own_of_R HO261.out)))
    (try simp only [Act.put, List.setIfInBounds_toArray, List.set_cons_zero, List.set_cons_succ])
    go_cut [6, 7] (fun v6 v7 wc => ∃ (kq : Nat) (x6_3 : ByteArray) (x7_3 : ByteArray), v6 = .string x6_3 ∧ v7 = .string x7_3 ∧ Aside0 (templelaw5_ShowBytes.j1 kq (Go.bits .and .i64 a0 255) x6_3 x7_3 = some r) ∧ Aside0 (kq ≤ k) ∧ Aside0 (Below w.heap.size w wc))
    case first =>
      have H := HC4.out
      clear HC4
      have HC9 := Aside0.mk H
      clear H
      go_upto_region 7 with (fail)
      go_cut [22] (fun v22 wc => ∃ (kq : Nat) (x22_8 : Bool), v22 = .bool x22_8 ∧ Aside0 (templelaw5_ShowBytes.j0 kq (Go.bits .and .i64 a0 255) (⟨#[48, 49, 50, 51, 52, 53, 54, 55, 56, 57, 97, 98, 99, 100, 101, 102]⟩ : ByteArray) (strOfNums y259) (strOfNums y259) x22_8 = some r) ∧ Aside0 (kq ≤ k) ∧ Aside0 (Below w.heap.size w wc))
      case first =>
        have H := HC9.out
        clear HC9
        by_cases c10 : (Go.bits .and .i64 a0 255) < 32
        · rw [if_pos c10] at H
          have c10b0 : decide ((Go.bits .and .i64 a0 255) < 32) = true := decide_eq_true c10
          clear c10
          (first | rw [c10b0] | (simp only [i64_w, i32_w]; rw [c10b0]) | skip)
          have H' := Aside0.mk H
          clear H
          go_wp2
          go_meet
          case rel => exact ⟨_, (true), (by first | rfl | (simp; done) | (simp [i64_w]; done) | (simp [*]; done) | (simp [*, i64_w]; done) | (simp [*]; unfold wrap64; omega)), H', ⟨by first | omega | exact Nat.le_refl _⟩, ⟨by repeat (first | (with_reducible first | exact HB.out | apply below_alloc | apply pw_below_drewN | apply below_drew1) | exact HB.out)⟩⟩
        · rw [if_neg c10] at H
          have c10b0 : decide ((Go.bits .and .i64 a0 255) < 32) = false := decide_eq_false c10
          clear c10
          (first | rw [c10b0] | (simp only [i64_w, i32_w]; rw [c10b0]) | skip)
          have H' := Aside0.mk H
          clear H
          go_wp2
          go_meet
          case rel => exact ⟨_, (decide ((Go.bits .and .i64 a0 255) > 126)), (by first | rfl | (simp; done) | (simp [i64_w]; done) | (simp [*]; done) | (simp [*, i64_w]; done) | (simp [*]; unfold wrap64; omega)), H', ⟨by first | omega | exact Nat.le_refl _⟩, ⟨by repeat (first | (with_reducible first | exact HB.out | apply below_alloc | apply pw_below_drewN | apply below_drew1) | exact HB.out)⟩⟩
      case rest =>
        clear HC9
        try clear c1
        try clear p2
        try clear c3
        try clear c4
        try clear hcv8
        try clear c10
        try clear c10b0
        obtain ⟨kq, x22_8, rfl, HA, HJ8, HB⟩ := hcut
        cases kq with
        | zero => exact absurd HA.out (by simp [templelaw5_ShowBytes.j0])
        | succ kj8 =>
          have H := HA.out
          clear HA
          simp only [templelaw5_ShowBytes.j0] at H
          by_cases c11 : x22_8 = true
          · subst c11
            have H1 : (if 0 ≤ (wrap64 (Int.tdiv (Go.bits .and .i64 a0 255) 16)) then (if (wrap64 (Int.tdiv (Go.bits .and .i64 a0 255) 16)) < ((⟨#[48, 49, 50, 51, 52, 53, 54, 55, 56, 57, 97, 98, 99, 100, 101, 102]⟩ : ByteArray).size : Int) then (if 0 ≤ (Int.tmod (Go.bits .and .i64 a0 255) 16) then (if (Int.tmod (Go.bits .and .i64 a0 255) 16) < ((⟨#[48, 49, 50, 51, 52, 53, 54, 55, 56, 57, 97, 98, 99, 100, 101, 102]⟩ : ByteArray).size : Int) then ((some (([bt (⟨#[48, 49, 50, 51, 52, 53, 54, 55, 56, 57, 97, 98, 99, 100, 101, 102]⟩ : ByteArray) (wrap64 (Int.tdiv (Go.bits .and .i64 a0 255) 16)), bt (⟨#[48, 49, 50, 51, 52, 53, 54, 55, 56, 57, 97, 98, 99, 100, 101, 102]⟩ : ByteArray) (Int.tmod (Go.bits .and .i64 a0 255) 16)] : List Int) : List Int)).bind fun y262 => (if 2 + (strOfNums y262).size ≤ 9223372036854775807 then (templelaw5_ShowBytes.j1 kj8 (Go.bits .and .i64 a0 255) ((⟨#[92, 120]⟩ : ByteArray) ++ (strOfNums y262)) ((⟨#[92, 120]⟩ : ByteArray) ++ (strOfNums y262))) else (none))) else (none)) else (none)) else (none)) else (none)) = some r := by rw [if_pos rfl] at H; exact H
            clear H
            have H := H1
            clear H1
            obtain ⟨ji12, hji12⟩ : ∃ j_ : Int, (wrap64 (Int.tdiv (Go.bits .and .i64 a0 255) 16)) = j_ := ⟨_, rfl⟩
            replace H : (if 0 ≤ (ji12) then (if (ji12) < ((⟨#[48, 49, 50, 51, 52, 53, 54, 55, 56, 57, 97, 98, 99, 100, 101, 102]⟩ : ByteArray).size : Int) then (if 0 ≤ (Int.tmod (Go.bits .and .i64 a0 255) 16) then (if (Int.tmod (Go.bits .and .i64 a0 255) 16) < ((⟨#[48, 49, 50, 51, 52, 53, 54, 55, 56, 57, 97, 98, 99, 100, 101, 102]⟩ : ByteArray).size : Int) then ((some (([bt (⟨#[48, 49, 50, 51, 52, 53, 54, 55, 56, 57, 97, 98, 99, 100, 101, 102]⟩ : ByteArray) (ji12), bt (⟨#[48, 49, 50, 51, 52, 53, 54, 55, 56, 57, 97, 98, 99, 100, 101, 102]⟩ : ByteArray) (Int.tmod (Go.bits .and .i64 a0 255) 16)] : List Int) : List Int)).bind fun y262 => (if 2 + (strOfNums y262).size ≤ 9223372036854775807 then (templelaw5_ShowBytes.j1 kj8 (Go.bits .and .i64 a0 255) ((⟨#[92, 120]⟩ : ByteArray) ++ (strOfNums y262)) ((⟨#[92, 120]⟩ : ByteArray) ++ (strOfNums y262))) else (none))) else (none)) else (none)) else (none)) else (none)) = some r := by first | (rw [hji12] at H; exact H) | (simp only [hji12] at H ⊢; exact H)
            have hji12w : (IntKind.i64.wrap (Int.tdiv (Go.bits .and .i64 a0 255) 16)) = ji12 := (i64_w _).trans hji12
            by_cases c13 : 0 ≤ (ji12)
            · rw [if_pos c13] at H
              have c13b0 : decide (0 ≤ (ji12)) = true := decide_eq_true c13
              clear c13
              by_cases c14 : (ji12) < ((⟨#[48, 49, 50, 51, 52, 53, 54, 55, 56, 57, 97, 98, 99, 100, 101, 102]⟩ : ByteArray).size : Int)
              · rw [if_pos c14] at H
                have c14b0 : decide ((ji12) < ((⟨#[48, 49, 50, 51, 52, 53, 54, 55, 56, 57, 97, 98, 99, 100, 101, 102]⟩ : ByteArray).size : Int)) = true := decide_eq_true c14
                clear c14
                obtain ⟨ji16, hji16⟩ : ∃ j_ : Int, (Int.tmod (Go.bits .and .i64 a0 255) 16) = j_ := ⟨_, rfl⟩
                replace H : (if 0 ≤ (ji16) then (if (ji16) < ((⟨#[48, 49, 50, 51, 52, 53, 54, 55, 56, 57, 97, 98, 99, 100, 101, 102]⟩ : ByteArray).size : Int) then ((some (([bt (⟨#[48, 49, 50, 51, 52, 53, 54, 55, 56, 57, 97, 98, 99, 100, 101, 102]⟩ : ByteArray) (ji12), bt (⟨#[48, 49, 50, 51, 52, 53, 54, 55, 56, 57, 97, 98, 99, 100, 101, 102]⟩ : ByteArray) (ji16)] : List Int) : List Int)).bind fun y262 => (if 2 + (strOfNums y262).size ≤ 9223372036854775807 then (templelaw5_ShowBytes.j1 kj8 (Go.bits .and .i64 a0 255) ((⟨#[92, 120]⟩ : ByteArray) ++ (strOfNums y262)) ((⟨#[92, 120]⟩ : ByteArray) ++ (strOfNums y262))) else (none))) else (none)) else (none)) = some r := by first | (rw [hji16] at H; exact H) | (simp only [hji16] at H ⊢; exact H)
                by_cases c17 : 0 ≤ (ji16)
                · rw [if_pos c17] at H
                  have c17b0 : decide (0 ≤ (ji16)) = true := decide_eq_true c17
                  clear c17
                  by_cases c18 : (ji16) < ((⟨#[48, 49, 50, 51, 52, 53, 54, 55, 56, 57, 97, 98, 99, 100, 101, 102]⟩ : ByteArray).size : Int)
                  · rw [if_pos c18] at H
                    have c18b0 : decide ((ji16) < ((⟨#[48, 49, 50, 51, 52, 53, 54, 55, 56, 57, 97, 98, 99, 100, 101, 102]⟩ : ByteArray).size : Int)) = true := decide_eq_true c18
                    clear c18
                    obtain ⟨y262, hy262⟩ : ∃ y_ : List Int, y_ = (([bt (⟨#[48, 49, 50, 51, 52, 53, 54, 55, 56, 57, 97, 98, 99, 100, 101, 102]⟩ : ByteArray) (ji12), bt (⟨#[48, 49, 50, 51, 52, 53, 54, 55, 56, 57, 97, 98, 99, 100, 101, 102]⟩ : ByteArray) (ji16)] : List Int)) := ⟨_, rfl⟩
                    replace H : (if 2 + (strOfNums y262).size ≤ 9223372036854775807 then (templelaw5_ShowBytes.j1 kj8 (Go.bits .and .i64 a0 255) ((⟨#[92, 120]⟩ : ByteArray) ++ (strOfNums y262)) ((⟨#[92, 120]⟩ : ByteArray) ++ (strOfNums y262))) else (none)) = some r := by first | (rw [hy262]; with_reducible exact H) | (have H2_ := (Option.bind_some _ _).symm.trans H; rw [hy262]; with_reducible exact H2_) | (have H2_ := (Option.bind_some _ _).symm.trans H; with_reducible exact H2_) | with_reducible exact H | (rw [hy262]; exact H) | exact H
                    have Ny262 := Aside0.mk hy262
                    clear hy262
                    by_cases c20 : 2 + (strOfNums y262).size ≤ 9223372036854775807
                    · rw [if_pos c20] at H
                      have c20b0 := eq_true c20
                      have c20b1 : decide (2 + (strOfNums y262).size ≤ 9223372036854775807) = true := decide_eq_true c20
                      try have c20b2 : (9223372036854775807 < 2 + (strOfNums y262).size) = False := eq_false (Nat.not_lt.2 c20)
                      have H' := Aside0.mk H
                      clear H
                      try go_wp2
                      have n0_ := Aside0.mk (below_drew1 HB.out)
                      clear HB
                      have HB := n0_
                      clear n0_
                      have p15 : 0 ≤ ((ji12) : Int) := of_decide_eq_true (by first | (with_reducible assumption) | assumption)
                      have q15 : (ji12) < (16 : Int) := of_decide_eq_true (by first | (with_reducible assumption) | assumption)
                      have hx15 := bt_at (⟨#[48, 49, 50, 51, 52, 53, 54, 55, 56, 57, 97, 98, 99, 100, 101, 102]⟩ : ByteArray) (ji12)
                      replace p15 := eq_true p15
                      replace q15 := eq_true q15
                      have p19 : 0 ≤ ((ji16) : Int) := of_decide_eq_true (by first | (with_reducible assumption) | assumption)
                      have q19 : (ji16) < (16 : Int) := of_decide_eq_true (by first | (with_reducible assumption) | assumption)
                      have hx19 := bt_at (⟨#[48, 49, 50, 51, 52, 53, 54, 55, 56, 57, 97, 98, 99, 100, 101, 102]⟩ : ByteArray) (ji16)
                      replace p19 := eq_true p19
                      replace q19 := eq_true q19
                      refine start_ (n := 12) (S := fun w' => True) (ds := []) #[false, false, false, false, false, false, false, false, false, false, false, false] (by kernel_rfl) rfl rfl trivial (fun hHeld => ?_); refine with_tabW templelaw5_ShowBytes.tab8 templelaw5_ShowBytes.bits8 (fun HT_ HW_ => ?_)
                      generalize wc.drew = w21 at HB hHeld ⊢
                      refine pure_ (i := 0) (N := some 29) (v := ?_) (a' := ?_) #[true, false, false, false, false, false, false, false, false, false, false, false] rfl rfl (any_of HT_.out (by kernel_rfl)) (fun _ _ _ h => h) (Or.inl ⟨by rfl, ?_⟩) ?_ ?_
                      rotate_left
                      · intro w'
                        go_simp
                        with_reducible rfl
                      rotate_left
                      · simp only [Act.put, List.setIfInBounds_toArray, List.set_cons_zero, List.set_cons_succ, i64_w, i32_w]
                        rfl
                      refine pure_ (i := 1) (N := some 30) (v := ?_) (a' := ?_) #[true, true, false, false, false, false, false, false, false, false, false, false] rfl rfl (any_of HT_.out (by kernel_rfl)) (fun _ _ _ h => h) (Or.inl ⟨by rfl, ?_⟩) ?_ ?_
                      rotate_left
                      · intro w'
                        go_simp
                        with_reducible rfl
                      rotate_left
                      · simp only [Act.put, List.setIfInBounds_toArray, List.set_cons_zero, List.set_cons_succ, i64_w, i32_w]
                        rfl
                      refine pure_ (i := 2) (N := some 31) (v := ?_) (a' := ?_) #[true, true, true, false, false, false, false, false, false, false, false, false] rfl rfl (any_of HT_.out (by kernel_rfl)) (fun _ _ _ h => h) (Or.inl ⟨by rfl, ?_⟩) ?_ ?_
                      rotate_left
                      · intro w'
                        go_simp
                        with_reducible rfl
                      rotate_left
                      · simp only [Act.put, List.setIfInBounds_toArray, List.set_cons_zero, List.set_cons_succ, i64_w, i32_w]
                        rfl
                      refine pure_ (i := 4) (N := some 33) (v := ?_) (a' := ?_) #[true, true, true, false, true, false, false, false, false, false, false, false] rfl rfl (any_of HT_.out (by kernel_rfl)) (fun _ _ _ h => h) (Or.inl ⟨by rfl, ?_⟩) ?_ ?_
                      rotate_left
                      · intro w'
                        go_simp
                        with_reducible rfl
                      rotate_left
                      · simp only [Act.put, List.setIfInBounds_toArray, List.set_cons_zero, List.set_cons_succ, i64_w, i32_w]
                        rfl
                      refine pure_ (i := 5) (N := some 34) (v := ?_) (a' := ?_) #[true, true, true, false, true, true, false, false, false, false, false, false] rfl rfl (any_of HT_.out (by kernel_rfl)) (fun _ _ _ h => h) (Or.inl ⟨by rfl, ?_⟩) ?_ ?_
                      rotate_left
                      · intro w'
                        go_simp
                        with_reducible rfl
                      rotate_left
                      · simp only [Act.put, List.setIfInBounds_toArray, List.set_cons_zero, List.set_cons_succ, i64_w, i32_w]
                        rfl
                      refine pure_ (i := 6) (N := some 35) (v := ?_) (a' := ?_) #[true, true, true, false, true, true, true, false, false, false, false, false] rfl rfl (any_of HT_.out (by kernel_rfl)) (fun _ _ _ h => h) (Or.inl ⟨by rfl, ?_⟩) ?_ ?_
                      rotate_left
                      · intro w'
                        go_simp
                        with_reducible rfl
                      rotate_left
                      · simp only [Act.put, List.setIfInBounds_toArray, List.set_cons_zero, List.set_cons_succ, i64_w, i32_w]
                        rfl
                      refine take_ (i := 3) (N := some 32) (v := ?_) (a' := ?_) #[true, true, true, true, true, true, true, false, false, false, false, false] rfl rfl (take_ofW HT_.out HW_.out (by kernel_rfl)) (fun _ _ _ h => h) (Or.inl ⟨by rfl, ?_⟩) hHeld ?_ ?_
                      rotate_left
                      · intro w' _
                        go_simp
                        with_reducible rfl
                      rotate_left
                      · simp only [Act.put, List.setIfInBounds_toArray, List.set_cons_zero, List.set_cons_succ, i64_w, i32_w]
                        rfl
                      refine take_ (i := 7) (N := some 36) (v := ?_) (a' := ?_) #[true, true, true, true, true, true, true, true, false, false, false, false] rfl rfl (take_ofW HT_.out HW_.out (by kernel_rfl)) (fun _ _ _ h => h) (Or.inl ⟨by rfl, ?_⟩) hHeld ?_ ?_
                      rotate_left
                      · intro w' _
                        go_simp
                        with_reducible rfl
                      rotate_left
                      · simp only [Act.put, List.setIfInBounds_toArray, List.set_cons_zero, List.set_cons_succ, i64_w, i32_w]
                        rfl
                      refine one_ (i := 8) (N := some 37) #[true, true, true, true, true, true, true, true, true, false, false, false] rfl rfl (one_of HT_.out (by kernel_rfl)) (by decide) (fun K hK => ?_)
                      refine Kd.R_lit_step (Kd.int .u8) _ 5 ?hg (N := 37) ?hd (xs := ([bt (⟨#[48, 49, 50, 51, 52, 53, 54, 55, 56, 57, 97, 98, 99, 100, 101, 102]⟩ : ByteArray) (ji12), bt (⟨#[48, 49, 50, 51, 52, 53, 54, 55, 56, 57, 97, 98, 99, 100, 101, 102]⟩ : ByteArray) (ji16)] : List Int)) (inner := [.int .u8 (bt (⟨#[48, 49, 50, 51, 52, 53, 54, 55, 56, 57, 97, 98, 99, 100, 101, 102]⟩ : ByteArray) (ji12)), .int .u8 (bt (⟨#[48, 49, 50, 51, 52, 53, 54, 55, 56, 57, 97, 98, 99, 100, 101, 102]⟩ : ByteArray) (ji16))]) (ok := fun _ => True) (okp := fun _ => True) ?hr ?hp (fun _ hk => hk) trivial (Below.refl _ _) (Nat.le_refl _) (by simp) ?_; (case hd => rfl); (case hg => rfl); (case hr => first | (go_simp; done) | (go_simp; rfl)); (case hp => exact (Reps.one (show Kd.M (Kd.int .u8) _ _ _ (bt (⟨#[48, 49, 50, 51, 52, 53, 54, 55, 56, 57, 97, 98, 99, 100, 101, 102]⟩ : ByteArray) (ji12)) [.int .u8 (bt (⟨#[48, 49, 50, 51, 52, 53, 54, 55, 56, 57, 97, 98, 99, 100, 101, 102]⟩ : ByteArray) (ji12))] from rfl) (Reps.one (show Kd.M (Kd.int .u8) _ _ _ (bt (⟨#[48, 49, 50, 51, 52, 53, 54, 55, 56, 57, 97, 98, 99, 100, 101, 102]⟩ : ByteArray) (ji16)) [.int .u8 (bt (⟨#[48, 49, 50, 51, 52, 53, 54, 55, 56, 57, 97, 98, 99, 100, 101, 102]⟩ : ByteArray) (ji16))] from rfl) (Reps.none _ _))))
                      intro v263 w22 ho23 hb hg_ hnew_
                      clear hg_ hnew_
                      (first | rw [← Ny262.out] at ho23 | (simp only [Int.reduceToNat] at ho23; rw [← Ny262.out] at ho23))
                      have n0_ := Aside0.mk (Kd.R_lower ho23 (below_size (by repeat (first | (with_reducible first | exact HB.out | apply below_alloc | apply pw_below_drewN | apply below_drew1) | exact HB.out))))
                      have n1_ := Aside0.mk (below_step (by repeat (first | (with_reducible first | exact HB.out | apply below_alloc | apply pw_below_drewN | apply below_drew1) | exact HB.out)) hb)
                      clear HB
                      have HO264 := n0_
                      have HB := n1_
                      clear n0_ n1_
                      clear hb ho23
                      refine hK.out _ _ trivial (fun hHeld => ?_)
                      clear hK K
                      refine norm_ (a' := ?_) ?_ ?_
                      rotate_left
                      · show Act.put _ (some 37) _ = _
                        simp only [Act.put, List.setIfInBounds_toArray, List.set_cons_zero, List.set_cons_succ, i64_w, i32_w]
                        rfl
                      refine one_ (i := 9) (N := some 38) #[true, true, true, true, true, true, true, true, true, true, false, false] rfl rfl (one_of HT_.out (by kernel_rfl)) (by decide) (fun K hK => ?_)
                      have hcv24 := own_string (P := Try.prog) Try.underlying36 Try.underlying5 Try.underlying9 (Kd.own_of_R HO264.out)
                      refine value_ (w1 := ?_) (v := ?_) (by rfl) rfl ?_ ?_
                      rotate_left 2
                      · go_simp
                        constructor
                        · rfl
                        · rfl
                      clear hcv24
                      refine hK.out _ _ trivial (fun hHeld => ?_)
                      clear hK K
                      refine norm_ (a' := ?_) ?_ ?_
                      rotate_left
                      · show Act.put _ (some 38) _ = _
                        simp only [Act.put, List.setIfInBounds_toArray, List.set_cons_zero, List.set_cons_succ, i64_w, i32_w]
                        rfl
                      refine pure_ (i := 10) (N := some 39) (v := ?_) (a' := ?_) #[true, true, true, true, true, true, true, true, true, true, true, false] rfl rfl (any_of HT_.out (by kernel_rfl)) (fun _ _ _ h => h) (Or.inl ⟨by rfl, ?_⟩) ?_ ?_
                      rotate_left
                      · intro w'
                        go_simp
                        with_reducible rfl
                      rotate_left
                      · simp only [Act.put, List.setIfInBounds_toArray, List.set_cons_zero, List.set_cons_succ, i64_w, i32_w]
                        rfl
                      refine pure_ (i := 11) (N := some 6) (v := ?_) (a' := ?_) #[true, true, true, true, true, true, true, true, true, true, true, true] rfl rfl (any_of HT_.out (by kernel_rfl)) (fun _ _ _ h => h) (Or.inl ⟨by rfl, ?_⟩) ?_ ?_
                      rotate_left
                      · intro w'
                        go_simp
                        with_reducible rfl
                      rotate_left
                      · simp only [Act.put, List.setIfInBounds_toArray, List.set_cons_zero, List.set_cons_succ, i64_w, i32_w]
                        rfl
                      refine done_ (done_of HT_.out (by kernel_rfl)) ?_
                      try go_wp2
                      go_meet
                      case rel => exact ⟨_, ((⟨#[92, 120]⟩ : ByteArray) ++ (strOfNums y262)), ((⟨#[92, 120]⟩ : ByteArray) ++ (strOfNums y262)), (by first | rfl | (simp; done) | (simp [i64_w]; done) | (simp [*]; done) | (simp [*, i64_w]; done) | (simp [*]; unfold wrap64; omega)), (by first | rfl | (simp; done) | (simp [i64_w]; done) | (simp [*]; done) | (simp [*, i64_w]; done) | (simp [*]; unfold wrap64; omega)), H', ⟨by have := HJ8.out; first | omega | exact Nat.le_refl _⟩, ⟨by repeat (first | (with_reducible first | exact HB.out | apply below_alloc | apply pw_below_drewN | apply below_drew1) | exact HB.out)⟩⟩
                    · rw [if_neg c20] at H
                      exact absurd H (by simp)
                  · rw [if_neg c18] at H
                    exact absurd H (by simp)
                · rw [if_neg c17] at H
                  exact absurd H (by simp)
              · rw [if_neg c14] at H
                exact absurd H (by simp)
            · rw [if_neg c13] at H
              exact absurd H (by simp)
          · replace c11 := Bool.eq_false_iff.mpr c11
            subst c11
            have H1 : (if (Go.bits .and .i64 a0 255) = 92 then (templelaw5_ShowBytes.j1 kj8 (Go.bits .and .i64 a0 255) (⟨#[92, 92]⟩ : ByteArray) (⟨#[92, 92]⟩ : ByteArray)) else (if (Go.bits .and .i64 a0 255) = 34 then (templelaw5_ShowBytes.j1 kj8 (Go.bits .and .i64 a0 255) (⟨#[92, 34]⟩ : ByteArray) (strOfNums y259)) else (if (Go.bits .and .i64 a0 255) = 39 then (templelaw5_ShowBytes.j1 kj8 (Go.bits .and .i64 a0 255) (strOfNums y259) (⟨#[92, 39]⟩ : ByteArray)) else (templelaw5_ShowBytes.j1 kj8 (Go.bits .and .i64 a0 255) (strOfNums y259) (strOfNums y259))))) = some r := by rw [if_neg (show ¬ (false = true) by decide)] at H; exact H
            clear H
            have H := H1
            clear H1
            by_cases c25 : (Go.bits .and .i64 a0 255) = 92
            · rw [if_pos c25] at H
              have c25b0 : ((Go.bits .and .i64 a0 255) == 92) = true := beq_iff_eq.mpr c25
              have c25b1 : ((Go.bits .and .i64 a0 255) != 92) = false := bne_eq_false_iff_eq.mpr c25
              clear c25
              have H' := Aside0.mk H
              clear H
              go_wp2
              go_meet
              case rel => exact ⟨_, ((⟨#[92, 92]⟩ : ByteArray)), ((⟨#[92, 92]⟩ : ByteArray)), (by first | rfl | (simp; done) | (simp [i64_w]; done) | (simp [*]; done) | (simp [*, i64_w]; done) | (simp [*]; unfold wrap64; omega)), (by first | rfl | (simp; done) | (simp [i64_w]; done) | (simp [*]; done) | (simp [*, i64_w]; done) | (simp [*]; unfold wrap64; omega)), H', ⟨by have := HJ8.out; first | omega | exact Nat.le_refl _⟩, ⟨by repeat (first | (with_reducible first | exact HB.out | apply below_alloc | apply pw_below_drewN | apply below_drew1) | exact HB.out)⟩⟩
            · rw [if_neg c25] at H
              have c25b0 : ((Go.bits .and .i64 a0 255) == 92) = false := beq_eq_false_iff_ne.mpr c25
              have c25b1 : ((Go.bits .and .i64 a0 255) != 92) = true := bne_iff_ne.mpr c25
              by_cases c26 : (Go.bits .and .i64 a0 255) = 34
              · rw [if_pos c26] at H
                have c26b0 : ((Go.bits .and .i64 a0 255) == 34) = true := beq_iff_eq.mpr c26
                have c26b1 : ((Go.bits .and .i64 a0 255) != 34) = false := bne_eq_false_iff_eq.mpr c26
                clear c26
                have H' := Aside0.mk H
                clear H
                go_wp2
                go_meet
                case rel => exact ⟨_, ((⟨#[92, 34]⟩ : ByteArray)), ((strOfNums y259)), (by first | rfl | (simp; done) | (simp [i64_w]; done) | (simp [*]; done) | (simp [*, i64_w]; done) | (simp [*]; unfold wrap64; omega)), (by first | rfl | (simp; done) | (simp [i64_w]; done) | (simp [*]; done) | (simp [*, i64_w]; done) | (simp [*]; unfold wrap64; omega)), H', ⟨by have := HJ8.out; first | omega | exact Nat.le_refl _⟩, ⟨by repeat (first | (with_reducible first | exact HB.out | apply below_alloc | apply pw_below_drewN | apply below_drew1) | exact HB.out)⟩⟩
              · rw [if_neg c26] at H
                have c26b0 : ((Go.bits .and .i64 a0 255) == 34) = false := beq_eq_false_iff_ne.mpr c26
                have c26b1 : ((Go.bits .and .i64 a0 255) != 34) = true := bne_iff_ne.mpr c26
                by_cases c27 : (Go.bits .and .i64 a0 255) = 39
                · rw [if_pos c27] at H
                  have c27b0 : ((Go.bits .and .i64 a0 255) == 39) = true := beq_iff_eq.mpr c27
                  have c27b1 : ((Go.bits .and .i64 a0 255) != 39) = false := bne_eq_false_iff_eq.mpr c27
                  clear c27
                  have H' := Aside0.mk H
                  clear H
                  go_wp2
                  go_meet
                  case rel => exact ⟨_, ((strOfNums y259)), ((⟨#[92, 39]⟩ : ByteArray)), (by first | rfl | (simp; done) | (simp [i64_w]; done) | (simp [*]; done) | (simp [*, i64_w]; done) | (simp [*]; unfold wrap64; omega)), (by first | rfl | (simp; done) | (simp [i64_w]; done) | (simp [*]; done) | (simp [*, i64_w]; done) | (simp [*]; unfold wrap64; omega)), H', ⟨by have := HJ8.out; first | omega | exact Nat.le_refl _⟩, ⟨by repeat (first | (with_reducible first | exact HB.out | apply below_alloc | apply pw_below_drewN | apply below_drew1) | exact HB.out)⟩⟩
                · rw [if_neg c27] at H
                  have c27b0 : ((Go.bits .and .i64 a0 255) == 39) = false := beq_eq_false_iff_ne.mpr c27
                  have c27b1 : ((Go.bits .and .i64 a0 255) != 39) = true := bne_iff_ne.mpr c27
                  have H' := Aside0.mk H
                  clear H
                  go_wp2
                  go_meet
                  case rel => exact ⟨_, ((strOfNums y259)), ((strOfNums y259)), (by first | rfl | (simp; done) | (simp [i64_w]; done) | (simp [*]; done) | (simp [*, i64_w]; done) | (simp [*]; unfold wrap64; omega)), (by first | rfl | (simp; done) | (simp [i64_w]; done) | (simp [*]; done) | (simp [*, i64_w]; done) | (simp [*]; unfold wrap64; omega)), H', ⟨by have := HJ8.out; first | omega | exact Nat.le_refl _⟩, ⟨by repeat (first | (with_reducible first | exact HB.out | apply below_alloc | apply pw_below_drewN | apply below_drew1) | exact HB.out)⟩⟩
    case rest =>
      clear HC4
      try clear c1
      try clear p1
      try clear q1
      try clear hx1
      try clear c2
      try clear p2
      try clear hcv2
      try clear c3
      try clear c4
      try clear p6
      try clear hcv8
      try clear c10
      try clear c10b0
      try clear c11
      try clear c13
      try clear c13b0
      try clear c14
      try clear c14b0
      try clear p15
      try clear q15
      try clear hx15
      try clear c17
      try clear c17b0
      try clear c18
      try clear c18b0
      try clear p19
      try clear q19
      try clear hx19
      try clear c20
      try clear c20b0
      try clear c20b1
      try clear c20b2
      try clear hcv24
      try clear c25
      try clear c25b0
      try clear c25b1
      try clear c26
      try clear c26b0
      try clear c26b1
      try clear c27
      try clear c27b0
      try clear c27b1
      try clear p15
      try clear p19
      try clear p2
      try clear q15
      try clear q19
      obtain ⟨kq, x6_3, x7_3, rfl, rfl, HA, HJ3, HB⟩ := hcut
      cases kq with
      | zero => exact absurd HA.out (by simp [templelaw5_ShowBytes.j1])
      | succ kj3 =>
        have H := HA.out
        clear HA
        simp only [templelaw5_ShowBytes.j1] at H
        obtain ⟨y265, hy265⟩ : ∃ y_ : List ByteArray, y_ = (([(⟨#[113]⟩ : ByteArray)] : List ByteArray)) := ⟨_, rfl⟩
        replace H : ((show_Show.f 0 y265 (([(⟨0, (([(⟨false, (([(⟨(-1), (Go.bits .and .i64 a0 255), (Go.bits .and .i64 a0 255)⟩ : S38)] : List (S38)))⟩ : S41)] : List (S41)))⟩ : S44)] : List (S44)))).bind fun bt277 => ((templelaw0_Num.f bt277.2).bind fun t279 => (if t279 = 0 then (if 14 + x6_3.size ≤ 9223372036854775807 then (if ((⟨#[115, 116, 97, 114, 116, 32, 113, 59, 10, 113, 32, 61, 32, 34]⟩ : ByteArray) ++ x6_3).size + 3 ≤ 9223372036854775807 then (if bt277.1.toList = (((⟨#[115, 116, 97, 114, 116, 32, 113, 59, 10, 113, 32, 61, 32, 34]⟩ : ByteArray) ++ x6_3) ++ (⟨#[34, 59, 10]⟩ : ByteArray)).toList then (if (Go.bits .and .i64 a0 255) = 255 then (some true) else ((show_Show.f 0 (([(⟨#[113]⟩ : ByteArray)] : List ByteArray)) (([(⟨0, (([(⟨false, (([(⟨(-1), (Go.bits .and .i64 a0 255), 255⟩ : S38)] : List (S38)))⟩ : S41)] : List (S41)))⟩ : S44)] : List (S44)))).bind fun bt292 => ((templelaw0_Num.f bt292.2).bind fun t294 => (if t294 = 0 then (if 14 + x7_3.size ≤ 9223372036854775807 then (if ((⟨#[115, 116, 97, 114, 116, 32, 113, 59, 10, 113, 32, 61, 32, 39]⟩ : ByteArray) ++ x7_3).size + 11 ≤ 9223372036854775807 then (some (bt292.1.toList == (((⟨#[115, 116, 97, 114, 116, 32, 113, 59, 10, 113, 32, 61, 32, 39]⟩ : ByteArray) ++ x7_3) ++ (⟨#[39, 46, 46, 39, 92, 120, 102, 102, 39, 59, 10]⟩ : ByteArray)).toList)) else (none)) else (none)) else (none))))) else (none)) else (none)) else (none)) else (none)))) = some r := by first | (rw [hy265]; with_reducible exact H) | (have H2_ := (Option.bind_some _ _).symm.trans H; rw [hy265]; with_reducible exact H2_) | (have H2_ := (Option.bind_some _ _).symm.trans H; with_reducible exact H2_) | with_reducible exact H | (rw [hy265]; exact H) | exact H
        have Ny265 := Aside0.mk hy265
        clear hy265
        obtain ⟨y268, hy268⟩ : ∃ y_ : List (S38), y_ = (([(⟨(-1), (Go.bits .and .i64 a0 255), (Go.bits .and .i64 a0 255)⟩ : S38)] : List (S38))) := ⟨_, rfl⟩
        replace H : ((show_Show.f 0 y265 (([(⟨0, (([(⟨false, y268⟩ : S41)] : List (S41)))⟩ : S44)] : List (S44)))).bind fun bt277 => ((templelaw0_Num.f bt277.2).bind fun t279 => (if t279 = 0 then (if 14 + x6_3.size ≤ 9223372036854775807 then (if ((⟨#[115, 116, 97, 114, 116, 32, 113, 59, 10, 113, 32, 61, 32, 34]⟩ : ByteArray) ++ x6_3).size + 3 ≤ 9223372036854775807 then (if bt277.1.toList = (((⟨#[115, 116, 97, 114, 116, 32, 113, 59, 10, 113, 32, 61, 32, 34]⟩ : ByteArray) ++ x6_3) ++ (⟨#[34, 59, 10]⟩ : ByteArray)).toList then (if (Go.bits .and .i64 a0 255) = 255 then (some true) else ((show_Show.f 0 (([(⟨#[113]⟩ : ByteArray)] : List ByteArray)) (([(⟨0, (([(⟨false, (([(⟨(-1), (Go.bits .and .i64 a0 255), 255⟩ : S38)] : List (S38)))⟩ : S41)] : List (S41)))⟩ : S44)] : List (S44)))).bind fun bt292 => ((templelaw0_Num.f bt292.2).bind fun t294 => (if t294 = 0 then (if 14 + x7_3.size ≤ 9223372036854775807 then (if ((⟨#[115, 116, 97, 114, 116, 32, 113, 59, 10, 113, 32, 61, 32, 39]⟩ : ByteArray) ++ x7_3).size + 11 ≤ 9223372036854775807 then (some (bt292.1.toList == (((⟨#[115, 116, 97, 114, 116, 32, 113, 59, 10, 113, 32, 61, 32, 39]⟩ : ByteArray) ++ x7_3) ++ (⟨#[39, 46, 46, 39, 92, 120, 102, 102, 39, 59, 10]⟩ : ByteArray)).toList)) else (none)) else (none)) else (none))))) else (none)) else (none)) else (none)) else (none)))) = some r := by first | (rw [hy268]; with_reducible exact H) | (have H2_ := (Option.bind_some _ _).symm.trans H; rw [hy268]; with_reducible exact H2_) | (have H2_ := (Option.bind_some _ _).symm.trans H; with_reducible exact H2_) | with_reducible exact H | (rw [hy268]; exact H) | exact H
        have Ny268 := Aside0.mk hy268
        clear hy268
        obtain ⟨y271, hy271⟩ : ∃ y_ : List (S41), y_ = (([(⟨false, y268⟩ : S41)] : List (S41))) := ⟨_, rfl⟩
        replace H : ((show_Show.f 0 y265 (([(⟨0, y271⟩ : S44)] : List (S44)))).bind fun bt277 => ((templelaw0_Num.f bt277.2).bind fun t279 => (if t279 = 0 then (if 14 + x6_3.size ≤ 9223372036854775807 then (if ((⟨#[115, 116, 97, 114, 116, 32, 113, 59, 10, 113, 32, 61, 32, 34]⟩ : ByteArray) ++ x6_3).size + 3 ≤ 9223372036854775807 then (if bt277.1.toList = (((⟨#[115, 116, 97, 114, 116, 32, 113, 59, 10, 113, 32, 61, 32, 34]⟩ : ByteArray) ++ x6_3) ++ (⟨#[34, 59, 10]⟩ : ByteArray)).toList then (if (Go.bits .and .i64 a0 255) = 255 then (some true) else ((show_Show.f 0 (([(⟨#[113]⟩ : ByteArray)] : List ByteArray)) (([(⟨0, (([(⟨false, (([(⟨(-1), (Go.bits .and .i64 a0 255), 255⟩ : S38)] : List (S38)))⟩ : S41)] : List (S41)))⟩ : S44)] : List (S44)))).bind fun bt292 => ((templelaw0_Num.f bt292.2).bind fun t294 => (if t294 = 0 then (if 14 + x7_3.size ≤ 9223372036854775807 then (if ((⟨#[115, 116, 97, 114, 116, 32, 113, 59, 10, 113, 32, 61, 32, 39]⟩ : ByteArray) ++ x7_3).size + 11 ≤ 9223372036854775807 then (some (bt292.1.toList == (((⟨#[115, 116, 97, 114, 116, 32, 113, 59, 10, 113, 32, 61, 32, 39]⟩ : ByteArray) ++ x7_3) ++ (⟨#[39, 46, 46, 39, 92, 120, 102, 102, 39, 59, 10]⟩ : ByteArray)).toList)) else (none)) else (none)) else (none))))) else (none)) else (none)) else (none)) else (none)))) = some r := by first | (rw [hy271]; with_reducible exact H) | (have H2_ := (Option.bind_some _ _).symm.trans H; rw [hy271]; with_reducible exact H2_) | (have H2_ := (Option.bind_some _ _).symm.trans H; with_reducible exact H2_) | with_reducible exact H | (rw [hy271]; exact H) | exact H
        have Ny271 := Aside0.mk hy271
        clear hy271
        obtain ⟨y274, hy274⟩ : ∃ y_ : List (S44), y_ = (([(⟨0, y271⟩ : S44)] : List (S44))) := ⟨_, rfl⟩
        replace H : ((show_Show.f 0 y265 y274).bind fun bt277 => ((templelaw0_Num.f bt277.2).bind fun t279 => (if t279 = 0 then (if 14 + x6_3.size ≤ 9223372036854775807 then (if ((⟨#[115, 116, 97, 114, 116, 32, 113, 59, 10, 113, 32, 61, 32, 34]⟩ : ByteArray) ++ x6_3).size + 3 ≤ 9223372036854775807 then (if bt277.1.toList = (((⟨#[115, 116, 97, 114, 116, 32, 113, 59, 10, 113, 32, 61, 32, 34]⟩ : ByteArray) ++ x6_3) ++ (⟨#[34, 59, 10]⟩ : ByteArray)).toList then (if (Go.bits .and .i64 a0 255) = 255 then (some true) else ((show_Show.f 0 (([(⟨#[113]⟩ : ByteArray)] : List ByteArray)) (([(⟨0, (([(⟨false, (([(⟨(-1), (Go.bits .and .i64 a0 255), 255⟩ : S38)] : List (S38)))⟩ : S41)] : List (S41)))⟩ : S44)] : List (S44)))).bind fun bt292 => ((templelaw0_Num.f bt292.2).bind fun t294 => (if t294 = 0 then (if 14 + x7_3.size ≤ 9223372036854775807 then (if ((⟨#[115, 116, 97, 114, 116, 32, 113, 59, 10, 113, 32, 61, 32, 39]⟩ : ByteArray) ++ x7_3).size + 11 ≤ 9223372036854775807 then (some (bt292.1.toList == (((⟨#[115, 116, 97, 114, 116, 32, 113, 59, 10, 113, 32, 61, 32, 39]⟩ : ByteArray) ++ x7_3) ++ (⟨#[39, 46, 46, 39, 92, 120, 102, 102, 39, 59, 10]⟩ : ByteArray)).toList)) else (none)) else (none)) else (none))))) else (none)) else (none)) else (none)) else (none)))) = some r := by first | (rw [hy274]; with_reducible exact H) | (have H2_ := (Option.bind_some _ _).symm.trans H; rw [hy274]; with_reducible exact H2_) | (have H2_ := (Option.bind_some _ _).symm.trans H; with_reducible exact H2_) | with_reducible exact H | (rw [hy274]; exact H) | exact H
        have Ny274 := Aside0.mk hy274
        clear hy274
        replace H := Option.bind_eq_some_iff.mp H
        obtain ⟨⟨t277, t278⟩, A280, H⟩ := H
        replace H : ((templelaw0_Num.f t278).bind fun t279 => (if t279 = 0 then (if 14 + x6_3.size ≤ 9223372036854775807 then (if ((⟨#[115, 116, 97, 114, 116, 32, 113, 59, 10, 113, 32, 61, 32, 34]⟩ : ByteArray) ++ x6_3).size + 3 ≤ 9223372036854775807 then (if t277.toList = (((⟨#[115, 116, 97, 114, 116, 32, 113, 59, 10, 113, 32, 61, 32, 34]⟩ : ByteArray) ++ x6_3) ++ (⟨#[34, 59, 10]⟩ : ByteArray)).toList then (if (Go.bits .and .i64 a0 255) = 255 then (some true) else ((show_Show.f 0 (([(⟨#[113]⟩ : ByteArray)] : List ByteArray)) (([(⟨0, (([(⟨false, (([(⟨(-1), (Go.bits .and .i64 a0 255), 255⟩ : S38)] : List (S38)))⟩ : S41)] : List (S41)))⟩ : S44)] : List (S44)))).bind fun bt292 => ((templelaw0_Num.f bt292.2).bind fun t294 => (if t294 = 0 then (if 14 + x7_3.size ≤ 9223372036854775807 then (if ((⟨#[115, 116, 97, 114, 116, 32, 113, 59, 10, 113, 32, 61, 32, 39]⟩ : ByteArray) ++ x7_3).size + 11 ≤ 9223372036854775807 then (some (bt292.1.toList == (((⟨#[115, 116, 97, 114, 116, 32, 113, 59, 10, 113, 32, 61, 32, 39]⟩ : ByteArray) ++ x7_3) ++ (⟨#[39, 46, 46, 39, 92, 120, 102, 102, 39, 59, 10]⟩ : ByteArray)).toList)) else (none)) else (none)) else (none))))) else (none)) else (none)) else (none)) else (none))) = some r := H
        have A28 := Aside0.mk A280
        clear A280
        replace H := Option.bind_eq_some_iff.mp H
        obtain ⟨t279, A290, H⟩ := H
        replace H : (if t279 = 0 then (if 14 + x6_3.size ≤ 9223372036854775807 then (if ((⟨#[115, 116, 97, 114, 116, 32, 113, 59, 10, 113, 32, 61, 32, 34]⟩ : ByteArray) ++ x6_3).size + 3 ≤ 9223372036854775807 then (if t277.toList = (((⟨#[115, 116, 97, 114, 116, 32, 113, 59, 10, 113, 32, 61, 32, 34]⟩ : ByteArray) ++ x6_3) ++ (⟨#[34, 59, 10]⟩ : ByteArray)).toList then (if (Go.bits .and .i64 a0 255) = 255 then (some true) else ((show_Show.f 0 (([(⟨#[113]⟩ : ByteArray)] : List ByteArray)) (([(⟨0, (([(⟨false, (([(⟨(-1), (Go.bits .and .i64 a0 255), 255⟩ : S38)] : List (S38)))⟩ : S41)] : List (S41)))⟩ : S44)] : List (S44)))).bind fun bt292 => ((templelaw0_Num.f bt292.2).bind fun t294 => (if t294 = 0 then (if 14 + x7_3.size ≤ 9223372036854775807 then (if ((⟨#[115, 116, 97, 114, 116, 32, 113, 59, 10, 113, 32, 61, 32, 39]⟩ : ByteArray) ++ x7_3).size + 11 ≤ 9223372036854775807 then (some (bt292.1.toList == (((⟨#[115, 116, 97, 114, 116, 32, 113, 59, 10, 113, 32, 61, 32, 39]⟩ : ByteArray) ++ x7_3) ++ (⟨#[39, 46, 46, 39, 92, 120, 102, 102, 39, 59, 10]⟩ : ByteArray)).toList)) else (none)) else (none)) else (none))))) else (none)) else (none)) else (none)) else (none)) = some r := H
        have A29 := Aside0.mk A290
        clear A290
        by_cases c30 : t279 = 0
        · rw [if_pos c30] at H
          have c30b0 : (t279 == 0) = true := beq_iff_eq.mpr c30
          have c30b1 : (t279 != 0) = false := bne_eq_false_iff_eq.mpr c30
          clear c30
          by_cases c31 : 14 + x6_3.size ≤ 9223372036854775807
          · rw [if_pos c31] at H
            have c31b0 := eq_true c31
            have c31b1 : decide (14 + x6_3.size ≤ 9223372036854775807) = true := decide_eq_true c31
            try have c31b2 : (9223372036854775807 < 14 + x6_3.size) = False := eq_false (Nat.not_lt.2 c31)
            by_cases c32 : ((⟨#[115, 116, 97, 114, 116, 32, 113, 59, 10, 113, 32, 61, 32, 34]⟩ : ByteArray) ++ x6_3).size + 3 ≤ 9223372036854775807
            · rw [if_pos c32] at H
              have c32b0 := eq_true c32
              have c32b1 : decide (((⟨#[115, 116, 97, 114, 116, 32, 113, 59, 10, 113, 32, 61, 32, 34]⟩ : ByteArray) ++ x6_3).size + 3 ≤ 9223372036854775807) = true := decide_eq_true c32
              try have c32b2 : (9223372036854775807 < ((⟨#[115, 116, 97, 114, 116, 32, 113, 59, 10, 113, 32, 61, 32, 34]⟩ : ByteArray) ++ x6_3).size + 3) = False := eq_false (Nat.not_lt.2 c32)
              try have c32b3 : (9223372036854775807 < 14 + x6_3.size + 3) = False := eq_false (by have q_ := c32; have z0_ : (⟨#[115, 116, 97, 114, 116, 32, 113, 59, 10, 113, 32, 61, 32, 34]⟩ : ByteArray).size = 14 := rfl; (try simp only [ByteArray.size_append, ByteArray.size_extract] at q_); omega)
              by_cases c33 : t277.toList = (((⟨#[115, 116, 97, 114, 116, 32, 113, 59, 10, 113, 32, 61, 32, 34]⟩ : ByteArray) ++ x6_3) ++ (⟨#[34, 59, 10]⟩ : ByteArray)).toList
              · rw [if_pos c33] at H
                have c33b0 : (t277.toList == (((⟨#[115, 116, 97, 114, 116, 32, 113, 59, 10, 113, 32, 61, 32, 34]⟩ : ByteArray) ++ x6_3) ++ (⟨#[34, 59, 10]⟩ : ByteArray)).toList) = true := beq_iff_eq.mpr c33
                have c33b1 : (t277.toList != (((⟨#[115, 116, 97, 114, 116, 32, 113, 59, 10, 113, 32, 61, 32, 34]⟩ : ByteArray) ++ x6_3) ++ (⟨#[34, 59, 10]⟩ : ByteArray)).toList) = false := bne_eq_false_iff_eq.mpr c33
                clear c33
                by_cases c34 : (Go.bits .and .i64 a0 255) = 255
                · rw [if_pos c34] at H
                  have c34b0 : ((Go.bits .and .i64 a0 255) == 255) = true := beq_iff_eq.mpr c34
                  have c34b1 : ((Go.bits .and .i64 a0 255) != 255) = false := bne_eq_false_iff_eq.mpr c34
                  clear c34
                  obtain rfl := Option.some.inj H
                  go_wp2_with (first | ((with_reducible refine gate_dst (N := 52) rfl ?_); refine Kd.R_lit Kd.string _ 9 ?hg (N := 52) ?hd (xs := ([(⟨#[113]⟩ : ByteArray)] : List ByteArray)) (inner := [.string (⟨#[113]⟩ : ByteArray)]) (ok := fun _ => True) (okp := fun _ => True) ?hr ?hp (fun _ hk => hk) trivial (Below.refl _ _) (Nat.le_refl _) (by simp) ?_; (case hd => rfl); (case hg => rfl); (case hr => first | (go_simp; done) | (go_simp; rfl)); (case hp => exact (Reps.one (show Kd.M Kd.string _ _ _ (⟨#[113]⟩ : ByteArray) [.string (⟨#[113]⟩ : ByteArray)] from rfl) (Reps.none _ _))); intro v266 w35 ho36 hb hg_ hnew_; clear hg_ hnew_; (first | rw [← Ny265.out] at ho36 | (simp only [Int.reduceToNat] at ho36; rw [← Ny265.out] at ho36)); have n0_ := Aside0.mk (Kd.R_lower ho36 (below_size (by repeat (first | (with_reducible first | exact HB.out | apply below_alloc | apply pw_below_drewN | apply below_drew1) | exact HB.out)))); have n1_ := Aside0.mk (below_step (by repeat (first | (with_reducible first | exact HB.out | apply below_alloc | apply pw_below_drewN | apply below_drew1) | exact HB.out)) hb); clear HB; have HO267 := n0_; have HB := n1_; clear n0_ n1_; clear hb ho36) | ((with_reducible refine gate_dst (N := 56) rfl ?_); refine Kd.R_lit k38 _ 38 ?hg (N := 56) ?hd (xs := ([(⟨(-1), (Go.bits .and .i64 a0 255), (Go.bits .and .i64 a0 255)⟩ : S38)] : List (S38))) (inner := [.int .i64 (-1), .int .i64 (Go.bits .and .i64 a0 255), .int .i64 (Go.bits .and .i64 a0 255)]) (ok := fun _ => True) (okp := fun _ => True) ?hr ?hp (fun _ hk => hk) trivial (Below.refl _ _) (Nat.le_refl _) (by simp) ?_; (case hd => rfl); (case hg => rfl); (case hr => first | (go_simp; done) | (go_simp; rfl)); (case hp => exact (Reps.c3 (show Kd.M k38 _ _ _ (⟨(-1), (Go.bits .and .i64 a0 255), (Go.bits .and .i64 a0 255)⟩ : S38) [.int .i64 (-1), .int .i64 (Go.bits .and .i64 a0 255), .int .i64 (Go.bits .and .i64 a0 255)] from (k38_mkM _ _ _ (⟨(-1), (Go.bits .and .i64 a0 255), (Go.bits .and .i64 a0 255)⟩ : S38) )) (Reps.none _ _))); intro v269 w37 ho38 hb hg_ hnew_; clear hg_ hnew_; (first | rw [← Ny268.out] at ho38 | (simp only [Int.reduceToNat] at ho38; rw [← Ny268.out] at ho38)); have n0_ := Aside0.mk (Kd.R_below (by (with_reducible repeat (first | apply Kd.R_alloc | apply Kd.R_drewN | apply Kd.R_drew)); exact HO267.out) hb); have n1_ := Aside0.mk (Kd.R_lower ho38 (below_size (by repeat (first | (with_reducible first | exact HB.out | apply below_alloc | apply pw_below_drewN | apply below_drew1) | exact HB.out)))); have n2_ := Aside0.mk (below_step (by repeat (first | (with_reducible first | exact HB.out | apply below_alloc | apply pw_below_drewN | apply below_drew1) | exact HB.out)) hb); clear HO267; clear HB; have HO267 := n0_; have HO270 := n1_; have HB := n2_; clear n0_ n1_ n2_; clear hb ho38; obtain ⟨Ao39, co39, eo39⟩ := Kd.R_slice HO270.out; subst eo39) | ((with_reducible refine gate_dst (N := 58) rfl ?_); refine Kd.N_lit k41 _ 41 ?hg (N' := 58) ?hd (xs := ([(⟨false, y268⟩ : S41)] : List (S41))) (inner := [.bool false, .slice Ao39 y268.length co39]) (ok := (fun k_ => some k_ ≠ (v266 : Value).ownBlock)) (okp := (fun k_ => some k_ ≠ (v266 : Value).ownBlock)) ?hr ?hp (fun _ hk => hk) ((show ∀ k_, w37.heap.size ≤ k_ → (fun k_ => some k_ ≠ (v266 : Value).ownBlock) k_ from fun k_ hk => Kd.fresh' (Kd.R_lt (by (with_reducible repeat (first | apply Kd.R_alloc | apply Kd.R_drewN | apply Kd.R_drew)); exact HO267.out)) k_ hk) _ (Nat.le_refl _)) (Below.refl _ _) (Nat.le_refl _) (by simp) ?_; (case hd => rfl); (case hg => rfl); (case hr => first | (go_simp; done) | (go_simp; rfl)); (case hp => exact (Reps.c2 (show Kd.FK k41 _ _ (⟨false, y268⟩ : S41) [.bool false, .slice Ao39 y268.length co39] from (k41_mkF _ _ (⟨false, y268⟩ : S41) (Kd.R_reads' (Kd.R_mono (ok' := (fun k_ => some k_ ≠ (v266 : Value).ownBlock)) (Kd.R_apart' (HO270.out) (Kd.R_typed HO267.out) (by decide)) (fun k_ hk => hk.2))).2.1 (Kd.R_F (Kd.R_mono (ok' := (fun k_ => some k_ ≠ (v266 : Value).ownBlock)) (Kd.R_apart' (HO270.out) (Kd.R_typed HO267.out) (by decide)) (fun k_ hk => hk.2))))) (Reps.none _ _))); intro v272 w40 ho41 hb hg_ hnew_; clear hg_ hnew_; (first | rw [← Ny271.out] at ho41 | (simp only [Int.reduceToNat] at ho41; rw [← Ny271.out] at ho41)); have n0_ := Aside0.mk (Kd.R_below (by (with_reducible repeat (first | apply Kd.R_alloc | apply Kd.R_drewN | apply Kd.R_drew)); exact HO267.out) hb); have n1_ := Aside0.mk (Kd.N_lower ho41 (below_size (by repeat (first | (with_reducible first | exact HB.out | apply below_alloc | apply pw_below_drewN | apply below_drew1) | exact HB.out)))); have n2_ := Aside0.mk (below_step (by repeat (first | (with_reducible first | exact HB.out | apply below_alloc | apply pw_below_drewN | apply below_drew1) | exact HB.out)) hb); clear HO267; clear HB; clear HO270; have HO267 := n0_; have HO273 := n1_; have HB := n2_; clear n0_ n1_ n2_; clear hb ho41; obtain ⟨Ao42, co42, eo42⟩ := Kd.N_slice HO273.out; subst eo42) | ((with_reducible refine gate_dst (N := 60) rfl ?_); refine Kd.N_lit k44 _ 44 ?hg (N' := 60) ?hd (xs := ([(⟨0, y271⟩ : S44)] : List (S44))) (inner := [.int .i64 0, .slice Ao42 y271.length co42]) (ok := (fun k_ => some k_ ≠ (v266 : Value).ownBlock)) (okp := (fun k_ => some k_ ≠ (v266 : Value).ownBlock)) ?hr ?hp (fun _ hk => hk) ((show ∀ k_, w40.heap.size ≤ k_ → (fun k_ => some k_ ≠ (v266 : Value).ownBlock) k_ from fun k_ hk => Kd.fresh' (Kd.R_lt (by (with_reducible repeat (first | apply Kd.R_alloc | apply Kd.R_drewN | apply Kd.R_drew)); exact HO267.out)) k_ hk) _ (Nat.le_refl _)) (Below.refl _ _) (Nat.le_refl _) (by simp) ?_; (case hd => rfl); (case hg => rfl); (case hr => first | (go_simp; done) | (go_simp; rfl)); (case hp => exact (Reps.c2 (show Kd.FK k44 _ _ (⟨0, y271⟩ : S44) [.int .i64 0, .slice Ao42 y271.length co42] from (k44_mkF _ _ (⟨0, y271⟩ : S44) (Kd.N_reads' (Kd.N_mono (ok' := (fun k_ => some k_ ≠ (v266 : Value).ownBlock)) (HO273.out) (fun k_ hk => hk))).2.1 (Kd.N_F (Kd.N_mono (ok' := (fun k_ => some k_ ≠ (v266 : Value).ownBlock)) (HO273.out) (fun k_ hk => hk))))) (Reps.none _ _))); intro v275 w43 ho44 hb hg_ hnew_; clear hg_ hnew_; (first | rw [← Ny274.out] at ho44 | (simp only [Int.reduceToNat] at ho44; rw [← Ny274.out] at ho44)); have n0_ := Aside0.mk (Kd.R_below (by (with_reducible repeat (first | apply Kd.R_alloc | apply Kd.R_drewN | apply Kd.R_drew)); exact HO267.out) hb); have n1_ := Aside0.mk (Kd.N_lower ho44 (below_size (by repeat (first | (with_reducible first | exact HB.out | apply below_alloc | apply pw_below_drewN | apply below_drew1) | exact HB.out)))); have n2_ := Aside0.mk (below_step (by repeat (first | (with_reducible first | exact HB.out | apply below_alloc | apply pw_below_drewN | apply below_drew1) | exact HB.out)) hb); clear HO267; clear HB; clear HO273; have HO267 := n0_; have HO276 := n1_; have HB := n2_; clear n0_ n1_ n2_; clear hb ho44; obtain ⟨Ao45, co45, eo45⟩ := Kd.N_slice HO276.out; subst eo45; obtain ⟨Ao46, co46, eo46⟩ := Kd.R_slice HO267.out; subst eo46) | ((with_reducible refine gate_callee (f := 10) rfl ?_); refine goesL_ (some 62) rfl rfl Try.func10 (by kernel_rfl) rfl #[.agg #[.int .i64 0, .slice Ao46 y265.length co46, .slice Ao45 y274.length co45]] rfl (by (try simp only [List.map_toArray, List.map_cons, List.map_nil]); first | done | rfl | (simp only [List.length_drop, List.length_take]; rfl)) ?_; (with_reducible refine (show_Show.calls 0 _ _ y265 _ _ y274 t277 t278 _ ?side1 ?side2 ?side3 ?side4 A28.out).mono ?_); (case side1 => repeat (first | exact (Kd.R_reads' HO267.out).2.2 | (with_reducible refine Kd.C_alloc ?_ _) | (with_reducible refine Kd.C_drewN ?_ _) | (with_reducible refine Kd.C_drew ?_))); (case side2 => exact (Kd.R_reads' HO267.out).2.1); (case side3 => repeat (first | exact (Kd.N_reads' HO276.out).2.2 | (with_reducible refine Kd.C_alloc ?_ _) | (with_reducible refine Kd.C_drewN ?_ _) | (with_reducible refine Kd.C_drew ?_))); (case side4 => exact (Kd.N_reads' HO276.out).2.1); rintro e w47 ⟨rfl, hb⟩; refine ⟨_, rfl, ?_⟩; have n0_ := Aside0.mk (Kd.R_below (by (with_reducible repeat (first | apply Kd.R_alloc | apply Kd.R_drewN | apply Kd.R_drew)); exact HO267.out) hb); have n1_ := Aside0.mk (Kd.N_below (by (with_reducible repeat (first | apply Kd.N_alloc | apply Kd.N_drewN | apply Kd.N_drew)); exact HO276.out) hb); have n2_ := Aside0.mk (below_step (by repeat (first | (with_reducible first | exact HB.out | apply below_alloc | apply pw_below_drewN | apply below_drew1) | exact HB.out)) hb); clear HO267; clear HO276; clear HB; have HO267 := n0_; have HO276 := n1_; have HB := n2_; clear n0_ n1_ n2_; (try clear hb); (try clear hb2); (try clear hk); (try clear hi)) | ((with_reducible refine gate_callee (f := 12) rfl ?_); refine goesL_ (some 66) rfl rfl Try.func12 (by kernel_rfl) rfl #[.int .i64 t278] rfl (by (try simp only [List.map_toArray, List.map_cons, List.map_nil]); first | done | rfl | (simp only [List.length_drop, List.length_take]; rfl)) ?_; (with_reducible refine (templelaw0_Num.calls t278 t279 _ A29.out).mono ?_); rintro e w' ⟨rfl, ⟨nd, rfl⟩⟩; refine ⟨_, rfl, ?_⟩))
                  go_ret
                  exact ⟨by first | rfl | (simp [errW_none, errW_some] <;> rfl) | (simp [*, errW_none, errW_some] <;> rfl), by repeat (first | (with_reducible first | exact HB.out | apply below_alloc | apply pw_below_drewN | apply below_drew1) | exact HB.out)⟩
                · rw [if_neg c34] at H
                  have c34b0 : ((Go.bits .and .i64 a0 255) == 255) = false := beq_eq_false_iff_ne.mpr c34
                  have c34b1 : ((Go.bits .and .i64 a0 255) != 255) = true := bne_iff_ne.mpr c34
                  obtain ⟨y280, hy280⟩ : ∃ y_ : List ByteArray, y_ = (([(⟨#[113]⟩ : ByteArray)] : List ByteArray)) := ⟨_, rfl⟩
                  replace H : ((show_Show.f 0 y280 (([(⟨0, (([(⟨false, (([(⟨(-1), (Go.bits .and .i64 a0 255), 255⟩ : S38)] : List (S38)))⟩ : S41)] : List (S41)))⟩ : S44)] : List (S44)))).bind fun bt292 => ((templelaw0_Num.f bt292.2).bind fun t294 => (if t294 = 0 then (if 14 + x7_3.size ≤ 9223372036854775807 then (if ((⟨#[115, 116, 97, 114, 116, 32, 113, 59, 10, 113, 32, 61, 32, 39]⟩ : ByteArray) ++ x7_3).size + 11 ≤ 9223372036854775807 then (some (bt292.1.toList == (((⟨#[115, 116, 97, 114, 116, 32, 113, 59, 10, 113, 32, 61, 32, 39]⟩ : ByteArray) ++ x7_3) ++ (⟨#[39, 46, 46, 39, 92, 120, 102, 102, 39, 59, 10]⟩ : ByteArray)).toList)) else (none)) else (none)) else (none)))) = some r := by first | (rw [hy280]; with_reducible exact H) | (have H2_ := (Option.bind_some _ _).symm.trans H; rw [hy280]; with_reducible exact H2_) | (have H2_ := (Option.bind_some _ _).symm.trans H; with_reducible exact H2_) | with_reducible exact H | (rw [hy280]; exact H) | exact H
                  have Ny280 := Aside0.mk hy280
                  clear hy280
                  obtain ⟨y283, hy283⟩ : ∃ y_ : List (S38), y_ = (([(⟨(-1), (Go.bits .and .i64 a0 255), 255⟩ : S38)] : List (S38))) := ⟨_, rfl⟩
                  replace H : ((show_Show.f 0 y280 (([(⟨0, (([(⟨false, y283⟩ : S41)] : List (S41)))⟩ : S44)] : List (S44)))).bind fun bt292 => ((templelaw0_Num.f bt292.2).bind fun t294 => (if t294 = 0 then (if 14 + x7_3.size ≤ 9223372036854775807 then (if ((⟨#[115, 116, 97, 114, 116, 32, 113, 59, 10, 113, 32, 61, 32, 39]⟩ : ByteArray) ++ x7_3).size + 11 ≤ 9223372036854775807 then (some (bt292.1.toList == (((⟨#[115, 116, 97, 114, 116, 32, 113, 59, 10, 113, 32, 61, 32, 39]⟩ : ByteArray) ++ x7_3) ++ (⟨#[39, 46, 46, 39, 92, 120, 102, 102, 39, 59, 10]⟩ : ByteArray)).toList)) else (none)) else (none)) else (none)))) = some r := by first | (rw [hy283]; with_reducible exact H) | (have H2_ := (Option.bind_some _ _).symm.trans H; rw [hy283]; with_reducible exact H2_) | (have H2_ := (Option.bind_some _ _).symm.trans H; with_reducible exact H2_) | with_reducible exact H | (rw [hy283]; exact H) | exact H
                  have Ny283 := Aside0.mk hy283
                  clear hy283
                  obtain ⟨y286, hy286⟩ : ∃ y_ : List (S41), y_ = (([(⟨false, y283⟩ : S41)] : List (S41))) := ⟨_, rfl⟩
                  replace H : ((show_Show.f 0 y280 (([(⟨0, y286⟩ : S44)] : List (S44)))).bind fun bt292 => ((templelaw0_Num.f bt292.2).bind fun t294 => (if t294 = 0 then (if 14 + x7_3.size ≤ 9223372036854775807 then (if ((⟨#[115, 116, 97, 114, 116, 32, 113, 59, 10, 113, 32, 61, 32, 39]⟩ : ByteArray) ++ x7_3).size + 11 ≤ 9223372036854775807 then (some (bt292.1.toList == (((⟨#[115, 116, 97, 114, 116, 32, 113, 59, 10, 113, 32, 61, 32, 39]⟩ : ByteArray) ++ x7_3) ++ (⟨#[39, 46, 46, 39, 92, 120, 102, 102, 39, 59, 10]⟩ : ByteArray)).toList)) else (none)) else (none)) else (none)))) = some r := by first | (rw [hy286]; with_reducible exact H) | (have H2_ := (Option.bind_some _ _).symm.trans H; rw [hy286]; with_reducible exact H2_) | (have H2_ := (Option.bind_some _ _).symm.trans H; with_reducible exact H2_) | with_reducible exact H | (rw [hy286]; exact H) | exact H
                  have Ny286 := Aside0.mk hy286
                  clear hy286
                  obtain ⟨y289, hy289⟩ : ∃ y_ : List (S44), y_ = (([(⟨0, y286⟩ : S44)] : List (S44))) := ⟨_, rfl⟩
                  replace H : ((show_Show.f 0 y280 y289).bind fun bt292 => ((templelaw0_Num.f bt292.2).bind fun t294 => (if t294 = 0 then (if 14 + x7_3.size ≤ 9223372036854775807 then (if ((⟨#[115, 116, 97, 114, 116, 32, 113, 59, 10, 113, 32, 61, 32, 39]⟩ : ByteArray) ++ x7_3).size + 11 ≤ 9223372036854775807 then (some (bt292.1.toList == (((⟨#[115, 116, 97, 114, 116, 32, 113, 59, 10, 113, 32, 61, 32, 39]⟩ : ByteArray) ++ x7_3) ++ (⟨#[39, 46, 46, 39, 92, 120, 102, 102, 39, 59, 10]⟩ : ByteArray)).toList)) else (none)) else (none)) else (none)))) = some r := by first | (rw [hy289]; with_reducible exact H) | (have H2_ := (Option.bind_some _ _).symm.trans H; rw [hy289]; with_reducible exact H2_) | (have H2_ := (Option.bind_some _ _).symm.trans H; with_reducible exact H2_) | with_reducible exact H | (rw [hy289]; exact H) | exact H
                  have Ny289 := Aside0.mk hy289
                  clear hy289
                  replace H := Option.bind_eq_some_iff.mp H
                  obtain ⟨⟨t292, t293⟩, A480, H⟩ := H
                  replace H : ((templelaw0_Num.f t293).bind fun t294 => (if t294 = 0 then (if 14 + x7_3.size ≤ 9223372036854775807 then (if ((⟨#[115, 116, 97, 114, 116, 32, 113, 59, 10, 113, 32, 61, 32, 39]⟩ : ByteArray) ++ x7_3).size + 11 ≤ 9223372036854775807 then (some (t292.toList == (((⟨#[115, 116, 97, 114, 116, 32, 113, 59, 10, 113, 32, 61, 32, 39]⟩ : ByteArray) ++ x7_3) ++ (⟨#[39, 46, 46, 39, 92, 120, 102, 102, 39, 59, 10]⟩ : ByteArray)).toList)) else (none)) else (none)) else (none))) = some r := H
                  have A48 := Aside0.mk A480
                  clear A480
                  replace H := Option.bind_eq_some_iff.mp H
                  obtain ⟨t294, A490, H⟩ := H
                  replace H : (if t294 = 0 then (if 14 + x7_3.size ≤ 9223372036854775807 then (if ((⟨#[115, 116, 97, 114, 116, 32, 113, 59, 10, 113, 32, 61, 32, 39]⟩ : ByteArray) ++ x7_3).size + 11 ≤ 9223372036854775807 then (some (t292.toList == (((⟨#[115, 116, 97, 114, 116, 32, 113, 59, 10, 113, 32, 61, 32, 39]⟩ : ByteArray) ++ x7_3) ++ (⟨#[39, 46, 46, 39, 92, 120, 102, 102, 39, 59, 10]⟩ : ByteArray)).toList)) else (none)) else (none)) else (none)) = some r := H
                  have A49 := Aside0.mk A490
                  clear A490
                  by_cases c50 : t294 = 0
                  · rw [if_pos c50] at H
                    have c50b0 : (t294 == 0) = true := beq_iff_eq.mpr c50
                    have c50b1 : (t294 != 0) = false := bne_eq_false_iff_eq.mpr c50
                    clear c50
                    by_cases c51 : 14 + x7_3.size ≤ 9223372036854775807
                    · rw [if_pos c51] at H
                      have c51b0 := eq_true c51
                      have c51b1 : decide (14 + x7_3.size ≤ 9223372036854775807) = true := decide_eq_true c51
                      try have c51b2 : (9223372036854775807 < 14 + x7_3.size) = False := eq_false (Nat.not_lt.2 c51)
                      by_cases c52 : ((⟨#[115, 116, 97, 114, 116, 32, 113, 59, 10, 113, 32, 61, 32, 39]⟩ : ByteArray) ++ x7_3).size + 11 ≤ 9223372036854775807
                      · rw [if_pos c52] at H
                        have c52b0 := eq_true c52
                        have c52b1 : decide (((⟨#[115, 116, 97, 114, 116, 32, 113, 59, 10, 113, 32, 61, 32, 39]⟩ : ByteArray) ++ x7_3).size + 11 ≤ 9223372036854775807) = true := decide_eq_true c52
                        try have c52b2 : (9223372036854775807 < ((⟨#[115, 116, 97, 114, 116, 32, 113, 59, 10, 113, 32, 61, 32, 39]⟩ : ByteArray) ++ x7_3).size + 11) = False := eq_false (Nat.not_lt.2 c52)
                        try have c52b3 : (9223372036854775807 < 14 + x7_3.size + 11) = False := eq_false (by have q_ := c52; have z0_ : (⟨#[115, 116, 97, 114, 116, 32, 113, 59, 10, 113, 32, 61, 32, 39]⟩ : ByteArray).size = 14 := rfl; (try simp only [ByteArray.size_append, ByteArray.size_extract] at q_); omega)
                        obtain rfl := Option.some.inj H
                        go_wp2_with (first | ((with_reducible refine gate_dst (N := 52) rfl ?_); refine Kd.R_lit Kd.string _ 9 ?hg (N := 52) ?hd (xs := ([(⟨#[113]⟩ : ByteArray)] : List ByteArray)) (inner := [.string (⟨#[113]⟩ : ByteArray)]) (ok := fun _ => True) (okp := fun _ => True) ?hr ?hp (fun _ hk => hk) trivial (Below.refl _ _) (Nat.le_refl _) (by simp) ?_; (case hd => rfl); (case hg => rfl); (case hr => first | (go_simp; done) | (go_simp; rfl)); (case hp => exact (Reps.one (show Kd.M Kd.string _ _ _ (⟨#[113]⟩ : ByteArray) [.string (⟨#[113]⟩ : ByteArray)] from rfl) (Reps.none _ _))); intro v266 w53 ho54 hb hg_ hnew_; clear hg_ hnew_; (first | rw [← Ny265.out] at ho54 | (simp only [Int.reduceToNat] at ho54; rw [← Ny265.out] at ho54)); have n0_ := Aside0.mk (Kd.R_lower ho54 (below_size (by repeat (first | (with_reducible first | exact HB.out | apply below_alloc | apply pw_below_drewN | apply below_drew1) | exact HB.out)))); have n1_ := Aside0.mk (below_step (by repeat (first | (with_reducible first | exact HB.out | apply below_alloc | apply pw_below_drewN | apply below_drew1) | exact HB.out)) hb); clear HB; have HO267 := n0_; have HB := n1_; clear n0_ n1_; clear hb ho54) | ((with_reducible refine gate_dst (N := 56) rfl ?_); refine Kd.R_lit k38 _ 38 ?hg (N := 56) ?hd (xs := ([(⟨(-1), (Go.bits .and .i64 a0 255), (Go.bits .and .i64 a0 255)⟩ : S38)] : List (S38))) (inner := [.int .i64 (-1), .int .i64 (Go.bits .and .i64 a0 255), .int .i64 (Go.bits .and .i64 a0 255)]) (ok := fun _ => True) (okp := fun _ => True) ?hr ?hp (fun _ hk => hk) trivial (Below.refl _ _) (Nat.le_refl _) (by simp) ?_; (case hd => rfl); (case hg => rfl); (case hr => first | (go_simp; done) | (go_simp; rfl)); (case hp => exact (Reps.c3 (show Kd.M k38 _ _ _ (⟨(-1), (Go.bits .and .i64 a0 255), (Go.bits .and .i64 a0 255)⟩ : S38) [.int .i64 (-1), .int .i64 (Go.bits .and .i64 a0 255), .int .i64 (Go.bits .and .i64 a0 255)] from (k38_mkM _ _ _ (⟨(-1), (Go.bits .and .i64 a0 255), (Go.bits .and .i64 a0 255)⟩ : S38) )) (Reps.none _ _))); intro v269 w55 ho56 hb hg_ hnew_; clear hg_ hnew_; (first | rw [← Ny268.out] at ho56 | (simp only [Int.reduceToNat] at ho56; rw [← Ny268.out] at ho56)); have n0_ := Aside0.mk (Kd.R_below (by (with_reducible repeat (first | apply Kd.R_alloc | apply Kd.R_drewN | apply Kd.R_drew)); exact HO267.out) hb); have n1_ := Aside0.mk (Kd.R_lower ho56 (below_size (by repeat (first | (with_reducible first | exact HB.out | apply below_alloc | apply pw_below_drewN | apply below_drew1) | exact HB.out)))); have n2_ := Aside0.mk (below_step (by repeat (first | (with_reducible first | exact HB.out | apply below_alloc | apply pw_below_drewN | apply below_drew1) | exact HB.out)) hb); clear HO267; clear HB; have HO267 := n0_; have HO270 := n1_; have HB := n2_; clear n0_ n1_ n2_; clear hb ho56; obtain ⟨Ao57, co57, eo57⟩ := Kd.R_slice HO270.out; subst eo57) | ((with_reducible refine gate_dst (N := 58) rfl ?_); refine Kd.N_lit k41 _ 41 ?hg (N' := 58) ?hd (xs := ([(⟨false, y268⟩ : S41)] : List (S41))) (inner := [.bool false, .slice Ao57 y268.length co57]) (ok := (fun k_ => some k_ ≠ (v266 : Value).ownBlock)) (okp := (fun k_ => some k_ ≠ (v266 : Value).ownBlock)) ?hr ?hp (fun _ hk => hk) ((show ∀ k_, w55.heap.size ≤ k_ → (fun k_ => some k_ ≠ (v266 : Value).ownBlock) k_ from fun k_ hk => Kd.fresh' (Kd.R_lt (by (with_reducible repeat (first | apply Kd.R_alloc | apply Kd.R_drewN | apply Kd.R_drew)); exact HO267.out)) k_ hk) _ (Nat.le_refl _)) (Below.refl _ _) (Nat.le_refl _) (by simp) ?_; (case hd => rfl); (case hg => rfl); (case hr => first | (go_simp; done) | (go_simp; rfl)); (case hp => exact (Reps.c2 (show Kd.FK k41 _ _ (⟨false, y268⟩ : S41) [.bool false, .slice Ao57 y268.length co57] from (k41_mkF _ _ (⟨false, y268⟩ : S41) (Kd.R_reads' (Kd.R_mono (ok' := (fun k_ => some k_ ≠ (v266 : Value).ownBlock)) (Kd.R_apart' (HO270.out) (Kd.R_typed HO267.out) (by decide)) (fun k_ hk => hk.2))).2.1 (Kd.R_F (Kd.R_mono (ok' := (fun k_ => some k_ ≠ (v266 : Value).ownBlock)) (Kd.R_apart' (HO270.out) (Kd.R_typed HO267.out) (by decide)) (fun k_ hk => hk.2))))) (Reps.none _ _))); intro v272 w58 ho59 hb hg_ hnew_; clear hg_ hnew_; (first | rw [← Ny271.out] at ho59 | (simp only [Int.reduceToNat] at ho59; rw [← Ny271.out] at ho59)); have n0_ := Aside0.mk (Kd.R_below (by (with_reducible repeat (first | apply Kd.R_alloc | apply Kd.R_drewN | apply Kd.R_drew)); exact HO267.out) hb); have n1_ := Aside0.mk (Kd.N_lower ho59 (below_size (by repeat (first | (with_reducible first | exact HB.out | apply below_alloc | apply pw_below_drewN | apply below_drew1) | exact HB.out)))); have n2_ := Aside0.mk (below_step (by repeat (first | (with_reducible first | exact HB.out | apply below_alloc | apply pw_below_drewN | apply below_drew1) | exact HB.out)) hb); clear HO267; clear HB; clear HO270; have HO267 := n0_; have HO273 := n1_; have HB := n2_; clear n0_ n1_ n2_; clear hb ho59; obtain ⟨Ao60, co60, eo60⟩ := Kd.N_slice HO273.out; subst eo60) | ((with_reducible refine gate_dst (N := 60) rfl ?_); refine Kd.N_lit k44 _ 44 ?hg (N' := 60) ?hd (xs := ([(⟨0, y271⟩ : S44)] : List (S44))) (inner := [.int .i64 0, .slice Ao60 y271.length co60]) (ok := (fun k_ => some k_ ≠ (v266 : Value).ownBlock)) (okp := (fun k_ => some k_ ≠ (v266 : Value).ownBlock)) ?hr ?hp (fun _ hk => hk) ((show ∀ k_, w58.heap.size ≤ k_ → (fun k_ => some k_ ≠ (v266 : Value).ownBlock) k_ from fun k_ hk => Kd.fresh' (Kd.R_lt (by (with_reducible repeat (first | apply Kd.R_alloc | apply Kd.R_drewN | apply Kd.R_drew)); exact HO267.out)) k_ hk) _ (Nat.le_refl _)) (Below.refl _ _) (Nat.le_refl _) (by simp) ?_; (case hd => rfl); (case hg => rfl); (case hr => first | (go_simp; done) | (go_simp; rfl)); (case hp => exact (Reps.c2 (show Kd.FK k44 _ _ (⟨0, y271⟩ : S44) [.int .i64 0, .slice Ao60 y271.length co60] from (k44_mkF _ _ (⟨0, y271⟩ : S44) (Kd.N_reads' (Kd.N_mono (ok' := (fun k_ => some k_ ≠ (v266 : Value).ownBlock)) (HO273.out) (fun k_ hk => hk))).2.1 (Kd.N_F (Kd.N_mono (ok' := (fun k_ => some k_ ≠ (v266 : Value).ownBlock)) (HO273.out) (fun k_ hk => hk))))) (Reps.none _ _))); intro v275 w61 ho62 hb hg_ hnew_; clear hg_ hnew_; (first | rw [← Ny274.out] at ho62 | (simp only [Int.reduceToNat] at ho62; rw [← Ny274.out] at ho62)); have n0_ := Aside0.mk (Kd.R_below (by (with_reducible repeat (first | apply Kd.R_alloc | apply Kd.R_drewN | apply Kd.R_drew)); exact HO267.out) hb); have n1_ := Aside0.mk (Kd.N_lower ho62 (below_size (by repeat (first | (with_reducible first | exact HB.out | apply below_alloc | apply pw_below_drewN | apply below_drew1) | exact HB.out)))); have n2_ := Aside0.mk (below_step (by repeat (first | (with_reducible first | exact HB.out | apply below_alloc | apply pw_below_drewN | apply below_drew1) | exact HB.out)) hb); clear HO267; clear HB; clear HO273; have HO267 := n0_; have HO276 := n1_; have HB := n2_; clear n0_ n1_ n2_; clear hb ho62; obtain ⟨Ao63, co63, eo63⟩ := Kd.N_slice HO276.out; subst eo63; obtain ⟨Ao64, co64, eo64⟩ := Kd.R_slice HO267.out; subst eo64) | ((with_reducible refine gate_callee (f := 10) rfl ?_); refine goesL_ (some 62) rfl rfl Try.func10 (by kernel_rfl) rfl #[.agg #[.int .i64 0, .slice Ao64 y265.length co64, .slice Ao63 y274.length co63]] rfl (by (try simp only [List.map_toArray, List.map_cons, List.map_nil]); first | done | rfl | (simp only [List.length_drop, List.length_take]; rfl)) ?_; (with_reducible refine (show_Show.calls 0 _ _ y265 _ _ y274 t277 t278 _ ?side1 ?side2 ?side3 ?side4 A28.out).mono ?_); (case side1 => repeat (first | exact (Kd.R_reads' HO267.out).2.2 | (with_reducible refine Kd.C_alloc ?_ _) | (with_reducible refine Kd.C_drewN ?_ _) | (with_reducible refine Kd.C_drew ?_))); (case side2 => exact (Kd.R_reads' HO267.out).2.1); (case side3 => repeat (first | exact (Kd.N_reads' HO276.out).2.2 | (with_reducible refine Kd.C_alloc ?_ _) | (with_reducible refine Kd.C_drewN ?_ _) | (with_reducible refine Kd.C_drew ?_))); (case side4 => exact (Kd.N_reads' HO276.out).2.1); rintro e w65 ⟨rfl, hb⟩; refine ⟨_, rfl, ?_⟩; have n0_ := Aside0.mk (Kd.R_below (by (with_reducible repeat (first | apply Kd.R_alloc | apply Kd.R_drewN | apply Kd.R_drew)); exact HO267.out) hb); have n1_ := Aside0.mk (Kd.N_below (by (with_reducible repeat (first | apply Kd.N_alloc | apply Kd.N_drewN | apply Kd.N_drew)); exact HO276.out) hb); have n2_ := Aside0.mk (below_step (by repeat (first | (with_reducible first | exact HB.out | apply below_alloc | apply pw_below_drewN | apply below_drew1) | exact HB.out)) hb); clear HO267; clear HO276; clear HB; have HO267 := n0_; have HO276 := n1_; have HB := n2_; clear n0_ n1_ n2_; (try clear hb); (try clear hb2); (try clear hk); (try clear hi)) | ((with_reducible refine gate_callee (f := 12) rfl ?_); refine goesL_ (some 66) rfl rfl Try.func12 (by kernel_rfl) rfl #[.int .i64 t278] rfl (by (try simp only [List.map_toArray, List.map_cons, List.map_nil]); first | done | rfl | (simp only [List.length_drop, List.length_take]; rfl)) ?_; (with_reducible refine (templelaw0_Num.calls t278 t279 _ A29.out).mono ?_); rintro e w' ⟨rfl, ⟨nd, rfl⟩⟩; refine ⟨_, rfl, ?_⟩) | ((with_reducible refine gate_dst (N := 78) rfl ?_); refine Kd.R_lit Kd.string _ 9 ?hg (N := 78) ?hd (xs := ([(⟨#[113]⟩ : ByteArray)] : List ByteArray)) (inner := [.string (⟨#[113]⟩ : ByteArray)]) (ok := fun _ => True) (okp := fun _ => True) ?hr ?hp (fun _ hk => hk) trivial (Below.refl _ _) (Nat.le_refl _) (by simp) ?_; (case hd => rfl); (case hg => rfl); (case hr => first | (go_simp; done) | (go_simp; rfl)); (case hp => exact (Reps.one (show Kd.M Kd.string _ _ _ (⟨#[113]⟩ : ByteArray) [.string (⟨#[113]⟩ : ByteArray)] from rfl) (Reps.none _ _))); intro v281 w66 ho67 hb hg_ hnew_; clear hg_ hnew_; (first | rw [← Ny280.out] at ho67 | (simp only [Int.reduceToNat] at ho67; rw [← Ny280.out] at ho67)); have n0_ := Aside0.mk (Kd.R_elder' (by (with_reducible repeat (first | apply Kd.R_alloc | apply Kd.R_drewN | apply Kd.R_drew)); exact HO267.out) (Kd.R_base ho67) hb); have n1_ := Aside0.mk (Kd.N_elder' (by (with_reducible repeat (first | apply Kd.N_alloc | apply Kd.N_drewN | apply Kd.N_drew)); exact HO276.out) (Kd.R_base ho67) hb); have n2_ := Aside0.mk (Kd.R_lower (Kd.R_new' ho67 (Kd.R_lt (by (with_reducible repeat (first | apply Kd.R_alloc | apply Kd.R_drewN | apply Kd.R_drew)); exact HO267.out))) (below_size (by repeat (first | (with_reducible first | exact HB.out | apply below_alloc | apply pw_below_drewN | apply below_drew1) | exact HB.out)))); have n3_ := Aside0.mk (below_step (by repeat (first | (with_reducible first | exact HB.out | apply below_alloc | apply pw_below_drewN | apply below_drew1) | exact HB.out)) hb); clear HO267; clear HO276; clear HB; have HO267 := n0_; have HO276 := n1_; have HO282 := n2_; have HB := n3_; clear n0_ n1_ n2_ n3_; clear hb ho67) | ((with_reducible refine gate_dst (N := 81) rfl ?_); refine Kd.R_lit k38 _ 38 ?hg (N := 81) ?hd (xs := ([(⟨(-1), (Go.bits .and .i64 a0 255), 255⟩ : S38)] : List (S38))) (inner := [.int .i64 (-1), .int .i64 (Go.bits .and .i64 a0 255), .int .i64 255]) (ok := fun _ => True) (okp := fun _ => True) ?hr ?hp (fun _ hk => hk) trivial (Below.refl _ _) (Nat.le_refl _) (by simp) ?_; (case hd => rfl); (case hg => rfl); (case hr => first | (go_simp; done) | (go_simp; rfl)); (case hp => exact (Reps.c3 (show Kd.M k38 _ _ _ (⟨(-1), (Go.bits .and .i64 a0 255), 255⟩ : S38) [.int .i64 (-1), .int .i64 (Go.bits .and .i64 a0 255), .int .i64 255] from (k38_mkM _ _ _ (⟨(-1), (Go.bits .and .i64 a0 255), 255⟩ : S38) )) (Reps.none _ _))); intro v284 w68 ho69 hb hg_ hnew_; clear hg_ hnew_; (first | rw [← Ny283.out] at ho69 | (simp only [Int.reduceToNat] at ho69; rw [← Ny283.out] at ho69)); have n0_ := Aside0.mk (Kd.R_below (by (with_reducible repeat (first | apply Kd.R_alloc | apply Kd.R_drewN | apply Kd.R_drew)); exact HO267.out) hb); have n1_ := Aside0.mk (Kd.N_elder' (by (with_reducible repeat (first | apply Kd.N_alloc | apply Kd.N_drewN | apply Kd.N_drew)); exact HO276.out) (Kd.R_base ho69) hb); have n2_ := Aside0.mk (Kd.R_below (by (with_reducible repeat (first | apply Kd.R_alloc | apply Kd.R_drewN | apply Kd.R_drew)); exact HO282.out) hb); have n3_ := Aside0.mk (Kd.R_lower ho69 (below_size (by repeat (first | (with_reducible first | exact HB.out | apply below_alloc | apply pw_below_drewN | apply below_drew1) | exact HB.out)))); have n4_ := Aside0.mk (below_step (by repeat (first | (with_reducible first | exact HB.out | apply below_alloc | apply pw_below_drewN | apply below_drew1) | exact HB.out)) hb); clear HO267; clear HO276; clear HO282; clear HB; have HO267 := n0_; have HO276 := n1_; have HO282 := n2_; have HO285 := n3_; have HB := n4_; clear n0_ n1_ n2_ n3_ n4_; clear hb ho69; obtain ⟨Ao70, co70, eo70⟩ := Kd.R_slice HO285.out; subst eo70) | ((with_reducible refine gate_dst (N := 83) rfl ?_); refine Kd.N_lit k41 _ 41 ?hg (N' := 83) ?hd (xs := ([(⟨false, y283⟩ : S41)] : List (S41))) (inner := [.bool false, .slice Ao70 y283.length co70]) (ok := (fun k_ => some k_ ≠ (.slice Ao64 y265.length co64 : Value).ownBlock ∧ some k_ ≠ (.slice Ao63 y274.length co63 : Value).ownBlock ∧ some k_ ≠ (v281 : Value).ownBlock)) (okp := (fun k_ => some k_ ≠ (.slice Ao64 y265.length co64 : Value).ownBlock ∧ some k_ ≠ (.slice Ao63 y274.length co63 : Value).ownBlock ∧ some k_ ≠ (v281 : Value).ownBlock)) ?hr ?hp (fun _ hk => hk) ((show ∀ k_, w68.heap.size ≤ k_ → (fun k_ => some k_ ≠ (.slice Ao64 y265.length co64 : Value).ownBlock ∧ some k_ ≠ (.slice Ao63 y274.length co63 : Value).ownBlock ∧ some k_ ≠ (v281 : Value).ownBlock) k_ from fun k_ hk => ⟨Kd.fresh' (Kd.R_lt (by (with_reducible repeat (first | apply Kd.R_alloc | apply Kd.R_drewN | apply Kd.R_drew)); exact HO267.out)) k_ hk, Kd.fresh' (Kd.N_lt (by (with_reducible repeat (first | apply Kd.N_alloc | apply Kd.N_drewN | apply Kd.N_drew)); exact HO276.out)) k_ hk, Kd.fresh' (Kd.R_lt (by (with_reducible repeat (first | apply Kd.R_alloc | apply Kd.R_drewN | apply Kd.R_drew)); exact HO282.out)) k_ hk⟩) _ (Nat.le_refl _)) (Below.refl _ _) (Nat.le_refl _) (by simp) ?_; (case hd => rfl); (case hg => rfl); (case hr => first | (go_simp; done) | (go_simp; rfl)); (case hp => exact (Reps.c2 (show Kd.FK k41 _ _ (⟨false, y283⟩ : S41) [.bool false, .slice Ao70 y283.length co70] from (k41_mkF _ _ (⟨false, y283⟩ : S41) (Kd.R_reads' (Kd.R_mono (ok' := (fun k_ => some k_ ≠ (.slice Ao64 y265.length co64 : Value).ownBlock ∧ some k_ ≠ (.slice Ao63 y274.length co63 : Value).ownBlock ∧ some k_ ≠ (v281 : Value).ownBlock)) (Kd.R_apart' (Kd.R_apart' (Kd.R_apart' (HO285.out) (Kd.R_typed HO267.out) (by decide)) (Kd.N_typed HO276.out) (by decide)) (Kd.R_typed HO282.out) (by decide)) (fun k_ hk => ⟨hk.1.1.2, ⟨hk.1.2, hk.2⟩⟩))).2.1 (Kd.R_F (Kd.R_mono (ok' := (fun k_ => some k_ ≠ (.slice Ao64 y265.length co64 : Value).ownBlock ∧ some k_ ≠ (.slice Ao63 y274.length co63 : Value).ownBlock ∧ some k_ ≠ (v281 : Value).ownBlock)) (Kd.R_apart' (Kd.R_apart' (Kd.R_apart' (HO285.out) (Kd.R_typed HO267.out) (by decide)) (Kd.N_typed HO276.out) (by decide)) (Kd.R_typed HO282.out) (by decide)) (fun k_ hk => ⟨hk.1.1.2, ⟨hk.1.2, hk.2⟩⟩))))) (Reps.none _ _))); intro v287 w71 ho72 hb hg_ hnew_; clear hg_ hnew_; (first | rw [← Ny286.out] at ho72 | (simp only [Int.reduceToNat] at ho72; rw [← Ny286.out] at ho72)); have n0_ := Aside0.mk (Kd.R_below (by (with_reducible repeat (first | apply Kd.R_alloc | apply Kd.R_drewN | apply Kd.R_drew)); exact HO267.out) hb); have n1_ := Aside0.mk (Kd.N_elder' (by (with_reducible repeat (first | apply Kd.N_alloc | apply Kd.N_drewN | apply Kd.N_drew)); exact HO276.out) (Kd.N_base ho72) hb); have n2_ := Aside0.mk (Kd.R_below (by (with_reducible repeat (first | apply Kd.R_alloc | apply Kd.R_drewN | apply Kd.R_drew)); exact HO282.out) hb); have n3_ := Aside0.mk (Kd.N_lower ho72 (below_size (by repeat (first | (with_reducible first | exact HB.out | apply below_alloc | apply pw_below_drewN | apply below_drew1) | exact HB.out)))); have n4_ := Aside0.mk (below_step (by repeat (first | (with_reducible first | exact HB.out | apply below_alloc | apply pw_below_drewN | apply below_drew1) | exact HB.out)) hb); clear HO267; clear HO276; clear HO282; clear HB; clear HO285; have HO267 := n0_; have HO276 := n1_; have HO282 := n2_; have HO288 := n3_; have HB := n4_; clear n0_ n1_ n2_ n3_ n4_; clear hb ho72; obtain ⟨Ao73, co73, eo73⟩ := Kd.N_slice HO288.out; subst eo73) | ((with_reducible refine gate_dst (N := 85) rfl ?_); refine Kd.N_lit k44 _ 44 ?hg (N' := 85) ?hd (xs := ([(⟨0, y286⟩ : S44)] : List (S44))) (inner := [.int .i64 0, .slice Ao73 y286.length co73]) (ok := (fun k_ => some k_ ≠ (.slice Ao64 y265.length co64 : Value).ownBlock ∧ some k_ ≠ (.slice Ao63 y274.length co63 : Value).ownBlock ∧ some k_ ≠ (v281 : Value).ownBlock)) (okp := (fun k_ => some k_ ≠ (.slice Ao64 y265.length co64 : Value).ownBlock ∧ some k_ ≠ (.slice Ao63 y274.length co63 : Value).ownBlock ∧ some k_ ≠ (v281 : Value).ownBlock)) ?hr ?hp (fun _ hk => hk) ((show ∀ k_, w71.heap.size ≤ k_ → (fun k_ => some k_ ≠ (.slice Ao64 y265.length co64 : Value).ownBlock ∧ some k_ ≠ (.slice Ao63 y274.length co63 : Value).ownBlock ∧ some k_ ≠ (v281 : Value).ownBlock) k_ from fun k_ hk => ⟨Kd.fresh' (Kd.R_lt (by (with_reducible repeat (first | apply Kd.R_alloc | apply Kd.R_drewN | apply Kd.R_drew)); exact HO267.out)) k_ hk, Kd.fresh' (Kd.N_lt (by (with_reducible repeat (first | apply Kd.N_alloc | apply Kd.N_drewN | apply Kd.N_drew)); exact HO276.out)) k_ hk, Kd.fresh' (Kd.R_lt (by (with_reducible repeat (first | apply Kd.R_alloc | apply Kd.R_drewN | apply Kd.R_drew)); exact HO282.out)) k_ hk⟩) _ (Nat.le_refl _)) (Below.refl _ _) (Nat.le_refl _) (by simp) ?_; (case hd => rfl); (case hg => rfl); (case hr => first | (go_simp; done) | (go_simp; rfl)); (case hp => exact (Reps.c2 (show Kd.FK k44 _ _ (⟨0, y286⟩ : S44) [.int .i64 0, .slice Ao73 y286.length co73] from (k44_mkF _ _ (⟨0, y286⟩ : S44) (Kd.N_reads' (Kd.N_mono (ok' := (fun k_ => some k_ ≠ (.slice Ao64 y265.length co64 : Value).ownBlock ∧ some k_ ≠ (.slice Ao63 y274.length co63 : Value).ownBlock ∧ some k_ ≠ (v281 : Value).ownBlock)) (HO288.out) (fun k_ hk => ⟨hk.1, ⟨hk.2.1, hk.2.2⟩⟩))).2.1 (Kd.N_F (Kd.N_mono (ok' := (fun k_ => some k_ ≠ (.slice Ao64 y265.length co64 : Value).ownBlock ∧ some k_ ≠ (.slice Ao63 y274.length co63 : Value).ownBlock ∧ some k_ ≠ (v281 : Value).ownBlock)) (HO288.out) (fun k_ hk => ⟨hk.1, ⟨hk.2.1, hk.2.2⟩⟩))))) (Reps.none _ _))); intro v290 w74 ho75 hb hg_ hnew_; clear hg_ hnew_; (first | rw [← Ny289.out] at ho75 | (simp only [Int.reduceToNat] at ho75; rw [← Ny289.out] at ho75)); have n0_ := Aside0.mk (Kd.R_below (by (with_reducible repeat (first | apply Kd.R_alloc | apply Kd.R_drewN | apply Kd.R_drew)); exact HO267.out) hb); have n1_ := Aside0.mk (Kd.N_elder' (by (with_reducible repeat (first | apply Kd.N_alloc | apply Kd.N_drewN | apply Kd.N_drew)); exact HO276.out) (Kd.N_base ho75) hb); have n2_ := Aside0.mk (Kd.R_below (by (with_reducible repeat (first | apply Kd.R_alloc | apply Kd.R_drewN | apply Kd.R_drew)); exact HO282.out) hb); have n3_ := Aside0.mk (Kd.N_lower ho75 (below_size (by repeat (first | (with_reducible first | exact HB.out | apply below_alloc | apply pw_below_drewN | apply below_drew1) | exact HB.out)))); have n4_ := Aside0.mk (below_step (by repeat (first | (with_reducible first | exact HB.out | apply below_alloc | apply pw_below_drewN | apply below_drew1) | exact HB.out)) hb); clear HO267; clear HO276; clear HO282; clear HB; clear HO288; have HO267 := n0_; have HO276 := n1_; have HO282 := n2_; have HO291 := n3_; have HB := n4_; clear n0_ n1_ n2_ n3_ n4_; clear hb ho75; obtain ⟨Ao76, co76, eo76⟩ := Kd.N_slice HO291.out; subst eo76; obtain ⟨Ao77, co77, eo77⟩ := Kd.R_slice HO282.out; subst eo77) | ((with_reducible refine gate_callee (f := 10) rfl ?_); refine goesL_ (some 87) rfl rfl Try.func10 (by kernel_rfl) rfl #[.agg #[.int .i64 0, .slice Ao77 y280.length co77, .slice Ao76 y289.length co76]] rfl (by (try simp only [List.map_toArray, List.map_cons, List.map_nil]); first | done | rfl | (simp only [List.length_drop, List.length_take]; rfl)) ?_; (with_reducible refine (show_Show.calls 0 _ _ y280 _ _ y289 t292 t293 _ ?side1 ?side2 ?side3 ?side4 A48.out).mono ?_); (case side1 => repeat (first | exact (Kd.R_reads' HO282.out).2.2 | (with_reducible refine Kd.C_alloc ?_ _) | (with_reducible refine Kd.C_drewN ?_ _) | (with_reducible refine Kd.C_drew ?_))); (case side2 => exact (Kd.R_reads' HO282.out).2.1); (case side3 => repeat (first | exact (Kd.N_reads' HO291.out).2.2 | (with_reducible refine Kd.C_alloc ?_ _) | (with_reducible refine Kd.C_drewN ?_ _) | (with_reducible refine Kd.C_drew ?_))); (case side4 => exact (Kd.N_reads' HO291.out).2.1); rintro e w78 ⟨rfl, hb⟩; refine ⟨_, rfl, ?_⟩; have n0_ := Aside0.mk (Kd.R_below (by (with_reducible repeat (first | apply Kd.R_alloc | apply Kd.R_drewN | apply Kd.R_drew)); exact HO267.out) hb); have n1_ := Aside0.mk (Kd.N_below (by (with_reducible repeat (first | apply Kd.N_alloc | apply Kd.N_drewN | apply Kd.N_drew)); exact HO276.out) hb); have n2_ := Aside0.mk (Kd.R_below (by (with_reducible repeat (first | apply Kd.R_alloc | apply Kd.R_drewN | apply Kd.R_drew)); exact HO282.out) hb); have n3_ := Aside0.mk (Kd.N_below (by (with_reducible repeat (first | apply Kd.N_alloc | apply Kd.N_drewN | apply Kd.N_drew)); exact HO291.out) hb); have n4_ := Aside0.mk (below_step (by repeat (first | (with_reducible first | exact HB.out | apply below_alloc | apply pw_below_drewN | apply below_drew1) | exact HB.out)) hb); clear HO267; clear HO276; clear HO282; clear HO291; clear HB; have HO267 := n0_; have HO276 := n1_; have HO282 := n2_; have HO291 := n3_; have HB := n4_; clear n0_ n1_ n2_ n3_ n4_; (try clear hb); (try clear hb2); (try clear hk); (try clear hi)) | ((with_reducible refine gate_callee (f := 12) rfl ?_); refine goesL_ (some 91) rfl rfl Try.func12 (by kernel_rfl) rfl #[.int .i64 t293] rfl (by (try simp only [List.map_toArray, List.map_cons, List.map_nil]); first | done | rfl | (simp only [List.length_drop, List.length_take]; rfl)) ?_; (with_reducible refine (templelaw0_Num.calls t293 t294 _ A49.out).mono ?_); rintro e w' ⟨rfl, ⟨nd, rfl⟩⟩; refine ⟨_, rfl, ?_⟩))
                        go_ret
                        exact ⟨by first | rfl | (simp [errW_none, errW_some] <;> rfl) | (simp [*, errW_none, errW_some] <;> rfl), by repeat (first | (with_reducible first | exact HB.out | apply below_alloc | apply pw_below_drewN | apply below_drew1) | exact HB.out)⟩
                      · rw [if_neg c52] at H
                        exact absurd H (by simp)
                    · rw [if_neg c51] at H
                      exact absurd H (by simp)
                  · rw [if_neg c50] at H
                    exact absurd H (by simp)
              · rw [if_neg c33] at H
                exact absurd H (by simp)
            · rw [if_neg c32] at H
              exact absurd H (by simp)
          · rw [if_neg c31] at H
            exact absurd H (by simp)
        · rw [if_neg c30] at H
          exact absurd H (by simp)
  · replace c3 := Bool.eq_false_iff.mpr c3
    subst c3
    have H1 : (none) = some r := by rw [if_neg (show ¬ (false = true) by decide)] at H; exact H
    clear H
    have H := H1
    clear H1
    exact absurd H (by simp)

/-- THE ONE PURE STATEMENT of templelaw5_ShowBytes: yours. -/
def templelaw5_ShowBytes.Pure : Prop := ∀ (a0 : Int), (Lit.int .i64 a0).wf = true → ∃ k, templelaw5_ShowBytes.f k a0 = some true
theorem templelaw5_ShowBytes.walk (P : templelaw5_ShowBytes.Pure) (a0 : Int) (w : World) (w0 : (Lit.int .i64 a0).wf = true) :
    Calls Try.prog 4 #[.int .i64 a0] w fun e w' => e = .returned (.bool true) ∧ Below w.heap.size w w' := by
  obtain ⟨k, h⟩ := P a0 w0
  refine (templelaw5_ShowBytes.calls k a0 true w h).mono ?_
  rintro e w' ⟨rfl, hd⟩
  exact ⟨rfl, hd⟩

end Go.Proofs.Ytimmkmfcpfjgfaa.PS5
