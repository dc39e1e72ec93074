-- written by a program of the session's (wip/myprint.py) out of the translation
import Derived.Test.YtimmkmfcpfjgfaaPS5x0
import Derived.Test.YtimmkmfcpfjgfaaPS5x20
import Derived.Test.YtimmkmfcpfjgfaaPS5x32
import Derived.Test.YtimmkmfcpfjgfaaPS5x37
namespace Go.Proofs.Ytimmkmfcpfjgfaa.PS5
open Go.RowKit Go.Proofs.YtimmkmfcpfjgfaaW.PrintWords Go.Proofs.YtimmkmfcpfjgfaaW.PrintLast Go.Proofs.YtimmkmfcpfjgfaaW.PrintMore
attribute [local go_sem] max2_int min2_int max_two min_two max_three min_three max_four min_four   -- for this text's walks alone
set_option linter.unusedVariables false
set_option linter.unusedSimpArgs false

/-! ### templelaw5_ShowRuns: function 5 -/
mutual
def templelaw5_ShowRuns.l0 : Nat → List Int → List (S38) → ByteArray → Bool → Int → Option (Bool)
  | 0, _, _, _, _, _ => none
  | k + 1, x0, x3, x4, x5, x6 => if x6 < (x0.length : Int) then (templelaw5_ShowRuns.j1 k x0 x3 x4 x5 x6 (decide (x6 < 40))) else (templelaw5_ShowRuns.j1 k x0 x3 x4 x5 x6 false)
def templelaw5_ShowRuns.j1 : Nat → List Int → List (S38) → ByteArray → Bool → Int → Bool → Option (Bool)
  | 0, _, _, _, _, _, _ => none
  | k + 1, x0, x3, x4, x5, x6, x19 => if x19 = true then (if 0 ≤ x6 then (if x6 < (x0.length : Int) then (if (wrap64 (Int.tmod (IntKind.u64.wrap (rd x0 x6)) 3)) = 0 then (if x5 = true then (if x4.size + 1 ≤ 9223372036854775807 then (if x3.length < 5864062014805 then (templelaw5_ShowRuns.l0 k x0 (x3 ++ [(⟨(-1), 97, 97⟩ : S38)]) (x4 ++ (⟨#[97]⟩ : ByteArray)) true (wrap64 (x6 + 1))) else (none)) else (none)) else (if x4.toList = ([] : List UInt8) then (if x4.size + 1 ≤ 9223372036854775807 then (if (x4 ++ (⟨#[34]⟩ : ByteArray)).size + 1 ≤ 9223372036854775807 then (if x3.length < 5864062014805 then (templelaw5_ShowRuns.l0 k x0 (x3 ++ [(⟨(-1), 97, 97⟩ : S38)]) ((x4 ++ (⟨#[34]⟩ : ByteArray)) ++ (⟨#[97]⟩ : ByteArray)) true (wrap64 (x6 + 1))) else (none)) else (none)) else (none)) else (if x4.size + 1 ≤ 9223372036854775807 then (if (x4 ++ (⟨#[32]⟩ : ByteArray)).size + 1 ≤ 9223372036854775807 then (if ((x4 ++ (⟨#[32]⟩ : ByteArray)) ++ (⟨#[34]⟩ : ByteArray)).size + 1 ≤ 9223372036854775807 then (if x3.length < 5864062014805 then (templelaw5_ShowRuns.l0 k x0 (x3 ++ [(⟨(-1), 97, 97⟩ : S38)]) (((x4 ++ (⟨#[32]⟩ : ByteArray)) ++ (⟨#[34]⟩ : ByteArray)) ++ (⟨#[97]⟩ : ByteArray)) true (wrap64 (x6 + 1))) else (none)) else (none)) else (none)) else (none)))) else (if x5 = true then (if x4.size + 1 ≤ 9223372036854775807 then (if (x4 ++ (⟨#[34]⟩ : ByteArray)).toList = ([] : List UInt8) then ((some (([(⟨#[113]⟩ : ByteArray), (⟨#[39, 97, 39, 46, 46, 39, 98, 39]⟩ : ByteArray)] : List ByteArray) : List ByteArray)).bind fun y306 => (if 0 ≤ (wrap64 ((wrap64 (Int.tmod (IntKind.u64.wrap (rd x0 x6)) 3)) - 1)) then (if (wrap64 ((wrap64 (Int.tmod (IntKind.u64.wrap (rd x0 x6)) 3)) - 1)) < (y306.length : Int) then (if (x4 ++ (⟨#[34]⟩ : ByteArray)).size + (rdOf ByteArray.empty y306 (wrap64 ((wrap64 (Int.tmod (IntKind.u64.wrap (rd x0 x6)) 3)) - 1))).size ≤ 9223372036854775807 then ((some (([(⟨0, 0, 0⟩ : S38), (⟨(-1), 97, 98⟩ : S38)] : List (S38)) : List (S38))).bind fun y310 => (if (wrap64 ((wrap64 (Int.tmod (IntKind.u64.wrap (rd x0 x6)) 3)) - 1)) < (y310.length : Int) then (if x3.length < 5864062014805 then (templelaw5_ShowRuns.l0 k x0 (x3 ++ [(⟨(rd_T38 y310 (wrap64 ((wrap64 (Int.tmod (IntKind.u64.wrap (rd x0 x6)) 3)) - 1))).f0, (rd_T38 y310 (wrap64 ((wrap64 (Int.tmod (IntKind.u64.wrap (rd x0 x6)) 3)) - 1))).f1, (rd_T38 y310 (wrap64 ((wrap64 (Int.tmod (IntKind.u64.wrap (rd x0 x6)) 3)) - 1))).f2⟩ : S38)]) ((x4 ++ (⟨#[34]⟩ : ByteArray)) ++ (rdOf ByteArray.empty y306 (wrap64 ((wrap64 (Int.tmod (IntKind.u64.wrap (rd x0 x6)) 3)) - 1)))) false (wrap64 (x6 + 1))) else (none)) else (none))) else (none)) else (none)) else (none))) else (if (x4 ++ (⟨#[34]⟩ : ByteArray)).size + 1 ≤ 9223372036854775807 then ((some (([(⟨#[113]⟩ : ByteArray), (⟨#[39, 97, 39, 46, 46, 39, 98, 39]⟩ : ByteArray)] : List ByteArray) : List ByteArray)).bind fun y317 => (if 0 ≤ (wrap64 ((wrap64 (Int.tmod (IntKind.u64.wrap (rd x0 x6)) 3)) - 1)) then (if (wrap64 ((wrap64 (Int.tmod (IntKind.u64.wrap (rd x0 x6)) 3)) - 1)) < (y317.length : Int) then (if ((x4 ++ (⟨#[34]⟩ : ByteArray)) ++ (⟨#[32]⟩ : ByteArray)).size + (rdOf ByteArray.empty y317 (wrap64 ((wrap64 (Int.tmod (IntKind.u64.wrap (rd x0 x6)) 3)) - 1))).size ≤ 9223372036854775807 then ((some (([(⟨0, 0, 0⟩ : S38), (⟨(-1), 97, 98⟩ : S38)] : List (S38)) : List (S38))).bind fun y321 => (if (wrap64 ((wrap64 (Int.tmod (IntKind.u64.wrap (rd x0 x6)) 3)) - 1)) < (y321.length : Int) then (if x3.length < 5864062014805 then (templelaw5_ShowRuns.l0 k x0 (x3 ++ [(⟨(rd_T38 y321 (wrap64 ((wrap64 (Int.tmod (IntKind.u64.wrap (rd x0 x6)) 3)) - 1))).f0, (rd_T38 y321 (wrap64 ((wrap64 (Int.tmod (IntKind.u64.wrap (rd x0 x6)) 3)) - 1))).f1, (rd_T38 y321 (wrap64 ((wrap64 (Int.tmod (IntKind.u64.wrap (rd x0 x6)) 3)) - 1))).f2⟩ : S38)]) (((x4 ++ (⟨#[34]⟩ : ByteArray)) ++ (⟨#[32]⟩ : ByteArray)) ++ (rdOf ByteArray.empty y317 (wrap64 ((wrap64 (Int.tmod (IntKind.u64.wrap (rd x0 x6)) 3)) - 1)))) false (wrap64 (x6 + 1))) else (none)) else (none))) else (none)) else (none)) else (none))) else (none))) else (none)) else (if x4.toList = ([] : List UInt8) then ((some (([(⟨#[113]⟩ : ByteArray), (⟨#[39, 97, 39, 46, 46, 39, 98, 39]⟩ : ByteArray)] : List ByteArray) : List ByteArray)).bind fun y328 => (if 0 ≤ (wrap64 ((wrap64 (Int.tmod (IntKind.u64.wrap (rd x0 x6)) 3)) - 1)) then (if (wrap64 ((wrap64 (Int.tmod (IntKind.u64.wrap (rd x0 x6)) 3)) - 1)) < (y328.length : Int) then (if x4.size + (rdOf ByteArray.empty y328 (wrap64 ((wrap64 (Int.tmod (IntKind.u64.wrap (rd x0 x6)) 3)) - 1))).size ≤ 9223372036854775807 then ((some (([(⟨0, 0, 0⟩ : S38), (⟨(-1), 97, 98⟩ : S38)] : List (S38)) : List (S38))).bind fun y332 => (if (wrap64 ((wrap64 (Int.tmod (IntKind.u64.wrap (rd x0 x6)) 3)) - 1)) < (y332.length : Int) then (if x3.length < 5864062014805 then (templelaw5_ShowRuns.l0 k x0 (x3 ++ [(⟨(rd_T38 y332 (wrap64 ((wrap64 (Int.tmod (IntKind.u64.wrap (rd x0 x6)) 3)) - 1))).f0, (rd_T38 y332 (wrap64 ((wrap64 (Int.tmod (IntKind.u64.wrap (rd x0 x6)) 3)) - 1))).f1, (rd_T38 y332 (wrap64 ((wrap64 (Int.tmod (IntKind.u64.wrap (rd x0 x6)) 3)) - 1))).f2⟩ : S38)]) (x4 ++ (rdOf ByteArray.empty y328 (wrap64 ((wrap64 (Int.tmod (IntKind.u64.wrap (rd x0 x6)) 3)) - 1)))) false (wrap64 (x6 + 1))) else (none)) else (none))) else (none)) else (none)) else (none))) else (if x4.size + 1 ≤ 9223372036854775807 then ((some (([(⟨#[113]⟩ : ByteArray), (⟨#[39, 97, 39, 46, 46, 39, 98, 39]⟩ : ByteArray)] : List ByteArray) : List ByteArray)).bind fun y339 => (if 0 ≤ (wrap64 ((wrap64 (Int.tmod (IntKind.u64.wrap (rd x0 x6)) 3)) - 1)) then (if (wrap64 ((wrap64 (Int.tmod (IntKind.u64.wrap (rd x0 x6)) 3)) - 1)) < (y339.length : Int) then (if (x4 ++ (⟨#[32]⟩ : ByteArray)).size + (rdOf ByteArray.empty y339 (wrap64 ((wrap64 (Int.tmod (IntKind.u64.wrap (rd x0 x6)) 3)) - 1))).size ≤ 9223372036854775807 then ((some (([(⟨0, 0, 0⟩ : S38), (⟨(-1), 97, 98⟩ : S38)] : List (S38)) : List (S38))).bind fun y343 => (if (wrap64 ((wrap64 (Int.tmod (IntKind.u64.wrap (rd x0 x6)) 3)) - 1)) < (y343.length : Int) then (if x3.length < 5864062014805 then (templelaw5_ShowRuns.l0 k x0 (x3 ++ [(⟨(rd_T38 y343 (wrap64 ((wrap64 (Int.tmod (IntKind.u64.wrap (rd x0 x6)) 3)) - 1))).f0, (rd_T38 y343 (wrap64 ((wrap64 (Int.tmod (IntKind.u64.wrap (rd x0 x6)) 3)) - 1))).f1, (rd_T38 y343 (wrap64 ((wrap64 (Int.tmod (IntKind.u64.wrap (rd x0 x6)) 3)) - 1))).f2⟩ : S38)]) ((x4 ++ (⟨#[32]⟩ : ByteArray)) ++ (rdOf ByteArray.empty y339 (wrap64 ((wrap64 (Int.tmod (IntKind.u64.wrap (rd x0 x6)) 3)) - 1)))) false (wrap64 (x6 + 1))) else (none)) else (none))) else (none)) else (none)) else (none))) else (none))))) else (none)) else (none)) else (if x5 = true then (if x4.size + 1 ≤ 9223372036854775807 then (templelaw5_ShowRuns.j2 k x3 (x4 ++ (⟨#[34]⟩ : ByteArray))) else (none)) else (templelaw5_ShowRuns.j2 k x3 x4))
def templelaw5_ShowRuns.j2 : Nat → List (S38) → ByteArray → Option (Bool)
  | 0, _, _ => none
  | k + 1, x3, x4 => if x4.toList = ([] : List UInt8) then ((show_Show.f 0 (([(⟨#[113]⟩ : ByteArray)] : List ByteArray)) (([(⟨0, (([(⟨true, x3⟩ : S41)] : List (S41)))⟩ : S44)] : List (S44)))).bind fun bt359 => ((templelaw0_Num.f bt359.2).bind fun t361 => (if t361 = 0 then (if 14 + 2 ≤ 9223372036854775807 then (if 15 + 2 ≤ 9223372036854775807 then (some (bt359.1.toList == (((⟨#[115, 116, 97, 114, 116, 32, 113, 59, 10, 113, 32, 61, 32, 126]⟩ : ByteArray) ++ (⟨#[34, 34]⟩ : ByteArray)) ++ (⟨#[59, 10]⟩ : ByteArray)).toList)) else (none)) else (none)) else (none)))) else ((show_Show.f 0 (([(⟨#[113]⟩ : ByteArray)] : List ByteArray)) (([(⟨0, (([(⟨true, x3⟩ : S41)] : List (S41)))⟩ : S44)] : List (S44)))).bind fun bt371 => ((templelaw0_Num.f bt371.2).bind fun t373 => (if t373 = 0 then (if 14 + x4.size ≤ 9223372036854775807 then (if ((⟨#[115, 116, 97, 114, 116, 32, 113, 59, 10, 113, 32, 61, 32, 126]⟩ : ByteArray) ++ x4).size + 2 ≤ 9223372036854775807 then (some (bt371.1.toList == (((⟨#[115, 116, 97, 114, 116, 32, 113, 59, 10, 113, 32, 61, 32, 126]⟩ : ByteArray) ++ x4) ++ (⟨#[59, 10]⟩ : ByteArray)).toList)) else (none)) else (none)) else (none))))
end
def templelaw5_ShowRuns.f (k : Nat) (l0 : List Int) : Option (Bool) := (templelaw5_awake.f).bind fun t295 => (if t295 = true then (templelaw5_ShowRuns.l0 k l0 ([] : List (S38)) (⟨#[]⟩ : ByteArray) false 0) else (none))
theorem templelaw5_ShowRuns.mono_l : ∀ k, (∀ y0 y1 y2 y3 y4, LeO (templelaw5_ShowRuns.l0 k y0 y1 y2 y3 y4) (templelaw5_ShowRuns.l0 (k + 1) y0 y1 y2 y3 y4)) ∧ (∀ y0 y1 y2 y3 y4 y5, LeO (templelaw5_ShowRuns.j1 k y0 y1 y2 y3 y4 y5) (templelaw5_ShowRuns.j1 (k + 1) y0 y1 y2 y3 y4 y5)) ∧ (∀ y0 y1, LeO (templelaw5_ShowRuns.j2 k y0 y1) (templelaw5_ShowRuns.j2 (k + 1) y0 y1))
  | 0 => ⟨fun _ _ _ _ _ r h => by simp [templelaw5_ShowRuns.l0] at h, fun _ _ _ _ _ _ r h => by simp [templelaw5_ShowRuns.j1] at h, fun _ _ r h => by simp [templelaw5_ShowRuns.j2] at h⟩
  | k + 1 => by
    obtain ⟨ih0, ih1, ih2⟩ := templelaw5_ShowRuns.mono_l k
    refine ⟨?_, ?_, ?_⟩
    · intro y0 y1 y2 y3 y4
      unfold templelaw5_ShowRuns.l0
      repeat' first
      | (with_reducible exact ih0 _ _ _ _ _)
      | (with_reducible exact ih1 _ _ _ _ _ _)
      | (with_reducible exact ih2 _ _)
      | (with_reducible exact LeO.refl _)
      | (with_reducible exact LeO.none _)
      | (with_reducible refine LeO.ite ?_ ?_)
      | (with_reducible refine LeO.bind ?_ (fun _ => ?_))
      | exact ih0 _ _ _ _ _
      | exact ih1 _ _ _ _ _ _
      | exact ih2 _ _
      | exact LeO.none _
      | refine LeO.ite ?_ ?_
      | refine LeO.bind ?_ (fun _ => ?_)
    · intro y0 y1 y2 y3 y4 y5
      unfold templelaw5_ShowRuns.j1
      repeat' first
      | (with_reducible exact ih0 _ _ _ _ _)
      | (with_reducible exact ih1 _ _ _ _ _ _)
      | (with_reducible exact ih2 _ _)
      | (with_reducible exact LeO.refl _)
      | (with_reducible exact LeO.none _)
      | (with_reducible refine LeO.ite ?_ ?_)
      | (with_reducible refine LeO.bind ?_ (fun _ => ?_))
      | exact ih0 _ _ _ _ _
      | exact ih1 _ _ _ _ _ _
      | exact ih2 _ _
      | exact LeO.none _
      | refine LeO.ite ?_ ?_
      | refine LeO.bind ?_ (fun _ => ?_)
    · intro y0 y1
      unfold templelaw5_ShowRuns.j2
      repeat' first
      | (with_reducible exact ih0 _ _ _ _ _)
      | (with_reducible exact ih1 _ _ _ _ _ _)
      | (with_reducible exact ih2 _ _)
      | (with_reducible exact LeO.refl _)
      | (with_reducible exact LeO.none _)
      | (with_reducible refine LeO.ite ?_ ?_)
      | (with_reducible refine LeO.bind ?_ (fun _ => ?_))
      | exact ih0 _ _ _ _ _
      | exact ih1 _ _ _ _ _ _
      | exact ih2 _ _
      | exact LeO.none _
      | refine LeO.ite ?_ ?_
      | refine LeO.bind ?_ (fun _ => ?_)
theorem templelaw5_ShowRuns.mono : ∀ a0 k, LeO (templelaw5_ShowRuns.f k a0) (templelaw5_ShowRuns.f (k + 1) a0) := by
  intro a0 k
  obtain ⟨ih0, ih1, ih2⟩ := templelaw5_ShowRuns.mono_l k
  unfold templelaw5_ShowRuns.f
  repeat' first
      | (with_reducible exact ih0 _ _ _ _ _)
      | (with_reducible exact ih1 _ _ _ _ _ _)
      | (with_reducible exact ih2 _ _)
      | (with_reducible exact LeO.refl _)
      | (with_reducible exact LeO.none _)
      | (with_reducible refine LeO.ite ?_ ?_)
      | (with_reducible refine LeO.bind ?_ (fun _ => ?_))
      | exact ih0 _ _ _ _ _
      | exact ih1 _ _ _ _ _ _
      | exact ih2 _ _
      | exact LeO.none _
      | refine LeO.ite ?_ ?_
      | refine LeO.bind ?_ (fun _ => ?_)
set_option maxHeartbeats 8000000 in
set_option maxRecDepth 100000 in
theorem templelaw5_ShowRuns.calls (k : Nat) (A0 : Option Addr) (c0 : Nat) (l0 : List Int) (r : Bool) (w : World) (hr0 : Kd.C (Kd.int .i64) w A0 l0.length l0) (hc0 : l0.length ≤ c0) (h : templelaw5_ShowRuns.f k l0 = some r) :
    Calls Try.prog 5 #[.slice A0 l0.length c0] w fun e w' => e = .returned (.bool r) ∧ Below w.heap.size w w' := by
  have hu38 := Try.underlying38
  have hu41 := Try.underlying41
  have hu44 := Try.underlying44
  have hu25 := Try.underlying25
  have HR0 := Aside0.mk hr0
  have HC0 := Aside0.mk hc0
  clear hr0 hc0
  have HB := Aside0.mk (Below.refl w.heap.size w)
  have H : ((templelaw5_awake.f).bind fun t295 => (if t295 = true then (templelaw5_ShowRuns.l0 k l0 ([] : List (S38)) (⟨#[]⟩ : ByteArray) false 0) else (none))) = some r := h
  clear h
  replace H := Option.bind_eq_some_iff.mp H
  obtain ⟨t295, A20, H⟩ := H
  replace H : (if t295 = true then (templelaw5_ShowRuns.l0 k l0 ([] : List (S38)) (⟨#[]⟩ : ByteArray) false 0) else (none)) = some r := H
  have A2 := Aside0.mk A20
  clear A20
  by_cases c3 : t295 = true
  · subst c3
    have H1 : (templelaw5_ShowRuns.l0 k l0 ([] : List (S38)) (⟨#[]⟩ : ByteArray) false 0) = some r := by rw [if_pos rfl] at H; exact H
    clear H
    have H := H1
    clear H1
    have H' := Aside0.mk H
    clear H
    go_enter Try.func5, Try.ntmps5
    go_wp2_with (first | ((with_reducible refine gate_callee (f := 14) rfl ?_); refine goesL_ (some 10) rfl rfl Try.func14 (by kernel_rfl) rfl #[] rfl (by (try simp only [List.map_toArray, List.map_cons, List.map_nil]); first | done | rfl | (simp only [List.length_drop, List.length_take]; rfl)) ?_; (with_reducible refine (templelaw5_awake.calls  true _ A2.out).mono ?_); rintro e w4 ⟨rfl, hb⟩; refine ⟨_, rfl, ?_⟩; have n0_ := Aside0.mk (below_step (by repeat (first | (with_reducible first | exact HB.out | apply below_alloc | apply pw_below_drewN | apply below_drew1) | exact HB.out)) hb); clear HB; have HB := n0_; clear n0_; (try clear hb); (try clear hb2); (try clear hk); (try clear hi)))
    go_loopg [3, 4, 5, 6] k (fun kq v3 v4 v5 v6 w' => ∃ (x3_1 : List (S38)) (x4_1 : ByteArray) (x5_1 : Bool) (x6_1 : Int), v4 = .string x4_1 ∧ v5 = .bool x5_1 ∧ v6 = .int .i64 x6_1 ∧ Aside0 (templelaw5_ShowRuns.l0 kq l0 x3_1 x4_1 x5_1 x6_1 = some r) ∧ Aside0 (kq ≤ k) ∧ Aside0 (Kd.R k38 38 w' w.heap.size (fun _ => True) v3 x3_1) ∧ Aside0 (Below w.heap.size w w'))
    case atStart => exact ⟨(([] : List (S38))), ((⟨#[]⟩ : ByteArray)), (false), (0), (by first | rfl | (simp; done) | (simp [i64_w]; done) | (simp [*]; done) | (simp [*, i64_w]; done) | (simp [*]; unfold wrap64; omega)), (by first | rfl | (simp; done) | (simp [i64_w]; done) | (simp [*]; done) | (simp [*, i64_w]; done) | (simp [*]; unfold wrap64; omega)), (by first | rfl | (simp; done) | (simp [i64_w]; done) | (simp [*]; done) | (simp [*, i64_w]; done) | (simp [*]; unfold wrap64; omega)), H', ⟨Nat.le_refl _⟩, ⟨by first | exact Kd.R_nil _ _ _ _ _ | exact Kd.N_nil _ _ _ _ _ | exact Kd.V_nil _ _ _ _ _ | exact Kd.Q_nil _ _ _ _ _ | exact Kd.S_nil _ _ _ _ _⟩, ⟨by repeat (first | (with_reducible first | exact HB.out | apply below_alloc | apply pw_below_drewN | apply below_drew1) | exact HB.out)⟩⟩
    case round =>
      clear H'
      try clear c1
      try clear p2
      try clear c3
      obtain ⟨x3_1, x4_1, x5_1, x6_1, rfl, rfl, rfl, HA, HK1, HO_3, HB⟩ := hrel
      cases gk with
      | zero => exact absurd HA.out (by simp [templelaw5_ShowRuns.l0])
      | succ k1 =>
        have H := HA.out
        clear HA
        simp only [templelaw5_ShowRuns.l0] at H
        have HC5 := Aside0.mk H
        clear H
        go_upto_region 7 with (fail)
        go_cut [19] (fun v19 wc => ∃ (kq : Nat) (x19_4 : Bool), v19 = .bool x19_4 ∧ Aside0 (templelaw5_ShowRuns.j1 kq l0 x3_1 x4_1 x5_1 x6_1 x19_4 = some r) ∧ Aside0 (kq ≤ k1) ∧ Aside0 (Kd.R k38 38 wc w.heap.size (fun _ => True) u3 x3_1) ∧ Aside0 (Below w.heap.size w wc))
        case first =>
          have H := HC5.out
          clear HC5
          by_cases c6 : x6_1 < (l0.length : Int)
          · rw [if_pos c6] at H
            have c6b0 : decide (x6_1 < (l0.length : Int)) = true := decide_eq_true c6
            clear c6
            (first | rw [c6b0] | (simp only [i64_w, i32_w]; rw [c6b0]) | skip)
            have H' := Aside0.mk H
            clear H
            go_wp2
            go_meet
            case rel => exact ⟨_, (decide (x6_1 < 40)), (by first | rfl | (simp; done) | (simp [i64_w]; done) | (simp [*]; done) | (simp [*, i64_w]; done) | (simp [*]; unfold wrap64; omega)), H', ⟨by have := HK1.out; first | omega | exact Nat.le_refl _⟩, ⟨by (with_reducible repeat (first | apply Kd.R_alloc | apply Kd.R_drewN | apply Kd.R_drew)); exact HO_3.out⟩, ⟨by repeat (first | (with_reducible first | exact HB.out | apply below_alloc | apply pw_below_drewN | apply below_drew1) | exact HB.out)⟩⟩
          · rw [if_neg c6] at H
            have c6b0 : decide (x6_1 < (l0.length : Int)) = false := decide_eq_false c6
            clear c6
            (first | rw [c6b0] | (simp only [i64_w, i32_w]; rw [c6b0]) | skip)
            have H' := Aside0.mk H
            clear H
            go_wp2
            go_meet
            case rel => exact ⟨_, (false), (by first | rfl | (simp; done) | (simp [i64_w]; done) | (simp [*]; done) | (simp [*, i64_w]; done) | (simp [*]; unfold wrap64; omega)), H', ⟨by have := HK1.out; first | omega | exact Nat.le_refl _⟩, ⟨by (with_reducible repeat (first | apply Kd.R_alloc | apply Kd.R_drewN | apply Kd.R_drew)); exact HO_3.out⟩, ⟨by repeat (first | (with_reducible first | exact HB.out | apply below_alloc | apply pw_below_drewN | apply below_drew1) | exact HB.out)⟩⟩
        case rest =>
          clear HC5
          try clear c1
          try clear p2
          try clear c3
          try clear c5
          try clear c6
          try clear c6b0
          try clear p2
          obtain ⟨kq, x19_4, rfl, HA, HJ4, HO_3, HB⟩ := hcut
          cases kq with
          | zero => exact absurd HA.out (by simp [templelaw5_ShowRuns.j1])
          | succ kj4 =>
            have H := HA.out
            clear HA
            simp only [templelaw5_ShowRuns.j1] at H
            by_cases c7 : x19_4 = true
            · subst c7
              have H1 : (if 0 ≤ x6_1 then (if x6_1 < (l0.length : Int) then (if (wrap64 (Int.tmod (IntKind.u64.wrap (rd l0 x6_1)) 3)) = 0 then (if x5_1 = true then (if x4_1.size + 1 ≤ 9223372036854775807 then (if x3_1.length < 5864062014805 then (templelaw5_ShowRuns.l0 kj4 l0 (x3_1 ++ [(⟨(-1), 97, 97⟩ : S38)]) (x4_1 ++ (⟨#[97]⟩ : ByteArray)) true (wrap64 (x6_1 + 1))) else (none)) else (none)) else (if x4_1.toList = ([] : List UInt8) then (if x4_1.size + 1 ≤ 9223372036854775807 then (if (x4_1 ++ (⟨#[34]⟩ : ByteArray)).size + 1 ≤ 9223372036854775807 then (if x3_1.length < 5864062014805 then (templelaw5_ShowRuns.l0 kj4 l0 (x3_1 ++ [(⟨(-1), 97, 97⟩ : S38)]) ((x4_1 ++ (⟨#[34]⟩ : ByteArray)) ++ (⟨#[97]⟩ : ByteArray)) true (wrap64 (x6_1 + 1))) else (none)) else (none)) else (none)) else (if x4_1.size + 1 ≤ 9223372036854775807 then (if (x4_1 ++ (⟨#[32]⟩ : ByteArray)).size + 1 ≤ 9223372036854775807 then (if ((x4_1 ++ (⟨#[32]⟩ : ByteArray)) ++ (⟨#[34]⟩ : ByteArray)).size + 1 ≤ 9223372036854775807 then (if x3_1.length < 5864062014805 then (templelaw5_ShowRuns.l0 kj4 l0 (x3_1 ++ [(⟨(-1), 97, 97⟩ : S38)]) (((x4_1 ++ (⟨#[32]⟩ : ByteArray)) ++ (⟨#[34]⟩ : ByteArray)) ++ (⟨#[97]⟩ : ByteArray)) true (wrap64 (x6_1 + 1))) else (none)) else (none)) else (none)) else (none)))) else (if x5_1 = true then (if x4_1.size + 1 ≤ 9223372036854775807 then (if (x4_1 ++ (⟨#[34]⟩ : ByteArray)).toList = ([] : List UInt8) then ((some (([(⟨#[113]⟩ : ByteArray), (⟨#[39, 97, 39, 46, 46, 39, 98, 39]⟩ : ByteArray)] : List ByteArray) : List ByteArray)).bind fun y306 => (if 0 ≤ (wrap64 ((wrap64 (Int.tmod (IntKind.u64.wrap (rd l0 x6_1)) 3)) - 1)) then (if (wrap64 ((wrap64 (Int.tmod (IntKind.u64.wrap (rd l0 x6_1)) 3)) - 1)) < (y306.length : Int) then (if (x4_1 ++ (⟨#[34]⟩ : ByteArray)).size + (rdOf ByteArray.empty y306 (wrap64 ((wrap64 (Int.tmod (IntKind.u64.wrap (rd l0 x6_1)) 3)) - 1))).size ≤ 9223372036854775807 then ((some (([(⟨0, 0, 0⟩ : S38), (⟨(-1), 97, 98⟩ : S38)] : List (S38)) : List (S38))).bind fun y310 => (if (wrap64 ((wrap64 (Int.tmod (IntKind.u64.wrap (rd l0 x6_1)) 3)) - 1)) < (y310.length : Int) then (if x3_1.length < 5864062014805 then (templelaw5_ShowRuns.l0 kj4 l0 (x3_1 ++ [(⟨(rd_T38 y310 (wrap64 ((wrap64 (Int.tmod (IntKind.u64.wrap (rd l0 x6_1)) 3)) - 1))).f0, (rd_T38 y310 (wrap64 ((wrap64 (Int.tmod (IntKind.u64.wrap (rd l0 x6_1)) 3)) - 1))).f1, (rd_T38 y310 (wrap64 ((wrap64 (Int.tmod (IntKind.u64.wrap (rd l0 x6_1)) 3)) - 1))).f2⟩ : S38)]) ((x4_1 ++ (⟨#[34]⟩ : ByteArray)) ++ (rdOf ByteArray.empty y306 (wrap64 ((wrap64 (Int.tmod (IntKind.u64.wrap (rd l0 x6_1)) 3)) - 1)))) false (wrap64 (x6_1 + 1))) else (none)) else (none))) else (none)) else (none)) else (none))) else (if (x4_1 ++ (⟨#[34]⟩ : ByteArray)).size + 1 ≤ 9223372036854775807 then ((some (([(⟨#[113]⟩ : ByteArray), (⟨#[39, 97, 39, 46, 46, 39, 98, 39]⟩ : ByteArray)] : List ByteArray) : List ByteArray)).bind fun y317 => (if 0 ≤ (wrap64 ((wrap64 (Int.tmod (IntKind.u64.wrap (rd l0 x6_1)) 3)) - 1)) then (if (wrap64 ((wrap64 (Int.tmod (IntKind.u64.wrap (rd l0 x6_1)) 3)) - 1)) < (y317.length : Int) then (if ((x4_1 ++ (⟨#[34]⟩ : ByteArray)) ++ (⟨#[32]⟩ : ByteArray)).size + (rdOf ByteArray.empty y317 (wrap64 ((wrap64 (Int.tmod (IntKind.u64.wrap (rd l0 x6_1)) 3)) - 1))).size ≤ 9223372036854775807 then ((some (([(⟨0, 0, 0⟩ : S38), (⟨(-1), 97, 98⟩ : S38)] : List (S38)) : List (S38))).bind fun y321 => (if (wrap64 ((wrap64 (Int.tmod (IntKind.u64.wrap (rd l0 x6_1)) 3)) - 1)) < (y321.length : Int) then (if x3_1.length < 5864062014805 then (templelaw5_ShowRuns.l0 kj4 l0 (x3_1 ++ [(⟨(rd_T38 y321 (wrap64 ((wrap64 (Int.tmod (IntKind.u64.wrap (rd l0 x6_1)) 3)) - 1))).f0, (rd_T38 y321 (wrap64 ((wrap64 (Int.tmod (IntKind.u64.wrap (rd l0 x6_1)) 3)) - 1))).f1, (rd_T38 y321 (wrap64 ((wrap64 (Int.tmod (IntKind.u64.wrap (rd l0 x6_1)) 3)) - 1))).f2⟩ : S38)]) (((x4_1 ++ (⟨#[34]⟩ : ByteArray)) ++ (⟨#[32]⟩ : ByteArray)) ++ (rdOf ByteArray.empty y317 (wrap64 ((wrap64 (Int.tmod (IntKind.u64.wrap (rd l0 x6_1)) 3)) - 1)))) false (wrap64 (x6_1 + 1))) else (none)) else (none))) else (none)) else (none)) else (none))) else (none))) else (none)) else (if x4_1.toList = ([] : List UInt8) then ((some (([(⟨#[113]⟩ : ByteArray), (⟨#[39, 97, 39, 46, 46, 39, 98, 39]⟩ : ByteArray)] : List ByteArray) : List ByteArray)).bind fun y328 => (if 0 ≤ (wrap64 ((wrap64 (Int.tmod (IntKind.u64.wrap (rd l0 x6_1)) 3)) - 1)) then (if (wrap64 ((wrap64 (Int.tmod (IntKind.u64.wrap (rd l0 x6_1)) 3)) - 1)) < (y328.length : Int) then (if x4_1.size + (rdOf ByteArray.empty y328 (wrap64 ((wrap64 (Int.tmod (IntKind.u64.wrap (rd l0 x6_1)) 3)) - 1))).size ≤ 9223372036854775807 then ((some (([(⟨0, 0, 0⟩ : S38), (⟨(-1), 97, 98⟩ : S38)] : List (S38)) : List (S38))).bind fun y332 => (if (wrap64 ((wrap64 (Int.tmod (IntKind.u64.wrap (rd l0 x6_1)) 3)) - 1)) < (y332.length : Int) then (if x3_1.length < 5864062014805 then (templelaw5_ShowRuns.l0 kj4 l0 (x3_1 ++ [(⟨(rd_T38 y332 (wrap64 ((wrap64 (Int.tmod (IntKind.u64.wrap (rd l0 x6_1)) 3)) - 1))).f0, (rd_T38 y332 (wrap64 ((wrap64 (Int.tmod (IntKind.u64.wrap (rd l0 x6_1)) 3)) - 1))).f1, (rd_T38 y332 (wrap64 ((wrap64 (Int.tmod (IntKind.u64.wrap (rd l0 x6_1)) 3)) - 1))).f2⟩ : S38)]) (x4_1 ++ (rdOf ByteArray.empty y328 (wrap64 ((wrap64 (Int.tmod (IntKind.u64.wrap (rd l0 x6_1)) 3)) - 1)))) false (wrap64 (x6_1 + 1))) else (none)) else (none))) else (none)) else (none)) else (none))) else (if x4_1.size + 1 ≤ 9223372036854775807 then ((some (([(⟨#[113]⟩ : ByteArray), (⟨#[39, 97, 39, 46, 46, 39, 98, 39]⟩ : ByteArray)] : List ByteArray) : List ByteArray)).bind fun y339 => (if 0 ≤ (wrap64 ((wrap64 (Int.tmod (IntKind.u64.wrap (rd l0 x6_1)) 3)) - 1)) then (if (wrap64 ((wrap64 (Int.tmod (IntKind.u64.wrap (rd l0 x6_1)) 3)) - 1)) < (y339.length : Int) then (if (x4_1 ++ (⟨#[32]⟩ : ByteArray)).size + (rdOf ByteArray.empty y339 (wrap64 ((wrap64 (Int.tmod (IntKind.u64.wrap (rd l0 x6_1)) 3)) - 1))).size ≤ 9223372036854775807 then ((some (([(⟨0, 0, 0⟩ : S38), (⟨(-1), 97, 98⟩ : S38)] : List (S38)) : List (S38))).bind fun y343 => (if (wrap64 ((wrap64 (Int.tmod (IntKind.u64.wrap (rd l0 x6_1)) 3)) - 1)) < (y343.length : Int) then (if x3_1.length < 5864062014805 then (templelaw5_ShowRuns.l0 kj4 l0 (x3_1 ++ [(⟨(rd_T38 y343 (wrap64 ((wrap64 (Int.tmod (IntKind.u64.wrap (rd l0 x6_1)) 3)) - 1))).f0, (rd_T38 y343 (wrap64 ((wrap64 (Int.tmod (IntKind.u64.wrap (rd l0 x6_1)) 3)) - 1))).f1, (rd_T38 y343 (wrap64 ((wrap64 (Int.tmod (IntKind.u64.wrap (rd l0 x6_1)) 3)) - 1))).f2⟩ : S38)]) ((x4_1 ++ (⟨#[32]⟩ : ByteArray)) ++ (rdOf ByteArray.empty y339 (wrap64 ((wrap64 (Int.tmod (IntKind.u64.wrap (rd l0 x6_1)) 3)) - 1)))) false (wrap64 (x6_1 + 1))) else (none)) else (none))) else (none)) else (none)) else (none))) else (none))))) else (none)) else (none)) = some r := by rw [if_pos rfl] at H; exact H
              clear H
              have H := H1
              clear H1
              by_cases c8 : 0 ≤ x6_1
              · rw [if_pos c8] at H
                have c8b0 : decide (0 ≤ x6_1) = true := decide_eq_true c8
                clear c8
                by_cases c9 : x6_1 < (l0.length : Int)
                · rw [if_pos c9] at H
                  have c9b0 : decide (x6_1 < (l0.length : Int)) = true := decide_eq_true c9
                  clear c9
                  by_cases c10 : (wrap64 (Int.tmod (IntKind.u64.wrap (rd l0 x6_1)) 3)) = 0
                  · rw [if_pos c10] at H
                    have c10b0 : ((wrap64 (Int.tmod (IntKind.u64.wrap (rd l0 x6_1)) 3)) == 0) = true := beq_iff_eq.mpr c10
                    have c10b1 : ((wrap64 (Int.tmod (IntKind.u64.wrap (rd l0 x6_1)) 3)) != 0) = false := bne_eq_false_iff_eq.mpr c10
                    clear c10
                    by_cases c11 : x5_1 = true
                    · subst c11
                      have H1 : (if x4_1.size + 1 ≤ 9223372036854775807 then (if x3_1.length < 5864062014805 then (templelaw5_ShowRuns.l0 kj4 l0 (x3_1 ++ [(⟨(-1), 97, 97⟩ : S38)]) (x4_1 ++ (⟨#[97]⟩ : ByteArray)) true (wrap64 (x6_1 + 1))) else (none)) else (none)) = some r := by rw [if_pos rfl] at H; exact H
                      clear H
                      have H := H1
                      clear H1
                      by_cases c12 : x4_1.size + 1 ≤ 9223372036854775807
                      · rw [if_pos c12] at H
                        have c12b0 := eq_true c12
                        have c12b1 : decide (x4_1.size + 1 ≤ 9223372036854775807) = true := decide_eq_true c12
                        try have c12b2 : (9223372036854775807 < x4_1.size + 1) = False := eq_false (Nat.not_lt.2 c12)
                        by_cases c13 : x3_1.length < 5864062014805
                        · rw [if_pos c13] at H
                          have LMc13 := Aside0.mk c13
                          clear c13
                          obtain ⟨y297, hy297⟩ : ∃ y_ : List (S38), y_ = (x3_1 ++ [(⟨(-1), 97, 97⟩ : S38)]) := ⟨_, rfl⟩
                          replace H : (templelaw5_ShowRuns.l0 kj4 l0 y297 (x4_1 ++ (⟨#[97]⟩ : ByteArray)) true (wrap64 (x6_1 + 1))) = some r := by first | (rw [hy297]; with_reducible exact H) | (have H2_ := (Option.bind_some _ _).symm.trans H; rw [hy297]; with_reducible exact H2_) | (have H2_ := (Option.bind_some _ _).symm.trans H; with_reducible exact H2_) | with_reducible exact H | (rw [hy297]; exact H) | exact H
                          have Ny297 := Aside0.mk hy297
                          clear hy297
                          have H' := Aside0.mk H
                          clear H
                          have p296 : 0 ≤ (x6_1 : Int) := of_decide_eq_true (by first | (with_reducible assumption) | assumption)
                          have q296 : x6_1 < (l0.length : Int) := of_decide_eq_true (by first | (with_reducible assumption) | assumption)
                          obtain ⟨ad296, e296, hx296_0⟩ := Kd.at_int HR0.out x6_1 p296 q296
                          cases e296
                          replace hx296_0 := (HB.out.cell (World.block_lt_of_cell? w _ hx296_0)).trans hx296_0
                          replace p296 := eq_true p296
                          replace q296 := eq_true q296
                          go_wp2_with (first | ((with_reducible refine gate_builtin (b := .append) (xs := #[.tmp 41, .tmp 43]) rfl ?_); at_builtin; refine Kd.R_append k38 (w0 := w) w.heap.size rfl (.tmp 41) (.tmp 43) 39 38 (.agg #[(.int .i64 0), (.int .i64 0), (.int .i64 0)]) 24 rfl Try.underlying39 info38 rfl (by decide) (by omega) u3 x3_1 (⟨(-1), 97, 97⟩ : S38) [.int .i64 (-1), .int .i64 97, .int .i64 97] (fun _ => True) (fun _ => False) rfl rfl ?aP (fun _ hk => hk.elim) ?aF ?aO ?aB ?aS ?aL ?_; (case aP => exact k38_mkM _ _ _ (⟨(-1), 97, 97⟩ : S38)); (case aB => exact (by repeat (first | (with_reducible first | exact HB.out | apply below_alloc | apply pw_below_drewN | apply below_drew1) | exact HB.out))); (case aF => exact (fun _ _ => trivial)); (case aO => exact (by (with_reducible repeat (first | apply Kd.R_alloc | apply Kd.R_drewN | apply Kd.R_drew)); exact HO_3.out)); (case aS => exact (below_size (by repeat (first | (with_reducible first | exact HB.out | apply below_alloc | apply pw_below_drewN | apply below_drew1) | exact HB.out)))); (case aL => have := LMc13.out; omega); intro v298 w14 ho hb hg hat; rw [← Ny297.out] at ho; have n0_ := Aside0.mk (hb); have n1_ := Aside0.mk (ho); clear HB; clear HO_3; have HB := n0_; have HO299 := n1_; clear n0_ n1_; clear ho hb hg hat))
                          go_roundg kj4
                          case measure => have := HK1.out; have := HJ4.out; omega
                          case rel => exact ⟨(y297), (x4_1 ++ (⟨#[97]⟩ : ByteArray)), (true), (wrap64 (x6_1 + 1)), (by first | rfl | (simp; done) | (simp [i64_w]; done) | (simp [*]; done) | (simp [*, i64_w]; done) | (simp [*]; unfold wrap64; omega)), (by first | rfl | (simp; done) | (simp [i64_w]; done) | (simp [*]; done) | (simp [*, i64_w]; done) | (simp [*]; unfold wrap64; omega)), (by first | rfl | (simp; done) | (simp [i64_w]; done) | (simp [*]; done) | (simp [*, i64_w]; done) | (simp [*]; unfold wrap64; omega)), H', ⟨by have := HK1.out; have := HJ4.out; omega⟩, ⟨by (with_reducible repeat (first | apply Kd.R_alloc | apply Kd.R_drewN | apply Kd.R_drew)); exact HO299.out⟩, ⟨by repeat (first | (with_reducible first | exact HB.out | apply below_alloc | apply pw_below_drewN | apply below_drew1) | exact HB.out)⟩⟩
                        · rw [if_neg c13] at H
                          exact absurd H (by simp)
                      · rw [if_neg c12] at H
                        exact absurd H (by simp)
                    · replace c11 := Bool.eq_false_iff.mpr c11
                      subst c11
                      have H1 : (if x4_1.toList = ([] : List UInt8) then (if x4_1.size + 1 ≤ 9223372036854775807 then (if (x4_1 ++ (⟨#[34]⟩ : ByteArray)).size + 1 ≤ 9223372036854775807 then (if x3_1.length < 5864062014805 then (templelaw5_ShowRuns.l0 kj4 l0 (x3_1 ++ [(⟨(-1), 97, 97⟩ : S38)]) ((x4_1 ++ (⟨#[34]⟩ : ByteArray)) ++ (⟨#[97]⟩ : ByteArray)) true (wrap64 (x6_1 + 1))) else (none)) else (none)) else (none)) else (if x4_1.size + 1 ≤ 9223372036854775807 then (if (x4_1 ++ (⟨#[32]⟩ : ByteArray)).size + 1 ≤ 9223372036854775807 then (if ((x4_1 ++ (⟨#[32]⟩ : ByteArray)) ++ (⟨#[34]⟩ : ByteArray)).size + 1 ≤ 9223372036854775807 then (if x3_1.length < 5864062014805 then (templelaw5_ShowRuns.l0 kj4 l0 (x3_1 ++ [(⟨(-1), 97, 97⟩ : S38)]) (((x4_1 ++ (⟨#[32]⟩ : ByteArray)) ++ (⟨#[34]⟩ : ByteArray)) ++ (⟨#[97]⟩ : ByteArray)) true (wrap64 (x6_1 + 1))) else (none)) else (none)) else (none)) else (none))) = some r := by rw [if_neg (show ¬ (false = true) by decide)] at H; exact H
                      clear H
                      have H := H1
                      clear H1
                      by_cases c15 : x4_1.toList = ([] : List UInt8)
                      · rw [if_pos c15] at H
                        have c15b0 : (x4_1.toList == ([] : List UInt8)) = true := beq_iff_eq.mpr c15
                        have c15e_ : (x4_1).toList.isEmpty = true := by rw [c15]; rfl
                        have c15b1 : (x4_1.toList != ([] : List UInt8)) = false := bne_eq_false_iff_eq.mpr c15
                        clear c15
                        by_cases c16 : x4_1.size + 1 ≤ 9223372036854775807
                        · rw [if_pos c16] at H
                          have c16b0 := eq_true c16
                          have c16b1 : decide (x4_1.size + 1 ≤ 9223372036854775807) = true := decide_eq_true c16
                          try have c16b2 : (9223372036854775807 < x4_1.size + 1) = False := eq_false (Nat.not_lt.2 c16)
                          by_cases c17 : (x4_1 ++ (⟨#[34]⟩ : ByteArray)).size + 1 ≤ 9223372036854775807
                          · rw [if_pos c17] at H
                            have c17b0 := eq_true c17
                            have c17b1 : decide ((x4_1 ++ (⟨#[34]⟩ : ByteArray)).size + 1 ≤ 9223372036854775807) = true := decide_eq_true c17
                            try have c17b2 : (9223372036854775807 < (x4_1 ++ (⟨#[34]⟩ : ByteArray)).size + 1) = False := eq_false (Nat.not_lt.2 c17)
                            try have c17b3 : (9223372036854775807 < x4_1.size + 1 + 1) = False := eq_false (by have q_ := c17; have z0_ : (⟨#[34]⟩ : ByteArray).size = 1 := rfl; (try simp only [ByteArray.size_append, ByteArray.size_extract] at q_); omega)
                            by_cases c18 : x3_1.length < 5864062014805
                            · rw [if_pos c18] at H
                              have LMc18 := Aside0.mk c18
                              clear c18
                              obtain ⟨y300, hy300⟩ : ∃ y_ : List (S38), y_ = (x3_1 ++ [(⟨(-1), 97, 97⟩ : S38)]) := ⟨_, rfl⟩
                              replace H : (templelaw5_ShowRuns.l0 kj4 l0 y300 ((x4_1 ++ (⟨#[34]⟩ : ByteArray)) ++ (⟨#[97]⟩ : ByteArray)) true (wrap64 (x6_1 + 1))) = some r := by first | (rw [hy300]; with_reducible exact H) | (have H2_ := (Option.bind_some _ _).symm.trans H; rw [hy300]; with_reducible exact H2_) | (have H2_ := (Option.bind_some _ _).symm.trans H; with_reducible exact H2_) | with_reducible exact H | (rw [hy300]; exact H) | exact H
                              have Ny300 := Aside0.mk hy300
                              clear hy300
                              have H' := Aside0.mk H
                              clear H
                              have p296 : 0 ≤ (x6_1 : Int) := of_decide_eq_true (by first | (with_reducible assumption) | assumption)
                              have q296 : x6_1 < (l0.length : Int) := of_decide_eq_true (by first | (with_reducible assumption) | assumption)
                              obtain ⟨ad296, e296, hx296_0⟩ := Kd.at_int HR0.out x6_1 p296 q296
                              cases e296
                              replace hx296_0 := (HB.out.cell (World.block_lt_of_cell? w _ hx296_0)).trans hx296_0
                              replace p296 := eq_true p296
                              replace q296 := eq_true q296
                              go_wp2_with (first | ((with_reducible refine gate_builtin (b := .append) (xs := #[.tmp 41, .tmp 43]) rfl ?_); at_builtin; refine Kd.R_append k38 (w0 := w) w.heap.size rfl (.tmp 41) (.tmp 43) 39 38 (.agg #[(.int .i64 0), (.int .i64 0), (.int .i64 0)]) 24 rfl Try.underlying39 info38 rfl (by decide) (by omega) u3 x3_1 (⟨(-1), 97, 97⟩ : S38) [.int .i64 (-1), .int .i64 97, .int .i64 97] (fun _ => True) (fun _ => False) rfl rfl ?aP (fun _ hk => hk.elim) ?aF ?aO ?aB ?aS ?aL ?_; (case aP => exact k38_mkM _ _ _ (⟨(-1), 97, 97⟩ : S38)); (case aB => exact (by repeat (first | (with_reducible first | exact HB.out | apply below_alloc | apply pw_below_drewN | apply below_drew1) | exact HB.out))); (case aF => exact (fun _ _ => trivial)); (case aO => exact (by (with_reducible repeat (first | apply Kd.R_alloc | apply Kd.R_drewN | apply Kd.R_drew)); exact HO_3.out)); (case aS => exact (below_size (by repeat (first | (with_reducible first | exact HB.out | apply below_alloc | apply pw_below_drewN | apply below_drew1) | exact HB.out)))); (case aL => have := LMc18.out; omega); intro v301 w19 ho hb hg hat; rw [← Ny300.out] at ho; have n0_ := Aside0.mk (hb); have n1_ := Aside0.mk (ho); clear HB; clear HO_3; have HB := n0_; have HO302 := n1_; clear n0_ n1_; clear ho hb hg hat))
                              go_roundg kj4
                              case measure => have := HK1.out; have := HJ4.out; omega
                              case rel => exact ⟨(y300), ((x4_1 ++ (⟨#[34]⟩ : ByteArray)) ++ (⟨#[97]⟩ : ByteArray)), (true), (wrap64 (x6_1 + 1)), (by first | rfl | (simp; done) | (simp [i64_w]; done) | (simp [*]; done) | (simp [*, i64_w]; done) | (simp [*]; unfold wrap64; omega)), (by first | rfl | (simp; done) | (simp [i64_w]; done) | (simp [*]; done) | (simp [*, i64_w]; done) | (simp [*]; unfold wrap64; omega)), (by first | rfl | (simp; done) | (simp [i64_w]; done) | (simp [*]; done) | (simp [*, i64_w]; done) | (simp [*]; unfold wrap64; omega)), H', ⟨by have := HK1.out; have := HJ4.out; omega⟩, ⟨by (with_reducible repeat (first | apply Kd.R_alloc | apply Kd.R_drewN | apply Kd.R_drew)); exact HO302.out⟩, ⟨by repeat (first | (with_reducible first | exact HB.out | apply below_alloc | apply pw_below_drewN | apply below_drew1) | exact HB.out)⟩⟩
                            · rw [if_neg c18] at H
                              exact absurd H (by simp)
                          · rw [if_neg c17] at H
                            exact absurd H (by simp)
                        · rw [if_neg c16] at H
                          exact absurd H (by simp)
                      · rw [if_neg c15] at H
                        have c15b0 : (x4_1.toList == ([] : List UInt8)) = false := beq_eq_false_iff_ne.mpr c15
                        have c15e_ : (x4_1).toList.isEmpty = false := by simpa using c15
                        have c15b1 : (x4_1.toList != ([] : List UInt8)) = true := bne_iff_ne.mpr c15
                        by_cases c20 : x4_1.size + 1 ≤ 9223372036854775807
                        · rw [if_pos c20] at H
                          have c20b0 := eq_true c20
                          have c20b1 : decide (x4_1.size + 1 ≤ 9223372036854775807) = true := decide_eq_true c20
                          try have c20b2 : (9223372036854775807 < x4_1.size + 1) = False := eq_false (Nat.not_lt.2 c20)
                          by_cases c21 : (x4_1 ++ (⟨#[32]⟩ : ByteArray)).size + 1 ≤ 9223372036854775807
                          · rw [if_pos c21] at H
                            have c21b0 := eq_true c21
                            have c21b1 : decide ((x4_1 ++ (⟨#[32]⟩ : ByteArray)).size + 1 ≤ 9223372036854775807) = true := decide_eq_true c21
                            try have c21b2 : (9223372036854775807 < (x4_1 ++ (⟨#[32]⟩ : ByteArray)).size + 1) = False := eq_false (Nat.not_lt.2 c21)
                            try have c21b3 : (9223372036854775807 < x4_1.size + 1 + 1) = False := eq_false (by have q_ := c21; have z0_ : (⟨#[32]⟩ : ByteArray).size = 1 := rfl; (try simp only [ByteArray.size_append, ByteArray.size_extract] at q_); omega)
                            by_cases c22 : ((x4_1 ++ (⟨#[32]⟩ : ByteArray)) ++ (⟨#[34]⟩ : ByteArray)).size + 1 ≤ 9223372036854775807
                            · rw [if_pos c22] at H
                              have c22b0 := eq_true c22
                              have c22b1 : decide (((x4_1 ++ (⟨#[32]⟩ : ByteArray)) ++ (⟨#[34]⟩ : ByteArray)).size + 1 ≤ 9223372036854775807) = true := decide_eq_true c22
                              try have c22b2 : (9223372036854775807 < ((x4_1 ++ (⟨#[32]⟩ : ByteArray)) ++ (⟨#[34]⟩ : ByteArray)).size + 1) = False := eq_false (Nat.not_lt.2 c22)
                              try have c22b3 : (9223372036854775807 < x4_1.size + 1 + 1 + 1) = False := eq_false (by have q_ := c22; have z0_ : (⟨#[32]⟩ : ByteArray).size = 1 := rfl; have z1_ : (⟨#[34]⟩ : ByteArray).size = 1 := rfl; (try simp only [ByteArray.size_append, ByteArray.size_extract] at q_); omega)
                              by_cases c23 : x3_1.length < 5864062014805
                              · rw [if_pos c23] at H
                                have LMc23 := Aside0.mk c23
                                clear c23
                                obtain ⟨y303, hy303⟩ : ∃ y_ : List (S38), y_ = (x3_1 ++ [(⟨(-1), 97, 97⟩ : S38)]) := ⟨_, rfl⟩
                                replace H : (templelaw5_ShowRuns.l0 kj4 l0 y303 (((x4_1 ++ (⟨#[32]⟩ : ByteArray)) ++ (⟨#[34]⟩ : ByteArray)) ++ (⟨#[97]⟩ : ByteArray)) true (wrap64 (x6_1 + 1))) = some r := by first | (rw [hy303]; with_reducible exact H) | (have H2_ := (Option.bind_some _ _).symm.trans H; rw [hy303]; with_reducible exact H2_) | (have H2_ := (Option.bind_some _ _).symm.trans H; with_reducible exact H2_) | with_reducible exact H | (rw [hy303]; exact H) | exact H
                                have Ny303 := Aside0.mk hy303
                                clear hy303
                                have H' := Aside0.mk H
                                clear H
                                have p296 : 0 ≤ (x6_1 : Int) := of_decide_eq_true (by first | (with_reducible assumption) | assumption)
                                have q296 : x6_1 < (l0.length : Int) := of_decide_eq_true (by first | (with_reducible assumption) | assumption)
                                obtain ⟨ad296, e296, hx296_0⟩ := Kd.at_int HR0.out x6_1 p296 q296
                                cases e296
                                replace hx296_0 := (HB.out.cell (World.block_lt_of_cell? w _ hx296_0)).trans hx296_0
                                replace p296 := eq_true p296
                                replace q296 := eq_true q296
                                go_wp2_with (first | ((with_reducible refine gate_builtin (b := .append) (xs := #[.tmp 41, .tmp 43]) rfl ?_); at_builtin; refine Kd.R_append k38 (w0 := w) w.heap.size rfl (.tmp 41) (.tmp 43) 39 38 (.agg #[(.int .i64 0), (.int .i64 0), (.int .i64 0)]) 24 rfl Try.underlying39 info38 rfl (by decide) (by omega) u3 x3_1 (⟨(-1), 97, 97⟩ : S38) [.int .i64 (-1), .int .i64 97, .int .i64 97] (fun _ => True) (fun _ => False) rfl rfl ?aP (fun _ hk => hk.elim) ?aF ?aO ?aB ?aS ?aL ?_; (case aP => exact k38_mkM _ _ _ (⟨(-1), 97, 97⟩ : S38)); (case aB => exact (by repeat (first | (with_reducible first | exact HB.out | apply below_alloc | apply pw_below_drewN | apply below_drew1) | exact HB.out))); (case aF => exact (fun _ _ => trivial)); (case aO => exact (by (with_reducible repeat (first | apply Kd.R_alloc | apply Kd.R_drewN | apply Kd.R_drew)); exact HO_3.out)); (case aS => exact (below_size (by repeat (first | (with_reducible first | exact HB.out | apply below_alloc | apply pw_below_drewN | apply below_drew1) | exact HB.out)))); (case aL => have := LMc23.out; omega); intro v304 w24 ho hb hg hat; rw [← Ny303.out] at ho; have n0_ := Aside0.mk (hb); have n1_ := Aside0.mk (ho); clear HB; clear HO_3; have HB := n0_; have HO305 := n1_; clear n0_ n1_; clear ho hb hg hat))
                                go_roundg kj4
                                case measure => have := HK1.out; have := HJ4.out; omega
                                case rel => exact ⟨(y303), (((x4_1 ++ (⟨#[32]⟩ : ByteArray)) ++ (⟨#[34]⟩ : ByteArray)) ++ (⟨#[97]⟩ : ByteArray)), (true), (wrap64 (x6_1 + 1)), (by first | rfl | (simp; done) | (simp [i64_w]; done) | (simp [*]; done) | (simp [*, i64_w]; done) | (simp [*]; unfold wrap64; omega)), (by first | rfl | (simp; done) | (simp [i64_w]; done) | (simp [*]; done) | (simp [*, i64_w]; done) | (simp [*]; unfold wrap64; omega)), (by first | rfl | (simp; done) | (simp [i64_w]; done) | (simp [*]; done) | (simp [*, i64_w]; done) | (simp [*]; unfold wrap64; omega)), H', ⟨by have := HK1.out; have := HJ4.out; omega⟩, ⟨by (with_reducible repeat (first | apply Kd.R_alloc | apply Kd.R_drewN | apply Kd.R_drew)); exact HO305.out⟩, ⟨by repeat (first | (with_reducible first | exact HB.out | apply below_alloc | apply pw_below_drewN | apply below_drew1) | exact HB.out)⟩⟩
                              · rw [if_neg c23] at H
                                exact absurd H (by simp)
                            · rw [if_neg c22] at H
                              exact absurd H (by simp)
                          · rw [if_neg c21] at H
                            exact absurd H (by simp)
                        · rw [if_neg c20] at H
                          exact absurd H (by simp)
                  · rw [if_neg c10] at H
                    have c10b0 : ((wrap64 (Int.tmod (IntKind.u64.wrap (rd l0 x6_1)) 3)) == 0) = false := beq_eq_false_iff_ne.mpr c10
                    have c10b1 : ((wrap64 (Int.tmod (IntKind.u64.wrap (rd l0 x6_1)) 3)) != 0) = true := bne_iff_ne.mpr c10
                    by_cases c25 : x5_1 = true
                    · subst c25
                      have H1 : (if x4_1.size + 1 ≤ 9223372036854775807 then (if (x4_1 ++ (⟨#[34]⟩ : ByteArray)).toList = ([] : List UInt8) then ((some (([(⟨#[113]⟩ : ByteArray), (⟨#[39, 97, 39, 46, 46, 39, 98, 39]⟩ : ByteArray)] : List ByteArray) : List ByteArray)).bind fun y306 => (if 0 ≤ (wrap64 ((wrap64 (Int.tmod (IntKind.u64.wrap (rd l0 x6_1)) 3)) - 1)) then (if (wrap64 ((wrap64 (Int.tmod (IntKind.u64.wrap (rd l0 x6_1)) 3)) - 1)) < (y306.length : Int) then (if (x4_1 ++ (⟨#[34]⟩ : ByteArray)).size + (rdOf ByteArray.empty y306 (wrap64 ((wrap64 (Int.tmod (IntKind.u64.wrap (rd l0 x6_1)) 3)) - 1))).size ≤ 9223372036854775807 then ((some (([(⟨0, 0, 0⟩ : S38), (⟨(-1), 97, 98⟩ : S38)] : List (S38)) : List (S38))).bind fun y310 => (if (wrap64 ((wrap64 (Int.tmod (IntKind.u64.wrap (rd l0 x6_1)) 3)) - 1)) < (y310.length : Int) then (if x3_1.length < 5864062014805 then (templelaw5_ShowRuns.l0 kj4 l0 (x3_1 ++ [(⟨(rd_T38 y310 (wrap64 ((wrap64 (Int.tmod (IntKind.u64.wrap (rd l0 x6_1)) 3)) - 1))).f0, (rd_T38 y310 (wrap64 ((wrap64 (Int.tmod (IntKind.u64.wrap (rd l0 x6_1)) 3)) - 1))).f1, (rd_T38 y310 (wrap64 ((wrap64 (Int.tmod (IntKind.u64.wrap (rd l0 x6_1)) 3)) - 1))).f2⟩ : S38)]) ((x4_1 ++ (⟨#[34]⟩ : ByteArray)) ++ (rdOf ByteArray.empty y306 (wrap64 ((wrap64 (Int.tmod (IntKind.u64.wrap (rd l0 x6_1)) 3)) - 1)))) false (wrap64 (x6_1 + 1))) else (none)) else (none))) else (none)) else (none)) else (none))) else (if (x4_1 ++ (⟨#[34]⟩ : ByteArray)).size + 1 ≤ 9223372036854775807 then ((some (([(⟨#[113]⟩ : ByteArray), (⟨#[39, 97, 39, 46, 46, 39, 98, 39]⟩ : ByteArray)] : List ByteArray) : List ByteArray)).bind fun y317 => (if 0 ≤ (wrap64 ((wrap64 (Int.tmod (IntKind.u64.wrap (rd l0 x6_1)) 3)) - 1)) then (if (wrap64 ((wrap64 (Int.tmod (IntKind.u64.wrap (rd l0 x6_1)) 3)) - 1)) < (y317.length : Int) then (if ((x4_1 ++ (⟨#[34]⟩ : ByteArray)) ++ (⟨#[32]⟩ : ByteArray)).size + (rdOf ByteArray.empty y317 (wrap64 ((wrap64 (Int.tmod (IntKind.u64.wrap (rd l0 x6_1)) 3)) - 1))).size ≤ 9223372036854775807 then ((some (([(⟨0, 0, 0⟩ : S38), (⟨(-1), 97, 98⟩ : S38)] : List (S38)) : List (S38))).bind fun y321 => (if (wrap64 ((wrap64 (Int.tmod (IntKind.u64.wrap (rd l0 x6_1)) 3)) - 1)) < (y321.length : Int) then (if x3_1.length < 5864062014805 then (templelaw5_ShowRuns.l0 kj4 l0 (x3_1 ++ [(⟨(rd_T38 y321 (wrap64 ((wrap64 (Int.tmod (IntKind.u64.wrap (rd l0 x6_1)) 3)) - 1))).f0, (rd_T38 y321 (wrap64 ((wrap64 (Int.tmod (IntKind.u64.wrap (rd l0 x6_1)) 3)) - 1))).f1, (rd_T38 y321 (wrap64 ((wrap64 (Int.tmod (IntKind.u64.wrap (rd l0 x6_1)) 3)) - 1))).f2⟩ : S38)]) (((x4_1 ++ (⟨#[34]⟩ : ByteArray)) ++ (⟨#[32]⟩ : ByteArray)) ++ (rdOf ByteArray.empty y317 (wrap64 ((wrap64 (Int.tmod (IntKind.u64.wrap (rd l0 x6_1)) 3)) - 1)))) false (wrap64 (x6_1 + 1))) else (none)) else (none))) else (none)) else (none)) else (none))) else (none))) else (none)) = some r := by rw [if_pos rfl] at H; exact H
                      clear H
                      have H := H1
                      clear H1
                      by_cases c26 : x4_1.size + 1 ≤ 9223372036854775807
                      · rw [if_pos c26] at H
                        have c26b0 := eq_true c26
                        have c26b1 : decide (x4_1.size + 1 ≤ 9223372036854775807) = true := decide_eq_true c26
                        try have c26b2 : (9223372036854775807 < x4_1.size + 1) = False := eq_false (Nat.not_lt.2 c26)
                        by_cases c27 : (x4_1 ++ (⟨#[34]⟩ : ByteArray)).toList = ([] : List UInt8)
                        · rw [if_pos c27] at H
                          have c27b0 : ((x4_1 ++ (⟨#[34]⟩ : ByteArray)).toList == ([] : List UInt8)) = true := beq_iff_eq.mpr c27
                          have c27e_ : ((x4_1 ++ (⟨#[34]⟩ : ByteArray))).toList.isEmpty = true := by rw [c27]; rfl
                          have c27b1 : ((x4_1 ++ (⟨#[34]⟩ : ByteArray)).toList != ([] : List UInt8)) = false := bne_eq_false_iff_eq.mpr c27
                          clear c27
                          obtain ⟨y306, hy306⟩ : ∃ y_ : List ByteArray, y_ = (([(⟨#[113]⟩ : ByteArray), (⟨#[39, 97, 39, 46, 46, 39, 98, 39]⟩ : ByteArray)] : List ByteArray)) := ⟨_, rfl⟩
                          replace H : (if 0 ≤ (wrap64 ((wrap64 (Int.tmod (IntKind.u64.wrap (rd l0 x6_1)) 3)) - 1)) then (if (wrap64 ((wrap64 (Int.tmod (IntKind.u64.wrap (rd l0 x6_1)) 3)) - 1)) < (y306.length : Int) then (if (x4_1 ++ (⟨#[34]⟩ : ByteArray)).size + (rdOf ByteArray.empty y306 (wrap64 ((wrap64 (Int.tmod (IntKind.u64.wrap (rd l0 x6_1)) 3)) - 1))).size ≤ 9223372036854775807 then ((some (([(⟨0, 0, 0⟩ : S38), (⟨(-1), 97, 98⟩ : S38)] : List (S38)) : List (S38))).bind fun y310 => (if (wrap64 ((wrap64 (Int.tmod (IntKind.u64.wrap (rd l0 x6_1)) 3)) - 1)) < (y310.length : Int) then (if x3_1.length < 5864062014805 then (templelaw5_ShowRuns.l0 kj4 l0 (x3_1 ++ [(⟨(rd_T38 y310 (wrap64 ((wrap64 (Int.tmod (IntKind.u64.wrap (rd l0 x6_1)) 3)) - 1))).f0, (rd_T38 y310 (wrap64 ((wrap64 (Int.tmod (IntKind.u64.wrap (rd l0 x6_1)) 3)) - 1))).f1, (rd_T38 y310 (wrap64 ((wrap64 (Int.tmod (IntKind.u64.wrap (rd l0 x6_1)) 3)) - 1))).f2⟩ : S38)]) ((x4_1 ++ (⟨#[34]⟩ : ByteArray)) ++ (rdOf ByteArray.empty y306 (wrap64 ((wrap64 (Int.tmod (IntKind.u64.wrap (rd l0 x6_1)) 3)) - 1)))) false (wrap64 (x6_1 + 1))) else (none)) else (none))) else (none)) else (none)) else (none)) = some r := by first | (rw [hy306]; with_reducible exact H) | (have H2_ := (Option.bind_some _ _).symm.trans H; rw [hy306]; with_reducible exact H2_) | (have H2_ := (Option.bind_some _ _).symm.trans H; with_reducible exact H2_) | with_reducible exact H | (rw [hy306]; exact H) | exact H
                          have Ny306 := Aside0.mk hy306
                          clear hy306
                          obtain ⟨ji28, hji28⟩ : ∃ j_ : Int, (wrap64 ((wrap64 (Int.tmod (IntKind.u64.wrap (rd l0 x6_1)) 3)) - 1)) = j_ := ⟨_, rfl⟩
                          replace H : (if 0 ≤ (ji28) then (if (ji28) < (y306.length : Int) then (if (x4_1 ++ (⟨#[34]⟩ : ByteArray)).size + (rdOf ByteArray.empty y306 (ji28)).size ≤ 9223372036854775807 then ((some (([(⟨0, 0, 0⟩ : S38), (⟨(-1), 97, 98⟩ : S38)] : List (S38)) : List (S38))).bind fun y310 => (if (ji28) < (y310.length : Int) then (if x3_1.length < 5864062014805 then (templelaw5_ShowRuns.l0 kj4 l0 (x3_1 ++ [(⟨(rd_T38 y310 (ji28)).f0, (rd_T38 y310 (ji28)).f1, (rd_T38 y310 (ji28)).f2⟩ : S38)]) ((x4_1 ++ (⟨#[34]⟩ : ByteArray)) ++ (rdOf ByteArray.empty y306 (ji28))) false (wrap64 (x6_1 + 1))) else (none)) else (none))) else (none)) else (none)) else (none)) = some r := by first | (rw [hji28] at H; exact H) | (simp only [hji28] at H ⊢; exact H)
                          have hji28w : (IntKind.i64.wrap ((wrap64 (Int.tmod (IntKind.u64.wrap (rd l0 x6_1)) 3)) - 1)) = ji28 := (i64_w _).trans hji28
                          by_cases c29 : 0 ≤ (ji28)
                          · rw [if_pos c29] at H
                            have c29b0 : decide (0 ≤ (ji28)) = true := decide_eq_true c29
                            clear c29
                            by_cases c30 : (ji28) < (y306.length : Int)
                            · rw [if_pos c30] at H
                              have c30b0 : decide ((ji28) < (y306.length : Int)) = true := decide_eq_true c30
                              clear c30
                              by_cases c31 : (x4_1 ++ (⟨#[34]⟩ : ByteArray)).size + (rdOf ByteArray.empty y306 (ji28)).size ≤ 9223372036854775807
                              · rw [if_pos c31] at H
                                have c31b0 := eq_true c31
                                have c31b1 : decide ((x4_1 ++ (⟨#[34]⟩ : ByteArray)).size + (rdOf ByteArray.empty y306 (ji28)).size ≤ 9223372036854775807) = true := decide_eq_true c31
                                try have c31b2 : (9223372036854775807 < (x4_1 ++ (⟨#[34]⟩ : ByteArray)).size + (rdOf ByteArray.empty y306 (ji28)).size) = False := eq_false (Nat.not_lt.2 c31)
                                try have c31b3 : (9223372036854775807 < x4_1.size + 1 + (rdOf ByteArray.empty y306 (ji28)).size) = False := eq_false (by have q_ := c31; have z0_ : (⟨#[34]⟩ : ByteArray).size = 1 := rfl; (try simp only [ByteArray.size_append, ByteArray.size_extract] at q_); omega)
                                obtain ⟨y310, hy310⟩ : ∃ y_ : List (S38), y_ = (([(⟨0, 0, 0⟩ : S38), (⟨(-1), 97, 98⟩ : S38)] : List (S38))) := ⟨_, rfl⟩
                                replace H : (if (ji28) < (y310.length : Int) then (if x3_1.length < 5864062014805 then (templelaw5_ShowRuns.l0 kj4 l0 (x3_1 ++ [(⟨(rd_T38 y310 (ji28)).f0, (rd_T38 y310 (ji28)).f1, (rd_T38 y310 (ji28)).f2⟩ : S38)]) ((x4_1 ++ (⟨#[34]⟩ : ByteArray)) ++ (rdOf ByteArray.empty y306 (ji28))) false (wrap64 (x6_1 + 1))) else (none)) else (none)) = some r := by first | (rw [hy310]; with_reducible exact H) | (have H2_ := (Option.bind_some _ _).symm.trans H; rw [hy310]; with_reducible exact H2_) | (have H2_ := (Option.bind_some _ _).symm.trans H; with_reducible exact H2_) | with_reducible exact H | (rw [hy310]; exact H) | exact H
                                have Ny310 := Aside0.mk hy310
                                clear hy310
                                by_cases c32 : (ji28) < (y310.length : Int)
                                · rw [if_pos c32] at H
                                  have c32b0 : decide ((ji28) < (y310.length : Int)) = true := decide_eq_true c32
                                  clear c32
                                  by_cases c33 : x3_1.length < 5864062014805
                                  · rw [if_pos c33] at H
                                    have LMc33 := Aside0.mk c33
                                    clear c33
                                    obtain ⟨y314, hy314⟩ : ∃ y_ : List (S38), y_ = (x3_1 ++ [(⟨(rd_T38 y310 (ji28)).f0, (rd_T38 y310 (ji28)).f1, (rd_T38 y310 (ji28)).f2⟩ : S38)]) := ⟨_, rfl⟩
                                    replace H : (templelaw5_ShowRuns.l0 kj4 l0 y314 ((x4_1 ++ (⟨#[34]⟩ : ByteArray)) ++ (rdOf ByteArray.empty y306 (ji28))) false (wrap64 (x6_1 + 1))) = some r := by first | (rw [hy314]; with_reducible exact H) | (have H2_ := (Option.bind_some _ _).symm.trans H; rw [hy314]; with_reducible exact H2_) | (have H2_ := (Option.bind_some _ _).symm.trans H; with_reducible exact H2_) | with_reducible exact H | (rw [hy314]; exact H) | exact H
                                    have Ny314 := Aside0.mk hy314
                                    clear hy314
                                    have H' := Aside0.mk H
                                    clear H
                                    have p296 : 0 ≤ (x6_1 : Int) := of_decide_eq_true (by first | (with_reducible assumption) | assumption)
                                    have q296 : x6_1 < (l0.length : Int) := of_decide_eq_true (by first | (with_reducible assumption) | assumption)
                                    obtain ⟨ad296, e296, hx296_0⟩ := Kd.at_int HR0.out x6_1 p296 q296
                                    cases e296
                                    replace hx296_0 := (HB.out.cell (World.block_lt_of_cell? w _ hx296_0)).trans hx296_0
                                    replace p296 := eq_true p296
                                    replace q296 := eq_true q296
                                    go_wp2_with (first | ((with_reducible refine gate_dst (N := 53) rfl ?_); refine Kd.R_lit Kd.string _ 9 ?hg (N := 53) ?hd (xs := ([(⟨#[113]⟩ : ByteArray), (⟨#[39, 97, 39, 46, 46, 39, 98, 39]⟩ : ByteArray)] : List ByteArray)) (inner := [.string (⟨#[113]⟩ : ByteArray), .string (⟨#[39, 97, 39, 46, 46, 39, 98, 39]⟩ : ByteArray)]) (ok := fun _ => True) (okp := fun _ => True) ?hr ?hp (fun _ hk => hk) trivial (Below.refl _ _) (Nat.le_refl _) (by simp) ?_; (case hd => rfl); (case hg => rfl); (case hr => first | (go_simp; done) | (go_simp; rfl)); (case hp => exact (Reps.one (show Kd.M Kd.string _ _ _ (⟨#[113]⟩ : ByteArray) [.string (⟨#[113]⟩ : ByteArray)] from rfl) (Reps.one (show Kd.M Kd.string _ _ _ (⟨#[39, 97, 39, 46, 46, 39, 98, 39]⟩ : ByteArray) [.string (⟨#[39, 97, 39, 46, 46, 39, 98, 39]⟩ : ByteArray)] from rfl) (Reps.none _ _)))); intro v307 w34 ho35 hb hg_ hnew_; clear hg_ hnew_; (first | rw [← Ny306.out] at ho35 | (simp only [Int.reduceToNat] at ho35; rw [← Ny306.out] at ho35)); have n0_ := Aside0.mk (Kd.R_below (by (with_reducible repeat (first | apply Kd.R_alloc | apply Kd.R_drewN | apply Kd.R_drew)); exact HO_3.out) hb); have n1_ := Aside0.mk (Kd.R_lower ho35 (below_size (by repeat (first | (with_reducible first | exact HB.out | apply below_alloc | apply pw_below_drewN | apply below_drew1) | exact HB.out)))); have n2_ := Aside0.mk (below_step (by repeat (first | (with_reducible first | exact HB.out | apply below_alloc | apply pw_below_drewN | apply below_drew1) | exact HB.out)) hb); clear HO_3; clear HB; have HO_3 := n0_; have HO308 := n1_; have HB := n2_; clear n0_ n1_ n2_; clear hb ho35; obtain ⟨Ao36, co36, eo36⟩ := Kd.R_slice HO308.out; subst eo36; have p309 : 0 ≤ ((ji28) : Int) := of_decide_eq_true (by first | (with_reducible assumption) | assumption); have q309 : (ji28) < (y306.length : Int) := of_decide_eq_true (by first | (with_reducible assumption) | assumption); obtain ⟨ad309, e309, hx309_0⟩ := Kd.at_string (Kd.R_reads' HO308.out).2.2 (ji28) p309 q309; cases e309; replace p309 := eq_true p309; replace q309 := eq_true q309) | ((with_reducible refine gate_dst (N := 62) rfl ?_); refine Kd.R_lit k38 _ 38 ?hg (N := 62) ?hd (xs := ([(⟨0, 0, 0⟩ : S38), (⟨(-1), 97, 98⟩ : S38)] : List (S38))) (inner := [.int .i64 0, .int .i64 0, .int .i64 0, .int .i64 (-1), .int .i64 97, .int .i64 98]) (ok := fun _ => True) (okp := fun _ => True) ?hr ?hp (fun _ hk => hk) trivial (Below.refl _ _) (Nat.le_refl _) (by simp) ?_; (case hd => rfl); (case hg => rfl); (case hr => first | (go_simp; done) | (go_simp; rfl)); (case hp => exact (Reps.c3 (show Kd.M k38 _ _ _ (⟨0, 0, 0⟩ : S38) [.int .i64 0, .int .i64 0, .int .i64 0] from (k38_mkM _ _ _ (⟨0, 0, 0⟩ : S38) )) (Reps.c3 (show Kd.M k38 _ _ _ (⟨(-1), 97, 98⟩ : S38) [.int .i64 (-1), .int .i64 97, .int .i64 98] from (k38_mkM _ _ _ (⟨(-1), 97, 98⟩ : S38) )) (Reps.none _ _)))); intro v311 w37 ho38 hb hg_ hnew_; clear hg_ hnew_; (first | rw [← Ny310.out] at ho38 | (simp only [Int.reduceToNat] at ho38; rw [← Ny310.out] at ho38)); have n0_ := Aside0.mk (Kd.R_elder' (by (with_reducible repeat (first | apply Kd.R_alloc | apply Kd.R_drewN | apply Kd.R_drew)); exact HO_3.out) (Kd.R_base ho38) hb); have n1_ := Aside0.mk (Kd.R_below (by (with_reducible repeat (first | apply Kd.R_alloc | apply Kd.R_drewN | apply Kd.R_drew)); exact HO308.out) hb); have n2_ := Aside0.mk (Kd.R_lower (Kd.R_new' ho38 (Kd.R_lt (by (with_reducible repeat (first | apply Kd.R_alloc | apply Kd.R_drewN | apply Kd.R_drew)); exact HO_3.out))) (below_size (by repeat (first | (with_reducible first | exact HB.out | apply below_alloc | apply pw_below_drewN | apply below_drew1) | exact HB.out)))); have n3_ := Aside0.mk (below_step (by repeat (first | (with_reducible first | exact HB.out | apply below_alloc | apply pw_below_drewN | apply below_drew1) | exact HB.out)) hb); clear HO_3; clear HO308; clear HB; have HO_3 := n0_; have HO308 := n1_; have HO312 := n2_; have HB := n3_; clear n0_ n1_ n2_ n3_; clear hb ho38; obtain ⟨Ao39, co39, eo39⟩ := Kd.R_slice HO312.out; subst eo39; have p313 : 0 ≤ ((ji28) : Int) := of_decide_eq_true (by first | (with_reducible assumption) | assumption); have q313 : (ji28) < (y310.length : Int) := of_decide_eq_true (by first | (with_reducible assumption) | assumption); obtain ⟨ad313, e313, hx313_0, hx313_1, hx313_2⟩ := at_T38 (Kd.R_reads' HO312.out).2.2 (ji28) p313 q313; cases e313; replace p313 := eq_true p313; replace q313 := eq_true q313) | ((with_reducible refine gate_builtin (b := .append) (xs := #[.tmp 59, .tmp 67]) rfl ?_); at_builtin; refine Kd.R_append k38 (w0 := w) w.heap.size rfl (.tmp 59) (.tmp 67) 39 38 (.agg #[(.int .i64 0), (.int .i64 0), (.int .i64 0)]) 24 rfl Try.underlying39 info38 rfl (by decide) (by omega) u3 x3_1 (⟨(rd_T38 y310 (ji28)).f0, (rd_T38 y310 (ji28)).f1, (rd_T38 y310 (ji28)).f2⟩ : S38) [.int .i64 ((rd_T38 y310 (ji28)).f0), .int .i64 ((rd_T38 y310 (ji28)).f1), .int .i64 ((rd_T38 y310 (ji28)).f2)] (fun k_ => some k_ ≠ (.slice (some ad313) y310.length co39 : Value).ownBlock) (fun _ => False) rfl rfl ?aP (fun _ hk => hk.elim) ?aF ?aO ?aB ?aS ?aL ?_; (case aP => exact k38_mkM _ _ _ (⟨(rd_T38 y310 (ji28)).f0, (rd_T38 y310 (ji28)).f1, (rd_T38 y310 (ji28)).f2⟩ : S38)); (case aB => exact (by repeat (first | (with_reducible first | exact HB.out | apply below_alloc | apply pw_below_drewN | apply below_drew1) | exact HB.out))); (case aF => exact (fun k_ hk => Kd.fresh' (Kd.R_lt (by (with_reducible repeat (first | apply Kd.R_alloc | apply Kd.R_drewN | apply Kd.R_drew)); exact HO312.out)) k_ hk)); (case aO => exact (by (with_reducible repeat (first | apply Kd.R_alloc | apply Kd.R_drewN | apply Kd.R_drew)); exact Kd.R_mono HO_3.out (fun _ hk => hk.2))); (case aS => exact (below_size (by repeat (first | (with_reducible first | exact HB.out | apply below_alloc | apply pw_below_drewN | apply below_drew1) | exact HB.out)))); (case aL => have := LMc33.out; omega); intro v315 w40 ho hb hg hat; rw [← Ny314.out] at ho; have n0_ := Aside0.mk (Kd.R_over' (by (with_reducible repeat (first | apply Kd.R_alloc | apply Kd.R_drewN | apply Kd.R_drew)); exact HO308.out) (Kd.R_typed (by (with_reducible repeat (first | apply Kd.R_alloc | apply Kd.R_drewN | apply Kd.R_drew)); exact HO_3.out)) (by decide) hg); have n1_ := Aside0.mk (Kd.R_after (ok := (fun _ => True)) (by (with_reducible repeat (first | apply Kd.R_alloc | apply Kd.R_drewN | apply Kd.R_drew)); exact HO312.out) hg hat); have n2_ := Aside0.mk (hb); have n3_ := Aside0.mk (ho); clear HO308; clear HO312; clear HB; clear HO_3; have HO308 := n0_; have HO312 := n1_; have HB := n2_; have HO316 := n3_; clear n0_ n1_ n2_ n3_; clear ho hb hg hat))
                                    go_roundg kj4
                                    case measure => have := HK1.out; have := HJ4.out; omega
                                    case rel => exact ⟨(y314), ((x4_1 ++ (⟨#[34]⟩ : ByteArray)) ++ (rdOf ByteArray.empty y306 (ji28))), (false), (wrap64 (x6_1 + 1)), (by first | rfl | (simp; done) | (simp only [← hji28] <;> (first | rfl | (simp; done) | (simp [i64_w]; done))) | (simp [*]; done)), (by first | rfl | (simp; done) | (simp [i64_w]; done) | (simp [*]; done) | (simp [*, i64_w]; done) | (simp [*]; unfold wrap64; omega)), (by first | rfl | (simp; done) | (simp [i64_w]; done) | (simp [*]; done) | (simp [*, i64_w]; done) | (simp [*]; unfold wrap64; omega)), H', ⟨by have := HK1.out; have := HJ4.out; omega⟩, ⟨by (with_reducible repeat (first | apply Kd.R_alloc | apply Kd.R_drewN | apply Kd.R_drew)); exact Kd.R_mono HO316.out (fun _ hk => trivial)⟩, ⟨by repeat (first | (with_reducible first | exact HB.out | apply below_alloc | apply pw_below_drewN | apply below_drew1) | exact HB.out)⟩⟩
                                  · rw [if_neg c33] at H
                                    exact absurd H (by simp)
                                · rw [if_neg c32] at H
                                  exact absurd H (by simp)
                              · rw [if_neg c31] at H
                                exact absurd H (by simp)
                            · rw [if_neg c30] at H
                              exact absurd H (by simp)
                          · rw [if_neg c29] at H
                            exact absurd H (by simp)
                        · rw [if_neg c27] at H
                          have c27b0 : ((x4_1 ++ (⟨#[34]⟩ : ByteArray)).toList == ([] : List UInt8)) = false := beq_eq_false_iff_ne.mpr c27
                          have c27e_ : ((x4_1 ++ (⟨#[34]⟩ : ByteArray))).toList.isEmpty = false := by simpa using c27
                          have c27b1 : ((x4_1 ++ (⟨#[34]⟩ : ByteArray)).toList != ([] : List UInt8)) = true := bne_iff_ne.mpr c27
                          by_cases c41 : (x4_1 ++ (⟨#[34]⟩ : ByteArray)).size + 1 ≤ 9223372036854775807
                          · rw [if_pos c41] at H
                            have c41b0 := eq_true c41
                            have c41b1 : decide ((x4_1 ++ (⟨#[34]⟩ : ByteArray)).size + 1 ≤ 9223372036854775807) = true := decide_eq_true c41
                            try have c41b2 : (9223372036854775807 < (x4_1 ++ (⟨#[34]⟩ : ByteArray)).size + 1) = False := eq_false (Nat.not_lt.2 c41)
                            try have c41b3 : (9223372036854775807 < x4_1.size + 1 + 1) = False := eq_false (by have q_ := c41; have z0_ : (⟨#[34]⟩ : ByteArray).size = 1 := rfl; (try simp only [ByteArray.size_append, ByteArray.size_extract] at q_); omega)
                            obtain ⟨y317, hy317⟩ : ∃ y_ : List ByteArray, y_ = (([(⟨#[113]⟩ : ByteArray), (⟨#[39, 97, 39, 46, 46, 39, 98, 39]⟩ : ByteArray)] : List ByteArray)) := ⟨_, rfl⟩
                            replace H : (if 0 ≤ (wrap64 ((wrap64 (Int.tmod (IntKind.u64.wrap (rd l0 x6_1)) 3)) - 1)) then (if (wrap64 ((wrap64 (Int.tmod (IntKind.u64.wrap (rd l0 x6_1)) 3)) - 1)) < (y317.length : Int) then (if ((x4_1 ++ (⟨#[34]⟩ : ByteArray)) ++ (⟨#[32]⟩ : ByteArray)).size + (rdOf ByteArray.empty y317 (wrap64 ((wrap64 (Int.tmod (IntKind.u64.wrap (rd l0 x6_1)) 3)) - 1))).size ≤ 9223372036854775807 then ((some (([(⟨0, 0, 0⟩ : S38), (⟨(-1), 97, 98⟩ : S38)] : List (S38)) : List (S38))).bind fun y321 => (if (wrap64 ((wrap64 (Int.tmod (IntKind.u64.wrap (rd l0 x6_1)) 3)) - 1)) < (y321.length : Int) then (if x3_1.length < 5864062014805 then (templelaw5_ShowRuns.l0 kj4 l0 (x3_1 ++ [(⟨(rd_T38 y321 (wrap64 ((wrap64 (Int.tmod (IntKind.u64.wrap (rd l0 x6_1)) 3)) - 1))).f0, (rd_T38 y321 (wrap64 ((wrap64 (Int.tmod (IntKind.u64.wrap (rd l0 x6_1)) 3)) - 1))).f1, (rd_T38 y321 (wrap64 ((wrap64 (Int.tmod (IntKind.u64.wrap (rd l0 x6_1)) 3)) - 1))).f2⟩ : S38)]) (((x4_1 ++ (⟨#[34]⟩ : ByteArray)) ++ (⟨#[32]⟩ : ByteArray)) ++ (rdOf ByteArray.empty y317 (wrap64 ((wrap64 (Int.tmod (IntKind.u64.wrap (rd l0 x6_1)) 3)) - 1)))) false (wrap64 (x6_1 + 1))) else (none)) else (none))) else (none)) else (none)) else (none)) = some r := by first | (rw [hy317]; with_reducible exact H) | (have H2_ := (Option.bind_some _ _).symm.trans H; rw [hy317]; with_reducible exact H2_) | (have H2_ := (Option.bind_some _ _).symm.trans H; with_reducible exact H2_) | with_reducible exact H | (rw [hy317]; exact H) | exact H
                            have Ny317 := Aside0.mk hy317
                            clear hy317
                            obtain ⟨ji42, hji42⟩ : ∃ j_ : Int, (wrap64 ((wrap64 (Int.tmod (IntKind.u64.wrap (rd l0 x6_1)) 3)) - 1)) = j_ := ⟨_, rfl⟩
                            replace H : (if 0 ≤ (ji42) then (if (ji42) < (y317.length : Int) then (if ((x4_1 ++ (⟨#[34]⟩ : ByteArray)) ++ (⟨#[32]⟩ : ByteArray)).size + (rdOf ByteArray.empty y317 (ji42)).size ≤ 9223372036854775807 then ((some (([(⟨0, 0, 0⟩ : S38), (⟨(-1), 97, 98⟩ : S38)] : List (S38)) : List (S38))).bind fun y321 => (if (ji42) < (y321.length : Int) then (if x3_1.length < 5864062014805 then (templelaw5_ShowRuns.l0 kj4 l0 (x3_1 ++ [(⟨(rd_T38 y321 (ji42)).f0, (rd_T38 y321 (ji42)).f1, (rd_T38 y321 (ji42)).f2⟩ : S38)]) (((x4_1 ++ (⟨#[34]⟩ : ByteArray)) ++ (⟨#[32]⟩ : ByteArray)) ++ (rdOf ByteArray.empty y317 (ji42))) false (wrap64 (x6_1 + 1))) else (none)) else (none))) else (none)) else (none)) else (none)) = some r := by first | (rw [hji42] at H; exact H) | (simp only [hji42] at H ⊢; exact H)
                            have hji42w : (IntKind.i64.wrap ((wrap64 (Int.tmod (IntKind.u64.wrap (rd l0 x6_1)) 3)) - 1)) = ji42 := (i64_w _).trans hji42
                            by_cases c43 : 0 ≤ (ji42)
                            · rw [if_pos c43] at H
                              have c43b0 : decide (0 ≤ (ji42)) = true := decide_eq_true c43
                              clear c43
                              by_cases c44 : (ji42) < (y317.length : Int)
                              · rw [if_pos c44] at H
                                have c44b0 : decide ((ji42) < (y317.length : Int)) = true := decide_eq_true c44
                                clear c44
                                by_cases c45 : ((x4_1 ++ (⟨#[34]⟩ : ByteArray)) ++ (⟨#[32]⟩ : ByteArray)).size + (rdOf ByteArray.empty y317 (ji42)).size ≤ 9223372036854775807
                                · rw [if_pos c45] at H
                                  have c45b0 := eq_true c45
                                  have c45b1 : decide (((x4_1 ++ (⟨#[34]⟩ : ByteArray)) ++ (⟨#[32]⟩ : ByteArray)).size + (rdOf ByteArray.empty y317 (ji42)).size ≤ 9223372036854775807) = true := decide_eq_true c45
                                  try have c45b2 : (9223372036854775807 < ((x4_1 ++ (⟨#[34]⟩ : ByteArray)) ++ (⟨#[32]⟩ : ByteArray)).size + (rdOf ByteArray.empty y317 (ji42)).size) = False := eq_false (Nat.not_lt.2 c45)
                                  try have c45b3 : (9223372036854775807 < x4_1.size + 1 + 1 + (rdOf ByteArray.empty y317 (ji42)).size) = False := eq_false (by have q_ := c45; have z0_ : (⟨#[32]⟩ : ByteArray).size = 1 := rfl; have z1_ : (⟨#[34]⟩ : ByteArray).size = 1 := rfl; (try simp only [ByteArray.size_append, ByteArray.size_extract] at q_); omega)
                                  obtain ⟨y321, hy321⟩ : ∃ y_ : List (S38), y_ = (([(⟨0, 0, 0⟩ : S38), (⟨(-1), 97, 98⟩ : S38)] : List (S38))) := ⟨_, rfl⟩
                                  replace H : (if (ji42) < (y321.length : Int) then (if x3_1.length < 5864062014805 then (templelaw5_ShowRuns.l0 kj4 l0 (x3_1 ++ [(⟨(rd_T38 y321 (ji42)).f0, (rd_T38 y321 (ji42)).f1, (rd_T38 y321 (ji42)).f2⟩ : S38)]) (((x4_1 ++ (⟨#[34]⟩ : ByteArray)) ++ (⟨#[32]⟩ : ByteArray)) ++ (rdOf ByteArray.empty y317 (ji42))) false (wrap64 (x6_1 + 1))) else (none)) else (none)) = some r := by first | (rw [hy321]; with_reducible exact H) | (have H2_ := (Option.bind_some _ _).symm.trans H; rw [hy321]; with_reducible exact H2_) | (have H2_ := (Option.bind_some _ _).symm.trans H; with_reducible exact H2_) | with_reducible exact H | (rw [hy321]; exact H) | exact H
                                  have Ny321 := Aside0.mk hy321
                                  clear hy321
                                  by_cases c46 : (ji42) < (y321.length : Int)
                                  · rw [if_pos c46] at H
                                    have c46b0 : decide ((ji42) < (y321.length : Int)) = true := decide_eq_true c46
                                    clear c46
                                    by_cases c47 : x3_1.length < 5864062014805
                                    · rw [if_pos c47] at H
                                      have LMc47 := Aside0.mk c47
                                      clear c47
                                      obtain ⟨y325, hy325⟩ : ∃ y_ : List (S38), y_ = (x3_1 ++ [(⟨(rd_T38 y321 (ji42)).f0, (rd_T38 y321 (ji42)).f1, (rd_T38 y321 (ji42)).f2⟩ : S38)]) := ⟨_, rfl⟩
                                      replace H : (templelaw5_ShowRuns.l0 kj4 l0 y325 (((x4_1 ++ (⟨#[34]⟩ : ByteArray)) ++ (⟨#[32]⟩ : ByteArray)) ++ (rdOf ByteArray.empty y317 (ji42))) false (wrap64 (x6_1 + 1))) = some r := by first | (rw [hy325]; with_reducible exact H) | (have H2_ := (Option.bind_some _ _).symm.trans H; rw [hy325]; with_reducible exact H2_) | (have H2_ := (Option.bind_some _ _).symm.trans H; with_reducible exact H2_) | with_reducible exact H | (rw [hy325]; exact H) | exact H
                                      have Ny325 := Aside0.mk hy325
                                      clear hy325
                                      have H' := Aside0.mk H
                                      clear H
                                      have p296 : 0 ≤ (x6_1 : Int) := of_decide_eq_true (by first | (with_reducible assumption) | assumption)
                                      have q296 : x6_1 < (l0.length : Int) := of_decide_eq_true (by first | (with_reducible assumption) | assumption)
                                      obtain ⟨ad296, e296, hx296_0⟩ := Kd.at_int HR0.out x6_1 p296 q296
                                      cases e296
                                      replace hx296_0 := (HB.out.cell (World.block_lt_of_cell? w _ hx296_0)).trans hx296_0
                                      replace p296 := eq_true p296
                                      replace q296 := eq_true q296
                                      go_wp2_with (first | ((with_reducible refine gate_dst (N := 53) rfl ?_); refine Kd.R_lit Kd.string _ 9 ?hg (N := 53) ?hd (xs := ([(⟨#[113]⟩ : ByteArray), (⟨#[39, 97, 39, 46, 46, 39, 98, 39]⟩ : ByteArray)] : List ByteArray)) (inner := [.string (⟨#[113]⟩ : ByteArray), .string (⟨#[39, 97, 39, 46, 46, 39, 98, 39]⟩ : ByteArray)]) (ok := fun _ => True) (okp := fun _ => True) ?hr ?hp (fun _ hk => hk) trivial (Below.refl _ _) (Nat.le_refl _) (by simp) ?_; (case hd => rfl); (case hg => rfl); (case hr => first | (go_simp; done) | (go_simp; rfl)); (case hp => exact (Reps.one (show Kd.M Kd.string _ _ _ (⟨#[113]⟩ : ByteArray) [.string (⟨#[113]⟩ : ByteArray)] from rfl) (Reps.one (show Kd.M Kd.string _ _ _ (⟨#[39, 97, 39, 46, 46, 39, 98, 39]⟩ : ByteArray) [.string (⟨#[39, 97, 39, 46, 46, 39, 98, 39]⟩ : ByteArray)] from rfl) (Reps.none _ _)))); intro v318 w48 ho49 hb hg_ hnew_; clear hg_ hnew_; (first | rw [← Ny317.out] at ho49 | (simp only [Int.reduceToNat] at ho49; rw [← Ny317.out] at ho49)); have n0_ := Aside0.mk (Kd.R_below (by (with_reducible repeat (first | apply Kd.R_alloc | apply Kd.R_drewN | apply Kd.R_drew)); exact HO_3.out) hb); have n1_ := Aside0.mk (Kd.R_lower ho49 (below_size (by repeat (first | (with_reducible first | exact HB.out | apply below_alloc | apply pw_below_drewN | apply below_drew1) | exact HB.out)))); have n2_ := Aside0.mk (below_step (by repeat (first | (with_reducible first | exact HB.out | apply below_alloc | apply pw_below_drewN | apply below_drew1) | exact HB.out)) hb); clear HO_3; clear HB; have HO_3 := n0_; have HO319 := n1_; have HB := n2_; clear n0_ n1_ n2_; clear hb ho49; obtain ⟨Ao50, co50, eo50⟩ := Kd.R_slice HO319.out; subst eo50; have p320 : 0 ≤ ((ji42) : Int) := of_decide_eq_true (by first | (with_reducible assumption) | assumption); have q320 : (ji42) < (y317.length : Int) := of_decide_eq_true (by first | (with_reducible assumption) | assumption); obtain ⟨ad320, e320, hx320_0⟩ := Kd.at_string (Kd.R_reads' HO319.out).2.2 (ji42) p320 q320; cases e320; replace p320 := eq_true p320; replace q320 := eq_true q320) | ((with_reducible refine gate_dst (N := 62) rfl ?_); refine Kd.R_lit k38 _ 38 ?hg (N := 62) ?hd (xs := ([(⟨0, 0, 0⟩ : S38), (⟨(-1), 97, 98⟩ : S38)] : List (S38))) (inner := [.int .i64 0, .int .i64 0, .int .i64 0, .int .i64 (-1), .int .i64 97, .int .i64 98]) (ok := fun _ => True) (okp := fun _ => True) ?hr ?hp (fun _ hk => hk) trivial (Below.refl _ _) (Nat.le_refl _) (by simp) ?_; (case hd => rfl); (case hg => rfl); (case hr => first | (go_simp; done) | (go_simp; rfl)); (case hp => exact (Reps.c3 (show Kd.M k38 _ _ _ (⟨0, 0, 0⟩ : S38) [.int .i64 0, .int .i64 0, .int .i64 0] from (k38_mkM _ _ _ (⟨0, 0, 0⟩ : S38) )) (Reps.c3 (show Kd.M k38 _ _ _ (⟨(-1), 97, 98⟩ : S38) [.int .i64 (-1), .int .i64 97, .int .i64 98] from (k38_mkM _ _ _ (⟨(-1), 97, 98⟩ : S38) )) (Reps.none _ _)))); intro v322 w51 ho52 hb hg_ hnew_; clear hg_ hnew_; (first | rw [← Ny321.out] at ho52 | (simp only [Int.reduceToNat] at ho52; rw [← Ny321.out] at ho52)); have n0_ := Aside0.mk (Kd.R_elder' (by (with_reducible repeat (first | apply Kd.R_alloc | apply Kd.R_drewN | apply Kd.R_drew)); exact HO_3.out) (Kd.R_base ho52) hb); have n1_ := Aside0.mk (Kd.R_below (by (with_reducible repeat (first | apply Kd.R_alloc | apply Kd.R_drewN | apply Kd.R_drew)); exact HO319.out) hb); have n2_ := Aside0.mk (Kd.R_lower (Kd.R_new' ho52 (Kd.R_lt (by (with_reducible repeat (first | apply Kd.R_alloc | apply Kd.R_drewN | apply Kd.R_drew)); exact HO_3.out))) (below_size (by repeat (first | (with_reducible first | exact HB.out | apply below_alloc | apply pw_below_drewN | apply below_drew1) | exact HB.out)))); have n3_ := Aside0.mk (below_step (by repeat (first | (with_reducible first | exact HB.out | apply below_alloc | apply pw_below_drewN | apply below_drew1) | exact HB.out)) hb); clear HO_3; clear HO319; clear HB; have HO_3 := n0_; have HO319 := n1_; have HO323 := n2_; have HB := n3_; clear n0_ n1_ n2_ n3_; clear hb ho52; obtain ⟨Ao53, co53, eo53⟩ := Kd.R_slice HO323.out; subst eo53; have p324 : 0 ≤ ((ji42) : Int) := of_decide_eq_true (by first | (with_reducible assumption) | assumption); have q324 : (ji42) < (y321.length : Int) := of_decide_eq_true (by first | (with_reducible assumption) | assumption); obtain ⟨ad324, e324, hx324_0, hx324_1, hx324_2⟩ := at_T38 (Kd.R_reads' HO323.out).2.2 (ji42) p324 q324; cases e324; replace p324 := eq_true p324; replace q324 := eq_true q324) | ((with_reducible refine gate_builtin (b := .append) (xs := #[.tmp 59, .tmp 67]) rfl ?_); at_builtin; refine Kd.R_append k38 (w0 := w) w.heap.size rfl (.tmp 59) (.tmp 67) 39 38 (.agg #[(.int .i64 0), (.int .i64 0), (.int .i64 0)]) 24 rfl Try.underlying39 info38 rfl (by decide) (by omega) u3 x3_1 (⟨(rd_T38 y321 (ji42)).f0, (rd_T38 y321 (ji42)).f1, (rd_T38 y321 (ji42)).f2⟩ : S38) [.int .i64 ((rd_T38 y321 (ji42)).f0), .int .i64 ((rd_T38 y321 (ji42)).f1), .int .i64 ((rd_T38 y321 (ji42)).f2)] (fun k_ => some k_ ≠ (.slice (some ad324) y321.length co53 : Value).ownBlock) (fun _ => False) rfl rfl ?aP (fun _ hk => hk.elim) ?aF ?aO ?aB ?aS ?aL ?_; (case aP => exact k38_mkM _ _ _ (⟨(rd_T38 y321 (ji42)).f0, (rd_T38 y321 (ji42)).f1, (rd_T38 y321 (ji42)).f2⟩ : S38)); (case aB => exact (by repeat (first | (with_reducible first | exact HB.out | apply below_alloc | apply pw_below_drewN | apply below_drew1) | exact HB.out))); (case aF => exact (fun k_ hk => Kd.fresh' (Kd.R_lt (by (with_reducible repeat (first | apply Kd.R_alloc | apply Kd.R_drewN | apply Kd.R_drew)); exact HO323.out)) k_ hk)); (case aO => exact (by (with_reducible repeat (first | apply Kd.R_alloc | apply Kd.R_drewN | apply Kd.R_drew)); exact Kd.R_mono HO_3.out (fun _ hk => hk.2))); (case aS => exact (below_size (by repeat (first | (with_reducible first | exact HB.out | apply below_alloc | apply pw_below_drewN | apply below_drew1) | exact HB.out)))); (case aL => have := LMc47.out; omega); intro v326 w54 ho hb hg hat; rw [← Ny325.out] at ho; have n0_ := Aside0.mk (Kd.R_over' (by (with_reducible repeat (first | apply Kd.R_alloc | apply Kd.R_drewN | apply Kd.R_drew)); exact HO319.out) (Kd.R_typed (by (with_reducible repeat (first | apply Kd.R_alloc | apply Kd.R_drewN | apply Kd.R_drew)); exact HO_3.out)) (by decide) hg); have n1_ := Aside0.mk (Kd.R_after (ok := (fun _ => True)) (by (with_reducible repeat (first | apply Kd.R_alloc | apply Kd.R_drewN | apply Kd.R_drew)); exact HO323.out) hg hat); have n2_ := Aside0.mk (hb); have n3_ := Aside0.mk (ho); clear HO319; clear HO323; clear HB; clear HO_3; have HO319 := n0_; have HO323 := n1_; have HB := n2_; have HO327 := n3_; clear n0_ n1_ n2_ n3_; clear ho hb hg hat))
                                      go_roundg kj4
                                      case measure => have := HK1.out; have := HJ4.out; omega
                                      case rel => exact ⟨(y325), (((x4_1 ++ (⟨#[34]⟩ : ByteArray)) ++ (⟨#[32]⟩ : ByteArray)) ++ (rdOf ByteArray.empty y317 (ji42))), (false), (wrap64 (x6_1 + 1)), (by first | rfl | (simp; done) | (simp only [← hji42] <;> (first | rfl | (simp; done) | (simp [i64_w]; done))) | (simp [*]; done)), (by first | rfl | (simp; done) | (simp [i64_w]; done) | (simp [*]; done) | (simp [*, i64_w]; done) | (simp [*]; unfold wrap64; omega)), (by first | rfl | (simp; done) | (simp [i64_w]; done) | (simp [*]; done) | (simp [*, i64_w]; done) | (simp [*]; unfold wrap64; omega)), H', ⟨by have := HK1.out; have := HJ4.out; omega⟩, ⟨by (with_reducible repeat (first | apply Kd.R_alloc | apply Kd.R_drewN | apply Kd.R_drew)); exact Kd.R_mono HO327.out (fun _ hk => trivial)⟩, ⟨by repeat (first | (with_reducible first | exact HB.out | apply below_alloc | apply pw_below_drewN | apply below_drew1) | exact HB.out)⟩⟩
                                    · rw [if_neg c47] at H
                                      exact absurd H (by simp)
                                  · rw [if_neg c46] at H
                                    exact absurd H (by simp)
                                · rw [if_neg c45] at H
                                  exact absurd H (by simp)
                              · rw [if_neg c44] at H
                                exact absurd H (by simp)
                            · rw [if_neg c43] at H
                              exact absurd H (by simp)
                          · rw [if_neg c41] at H
                            exact absurd H (by simp)
                      · rw [if_neg c26] at H
                        exact absurd H (by simp)
                    · replace c25 := Bool.eq_false_iff.mpr c25
                      subst c25
                      have H1 : (if x4_1.toList = ([] : List UInt8) then ((some (([(⟨#[113]⟩ : ByteArray), (⟨#[39, 97, 39, 46, 46, 39, 98, 39]⟩ : ByteArray)] : List ByteArray) : List ByteArray)).bind fun y328 => (if 0 ≤ (wrap64 ((wrap64 (Int.tmod (IntKind.u64.wrap (rd l0 x6_1)) 3)) - 1)) then (if (wrap64 ((wrap64 (Int.tmod (IntKind.u64.wrap (rd l0 x6_1)) 3)) - 1)) < (y328.length : Int) then (if x4_1.size + (rdOf ByteArray.empty y328 (wrap64 ((wrap64 (Int.tmod (IntKind.u64.wrap (rd l0 x6_1)) 3)) - 1))).size ≤ 9223372036854775807 then ((some (([(⟨0, 0, 0⟩ : S38), (⟨(-1), 97, 98⟩ : S38)] : List (S38)) : List (S38))).bind fun y332 => (if (wrap64 ((wrap64 (Int.tmod (IntKind.u64.wrap (rd l0 x6_1)) 3)) - 1)) < (y332.length : Int) then (if x3_1.length < 5864062014805 then (templelaw5_ShowRuns.l0 kj4 l0 (x3_1 ++ [(⟨(rd_T38 y332 (wrap64 ((wrap64 (Int.tmod (IntKind.u64.wrap (rd l0 x6_1)) 3)) - 1))).f0, (rd_T38 y332 (wrap64 ((wrap64 (Int.tmod (IntKind.u64.wrap (rd l0 x6_1)) 3)) - 1))).f1, (rd_T38 y332 (wrap64 ((wrap64 (Int.tmod (IntKind.u64.wrap (rd l0 x6_1)) 3)) - 1))).f2⟩ : S38)]) (x4_1 ++ (rdOf ByteArray.empty y328 (wrap64 ((wrap64 (Int.tmod (IntKind.u64.wrap (rd l0 x6_1)) 3)) - 1)))) false (wrap64 (x6_1 + 1))) else (none)) else (none))) else (none)) else (none)) else (none))) else (if x4_1.size + 1 ≤ 9223372036854775807 then ((some (([(⟨#[113]⟩ : ByteArray), (⟨#[39, 97, 39, 46, 46, 39, 98, 39]⟩ : ByteArray)] : List ByteArray) : List ByteArray)).bind fun y339 => (if 0 ≤ (wrap64 ((wrap64 (Int.tmod (IntKind.u64.wrap (rd l0 x6_1)) 3)) - 1)) then (if (wrap64 ((wrap64 (Int.tmod (IntKind.u64.wrap (rd l0 x6_1)) 3)) - 1)) < (y339.length : Int) then (if (x4_1 ++ (⟨#[32]⟩ : ByteArray)).size + (rdOf ByteArray.empty y339 (wrap64 ((wrap64 (Int.tmod (IntKind.u64.wrap (rd l0 x6_1)) 3)) - 1))).size ≤ 9223372036854775807 then ((some (([(⟨0, 0, 0⟩ : S38), (⟨(-1), 97, 98⟩ : S38)] : List (S38)) : List (S38))).bind fun y343 => (if (wrap64 ((wrap64 (Int.tmod (IntKind.u64.wrap (rd l0 x6_1)) 3)) - 1)) < (y343.length : Int) then (if x3_1.length < 5864062014805 then (templelaw5_ShowRuns.l0 kj4 l0 (x3_1 ++ [(⟨(rd_T38 y343 (wrap64 ((wrap64 (Int.tmod (IntKind.u64.wrap (rd l0 x6_1)) 3)) - 1))).f0, (rd_T38 y343 (wrap64 ((wrap64 (Int.tmod (IntKind.u64.wrap (rd l0 x6_1)) 3)) - 1))).f1, (rd_T38 y343 (wrap64 ((wrap64 (Int.tmod (IntKind.u64.wrap (rd l0 x6_1)) 3)) - 1))).f2⟩ : S38)]) ((x4_1 ++ (⟨#[32]⟩ : ByteArray)) ++ (rdOf ByteArray.empty y339 (wrap64 ((wrap64 (Int.tmod (IntKind.u64.wrap (rd l0 x6_1)) 3)) - 1)))) false (wrap64 (x6_1 + 1))) else (none)) else (none))) else (none)) else (none)) else (none))) else (none))) = some r := by rw [if_neg (show ¬ (false = true) by decide)] at H; exact H
                      clear H
                      have H := H1
                      clear H1
                      by_cases c55 : x4_1.toList = ([] : List UInt8)
                      · rw [if_pos c55] at H
                        have c55b0 : (x4_1.toList == ([] : List UInt8)) = true := beq_iff_eq.mpr c55
                        have c55e_ : (x4_1).toList.isEmpty = true := by rw [c55]; rfl
                        have c55b1 : (x4_1.toList != ([] : List UInt8)) = false := bne_eq_false_iff_eq.mpr c55
                        clear c55
                        obtain ⟨y328, hy328⟩ : ∃ y_ : List ByteArray, y_ = (([(⟨#[113]⟩ : ByteArray), (⟨#[39, 97, 39, 46, 46, 39, 98, 39]⟩ : ByteArray)] : List ByteArray)) := ⟨_, rfl⟩
                        replace H : (if 0 ≤ (wrap64 ((wrap64 (Int.tmod (IntKind.u64.wrap (rd l0 x6_1)) 3)) - 1)) then (if (wrap64 ((wrap64 (Int.tmod (IntKind.u64.wrap (rd l0 x6_1)) 3)) - 1)) < (y328.length : Int) then (if x4_1.size + (rdOf ByteArray.empty y328 (wrap64 ((wrap64 (Int.tmod (IntKind.u64.wrap (rd l0 x6_1)) 3)) - 1))).size ≤ 9223372036854775807 then ((some (([(⟨0, 0, 0⟩ : S38), (⟨(-1), 97, 98⟩ : S38)] : List (S38)) : List (S38))).bind fun y332 => (if (wrap64 ((wrap64 (Int.tmod (IntKind.u64.wrap (rd l0 x6_1)) 3)) - 1)) < (y332.length : Int) then (if x3_1.length < 5864062014805 then (templelaw5_ShowRuns.l0 kj4 l0 (x3_1 ++ [(⟨(rd_T38 y332 (wrap64 ((wrap64 (Int.tmod (IntKind.u64.wrap (rd l0 x6_1)) 3)) - 1))).f0, (rd_T38 y332 (wrap64 ((wrap64 (Int.tmod (IntKind.u64.wrap (rd l0 x6_1)) 3)) - 1))).f1, (rd_T38 y332 (wrap64 ((wrap64 (Int.tmod (IntKind.u64.wrap (rd l0 x6_1)) 3)) - 1))).f2⟩ : S38)]) (x4_1 ++ (rdOf ByteArray.empty y328 (wrap64 ((wrap64 (Int.tmod (IntKind.u64.wrap (rd l0 x6_1)) 3)) - 1)))) false (wrap64 (x6_1 + 1))) else (none)) else (none))) else (none)) else (none)) else (none)) = some r := by first | (rw [hy328]; with_reducible exact H) | (have H2_ := (Option.bind_some _ _).symm.trans H; rw [hy328]; with_reducible exact H2_) | (have H2_ := (Option.bind_some _ _).symm.trans H; with_reducible exact H2_) | with_reducible exact H | (rw [hy328]; exact H) | exact H
                        have Ny328 := Aside0.mk hy328
                        clear hy328
                        obtain ⟨ji56, hji56⟩ : ∃ j_ : Int, (wrap64 ((wrap64 (Int.tmod (IntKind.u64.wrap (rd l0 x6_1)) 3)) - 1)) = j_ := ⟨_, rfl⟩
                        replace H : (if 0 ≤ (ji56) then (if (ji56) < (y328.length : Int) then (if x4_1.size + (rdOf ByteArray.empty y328 (ji56)).size ≤ 9223372036854775807 then ((some (([(⟨0, 0, 0⟩ : S38), (⟨(-1), 97, 98⟩ : S38)] : List (S38)) : List (S38))).bind fun y332 => (if (ji56) < (y332.length : Int) then (if x3_1.length < 5864062014805 then (templelaw5_ShowRuns.l0 kj4 l0 (x3_1 ++ [(⟨(rd_T38 y332 (ji56)).f0, (rd_T38 y332 (ji56)).f1, (rd_T38 y332 (ji56)).f2⟩ : S38)]) (x4_1 ++ (rdOf ByteArray.empty y328 (ji56))) false (wrap64 (x6_1 + 1))) else (none)) else (none))) else (none)) else (none)) else (none)) = some r := by first | (rw [hji56] at H; exact H) | (simp only [hji56] at H ⊢; exact H)
                        have hji56w : (IntKind.i64.wrap ((wrap64 (Int.tmod (IntKind.u64.wrap (rd l0 x6_1)) 3)) - 1)) = ji56 := (i64_w _).trans hji56
                        by_cases c57 : 0 ≤ (ji56)
                        · rw [if_pos c57] at H
                          have c57b0 : decide (0 ≤ (ji56)) = true := decide_eq_true c57
                          clear c57
                          by_cases c58 : (ji56) < (y328.length : Int)
                          · rw [if_pos c58] at H
                            have c58b0 : decide ((ji56) < (y328.length : Int)) = true := decide_eq_true c58
                            clear c58
                            by_cases c59 : x4_1.size + (rdOf ByteArray.empty y328 (ji56)).size ≤ 9223372036854775807
                            · rw [if_pos c59] at H
                              have c59b0 := eq_true c59
                              have c59b1 : decide (x4_1.size + (rdOf ByteArray.empty y328 (ji56)).size ≤ 9223372036854775807) = true := decide_eq_true c59
                              try have c59b2 : (9223372036854775807 < x4_1.size + (rdOf ByteArray.empty y328 (ji56)).size) = False := eq_false (Nat.not_lt.2 c59)
                              obtain ⟨y332, hy332⟩ : ∃ y_ : List (S38), y_ = (([(⟨0, 0, 0⟩ : S38), (⟨(-1), 97, 98⟩ : S38)] : List (S38))) := ⟨_, rfl⟩
                              replace H : (if (ji56) < (y332.length : Int) then (if x3_1.length < 5864062014805 then (templelaw5_ShowRuns.l0 kj4 l0 (x3_1 ++ [(⟨(rd_T38 y332 (ji56)).f0, (rd_T38 y332 (ji56)).f1, (rd_T38 y332 (ji56)).f2⟩ : S38)]) (x4_1 ++ (rdOf ByteArray.empty y328 (ji56))) false (wrap64 (x6_1 + 1))) else (none)) else (none)) = some r := by first | (rw [hy332]; with_reducible exact H) | (have H2_ := (Option.bind_some _ _).symm.trans H; rw [hy332]; with_reducible exact H2_) | (have H2_ := (Option.bind_some _ _).symm.trans H; with_reducible exact H2_) | with_reducible exact H | (rw [hy332]; exact H) | exact H
                              have Ny332 := Aside0.mk hy332
                              clear hy332
                              by_cases c60 : (ji56) < (y332.length : Int)
                              · rw [if_pos c60] at H
                                have c60b0 : decide ((ji56) < (y332.length : Int)) = true := decide_eq_true c60
                                clear c60
                                by_cases c61 : x3_1.length < 5864062014805
                                · rw [if_pos c61] at H
                                  have LMc61 := Aside0.mk c61
                                  clear c61
                                  obtain ⟨y336, hy336⟩ : ∃ y_ : List (S38), y_ = (x3_1 ++ [(⟨(rd_T38 y332 (ji56)).f0, (rd_T38 y332 (ji56)).f1, (rd_T38 y332 (ji56)).f2⟩ : S38)]) := ⟨_, rfl⟩
                                  replace H : (templelaw5_ShowRuns.l0 kj4 l0 y336 (x4_1 ++ (rdOf ByteArray.empty y328 (ji56))) false (wrap64 (x6_1 + 1))) = some r := by first | (rw [hy336]; with_reducible exact H) | (have H2_ := (Option.bind_some _ _).symm.trans H; rw [hy336]; with_reducible exact H2_) | (have H2_ := (Option.bind_some _ _).symm.trans H; with_reducible exact H2_) | with_reducible exact H | (rw [hy336]; exact H) | exact H
                                  have Ny336 := Aside0.mk hy336
                                  clear hy336
                                  have H' := Aside0.mk H
                                  clear H
                                  have p296 : 0 ≤ (x6_1 : Int) := of_decide_eq_true (by first | (with_reducible assumption) | assumption)
                                  have q296 : x6_1 < (l0.length : Int) := of_decide_eq_true (by first | (with_reducible assumption) | assumption)
                                  obtain ⟨ad296, e296, hx296_0⟩ := Kd.at_int HR0.out x6_1 p296 q296
                                  cases e296
                                  replace hx296_0 := (HB.out.cell (World.block_lt_of_cell? w _ hx296_0)).trans hx296_0
                                  replace p296 := eq_true p296
                                  replace q296 := eq_true q296
                                  go_wp2_with (first | ((with_reducible refine gate_dst (N := 53) rfl ?_); refine Kd.R_lit Kd.string _ 9 ?hg (N := 53) ?hd (xs := ([(⟨#[113]⟩ : ByteArray), (⟨#[39, 97, 39, 46, 46, 39, 98, 39]⟩ : ByteArray)] : List ByteArray)) (inner := [.string (⟨#[113]⟩ : ByteArray), .string (⟨#[39, 97, 39, 46, 46, 39, 98, 39]⟩ : ByteArray)]) (ok := fun _ => True) (okp := fun _ => True) ?hr ?hp (fun _ hk => hk) trivial (Below.refl _ _) (Nat.le_refl _) (by simp) ?_; (case hd => rfl); (case hg => rfl); (case hr => first | (go_simp; done) | (go_simp; rfl)); (case hp => exact (Reps.one (show Kd.M Kd.string _ _ _ (⟨#[113]⟩ : ByteArray) [.string (⟨#[113]⟩ : ByteArray)] from rfl) (Reps.one (show Kd.M Kd.string _ _ _ (⟨#[39, 97, 39, 46, 46, 39, 98, 39]⟩ : ByteArray) [.string (⟨#[39, 97, 39, 46, 46, 39, 98, 39]⟩ : ByteArray)] from rfl) (Reps.none _ _)))); intro v329 w62 ho63 hb hg_ hnew_; clear hg_ hnew_; (first | rw [← Ny328.out] at ho63 | (simp only [Int.reduceToNat] at ho63; rw [← Ny328.out] at ho63)); have n0_ := Aside0.mk (Kd.R_below (by (with_reducible repeat (first | apply Kd.R_alloc | apply Kd.R_drewN | apply Kd.R_drew)); exact HO_3.out) hb); have n1_ := Aside0.mk (Kd.R_lower ho63 (below_size (by repeat (first | (with_reducible first | exact HB.out | apply below_alloc | apply pw_below_drewN | apply below_drew1) | exact HB.out)))); have n2_ := Aside0.mk (below_step (by repeat (first | (with_reducible first | exact HB.out | apply below_alloc | apply pw_below_drewN | apply below_drew1) | exact HB.out)) hb); clear HO_3; clear HB; have HO_3 := n0_; have HO330 := n1_; have HB := n2_; clear n0_ n1_ n2_; clear hb ho63; obtain ⟨Ao64, co64, eo64⟩ := Kd.R_slice HO330.out; subst eo64; have p331 : 0 ≤ ((ji56) : Int) := of_decide_eq_true (by first | (with_reducible assumption) | assumption); have q331 : (ji56) < (y328.length : Int) := of_decide_eq_true (by first | (with_reducible assumption) | assumption); obtain ⟨ad331, e331, hx331_0⟩ := Kd.at_string (Kd.R_reads' HO330.out).2.2 (ji56) p331 q331; cases e331; replace p331 := eq_true p331; replace q331 := eq_true q331) | ((with_reducible refine gate_dst (N := 62) rfl ?_); refine Kd.R_lit k38 _ 38 ?hg (N := 62) ?hd (xs := ([(⟨0, 0, 0⟩ : S38), (⟨(-1), 97, 98⟩ : S38)] : List (S38))) (inner := [.int .i64 0, .int .i64 0, .int .i64 0, .int .i64 (-1), .int .i64 97, .int .i64 98]) (ok := fun _ => True) (okp := fun _ => True) ?hr ?hp (fun _ hk => hk) trivial (Below.refl _ _) (Nat.le_refl _) (by simp) ?_; (case hd => rfl); (case hg => rfl); (case hr => first | (go_simp; done) | (go_simp; rfl)); (case hp => exact (Reps.c3 (show Kd.M k38 _ _ _ (⟨0, 0, 0⟩ : S38) [.int .i64 0, .int .i64 0, .int .i64 0] from (k38_mkM _ _ _ (⟨0, 0, 0⟩ : S38) )) (Reps.c3 (show Kd.M k38 _ _ _ (⟨(-1), 97, 98⟩ : S38) [.int .i64 (-1), .int .i64 97, .int .i64 98] from (k38_mkM _ _ _ (⟨(-1), 97, 98⟩ : S38) )) (Reps.none _ _)))); intro v333 w65 ho66 hb hg_ hnew_; clear hg_ hnew_; (first | rw [← Ny332.out] at ho66 | (simp only [Int.reduceToNat] at ho66; rw [← Ny332.out] at ho66)); have n0_ := Aside0.mk (Kd.R_elder' (by (with_reducible repeat (first | apply Kd.R_alloc | apply Kd.R_drewN | apply Kd.R_drew)); exact HO_3.out) (Kd.R_base ho66) hb); have n1_ := Aside0.mk (Kd.R_below (by (with_reducible repeat (first | apply Kd.R_alloc | apply Kd.R_drewN | apply Kd.R_drew)); exact HO330.out) hb); have n2_ := Aside0.mk (Kd.R_lower (Kd.R_new' ho66 (Kd.R_lt (by (with_reducible repeat (first | apply Kd.R_alloc | apply Kd.R_drewN | apply Kd.R_drew)); exact HO_3.out))) (below_size (by repeat (first | (with_reducible first | exact HB.out | apply below_alloc | apply pw_below_drewN | apply below_drew1) | exact HB.out)))); have n3_ := Aside0.mk (below_step (by repeat (first | (with_reducible first | exact HB.out | apply below_alloc | apply pw_below_drewN | apply below_drew1) | exact HB.out)) hb); clear HO_3; clear HO330; clear HB; have HO_3 := n0_; have HO330 := n1_; have HO334 := n2_; have HB := n3_; clear n0_ n1_ n2_ n3_; clear hb ho66; obtain ⟨Ao67, co67, eo67⟩ := Kd.R_slice HO334.out; subst eo67; have p335 : 0 ≤ ((ji56) : Int) := of_decide_eq_true (by first | (with_reducible assumption) | assumption); have q335 : (ji56) < (y332.length : Int) := of_decide_eq_true (by first | (with_reducible assumption) | assumption); obtain ⟨ad335, e335, hx335_0, hx335_1, hx335_2⟩ := at_T38 (Kd.R_reads' HO334.out).2.2 (ji56) p335 q335; cases e335; replace p335 := eq_true p335; replace q335 := eq_true q335) | ((with_reducible refine gate_builtin (b := .append) (xs := #[.tmp 59, .tmp 67]) rfl ?_); at_builtin; refine Kd.R_append k38 (w0 := w) w.heap.size rfl (.tmp 59) (.tmp 67) 39 38 (.agg #[(.int .i64 0), (.int .i64 0), (.int .i64 0)]) 24 rfl Try.underlying39 info38 rfl (by decide) (by omega) u3 x3_1 (⟨(rd_T38 y332 (ji56)).f0, (rd_T38 y332 (ji56)).f1, (rd_T38 y332 (ji56)).f2⟩ : S38) [.int .i64 ((rd_T38 y332 (ji56)).f0), .int .i64 ((rd_T38 y332 (ji56)).f1), .int .i64 ((rd_T38 y332 (ji56)).f2)] (fun k_ => some k_ ≠ (.slice (some ad335) y332.length co67 : Value).ownBlock) (fun _ => False) rfl rfl ?aP (fun _ hk => hk.elim) ?aF ?aO ?aB ?aS ?aL ?_; (case aP => exact k38_mkM _ _ _ (⟨(rd_T38 y332 (ji56)).f0, (rd_T38 y332 (ji56)).f1, (rd_T38 y332 (ji56)).f2⟩ : S38)); (case aB => exact (by repeat (first | (with_reducible first | exact HB.out | apply below_alloc | apply pw_below_drewN | apply below_drew1) | exact HB.out))); (case aF => exact (fun k_ hk => Kd.fresh' (Kd.R_lt (by (with_reducible repeat (first | apply Kd.R_alloc | apply Kd.R_drewN | apply Kd.R_drew)); exact HO334.out)) k_ hk)); (case aO => exact (by (with_reducible repeat (first | apply Kd.R_alloc | apply Kd.R_drewN | apply Kd.R_drew)); exact Kd.R_mono HO_3.out (fun _ hk => hk.2))); (case aS => exact (below_size (by repeat (first | (with_reducible first | exact HB.out | apply below_alloc | apply pw_below_drewN | apply below_drew1) | exact HB.out)))); (case aL => have := LMc61.out; omega); intro v337 w68 ho hb hg hat; rw [← Ny336.out] at ho; have n0_ := Aside0.mk (Kd.R_over' (by (with_reducible repeat (first | apply Kd.R_alloc | apply Kd.R_drewN | apply Kd.R_drew)); exact HO330.out) (Kd.R_typed (by (with_reducible repeat (first | apply Kd.R_alloc | apply Kd.R_drewN | apply Kd.R_drew)); exact HO_3.out)) (by decide) hg); have n1_ := Aside0.mk (Kd.R_after (ok := (fun _ => True)) (by (with_reducible repeat (first | apply Kd.R_alloc | apply Kd.R_drewN | apply Kd.R_drew)); exact HO334.out) hg hat); have n2_ := Aside0.mk (hb); have n3_ := Aside0.mk (ho); clear HO330; clear HO334; clear HB; clear HO_3; have HO330 := n0_; have HO334 := n1_; have HB := n2_; have HO338 := n3_; clear n0_ n1_ n2_ n3_; clear ho hb hg hat))
                                  go_roundg kj4
                                  case measure => have := HK1.out; have := HJ4.out; omega
                                  case rel => exact ⟨(y336), (x4_1 ++ (rdOf ByteArray.empty y328 (ji56))), (false), (wrap64 (x6_1 + 1)), (by first | rfl | (simp; done) | (simp only [← hji56] <;> (first | rfl | (simp; done) | (simp [i64_w]; done))) | (simp [*]; done)), (by first | rfl | (simp; done) | (simp [i64_w]; done) | (simp [*]; done) | (simp [*, i64_w]; done) | (simp [*]; unfold wrap64; omega)), (by first | rfl | (simp; done) | (simp [i64_w]; done) | (simp [*]; done) | (simp [*, i64_w]; done) | (simp [*]; unfold wrap64; omega)), H', ⟨by have := HK1.out; have := HJ4.out; omega⟩, ⟨by (with_reducible repeat (first | apply Kd.R_alloc | apply Kd.R_drewN | apply Kd.R_drew)); exact Kd.R_mono HO338.out (fun _ hk => trivial)⟩, ⟨by repeat (first | (with_reducible first | exact HB.out | apply below_alloc | apply pw_below_drewN | apply below_drew1) | exact HB.out)⟩⟩
                                · rw [if_neg c61] at H
                                  exact absurd H (by simp)
                              · rw [if_neg c60] at H
                                exact absurd H (by simp)
                            · rw [if_neg c59] at H
                              exact absurd H (by simp)
                          · rw [if_neg c58] at H
                            exact absurd H (by simp)
                        · rw [if_neg c57] at H
                          exact absurd H (by simp)
                      · rw [if_neg c55] at H
                        have c55b0 : (x4_1.toList == ([] : List UInt8)) = false := beq_eq_false_iff_ne.mpr c55
                        have c55e_ : (x4_1).toList.isEmpty = false := by simpa using c55
                        have c55b1 : (x4_1.toList != ([] : List UInt8)) = true := bne_iff_ne.mpr c55
                        by_cases c69 : x4_1.size + 1 ≤ 9223372036854775807
                        · rw [if_pos c69] at H
                          have c69b0 := eq_true c69
                          have c69b1 : decide (x4_1.size + 1 ≤ 9223372036854775807) = true := decide_eq_true c69
                          try have c69b2 : (9223372036854775807 < x4_1.size + 1) = False := eq_false (Nat.not_lt.2 c69)
                          obtain ⟨y339, hy339⟩ : ∃ y_ : List ByteArray, y_ = (([(⟨#[113]⟩ : ByteArray), (⟨#[39, 97, 39, 46, 46, 39, 98, 39]⟩ : ByteArray)] : List ByteArray)) := ⟨_, rfl⟩
                          replace H : (if 0 ≤ (wrap64 ((wrap64 (Int.tmod (IntKind.u64.wrap (rd l0 x6_1)) 3)) - 1)) then (if (wrap64 ((wrap64 (Int.tmod (IntKind.u64.wrap (rd l0 x6_1)) 3)) - 1)) < (y339.length : Int) then (if (x4_1 ++ (⟨#[32]⟩ : ByteArray)).size + (rdOf ByteArray.empty y339 (wrap64 ((wrap64 (Int.tmod (IntKind.u64.wrap (rd l0 x6_1)) 3)) - 1))).size ≤ 9223372036854775807 then ((some (([(⟨0, 0, 0⟩ : S38), (⟨(-1), 97, 98⟩ : S38)] : List (S38)) : List (S38))).bind fun y343 => (if (wrap64 ((wrap64 (Int.tmod (IntKind.u64.wrap (rd l0 x6_1)) 3)) - 1)) < (y343.length : Int) then (if x3_1.length < 5864062014805 then (templelaw5_ShowRuns.l0 kj4 l0 (x3_1 ++ [(⟨(rd_T38 y343 (wrap64 ((wrap64 (Int.tmod (IntKind.u64.wrap (rd l0 x6_1)) 3)) - 1))).f0, (rd_T38 y343 (wrap64 ((wrap64 (Int.tmod (IntKind.u64.wrap (rd l0 x6_1)) 3)) - 1))).f1, (rd_T38 y343 (wrap64 ((wrap64 (Int.tmod (IntKind.u64.wrap (rd l0 x6_1)) 3)) - 1))).f2⟩ : S38)]) ((x4_1 ++ (⟨#[32]⟩ : ByteArray)) ++ (rdOf ByteArray.empty y339 (wrap64 ((wrap64 (Int.tmod (IntKind.u64.wrap (rd l0 x6_1)) 3)) - 1)))) false (wrap64 (x6_1 + 1))) else (none)) else (none))) else (none)) else (none)) else (none)) = some r := by first | (rw [hy339]; with_reducible exact H) | (have H2_ := (Option.bind_some _ _).symm.trans H; rw [hy339]; with_reducible exact H2_) | (have H2_ := (Option.bind_some _ _).symm.trans H; with_reducible exact H2_) | with_reducible exact H | (rw [hy339]; exact H) | exact H
                          have Ny339 := Aside0.mk hy339
                          clear hy339
                          obtain ⟨ji70, hji70⟩ : ∃ j_ : Int, (wrap64 ((wrap64 (Int.tmod (IntKind.u64.wrap (rd l0 x6_1)) 3)) - 1)) = j_ := ⟨_, rfl⟩
                          replace H : (if 0 ≤ (ji70) then (if (ji70) < (y339.length : Int) then (if (x4_1 ++ (⟨#[32]⟩ : ByteArray)).size + (rdOf ByteArray.empty y339 (ji70)).size ≤ 9223372036854775807 then ((some (([(⟨0, 0, 0⟩ : S38), (⟨(-1), 97, 98⟩ : S38)] : List (S38)) : List (S38))).bind fun y343 => (if (ji70) < (y343.length : Int) then (if x3_1.length < 5864062014805 then (templelaw5_ShowRuns.l0 kj4 l0 (x3_1 ++ [(⟨(rd_T38 y343 (ji70)).f0, (rd_T38 y343 (ji70)).f1, (rd_T38 y343 (ji70)).f2⟩ : S38)]) ((x4_1 ++ (⟨#[32]⟩ : ByteArray)) ++ (rdOf ByteArray.empty y339 (ji70))) false (wrap64 (x6_1 + 1))) else (none)) else (none))) else (none)) else (none)) else (none)) = some r := by first | (rw [hji70] at H; exact H) | (simp only [hji70] at H ⊢; exact H)
                          have hji70w : (IntKind.i64.wrap ((wrap64 (Int.tmod (IntKind.u64.wrap (rd l0 x6_1)) 3)) - 1)) = ji70 := (i64_w _).trans hji70
                          by_cases c71 : 0 ≤ (ji70)
                          · rw [if_pos c71] at H
                            have c71b0 : decide (0 ≤ (ji70)) = true := decide_eq_true c71
                            clear c71
                            by_cases c72 : (ji70) < (y339.length : Int)
                            · rw [if_pos c72] at H
                              have c72b0 : decide ((ji70) < (y339.length : Int)) = true := decide_eq_true c72
                              clear c72
                              by_cases c73 : (x4_1 ++ (⟨#[32]⟩ : ByteArray)).size + (rdOf ByteArray.empty y339 (ji70)).size ≤ 9223372036854775807
                              · rw [if_pos c73] at H
                                have c73b0 := eq_true c73
                                have c73b1 : decide ((x4_1 ++ (⟨#[32]⟩ : ByteArray)).size + (rdOf ByteArray.empty y339 (ji70)).size ≤ 9223372036854775807) = true := decide_eq_true c73
                                try have c73b2 : (9223372036854775807 < (x4_1 ++ (⟨#[32]⟩ : ByteArray)).size + (rdOf ByteArray.empty y339 (ji70)).size) = False := eq_false (Nat.not_lt.2 c73)
                                try have c73b3 : (9223372036854775807 < x4_1.size + 1 + (rdOf ByteArray.empty y339 (ji70)).size) = False := eq_false (by have q_ := c73; have z0_ : (⟨#[32]⟩ : ByteArray).size = 1 := rfl; (try simp only [ByteArray.size_append, ByteArray.size_extract] at q_); omega)
                                obtain ⟨y343, hy343⟩ : ∃ y_ : List (S38), y_ = (([(⟨0, 0, 0⟩ : S38), (⟨(-1), 97, 98⟩ : S38)] : List (S38))) := ⟨_, rfl⟩
                                replace H : (if (ji70) < (y343.length : Int) then (if x3_1.length < 5864062014805 then (templelaw5_ShowRuns.l0 kj4 l0 (x3_1 ++ [(⟨(rd_T38 y343 (ji70)).f0, (rd_T38 y343 (ji70)).f1, (rd_T38 y343 (ji70)).f2⟩ : S38)]) ((x4_1 ++ (⟨#[32]⟩ : ByteArray)) ++ (rdOf ByteArray.empty y339 (ji70))) false (wrap64 (x6_1 + 1))) else (none)) else (none)) = some r := by first | (rw [hy343]; with_reducible exact H) | (have H2_ := (Option.bind_some _ _).symm.trans H; rw [hy343]; with_reducible exact H2_) | (have H2_ := (Option.bind_some _ _).symm.trans H; with_reducible exact H2_) | with_reducible exact H | (rw [hy343]; exact H) | exact H
                                have Ny343 := Aside0.mk hy343
                                clear hy343
                                by_cases c74 : (ji70) < (y343.length : Int)
                                · rw [if_pos c74] at H
                                  have c74b0 : decide ((ji70) < (y343.length : Int)) = true := decide_eq_true c74
                                  clear c74
                                  by_cases c75 : x3_1.length < 5864062014805
                                  · rw [if_pos c75] at H
                                    have LMc75 := Aside0.mk c75
                                    clear c75
                                    obtain ⟨y347, hy347⟩ : ∃ y_ : List (S38), y_ = (x3_1 ++ [(⟨(rd_T38 y343 (ji70)).f0, (rd_T38 y343 (ji70)).f1, (rd_T38 y343 (ji70)).f2⟩ : S38)]) := ⟨_, rfl⟩
                                    replace H : (templelaw5_ShowRuns.l0 kj4 l0 y347 ((x4_1 ++ (⟨#[32]⟩ : ByteArray)) ++ (rdOf ByteArray.empty y339 (ji70))) false (wrap64 (x6_1 + 1))) = some r := by first | (rw [hy347]; with_reducible exact H) | (have H2_ := (Option.bind_some _ _).symm.trans H; rw [hy347]; with_reducible exact H2_) | (have H2_ := (Option.bind_some _ _).symm.trans H; with_reducible exact H2_) | with_reducible exact H | (rw [hy347]; exact H) | exact H
                                    have Ny347 := Aside0.mk hy347
                                    clear hy347
                                    have H' := Aside0.mk H
                                    clear H
                                    have p296 : 0 ≤ (x6_1 : Int) := of_decide_eq_true (by first | (with_reducible assumption) | assumption)
                                    have q296 : x6_1 < (l0.length : Int) := of_decide_eq_true (by first | (with_reducible assumption) | assumption)
                                    obtain ⟨ad296, e296, hx296_0⟩ := Kd.at_int HR0.out x6_1 p296 q296
                                    cases e296
                                    replace hx296_0 := (HB.out.cell (World.block_lt_of_cell? w _ hx296_0)).trans hx296_0
                                    replace p296 := eq_true p296
                                    replace q296 := eq_true q296
                                    go_wp2_with (first | ((with_reducible refine gate_dst (N := 53) rfl ?_); refine Kd.R_lit Kd.string _ 9 ?hg (N := 53) ?hd (xs := ([(⟨#[113]⟩ : ByteArray), (⟨#[39, 97, 39, 46, 46, 39, 98, 39]⟩ : ByteArray)] : List ByteArray)) (inner := [.string (⟨#[113]⟩ : ByteArray), .string (⟨#[39, 97, 39, 46, 46, 39, 98, 39]⟩ : ByteArray)]) (ok := fun _ => True) (okp := fun _ => True) ?hr ?hp (fun _ hk => hk) trivial (Below.refl _ _) (Nat.le_refl _) (by simp) ?_; (case hd => rfl); (case hg => rfl); (case hr => first | (go_simp; done) | (go_simp; rfl)); (case hp => exact (Reps.one (show Kd.M Kd.string _ _ _ (⟨#[113]⟩ : ByteArray) [.string (⟨#[113]⟩ : ByteArray)] from rfl) (Reps.one (show Kd.M Kd.string _ _ _ (⟨#[39, 97, 39, 46, 46, 39, 98, 39]⟩ : ByteArray) [.string (⟨#[39, 97, 39, 46, 46, 39, 98, 39]⟩ : ByteArray)] from rfl) (Reps.none _ _)))); intro v340 w76 ho77 hb hg_ hnew_; clear hg_ hnew_; (first | rw [← Ny339.out] at ho77 | (simp only [Int.reduceToNat] at ho77; rw [← Ny339.out] at ho77)); have n0_ := Aside0.mk (Kd.R_below (by (with_reducible repeat (first | apply Kd.R_alloc | apply Kd.R_drewN | apply Kd.R_drew)); exact HO_3.out) hb); have n1_ := Aside0.mk (Kd.R_lower ho77 (below_size (by repeat (first | (with_reducible first | exact HB.out | apply below_alloc | apply pw_below_drewN | apply below_drew1) | exact HB.out)))); have n2_ := Aside0.mk (below_step (by repeat (first | (with_reducible first | exact HB.out | apply below_alloc | apply pw_below_drewN | apply below_drew1) | exact HB.out)) hb); clear HO_3; clear HB; have HO_3 := n0_; have HO341 := n1_; have HB := n2_; clear n0_ n1_ n2_; clear hb ho77; obtain ⟨Ao78, co78, eo78⟩ := Kd.R_slice HO341.out; subst eo78; have p342 : 0 ≤ ((ji70) : Int) := of_decide_eq_true (by first | (with_reducible assumption) | assumption); have q342 : (ji70) < (y339.length : Int) := of_decide_eq_true (by first | (with_reducible assumption) | assumption); obtain ⟨ad342, e342, hx342_0⟩ := Kd.at_string (Kd.R_reads' HO341.out).2.2 (ji70) p342 q342; cases e342; replace p342 := eq_true p342; replace q342 := eq_true q342) | ((with_reducible refine gate_dst (N := 62) rfl ?_); refine Kd.R_lit k38 _ 38 ?hg (N := 62) ?hd (xs := ([(⟨0, 0, 0⟩ : S38), (⟨(-1), 97, 98⟩ : S38)] : List (S38))) (inner := [.int .i64 0, .int .i64 0, .int .i64 0, .int .i64 (-1), .int .i64 97, .int .i64 98]) (ok := fun _ => True) (okp := fun _ => True) ?hr ?hp (fun _ hk => hk) trivial (Below.refl _ _) (Nat.le_refl _) (by simp) ?_; (case hd => rfl); (case hg => rfl); (case hr => first | (go_simp; done) | (go_simp; rfl)); (case hp => exact (Reps.c3 (show Kd.M k38 _ _ _ (⟨0, 0, 0⟩ : S38) [.int .i64 0, .int .i64 0, .int .i64 0] from (k38_mkM _ _ _ (⟨0, 0, 0⟩ : S38) )) (Reps.c3 (show Kd.M k38 _ _ _ (⟨(-1), 97, 98⟩ : S38) [.int .i64 (-1), .int .i64 97, .int .i64 98] from (k38_mkM _ _ _ (⟨(-1), 97, 98⟩ : S38) )) (Reps.none _ _)))); intro v344 w79 ho80 hb hg_ hnew_; clear hg_ hnew_; (first | rw [← Ny343.out] at ho80 | (simp only [Int.reduceToNat] at ho80; rw [← Ny343.out] at ho80)); have n0_ := Aside0.mk (Kd.R_elder' (by (with_reducible repeat (first | apply Kd.R_alloc | apply Kd.R_drewN | apply Kd.R_drew)); exact HO_3.out) (Kd.R_base ho80) hb); have n1_ := Aside0.mk (Kd.R_below (by (with_reducible repeat (first | apply Kd.R_alloc | apply Kd.R_drewN | apply Kd.R_drew)); exact HO341.out) hb); have n2_ := Aside0.mk (Kd.R_lower (Kd.R_new' ho80 (Kd.R_lt (by (with_reducible repeat (first | apply Kd.R_alloc | apply Kd.R_drewN | apply Kd.R_drew)); exact HO_3.out))) (below_size (by repeat (first | (with_reducible first | exact HB.out | apply below_alloc | apply pw_below_drewN | apply below_drew1) | exact HB.out)))); have n3_ := Aside0.mk (below_step (by repeat (first | (with_reducible first | exact HB.out | apply below_alloc | apply pw_below_drewN | apply below_drew1) | exact HB.out)) hb); clear HO_3; clear HO341; clear HB; have HO_3 := n0_; have HO341 := n1_; have HO345 := n2_; have HB := n3_; clear n0_ n1_ n2_ n3_; clear hb ho80; obtain ⟨Ao81, co81, eo81⟩ := Kd.R_slice HO345.out; subst eo81; have p346 : 0 ≤ ((ji70) : Int) := of_decide_eq_true (by first | (with_reducible assumption) | assumption); have q346 : (ji70) < (y343.length : Int) := of_decide_eq_true (by first | (with_reducible assumption) | assumption); obtain ⟨ad346, e346, hx346_0, hx346_1, hx346_2⟩ := at_T38 (Kd.R_reads' HO345.out).2.2 (ji70) p346 q346; cases e346; replace p346 := eq_true p346; replace q346 := eq_true q346) | ((with_reducible refine gate_builtin (b := .append) (xs := #[.tmp 59, .tmp 67]) rfl ?_); at_builtin; refine Kd.R_append k38 (w0 := w) w.heap.size rfl (.tmp 59) (.tmp 67) 39 38 (.agg #[(.int .i64 0), (.int .i64 0), (.int .i64 0)]) 24 rfl Try.underlying39 info38 rfl (by decide) (by omega) u3 x3_1 (⟨(rd_T38 y343 (ji70)).f0, (rd_T38 y343 (ji70)).f1, (rd_T38 y343 (ji70)).f2⟩ : S38) [.int .i64 ((rd_T38 y343 (ji70)).f0), .int .i64 ((rd_T38 y343 (ji70)).f1), .int .i64 ((rd_T38 y343 (ji70)).f2)] (fun k_ => some k_ ≠ (.slice (some ad346) y343.length co81 : Value).ownBlock) (fun _ => False) rfl rfl ?aP (fun _ hk => hk.elim) ?aF ?aO ?aB ?aS ?aL ?_; (case aP => exact k38_mkM _ _ _ (⟨(rd_T38 y343 (ji70)).f0, (rd_T38 y343 (ji70)).f1, (rd_T38 y343 (ji70)).f2⟩ : S38)); (case aB => exact (by repeat (first | (with_reducible first | exact HB.out | apply below_alloc | apply pw_below_drewN | apply below_drew1) | exact HB.out))); (case aF => exact (fun k_ hk => Kd.fresh' (Kd.R_lt (by (with_reducible repeat (first | apply Kd.R_alloc | apply Kd.R_drewN | apply Kd.R_drew)); exact HO345.out)) k_ hk)); (case aO => exact (by (with_reducible repeat (first | apply Kd.R_alloc | apply Kd.R_drewN | apply Kd.R_drew)); exact Kd.R_mono HO_3.out (fun _ hk => hk.2))); (case aS => exact (below_size (by repeat (first | (with_reducible first | exact HB.out | apply below_alloc | apply pw_below_drewN | apply below_drew1) | exact HB.out)))); (case aL => have := LMc75.out; omega); intro v348 w82 ho hb hg hat; rw [← Ny347.out] at ho; have n0_ := Aside0.mk (Kd.R_over' (by (with_reducible repeat (first | apply Kd.R_alloc | apply Kd.R_drewN | apply Kd.R_drew)); exact HO341.out) (Kd.R_typed (by (with_reducible repeat (first | apply Kd.R_alloc | apply Kd.R_drewN | apply Kd.R_drew)); exact HO_3.out)) (by decide) hg); have n1_ := Aside0.mk (Kd.R_after (ok := (fun _ => True)) (by (with_reducible repeat (first | apply Kd.R_alloc | apply Kd.R_drewN | apply Kd.R_drew)); exact HO345.out) hg hat); have n2_ := Aside0.mk (hb); have n3_ := Aside0.mk (ho); clear HO341; clear HO345; clear HB; clear HO_3; have HO341 := n0_; have HO345 := n1_; have HB := n2_; have HO349 := n3_; clear n0_ n1_ n2_ n3_; clear ho hb hg hat))
                                    go_roundg kj4
                                    case measure => have := HK1.out; have := HJ4.out; omega
                                    case rel => exact ⟨(y347), ((x4_1 ++ (⟨#[32]⟩ : ByteArray)) ++ (rdOf ByteArray.empty y339 (ji70))), (false), (wrap64 (x6_1 + 1)), (by first | rfl | (simp; done) | (simp only [← hji70] <;> (first | rfl | (simp; done) | (simp [i64_w]; done))) | (simp [*]; done)), (by first | rfl | (simp; done) | (simp [i64_w]; done) | (simp [*]; done) | (simp [*, i64_w]; done) | (simp [*]; unfold wrap64; omega)), (by first | rfl | (simp; done) | (simp [i64_w]; done) | (simp [*]; done) | (simp [*, i64_w]; done) | (simp [*]; unfold wrap64; omega)), H', ⟨by have := HK1.out; have := HJ4.out; omega⟩, ⟨by (with_reducible repeat (first | apply Kd.R_alloc | apply Kd.R_drewN | apply Kd.R_drew)); exact Kd.R_mono HO349.out (fun _ hk => trivial)⟩, ⟨by repeat (first | (with_reducible first | exact HB.out | apply below_alloc | apply pw_below_drewN | apply below_drew1) | exact HB.out)⟩⟩
                                  · rw [if_neg c75] at H
                                    exact absurd H (by simp)
                                · rw [if_neg c74] at H
                                  exact absurd H (by simp)
                              · rw [if_neg c73] at H
                                exact absurd H (by simp)
                            · rw [if_neg c72] at H
                              exact absurd H (by simp)
                          · rw [if_neg c71] at H
                            exact absurd H (by simp)
                        · rw [if_neg c69] at H
                          exact absurd H (by simp)
                · rw [if_neg c9] at H
                  exact absurd H (by simp)
              · rw [if_neg c8] at H
                exact absurd H (by simp)
            · replace c7 := Bool.eq_false_iff.mpr c7
              subst c7
              have H1 : (if x5_1 = true then (if x4_1.size + 1 ≤ 9223372036854775807 then (templelaw5_ShowRuns.j2 kj4 x3_1 (x4_1 ++ (⟨#[34]⟩ : ByteArray))) else (none)) else (templelaw5_ShowRuns.j2 kj4 x3_1 x4_1)) = some r := by rw [if_neg (show ¬ (false = true) by decide)] at H; exact H
              clear H
              have H := H1
              clear H1
              have HC83 := Aside0.mk H
              clear H
              go_upto_if 69 with (fail)
              go_cut [4] (fun v4 wc => ∃ (kq : Nat) (x4_82 : ByteArray), v4 = .string x4_82 ∧ Aside0 (templelaw5_ShowRuns.j2 kq x3_1 x4_82 = some r) ∧ Aside0 (kq ≤ kj4) ∧ Aside0 (Kd.R k38 38 wc w.heap.size (fun _ => True) u3 x3_1) ∧ Aside0 (Below w.heap.size w wc))
              case first =>
                have H := HC83.out
                clear HC83
                by_cases c84 : x5_1 = true
                · subst c84
                  have H1 : (if x4_1.size + 1 ≤ 9223372036854775807 then (templelaw5_ShowRuns.j2 kj4 x3_1 (x4_1 ++ (⟨#[34]⟩ : ByteArray))) else (none)) = some r := by rw [if_pos rfl] at H; exact H
                  clear H
                  have H := H1
                  clear H1
                  by_cases c85 : x4_1.size + 1 ≤ 9223372036854775807
                  · rw [if_pos c85] at H
                    have c85b0 := eq_true c85
                    have c85b1 : decide (x4_1.size + 1 ≤ 9223372036854775807) = true := decide_eq_true c85
                    try have c85b2 : (9223372036854775807 < x4_1.size + 1) = False := eq_false (Nat.not_lt.2 c85)
                    have H' := Aside0.mk H
                    clear H
                    go_wp2
                    go_meet
                    case rel => exact ⟨_, (x4_1 ++ (⟨#[34]⟩ : ByteArray)), (by first | rfl | (simp; done) | (simp [i64_w]; done) | (simp [*]; done) | (simp [*, i64_w]; done) | (simp [*]; unfold wrap64; omega)), H', ⟨by have := HK1.out; have := HJ4.out; first | omega | exact Nat.le_refl _⟩, ⟨by (with_reducible repeat (first | apply Kd.R_alloc | apply Kd.R_drewN | apply Kd.R_drew)); exact HO_3.out⟩, ⟨by repeat (first | (with_reducible first | exact HB.out | apply below_alloc | apply pw_below_drewN | apply below_drew1) | exact HB.out)⟩⟩
                  · rw [if_neg c85] at H
                    exact absurd H (by simp)
                · replace c84 := Bool.eq_false_iff.mpr c84
                  subst c84
                  have H1 : (templelaw5_ShowRuns.j2 kj4 x3_1 x4_1) = some r := by rw [if_neg (show ¬ (false = true) by decide)] at H; exact H
                  clear H
                  have H := H1
                  clear H1
                  have H' := Aside0.mk H
                  clear H
                  go_wp2
                  go_meet
                  case rel => exact ⟨_, (x4_1), (by first | rfl | (simp; done) | (simp [i64_w]; done) | (simp [*]; done) | (simp [*, i64_w]; done) | (simp [*]; unfold wrap64; omega)), H', ⟨by have := HK1.out; have := HJ4.out; first | omega | exact Nat.le_refl _⟩, ⟨by (with_reducible repeat (first | apply Kd.R_alloc | apply Kd.R_drewN | apply Kd.R_drew)); exact HO_3.out⟩, ⟨by repeat (first | (with_reducible first | exact HB.out | apply below_alloc | apply pw_below_drewN | apply below_drew1) | exact HB.out)⟩⟩
              case rest =>
                clear HC83
                try clear c1
                try clear c2
                try clear p2
                try clear q2
                try clear hx2
                try clear c3
                try clear p3
                try clear q3
                try clear hx3
                try clear c4
                try clear c5
                try clear c6
                try clear c6b0
                try clear p6
                try clear c7
                try clear c8
                try clear c8b0
                try clear c9
                try clear c9b0
                try clear c10
                try clear c10b0
                try clear c10b1
                try clear c11
                try clear c12
                try clear c12b0
                try clear c12b1
                try clear c12b2
                try clear c13
                try clear c14
                try clear c15
                try clear c15b0
                try clear c15b1
                try clear c16
                try clear c16b0
                try clear c16b1
                try clear c16b2
                try clear c17
                try clear c17b0
                try clear c17b1
                try clear c17b2
                try clear c18
                try clear c20
                try clear c20b0
                try clear c20b1
                try clear c20b2
                try clear c21
                try clear c21b0
                try clear c21b1
                try clear c21b2
                try clear c22
                try clear c22b0
                try clear c22b1
                try clear c22b2
                try clear c23
                try clear c25
                try clear c26
                try clear c26b0
                try clear c26b1
                try clear c26b2
                try clear c27
                try clear c27b0
                try clear c27b1
                try clear c29
                try clear c29b0
                try clear p29
                try clear q29
                try clear hx29
                try clear c30
                try clear c30b0
                try clear p30
                try clear q30
                try clear hx30
                try clear c31
                try clear c31b0
                try clear c31b1
                try clear c31b2
                try clear p31
                try clear q31
                try clear hx31
                try clear c32
                try clear c32b0
                try clear p32
                try clear q32
                try clear hx32
                try clear c33
                try clear p33
                try clear q33
                try clear hx33
                try clear p34
                try clear q34
                try clear hx34
                try clear c41
                try clear c41b0
                try clear c41b1
                try clear c41b2
                try clear c43
                try clear c43b0
                try clear c44
                try clear c44b0
                try clear c45
                try clear c45b0
                try clear c45b1
                try clear c45b2
                try clear c46
                try clear c46b0
                try clear c47
                try clear c55
                try clear c55b0
                try clear c55b1
                try clear c57
                try clear c57b0
                try clear c58
                try clear c58b0
                try clear c59
                try clear c59b0
                try clear c59b1
                try clear c59b2
                try clear c60
                try clear c60b0
                try clear c61
                try clear p64
                try clear c69
                try clear c69b0
                try clear c69b1
                try clear c69b2
                try clear c71
                try clear c71b0
                try clear c72
                try clear c72b0
                try clear c73
                try clear c73b0
                try clear c73b1
                try clear c73b2
                try clear c74
                try clear c74b0
                try clear c75
                try clear c84
                try clear c85
                try clear c85b0
                try clear c85b1
                try clear c85b2
                try clear hx296_0
                try clear hx309_0
                try clear hx313_0
                try clear hx313_1
                try clear hx313_2
                try clear hx320_0
                try clear hx324_0
                try clear hx324_1
                try clear hx324_2
                try clear hx331_0
                try clear hx335_0
                try clear hx335_1
                try clear hx335_2
                try clear hx342_0
                try clear hx346_0
                try clear hx346_1
                try clear hx346_2
                try clear p2
                try clear p296
                try clear p309
                try clear p313
                try clear p320
                try clear p324
                try clear p331
                try clear p335
                try clear p342
                try clear p346
                try clear q296
                try clear q309
                try clear q313
                try clear q320
                try clear q324
                try clear q331
                try clear q335
                try clear q342
                try clear q346
                obtain ⟨kq, x4_82, rfl, HA, HJ82, HO_3, HB⟩ := hcut
                cases kq with
                | zero => exact absurd HA.out (by simp [templelaw5_ShowRuns.j2])
                | succ kj82 =>
                  have H := HA.out
                  clear HA
                  simp only [templelaw5_ShowRuns.j2] at H
                  by_cases c86 : x4_82.toList = ([] : List UInt8)
                  · rw [if_pos c86] at H
                    have c86b0 : (x4_82.toList == ([] : List UInt8)) = true := beq_iff_eq.mpr c86
                    have c86e_ : (x4_82).toList.isEmpty = true := by rw [c86]; rfl
                    have c86b1 : (x4_82.toList != ([] : List UInt8)) = false := bne_eq_false_iff_eq.mpr c86
                    clear c86
                    obtain ⟨y350, hy350⟩ : ∃ y_ : List ByteArray, y_ = (([(⟨#[113]⟩ : ByteArray)] : List ByteArray)) := ⟨_, rfl⟩
                    replace H : ((show_Show.f 0 y350 (([(⟨0, (([(⟨true, x3_1⟩ : S41)] : List (S41)))⟩ : S44)] : List (S44)))).bind fun bt359 => ((templelaw0_Num.f bt359.2).bind fun t361 => (if t361 = 0 then (if 14 + 2 ≤ 9223372036854775807 then (if 15 + 2 ≤ 9223372036854775807 then (some (bt359.1.toList == (((⟨#[115, 116, 97, 114, 116, 32, 113, 59, 10, 113, 32, 61, 32, 126]⟩ : ByteArray) ++ (⟨#[34, 34]⟩ : ByteArray)) ++ (⟨#[59, 10]⟩ : ByteArray)).toList)) else (none)) else (none)) else (none)))) = some r := by first | (rw [hy350]; with_reducible exact H) | (have H2_ := (Option.bind_some _ _).symm.trans H; rw [hy350]; with_reducible exact H2_) | (have H2_ := (Option.bind_some _ _).symm.trans H; with_reducible exact H2_) | with_reducible exact H | (rw [hy350]; exact H) | exact H
                    have Ny350 := Aside0.mk hy350
                    clear hy350
                    obtain ⟨y353, hy353⟩ : ∃ y_ : List (S41), y_ = (([(⟨true, x3_1⟩ : S41)] : List (S41))) := ⟨_, rfl⟩
                    replace H : ((show_Show.f 0 y350 (([(⟨0, y353⟩ : S44)] : List (S44)))).bind fun bt359 => ((templelaw0_Num.f bt359.2).bind fun t361 => (if t361 = 0 then (if 14 + 2 ≤ 9223372036854775807 then (if 15 + 2 ≤ 9223372036854775807 then (some (bt359.1.toList == (((⟨#[115, 116, 97, 114, 116, 32, 113, 59, 10, 113, 32, 61, 32, 126]⟩ : ByteArray) ++ (⟨#[34, 34]⟩ : ByteArray)) ++ (⟨#[59, 10]⟩ : ByteArray)).toList)) else (none)) else (none)) else (none)))) = some r := by first | (rw [hy353]; with_reducible exact H) | (have H2_ := (Option.bind_some _ _).symm.trans H; rw [hy353]; with_reducible exact H2_) | (have H2_ := (Option.bind_some _ _).symm.trans H; with_reducible exact H2_) | with_reducible exact H | (rw [hy353]; exact H) | exact H
                    have Ny353 := Aside0.mk hy353
                    clear hy353
                    obtain ⟨y356, hy356⟩ : ∃ y_ : List (S44), y_ = (([(⟨0, y353⟩ : S44)] : List (S44))) := ⟨_, rfl⟩
                    replace H : ((show_Show.f 0 y350 y356).bind fun bt359 => ((templelaw0_Num.f bt359.2).bind fun t361 => (if t361 = 0 then (if 14 + 2 ≤ 9223372036854775807 then (if 15 + 2 ≤ 9223372036854775807 then (some (bt359.1.toList == (((⟨#[115, 116, 97, 114, 116, 32, 113, 59, 10, 113, 32, 61, 32, 126]⟩ : ByteArray) ++ (⟨#[34, 34]⟩ : ByteArray)) ++ (⟨#[59, 10]⟩ : ByteArray)).toList)) else (none)) else (none)) else (none)))) = some r := by first | (rw [hy356]; with_reducible exact H) | (have H2_ := (Option.bind_some _ _).symm.trans H; rw [hy356]; with_reducible exact H2_) | (have H2_ := (Option.bind_some _ _).symm.trans H; with_reducible exact H2_) | with_reducible exact H | (rw [hy356]; exact H) | exact H
                    have Ny356 := Aside0.mk hy356
                    clear hy356
                    replace H := Option.bind_eq_some_iff.mp H
                    obtain ⟨⟨t359, t360⟩, A870, H⟩ := H
                    replace H : ((templelaw0_Num.f t360).bind fun t361 => (if t361 = 0 then (if 14 + 2 ≤ 9223372036854775807 then (if 15 + 2 ≤ 9223372036854775807 then (some (t359.toList == (((⟨#[115, 116, 97, 114, 116, 32, 113, 59, 10, 113, 32, 61, 32, 126]⟩ : ByteArray) ++ (⟨#[34, 34]⟩ : ByteArray)) ++ (⟨#[59, 10]⟩ : ByteArray)).toList)) else (none)) else (none)) else (none))) = some r := H
                    have A87 := Aside0.mk A870
                    clear A870
                    replace H := Option.bind_eq_some_iff.mp H
                    obtain ⟨t361, A880, H⟩ := H
                    replace H : (if t361 = 0 then (if 14 + 2 ≤ 9223372036854775807 then (if 15 + 2 ≤ 9223372036854775807 then (some (t359.toList == (((⟨#[115, 116, 97, 114, 116, 32, 113, 59, 10, 113, 32, 61, 32, 126]⟩ : ByteArray) ++ (⟨#[34, 34]⟩ : ByteArray)) ++ (⟨#[59, 10]⟩ : ByteArray)).toList)) else (none)) else (none)) else (none)) = some r := H
                    have A88 := Aside0.mk A880
                    clear A880
                    by_cases c89 : t361 = 0
                    · rw [if_pos c89] at H
                      have c89b0 : (t361 == 0) = true := beq_iff_eq.mpr c89
                      have c89b1 : (t361 != 0) = false := bne_eq_false_iff_eq.mpr c89
                      clear c89
                      by_cases c90 : 14 + 2 ≤ 9223372036854775807
                      · rw [if_pos c90] at H
                        have c90b0 := eq_true c90
                        have c90b1 : decide (14 + 2 ≤ 9223372036854775807) = true := decide_eq_true c90
                        try have c90b2 : (9223372036854775807 < 14 + 2) = False := eq_false (Nat.not_lt.2 c90)
                        try have c90b3 : (9223372036854775807 < 16) = False := eq_false (by have q_ := c90; (try simp only [ByteArray.size_append, ByteArray.size_extract] at q_); omega)
                        by_cases c91 : 15 + 2 ≤ 9223372036854775807
                        · rw [if_pos c91] at H
                          have c91b0 := eq_true c91
                          have c91b1 : decide (15 + 2 ≤ 9223372036854775807) = true := decide_eq_true c91
                          try have c91b2 : (9223372036854775807 < 15 + 2) = False := eq_false (Nat.not_lt.2 c91)
                          try have c91b3 : (9223372036854775807 < 17) = False := eq_false (by have q_ := c91; (try simp only [ByteArray.size_append, ByteArray.size_extract] at q_); omega)
                          obtain rfl := Option.some.inj H
                          go_wp2_with (first | ((with_reducible refine gate_dst (N := 75) rfl ?_); refine Kd.R_lit Kd.string _ 9 ?hg (N := 75) ?hd (xs := ([(⟨#[113]⟩ : ByteArray)] : List ByteArray)) (inner := [.string (⟨#[113]⟩ : ByteArray)]) (ok := fun _ => True) (okp := fun _ => True) ?hr ?hp (fun _ hk => hk) trivial (Below.refl _ _) (Nat.le_refl _) (by simp) ?_; (case hd => rfl); (case hg => rfl); (case hr => first | (go_simp; done) | (go_simp; rfl)); (case hp => exact (Reps.one (show Kd.M Kd.string _ _ _ (⟨#[113]⟩ : ByteArray) [.string (⟨#[113]⟩ : ByteArray)] from rfl) (Reps.none _ _))); intro v351 w92 ho93 hb hg_ hnew_; clear hg_ hnew_; (first | rw [← Ny350.out] at ho93 | (simp only [Int.reduceToNat] at ho93; rw [← Ny350.out] at ho93)); have n0_ := Aside0.mk (Kd.R_below (by (with_reducible repeat (first | apply Kd.R_alloc | apply Kd.R_drewN | apply Kd.R_drew)); exact HO_3.out) hb); have n1_ := Aside0.mk (Kd.R_lower ho93 (below_size (by repeat (first | (with_reducible first | exact HB.out | apply below_alloc | apply pw_below_drewN | apply below_drew1) | exact HB.out)))); have n2_ := Aside0.mk (below_step (by repeat (first | (with_reducible first | exact HB.out | apply below_alloc | apply pw_below_drewN | apply below_drew1) | exact HB.out)) hb); clear HO_3; clear HB; have HO_3 := n0_; have HO352 := n1_; have HB := n2_; clear n0_ n1_ n2_; clear hb ho93; obtain ⟨Ao94, co94, eo94⟩ := Kd.R_slice HO_3.out; subst eo94) | ((with_reducible refine gate_dst (N := 78) rfl ?_); refine Kd.N_lit k41 _ 41 ?hg (N' := 78) ?hd (xs := ([(⟨true, x3_1⟩ : S41)] : List (S41))) (inner := [.bool true, .slice Ao94 x3_1.length co94]) (ok := (fun k_ => some k_ ≠ (v351 : Value).ownBlock)) (okp := (fun k_ => some k_ ≠ (v351 : Value).ownBlock)) ?hr ?hp (fun _ hk => hk) ((show ∀ k_, w92.heap.size ≤ k_ → (fun k_ => some k_ ≠ (v351 : Value).ownBlock) k_ from fun k_ hk => Kd.fresh' (Kd.R_lt (by (with_reducible repeat (first | apply Kd.R_alloc | apply Kd.R_drewN | apply Kd.R_drew)); exact HO352.out)) k_ hk) _ (Nat.le_refl _)) (Below.refl _ _) (Nat.le_refl _) (by simp) ?_; (case hd => rfl); (case hg => rfl); (case hr => first | (go_simp; done) | (go_simp; rfl)); (case hp => exact (Reps.c2 (show Kd.FK k41 _ _ (⟨true, x3_1⟩ : S41) [.bool true, .slice Ao94 x3_1.length co94] from (k41_mkF _ _ (⟨true, x3_1⟩ : S41) (Kd.R_reads' (Kd.R_mono (ok' := (fun k_ => some k_ ≠ (v351 : Value).ownBlock)) (Kd.R_apart' (HO_3.out) (Kd.R_typed HO352.out) (by decide)) (fun k_ hk => hk.2))).2.1 (Kd.R_F (Kd.R_mono (ok' := (fun k_ => some k_ ≠ (v351 : Value).ownBlock)) (Kd.R_apart' (HO_3.out) (Kd.R_typed HO352.out) (by decide)) (fun k_ hk => hk.2))))) (Reps.none _ _))); intro v354 w95 ho96 hb hg_ hnew_; clear hg_ hnew_; (first | rw [← Ny353.out] at ho96 | (simp only [Int.reduceToNat] at ho96; rw [← Ny353.out] at ho96)); have n0_ := Aside0.mk (Kd.R_below (by (with_reducible repeat (first | apply Kd.R_alloc | apply Kd.R_drewN | apply Kd.R_drew)); exact HO352.out) hb); have n1_ := Aside0.mk (Kd.N_lower ho96 (below_size (by repeat (first | (with_reducible first | exact HB.out | apply below_alloc | apply pw_below_drewN | apply below_drew1) | exact HB.out)))); have n2_ := Aside0.mk (below_step (by repeat (first | (with_reducible first | exact HB.out | apply below_alloc | apply pw_below_drewN | apply below_drew1) | exact HB.out)) hb); clear HO352; clear HB; clear HO_3; have HO352 := n0_; have HO355 := n1_; have HB := n2_; clear n0_ n1_ n2_; clear hb ho96; obtain ⟨Ao97, co97, eo97⟩ := Kd.N_slice HO355.out; subst eo97) | ((with_reducible refine gate_dst (N := 80) rfl ?_); refine Kd.N_lit k44 _ 44 ?hg (N' := 80) ?hd (xs := ([(⟨0, y353⟩ : S44)] : List (S44))) (inner := [.int .i64 0, .slice Ao97 y353.length co97]) (ok := (fun k_ => some k_ ≠ (v351 : Value).ownBlock)) (okp := (fun k_ => some k_ ≠ (v351 : Value).ownBlock)) ?hr ?hp (fun _ hk => hk) ((show ∀ k_, w95.heap.size ≤ k_ → (fun k_ => some k_ ≠ (v351 : Value).ownBlock) k_ from fun k_ hk => Kd.fresh' (Kd.R_lt (by (with_reducible repeat (first | apply Kd.R_alloc | apply Kd.R_drewN | apply Kd.R_drew)); exact HO352.out)) k_ hk) _ (Nat.le_refl _)) (Below.refl _ _) (Nat.le_refl _) (by simp) ?_; (case hd => rfl); (case hg => rfl); (case hr => first | (go_simp; done) | (go_simp; rfl)); (case hp => exact (Reps.c2 (show Kd.FK k44 _ _ (⟨0, y353⟩ : S44) [.int .i64 0, .slice Ao97 y353.length co97] from (k44_mkF _ _ (⟨0, y353⟩ : S44) (Kd.N_reads' (Kd.N_mono (ok' := (fun k_ => some k_ ≠ (v351 : Value).ownBlock)) (HO355.out) (fun k_ hk => hk))).2.1 (Kd.N_F (Kd.N_mono (ok' := (fun k_ => some k_ ≠ (v351 : Value).ownBlock)) (HO355.out) (fun k_ hk => hk))))) (Reps.none _ _))); intro v357 w98 ho99 hb hg_ hnew_; clear hg_ hnew_; (first | rw [← Ny356.out] at ho99 | (simp only [Int.reduceToNat] at ho99; rw [← Ny356.out] at ho99)); have n0_ := Aside0.mk (Kd.R_below (by (with_reducible repeat (first | apply Kd.R_alloc | apply Kd.R_drewN | apply Kd.R_drew)); exact HO352.out) hb); have n1_ := Aside0.mk (Kd.N_lower ho99 (below_size (by repeat (first | (with_reducible first | exact HB.out | apply below_alloc | apply pw_below_drewN | apply below_drew1) | exact HB.out)))); have n2_ := Aside0.mk (below_step (by repeat (first | (with_reducible first | exact HB.out | apply below_alloc | apply pw_below_drewN | apply below_drew1) | exact HB.out)) hb); clear HO352; clear HB; clear HO355; have HO352 := n0_; have HO358 := n1_; have HB := n2_; clear n0_ n1_ n2_; clear hb ho99; obtain ⟨Ao100, co100, eo100⟩ := Kd.N_slice HO358.out; subst eo100; obtain ⟨Ao101, co101, eo101⟩ := Kd.R_slice HO352.out; subst eo101) | ((with_reducible refine gate_callee (f := 10) rfl ?_); refine goesL_ (some 82) rfl rfl Try.func10 (by kernel_rfl) rfl #[.agg #[.int .i64 0, .slice Ao101 y350.length co101, .slice Ao100 y356.length co100]] rfl (by (try simp only [List.map_toArray, List.map_cons, List.map_nil]); first | done | rfl | (simp only [List.length_drop, List.length_take]; rfl)) ?_; (with_reducible refine (show_Show.calls 0 _ _ y350 _ _ y356 t359 t360 _ ?side1 ?side2 ?side3 ?side4 A87.out).mono ?_); (case side1 => repeat (first | exact (Kd.R_reads' HO352.out).2.2 | (with_reducible refine Kd.C_alloc ?_ _) | (with_reducible refine Kd.C_drewN ?_ _) | (with_reducible refine Kd.C_drew ?_))); (case side2 => exact (Kd.R_reads' HO352.out).2.1); (case side3 => repeat (first | exact (Kd.N_reads' HO358.out).2.2 | (with_reducible refine Kd.C_alloc ?_ _) | (with_reducible refine Kd.C_drewN ?_ _) | (with_reducible refine Kd.C_drew ?_))); (case side4 => exact (Kd.N_reads' HO358.out).2.1); rintro e w102 ⟨rfl, hb⟩; refine ⟨_, rfl, ?_⟩; have n0_ := Aside0.mk (Kd.R_below (by (with_reducible repeat (first | apply Kd.R_alloc | apply Kd.R_drewN | apply Kd.R_drew)); exact HO352.out) hb); have n1_ := Aside0.mk (Kd.N_below (by (with_reducible repeat (first | apply Kd.N_alloc | apply Kd.N_drewN | apply Kd.N_drew)); exact HO358.out) hb); have n2_ := Aside0.mk (below_step (by repeat (first | (with_reducible first | exact HB.out | apply below_alloc | apply pw_below_drewN | apply below_drew1) | exact HB.out)) hb); clear HO352; clear HO358; clear HB; have HO352 := n0_; have HO358 := n1_; have HB := n2_; clear n0_ n1_ n2_; (try clear hb); (try clear hb2); (try clear hk); (try clear hi)) | ((with_reducible refine gate_callee (f := 12) rfl ?_); refine goesL_ (some 86) rfl rfl Try.func12 (by kernel_rfl) rfl #[.int .i64 t360] rfl (by (try simp only [List.map_toArray, List.map_cons, List.map_nil]); first | done | rfl | (simp only [List.length_drop, List.length_take]; rfl)) ?_; (with_reducible refine (templelaw0_Num.calls t360 t361 _ A88.out).mono ?_); rintro e w' ⟨rfl, ⟨nd, rfl⟩⟩; refine ⟨_, rfl, ?_⟩))
                          go_ret
                          exact ⟨by first | rfl | (simp [errW_none, errW_some] <;> rfl) | (simp [*, errW_none, errW_some] <;> rfl), by repeat (first | (with_reducible first | exact HB.out | apply below_alloc | apply pw_below_drewN | apply below_drew1) | exact HB.out)⟩
                        · rw [if_neg c91] at H
                          exact absurd H (by simp)
                      · rw [if_neg c90] at H
                        exact absurd H (by simp)
                    · rw [if_neg c89] at H
                      exact absurd H (by simp)
                  · rw [if_neg c86] at H
                    have c86b0 : (x4_82.toList == ([] : List UInt8)) = false := beq_eq_false_iff_ne.mpr c86
                    have c86e_ : (x4_82).toList.isEmpty = false := by simpa using c86
                    have c86b1 : (x4_82.toList != ([] : List UInt8)) = true := bne_iff_ne.mpr c86
                    obtain ⟨y362, hy362⟩ : ∃ y_ : List ByteArray, y_ = (([(⟨#[113]⟩ : ByteArray)] : List ByteArray)) := ⟨_, rfl⟩
                    replace H : ((show_Show.f 0 y362 (([(⟨0, (([(⟨true, x3_1⟩ : S41)] : List (S41)))⟩ : S44)] : List (S44)))).bind fun bt371 => ((templelaw0_Num.f bt371.2).bind fun t373 => (if t373 = 0 then (if 14 + x4_82.size ≤ 9223372036854775807 then (if ((⟨#[115, 116, 97, 114, 116, 32, 113, 59, 10, 113, 32, 61, 32, 126]⟩ : ByteArray) ++ x4_82).size + 2 ≤ 9223372036854775807 then (some (bt371.1.toList == (((⟨#[115, 116, 97, 114, 116, 32, 113, 59, 10, 113, 32, 61, 32, 126]⟩ : ByteArray) ++ x4_82) ++ (⟨#[59, 10]⟩ : ByteArray)).toList)) else (none)) else (none)) else (none)))) = some r := by first | (rw [hy362]; with_reducible exact H) | (have H2_ := (Option.bind_some _ _).symm.trans H; rw [hy362]; with_reducible exact H2_) | (have H2_ := (Option.bind_some _ _).symm.trans H; with_reducible exact H2_) | with_reducible exact H | (rw [hy362]; exact H) | exact H
                    have Ny362 := Aside0.mk hy362
                    clear hy362
                    obtain ⟨y365, hy365⟩ : ∃ y_ : List (S41), y_ = (([(⟨true, x3_1⟩ : S41)] : List (S41))) := ⟨_, rfl⟩
                    replace H : ((show_Show.f 0 y362 (([(⟨0, y365⟩ : S44)] : List (S44)))).bind fun bt371 => ((templelaw0_Num.f bt371.2).bind fun t373 => (if t373 = 0 then (if 14 + x4_82.size ≤ 9223372036854775807 then (if ((⟨#[115, 116, 97, 114, 116, 32, 113, 59, 10, 113, 32, 61, 32, 126]⟩ : ByteArray) ++ x4_82).size + 2 ≤ 9223372036854775807 then (some (bt371.1.toList == (((⟨#[115, 116, 97, 114, 116, 32, 113, 59, 10, 113, 32, 61, 32, 126]⟩ : ByteArray) ++ x4_82) ++ (⟨#[59, 10]⟩ : ByteArray)).toList)) else (none)) else (none)) else (none)))) = some r := by first | (rw [hy365]; with_reducible exact H) | (have H2_ := (Option.bind_some _ _).symm.trans H; rw [hy365]; with_reducible exact H2_) | (have H2_ := (Option.bind_some _ _).symm.trans H; with_reducible exact H2_) | with_reducible exact H | (rw [hy365]; exact H) | exact H
                    have Ny365 := Aside0.mk hy365
                    clear hy365
                    obtain ⟨y368, hy368⟩ : ∃ y_ : List (S44), y_ = (([(⟨0, y365⟩ : S44)] : List (S44))) := ⟨_, rfl⟩
                    replace H : ((show_Show.f 0 y362 y368).bind fun bt371 => ((templelaw0_Num.f bt371.2).bind fun t373 => (if t373 = 0 then (if 14 + x4_82.size ≤ 9223372036854775807 then (if ((⟨#[115, 116, 97, 114, 116, 32, 113, 59, 10, 113, 32, 61, 32, 126]⟩ : ByteArray) ++ x4_82).size + 2 ≤ 9223372036854775807 then (some (bt371.1.toList == (((⟨#[115, 116, 97, 114, 116, 32, 113, 59, 10, 113, 32, 61, 32, 126]⟩ : ByteArray) ++ x4_82) ++ (⟨#[59, 10]⟩ : ByteArray)).toList)) else (none)) else (none)) else (none)))) = some r := by first | (rw [hy368]; with_reducible exact H) | (have H2_ := (Option.bind_some _ _).symm.trans H; rw [hy368]; with_reducible exact H2_) | (have H2_ := (Option.bind_some _ _).symm.trans H; with_reducible exact H2_) | with_reducible exact H | (rw [hy368]; exact H) | exact H
                    have Ny368 := Aside0.mk hy368
                    clear hy368
                    replace H := Option.bind_eq_some_iff.mp H
                    obtain ⟨⟨t371, t372⟩, A1030, H⟩ := H
                    replace H : ((templelaw0_Num.f t372).bind fun t373 => (if t373 = 0 then (if 14 + x4_82.size ≤ 9223372036854775807 then (if ((⟨#[115, 116, 97, 114, 116, 32, 113, 59, 10, 113, 32, 61, 32, 126]⟩ : ByteArray) ++ x4_82).size + 2 ≤ 9223372036854775807 then (some (t371.toList == (((⟨#[115, 116, 97, 114, 116, 32, 113, 59, 10, 113, 32, 61, 32, 126]⟩ : ByteArray) ++ x4_82) ++ (⟨#[59, 10]⟩ : ByteArray)).toList)) else (none)) else (none)) else (none))) = some r := H
                    have A103 := Aside0.mk A1030
                    clear A1030
                    replace H := Option.bind_eq_some_iff.mp H
                    obtain ⟨t373, A1040, H⟩ := H
                    replace H : (if t373 = 0 then (if 14 + x4_82.size ≤ 9223372036854775807 then (if ((⟨#[115, 116, 97, 114, 116, 32, 113, 59, 10, 113, 32, 61, 32, 126]⟩ : ByteArray) ++ x4_82).size + 2 ≤ 9223372036854775807 then (some (t371.toList == (((⟨#[115, 116, 97, 114, 116, 32, 113, 59, 10, 113, 32, 61, 32, 126]⟩ : ByteArray) ++ x4_82) ++ (⟨#[59, 10]⟩ : ByteArray)).toList)) else (none)) else (none)) else (none)) = some r := H
                    have A104 := Aside0.mk A1040
                    clear A1040
                    by_cases c105 : t373 = 0
                    · rw [if_pos c105] at H
                      have c105b0 : (t373 == 0) = true := beq_iff_eq.mpr c105
                      have c105b1 : (t373 != 0) = false := bne_eq_false_iff_eq.mpr c105
                      clear c105
                      by_cases c106 : 14 + x4_82.size ≤ 9223372036854775807
                      · rw [if_pos c106] at H
                        have c106b0 := eq_true c106
                        have c106b1 : decide (14 + x4_82.size ≤ 9223372036854775807) = true := decide_eq_true c106
                        try have c106b2 : (9223372036854775807 < 14 + x4_82.size) = False := eq_false (Nat.not_lt.2 c106)
                        by_cases c107 : ((⟨#[115, 116, 97, 114, 116, 32, 113, 59, 10, 113, 32, 61, 32, 126]⟩ : ByteArray) ++ x4_82).size + 2 ≤ 9223372036854775807
                        · rw [if_pos c107] at H
                          have c107b0 := eq_true c107
                          have c107b1 : decide (((⟨#[115, 116, 97, 114, 116, 32, 113, 59, 10, 113, 32, 61, 32, 126]⟩ : ByteArray) ++ x4_82).size + 2 ≤ 9223372036854775807) = true := decide_eq_true c107
                          try have c107b2 : (9223372036854775807 < ((⟨#[115, 116, 97, 114, 116, 32, 113, 59, 10, 113, 32, 61, 32, 126]⟩ : ByteArray) ++ x4_82).size + 2) = False := eq_false (Nat.not_lt.2 c107)
                          try have c107b3 : (9223372036854775807 < 14 + x4_82.size + 2) = False := eq_false (by have q_ := c107; have z0_ : (⟨#[115, 116, 97, 114, 116, 32, 113, 59, 10, 113, 32, 61, 32, 126]⟩ : ByteArray).size = 14 := rfl; (try simp only [ByteArray.size_append, ByteArray.size_extract] at q_); omega)
                          obtain rfl := Option.some.inj H
                          go_wp2_with (first | ((with_reducible refine gate_dst (N := 75) rfl ?_); refine Kd.R_lit Kd.string _ 9 ?hg (N := 75) ?hd (xs := ([(⟨#[113]⟩ : ByteArray)] : List ByteArray)) (inner := [.string (⟨#[113]⟩ : ByteArray)]) (ok := fun _ => True) (okp := fun _ => True) ?hr ?hp (fun _ hk => hk) trivial (Below.refl _ _) (Nat.le_refl _) (by simp) ?_; (case hd => rfl); (case hg => rfl); (case hr => first | (go_simp; done) | (go_simp; rfl)); (case hp => exact (Reps.one (show Kd.M Kd.string _ _ _ (⟨#[113]⟩ : ByteArray) [.string (⟨#[113]⟩ : ByteArray)] from rfl) (Reps.none _ _))); intro v363 w108 ho109 hb hg_ hnew_; clear hg_ hnew_; (first | rw [← Ny362.out] at ho109 | (simp only [Int.reduceToNat] at ho109; rw [← Ny362.out] at ho109)); have n0_ := Aside0.mk (Kd.R_below (by (with_reducible repeat (first | apply Kd.R_alloc | apply Kd.R_drewN | apply Kd.R_drew)); exact HO_3.out) hb); have n1_ := Aside0.mk (Kd.R_lower ho109 (below_size (by repeat (first | (with_reducible first | exact HB.out | apply below_alloc | apply pw_below_drewN | apply below_drew1) | exact HB.out)))); have n2_ := Aside0.mk (below_step (by repeat (first | (with_reducible first | exact HB.out | apply below_alloc | apply pw_below_drewN | apply below_drew1) | exact HB.out)) hb); clear HO_3; clear HB; have HO_3 := n0_; have HO364 := n1_; have HB := n2_; clear n0_ n1_ n2_; clear hb ho109; obtain ⟨Ao110, co110, eo110⟩ := Kd.R_slice HO_3.out; subst eo110) | ((with_reducible refine gate_dst (N := 78) rfl ?_); refine Kd.N_lit k41 _ 41 ?hg (N' := 78) ?hd (xs := ([(⟨true, x3_1⟩ : S41)] : List (S41))) (inner := [.bool true, .slice Ao110 x3_1.length co110]) (ok := (fun k_ => some k_ ≠ (v363 : Value).ownBlock)) (okp := (fun k_ => some k_ ≠ (v363 : Value).ownBlock)) ?hr ?hp (fun _ hk => hk) ((show ∀ k_, w108.heap.size ≤ k_ → (fun k_ => some k_ ≠ (v363 : Value).ownBlock) k_ from fun k_ hk => Kd.fresh' (Kd.R_lt (by (with_reducible repeat (first | apply Kd.R_alloc | apply Kd.R_drewN | apply Kd.R_drew)); exact HO364.out)) k_ hk) _ (Nat.le_refl _)) (Below.refl _ _) (Nat.le_refl _) (by simp) ?_; (case hd => rfl); (case hg => rfl); (case hr => first | (go_simp; done) | (go_simp; rfl)); (case hp => exact (Reps.c2 (show Kd.FK k41 _ _ (⟨true, x3_1⟩ : S41) [.bool true, .slice Ao110 x3_1.length co110] from (k41_mkF _ _ (⟨true, x3_1⟩ : S41) (Kd.R_reads' (Kd.R_mono (ok' := (fun k_ => some k_ ≠ (v363 : Value).ownBlock)) (Kd.R_apart' (HO_3.out) (Kd.R_typed HO364.out) (by decide)) (fun k_ hk => hk.2))).2.1 (Kd.R_F (Kd.R_mono (ok' := (fun k_ => some k_ ≠ (v363 : Value).ownBlock)) (Kd.R_apart' (HO_3.out) (Kd.R_typed HO364.out) (by decide)) (fun k_ hk => hk.2))))) (Reps.none _ _))); intro v366 w111 ho112 hb hg_ hnew_; clear hg_ hnew_; (first | rw [← Ny365.out] at ho112 | (simp only [Int.reduceToNat] at ho112; rw [← Ny365.out] at ho112)); have n0_ := Aside0.mk (Kd.R_below (by (with_reducible repeat (first | apply Kd.R_alloc | apply Kd.R_drewN | apply Kd.R_drew)); exact HO364.out) hb); have n1_ := Aside0.mk (Kd.N_lower ho112 (below_size (by repeat (first | (with_reducible first | exact HB.out | apply below_alloc | apply pw_below_drewN | apply below_drew1) | exact HB.out)))); have n2_ := Aside0.mk (below_step (by repeat (first | (with_reducible first | exact HB.out | apply below_alloc | apply pw_below_drewN | apply below_drew1) | exact HB.out)) hb); clear HO364; clear HB; clear HO_3; have HO364 := n0_; have HO367 := n1_; have HB := n2_; clear n0_ n1_ n2_; clear hb ho112; obtain ⟨Ao113, co113, eo113⟩ := Kd.N_slice HO367.out; subst eo113) | ((with_reducible refine gate_dst (N := 80) rfl ?_); refine Kd.N_lit k44 _ 44 ?hg (N' := 80) ?hd (xs := ([(⟨0, y365⟩ : S44)] : List (S44))) (inner := [.int .i64 0, .slice Ao113 y365.length co113]) (ok := (fun k_ => some k_ ≠ (v363 : Value).ownBlock)) (okp := (fun k_ => some k_ ≠ (v363 : Value).ownBlock)) ?hr ?hp (fun _ hk => hk) ((show ∀ k_, w111.heap.size ≤ k_ → (fun k_ => some k_ ≠ (v363 : Value).ownBlock) k_ from fun k_ hk => Kd.fresh' (Kd.R_lt (by (with_reducible repeat (first | apply Kd.R_alloc | apply Kd.R_drewN | apply Kd.R_drew)); exact HO364.out)) k_ hk) _ (Nat.le_refl _)) (Below.refl _ _) (Nat.le_refl _) (by simp) ?_; (case hd => rfl); (case hg => rfl); (case hr => first | (go_simp; done) | (go_simp; rfl)); (case hp => exact (Reps.c2 (show Kd.FK k44 _ _ (⟨0, y365⟩ : S44) [.int .i64 0, .slice Ao113 y365.length co113] from (k44_mkF _ _ (⟨0, y365⟩ : S44) (Kd.N_reads' (Kd.N_mono (ok' := (fun k_ => some k_ ≠ (v363 : Value).ownBlock)) (HO367.out) (fun k_ hk => hk))).2.1 (Kd.N_F (Kd.N_mono (ok' := (fun k_ => some k_ ≠ (v363 : Value).ownBlock)) (HO367.out) (fun k_ hk => hk))))) (Reps.none _ _))); intro v369 w114 ho115 hb hg_ hnew_; clear hg_ hnew_; (first | rw [← Ny368.out] at ho115 | (simp only [Int.reduceToNat] at ho115; rw [← Ny368.out] at ho115)); have n0_ := Aside0.mk (Kd.R_below (by (with_reducible repeat (first | apply Kd.R_alloc | apply Kd.R_drewN | apply Kd.R_drew)); exact HO364.out) hb); have n1_ := Aside0.mk (Kd.N_lower ho115 (below_size (by repeat (first | (with_reducible first | exact HB.out | apply below_alloc | apply pw_below_drewN | apply below_drew1) | exact HB.out)))); have n2_ := Aside0.mk (below_step (by repeat (first | (with_reducible first | exact HB.out | apply below_alloc | apply pw_below_drewN | apply below_drew1) | exact HB.out)) hb); clear HO364; clear HB; clear HO367; have HO364 := n0_; have HO370 := n1_; have HB := n2_; clear n0_ n1_ n2_; clear hb ho115; obtain ⟨Ao116, co116, eo116⟩ := Kd.N_slice HO370.out; subst eo116; obtain ⟨Ao117, co117, eo117⟩ := Kd.R_slice HO364.out; subst eo117) | ((with_reducible refine gate_callee (f := 10) rfl ?_); refine goesL_ (some 82) rfl rfl Try.func10 (by kernel_rfl) rfl #[.agg #[.int .i64 0, .slice Ao117 y362.length co117, .slice Ao116 y368.length co116]] rfl (by (try simp only [List.map_toArray, List.map_cons, List.map_nil]); first | done | rfl | (simp only [List.length_drop, List.length_take]; rfl)) ?_; (with_reducible refine (show_Show.calls 0 _ _ y362 _ _ y368 t371 t372 _ ?side1 ?side2 ?side3 ?side4 A103.out).mono ?_); (case side1 => repeat (first | exact (Kd.R_reads' HO364.out).2.2 | (with_reducible refine Kd.C_alloc ?_ _) | (with_reducible refine Kd.C_drewN ?_ _) | (with_reducible refine Kd.C_drew ?_))); (case side2 => exact (Kd.R_reads' HO364.out).2.1); (case side3 => repeat (first | exact (Kd.N_reads' HO370.out).2.2 | (with_reducible refine Kd.C_alloc ?_ _) | (with_reducible refine Kd.C_drewN ?_ _) | (with_reducible refine Kd.C_drew ?_))); (case side4 => exact (Kd.N_reads' HO370.out).2.1); rintro e w118 ⟨rfl, hb⟩; refine ⟨_, rfl, ?_⟩; have n0_ := Aside0.mk (Kd.R_below (by (with_reducible repeat (first | apply Kd.R_alloc | apply Kd.R_drewN | apply Kd.R_drew)); exact HO364.out) hb); have n1_ := Aside0.mk (Kd.N_below (by (with_reducible repeat (first | apply Kd.N_alloc | apply Kd.N_drewN | apply Kd.N_drew)); exact HO370.out) hb); have n2_ := Aside0.mk (below_step (by repeat (first | (with_reducible first | exact HB.out | apply below_alloc | apply pw_below_drewN | apply below_drew1) | exact HB.out)) hb); clear HO364; clear HO370; clear HB; have HO364 := n0_; have HO370 := n1_; have HB := n2_; clear n0_ n1_ n2_; (try clear hb); (try clear hb2); (try clear hk); (try clear hi)) | ((with_reducible refine gate_callee (f := 12) rfl ?_); refine goesL_ (some 86) rfl rfl Try.func12 (by kernel_rfl) rfl #[.int .i64 t372] rfl (by (try simp only [List.map_toArray, List.map_cons, List.map_nil]); first | done | rfl | (simp only [List.length_drop, List.length_take]; rfl)) ?_; (with_reducible refine (templelaw0_Num.calls t372 t373 _ A104.out).mono ?_); rintro e w' ⟨rfl, ⟨nd, rfl⟩⟩; refine ⟨_, rfl, ?_⟩))
                          go_ret
                          exact ⟨by first | rfl | (simp [errW_none, errW_some] <;> rfl) | (simp [*, errW_none, errW_some] <;> rfl), by repeat (first | (with_reducible first | exact HB.out | apply below_alloc | apply pw_below_drewN | apply below_drew1) | exact HB.out)⟩
                        · rw [if_neg c107] at H
                          exact absurd H (by simp)
                      · rw [if_neg c106] at H
                        exact absurd H (by simp)
                    · rw [if_neg c105] at H
                      exact absurd H (by simp)
  · replace c3 := Bool.eq_false_iff.mpr c3
    subst c3
    have H1 : (none) = some r := by rw [if_neg (show ¬ (false = true) by decide)] at H; exact H
    clear H
    have H := H1
    clear H1
    exact absurd H (by simp)

/-- THE ONE PURE STATEMENT of templelaw5_ShowRuns: yours. -/
def templelaw5_ShowRuns.Pure : Prop := ∀ (l0 : List Int), l0.length ≤ maxLen → l0.length * 8 ≤ 140737488351232 → (∀ x ∈ l0, (Lit.int .i64 x).wf = true) → ∃ k, templelaw5_ShowRuns.f k l0 = some true
theorem templelaw5_ShowRuns.walk (P : templelaw5_ShowRuns.Pure) (a0 : Option Addr) (len0 cap0 : Nat) (z0 : List Int) (w : World) (w0 : (a0 = none ∧ len0 = 0 ∧ cap0 = 0 ∧ z0 = []) ∨ ∃ x, a0 = some x ∧ len0 ≤ cap0 ∧ cap0 ≤ maxLen ∧ z0.length = cap0 ∧ (∀ i, i < z0.length → w.cell? (x.add i) = some (.int .i64 (z0.getD i 0))) ∧ ∀ n ∈ z0, (Lit.int .i64 n).wf = true) (y0 : len0 * 8 ≤ 140737488351232) :
    Calls Try.prog 5 #[.slice a0 len0 cap0] w fun e w' => e = .returned (.bool true) ∧ Below w.heap.size w w' := by
  obtain ⟨l0, rfl, hr0, hm0, hw0, hc0⟩ := ReadsInt.ofRowC w0
  obtain ⟨k, h⟩ := P l0 hm0 y0 hw0
  refine (templelaw5_ShowRuns.calls k _ _ l0 true w (Kd.C_of_reads (d := (0 : Int)) (h1 := fun _ => rfl) hr0) hc0 h).mono ?_
  rintro e w' ⟨rfl, hd⟩
  exact ⟨rfl, hd⟩

end Go.Proofs.Ytimmkmfcpfjgfaa.PS5
