-- written by a program of the session's (wip/myprint.py) out of the translation
import Derived.Test.YtimmkmfcpfjgfaaPSRx0
import Derived.Test.YtimmkmfcpfjgfaaPSRx3
import Derived.Test.YtimmkmfcpfjgfaaPSRx4
namespace Go.Proofs.Ytimmkmfcpfjgfaa.PSR
open Go.RowKit Go.Proofs.YtimmkmfcpfjgfaaW.PrintWords Go.Proofs.YtimmkmfcpfjgfaaW.PrintLast Go.Proofs.YtimmkmfcpfjgfaaW.PrintMore
attribute [local go_sem] max2_int min2_int max_two min_two max_three min_three max_four min_four   -- for this text's walks alone
set_option linter.unusedVariables false
set_option linter.unusedSimpArgs false

/-! ### templelaw5_ShowRows: function 7 -/
mutual
def templelaw5_ShowRows.l0 : Nat → List Int → Int → Int → ByteArray → Int → Int → List ByteArray → List (S44) → Option (Bool)
  | 0, _, _, _, _, _, _, _, _ => none
  | k + 1, x0, x1, x7, x9, x10, x154000, x154001, x154002 => if x10 < x7 then ((templeref0_Decimal.f k x10).bind fun t158 => (if 1 + t158.size ≤ 9223372036854775807 then (if x154001.length < 8796093022208 then ((some (x154001 ++ [(⟨#[110]⟩ : ByteArray) ++ t158] : List ByteArray)).bind fun y159 => (if x9.size + 1 ≤ 9223372036854775807 then ((templeref0_Decimal.f k x10).bind fun t162 => (if (x9 ++ (⟨#[110]⟩ : ByteArray)).size + t162.size ≤ 9223372036854775807 then (if ((x9 ++ (⟨#[110]⟩ : ByteArray)) ++ t162).size + 3 ≤ 9223372036854775807 then (if x10 < (x0.length : Int) then (if 0 ≤ x10 then (templelaw5_ShowRows.j1 k x0 x1 x7 (((x9 ++ (⟨#[110]⟩ : ByteArray)) ++ t162) ++ (⟨#[32, 61, 32]⟩ : ByteArray)) x10 (wrap64 (1 + (Go.bits .and .i64 (rd x0 x10) 3))) x154000 y159 x154002) else (none)) else (templelaw5_ShowRows.j1 k x0 x1 x7 (((x9 ++ (⟨#[110]⟩ : ByteArray)) ++ t162) ++ (⟨#[32, 61, 32]⟩ : ByteArray)) x10 1 x154000 y159 x154002)) else (none)) else (none))) else (none))) else (none)) else (none))) else ((show_Show.f x154000 x154001 x154002).bind fun bt155 => ((templelaw0_Num.f bt155.2).bind fun t157 => (if t157 = 0 then (some (bt155.1.toList == x9.toList)) else (none))))
def templelaw5_ShowRows.j1 : Nat → List Int → Int → Int → ByteArray → Int → Int → Int → List ByteArray → List (S44) → Option (Bool)
  | 0, _, _, _, _, _, _, _, _, _ => none
  | k + 1, x0, x1, x7, x9, x10, x11, x154000, x154001, x154002 => templelaw5_ShowRows.l1 k x0 x1 x7 x9 x10 x11 0 x154000 x154001 x154002
def templelaw5_ShowRows.l1 : Nat → List Int → Int → Int → ByteArray → Int → Int → Int → Int → List ByteArray → List (S44) → Option (Bool)
  | 0, _, _, _, _, _, _, _, _, _, _ => none
  | k + 1, x0, x1, x7, x9, x10, x11, x12, x154000, x154001, x154002 => if x12 < x11 then (if x12 > 0 then (if x9.size + 3 ≤ 9223372036854775807 then (templelaw5_ShowRows.j3 k x0 x1 x7 (x9 ++ (⟨#[32, 124, 32]⟩ : ByteArray)) x10 x11 x12 x154000 x154001 x154002) else (none)) else (templelaw5_ShowRows.j3 k x0 x1 x7 x9 x10 x11 x12 x154000 x154001 x154002)) else (if x9.size + 2 ≤ 9223372036854775807 then (templelaw5_ShowRows.l0 k x0 x1 x7 (x9 ++ (⟨#[59, 10]⟩ : ByteArray)) (wrap64 (x10 + 1)) x154000 x154001 x154002) else (none))
def templelaw5_ShowRows.j3 : Nat → List Int → Int → Int → ByteArray → Int → Int → Int → Int → List ByteArray → List (S44) → Option (Bool)
  | 0, _, _, _, _, _, _, _, _, _, _ => none
  | k + 1, x0, x1, x7, x9, x10, x11, x12, x154000, x154001, x154002 => templelaw5_ShowRows.l2 k x0 x1 x7 x9 x10 x11 x12 0 x154000 x154001 x154002 x10 ([] : List (S41))
def templelaw5_ShowRows.l2 : Nat → List Int → Int → Int → ByteArray → Int → Int → Int → Int → Int → List ByteArray → List (S44) → Int → List (S41) → Option (Bool)
  | 0, _, _, _, _, _, _, _, _, _, _, _, _, _ => none
  | k + 1, x0, x1, x7, x9, x10, x11, x12, x14, x154000, x154001, x154002, x165000, x165001 => if 0 ≤ x10 then (if x14 ≤ (Go.bits .and .i64 (shr .i64 x1 x10) 3) then (if x14 > 0 then (if x9.size + 3 ≤ 9223372036854775807 then (if (Go.bits .and .i64 (wrap64 (x14 + x12)) 1) = 1 then (if (x9 ++ (⟨#[32, 38, 32]⟩ : ByteArray)).size + 1 ≤ 9223372036854775807 then (if ((x9 ++ (⟨#[32, 38, 32]⟩ : ByteArray)) ++ (⟨#[126]⟩ : ByteArray)).size + 1 ≤ 9223372036854775807 then ((templeref0_Decimal.f k x10).bind fun t168 => (if (((x9 ++ (⟨#[32, 38, 32]⟩ : ByteArray)) ++ (⟨#[126]⟩ : ByteArray)) ++ (⟨#[110]⟩ : ByteArray)).size + t168.size ≤ 9223372036854775807 then (if ((((x9 ++ (⟨#[32, 38, 32]⟩ : ByteArray)) ++ (⟨#[126]⟩ : ByteArray)) ++ (⟨#[110]⟩ : ByteArray)) ++ t168).size + 5 ≤ 9223372036854775807 then (if x165001.length < 4398046511104 then (templelaw5_ShowRows.l2 k x0 x1 x7 (((((x9 ++ (⟨#[32, 38, 32]⟩ : ByteArray)) ++ (⟨#[126]⟩ : ByteArray)) ++ (⟨#[110]⟩ : ByteArray)) ++ t168) ++ (⟨#[32, 34, 120, 121, 34]⟩ : ByteArray)) x10 x11 x12 (wrap64 (x14 + 1)) x154000 x154001 x154002 x165000 (x165001 ++ [(⟨((Go.bits .and .i64 (wrap64 (x14 + x12)) 1) == 1), (([(⟨x10, 0, 0⟩ : S38), (⟨(-1), 120, 120⟩ : S38), (⟨(-1), 121, 121⟩ : S38)] : List (S38)))⟩ : S41)])) else (none)) else (none)) else (none))) else (none)) else (none)) else (if (x9 ++ (⟨#[32, 38, 32]⟩ : ByteArray)).size + 1 ≤ 9223372036854775807 then ((templeref0_Decimal.f k x10).bind fun t175 => (if ((x9 ++ (⟨#[32, 38, 32]⟩ : ByteArray)) ++ (⟨#[110]⟩ : ByteArray)).size + t175.size ≤ 9223372036854775807 then (if (((x9 ++ (⟨#[32, 38, 32]⟩ : ByteArray)) ++ (⟨#[110]⟩ : ByteArray)) ++ t175).size + 5 ≤ 9223372036854775807 then (if x165001.length < 4398046511104 then (templelaw5_ShowRows.l2 k x0 x1 x7 ((((x9 ++ (⟨#[32, 38, 32]⟩ : ByteArray)) ++ (⟨#[110]⟩ : ByteArray)) ++ t175) ++ (⟨#[32, 34, 120, 121, 34]⟩ : ByteArray)) x10 x11 x12 (wrap64 (x14 + 1)) x154000 x154001 x154002 x165000 (x165001 ++ [(⟨((Go.bits .and .i64 (wrap64 (x14 + x12)) 1) == 1), (([(⟨x10, 0, 0⟩ : S38), (⟨(-1), 120, 120⟩ : S38), (⟨(-1), 121, 121⟩ : S38)] : List (S38)))⟩ : S41)])) else (none)) else (none)) else (none))) else (none))) else (none)) else (if (Go.bits .and .i64 (wrap64 (x14 + x12)) 1) = 1 then (if x9.size + 1 ≤ 9223372036854775807 then (if (x9 ++ (⟨#[126]⟩ : ByteArray)).size + 1 ≤ 9223372036854775807 then ((templeref0_Decimal.f k x10).bind fun t182 => (if ((x9 ++ (⟨#[126]⟩ : ByteArray)) ++ (⟨#[110]⟩ : ByteArray)).size + t182.size ≤ 9223372036854775807 then (if (((x9 ++ (⟨#[126]⟩ : ByteArray)) ++ (⟨#[110]⟩ : ByteArray)) ++ t182).size + 5 ≤ 9223372036854775807 then (if x165001.length < 4398046511104 then (templelaw5_ShowRows.l2 k x0 x1 x7 ((((x9 ++ (⟨#[126]⟩ : ByteArray)) ++ (⟨#[110]⟩ : ByteArray)) ++ t182) ++ (⟨#[32, 34, 120, 121, 34]⟩ : ByteArray)) x10 x11 x12 (wrap64 (x14 + 1)) x154000 x154001 x154002 x165000 (x165001 ++ [(⟨((Go.bits .and .i64 (wrap64 (x14 + x12)) 1) == 1), (([(⟨x10, 0, 0⟩ : S38), (⟨(-1), 120, 120⟩ : S38), (⟨(-1), 121, 121⟩ : S38)] : List (S38)))⟩ : S41)])) else (none)) else (none)) else (none))) else (none)) else (none)) else (if x9.size + 1 ≤ 9223372036854775807 then ((templeref0_Decimal.f k x10).bind fun t189 => (if (x9 ++ (⟨#[110]⟩ : ByteArray)).size + t189.size ≤ 9223372036854775807 then (if ((x9 ++ (⟨#[110]⟩ : ByteArray)) ++ t189).size + 5 ≤ 9223372036854775807 then (if x165001.length < 4398046511104 then (templelaw5_ShowRows.l2 k x0 x1 x7 (((x9 ++ (⟨#[110]⟩ : ByteArray)) ++ t189) ++ (⟨#[32, 34, 120, 121, 34]⟩ : ByteArray)) x10 x11 x12 (wrap64 (x14 + 1)) x154000 x154001 x154002 x165000 (x165001 ++ [(⟨((Go.bits .and .i64 (wrap64 (x14 + x12)) 1) == 1), (([(⟨x10, 0, 0⟩ : S38), (⟨(-1), 120, 120⟩ : S38), (⟨(-1), 121, 121⟩ : S38)] : List (S38)))⟩ : S41)])) else (none)) else (none)) else (none))) else (none)))) else (if x154002.length < 4398046511104 then (templelaw5_ShowRows.l1 k x0 x1 x7 x9 x10 x11 (wrap64 (x12 + 1)) x154000 x154001 (x154002 ++ [(⟨x165000, x165001⟩ : S44)])) else (none))) else (none)
end
def templelaw5_ShowRows.f (k : Nat) (l0 : List Int) (a1 : Int) (a2 : Int) : Option (Bool) := (templelaw5_awake.f).bind fun t152 => (if t152 = true then (if (IntKind.u64.wrap (wrap64 (1 + (Go.bits .and .i64 (l0.length : Int) 3)))) = 0 then (none) else ((templeref0_Decimal.f k (wrap64 (Int.tmod (IntKind.u64.wrap (a2)) (IntKind.u64.wrap (wrap64 (1 + (Go.bits .and .i64 (l0.length : Int) 3))))))).bind fun t154 => (if 7 + t154.size ≤ 9223372036854775807 then (if ((⟨#[115, 116, 97, 114, 116, 32, 110]⟩ : ByteArray) ++ t154).size + 2 ≤ 9223372036854775807 then (templelaw5_ShowRows.l0 k l0 a1 (wrap64 (1 + (Go.bits .and .i64 (l0.length : Int) 3))) (((⟨#[115, 116, 97, 114, 116, 32, 110]⟩ : ByteArray) ++ t154) ++ (⟨#[59, 10]⟩ : ByteArray)) 0 (wrap64 (Int.tmod (IntKind.u64.wrap (a2)) (IntKind.u64.wrap (wrap64 (1 + (Go.bits .and .i64 (l0.length : Int) 3)))))) ([] : List ByteArray) ([] : List (S44))) else (none)) else (none)))) else (none))
theorem templelaw5_ShowRows.mono_l : ∀ k, (∀ y0 y1 y2 y3 y4 y5 y6 y7, LeO (templelaw5_ShowRows.l0 k y0 y1 y2 y3 y4 y5 y6 y7) (templelaw5_ShowRows.l0 (k + 1) y0 y1 y2 y3 y4 y5 y6 y7)) ∧ (∀ y0 y1 y2 y3 y4 y5 y6 y7 y8, LeO (templelaw5_ShowRows.j1 k y0 y1 y2 y3 y4 y5 y6 y7 y8) (templelaw5_ShowRows.j1 (k + 1) y0 y1 y2 y3 y4 y5 y6 y7 y8)) ∧ (∀ y0 y1 y2 y3 y4 y5 y6 y7 y8 y9, LeO (templelaw5_ShowRows.l1 k y0 y1 y2 y3 y4 y5 y6 y7 y8 y9) (templelaw5_ShowRows.l1 (k + 1) y0 y1 y2 y3 y4 y5 y6 y7 y8 y9)) ∧ (∀ y0 y1 y2 y3 y4 y5 y6 y7 y8 y9, LeO (templelaw5_ShowRows.j3 k y0 y1 y2 y3 y4 y5 y6 y7 y8 y9) (templelaw5_ShowRows.j3 (k + 1) y0 y1 y2 y3 y4 y5 y6 y7 y8 y9)) ∧ (∀ y0 y1 y2 y3 y4 y5 y6 y7 y8 y9 y10 y11 y12, LeO (templelaw5_ShowRows.l2 k y0 y1 y2 y3 y4 y5 y6 y7 y8 y9 y10 y11 y12) (templelaw5_ShowRows.l2 (k + 1) y0 y1 y2 y3 y4 y5 y6 y7 y8 y9 y10 y11 y12))
  | 0 => ⟨fun _ _ _ _ _ _ _ _ r h => by simp [templelaw5_ShowRows.l0] at h, fun _ _ _ _ _ _ _ _ _ r h => by simp [templelaw5_ShowRows.j1] at h, fun _ _ _ _ _ _ _ _ _ _ r h => by simp [templelaw5_ShowRows.l1] at h, fun _ _ _ _ _ _ _ _ _ _ r h => by simp [templelaw5_ShowRows.j3] at h, fun _ _ _ _ _ _ _ _ _ _ _ _ _ r h => by simp [templelaw5_ShowRows.l2] at h⟩
  | k + 1 => by
    obtain ⟨ih0, ih1, ih2, ih3, ih4⟩ := templelaw5_ShowRows.mono_l k
    refine ⟨?_, ?_, ?_, ?_, ?_⟩
    · intro y0 y1 y2 y3 y4 y5 y6 y7
      unfold templelaw5_ShowRows.l0
      repeat' first
      | (with_reducible exact ih0 _ _ _ _ _ _ _ _)
      | (with_reducible exact ih1 _ _ _ _ _ _ _ _ _)
      | (with_reducible exact ih2 _ _ _ _ _ _ _ _ _ _)
      | (with_reducible exact ih3 _ _ _ _ _ _ _ _ _ _)
      | (with_reducible exact ih4 _ _ _ _ _ _ _ _ _ _ _ _ _)
      | (with_reducible exact templeref0_Decimal.mono _ _)
      | (with_reducible exact LeO.refl _)
      | (with_reducible exact LeO.none _)
      | (with_reducible refine LeO.ite ?_ ?_)
      | (with_reducible refine LeO.bind ?_ (fun _ => ?_))
      | exact ih0 _ _ _ _ _ _ _ _
      | exact ih1 _ _ _ _ _ _ _ _ _
      | exact ih2 _ _ _ _ _ _ _ _ _ _
      | exact ih3 _ _ _ _ _ _ _ _ _ _
      | exact ih4 _ _ _ _ _ _ _ _ _ _ _ _ _
      | exact templeref0_Decimal.mono _ _
      | exact LeO.none _
      | refine LeO.ite ?_ ?_
      | refine LeO.bind ?_ (fun _ => ?_)
    · intro y0 y1 y2 y3 y4 y5 y6 y7 y8
      unfold templelaw5_ShowRows.j1
      repeat' first
      | (with_reducible exact ih0 _ _ _ _ _ _ _ _)
      | (with_reducible exact ih1 _ _ _ _ _ _ _ _ _)
      | (with_reducible exact ih2 _ _ _ _ _ _ _ _ _ _)
      | (with_reducible exact ih3 _ _ _ _ _ _ _ _ _ _)
      | (with_reducible exact ih4 _ _ _ _ _ _ _ _ _ _ _ _ _)
      | (with_reducible exact templeref0_Decimal.mono _ _)
      | (with_reducible exact LeO.refl _)
      | (with_reducible exact LeO.none _)
      | (with_reducible refine LeO.ite ?_ ?_)
      | (with_reducible refine LeO.bind ?_ (fun _ => ?_))
      | exact ih0 _ _ _ _ _ _ _ _
      | exact ih1 _ _ _ _ _ _ _ _ _
      | exact ih2 _ _ _ _ _ _ _ _ _ _
      | exact ih3 _ _ _ _ _ _ _ _ _ _
      | exact ih4 _ _ _ _ _ _ _ _ _ _ _ _ _
      | exact templeref0_Decimal.mono _ _
      | exact LeO.none _
      | refine LeO.ite ?_ ?_
      | refine LeO.bind ?_ (fun _ => ?_)
    · intro y0 y1 y2 y3 y4 y5 y6 y7 y8 y9
      unfold templelaw5_ShowRows.l1
      repeat' first
      | (with_reducible exact ih0 _ _ _ _ _ _ _ _)
      | (with_reducible exact ih1 _ _ _ _ _ _ _ _ _)
      | (with_reducible exact ih2 _ _ _ _ _ _ _ _ _ _)
      | (with_reducible exact ih3 _ _ _ _ _ _ _ _ _ _)
      | (with_reducible exact ih4 _ _ _ _ _ _ _ _ _ _ _ _ _)
      | (with_reducible exact templeref0_Decimal.mono _ _)
      | (with_reducible exact LeO.refl _)
      | (with_reducible exact LeO.none _)
      | (with_reducible refine LeO.ite ?_ ?_)
      | (with_reducible refine LeO.bind ?_ (fun _ => ?_))
      | exact ih0 _ _ _ _ _ _ _ _
      | exact ih1 _ _ _ _ _ _ _ _ _
      | exact ih2 _ _ _ _ _ _ _ _ _ _
      | exact ih3 _ _ _ _ _ _ _ _ _ _
      | exact ih4 _ _ _ _ _ _ _ _ _ _ _ _ _
      | exact templeref0_Decimal.mono _ _
      | exact LeO.none _
      | refine LeO.ite ?_ ?_
      | refine LeO.bind ?_ (fun _ => ?_)
    · intro y0 y1 y2 y3 y4 y5 y6 y7 y8 y9
      unfold templelaw5_ShowRows.j3
      repeat' first
      | (with_reducible exact ih0 _ _ _ _ _ _ _ _)
      | (with_reducible exact ih1 _ _ _ _ _ _ _ _ _)
      | (with_reducible exact ih2 _ _ _ _ _ _ _ _ _ _)
      | (with_reducible exact ih3 _ _ _ _ _ _ _ _ _ _)
      | (with_reducible exact ih4 _ _ _ _ _ _ _ _ _ _ _ _ _)
      | (with_reducible exact templeref0_Decimal.mono _ _)
      | (with_reducible exact LeO.refl _)
      | (with_reducible exact LeO.none _)
      | (with_reducible refine LeO.ite ?_ ?_)
      | (with_reducible refine LeO.bind ?_ (fun _ => ?_))
      | exact ih0 _ _ _ _ _ _ _ _
      | exact ih1 _ _ _ _ _ _ _ _ _
      | exact ih2 _ _ _ _ _ _ _ _ _ _
      | exact ih3 _ _ _ _ _ _ _ _ _ _
      | exact ih4 _ _ _ _ _ _ _ _ _ _ _ _ _
      | exact templeref0_Decimal.mono _ _
      | exact LeO.none _
      | refine LeO.ite ?_ ?_
      | refine LeO.bind ?_ (fun _ => ?_)
    · intro y0 y1 y2 y3 y4 y5 y6 y7 y8 y9 y10 y11 y12
      unfold templelaw5_ShowRows.l2
      repeat' first
      | (with_reducible exact ih0 _ _ _ _ _ _ _ _)
      | (with_reducible exact ih1 _ _ _ _ _ _ _ _ _)
      | (with_reducible exact ih2 _ _ _ _ _ _ _ _ _ _)
      | (with_reducible exact ih3 _ _ _ _ _ _ _ _ _ _)
      | (with_reducible exact ih4 _ _ _ _ _ _ _ _ _ _ _ _ _)
      | (with_reducible exact templeref0_Decimal.mono _ _)
      | (with_reducible exact LeO.refl _)
      | (with_reducible exact LeO.none _)
      | (with_reducible refine LeO.ite ?_ ?_)
      | (with_reducible refine LeO.bind ?_ (fun _ => ?_))
      | exact ih0 _ _ _ _ _ _ _ _
      | exact ih1 _ _ _ _ _ _ _ _ _
      | exact ih2 _ _ _ _ _ _ _ _ _ _
      | exact ih3 _ _ _ _ _ _ _ _ _ _
      | exact ih4 _ _ _ _ _ _ _ _ _ _ _ _ _
      | exact templeref0_Decimal.mono _ _
      | exact LeO.none _
      | refine LeO.ite ?_ ?_
      | refine LeO.bind ?_ (fun _ => ?_)
theorem templelaw5_ShowRows.mono : ∀ a0 a1 a2 k, LeO (templelaw5_ShowRows.f k a0 a1 a2) (templelaw5_ShowRows.f (k + 1) a0 a1 a2) := by
  intro a0 a1 a2 k
  obtain ⟨ih0, ih1, ih2, ih3, ih4⟩ := templelaw5_ShowRows.mono_l k
  unfold templelaw5_ShowRows.f
  repeat' first
      | (with_reducible exact ih0 _ _ _ _ _ _ _ _)
      | (with_reducible exact ih1 _ _ _ _ _ _ _ _ _)
      | (with_reducible exact ih2 _ _ _ _ _ _ _ _ _ _)
      | (with_reducible exact ih3 _ _ _ _ _ _ _ _ _ _)
      | (with_reducible exact ih4 _ _ _ _ _ _ _ _ _ _ _ _ _)
      | (with_reducible exact templeref0_Decimal.mono _ _)
      | (with_reducible exact LeO.refl _)
      | (with_reducible exact LeO.none _)
      | (with_reducible refine LeO.ite ?_ ?_)
      | (with_reducible refine LeO.bind ?_ (fun _ => ?_))
      | exact ih0 _ _ _ _ _ _ _ _
      | exact ih1 _ _ _ _ _ _ _ _ _
      | exact ih2 _ _ _ _ _ _ _ _ _ _
      | exact ih3 _ _ _ _ _ _ _ _ _ _
      | exact ih4 _ _ _ _ _ _ _ _ _ _ _ _ _
      | exact templeref0_Decimal.mono _ _
      | exact LeO.none _
      | refine LeO.ite ?_ ?_
      | refine LeO.bind ?_ (fun _ => ?_)
def templelaw5_ShowRows.T9 : Bool × List (List Nat × List Nat) := (true, [([], []), ([0], [0]), ([], []), ([2], [2]), ([3], [3]), ([4], [4]), ([1, 5, 3], [1, 5]), ([0, 1, 2, 3, 4, 5, 6], []), ([7, 6, 6, 0, 1, 2, 3, 4, 5, 6], [6, 7])])
def templelaw5_ShowRows.B9 : List Nat := [0, 1, 0, 4, 12, 28, 63, 127, 255]
theorem templelaw5_ShowRows.tab9 : rtab .any (opsOf Try.f7 9) = templelaw5_ShowRows.T9 := by kernel_rfl
theorem templelaw5_ShowRows.bits9 : waitsOk templelaw5_ShowRows.T9.2 templelaw5_ShowRows.B9 = true := by kernel_rfl
set_option maxHeartbeats 8000000 in
set_option maxRecDepth 100000 in
theorem templelaw5_ShowRows.calls (k : Nat) (A0 : Option Addr) (c0 : Nat) (l0 : List Int) (a1 : Int) (a2 : Int) (r : Bool) (w : World) (hr0 : Kd.C (Kd.int .i64) w A0 l0.length l0) (hc0 : l0.length ≤ c0) (h : templelaw5_ShowRows.f k l0 a1 a2 = some r) :
    Calls Try.prog 7 #[.slice A0 l0.length c0, .int .i64 a1, .int .i64 a2] w fun e w' => e = .returned (.bool r) ∧ Below w.heap.size w w' := by
  have hu25 := Try.underlying25
  have hu44 := Try.underlying44
  have hu38 := Try.underlying38
  have hu41 := Try.underlying41
  have HR0 := Aside0.mk hr0
  have HC0 := Aside0.mk hc0
  clear hr0 hc0
  have HB := Aside0.mk (Below.refl w.heap.size w)
  have H : ((templelaw5_awake.f).bind fun t152 => (if t152 = true then (if (IntKind.u64.wrap (wrap64 (1 + (Go.bits .and .i64 (l0.length : Int) 3)))) = 0 then (none) else ((templeref0_Decimal.f k (wrap64 (Int.tmod (IntKind.u64.wrap (a2)) (IntKind.u64.wrap (wrap64 (1 + (Go.bits .and .i64 (l0.length : Int) 3))))))).bind fun t154 => (if 7 + t154.size ≤ 9223372036854775807 then (if ((⟨#[115, 116, 97, 114, 116, 32, 110]⟩ : ByteArray) ++ t154).size + 2 ≤ 9223372036854775807 then (templelaw5_ShowRows.l0 k l0 a1 (wrap64 (1 + (Go.bits .and .i64 (l0.length : Int) 3))) (((⟨#[115, 116, 97, 114, 116, 32, 110]⟩ : ByteArray) ++ t154) ++ (⟨#[59, 10]⟩ : ByteArray)) 0 (wrap64 (Int.tmod (IntKind.u64.wrap (a2)) (IntKind.u64.wrap (wrap64 (1 + (Go.bits .and .i64 (l0.length : Int) 3)))))) ([] : List ByteArray) ([] : List (S44))) else (none)) else (none)))) else (none))) = some r := h
  clear h
  replace H := Option.bind_eq_some_iff.mp H
  obtain ⟨t152, A40, H⟩ := H
  replace H : (if t152 = true then (if (IntKind.u64.wrap (wrap64 (1 + (Go.bits .and .i64 (l0.length : Int) 3)))) = 0 then (none) else ((templeref0_Decimal.f k (wrap64 (Int.tmod (IntKind.u64.wrap (a2)) (IntKind.u64.wrap (wrap64 (1 + (Go.bits .and .i64 (l0.length : Int) 3))))))).bind fun t154 => (if 7 + t154.size ≤ 9223372036854775807 then (if ((⟨#[115, 116, 97, 114, 116, 32, 110]⟩ : ByteArray) ++ t154).size + 2 ≤ 9223372036854775807 then (templelaw5_ShowRows.l0 k l0 a1 (wrap64 (1 + (Go.bits .and .i64 (l0.length : Int) 3))) (((⟨#[115, 116, 97, 114, 116, 32, 110]⟩ : ByteArray) ++ t154) ++ (⟨#[59, 10]⟩ : ByteArray)) 0 (wrap64 (Int.tmod (IntKind.u64.wrap (a2)) (IntKind.u64.wrap (wrap64 (1 + (Go.bits .and .i64 (l0.length : Int) 3)))))) ([] : List ByteArray) ([] : List (S44))) else (none)) else (none)))) else (none)) = some r := H
  have A4 := Aside0.mk A40
  clear A40
  by_cases c5 : t152 = true
  · subst c5
    have H1 : (if (IntKind.u64.wrap (wrap64 (1 + (Go.bits .and .i64 (l0.length : Int) 3)))) = 0 then (none) else ((templeref0_Decimal.f k (wrap64 (Int.tmod (IntKind.u64.wrap (a2)) (IntKind.u64.wrap (wrap64 (1 + (Go.bits .and .i64 (l0.length : Int) 3))))))).bind fun t154 => (if 7 + t154.size ≤ 9223372036854775807 then (if ((⟨#[115, 116, 97, 114, 116, 32, 110]⟩ : ByteArray) ++ t154).size + 2 ≤ 9223372036854775807 then (templelaw5_ShowRows.l0 k l0 a1 (wrap64 (1 + (Go.bits .and .i64 (l0.length : Int) 3))) (((⟨#[115, 116, 97, 114, 116, 32, 110]⟩ : ByteArray) ++ t154) ++ (⟨#[59, 10]⟩ : ByteArray)) 0 (wrap64 (Int.tmod (IntKind.u64.wrap (a2)) (IntKind.u64.wrap (wrap64 (1 + (Go.bits .and .i64 (l0.length : Int) 3)))))) ([] : List ByteArray) ([] : List (S44))) else (none)) else (none)))) = some r := by rw [if_pos rfl] at H; exact H
    clear H
    have H := H1
    clear H1
    by_cases c6 : (IntKind.u64.wrap (wrap64 (1 + (Go.bits .and .i64 (l0.length : Int) 3)))) = 0
    · rw [if_pos c6] at H
      exact absurd H (by simp)
    · rw [if_neg c6] at H
      have c6b0 : ((IntKind.u64.wrap (wrap64 (1 + (Go.bits .and .i64 (l0.length : Int) 3)))) == 0) = false := beq_eq_false_iff_ne.mpr c6
      have c6b1 : ((IntKind.u64.wrap (wrap64 (1 + (Go.bits .and .i64 (l0.length : Int) 3)))) != 0) = true := bne_iff_ne.mpr c6
      replace H := Option.bind_eq_some_iff.mp H
      obtain ⟨t154, A70, H⟩ := H
      replace H : (if 7 + t154.size ≤ 9223372036854775807 then (if ((⟨#[115, 116, 97, 114, 116, 32, 110]⟩ : ByteArray) ++ t154).size + 2 ≤ 9223372036854775807 then (templelaw5_ShowRows.l0 k l0 a1 (wrap64 (1 + (Go.bits .and .i64 (l0.length : Int) 3))) (((⟨#[115, 116, 97, 114, 116, 32, 110]⟩ : ByteArray) ++ t154) ++ (⟨#[59, 10]⟩ : ByteArray)) 0 (wrap64 (Int.tmod (IntKind.u64.wrap (a2)) (IntKind.u64.wrap (wrap64 (1 + (Go.bits .and .i64 (l0.length : Int) 3)))))) ([] : List ByteArray) ([] : List (S44))) else (none)) else (none)) = some r := H
      have A7 := Aside0.mk A70
      clear A70
      by_cases c8 : 7 + t154.size ≤ 9223372036854775807
      · rw [if_pos c8] at H
        have c8b0 := eq_true c8
        have c8b1 : decide (7 + t154.size ≤ 9223372036854775807) = true := decide_eq_true c8
        try have c8b2 : (9223372036854775807 < 7 + t154.size) = False := eq_false (Nat.not_lt.2 c8)
        by_cases c9 : ((⟨#[115, 116, 97, 114, 116, 32, 110]⟩ : ByteArray) ++ t154).size + 2 ≤ 9223372036854775807
        · rw [if_pos c9] at H
          have c9b0 := eq_true c9
          have c9b1 : decide (((⟨#[115, 116, 97, 114, 116, 32, 110]⟩ : ByteArray) ++ t154).size + 2 ≤ 9223372036854775807) = true := decide_eq_true c9
          try have c9b2 : (9223372036854775807 < ((⟨#[115, 116, 97, 114, 116, 32, 110]⟩ : ByteArray) ++ t154).size + 2) = False := eq_false (Nat.not_lt.2 c9)
          try have c9b3 : (9223372036854775807 < 7 + t154.size + 2) = False := eq_false (by have q_ := c9; have z0_ : (⟨#[115, 116, 97, 114, 116, 32, 110]⟩ : ByteArray).size = 7 := rfl; (try simp only [ByteArray.size_append, ByteArray.size_extract] at q_); omega)
          have H' := Aside0.mk H
          clear H
          go_enter Try.func7, Try.ntmps7
          go_wp2_with (first | ((with_reducible refine gate_callee (f := 14) rfl ?_); refine goesL_ (some 18) rfl rfl Try.func14 (by kernel_rfl) rfl #[] rfl (by (try simp only [List.map_toArray, List.map_cons, List.map_nil]); first | done | rfl | (simp only [List.length_drop, List.length_take]; rfl)) ?_; (with_reducible refine (templelaw5_awake.calls  true _ A4.out).mono ?_); rintro e w10 ⟨rfl, hb⟩; refine ⟨_, rfl, ?_⟩; have n0_ := Aside0.mk (below_step (by repeat (first | (with_reducible first | exact HB.out | apply below_alloc | apply pw_below_drewN | apply below_drew1) | exact HB.out)) hb); clear HB; have HB := n0_; clear n0_; (try clear hb); (try clear hb2); (try clear hk); (try clear hi)) | ((with_reducible refine gate_dst (N := 8) rfl ?_); refine box_event ?hg (N := 8) ?hd (cs := #[.int .i64 0, .slice none 0 0, .slice none 0 0]) (t := 25) ?hr ?_; (case hd => rfl); (case hg => rfl); (case hr => first | (go_simp; done) | (go_simp; rfl)); intro gb153 hg w11 hbox hb; have n0_ := Aside0.mk (below_step (by repeat (first | (with_reducible first | exact HB.out | apply below_alloc | apply pw_below_drewN | apply below_drew1) | exact HB.out)) hb); have n1_ := Aside0.mk (hbox); have n2_ := Aside0.mk ((by rw [hg]; exact (below_size (by repeat (first | (with_reducible first | exact HB.out | apply below_alloc | apply pw_below_drewN | apply below_drew1) | exact HB.out))) : w.heap.size ≤ gb153)); have n3_ := Aside0.mk ((by rw [hg]; exact (below_size (by repeat (first | (with_reducible first | exact HB.out | apply below_alloc | apply pw_below_drewN | apply below_drew1) | exact HB.out))) : w.heap.size ≤ gb153)); clear HB; have HB := n0_; have BK153 := n1_; have GW153 := n2_; have GE153 := n3_; clear n0_ n1_ n2_ n3_; clear hb hbox hg; have hcz12_0 : w11.cell? ⟨gb153, 0, none⟩ = some (.int .i64 0) := (blk_cell BK153.out 0).trans rfl; have hcz12_1 : w11.cell? ⟨gb153, 1, none⟩ = some (.slice none 0 0) := (blk_cell BK153.out 1).trans rfl; have hcz12_2 : w11.cell? ⟨gb153, 2, none⟩ = some (.slice none 0 0) := (blk_cell BK153.out 2).trans rfl; have hfz12_0 := blk_frozen BK153.out 0; have hfz12_1 := blk_frozen BK153.out 1; have hfz12_2 := blk_frozen BK153.out 2) | ((with_reducible refine gate_callee (f := 15) rfl ?_); refine goesL_ (some 33) rfl rfl Try.func15 (by kernel_rfl) rfl #[.int .i64 (wrap64 (Int.tmod (IntKind.u64.wrap (a2)) (IntKind.u64.wrap (wrap64 (1 + (Go.bits .and .i64 (l0.length : Int) 3))))))] rfl (by (try simp only [List.map_toArray, List.map_cons, List.map_nil]); first | done | rfl | (simp only [List.length_drop, List.length_take]; rfl)) ?_; (with_reducible refine (templeref0_Decimal.calls k (wrap64 (Int.tmod (IntKind.u64.wrap (a2)) (IntKind.u64.wrap (wrap64 (1 + (Go.bits .and .i64 (l0.length : Int) 3)))))) t154 _ A7.out).mono ?_); rintro e w13 ⟨rfl, hb⟩; refine ⟨_, rfl, ?_⟩; have n0_ := Aside0.mk (blk_below (g := gb153) (o := .cells #[.int .i64 (wrap64 (Int.tmod (IntKind.u64.wrap (a2)) (IntKind.u64.wrap (wrap64 (1 + (Go.bits .and .i64 (l0.length : Int) 3)))))), .slice none 0 0, .slice none 0 0] 25 (0, 0)) (by (with_reducible repeat (first | refine blk_drewN ?_ _ | refine blk_drew ?_ | refine blk_alloc ?_ _)); refine blk_put (cs := #[.int .i64 (wrap64 (Int.tmod (IntKind.u64.wrap (a2)) (IntKind.u64.wrap (wrap64 (1 + (Go.bits .and .i64 (l0.length : Int) 3)))))), .slice none 0 0, .slice none 0 0]) ?_ 2 _ rfl; (with_reducible repeat (first | refine blk_drewN ?_ _ | refine blk_drew ?_ | refine blk_alloc ?_ _)); refine blk_put (cs := #[.int .i64 (wrap64 (Int.tmod (IntKind.u64.wrap (a2)) (IntKind.u64.wrap (wrap64 (1 + (Go.bits .and .i64 (l0.length : Int) 3)))))), .slice none 0 0, .slice none 0 0]) ?_ 1 _ rfl; (with_reducible repeat (first | refine blk_drewN ?_ _ | refine blk_drew ?_ | refine blk_alloc ?_ _)); refine blk_put (cs := #[.int .i64 0, .slice none 0 0, .slice none 0 0]) ?_ 0 _ rfl; (with_reducible repeat (first | refine blk_drewN ?_ _ | refine blk_drew ?_ | refine blk_alloc ?_ _)); exact BK153.out) hb); have n1_ := Aside0.mk (below_step (by repeat (first | (with_reducible first | exact HB.out | apply below_alloc | apply pw_below_drewN | apply below_drew1 | refine below_set ?_ GE153.out) | exact HB.out)) hb); clear BK153; clear HB; have BK153 := n0_; have HB := n1_; clear n0_ n1_; (try clear hb); (try clear hb2); (try clear hk); (try clear hi)))
          go_loopg [9, 10] k (fun kq v9 v10 w' => ∃ (x9_1 : ByteArray) (x10_1 : Int) (x154001_1 : List ByteArray) (x154002_1 : List (S44)) (u154001 : Value) (u154002 : Value), v9 = .string x9_1 ∧ v10 = .int .i64 x10_1 ∧ Aside0 (templelaw5_ShowRows.l0 kq l0 a1 (wrap64 (1 + (Go.bits .and .i64 (l0.length : Int) 3))) x9_1 x10_1 (wrap64 (Int.tmod (IntKind.u64.wrap (a2)) (IntKind.u64.wrap (wrap64 (1 + (Go.bits .and .i64 (l0.length : Int) 3)))))) x154001_1 x154002_1 = some r) ∧ Aside0 (kq ≤ k) ∧ Aside0 (Kd.R Kd.string 9 w' w.heap.size (fun _ => True) u154001 x154001_1) ∧ Aside0 (Kd.R k44 44 w' w.heap.size (fun _ => True) u154002 x154002_1) ∧ Aside0 (w'.heap[gb153]? = some (.cells #[.int .i64 (wrap64 (Int.tmod (IntKind.u64.wrap (a2)) (IntKind.u64.wrap (wrap64 (1 + (Go.bits .and .i64 (l0.length : Int) 3)))))), u154001, u154002] 25 (0, 0))) ∧ Aside0 (Below w.heap.size w w'))
          case atStart => exact ⟨(((⟨#[115, 116, 97, 114, 116, 32, 110]⟩ : ByteArray) ++ t154) ++ (⟨#[59, 10]⟩ : ByteArray)), (0), (([] : List ByteArray)), (([] : List (S44))), (.slice none 0 0), (.slice none 0 0), (by first | rfl | (simp; done) | (simp [i64_w]; done) | (simp [*]; done) | (simp [*, i64_w]; done) | (simp [*]; unfold wrap64; omega)), (by first | rfl | (simp; done) | (simp [i64_w]; done) | (simp [*]; done) | (simp [*, i64_w]; done) | (simp [*]; unfold wrap64; omega)), H', ⟨Nat.le_refl _⟩, ⟨by first | exact Kd.R_nil _ _ _ _ _ | exact Kd.N_nil _ _ _ _ _ | exact Kd.V_nil _ _ _ _ _ | exact Kd.Q_nil _ _ _ _ _ | exact Kd.S_nil _ _ _ _ _⟩, ⟨by first | exact Kd.R_nil _ _ _ _ _ | exact Kd.N_nil _ _ _ _ _ | exact Kd.V_nil _ _ _ _ _ | exact Kd.Q_nil _ _ _ _ _ | exact Kd.S_nil _ _ _ _ _⟩, ⟨by (with_reducible repeat (first | refine blk_drewN ?_ _ | refine blk_drew ?_ | refine blk_alloc ?_ _)); exact BK153.out⟩, ⟨by repeat (first | (with_reducible first | exact HB.out | apply below_alloc | apply pw_below_drewN | apply below_drew1 | refine below_set ?_ GE153.out) | exact HB.out)⟩⟩
          case round =>
            clear H'
            try clear c1
            try clear p2
            try clear c5
            try clear c6
            try clear c6b0
            try clear c6b1
            try clear p6
            try clear c7
            try clear c8
            try clear c8b0
            try clear c8b1
            try clear c8b2
            try clear c9
            try clear c9b0
            try clear c9b1
            try clear c9b2
            try clear hcz12_0
            try clear hcz12_1
            try clear hcz12_2
            try clear hfz12_0
            try clear hfz12_1
            try clear hfz12_2
            obtain ⟨x9_1, x10_1, x154001_1, x154002_1, u154001, u154002, rfl, rfl, HA, HK1, HO_154001, HO_154002, BK153, HB⟩ := hrel
            cases gk with
            | zero => exact absurd HA.out (by simp [templelaw5_ShowRows.l0])
            | succ k1 =>
              have H := HA.out
              clear HA
              simp only [templelaw5_ShowRows.l0] at H
              by_cases c14 : x10_1 < (wrap64 (1 + (Go.bits .and .i64 (l0.length : Int) 3)))
              · rw [if_pos c14] at H
                have c14b0 : decide (x10_1 < (wrap64 (1 + (Go.bits .and .i64 (l0.length : Int) 3)))) = true := decide_eq_true c14
                clear c14
                replace H := Option.bind_eq_some_iff.mp H
                obtain ⟨t158, A150, H⟩ := H
                replace H : (if 1 + t158.size ≤ 9223372036854775807 then (if x154001_1.length < 8796093022208 then ((some (x154001_1 ++ [(⟨#[110]⟩ : ByteArray) ++ t158] : List ByteArray)).bind fun y159 => (if x9_1.size + 1 ≤ 9223372036854775807 then ((templeref0_Decimal.f k1 x10_1).bind fun t162 => (if (x9_1 ++ (⟨#[110]⟩ : ByteArray)).size + t162.size ≤ 9223372036854775807 then (if ((x9_1 ++ (⟨#[110]⟩ : ByteArray)) ++ t162).size + 3 ≤ 9223372036854775807 then (if x10_1 < (l0.length : Int) then (if 0 ≤ x10_1 then (templelaw5_ShowRows.j1 k1 l0 a1 (wrap64 (1 + (Go.bits .and .i64 (l0.length : Int) 3))) (((x9_1 ++ (⟨#[110]⟩ : ByteArray)) ++ t162) ++ (⟨#[32, 61, 32]⟩ : ByteArray)) x10_1 (wrap64 (1 + (Go.bits .and .i64 (rd l0 x10_1) 3))) (wrap64 (Int.tmod (IntKind.u64.wrap (a2)) (IntKind.u64.wrap (wrap64 (1 + (Go.bits .and .i64 (l0.length : Int) 3)))))) y159 x154002_1) else (none)) else (templelaw5_ShowRows.j1 k1 l0 a1 (wrap64 (1 + (Go.bits .and .i64 (l0.length : Int) 3))) (((x9_1 ++ (⟨#[110]⟩ : ByteArray)) ++ t162) ++ (⟨#[32, 61, 32]⟩ : ByteArray)) x10_1 1 (wrap64 (Int.tmod (IntKind.u64.wrap (a2)) (IntKind.u64.wrap (wrap64 (1 + (Go.bits .and .i64 (l0.length : Int) 3)))))) y159 x154002_1)) else (none)) else (none))) else (none))) else (none)) else (none)) = some r := H
                have A15 := Aside0.mk A150
                clear A150
                by_cases c16 : 1 + t158.size ≤ 9223372036854775807
                · rw [if_pos c16] at H
                  have c16b0 := eq_true c16
                  have c16b1 : decide (1 + t158.size ≤ 9223372036854775807) = true := decide_eq_true c16
                  try have c16b2 : (9223372036854775807 < 1 + t158.size) = False := eq_false (Nat.not_lt.2 c16)
                  by_cases c17 : x154001_1.length < 8796093022208
                  · rw [if_pos c17] at H
                    have LMc17 := Aside0.mk c17
                    clear c17
                    obtain ⟨y159, hy159⟩ : ∃ y_ : List ByteArray, y_ = (x154001_1 ++ [(⟨#[110]⟩ : ByteArray) ++ t158]) := ⟨_, rfl⟩
                    replace H : (if x9_1.size + 1 ≤ 9223372036854775807 then ((templeref0_Decimal.f k1 x10_1).bind fun t162 => (if (x9_1 ++ (⟨#[110]⟩ : ByteArray)).size + t162.size ≤ 9223372036854775807 then (if ((x9_1 ++ (⟨#[110]⟩ : ByteArray)) ++ t162).size + 3 ≤ 9223372036854775807 then (if x10_1 < (l0.length : Int) then (if 0 ≤ x10_1 then (templelaw5_ShowRows.j1 k1 l0 a1 (wrap64 (1 + (Go.bits .and .i64 (l0.length : Int) 3))) (((x9_1 ++ (⟨#[110]⟩ : ByteArray)) ++ t162) ++ (⟨#[32, 61, 32]⟩ : ByteArray)) x10_1 (wrap64 (1 + (Go.bits .and .i64 (rd l0 x10_1) 3))) (wrap64 (Int.tmod (IntKind.u64.wrap (a2)) (IntKind.u64.wrap (wrap64 (1 + (Go.bits .and .i64 (l0.length : Int) 3)))))) y159 x154002_1) else (none)) else (templelaw5_ShowRows.j1 k1 l0 a1 (wrap64 (1 + (Go.bits .and .i64 (l0.length : Int) 3))) (((x9_1 ++ (⟨#[110]⟩ : ByteArray)) ++ t162) ++ (⟨#[32, 61, 32]⟩ : ByteArray)) x10_1 1 (wrap64 (Int.tmod (IntKind.u64.wrap (a2)) (IntKind.u64.wrap (wrap64 (1 + (Go.bits .and .i64 (l0.length : Int) 3)))))) y159 x154002_1)) else (none)) else (none))) else (none)) = some r := by first | (rw [hy159]; with_reducible exact H) | (have H2_ := (Option.bind_some _ _).symm.trans H; rw [hy159]; with_reducible exact H2_) | (have H2_ := (Option.bind_some _ _).symm.trans H; with_reducible exact H2_) | with_reducible exact H | (rw [hy159]; exact H) | exact H
                    have Ny159 := Aside0.mk hy159
                    clear hy159
                    by_cases c18 : x9_1.size + 1 ≤ 9223372036854775807
                    · rw [if_pos c18] at H
                      have c18b0 := eq_true c18
                      have c18b1 : decide (x9_1.size + 1 ≤ 9223372036854775807) = true := decide_eq_true c18
                      try have c18b2 : (9223372036854775807 < x9_1.size + 1) = False := eq_false (Nat.not_lt.2 c18)
                      replace H := Option.bind_eq_some_iff.mp H
                      obtain ⟨t162, A190, H⟩ := H
                      replace H : (if (x9_1 ++ (⟨#[110]⟩ : ByteArray)).size + t162.size ≤ 9223372036854775807 then (if ((x9_1 ++ (⟨#[110]⟩ : ByteArray)) ++ t162).size + 3 ≤ 9223372036854775807 then (if x10_1 < (l0.length : Int) then (if 0 ≤ x10_1 then (templelaw5_ShowRows.j1 k1 l0 a1 (wrap64 (1 + (Go.bits .and .i64 (l0.length : Int) 3))) (((x9_1 ++ (⟨#[110]⟩ : ByteArray)) ++ t162) ++ (⟨#[32, 61, 32]⟩ : ByteArray)) x10_1 (wrap64 (1 + (Go.bits .and .i64 (rd l0 x10_1) 3))) (wrap64 (Int.tmod (IntKind.u64.wrap (a2)) (IntKind.u64.wrap (wrap64 (1 + (Go.bits .and .i64 (l0.length : Int) 3)))))) y159 x154002_1) else (none)) else (templelaw5_ShowRows.j1 k1 l0 a1 (wrap64 (1 + (Go.bits .and .i64 (l0.length : Int) 3))) (((x9_1 ++ (⟨#[110]⟩ : ByteArray)) ++ t162) ++ (⟨#[32, 61, 32]⟩ : ByteArray)) x10_1 1 (wrap64 (Int.tmod (IntKind.u64.wrap (a2)) (IntKind.u64.wrap (wrap64 (1 + (Go.bits .and .i64 (l0.length : Int) 3)))))) y159 x154002_1)) else (none)) else (none)) = some r := H
                      have A19 := Aside0.mk A190
                      clear A190
                      by_cases c20 : (x9_1 ++ (⟨#[110]⟩ : ByteArray)).size + t162.size ≤ 9223372036854775807
                      · rw [if_pos c20] at H
                        have c20b0 := eq_true c20
                        have c20b1 : decide ((x9_1 ++ (⟨#[110]⟩ : ByteArray)).size + t162.size ≤ 9223372036854775807) = true := decide_eq_true c20
                        try have c20b2 : (9223372036854775807 < (x9_1 ++ (⟨#[110]⟩ : ByteArray)).size + t162.size) = False := eq_false (Nat.not_lt.2 c20)
                        try have c20b3 : (9223372036854775807 < x9_1.size + 1 + t162.size) = False := eq_false (by have q_ := c20; have z0_ : (⟨#[110]⟩ : ByteArray).size = 1 := rfl; (try simp only [ByteArray.size_append, ByteArray.size_extract] at q_); omega)
                        by_cases c21 : ((x9_1 ++ (⟨#[110]⟩ : ByteArray)) ++ t162).size + 3 ≤ 9223372036854775807
                        · rw [if_pos c21] at H
                          have c21b0 := eq_true c21
                          have c21b1 : decide (((x9_1 ++ (⟨#[110]⟩ : ByteArray)) ++ t162).size + 3 ≤ 9223372036854775807) = true := decide_eq_true c21
                          try have c21b2 : (9223372036854775807 < ((x9_1 ++ (⟨#[110]⟩ : ByteArray)) ++ t162).size + 3) = False := eq_false (Nat.not_lt.2 c21)
                          try have c21b3 : (9223372036854775807 < x9_1.size + 1 + t162.size + 3) = False := eq_false (by have q_ := c21; have z0_ : (⟨#[110]⟩ : ByteArray).size = 1 := rfl; (try simp only [ByteArray.size_append, ByteArray.size_extract] at q_); omega)
                          have HC22 := Aside0.mk H
                          clear H
                          try go_wp2
                          have n0_ := Aside0.mk (Kd.R_drew HO_154001.out)
                          have n1_ := Aside0.mk (Kd.R_drew HO_154002.out)
                          have n2_ := Aside0.mk (blk_drew BK153.out)
                          have n3_ := Aside0.mk (below_drew1 HB.out)
                          clear HO_154001
                          clear HO_154002
                          clear BK153
                          clear HB
                          have HO_154001 := n0_
                          have HO_154002 := n1_
                          have BK153 := n2_
                          have HB := n3_
                          clear n0_ n1_ n2_ n3_
                          refine start_ (n := 9) (S := fun w' => w'.cell? ⟨gb153, 0, none⟩ = some (.int .i64 (wrap64 (Int.tmod (IntKind.u64.wrap (a2)) (IntKind.u64.wrap (wrap64 (1 + (Go.bits .and .i64 (l0.length : Int) 3))))))) ∧ w'.cell? ⟨gb153, 1, none⟩ = some (u154001) ∧ w'.cell? ⟨gb153, 2, none⟩ = some (u154002)) (ds := [8]) #[false, false, false, false, false, false, false, false, false] (by kernel_rfl) rfl rfl ⟨(blk_cell BK153.out 0).trans rfl, (blk_cell BK153.out 1).trans rfl, (blk_cell BK153.out 2).trans rfl⟩ (fun hHeld => ?_); refine with_tabW templelaw5_ShowRows.tab9 templelaw5_ShowRows.bits9 (fun HT_ HW_ => ?_)
                          generalize wr.drew = w23 at HO_154001 HO_154002 BK153 HB hHeld ⊢
                          refine pure_ (i := 0) (N := some 41) (v := ?_) (a' := ?_) #[true, false, false, false, false, false, false, false, false] rfl rfl (any_of HT_.out (by kernel_rfl)) (fun _ _ _ h => h) (Or.inl ⟨by rfl, ?_⟩) ?_ ?_
                          rotate_left
                          · intro w'
                            go_simp
                            with_reducible rfl
                          rotate_left
                          · simp only [Act.put, List.setIfInBounds_toArray, List.set_cons_zero, List.set_cons_succ, i64_w, i32_w]
                            rfl
                          refine pure_ (i := 2) (N := some 43) (v := ?_) (a' := ?_) #[true, false, true, false, false, false, false, false, false] rfl rfl (any_of HT_.out (by kernel_rfl)) (fun _ _ _ h => h) (Or.inl ⟨by rfl, ?_⟩) ?_ ?_
                          rotate_left
                          · intro w'
                            go_simp
                            with_reducible rfl
                          rotate_left
                          · simp only [Act.put, List.setIfInBounds_toArray, List.set_cons_zero, List.set_cons_succ, i64_w, i32_w]
                            rfl
                          refine take_ (i := 1) (N := some 42) (v := ?_) (a' := ?_) #[true, true, true, false, false, false, false, false, false] rfl rfl (take_ofW HT_.out HW_.out (by kernel_rfl)) (fun _ _ _ h => h) (Or.inl ⟨by rfl, ?_⟩) hHeld ?_ ?_
                          rotate_left
                          · rintro w' ⟨s0, s1, s2⟩
                            go_simp
                            with_reducible rfl
                          rotate_left
                          · simp only [Act.put, List.setIfInBounds_toArray, List.set_cons_zero, List.set_cons_succ, i64_w, i32_w]
                            rfl
                          refine one_ (i := 3) (N := some 44) #[true, true, true, true, false, false, false, false, false] rfl rfl (one_of HT_.out (by kernel_rfl)) (by decide) (fun K hK => ?_)
                          refine goes_ Try.func15 (by kernel_rfl) rfl #[.int .i64 x10_1] (by rfl) rfl rfl (by (try simp only [List.map_toArray, List.map_cons, List.map_nil]); first | done | rfl | (simp only [List.length_drop, List.length_take]; rfl)) ?_
                          with_reducible refine (templeref0_Decimal.calls k1 x10_1 t158 _ A15.out).mono ?_
                          rintro e w24 ⟨rfl, hb⟩
                          refine ⟨_, rfl, ?_⟩
                          have n0_ := Aside0.mk (Kd.R_below (by (with_reducible repeat (first | apply Kd.R_alloc | apply Kd.R_drewN | apply Kd.R_drew)); exact HO_154001.out) hb)
                          have n1_ := Aside0.mk (Kd.R_below (by (with_reducible repeat (first | apply Kd.R_alloc | apply Kd.R_drewN | apply Kd.R_drew)); exact HO_154002.out) hb)
                          have n2_ := Aside0.mk (blk_below (g := gb153) (o := .cells #[.int .i64 (wrap64 (Int.tmod (IntKind.u64.wrap (a2)) (IntKind.u64.wrap (wrap64 (1 + (Go.bits .and .i64 (l0.length : Int) 3)))))), u154001, u154002] 25 (0, 0)) (by (with_reducible repeat (first | refine blk_drewN ?_ _ | refine blk_drew ?_ | refine blk_alloc ?_ _)); exact BK153.out) hb)
                          have n3_ := Aside0.mk (below_step (by repeat (first | (with_reducible first | exact HB.out | apply below_alloc | apply pw_below_drewN | apply below_drew1 | refine below_set ?_ GE153.out) | exact HB.out)) hb)
                          clear HO_154001
                          clear HO_154002
                          clear BK153
                          clear HB
                          have HO_154001 := n0_
                          have HO_154002 := n1_
                          have BK153 := n2_
                          have HB := n3_
                          clear n0_ n1_ n2_ n3_
                          (try clear hb)
                          (try clear hb2)
                          (try clear hk)
                          (try clear hi)
                          refine hK.out _ _ ⟨(blk_cell BK153.out 0).trans rfl, (blk_cell BK153.out 1).trans rfl, (blk_cell BK153.out 2).trans rfl⟩ (fun hHeld => ?_)
                          clear hK K
                          refine norm_ (a' := ?_) ?_ ?_
                          rotate_left
                          · show Act.put _ (some 44) _ = _
                            simp only [Act.put, List.setIfInBounds_toArray, List.set_cons_zero, List.set_cons_succ, i64_w, i32_w]
                            rfl
                          refine pure_ (i := 4) (N := some 45) (v := ?_) (a' := ?_) #[true, true, true, true, true, false, false, false, false] rfl rfl (any_of HT_.out (by kernel_rfl)) (fun _ _ _ h => h) (Or.inl ⟨by rfl, ?_⟩) ?_ ?_
                          rotate_left
                          · intro w'
                            go_simp
                            with_reducible rfl
                          rotate_left
                          · simp only [Act.put, List.setIfInBounds_toArray, List.set_cons_zero, List.set_cons_succ, i64_w, i32_w]
                            rfl
                          refine one_ (i := 5) (N := some 46) #[true, true, true, true, true, true, false, false, false] rfl rfl (one_of HT_.out (by kernel_rfl)) (by decide) (fun K hK => ?_)
                          refine value_ (w1 := ?_) (v := ?_) (by rfl) rfl ?_ ?_
                          rotate_left 2
                          · go_simp
                            constructor
                            · rfl
                            · rfl
                          refine hK.out _ _ ⟨(blk_cell (blk_alloc BK153.out _) 0).trans rfl, (blk_cell (blk_alloc BK153.out _) 1).trans rfl, (blk_cell (blk_alloc BK153.out _) 2).trans rfl⟩ (fun hHeld => ?_)
                          clear hK K
                          refine norm_ (a' := ?_) ?_ ?_
                          rotate_left
                          · show Act.put _ (some 46) _ = _
                            simp only [Act.put, List.setIfInBounds_toArray, List.set_cons_zero, List.set_cons_succ, i64_w, i32_w]
                            rfl
                          refine one_ (i := 6) (N := some 47) #[true, true, true, true, true, true, true, false, false] rfl rfl (one_of HT_.out (by kernel_rfl)) (by decide) (fun K hK => ?_)
                          refine Kd.R_append_step Kd.string (w0 := w) w.heap.size (by rfl) (.tmp 42) (.tmp 46) 22 9 (.string ⟨#[]⟩) 16 rfl Try.underlying22 info9 rfl (by decide) (by omega) u154001 x154001_1 ((⟨#[110]⟩ : ByteArray) ++ t158) [.string ((⟨#[110]⟩ : ByteArray) ++ t158)] (fun _ => True) (fun _ => False) rfl rfl ?aP (fun _ hk => hk.elim) ?aF ?aO ?aB ?aS ?aL ?_
                          (case aP => exact rfl)
                          (case aB => exact (by repeat (first | (with_reducible first | exact HB.out | apply below_alloc | apply pw_below_drewN | apply below_drew1 | refine below_set ?_ GE153.out) | exact HB.out)))
                          (case aF => exact (fun _ _ => trivial))
                          (case aO => exact (by (with_reducible repeat (first | apply Kd.R_alloc | apply Kd.R_drewN | apply Kd.R_drew)); exact HO_154001.out))
                          (case aS => exact (below_size (by repeat (first | (with_reducible first | exact HB.out | apply below_alloc | apply pw_below_drewN | apply below_drew1 | refine below_set ?_ GE153.out) | exact HB.out))))
                          (case aL => have := LMc17.out; omega)
                          intro v160 w25 ho hb hg hat
                          rw [← Ny159.out] at ho
                          have n0_ := Aside0.mk (Kd.R_over' (by (with_reducible repeat (first | apply Kd.R_alloc | apply Kd.R_drewN | apply Kd.R_drew)); exact HO_154002.out) (Kd.R_typed (by (with_reducible repeat (first | apply Kd.R_alloc | apply Kd.R_drewN | apply Kd.R_drew)); exact HO_154001.out)) (by decide) hg)
                          have n1_ := Aside0.mk (blk_grown (g := gb153) (o := .cells #[.int .i64 (wrap64 (Int.tmod (IntKind.u64.wrap (a2)) (IntKind.u64.wrap (wrap64 (1 + (Go.bits .and .i64 (l0.length : Int) 3)))))), u154001, u154002] 25 (0, 0)) (by (with_reducible repeat (first | refine blk_drewN ?_ _ | refine blk_drew ?_ | refine blk_alloc ?_ _)); exact BK153.out) hg (Kd.R_ne HO_154001.out BK153.out (by decide)))
                          have n2_ := Aside0.mk (hb)
                          have n3_ := Aside0.mk (ho)
                          clear HO_154002
                          clear BK153
                          clear HB
                          clear HO_154001
                          have HO_154002 := n0_
                          have BK153 := n1_
                          have HB := n2_
                          have HO161 := n3_
                          clear n0_ n1_ n2_ n3_
                          clear ho hb hg hat
                          obtain ⟨Ao26, co26, eo26⟩ := Kd.R_slice HO161.out
                          (first | subst eo26 | (injection eo26 with f1_ f2_ f3_; have f4_ := f1_.symm; have f5_ := f3_.symm; clear f1_ f2_ f3_; subst f4_; subst f5_))
                          refine hK.out _ _ ⟨(blk_cell BK153.out 0).trans rfl, (blk_cell BK153.out 1).trans rfl, (blk_cell BK153.out 2).trans rfl⟩ (fun hHeld => ?_)
                          clear hK K
                          refine norm_ (a' := ?_) ?_ ?_
                          rotate_left
                          · show Act.put _ (some 47) _ = _
                            simp only [Act.put, List.setIfInBounds_toArray, List.set_cons_zero, List.set_cons_succ, i64_w, i32_w]
                            rfl
                          refine pure_ (i := 7) (N := some 48) (v := ?_) (a' := ?_) #[true, true, true, true, true, true, true, true, false] rfl rfl (any_of HT_.out (by kernel_rfl)) (fun _ _ _ h => h) (Or.inl ⟨by rfl, ?_⟩) ?_ ?_
                          rotate_left
                          · intro w'
                            go_simp
                            with_reducible rfl
                          rotate_left
                          · simp only [Act.put, List.setIfInBounds_toArray, List.set_cons_zero, List.set_cons_succ, i64_w, i32_w]
                            rfl
                          refine last_ (i := 8) (N := none) #[true, true, true, true, true, true, true, true, true] rfl rfl (one_of HT_.out (by kernel_rfl)) (by decide) (fun K hK => ?_)
                          have hs27 : w25.cell? ⟨gb153, 1, none⟩ = some (u154001) := (blk_cell BK153.out 1).trans rfl
                          have hfs27 := blk_frozen BK153.out 1
                          refine skip_ (w1 := ?_) (by rfl) rfl ?_ ?_
                          rotate_left
                          · go_simp
                            rfl
                          refine hK.out _ _ ?_
                          clear hK K
                          refine done_ (done_of HT_.out (by kernel_rfl)) ?_
                          go_upto_if 58 with (first | ((with_reducible refine gate_callee (f := 15) rfl ?_); refine goesL_ (some 52) rfl rfl Try.func15 (by kernel_rfl) rfl #[.int .i64 x10_1] rfl (by (try simp only [List.map_toArray, List.map_cons, List.map_nil]); first | done | rfl | (simp only [List.length_drop, List.length_take]; rfl)) ?_; (with_reducible refine (templeref0_Decimal.calls k1 x10_1 t162 _ A19.out).mono ?_); rintro e w28 ⟨rfl, hb⟩; refine ⟨_, rfl, ?_⟩; have n0_ := Aside0.mk (Kd.R_below (by (with_reducible repeat (first | apply Kd.R_alloc | apply Kd.R_drewN | apply Kd.R_drew)); exact (Kd.R_mono (Kd.R_far (p := ⟨gb153, 1, none⟩) (Kd.R_types HO_154002.out BK153.out (by decide)) (fun _ hk => hk.2) (.slice Ao26 y159.length co26)) (fun _ h_ => h_.1))) hb); have n1_ := Aside0.mk (Kd.R_below (by (with_reducible repeat (first | apply Kd.R_alloc | apply Kd.R_drewN | apply Kd.R_drew)); exact (Kd.R_mono (Kd.R_far (p := ⟨gb153, 1, none⟩) (Kd.R_types HO161.out BK153.out (by decide)) (fun _ hk => hk.2) (.slice Ao26 y159.length co26)) (fun _ h_ => h_.1))) hb); have n2_ := Aside0.mk (blk_below (g := gb153) (o := .cells #[.int .i64 (wrap64 (Int.tmod (IntKind.u64.wrap (a2)) (IntKind.u64.wrap (wrap64 (1 + (Go.bits .and .i64 (l0.length : Int) 3)))))), .slice Ao26 y159.length co26, u154002] 25 (0, 0)) (by (with_reducible repeat (first | refine blk_drewN ?_ _ | refine blk_drew ?_ | refine blk_alloc ?_ _)); refine blk_put (cs := #[.int .i64 (wrap64 (Int.tmod (IntKind.u64.wrap (a2)) (IntKind.u64.wrap (wrap64 (1 + (Go.bits .and .i64 (l0.length : Int) 3)))))), u154001, u154002]) ?_ 1 _ rfl; (with_reducible repeat (first | refine blk_drewN ?_ _ | refine blk_drew ?_ | refine blk_alloc ?_ _)); exact BK153.out) hb); have n3_ := Aside0.mk (below_step (by repeat (first | (with_reducible first | exact HB.out | apply below_alloc | apply pw_below_drewN | apply below_drew1 | refine below_set ?_ GE153.out) | exact HB.out)) hb); clear HO_154002; clear HO161; clear BK153; clear HB; have HO_154002 := n0_; have HO161 := n1_; have BK153 := n2_; have HB := n3_; clear n0_ n1_ n2_ n3_; (try clear hb); (try clear hb2); (try clear hk); (try clear hi)))
                          (try simp only [Act.put, List.setIfInBounds_toArray, List.set_cons_zero, List.set_cons_succ])
                          go_cut [11] (fun v11 wc => ∃ (kq : Nat) (x11_21 : Int), v11 = .int .i64 x11_21 ∧ Aside0 (templelaw5_ShowRows.j1 kq l0 a1 (wrap64 (1 + (Go.bits .and .i64 (l0.length : Int) 3))) (((x9_1 ++ (⟨#[110]⟩ : ByteArray)) ++ t162) ++ (⟨#[32, 61, 32]⟩ : ByteArray)) x10_1 x11_21 (wrap64 (Int.tmod (IntKind.u64.wrap (a2)) (IntKind.u64.wrap (wrap64 (1 + (Go.bits .and .i64 (l0.length : Int) 3)))))) y159 x154002_1 = some r) ∧ Aside0 (kq ≤ k1) ∧ Aside0 (Kd.R Kd.string 9 wc w.heap.size (fun _ => True) (.slice Ao26 y159.length co26) y159) ∧ Aside0 (Kd.R k44 44 wc w.heap.size (fun _ => True) u154002 x154002_1) ∧ Aside0 (wc.heap[gb153]? = some (.cells #[.int .i64 (wrap64 (Int.tmod (IntKind.u64.wrap (a2)) (IntKind.u64.wrap (wrap64 (1 + (Go.bits .and .i64 (l0.length : Int) 3)))))), (.slice Ao26 y159.length co26), u154002] 25 (0, 0))) ∧ Aside0 (Below w.heap.size w wc))
                          case first =>
                            have H := HC22.out
                            clear HC22
                            by_cases c29 : x10_1 < (l0.length : Int)
                            · rw [if_pos c29] at H
                              have c29b0 : decide (x10_1 < (l0.length : Int)) = true := decide_eq_true c29
                              clear c29
                              (first | rw [c29b0] | (simp only [i64_w, i32_w]; rw [c29b0]) | skip)
                              by_cases c30 : 0 ≤ x10_1
                              · rw [if_pos c30] at H
                                have c30b0 : decide (0 ≤ x10_1) = true := decide_eq_true c30
                                clear c30
                                have H' := Aside0.mk H
                                clear H
                                have p163 : 0 ≤ (x10_1 : Int) := of_decide_eq_true (by first | (with_reducible assumption) | assumption)
                                have q163 : x10_1 < (l0.length : Int) := of_decide_eq_true (by first | (with_reducible assumption) | assumption)
                                obtain ⟨ad163, e163, hx163_0⟩ := Kd.at_int HR0.out x10_1 p163 q163
                                cases e163
                                replace hx163_0 := (HB.out.cell (World.block_lt_of_cell? w _ hx163_0)).trans hx163_0
                                replace p163 := eq_true p163
                                replace q163 := eq_true q163
                                go_wp2
                                go_meet
                                case rel => exact ⟨_, (wrap64 (1 + (Go.bits .and .i64 (rd l0 x10_1) 3))), (by first | rfl | (simp; done) | (simp [i64_w]; done) | (simp [*]; done) | (simp [*, i64_w]; done) | (simp [*]; unfold wrap64; omega)), H', ⟨by have := HK1.out; first | omega | exact Nat.le_refl _⟩, ⟨by (with_reducible repeat (first | apply Kd.R_alloc | apply Kd.R_drewN | apply Kd.R_drew)); exact HO161.out⟩, ⟨by (with_reducible repeat (first | apply Kd.R_alloc | apply Kd.R_drewN | apply Kd.R_drew)); exact HO_154002.out⟩, ⟨by (with_reducible repeat (first | refine blk_drewN ?_ _ | refine blk_drew ?_ | refine blk_alloc ?_ _)); exact BK153.out⟩, ⟨by repeat (first | (with_reducible first | exact HB.out | apply below_alloc | apply pw_below_drewN | apply below_drew1 | refine below_set ?_ GE153.out) | exact HB.out)⟩⟩
                              · rw [if_neg c30] at H
                                exact absurd H (by simp)
                            · rw [if_neg c29] at H
                              have c29b0 : decide (x10_1 < (l0.length : Int)) = false := decide_eq_false c29
                              clear c29
                              (first | rw [c29b0] | (simp only [i64_w, i32_w]; rw [c29b0]) | skip)
                              have H' := Aside0.mk H
                              clear H
                              go_wp2
                              go_meet
                              case rel => exact ⟨_, (1), (by first | rfl | (simp; done) | (simp [i64_w]; done) | (simp [*]; done) | (simp [*, i64_w]; done) | (simp [*]; unfold wrap64; omega)), H', ⟨by have := HK1.out; first | omega | exact Nat.le_refl _⟩, ⟨by (with_reducible repeat (first | apply Kd.R_alloc | apply Kd.R_drewN | apply Kd.R_drew)); exact HO161.out⟩, ⟨by (with_reducible repeat (first | apply Kd.R_alloc | apply Kd.R_drewN | apply Kd.R_drew)); exact HO_154002.out⟩, ⟨by (with_reducible repeat (first | refine blk_drewN ?_ _ | refine blk_drew ?_ | refine blk_alloc ?_ _)); exact BK153.out⟩, ⟨by repeat (first | (with_reducible first | exact HB.out | apply below_alloc | apply pw_below_drewN | apply below_drew1 | refine below_set ?_ GE153.out) | exact HB.out)⟩⟩
                          case rest =>
                            clear HC22
                            try clear c1
                            try clear p1
                            try clear q1
                            try clear hx1
                            try clear c2
                            try clear p2
                            try clear c3
                            try clear c5
                            try clear c6
                            try clear c6b0
                            try clear c6b1
                            try clear p6
                            try clear c7
                            try clear c8
                            try clear c8b0
                            try clear c8b1
                            try clear c8b2
                            try clear c9
                            try clear c9b0
                            try clear c9b1
                            try clear c9b2
                            try clear c14
                            try clear c14b0
                            try clear c15
                            try clear c16
                            try clear c16b0
                            try clear c16b1
                            try clear c16b2
                            try clear p16
                            try clear q16
                            try clear hx16
                            try clear c17
                            try clear c18
                            try clear c18b0
                            try clear c18b1
                            try clear c18b2
                            try clear c20
                            try clear c20b0
                            try clear c20b1
                            try clear c20b2
                            try clear c21
                            try clear c21b0
                            try clear c21b1
                            try clear c21b2
                            try clear c29
                            try clear c29b0
                            try clear c30
                            try clear c30b0
                            try clear hcz12_0
                            try clear hcz12_1
                            try clear hcz12_2
                            try clear hfz12_0
                            try clear hfz12_1
                            try clear hfz12_2
                            try clear hx163_0
                            try clear p163
                            try clear p2
                            try clear p6
                            try clear q163
                            obtain ⟨kq, x11_21, rfl, HA, HJ21, HO_154001, HO_154002, BK153, HB⟩ := hcut
                            cases kq with
                            | zero => exact absurd HA.out (by simp [templelaw5_ShowRows.j1])
                            | succ kj21 =>
                              have H := HA.out
                              clear HA
                              simp only [templelaw5_ShowRows.j1] at H
                              have H' := Aside0.mk H
                              clear H
                              go_wp2
                              go_loopg [9, 12] kj21 (fun kq v9 v12 w' => ∃ (x9_3 : ByteArray) (x12_3 : Int) (x154002_3 : List (S44)) (u154002 : Value), v9 = .string x9_3 ∧ v12 = .int .i64 x12_3 ∧ Aside0 (templelaw5_ShowRows.l1 kq l0 a1 (wrap64 (1 + (Go.bits .and .i64 (l0.length : Int) 3))) x9_3 x10_1 x11_21 x12_3 (wrap64 (Int.tmod (IntKind.u64.wrap (a2)) (IntKind.u64.wrap (wrap64 (1 + (Go.bits .and .i64 (l0.length : Int) 3)))))) y159 x154002_3 = some r) ∧ Aside0 (kq ≤ kj21) ∧ Aside0 (Kd.R Kd.string 9 w' w.heap.size (fun _ => True) (.slice Ao26 y159.length co26) y159) ∧ Aside0 (Kd.R k44 44 w' w.heap.size (fun _ => True) u154002 x154002_3) ∧ Aside0 (w'.heap[gb153]? = some (.cells #[.int .i64 (wrap64 (Int.tmod (IntKind.u64.wrap (a2)) (IntKind.u64.wrap (wrap64 (1 + (Go.bits .and .i64 (l0.length : Int) 3)))))), (.slice Ao26 y159.length co26), u154002] 25 (0, 0))) ∧ Aside0 (Below w.heap.size w w'))
                              case atStart => exact ⟨((((x9_1 ++ (⟨#[110]⟩ : ByteArray)) ++ t162) ++ (⟨#[32, 61, 32]⟩ : ByteArray))), (0), (x154002_1), (u154002), (by first | rfl | (simp; done) | (simp [i64_w]; done) | (simp [*]; done) | (simp [*, i64_w]; done) | (simp [*]; unfold wrap64; omega)), (by first | rfl | (simp; done) | (simp [i64_w]; done) | (simp [*]; done) | (simp [*, i64_w]; done) | (simp [*]; unfold wrap64; omega)), H', ⟨Nat.le_refl _⟩, ⟨by (with_reducible repeat (first | apply Kd.R_alloc | apply Kd.R_drewN | apply Kd.R_drew)); exact HO_154001.out⟩, ⟨by (with_reducible repeat (first | apply Kd.R_alloc | apply Kd.R_drewN | apply Kd.R_drew)); exact HO_154002.out⟩, ⟨by (with_reducible repeat (first | refine blk_drewN ?_ _ | refine blk_drew ?_ | refine blk_alloc ?_ _)); exact BK153.out⟩, ⟨by repeat (first | (with_reducible first | exact HB.out | apply below_alloc | apply pw_below_drewN | apply below_drew1 | refine below_set ?_ GE153.out) | exact HB.out)⟩⟩
                              case round =>
                                clear H'
                                try clear c1
                                try clear p1
                                try clear q1
                                try clear hx1
                                try clear c2
                                try clear p2
                                try clear c3
                                try clear c5
                                try clear c6
                                try clear c6b0
                                try clear c6b1
                                try clear p6
                                try clear c7
                                try clear c8
                                try clear c8b0
                                try clear c8b1
                                try clear c8b2
                                try clear c9
                                try clear c9b0
                                try clear c9b1
                                try clear c9b2
                                try clear c14
                                try clear c14b0
                                try clear c15
                                try clear c16
                                try clear c16b0
                                try clear c16b1
                                try clear c16b2
                                try clear p16
                                try clear q16
                                try clear hx16
                                try clear c17
                                try clear c18
                                try clear c18b0
                                try clear c18b1
                                try clear c18b2
                                try clear c20
                                try clear c20b0
                                try clear c20b1
                                try clear c20b2
                                try clear c21
                                try clear c21b0
                                try clear c21b1
                                try clear c21b2
                                try clear c29
                                try clear c29b0
                                try clear c30
                                try clear c30b0
                                try clear hcz12_0
                                try clear hcz12_1
                                try clear hcz12_2
                                try clear hfz12_0
                                try clear hfz12_1
                                try clear hfz12_2
                                try clear hx163_0
                                try clear p1
                                try clear p16
                                try clear p163
                                try clear p2
                                try clear p6
                                try clear q1
                                try clear q16
                                try clear q163
                                obtain ⟨x9_3, x12_3, x154002_3, u154002, rfl, rfl, HA, HK3, HO_154001, HO_154002, BK153, HB⟩ := hrel
                                cases gk with
                                | zero => exact absurd HA.out (by simp [templelaw5_ShowRows.l1])
                                | succ k3 =>
                                  have H := HA.out
                                  clear HA
                                  simp only [templelaw5_ShowRows.l1] at H
                                  by_cases c31 : x12_3 < x11_21
                                  · rw [if_pos c31] at H
                                    have c31b0 : decide (x12_3 < x11_21) = true := decide_eq_true c31
                                    clear c31
                                    have HC32 := Aside0.mk H
                                    clear H
                                    go_upto_if 71 with (fail)
                                    go_cut [9] (fun v9 wc => ∃ (kq : Nat) (x9_31 : ByteArray), v9 = .string x9_31 ∧ Aside0 (templelaw5_ShowRows.j3 kq l0 a1 (wrap64 (1 + (Go.bits .and .i64 (l0.length : Int) 3))) x9_31 x10_1 x11_21 x12_3 (wrap64 (Int.tmod (IntKind.u64.wrap (a2)) (IntKind.u64.wrap (wrap64 (1 + (Go.bits .and .i64 (l0.length : Int) 3)))))) y159 x154002_3 = some r) ∧ Aside0 (kq ≤ k3) ∧ Aside0 (Kd.R Kd.string 9 wc w.heap.size (fun _ => True) (.slice Ao26 y159.length co26) y159) ∧ Aside0 (Kd.R k44 44 wc w.heap.size (fun _ => True) u154002 x154002_3) ∧ Aside0 (wc.heap[gb153]? = some (.cells #[.int .i64 (wrap64 (Int.tmod (IntKind.u64.wrap (a2)) (IntKind.u64.wrap (wrap64 (1 + (Go.bits .and .i64 (l0.length : Int) 3)))))), (.slice Ao26 y159.length co26), u154002] 25 (0, 0))) ∧ Aside0 (Below w.heap.size w wc))
                                    case first =>
                                      have H := HC32.out
                                      clear HC32
                                      by_cases c33 : x12_3 > 0
                                      · rw [if_pos c33] at H
                                        have c33b0 : decide (0 < x12_3) = true := decide_eq_true c33
                                        clear c33
                                        (first | rw [c33b0] | (simp only [i64_w, i32_w]; rw [c33b0]) | skip)
                                        by_cases c34 : x9_3.size + 3 ≤ 9223372036854775807
                                        · rw [if_pos c34] at H
                                          have c34b0 := eq_true c34
                                          have c34b1 : decide (x9_3.size + 3 ≤ 9223372036854775807) = true := decide_eq_true c34
                                          try have c34b2 : (9223372036854775807 < x9_3.size + 3) = False := eq_false (Nat.not_lt.2 c34)
                                          have H' := Aside0.mk H
                                          clear H
                                          go_wp2
                                          go_meet
                                          case rel => exact ⟨_, (x9_3 ++ (⟨#[32, 124, 32]⟩ : ByteArray)), (by first | rfl | (simp; done) | (simp [i64_w]; done) | (simp [*]; done) | (simp [*, i64_w]; done) | (simp [*]; unfold wrap64; omega)), H', ⟨by have := HK1.out; have := HJ21.out; have := HK3.out; first | omega | exact Nat.le_refl _⟩, ⟨by (with_reducible repeat (first | apply Kd.R_alloc | apply Kd.R_drewN | apply Kd.R_drew)); exact HO_154001.out⟩, ⟨by (with_reducible repeat (first | apply Kd.R_alloc | apply Kd.R_drewN | apply Kd.R_drew)); exact HO_154002.out⟩, ⟨by (with_reducible repeat (first | refine blk_drewN ?_ _ | refine blk_drew ?_ | refine blk_alloc ?_ _)); exact BK153.out⟩, ⟨by repeat (first | (with_reducible first | exact HB.out | apply below_alloc | apply pw_below_drewN | apply below_drew1 | refine below_set ?_ GE153.out) | exact HB.out)⟩⟩
                                        · rw [if_neg c34] at H
                                          exact absurd H (by simp)
                                      · rw [if_neg c33] at H
                                        have c33b0 : decide (0 < x12_3) = false := decide_eq_false c33
                                        clear c33
                                        (first | rw [c33b0] | (simp only [i64_w, i32_w]; rw [c33b0]) | skip)
                                        have H' := Aside0.mk H
                                        clear H
                                        go_wp2
                                        go_meet
                                        case rel => exact ⟨_, (x9_3), (by first | rfl | (simp; done) | (simp [i64_w]; done) | (simp [*]; done) | (simp [*, i64_w]; done) | (simp [*]; unfold wrap64; omega)), H', ⟨by have := HK1.out; have := HJ21.out; have := HK3.out; first | omega | exact Nat.le_refl _⟩, ⟨by (with_reducible repeat (first | apply Kd.R_alloc | apply Kd.R_drewN | apply Kd.R_drew)); exact HO_154001.out⟩, ⟨by (with_reducible repeat (first | apply Kd.R_alloc | apply Kd.R_drewN | apply Kd.R_drew)); exact HO_154002.out⟩, ⟨by (with_reducible repeat (first | refine blk_drewN ?_ _ | refine blk_drew ?_ | refine blk_alloc ?_ _)); exact BK153.out⟩, ⟨by repeat (first | (with_reducible first | exact HB.out | apply below_alloc | apply pw_below_drewN | apply below_drew1 | refine below_set ?_ GE153.out) | exact HB.out)⟩⟩
                                    case rest =>
                                      clear HC32
                                      try clear c1
                                      try clear p1
                                      try clear q1
                                      try clear hx1
                                      try clear c2
                                      try clear p2
                                      try clear c3
                                      try clear c5
                                      try clear c6
                                      try clear c6b0
                                      try clear c6b1
                                      try clear p6
                                      try clear c7
                                      try clear c8
                                      try clear c8b0
                                      try clear c8b1
                                      try clear c8b2
                                      try clear c9
                                      try clear c9b0
                                      try clear c9b1
                                      try clear c9b2
                                      try clear c14
                                      try clear c14b0
                                      try clear c15
                                      try clear c16
                                      try clear c16b0
                                      try clear c16b1
                                      try clear c16b2
                                      try clear p16
                                      try clear q16
                                      try clear hx16
                                      try clear c17
                                      try clear c18
                                      try clear c18b0
                                      try clear c18b1
                                      try clear c18b2
                                      try clear c20
                                      try clear c20b0
                                      try clear c20b1
                                      try clear c20b2
                                      try clear c21
                                      try clear c21b0
                                      try clear c21b1
                                      try clear c21b2
                                      try clear c29
                                      try clear c29b0
                                      try clear c30
                                      try clear c30b0
                                      try clear c31
                                      try clear c31b0
                                      try clear c33
                                      try clear c33b0
                                      try clear c34
                                      try clear c34b0
                                      try clear c34b1
                                      try clear c34b2
                                      try clear hcz12_0
                                      try clear hcz12_1
                                      try clear hcz12_2
                                      try clear hfz12_0
                                      try clear hfz12_1
                                      try clear hfz12_2
                                      try clear hx163_0
                                      try clear p1
                                      try clear p16
                                      try clear p163
                                      try clear p2
                                      try clear p6
                                      try clear q1
                                      try clear q16
                                      try clear q163
                                      obtain ⟨kq, x9_31, rfl, HA, HJ31, HO_154001, HO_154002, BK153, HB⟩ := hcut
                                      cases kq with
                                      | zero => exact absurd HA.out (by simp [templelaw5_ShowRows.j3])
                                      | succ kj31 =>
                                        have H := HA.out
                                        clear HA
                                        simp only [templelaw5_ShowRows.j3] at H
                                        have H' := Aside0.mk H
                                        clear H
                                        go_wp2_with (first | ((with_reducible refine gate_dst (N := 13) rfl ?_); refine box_event ?hg (N := 13) ?hd (cs := #[.int .i64 0, .slice none 0 0]) (t := 44) ?hr ?_; (case hd => rfl); (case hg => rfl); (case hr => first | (go_simp; done) | (go_simp; rfl)); intro gb164 hg w35 hbox hb; have n0_ := Aside0.mk (Kd.R_below (by (with_reducible repeat (first | apply Kd.R_alloc | apply Kd.R_drewN | apply Kd.R_drew)); exact HO_154001.out) hb); have n1_ := Aside0.mk (Kd.R_below (Kd.R_elderB (by (with_reducible repeat (first | apply Kd.R_alloc | apply Kd.R_drewN | apply Kd.R_drew)); exact HO_154002.out) gb164 (Nat.le_of_eq hg.symm)) hb); have n2_ := Aside0.mk (blk_below (g := gb153) (o := .cells #[.int .i64 (wrap64 (Int.tmod (IntKind.u64.wrap (a2)) (IntKind.u64.wrap (wrap64 (1 + (Go.bits .and .i64 (l0.length : Int) 3)))))), .slice Ao26 y159.length co26, u154002] 25 (0, 0)) (by (with_reducible repeat (first | refine blk_drewN ?_ _ | refine blk_drew ?_ | refine blk_alloc ?_ _)); exact BK153.out) hb); have n3_ := Aside0.mk (below_step (by repeat (first | (with_reducible first | exact HB.out | apply below_alloc | apply pw_below_drewN | apply below_drew1 | refine below_set ?_ GE153.out) | exact HB.out)) hb); have n4_ := Aside0.mk (hbox); have n5_ := Aside0.mk ((by rw [hg]; exact (below_size (by repeat (first | (with_reducible first | exact HB.out | apply below_alloc | apply pw_below_drewN | apply below_drew1 | refine below_set ?_ GE153.out) | exact HB.out))) : w.heap.size ≤ gb164)); have n6_ := Aside0.mk ((by rw [hg]; exact (below_size (by repeat (first | (with_reducible first | exact HB.out | apply below_alloc | apply pw_below_drewN | apply below_drew1 | refine below_set ?_ GE153.out) | exact HB.out))) : w.heap.size ≤ gb164)); have n7_ := Aside0.mk ((by rw [hg]; exact Nat.ne_of_lt (blk_lt (g := gb153) (o := .cells #[.int .i64 (wrap64 (Int.tmod (IntKind.u64.wrap (a2)) (IntKind.u64.wrap (wrap64 (1 + (Go.bits .and .i64 (l0.length : Int) 3)))))), .slice Ao26 y159.length co26, u154002] 25 (0, 0)) (by (with_reducible repeat (first | refine blk_drewN ?_ _ | refine blk_drew ?_ | refine blk_alloc ?_ _)); exact BK153.out)) : gb153 ≠ gb164)); have n8_ := Aside0.mk ((by rw [hg]; exact Nat.ne_of_gt (blk_lt (g := gb153) (o := .cells #[.int .i64 (wrap64 (Int.tmod (IntKind.u64.wrap (a2)) (IntKind.u64.wrap (wrap64 (1 + (Go.bits .and .i64 (l0.length : Int) 3)))))), .slice Ao26 y159.length co26, u154002] 25 (0, 0)) (by (with_reducible repeat (first | refine blk_drewN ?_ _ | refine blk_drew ?_ | refine blk_alloc ?_ _)); exact BK153.out)) : gb164 ≠ gb153)); clear HO_154001; clear HO_154002; clear BK153; clear HB; have HO_154001 := n0_; have HO_154002 := n1_; have BK153 := n2_; have HB := n3_; have BK164 := n4_; have GW164 := n5_; have GE164 := n6_; have NB153_164 := n7_; have NB164_153 := n8_; clear n0_ n1_ n2_ n3_ n4_ n5_ n6_ n7_ n8_; clear hb hbox hg; have hnb36 := NB164_153.out; have hnc36 := NB153_164.out; have hcz37_0 : w35.cell? ⟨gb164, 0, none⟩ = some (.int .i64 0) := (blk_cell BK164.out 0).trans rfl; have hcz37_1 : w35.cell? ⟨gb164, 1, none⟩ = some (.slice none 0 0) := (blk_cell BK164.out 1).trans rfl; have hfz37_0 := blk_frozen BK164.out 0; have hfz37_1 := blk_frozen BK164.out 1))
                                        go_loopg [9, 14] kj31 (fun kq v9 v14 w' => ∃ (x9_5 : ByteArray) (x14_5 : Int) (x165001_5 : List (S41)) (u165001 : Value), v9 = .string x9_5 ∧ v14 = .int .i64 x14_5 ∧ Aside0 (templelaw5_ShowRows.l2 kq l0 a1 (wrap64 (1 + (Go.bits .and .i64 (l0.length : Int) 3))) x9_5 x10_1 x11_21 x12_3 x14_5 (wrap64 (Int.tmod (IntKind.u64.wrap (a2)) (IntKind.u64.wrap (wrap64 (1 + (Go.bits .and .i64 (l0.length : Int) 3)))))) y159 x154002_3 x10_1 x165001_5 = some r) ∧ Aside0 (kq ≤ kj31) ∧ Aside0 (Kd.R Kd.string 9 w' w.heap.size (fun _ => True) (.slice Ao26 y159.length co26) y159) ∧ Aside0 (Kd.R k44 44 w' w.heap.size (fun k_ => some k_ ≠ (u165001 : Value).ownBlock ∧ k_ ≠ gb164) u154002 x154002_3) ∧ Aside0 (Kd.S k41 41 w' w.heap.size (fun _ => True) u165001 x165001_5) ∧ Aside0 (w'.heap[gb153]? = some (.cells #[.int .i64 (wrap64 (Int.tmod (IntKind.u64.wrap (a2)) (IntKind.u64.wrap (wrap64 (1 + (Go.bits .and .i64 (l0.length : Int) 3)))))), (.slice Ao26 y159.length co26), u154002] 25 (0, 0))) ∧ Aside0 (w'.heap[gb164]? = some (.cells #[.int .i64 x10_1, u165001] 44 (0, 0))) ∧ Aside0 (Below w.heap.size w w'))
                                        case atStart => exact ⟨(x9_31), (0), (([] : List (S41))), (.slice none 0 0), (by first | rfl | (simp; done) | (simp [i64_w]; done) | (simp [*]; done) | (simp [*, i64_w]; done) | (simp [*]; unfold wrap64; omega)), (by first | rfl | (simp; done) | (simp [i64_w]; done) | (simp [*]; done) | (simp [*, i64_w]; done) | (simp [*]; unfold wrap64; omega)), H', ⟨Nat.le_refl _⟩, ⟨by (with_reducible repeat (first | apply Kd.R_alloc | apply Kd.R_drewN | apply Kd.R_drew)); exact Kd.R_mono (Kd.R_far (p := ⟨gb164, 1, none⟩) (Kd.R_far (p := ⟨gb164, 0, none⟩) (Kd.R_types HO_154001.out BK164.out (by decide)) (fun _ hk => hk.2) (.int .i64 x10_1)) (fun _ hk => hk.2) (.slice none 0 0)) (fun _ hk => trivial)⟩, ⟨by (with_reducible repeat (first | apply Kd.R_alloc | apply Kd.R_drewN | apply Kd.R_drew)); exact Kd.R_mono (Kd.R_far (p := ⟨gb164, 1, none⟩) (Kd.R_far (p := ⟨gb164, 0, none⟩) (Kd.R_mono HO_154002.out (fun k_ hk => (⟨hk, hk.2⟩ : _ ∧ k_ ≠ gb164))) (fun _ hk => hk.2) (.int .i64 x10_1)) (fun _ hk => hk.2) (.slice none 0 0)) (fun _ hk => ⟨(by simp [Value.ownBlock]), hk.1.2⟩)⟩, ⟨by first | exact Kd.S_nil _ _ _ _ _ | exact Kd.N_nil _ _ _ _ _ | exact Kd.V_nil _ _ _ _ _ | exact Kd.Q_nil _ _ _ _ _ | exact Kd.R_nil _ _ _ _ _⟩, ⟨by (with_reducible repeat (first | refine blk_drewN ?_ _ | refine blk_drew ?_ | refine blk_alloc ?_ _)); refine blk_far ?_ NB153_164.out _; (with_reducible repeat (first | refine blk_drewN ?_ _ | refine blk_drew ?_ | refine blk_alloc ?_ _)); refine blk_far ?_ NB153_164.out _; (with_reducible repeat (first | refine blk_drewN ?_ _ | refine blk_drew ?_ | refine blk_alloc ?_ _)); exact BK153.out⟩, ⟨by (with_reducible repeat (first | refine blk_drewN ?_ _ | refine blk_drew ?_ | refine blk_alloc ?_ _)); refine blk_put (cs := #[.int .i64 x10_1, .slice none 0 0]) ?_ 1 _ rfl; (with_reducible repeat (first | refine blk_drewN ?_ _ | refine blk_drew ?_ | refine blk_alloc ?_ _)); refine blk_put (cs := #[.int .i64 0, .slice none 0 0]) ?_ 0 _ rfl; (with_reducible repeat (first | refine blk_drewN ?_ _ | refine blk_drew ?_ | refine blk_alloc ?_ _)); exact BK164.out⟩, ⟨by repeat (first | (with_reducible first | exact HB.out | apply below_alloc | apply pw_below_drewN | apply below_drew1 | refine below_set ?_ GE153.out | refine below_set ?_ GE164.out) | exact HB.out)⟩⟩
                                        case round =>
                                          clear H'
                                          try clear c1
                                          try clear p1
                                          try clear q1
                                          try clear hx1
                                          try clear c2
                                          try clear p2
                                          try clear c3
                                          try clear c5
                                          try clear c6
                                          try clear c6b0
                                          try clear c6b1
                                          try clear p6
                                          try clear c7
                                          try clear c8
                                          try clear c8b0
                                          try clear c8b1
                                          try clear c8b2
                                          try clear c9
                                          try clear c9b0
                                          try clear c9b1
                                          try clear c9b2
                                          try clear c14
                                          try clear c14b0
                                          try clear c15
                                          try clear c16
                                          try clear c16b0
                                          try clear c16b1
                                          try clear c16b2
                                          try clear p16
                                          try clear q16
                                          try clear hx16
                                          try clear c17
                                          try clear c18
                                          try clear c18b0
                                          try clear c18b1
                                          try clear c18b2
                                          try clear c20
                                          try clear c20b0
                                          try clear c20b1
                                          try clear c20b2
                                          try clear c21
                                          try clear c21b0
                                          try clear c21b1
                                          try clear c21b2
                                          try clear c29
                                          try clear c29b0
                                          try clear c30
                                          try clear c30b0
                                          try clear c31
                                          try clear c31b0
                                          try clear c33
                                          try clear c33b0
                                          try clear c34
                                          try clear c34b0
                                          try clear c34b1
                                          try clear c34b2
                                          try clear c36
                                          try clear hcz12_0
                                          try clear hcz12_1
                                          try clear hcz12_2
                                          try clear hcz37_0
                                          try clear hcz37_1
                                          try clear hfz12_0
                                          try clear hfz12_1
                                          try clear hfz12_2
                                          try clear hfz37_0
                                          try clear hfz37_1
                                          try clear hx163_0
                                          try clear p1
                                          try clear p16
                                          try clear p163
                                          try clear p2
                                          try clear p6
                                          try clear q1
                                          try clear q16
                                          try clear q163
                                          obtain ⟨x9_5, x14_5, x165001_5, u165001, rfl, rfl, HA, HK5, HO_154001, HO_154002, HO_165001, BK153, BK164, HB⟩ := hrel
                                          cases gk with
                                          | zero => exact absurd HA.out (by simp [templelaw5_ShowRows.l2])
                                          | succ k5 =>
                                            have H := HA.out
                                            clear HA
                                            simp only [templelaw5_ShowRows.l2] at H
                                            by_cases c38 : 0 ≤ x10_1
                                            · rw [if_pos c38] at H
                                              have c38b0 := eq_true c38
                                              have c38b1 : decide (0 ≤ x10_1) = true := decide_eq_true c38
                                              clear c38
                                              obtain ⟨ji39, hji39⟩ : ∃ j_ : Int, (shr .i64 a1 x10_1) = j_ := ⟨_, rfl⟩
                                              replace H : (if x14_5 ≤ (Go.bits .and .i64 (ji39) 3) then (if x14_5 > 0 then (if x9_5.size + 3 ≤ 9223372036854775807 then (if (Go.bits .and .i64 (wrap64 (x14_5 + x12_3)) 1) = 1 then (if (x9_5 ++ (⟨#[32, 38, 32]⟩ : ByteArray)).size + 1 ≤ 9223372036854775807 then (if ((x9_5 ++ (⟨#[32, 38, 32]⟩ : ByteArray)) ++ (⟨#[126]⟩ : ByteArray)).size + 1 ≤ 9223372036854775807 then ((templeref0_Decimal.f k5 x10_1).bind fun t168 => (if (((x9_5 ++ (⟨#[32, 38, 32]⟩ : ByteArray)) ++ (⟨#[126]⟩ : ByteArray)) ++ (⟨#[110]⟩ : ByteArray)).size + t168.size ≤ 9223372036854775807 then (if ((((x9_5 ++ (⟨#[32, 38, 32]⟩ : ByteArray)) ++ (⟨#[126]⟩ : ByteArray)) ++ (⟨#[110]⟩ : ByteArray)) ++ t168).size + 5 ≤ 9223372036854775807 then (if x165001_5.length < 4398046511104 then (templelaw5_ShowRows.l2 k5 l0 a1 (wrap64 (1 + (Go.bits .and .i64 (l0.length : Int) 3))) (((((x9_5 ++ (⟨#[32, 38, 32]⟩ : ByteArray)) ++ (⟨#[126]⟩ : ByteArray)) ++ (⟨#[110]⟩ : ByteArray)) ++ t168) ++ (⟨#[32, 34, 120, 121, 34]⟩ : ByteArray)) x10_1 x11_21 x12_3 (wrap64 (x14_5 + 1)) (wrap64 (Int.tmod (IntKind.u64.wrap (a2)) (IntKind.u64.wrap (wrap64 (1 + (Go.bits .and .i64 (l0.length : Int) 3)))))) y159 x154002_3 x10_1 (x165001_5 ++ [(⟨((Go.bits .and .i64 (wrap64 (x14_5 + x12_3)) 1) == 1), (([(⟨x10_1, 0, 0⟩ : S38), (⟨(-1), 120, 120⟩ : S38), (⟨(-1), 121, 121⟩ : S38)] : List (S38)))⟩ : S41)])) else (none)) else (none)) else (none))) else (none)) else (none)) else (if (x9_5 ++ (⟨#[32, 38, 32]⟩ : ByteArray)).size + 1 ≤ 9223372036854775807 then ((templeref0_Decimal.f k5 x10_1).bind fun t175 => (if ((x9_5 ++ (⟨#[32, 38, 32]⟩ : ByteArray)) ++ (⟨#[110]⟩ : ByteArray)).size + t175.size ≤ 9223372036854775807 then (if (((x9_5 ++ (⟨#[32, 38, 32]⟩ : ByteArray)) ++ (⟨#[110]⟩ : ByteArray)) ++ t175).size + 5 ≤ 9223372036854775807 then (if x165001_5.length < 4398046511104 then (templelaw5_ShowRows.l2 k5 l0 a1 (wrap64 (1 + (Go.bits .and .i64 (l0.length : Int) 3))) ((((x9_5 ++ (⟨#[32, 38, 32]⟩ : ByteArray)) ++ (⟨#[110]⟩ : ByteArray)) ++ t175) ++ (⟨#[32, 34, 120, 121, 34]⟩ : ByteArray)) x10_1 x11_21 x12_3 (wrap64 (x14_5 + 1)) (wrap64 (Int.tmod (IntKind.u64.wrap (a2)) (IntKind.u64.wrap (wrap64 (1 + (Go.bits .and .i64 (l0.length : Int) 3)))))) y159 x154002_3 x10_1 (x165001_5 ++ [(⟨((Go.bits .and .i64 (wrap64 (x14_5 + x12_3)) 1) == 1), (([(⟨x10_1, 0, 0⟩ : S38), (⟨(-1), 120, 120⟩ : S38), (⟨(-1), 121, 121⟩ : S38)] : List (S38)))⟩ : S41)])) else (none)) else (none)) else (none))) else (none))) else (none)) else (if (Go.bits .and .i64 (wrap64 (x14_5 + x12_3)) 1) = 1 then (if x9_5.size + 1 ≤ 9223372036854775807 then (if (x9_5 ++ (⟨#[126]⟩ : ByteArray)).size + 1 ≤ 9223372036854775807 then ((templeref0_Decimal.f k5 x10_1).bind fun t182 => (if ((x9_5 ++ (⟨#[126]⟩ : ByteArray)) ++ (⟨#[110]⟩ : ByteArray)).size + t182.size ≤ 9223372036854775807 then (if (((x9_5 ++ (⟨#[126]⟩ : ByteArray)) ++ (⟨#[110]⟩ : ByteArray)) ++ t182).size + 5 ≤ 9223372036854775807 then (if x165001_5.length < 4398046511104 then (templelaw5_ShowRows.l2 k5 l0 a1 (wrap64 (1 + (Go.bits .and .i64 (l0.length : Int) 3))) ((((x9_5 ++ (⟨#[126]⟩ : ByteArray)) ++ (⟨#[110]⟩ : ByteArray)) ++ t182) ++ (⟨#[32, 34, 120, 121, 34]⟩ : ByteArray)) x10_1 x11_21 x12_3 (wrap64 (x14_5 + 1)) (wrap64 (Int.tmod (IntKind.u64.wrap (a2)) (IntKind.u64.wrap (wrap64 (1 + (Go.bits .and .i64 (l0.length : Int) 3)))))) y159 x154002_3 x10_1 (x165001_5 ++ [(⟨((Go.bits .and .i64 (wrap64 (x14_5 + x12_3)) 1) == 1), (([(⟨x10_1, 0, 0⟩ : S38), (⟨(-1), 120, 120⟩ : S38), (⟨(-1), 121, 121⟩ : S38)] : List (S38)))⟩ : S41)])) else (none)) else (none)) else (none))) else (none)) else (none)) else (if x9_5.size + 1 ≤ 9223372036854775807 then ((templeref0_Decimal.f k5 x10_1).bind fun t189 => (if (x9_5 ++ (⟨#[110]⟩ : ByteArray)).size + t189.size ≤ 9223372036854775807 then (if ((x9_5 ++ (⟨#[110]⟩ : ByteArray)) ++ t189).size + 5 ≤ 9223372036854775807 then (if x165001_5.length < 4398046511104 then (templelaw5_ShowRows.l2 k5 l0 a1 (wrap64 (1 + (Go.bits .and .i64 (l0.length : Int) 3))) (((x9_5 ++ (⟨#[110]⟩ : ByteArray)) ++ t189) ++ (⟨#[32, 34, 120, 121, 34]⟩ : ByteArray)) x10_1 x11_21 x12_3 (wrap64 (x14_5 + 1)) (wrap64 (Int.tmod (IntKind.u64.wrap (a2)) (IntKind.u64.wrap (wrap64 (1 + (Go.bits .and .i64 (l0.length : Int) 3)))))) y159 x154002_3 x10_1 (x165001_5 ++ [(⟨((Go.bits .and .i64 (wrap64 (x14_5 + x12_3)) 1) == 1), (([(⟨x10_1, 0, 0⟩ : S38), (⟨(-1), 120, 120⟩ : S38), (⟨(-1), 121, 121⟩ : S38)] : List (S38)))⟩ : S41)])) else (none)) else (none)) else (none))) else (none)))) else (if x154002_3.length < 4398046511104 then (templelaw5_ShowRows.l1 k5 l0 a1 (wrap64 (1 + (Go.bits .and .i64 (l0.length : Int) 3))) x9_5 x10_1 x11_21 (wrap64 (x12_3 + 1)) (wrap64 (Int.tmod (IntKind.u64.wrap (a2)) (IntKind.u64.wrap (wrap64 (1 + (Go.bits .and .i64 (l0.length : Int) 3)))))) y159 (x154002_3 ++ [(⟨x10_1, x165001_5⟩ : S44)])) else (none))) = some r := by first | (rw [hji39] at H; exact H) | (simp only [hji39] at H ⊢; exact H)
                                              have hji39_ : (a1 / 2 ^ min x10_1.toNat 64) = ji39 := hji39
                                              have hji39z : x10_1 ≤ 64 → (a1 / 2 ^ x10_1.toNat) = ji39 := shr_small hji39
                                              by_cases c40 : x14_5 ≤ (Go.bits .and .i64 (ji39) 3)
                                              · rw [if_pos c40] at H
                                                have c40b0 : decide (x14_5 ≤ (Go.bits .and .i64 (ji39) 3)) = true := decide_eq_true c40
                                                clear c40
                                                by_cases c41 : x14_5 > 0
                                                · rw [if_pos c41] at H
                                                  have c41b0 : decide (0 < x14_5) = true := decide_eq_true c41
                                                  clear c41
                                                  by_cases c42 : x9_5.size + 3 ≤ 9223372036854775807
                                                  · rw [if_pos c42] at H
                                                    have c42b0 := eq_true c42
                                                    have c42b1 : decide (x9_5.size + 3 ≤ 9223372036854775807) = true := decide_eq_true c42
                                                    try have c42b2 : (9223372036854775807 < x9_5.size + 3) = False := eq_false (Nat.not_lt.2 c42)
                                                    by_cases c43 : (Go.bits .and .i64 (wrap64 (x14_5 + x12_3)) 1) = 1
                                                    · rw [if_pos c43] at H
                                                      have c43b0 : ((Go.bits .and .i64 (wrap64 (x14_5 + x12_3)) 1) == 1) = true := beq_iff_eq.mpr c43
                                                      rw [c43b0] at H
                                                      have c43b1 : ((Go.bits .and .i64 (wrap64 (x14_5 + x12_3)) 1) != 1) = false := bne_eq_false_iff_eq.mpr c43
                                                      clear c43
                                                      by_cases c44 : (x9_5 ++ (⟨#[32, 38, 32]⟩ : ByteArray)).size + 1 ≤ 9223372036854775807
                                                      · rw [if_pos c44] at H
                                                        have c44b0 := eq_true c44
                                                        have c44b1 : decide ((x9_5 ++ (⟨#[32, 38, 32]⟩ : ByteArray)).size + 1 ≤ 9223372036854775807) = true := decide_eq_true c44
                                                        try have c44b2 : (9223372036854775807 < (x9_5 ++ (⟨#[32, 38, 32]⟩ : ByteArray)).size + 1) = False := eq_false (Nat.not_lt.2 c44)
                                                        try have c44b3 : (9223372036854775807 < x9_5.size + 3 + 1) = False := eq_false (by have q_ := c44; have z0_ : (⟨#[32, 38, 32]⟩ : ByteArray).size = 3 := rfl; (try simp only [ByteArray.size_append, ByteArray.size_extract] at q_); omega)
                                                        by_cases c45 : ((x9_5 ++ (⟨#[32, 38, 32]⟩ : ByteArray)) ++ (⟨#[126]⟩ : ByteArray)).size + 1 ≤ 9223372036854775807
                                                        · rw [if_pos c45] at H
                                                          have c45b0 := eq_true c45
                                                          have c45b1 : decide (((x9_5 ++ (⟨#[32, 38, 32]⟩ : ByteArray)) ++ (⟨#[126]⟩ : ByteArray)).size + 1 ≤ 9223372036854775807) = true := decide_eq_true c45
                                                          try have c45b2 : (9223372036854775807 < ((x9_5 ++ (⟨#[32, 38, 32]⟩ : ByteArray)) ++ (⟨#[126]⟩ : ByteArray)).size + 1) = False := eq_false (Nat.not_lt.2 c45)
                                                          try have c45b3 : (9223372036854775807 < x9_5.size + 3 + 1 + 1) = False := eq_false (by have q_ := c45; have z0_ : (⟨#[126]⟩ : ByteArray).size = 1 := rfl; have z1_ : (⟨#[32, 38, 32]⟩ : ByteArray).size = 3 := rfl; (try simp only [ByteArray.size_append, ByteArray.size_extract] at q_); omega)
                                                          replace H := Option.bind_eq_some_iff.mp H
                                                          obtain ⟨t168, A460, H⟩ := H
                                                          replace H : (if (((x9_5 ++ (⟨#[32, 38, 32]⟩ : ByteArray)) ++ (⟨#[126]⟩ : ByteArray)) ++ (⟨#[110]⟩ : ByteArray)).size + t168.size ≤ 9223372036854775807 then (if ((((x9_5 ++ (⟨#[32, 38, 32]⟩ : ByteArray)) ++ (⟨#[126]⟩ : ByteArray)) ++ (⟨#[110]⟩ : ByteArray)) ++ t168).size + 5 ≤ 9223372036854775807 then (if x165001_5.length < 4398046511104 then (templelaw5_ShowRows.l2 k5 l0 a1 (wrap64 (1 + (Go.bits .and .i64 (l0.length : Int) 3))) (((((x9_5 ++ (⟨#[32, 38, 32]⟩ : ByteArray)) ++ (⟨#[126]⟩ : ByteArray)) ++ (⟨#[110]⟩ : ByteArray)) ++ t168) ++ (⟨#[32, 34, 120, 121, 34]⟩ : ByteArray)) x10_1 x11_21 x12_3 (wrap64 (x14_5 + 1)) (wrap64 (Int.tmod (IntKind.u64.wrap (a2)) (IntKind.u64.wrap (wrap64 (1 + (Go.bits .and .i64 (l0.length : Int) 3)))))) y159 x154002_3 x10_1 (x165001_5 ++ [(⟨(true), (([(⟨x10_1, 0, 0⟩ : S38), (⟨(-1), 120, 120⟩ : S38), (⟨(-1), 121, 121⟩ : S38)] : List (S38)))⟩ : S41)])) else (none)) else (none)) else (none)) = some r := H
                                                          have A46 := Aside0.mk A460
                                                          clear A460
                                                          by_cases c47 : (((x9_5 ++ (⟨#[32, 38, 32]⟩ : ByteArray)) ++ (⟨#[126]⟩ : ByteArray)) ++ (⟨#[110]⟩ : ByteArray)).size + t168.size ≤ 9223372036854775807
                                                          · rw [if_pos c47] at H
                                                            have c47b0 := eq_true c47
                                                            have c47b1 : decide ((((x9_5 ++ (⟨#[32, 38, 32]⟩ : ByteArray)) ++ (⟨#[126]⟩ : ByteArray)) ++ (⟨#[110]⟩ : ByteArray)).size + t168.size ≤ 9223372036854775807) = true := decide_eq_true c47
                                                            try have c47b2 : (9223372036854775807 < (((x9_5 ++ (⟨#[32, 38, 32]⟩ : ByteArray)) ++ (⟨#[126]⟩ : ByteArray)) ++ (⟨#[110]⟩ : ByteArray)).size + t168.size) = False := eq_false (Nat.not_lt.2 c47)
                                                            try have c47b3 : (9223372036854775807 < x9_5.size + 3 + 1 + 1 + t168.size) = False := eq_false (by have q_ := c47; have z0_ : (⟨#[110]⟩ : ByteArray).size = 1 := rfl; have z1_ : (⟨#[126]⟩ : ByteArray).size = 1 := rfl; have z2_ : (⟨#[32, 38, 32]⟩ : ByteArray).size = 3 := rfl; (try simp only [ByteArray.size_append, ByteArray.size_extract] at q_); omega)
                                                            by_cases c48 : ((((x9_5 ++ (⟨#[32, 38, 32]⟩ : ByteArray)) ++ (⟨#[126]⟩ : ByteArray)) ++ (⟨#[110]⟩ : ByteArray)) ++ t168).size + 5 ≤ 9223372036854775807
                                                            · rw [if_pos c48] at H
                                                              have c48b0 := eq_true c48
                                                              have c48b1 : decide (((((x9_5 ++ (⟨#[32, 38, 32]⟩ : ByteArray)) ++ (⟨#[126]⟩ : ByteArray)) ++ (⟨#[110]⟩ : ByteArray)) ++ t168).size + 5 ≤ 9223372036854775807) = true := decide_eq_true c48
                                                              try have c48b2 : (9223372036854775807 < ((((x9_5 ++ (⟨#[32, 38, 32]⟩ : ByteArray)) ++ (⟨#[126]⟩ : ByteArray)) ++ (⟨#[110]⟩ : ByteArray)) ++ t168).size + 5) = False := eq_false (Nat.not_lt.2 c48)
                                                              try have c48b3 : (9223372036854775807 < x9_5.size + 3 + 1 + 1 + t168.size + 5) = False := eq_false (by have q_ := c48; have z0_ : (⟨#[110]⟩ : ByteArray).size = 1 := rfl; have z1_ : (⟨#[126]⟩ : ByteArray).size = 1 := rfl; have z2_ : (⟨#[32, 38, 32]⟩ : ByteArray).size = 3 := rfl; (try simp only [ByteArray.size_append, ByteArray.size_extract] at q_); omega)
                                                              obtain ⟨y169, hy169⟩ : ∃ y_ : List (S38), y_ = (([(⟨x10_1, 0, 0⟩ : S38), (⟨(-1), 120, 120⟩ : S38), (⟨(-1), 121, 121⟩ : S38)] : List (S38))) := ⟨_, rfl⟩
                                                              replace H : (if x165001_5.length < 4398046511104 then (templelaw5_ShowRows.l2 k5 l0 a1 (wrap64 (1 + (Go.bits .and .i64 (l0.length : Int) 3))) (((((x9_5 ++ (⟨#[32, 38, 32]⟩ : ByteArray)) ++ (⟨#[126]⟩ : ByteArray)) ++ (⟨#[110]⟩ : ByteArray)) ++ t168) ++ (⟨#[32, 34, 120, 121, 34]⟩ : ByteArray)) x10_1 x11_21 x12_3 (wrap64 (x14_5 + 1)) (wrap64 (Int.tmod (IntKind.u64.wrap (a2)) (IntKind.u64.wrap (wrap64 (1 + (Go.bits .and .i64 (l0.length : Int) 3)))))) y159 x154002_3 x10_1 (x165001_5 ++ [(⟨(true), y169⟩ : S41)])) else (none)) = some r := by first | (rw [hy169]; with_reducible exact H) | (have H2_ := (Option.bind_some _ _).symm.trans H; rw [hy169]; with_reducible exact H2_) | (have H2_ := (Option.bind_some _ _).symm.trans H; with_reducible exact H2_) | with_reducible exact H | (rw [hy169]; exact H) | exact H
                                                              have Ny169 := Aside0.mk hy169
                                                              clear hy169
                                                              by_cases c49 : x165001_5.length < 4398046511104
                                                              · rw [if_pos c49] at H
                                                                have LMc49 := Aside0.mk c49
                                                                clear c49
                                                                obtain ⟨y172, hy172⟩ : ∃ y_ : List (S41), y_ = (x165001_5 ++ [(⟨(true), y169⟩ : S41)]) := ⟨_, rfl⟩
                                                                replace H : (templelaw5_ShowRows.l2 k5 l0 a1 (wrap64 (1 + (Go.bits .and .i64 (l0.length : Int) 3))) (((((x9_5 ++ (⟨#[32, 38, 32]⟩ : ByteArray)) ++ (⟨#[126]⟩ : ByteArray)) ++ (⟨#[110]⟩ : ByteArray)) ++ t168) ++ (⟨#[32, 34, 120, 121, 34]⟩ : ByteArray)) x10_1 x11_21 x12_3 (wrap64 (x14_5 + 1)) (wrap64 (Int.tmod (IntKind.u64.wrap (a2)) (IntKind.u64.wrap (wrap64 (1 + (Go.bits .and .i64 (l0.length : Int) 3)))))) y159 x154002_3 x10_1 y172) = some r := by first | (rw [hy172]; with_reducible exact H) | (have H2_ := (Option.bind_some _ _).symm.trans H; rw [hy172]; with_reducible exact H2_) | (have H2_ := (Option.bind_some _ _).symm.trans H; with_reducible exact H2_) | with_reducible exact H | (rw [hy172]; exact H) | exact H
                                                                have Ny172 := Aside0.mk hy172
                                                                clear hy172
                                                                have H' := Aside0.mk H
                                                                clear H
                                                                go_wp2_with (first | ((with_reducible refine gate_callee (f := 15) rfl ?_); refine goesL_ (some 99) rfl rfl Try.func15 (by kernel_rfl) rfl #[.int .i64 x10_1] rfl (by (try simp only [List.map_toArray, List.map_cons, List.map_nil]); first | done | rfl | (simp only [List.length_drop, List.length_take]; rfl)) ?_; (with_reducible refine (templeref0_Decimal.calls k5 x10_1 t168 _ A46.out).mono ?_); rintro e w50 ⟨rfl, hb⟩; refine ⟨_, rfl, ?_⟩; have n0_ := Aside0.mk (Kd.R_below (by (with_reducible repeat (first | apply Kd.R_alloc | apply Kd.R_drewN | apply Kd.R_drew)); exact HO_154001.out) hb); have n1_ := Aside0.mk (Kd.R_below (by (with_reducible repeat (first | apply Kd.R_alloc | apply Kd.R_drewN | apply Kd.R_drew)); exact HO_154002.out) hb); have n2_ := Aside0.mk (Kd.S_below (by (with_reducible repeat (first | apply Kd.S_alloc | apply Kd.S_drewN | apply Kd.S_drew)); exact HO_165001.out) hb); have n3_ := Aside0.mk (blk_below (g := gb153) (o := .cells #[.int .i64 (wrap64 (Int.tmod (IntKind.u64.wrap (a2)) (IntKind.u64.wrap (wrap64 (1 + (Go.bits .and .i64 (l0.length : Int) 3)))))), .slice Ao26 y159.length co26, u154002] 25 (0, 0)) (by (with_reducible repeat (first | refine blk_drewN ?_ _ | refine blk_drew ?_ | refine blk_alloc ?_ _)); exact BK153.out) hb); have n4_ := Aside0.mk (blk_below (g := gb164) (o := .cells #[.int .i64 x10_1, u165001] 44 (0, 0)) (by (with_reducible repeat (first | refine blk_drewN ?_ _ | refine blk_drew ?_ | refine blk_alloc ?_ _)); exact BK164.out) hb); have n5_ := Aside0.mk (below_step (by repeat (first | (with_reducible first | exact HB.out | apply below_alloc | apply pw_below_drewN | apply below_drew1 | refine below_set ?_ GE153.out | refine below_set ?_ GE164.out) | exact HB.out)) hb); clear HO_154001; clear HO_154002; clear HO_165001; clear BK153; clear BK164; clear HB; have HO_154001 := n0_; have HO_154002 := n1_; have HO_165001 := n2_; have BK153 := n3_; have BK164 := n4_; have HB := n5_; clear n0_ n1_ n2_ n3_ n4_ n5_; (try clear hb); (try clear hb2); (try clear hk); (try clear hi); have hnb51 := NB164_153.out; have hnc51 := NB153_164.out; have hcz52_0 : w50.cell? ⟨gb164, 0, none⟩ = some (.int .i64 x10_1) := (blk_cell BK164.out 0).trans rfl; have hcz52_1 : w50.cell? ⟨gb164, 1, none⟩ = some (u165001) := (blk_cell BK164.out 1).trans rfl; have hfz52_0 := blk_frozen BK164.out 0; have hfz52_1 := blk_frozen BK164.out 1) | ((with_reducible refine gate_dst (N := 109) rfl ?_); refine Kd.R_lit k38 _ 38 ?hg (N := 109) ?hd (xs := ([(⟨x10_1, 0, 0⟩ : S38), (⟨(-1), 120, 120⟩ : S38), (⟨(-1), 121, 121⟩ : S38)] : List (S38))) (inner := [.int .i64 x10_1, .int .i64 0, .int .i64 0, .int .i64 (-1), .int .i64 120, .int .i64 120, .int .i64 (-1), .int .i64 121, .int .i64 121]) (ok := fun _ => True) (okp := fun _ => True) ?hr ?hp (fun _ hk => hk) trivial (Below.refl _ _) (Nat.le_refl _) (by simp) ?_; (case hd => rfl); (case hg => rfl); (case hr => first | (go_simp; done) | (go_simp; rfl)); (case hp => exact (Reps.c3 (show Kd.M k38 _ _ _ (⟨x10_1, 0, 0⟩ : S38) [.int .i64 x10_1, .int .i64 0, .int .i64 0] from (k38_mkM _ _ _ (⟨x10_1, 0, 0⟩ : S38) )) (Reps.c3 (show Kd.M k38 _ _ _ (⟨(-1), 120, 120⟩ : S38) [.int .i64 (-1), .int .i64 120, .int .i64 120] from (k38_mkM _ _ _ (⟨(-1), 120, 120⟩ : S38) )) (Reps.c3 (show Kd.M k38 _ _ _ (⟨(-1), 121, 121⟩ : S38) [.int .i64 (-1), .int .i64 121, .int .i64 121] from (k38_mkM _ _ _ (⟨(-1), 121, 121⟩ : S38) )) (Reps.none _ _))))); intro v170 w53 ho54 hb hg_ hnew_; clear hg_ hnew_; (first | rw [← Ny169.out] at ho54 | (simp only [Int.reduceToNat] at ho54; rw [← Ny169.out] at ho54)); have n0_ := Aside0.mk (Kd.R_below (by (with_reducible repeat (first | apply Kd.R_alloc | apply Kd.R_drewN | apply Kd.R_drew)); exact HO_154001.out) hb); have n1_ := Aside0.mk (Kd.R_elder' (by (with_reducible repeat (first | apply Kd.R_alloc | apply Kd.R_drewN | apply Kd.R_drew)); exact HO_154002.out) (Kd.R_base ho54) hb); have n2_ := Aside0.mk (Kd.S_elder' (by (with_reducible repeat (first | apply Kd.S_alloc | apply Kd.S_drewN | apply Kd.S_drew)); exact HO_165001.out) (Kd.R_base ho54) hb); have n3_ := Aside0.mk (Kd.R_lower ho54 (below_size (by repeat (first | (with_reducible first | exact HB.out | apply below_alloc | apply pw_below_drewN | apply below_drew1 | refine below_set ?_ GE153.out | refine below_set ?_ GE164.out) | exact HB.out)))); have n4_ := Aside0.mk (blk_below (g := gb153) (o := .cells #[.int .i64 (wrap64 (Int.tmod (IntKind.u64.wrap (a2)) (IntKind.u64.wrap (wrap64 (1 + (Go.bits .and .i64 (l0.length : Int) 3)))))), .slice Ao26 y159.length co26, u154002] 25 (0, 0)) (by (with_reducible repeat (first | refine blk_drewN ?_ _ | refine blk_drew ?_ | refine blk_alloc ?_ _)); exact BK153.out) hb); have n5_ := Aside0.mk (blk_below (g := gb164) (o := .cells #[.int .i64 x10_1, u165001] 44 (0, 0)) (by (with_reducible repeat (first | refine blk_drewN ?_ _ | refine blk_drew ?_ | refine blk_alloc ?_ _)); exact BK164.out) hb); have n6_ := Aside0.mk (below_step (by repeat (first | (with_reducible first | exact HB.out | apply below_alloc | apply pw_below_drewN | apply below_drew1 | refine below_set ?_ GE153.out | refine below_set ?_ GE164.out) | exact HB.out)) hb); clear HO_154001; clear HO_154002; clear HO_165001; clear BK153; clear BK164; clear HB; have HO_154001 := n0_; have HO_154002 := n1_; have HO_165001 := n2_; have HO171 := n3_; have BK153 := n4_; have BK164 := n5_; have HB := n6_; clear n0_ n1_ n2_ n3_ n4_ n5_ n6_; clear hb ho54; obtain ⟨Ao55, co55, eo55⟩ := Kd.R_slice HO171.out; subst eo55) | ((with_reducible refine gate_builtin (b := .append) (xs := #[.tmp 103, .tmp 111]) rfl ?_); at_builtin; refine Kd.S_append k41 (w0 := w) w.heap.size rfl (.tmp 103) (.tmp 111) 42 41 (.agg #[(.bool false), (.slice none 0 0)]) 32 rfl Try.underlying42 info41 rfl (by decide) (by omega) u165001 x165001_5 (⟨(true), y169⟩ : S41) [.bool (true), .slice Ao55 y169.length co55] (fun _ => True) (fun k_ => some k_ = (.slice Ao55 y169.length co55 : Value).ownBlock) rfl rfl ?aP (fun k_ hk_ => ((Kd.R_mono (ok' := fun k_ => ((fun _ => True)) k_ ∧ some k_ ≠ (u165001 : Value).ownBlock) (Kd.R_apart' (HO171.out) (Kd.S_typed HO_165001.out) (by decide)) (fun k_ hk => ⟨trivial, hk.2⟩))).1 k_ hk_.symm) ?aF ?aO ?aB ?aS ?aL ?_; (case aP => exact k41_mkM _ _ _ (⟨(true), y169⟩ : S41) (Kd.R_mono (Kd.R_tight rfl (Kd.R_mono (ok' := fun k_ => ((fun _ => True)) k_ ∧ some k_ ≠ (u165001 : Value).ownBlock) (Kd.R_apart' (HO171.out) (Kd.S_typed HO_165001.out) (by decide)) (fun k_ hk => ⟨trivial, hk.2⟩))) (fun _ h_ => h_))); (case aB => exact (by repeat (first | (with_reducible first | exact HB.out | apply below_alloc | apply pw_below_drewN | apply below_drew1 | refine below_set ?_ GE153.out | refine below_set ?_ GE164.out) | exact HB.out))); (case aF => exact (fun _ _ => trivial)); (case aO => exact (by (with_reducible repeat (first | apply Kd.S_alloc | apply Kd.S_drewN | apply Kd.S_drew)); exact Kd.S_mono HO_165001.out (fun k_ hk => ⟨trivial, fun e_ => hk.2 e_⟩))); (case aS => exact (below_size (by repeat (first | (with_reducible first | exact HB.out | apply below_alloc | apply pw_below_drewN | apply below_drew1 | refine below_set ?_ GE153.out | refine below_set ?_ GE164.out) | exact HB.out)))); (case aL => have := LMc49.out; omega); intro v173 w56 ho hb hg hat; rw [← Ny172.out] at ho; have n0_ := Aside0.mk (Kd.R_over' (by (with_reducible repeat (first | apply Kd.R_alloc | apply Kd.R_drewN | apply Kd.R_drew)); exact HO_154001.out) (Kd.S_typed (by (with_reducible repeat (first | apply Kd.S_alloc | apply Kd.S_drewN | apply Kd.S_drew)); exact HO_165001.out)) (by decide) hg); have n1_ := Aside0.mk (Kd.R_after (ok := (fun k_ => some k_ ≠ (.slice Ao55 y169.length co55 : Value).ownBlock ∧ k_ ≠ gb164)) (by (with_reducible repeat (first | apply Kd.R_alloc | apply Kd.R_drewN | apply Kd.R_drew)); exact Kd.R_mono HO_154002.out (fun _ hk => ⟨⟨hk.2, hk.1.2⟩, hk.1.1⟩)) hg hat); have n2_ := Aside0.mk (blk_grown (g := gb153) (o := .cells #[.int .i64 (wrap64 (Int.tmod (IntKind.u64.wrap (a2)) (IntKind.u64.wrap (wrap64 (1 + (Go.bits .and .i64 (l0.length : Int) 3)))))), .slice Ao26 y159.length co26, u154002] 25 (0, 0)) (by (with_reducible repeat (first | refine blk_drewN ?_ _ | refine blk_drew ?_ | refine blk_alloc ?_ _)); exact BK153.out) hg (Kd.S_ne HO_165001.out BK153.out (by decide))); have n3_ := Aside0.mk (blk_grown (g := gb164) (o := .cells #[.int .i64 x10_1, u165001] 44 (0, 0)) (by (with_reducible repeat (first | refine blk_drewN ?_ _ | refine blk_drew ?_ | refine blk_alloc ?_ _)); exact BK164.out) hg (Kd.S_ne HO_165001.out BK164.out (by decide))); have n4_ := Aside0.mk (hb); have n5_ := Aside0.mk (ho); clear HO_154001; clear HO_154002; clear BK153; clear BK164; clear HB; clear HO_165001; clear HO171; have HO_154001 := n0_; have HO_154002 := n1_; have BK153 := n2_; have BK164 := n3_; have HB := n4_; have HO174 := n5_; clear n0_ n1_ n2_ n3_ n4_ n5_; clear ho hb hg hat; obtain ⟨Ao57, co57, eo57⟩ := Kd.S_slice HO174.out; subst eo57; have hcz58_0 : w56.cell? ⟨gb164, 0, none⟩ = some (.int .i64 x10_1) := (blk_cell BK164.out 0).trans rfl; have hcz58_1 : w56.cell? ⟨gb164, 1, none⟩ = some (u165001) := (blk_cell BK164.out 1).trans rfl; have hfz58_0 := blk_frozen BK164.out 0; have hfz58_1 := blk_frozen BK164.out 1))
                                                                go_roundg k5
                                                                case measure => have := HK1.out; have := HJ21.out; have := HK3.out; have := HJ31.out; have := HK5.out; omega
                                                                case rel => exact ⟨(((((x9_5 ++ (⟨#[32, 38, 32]⟩ : ByteArray)) ++ (⟨#[126]⟩ : ByteArray)) ++ (⟨#[110]⟩ : ByteArray)) ++ t168) ++ (⟨#[32, 34, 120, 121, 34]⟩ : ByteArray)), (wrap64 (x14_5 + 1)), (y172), (.slice Ao57 y172.length co57), (by first | rfl | (simp; done) | (simp [i64_w]; done) | (simp [*]; done) | (simp [*, i64_w]; done) | (simp [*]; unfold wrap64; omega)), (by first | rfl | (simp; done) | (simp [i64_w]; done) | (simp [*]; done) | (simp [*, i64_w]; done) | (simp [*]; unfold wrap64; omega)), H', ⟨by have := HK1.out; have := HJ21.out; have := HK3.out; have := HJ31.out; have := HK5.out; omega⟩, ⟨by (with_reducible repeat (first | apply Kd.R_alloc | apply Kd.R_drewN | apply Kd.R_drew)); exact Kd.R_mono (Kd.R_far (p := ⟨gb164, 1, none⟩) (Kd.R_types HO_154001.out BK164.out (by decide)) (fun _ hk => hk.2) (.slice Ao57 y172.length co57)) (fun _ hk => trivial)⟩, ⟨by (with_reducible repeat (first | apply Kd.R_alloc | apply Kd.R_drewN | apply Kd.R_drew)); exact Kd.R_mono (Kd.R_far (p := ⟨gb164, 1, none⟩) (Kd.R_mono HO_154002.out (fun k_ hk => (⟨hk, hk.1.2⟩ : _ ∧ k_ ≠ gb164))) (fun _ hk => hk.2) (.slice Ao57 y172.length co57)) (fun _ hk => ⟨hk.1.2, hk.1.1.2⟩)⟩, ⟨by (with_reducible repeat (first | apply Kd.S_alloc | apply Kd.S_drewN | apply Kd.S_drew)); exact Kd.S_mono (Kd.S_far (p := ⟨gb164, 1, none⟩) (Kd.S_types HO174.out BK164.out (by decide)) (fun _ hk => hk.2) (.slice Ao57 y172.length co57)) (fun _ hk => trivial)⟩, ⟨by (with_reducible repeat (first | refine blk_drewN ?_ _ | refine blk_drew ?_ | refine blk_alloc ?_ _)); refine blk_far ?_ NB153_164.out _; (with_reducible repeat (first | refine blk_drewN ?_ _ | refine blk_drew ?_ | refine blk_alloc ?_ _)); exact BK153.out⟩, ⟨by (with_reducible repeat (first | refine blk_drewN ?_ _ | refine blk_drew ?_ | refine blk_alloc ?_ _)); refine blk_put (cs := #[.int .i64 x10_1, u165001]) ?_ 1 _ rfl; (with_reducible repeat (first | refine blk_drewN ?_ _ | refine blk_drew ?_ | refine blk_alloc ?_ _)); exact BK164.out⟩, ⟨by repeat (first | (with_reducible first | exact HB.out | apply below_alloc | apply pw_below_drewN | apply below_drew1 | refine below_set ?_ GE153.out | refine below_set ?_ GE164.out) | exact HB.out)⟩⟩
                                                              · rw [if_neg c49] at H
                                                                exact absurd H (by simp)
                                                            · rw [if_neg c48] at H
                                                              exact absurd H (by simp)
                                                          · rw [if_neg c47] at H
                                                            exact absurd H (by simp)
                                                        · rw [if_neg c45] at H
                                                          exact absurd H (by simp)
                                                      · rw [if_neg c44] at H
                                                        exact absurd H (by simp)
                                                    · rw [if_neg c43] at H
                                                      have c43b0 : ((Go.bits .and .i64 (wrap64 (x14_5 + x12_3)) 1) == 1) = false := beq_eq_false_iff_ne.mpr c43
                                                      rw [c43b0] at H
                                                      have c43b1 : ((Go.bits .and .i64 (wrap64 (x14_5 + x12_3)) 1) != 1) = true := bne_iff_ne.mpr c43
                                                      by_cases c59 : (x9_5 ++ (⟨#[32, 38, 32]⟩ : ByteArray)).size + 1 ≤ 9223372036854775807
                                                      · rw [if_pos c59] at H
                                                        have c59b0 := eq_true c59
                                                        have c59b1 : decide ((x9_5 ++ (⟨#[32, 38, 32]⟩ : ByteArray)).size + 1 ≤ 9223372036854775807) = true := decide_eq_true c59
                                                        try have c59b2 : (9223372036854775807 < (x9_5 ++ (⟨#[32, 38, 32]⟩ : ByteArray)).size + 1) = False := eq_false (Nat.not_lt.2 c59)
                                                        try have c59b3 : (9223372036854775807 < x9_5.size + 3 + 1) = False := eq_false (by have q_ := c59; have z0_ : (⟨#[32, 38, 32]⟩ : ByteArray).size = 3 := rfl; (try simp only [ByteArray.size_append, ByteArray.size_extract] at q_); omega)
                                                        replace H := Option.bind_eq_some_iff.mp H
                                                        obtain ⟨t175, A600, H⟩ := H
                                                        replace H : (if ((x9_5 ++ (⟨#[32, 38, 32]⟩ : ByteArray)) ++ (⟨#[110]⟩ : ByteArray)).size + t175.size ≤ 9223372036854775807 then (if (((x9_5 ++ (⟨#[32, 38, 32]⟩ : ByteArray)) ++ (⟨#[110]⟩ : ByteArray)) ++ t175).size + 5 ≤ 9223372036854775807 then (if x165001_5.length < 4398046511104 then (templelaw5_ShowRows.l2 k5 l0 a1 (wrap64 (1 + (Go.bits .and .i64 (l0.length : Int) 3))) ((((x9_5 ++ (⟨#[32, 38, 32]⟩ : ByteArray)) ++ (⟨#[110]⟩ : ByteArray)) ++ t175) ++ (⟨#[32, 34, 120, 121, 34]⟩ : ByteArray)) x10_1 x11_21 x12_3 (wrap64 (x14_5 + 1)) (wrap64 (Int.tmod (IntKind.u64.wrap (a2)) (IntKind.u64.wrap (wrap64 (1 + (Go.bits .and .i64 (l0.length : Int) 3)))))) y159 x154002_3 x10_1 (x165001_5 ++ [(⟨(false), (([(⟨x10_1, 0, 0⟩ : S38), (⟨(-1), 120, 120⟩ : S38), (⟨(-1), 121, 121⟩ : S38)] : List (S38)))⟩ : S41)])) else (none)) else (none)) else (none)) = some r := H
                                                        have A60 := Aside0.mk A600
                                                        clear A600
                                                        by_cases c61 : ((x9_5 ++ (⟨#[32, 38, 32]⟩ : ByteArray)) ++ (⟨#[110]⟩ : ByteArray)).size + t175.size ≤ 9223372036854775807
                                                        · rw [if_pos c61] at H
                                                          have c61b0 := eq_true c61
                                                          have c61b1 : decide (((x9_5 ++ (⟨#[32, 38, 32]⟩ : ByteArray)) ++ (⟨#[110]⟩ : ByteArray)).size + t175.size ≤ 9223372036854775807) = true := decide_eq_true c61
                                                          try have c61b2 : (9223372036854775807 < ((x9_5 ++ (⟨#[32, 38, 32]⟩ : ByteArray)) ++ (⟨#[110]⟩ : ByteArray)).size + t175.size) = False := eq_false (Nat.not_lt.2 c61)
                                                          try have c61b3 : (9223372036854775807 < x9_5.size + 3 + 1 + t175.size) = False := eq_false (by have q_ := c61; have z0_ : (⟨#[110]⟩ : ByteArray).size = 1 := rfl; have z1_ : (⟨#[32, 38, 32]⟩ : ByteArray).size = 3 := rfl; (try simp only [ByteArray.size_append, ByteArray.size_extract] at q_); omega)
                                                          by_cases c62 : (((x9_5 ++ (⟨#[32, 38, 32]⟩ : ByteArray)) ++ (⟨#[110]⟩ : ByteArray)) ++ t175).size + 5 ≤ 9223372036854775807
                                                          · rw [if_pos c62] at H
                                                            have c62b0 := eq_true c62
                                                            have c62b1 : decide ((((x9_5 ++ (⟨#[32, 38, 32]⟩ : ByteArray)) ++ (⟨#[110]⟩ : ByteArray)) ++ t175).size + 5 ≤ 9223372036854775807) = true := decide_eq_true c62
                                                            try have c62b2 : (9223372036854775807 < (((x9_5 ++ (⟨#[32, 38, 32]⟩ : ByteArray)) ++ (⟨#[110]⟩ : ByteArray)) ++ t175).size + 5) = False := eq_false (Nat.not_lt.2 c62)
                                                            try have c62b3 : (9223372036854775807 < x9_5.size + 3 + 1 + t175.size + 5) = False := eq_false (by have q_ := c62; have z0_ : (⟨#[110]⟩ : ByteArray).size = 1 := rfl; have z1_ : (⟨#[32, 38, 32]⟩ : ByteArray).size = 3 := rfl; (try simp only [ByteArray.size_append, ByteArray.size_extract] at q_); omega)
                                                            obtain ⟨y176, hy176⟩ : ∃ y_ : List (S38), y_ = (([(⟨x10_1, 0, 0⟩ : S38), (⟨(-1), 120, 120⟩ : S38), (⟨(-1), 121, 121⟩ : S38)] : List (S38))) := ⟨_, rfl⟩
                                                            replace H : (if x165001_5.length < 4398046511104 then (templelaw5_ShowRows.l2 k5 l0 a1 (wrap64 (1 + (Go.bits .and .i64 (l0.length : Int) 3))) ((((x9_5 ++ (⟨#[32, 38, 32]⟩ : ByteArray)) ++ (⟨#[110]⟩ : ByteArray)) ++ t175) ++ (⟨#[32, 34, 120, 121, 34]⟩ : ByteArray)) x10_1 x11_21 x12_3 (wrap64 (x14_5 + 1)) (wrap64 (Int.tmod (IntKind.u64.wrap (a2)) (IntKind.u64.wrap (wrap64 (1 + (Go.bits .and .i64 (l0.length : Int) 3)))))) y159 x154002_3 x10_1 (x165001_5 ++ [(⟨(false), y176⟩ : S41)])) else (none)) = some r := by first | (rw [hy176]; with_reducible exact H) | (have H2_ := (Option.bind_some _ _).symm.trans H; rw [hy176]; with_reducible exact H2_) | (have H2_ := (Option.bind_some _ _).symm.trans H; with_reducible exact H2_) | with_reducible exact H | (rw [hy176]; exact H) | exact H
                                                            have Ny176 := Aside0.mk hy176
                                                            clear hy176
                                                            by_cases c63 : x165001_5.length < 4398046511104
                                                            · rw [if_pos c63] at H
                                                              have LMc63 := Aside0.mk c63
                                                              clear c63
                                                              obtain ⟨y179, hy179⟩ : ∃ y_ : List (S41), y_ = (x165001_5 ++ [(⟨(false), y176⟩ : S41)]) := ⟨_, rfl⟩
                                                              replace H : (templelaw5_ShowRows.l2 k5 l0 a1 (wrap64 (1 + (Go.bits .and .i64 (l0.length : Int) 3))) ((((x9_5 ++ (⟨#[32, 38, 32]⟩ : ByteArray)) ++ (⟨#[110]⟩ : ByteArray)) ++ t175) ++ (⟨#[32, 34, 120, 121, 34]⟩ : ByteArray)) x10_1 x11_21 x12_3 (wrap64 (x14_5 + 1)) (wrap64 (Int.tmod (IntKind.u64.wrap (a2)) (IntKind.u64.wrap (wrap64 (1 + (Go.bits .and .i64 (l0.length : Int) 3)))))) y159 x154002_3 x10_1 y179) = some r := by first | (rw [hy179]; with_reducible exact H) | (have H2_ := (Option.bind_some _ _).symm.trans H; rw [hy179]; with_reducible exact H2_) | (have H2_ := (Option.bind_some _ _).symm.trans H; with_reducible exact H2_) | with_reducible exact H | (rw [hy179]; exact H) | exact H
                                                              have Ny179 := Aside0.mk hy179
                                                              clear hy179
                                                              have H' := Aside0.mk H
                                                              clear H
                                                              go_wp2_with (first | ((with_reducible refine gate_callee (f := 15) rfl ?_); refine goesL_ (some 99) rfl rfl Try.func15 (by kernel_rfl) rfl #[.int .i64 x10_1] rfl (by (try simp only [List.map_toArray, List.map_cons, List.map_nil]); first | done | rfl | (simp only [List.length_drop, List.length_take]; rfl)) ?_; (with_reducible refine (templeref0_Decimal.calls k5 x10_1 t175 _ A60.out).mono ?_); rintro e w64 ⟨rfl, hb⟩; refine ⟨_, rfl, ?_⟩; have n0_ := Aside0.mk (Kd.R_below (by (with_reducible repeat (first | apply Kd.R_alloc | apply Kd.R_drewN | apply Kd.R_drew)); exact HO_154001.out) hb); have n1_ := Aside0.mk (Kd.R_below (by (with_reducible repeat (first | apply Kd.R_alloc | apply Kd.R_drewN | apply Kd.R_drew)); exact HO_154002.out) hb); have n2_ := Aside0.mk (Kd.S_below (by (with_reducible repeat (first | apply Kd.S_alloc | apply Kd.S_drewN | apply Kd.S_drew)); exact HO_165001.out) hb); have n3_ := Aside0.mk (blk_below (g := gb153) (o := .cells #[.int .i64 (wrap64 (Int.tmod (IntKind.u64.wrap (a2)) (IntKind.u64.wrap (wrap64 (1 + (Go.bits .and .i64 (l0.length : Int) 3)))))), .slice Ao26 y159.length co26, u154002] 25 (0, 0)) (by (with_reducible repeat (first | refine blk_drewN ?_ _ | refine blk_drew ?_ | refine blk_alloc ?_ _)); exact BK153.out) hb); have n4_ := Aside0.mk (blk_below (g := gb164) (o := .cells #[.int .i64 x10_1, u165001] 44 (0, 0)) (by (with_reducible repeat (first | refine blk_drewN ?_ _ | refine blk_drew ?_ | refine blk_alloc ?_ _)); exact BK164.out) hb); have n5_ := Aside0.mk (below_step (by repeat (first | (with_reducible first | exact HB.out | apply below_alloc | apply pw_below_drewN | apply below_drew1 | refine below_set ?_ GE153.out | refine below_set ?_ GE164.out) | exact HB.out)) hb); clear HO_154001; clear HO_154002; clear HO_165001; clear BK153; clear BK164; clear HB; have HO_154001 := n0_; have HO_154002 := n1_; have HO_165001 := n2_; have BK153 := n3_; have BK164 := n4_; have HB := n5_; clear n0_ n1_ n2_ n3_ n4_ n5_; (try clear hb); (try clear hb2); (try clear hk); (try clear hi); have hnb65 := NB164_153.out; have hnc65 := NB153_164.out; have hcz66_0 : w64.cell? ⟨gb164, 0, none⟩ = some (.int .i64 x10_1) := (blk_cell BK164.out 0).trans rfl; have hcz66_1 : w64.cell? ⟨gb164, 1, none⟩ = some (u165001) := (blk_cell BK164.out 1).trans rfl; have hfz66_0 := blk_frozen BK164.out 0; have hfz66_1 := blk_frozen BK164.out 1) | ((with_reducible refine gate_dst (N := 109) rfl ?_); refine Kd.R_lit k38 _ 38 ?hg (N := 109) ?hd (xs := ([(⟨x10_1, 0, 0⟩ : S38), (⟨(-1), 120, 120⟩ : S38), (⟨(-1), 121, 121⟩ : S38)] : List (S38))) (inner := [.int .i64 x10_1, .int .i64 0, .int .i64 0, .int .i64 (-1), .int .i64 120, .int .i64 120, .int .i64 (-1), .int .i64 121, .int .i64 121]) (ok := fun _ => True) (okp := fun _ => True) ?hr ?hp (fun _ hk => hk) trivial (Below.refl _ _) (Nat.le_refl _) (by simp) ?_; (case hd => rfl); (case hg => rfl); (case hr => first | (go_simp; done) | (go_simp; rfl)); (case hp => exact (Reps.c3 (show Kd.M k38 _ _ _ (⟨x10_1, 0, 0⟩ : S38) [.int .i64 x10_1, .int .i64 0, .int .i64 0] from (k38_mkM _ _ _ (⟨x10_1, 0, 0⟩ : S38) )) (Reps.c3 (show Kd.M k38 _ _ _ (⟨(-1), 120, 120⟩ : S38) [.int .i64 (-1), .int .i64 120, .int .i64 120] from (k38_mkM _ _ _ (⟨(-1), 120, 120⟩ : S38) )) (Reps.c3 (show Kd.M k38 _ _ _ (⟨(-1), 121, 121⟩ : S38) [.int .i64 (-1), .int .i64 121, .int .i64 121] from (k38_mkM _ _ _ (⟨(-1), 121, 121⟩ : S38) )) (Reps.none _ _))))); intro v177 w67 ho68 hb hg_ hnew_; clear hg_ hnew_; (first | rw [← Ny176.out] at ho68 | (simp only [Int.reduceToNat] at ho68; rw [← Ny176.out] at ho68)); have n0_ := Aside0.mk (Kd.R_below (by (with_reducible repeat (first | apply Kd.R_alloc | apply Kd.R_drewN | apply Kd.R_drew)); exact HO_154001.out) hb); have n1_ := Aside0.mk (Kd.R_elder' (by (with_reducible repeat (first | apply Kd.R_alloc | apply Kd.R_drewN | apply Kd.R_drew)); exact HO_154002.out) (Kd.R_base ho68) hb); have n2_ := Aside0.mk (Kd.S_elder' (by (with_reducible repeat (first | apply Kd.S_alloc | apply Kd.S_drewN | apply Kd.S_drew)); exact HO_165001.out) (Kd.R_base ho68) hb); have n3_ := Aside0.mk (Kd.R_lower ho68 (below_size (by repeat (first | (with_reducible first | exact HB.out | apply below_alloc | apply pw_below_drewN | apply below_drew1 | refine below_set ?_ GE153.out | refine below_set ?_ GE164.out) | exact HB.out)))); have n4_ := Aside0.mk (blk_below (g := gb153) (o := .cells #[.int .i64 (wrap64 (Int.tmod (IntKind.u64.wrap (a2)) (IntKind.u64.wrap (wrap64 (1 + (Go.bits .and .i64 (l0.length : Int) 3)))))), .slice Ao26 y159.length co26, u154002] 25 (0, 0)) (by (with_reducible repeat (first | refine blk_drewN ?_ _ | refine blk_drew ?_ | refine blk_alloc ?_ _)); exact BK153.out) hb); have n5_ := Aside0.mk (blk_below (g := gb164) (o := .cells #[.int .i64 x10_1, u165001] 44 (0, 0)) (by (with_reducible repeat (first | refine blk_drewN ?_ _ | refine blk_drew ?_ | refine blk_alloc ?_ _)); exact BK164.out) hb); have n6_ := Aside0.mk (below_step (by repeat (first | (with_reducible first | exact HB.out | apply below_alloc | apply pw_below_drewN | apply below_drew1 | refine below_set ?_ GE153.out | refine below_set ?_ GE164.out) | exact HB.out)) hb); clear HO_154001; clear HO_154002; clear HO_165001; clear BK153; clear BK164; clear HB; have HO_154001 := n0_; have HO_154002 := n1_; have HO_165001 := n2_; have HO178 := n3_; have BK153 := n4_; have BK164 := n5_; have HB := n6_; clear n0_ n1_ n2_ n3_ n4_ n5_ n6_; clear hb ho68; obtain ⟨Ao69, co69, eo69⟩ := Kd.R_slice HO178.out; subst eo69) | ((with_reducible refine gate_builtin (b := .append) (xs := #[.tmp 103, .tmp 111]) rfl ?_); at_builtin; refine Kd.S_append k41 (w0 := w) w.heap.size rfl (.tmp 103) (.tmp 111) 42 41 (.agg #[(.bool false), (.slice none 0 0)]) 32 rfl Try.underlying42 info41 rfl (by decide) (by omega) u165001 x165001_5 (⟨(false), y176⟩ : S41) [.bool (false), .slice Ao69 y176.length co69] (fun _ => True) (fun k_ => some k_ = (.slice Ao69 y176.length co69 : Value).ownBlock) rfl rfl ?aP (fun k_ hk_ => ((Kd.R_mono (ok' := fun k_ => ((fun _ => True)) k_ ∧ some k_ ≠ (u165001 : Value).ownBlock) (Kd.R_apart' (HO178.out) (Kd.S_typed HO_165001.out) (by decide)) (fun k_ hk => ⟨trivial, hk.2⟩))).1 k_ hk_.symm) ?aF ?aO ?aB ?aS ?aL ?_; (case aP => exact k41_mkM _ _ _ (⟨(false), y176⟩ : S41) (Kd.R_mono (Kd.R_tight rfl (Kd.R_mono (ok' := fun k_ => ((fun _ => True)) k_ ∧ some k_ ≠ (u165001 : Value).ownBlock) (Kd.R_apart' (HO178.out) (Kd.S_typed HO_165001.out) (by decide)) (fun k_ hk => ⟨trivial, hk.2⟩))) (fun _ h_ => h_))); (case aB => exact (by repeat (first | (with_reducible first | exact HB.out | apply below_alloc | apply pw_below_drewN | apply below_drew1 | refine below_set ?_ GE153.out | refine below_set ?_ GE164.out) | exact HB.out))); (case aF => exact (fun _ _ => trivial)); (case aO => exact (by (with_reducible repeat (first | apply Kd.S_alloc | apply Kd.S_drewN | apply Kd.S_drew)); exact Kd.S_mono HO_165001.out (fun k_ hk => ⟨trivial, fun e_ => hk.2 e_⟩))); (case aS => exact (below_size (by repeat (first | (with_reducible first | exact HB.out | apply below_alloc | apply pw_below_drewN | apply below_drew1 | refine below_set ?_ GE153.out | refine below_set ?_ GE164.out) | exact HB.out)))); (case aL => have := LMc63.out; omega); intro v180 w70 ho hb hg hat; rw [← Ny179.out] at ho; have n0_ := Aside0.mk (Kd.R_over' (by (with_reducible repeat (first | apply Kd.R_alloc | apply Kd.R_drewN | apply Kd.R_drew)); exact HO_154001.out) (Kd.S_typed (by (with_reducible repeat (first | apply Kd.S_alloc | apply Kd.S_drewN | apply Kd.S_drew)); exact HO_165001.out)) (by decide) hg); have n1_ := Aside0.mk (Kd.R_after (ok := (fun k_ => some k_ ≠ (.slice Ao69 y176.length co69 : Value).ownBlock ∧ k_ ≠ gb164)) (by (with_reducible repeat (first | apply Kd.R_alloc | apply Kd.R_drewN | apply Kd.R_drew)); exact Kd.R_mono HO_154002.out (fun _ hk => ⟨⟨hk.2, hk.1.2⟩, hk.1.1⟩)) hg hat); have n2_ := Aside0.mk (blk_grown (g := gb153) (o := .cells #[.int .i64 (wrap64 (Int.tmod (IntKind.u64.wrap (a2)) (IntKind.u64.wrap (wrap64 (1 + (Go.bits .and .i64 (l0.length : Int) 3)))))), .slice Ao26 y159.length co26, u154002] 25 (0, 0)) (by (with_reducible repeat (first | refine blk_drewN ?_ _ | refine blk_drew ?_ | refine blk_alloc ?_ _)); exact BK153.out) hg (Kd.S_ne HO_165001.out BK153.out (by decide))); have n3_ := Aside0.mk (blk_grown (g := gb164) (o := .cells #[.int .i64 x10_1, u165001] 44 (0, 0)) (by (with_reducible repeat (first | refine blk_drewN ?_ _ | refine blk_drew ?_ | refine blk_alloc ?_ _)); exact BK164.out) hg (Kd.S_ne HO_165001.out BK164.out (by decide))); have n4_ := Aside0.mk (hb); have n5_ := Aside0.mk (ho); clear HO_154001; clear HO_154002; clear BK153; clear BK164; clear HB; clear HO_165001; clear HO178; have HO_154001 := n0_; have HO_154002 := n1_; have BK153 := n2_; have BK164 := n3_; have HB := n4_; have HO181 := n5_; clear n0_ n1_ n2_ n3_ n4_ n5_; clear ho hb hg hat; obtain ⟨Ao71, co71, eo71⟩ := Kd.S_slice HO181.out; subst eo71; have hcz72_0 : w70.cell? ⟨gb164, 0, none⟩ = some (.int .i64 x10_1) := (blk_cell BK164.out 0).trans rfl; have hcz72_1 : w70.cell? ⟨gb164, 1, none⟩ = some (u165001) := (blk_cell BK164.out 1).trans rfl; have hfz72_0 := blk_frozen BK164.out 0; have hfz72_1 := blk_frozen BK164.out 1))
                                                              go_roundg k5
                                                              case measure => have := HK1.out; have := HJ21.out; have := HK3.out; have := HJ31.out; have := HK5.out; omega
                                                              case rel => exact ⟨((((x9_5 ++ (⟨#[32, 38, 32]⟩ : ByteArray)) ++ (⟨#[110]⟩ : ByteArray)) ++ t175) ++ (⟨#[32, 34, 120, 121, 34]⟩ : ByteArray)), (wrap64 (x14_5 + 1)), (y179), (.slice Ao71 y179.length co71), (by first | rfl | (simp; done) | (simp [i64_w]; done) | (simp [*]; done) | (simp [*, i64_w]; done) | (simp [*]; unfold wrap64; omega)), (by first | rfl | (simp; done) | (simp [i64_w]; done) | (simp [*]; done) | (simp [*, i64_w]; done) | (simp [*]; unfold wrap64; omega)), H', ⟨by have := HK1.out; have := HJ21.out; have := HK3.out; have := HJ31.out; have := HK5.out; omega⟩, ⟨by (with_reducible repeat (first | apply Kd.R_alloc | apply Kd.R_drewN | apply Kd.R_drew)); exact Kd.R_mono (Kd.R_far (p := ⟨gb164, 1, none⟩) (Kd.R_types HO_154001.out BK164.out (by decide)) (fun _ hk => hk.2) (.slice Ao71 y179.length co71)) (fun _ hk => trivial)⟩, ⟨by (with_reducible repeat (first | apply Kd.R_alloc | apply Kd.R_drewN | apply Kd.R_drew)); exact Kd.R_mono (Kd.R_far (p := ⟨gb164, 1, none⟩) (Kd.R_mono HO_154002.out (fun k_ hk => (⟨hk, hk.1.2⟩ : _ ∧ k_ ≠ gb164))) (fun _ hk => hk.2) (.slice Ao71 y179.length co71)) (fun _ hk => ⟨hk.1.2, hk.1.1.2⟩)⟩, ⟨by (with_reducible repeat (first | apply Kd.S_alloc | apply Kd.S_drewN | apply Kd.S_drew)); exact Kd.S_mono (Kd.S_far (p := ⟨gb164, 1, none⟩) (Kd.S_types HO181.out BK164.out (by decide)) (fun _ hk => hk.2) (.slice Ao71 y179.length co71)) (fun _ hk => trivial)⟩, ⟨by (with_reducible repeat (first | refine blk_drewN ?_ _ | refine blk_drew ?_ | refine blk_alloc ?_ _)); refine blk_far ?_ NB153_164.out _; (with_reducible repeat (first | refine blk_drewN ?_ _ | refine blk_drew ?_ | refine blk_alloc ?_ _)); exact BK153.out⟩, ⟨by (with_reducible repeat (first | refine blk_drewN ?_ _ | refine blk_drew ?_ | refine blk_alloc ?_ _)); refine blk_put (cs := #[.int .i64 x10_1, u165001]) ?_ 1 _ rfl; (with_reducible repeat (first | refine blk_drewN ?_ _ | refine blk_drew ?_ | refine blk_alloc ?_ _)); exact BK164.out⟩, ⟨by repeat (first | (with_reducible first | exact HB.out | apply below_alloc | apply pw_below_drewN | apply below_drew1 | refine below_set ?_ GE153.out | refine below_set ?_ GE164.out) | exact HB.out)⟩⟩
                                                            · rw [if_neg c63] at H
                                                              exact absurd H (by simp)
                                                          · rw [if_neg c62] at H
                                                            exact absurd H (by simp)
                                                        · rw [if_neg c61] at H
                                                          exact absurd H (by simp)
                                                      · rw [if_neg c59] at H
                                                        exact absurd H (by simp)
                                                  · rw [if_neg c42] at H
                                                    exact absurd H (by simp)
                                                · rw [if_neg c41] at H
                                                  have c41b0 : decide (0 < x14_5) = false := decide_eq_false c41
                                                  clear c41
                                                  by_cases c73 : (Go.bits .and .i64 (wrap64 (x14_5 + x12_3)) 1) = 1
                                                  · rw [if_pos c73] at H
                                                    have c73b0 : ((Go.bits .and .i64 (wrap64 (x14_5 + x12_3)) 1) == 1) = true := beq_iff_eq.mpr c73
                                                    rw [c73b0] at H
                                                    have c73b1 : ((Go.bits .and .i64 (wrap64 (x14_5 + x12_3)) 1) != 1) = false := bne_eq_false_iff_eq.mpr c73
                                                    clear c73
                                                    by_cases c74 : x9_5.size + 1 ≤ 9223372036854775807
                                                    · rw [if_pos c74] at H
                                                      have c74b0 := eq_true c74
                                                      have c74b1 : decide (x9_5.size + 1 ≤ 9223372036854775807) = true := decide_eq_true c74
                                                      try have c74b2 : (9223372036854775807 < x9_5.size + 1) = False := eq_false (Nat.not_lt.2 c74)
                                                      by_cases c75 : (x9_5 ++ (⟨#[126]⟩ : ByteArray)).size + 1 ≤ 9223372036854775807
                                                      · rw [if_pos c75] at H
                                                        have c75b0 := eq_true c75
                                                        have c75b1 : decide ((x9_5 ++ (⟨#[126]⟩ : ByteArray)).size + 1 ≤ 9223372036854775807) = true := decide_eq_true c75
                                                        try have c75b2 : (9223372036854775807 < (x9_5 ++ (⟨#[126]⟩ : ByteArray)).size + 1) = False := eq_false (Nat.not_lt.2 c75)
                                                        try have c75b3 : (9223372036854775807 < x9_5.size + 1 + 1) = False := eq_false (by have q_ := c75; have z0_ : (⟨#[126]⟩ : ByteArray).size = 1 := rfl; (try simp only [ByteArray.size_append, ByteArray.size_extract] at q_); omega)
                                                        replace H := Option.bind_eq_some_iff.mp H
                                                        obtain ⟨t182, A760, H⟩ := H
                                                        replace H : (if ((x9_5 ++ (⟨#[126]⟩ : ByteArray)) ++ (⟨#[110]⟩ : ByteArray)).size + t182.size ≤ 9223372036854775807 then (if (((x9_5 ++ (⟨#[126]⟩ : ByteArray)) ++ (⟨#[110]⟩ : ByteArray)) ++ t182).size + 5 ≤ 9223372036854775807 then (if x165001_5.length < 4398046511104 then (templelaw5_ShowRows.l2 k5 l0 a1 (wrap64 (1 + (Go.bits .and .i64 (l0.length : Int) 3))) ((((x9_5 ++ (⟨#[126]⟩ : ByteArray)) ++ (⟨#[110]⟩ : ByteArray)) ++ t182) ++ (⟨#[32, 34, 120, 121, 34]⟩ : ByteArray)) x10_1 x11_21 x12_3 (wrap64 (x14_5 + 1)) (wrap64 (Int.tmod (IntKind.u64.wrap (a2)) (IntKind.u64.wrap (wrap64 (1 + (Go.bits .and .i64 (l0.length : Int) 3)))))) y159 x154002_3 x10_1 (x165001_5 ++ [(⟨(true), (([(⟨x10_1, 0, 0⟩ : S38), (⟨(-1), 120, 120⟩ : S38), (⟨(-1), 121, 121⟩ : S38)] : List (S38)))⟩ : S41)])) else (none)) else (none)) else (none)) = some r := H
                                                        have A76 := Aside0.mk A760
                                                        clear A760
                                                        by_cases c77 : ((x9_5 ++ (⟨#[126]⟩ : ByteArray)) ++ (⟨#[110]⟩ : ByteArray)).size + t182.size ≤ 9223372036854775807
                                                        · rw [if_pos c77] at H
                                                          have c77b0 := eq_true c77
                                                          have c77b1 : decide (((x9_5 ++ (⟨#[126]⟩ : ByteArray)) ++ (⟨#[110]⟩ : ByteArray)).size + t182.size ≤ 9223372036854775807) = true := decide_eq_true c77
                                                          try have c77b2 : (9223372036854775807 < ((x9_5 ++ (⟨#[126]⟩ : ByteArray)) ++ (⟨#[110]⟩ : ByteArray)).size + t182.size) = False := eq_false (Nat.not_lt.2 c77)
                                                          try have c77b3 : (9223372036854775807 < x9_5.size + 1 + 1 + t182.size) = False := eq_false (by have q_ := c77; have z0_ : (⟨#[110]⟩ : ByteArray).size = 1 := rfl; have z1_ : (⟨#[126]⟩ : ByteArray).size = 1 := rfl; (try simp only [ByteArray.size_append, ByteArray.size_extract] at q_); omega)
                                                          by_cases c78 : (((x9_5 ++ (⟨#[126]⟩ : ByteArray)) ++ (⟨#[110]⟩ : ByteArray)) ++ t182).size + 5 ≤ 9223372036854775807
                                                          · rw [if_pos c78] at H
                                                            have c78b0 := eq_true c78
                                                            have c78b1 : decide ((((x9_5 ++ (⟨#[126]⟩ : ByteArray)) ++ (⟨#[110]⟩ : ByteArray)) ++ t182).size + 5 ≤ 9223372036854775807) = true := decide_eq_true c78
                                                            try have c78b2 : (9223372036854775807 < (((x9_5 ++ (⟨#[126]⟩ : ByteArray)) ++ (⟨#[110]⟩ : ByteArray)) ++ t182).size + 5) = False := eq_false (Nat.not_lt.2 c78)
                                                            try have c78b3 : (9223372036854775807 < x9_5.size + 1 + 1 + t182.size + 5) = False := eq_false (by have q_ := c78; have z0_ : (⟨#[110]⟩ : ByteArray).size = 1 := rfl; have z1_ : (⟨#[126]⟩ : ByteArray).size = 1 := rfl; (try simp only [ByteArray.size_append, ByteArray.size_extract] at q_); omega)
                                                            obtain ⟨y183, hy183⟩ : ∃ y_ : List (S38), y_ = (([(⟨x10_1, 0, 0⟩ : S38), (⟨(-1), 120, 120⟩ : S38), (⟨(-1), 121, 121⟩ : S38)] : List (S38))) := ⟨_, rfl⟩
                                                            replace H : (if x165001_5.length < 4398046511104 then (templelaw5_ShowRows.l2 k5 l0 a1 (wrap64 (1 + (Go.bits .and .i64 (l0.length : Int) 3))) ((((x9_5 ++ (⟨#[126]⟩ : ByteArray)) ++ (⟨#[110]⟩ : ByteArray)) ++ t182) ++ (⟨#[32, 34, 120, 121, 34]⟩ : ByteArray)) x10_1 x11_21 x12_3 (wrap64 (x14_5 + 1)) (wrap64 (Int.tmod (IntKind.u64.wrap (a2)) (IntKind.u64.wrap (wrap64 (1 + (Go.bits .and .i64 (l0.length : Int) 3)))))) y159 x154002_3 x10_1 (x165001_5 ++ [(⟨(true), y183⟩ : S41)])) else (none)) = some r := by first | (rw [hy183]; with_reducible exact H) | (have H2_ := (Option.bind_some _ _).symm.trans H; rw [hy183]; with_reducible exact H2_) | (have H2_ := (Option.bind_some _ _).symm.trans H; with_reducible exact H2_) | with_reducible exact H | (rw [hy183]; exact H) | exact H
                                                            have Ny183 := Aside0.mk hy183
                                                            clear hy183
                                                            by_cases c79 : x165001_5.length < 4398046511104
                                                            · rw [if_pos c79] at H
                                                              have LMc79 := Aside0.mk c79
                                                              clear c79
                                                              obtain ⟨y186, hy186⟩ : ∃ y_ : List (S41), y_ = (x165001_5 ++ [(⟨(true), y183⟩ : S41)]) := ⟨_, rfl⟩
                                                              replace H : (templelaw5_ShowRows.l2 k5 l0 a1 (wrap64 (1 + (Go.bits .and .i64 (l0.length : Int) 3))) ((((x9_5 ++ (⟨#[126]⟩ : ByteArray)) ++ (⟨#[110]⟩ : ByteArray)) ++ t182) ++ (⟨#[32, 34, 120, 121, 34]⟩ : ByteArray)) x10_1 x11_21 x12_3 (wrap64 (x14_5 + 1)) (wrap64 (Int.tmod (IntKind.u64.wrap (a2)) (IntKind.u64.wrap (wrap64 (1 + (Go.bits .and .i64 (l0.length : Int) 3)))))) y159 x154002_3 x10_1 y186) = some r := by first | (rw [hy186]; with_reducible exact H) | (have H2_ := (Option.bind_some _ _).symm.trans H; rw [hy186]; with_reducible exact H2_) | (have H2_ := (Option.bind_some _ _).symm.trans H; with_reducible exact H2_) | with_reducible exact H | (rw [hy186]; exact H) | exact H
                                                              have Ny186 := Aside0.mk hy186
                                                              clear hy186
                                                              have H' := Aside0.mk H
                                                              clear H
                                                              go_wp2_with (first | ((with_reducible refine gate_callee (f := 15) rfl ?_); refine goesL_ (some 99) rfl rfl Try.func15 (by kernel_rfl) rfl #[.int .i64 x10_1] rfl (by (try simp only [List.map_toArray, List.map_cons, List.map_nil]); first | done | rfl | (simp only [List.length_drop, List.length_take]; rfl)) ?_; (with_reducible refine (templeref0_Decimal.calls k5 x10_1 t182 _ A76.out).mono ?_); rintro e w80 ⟨rfl, hb⟩; refine ⟨_, rfl, ?_⟩; have n0_ := Aside0.mk (Kd.R_below (by (with_reducible repeat (first | apply Kd.R_alloc | apply Kd.R_drewN | apply Kd.R_drew)); exact HO_154001.out) hb); have n1_ := Aside0.mk (Kd.R_below (by (with_reducible repeat (first | apply Kd.R_alloc | apply Kd.R_drewN | apply Kd.R_drew)); exact HO_154002.out) hb); have n2_ := Aside0.mk (Kd.S_below (by (with_reducible repeat (first | apply Kd.S_alloc | apply Kd.S_drewN | apply Kd.S_drew)); exact HO_165001.out) hb); have n3_ := Aside0.mk (blk_below (g := gb153) (o := .cells #[.int .i64 (wrap64 (Int.tmod (IntKind.u64.wrap (a2)) (IntKind.u64.wrap (wrap64 (1 + (Go.bits .and .i64 (l0.length : Int) 3)))))), .slice Ao26 y159.length co26, u154002] 25 (0, 0)) (by (with_reducible repeat (first | refine blk_drewN ?_ _ | refine blk_drew ?_ | refine blk_alloc ?_ _)); exact BK153.out) hb); have n4_ := Aside0.mk (blk_below (g := gb164) (o := .cells #[.int .i64 x10_1, u165001] 44 (0, 0)) (by (with_reducible repeat (first | refine blk_drewN ?_ _ | refine blk_drew ?_ | refine blk_alloc ?_ _)); exact BK164.out) hb); have n5_ := Aside0.mk (below_step (by repeat (first | (with_reducible first | exact HB.out | apply below_alloc | apply pw_below_drewN | apply below_drew1 | refine below_set ?_ GE153.out | refine below_set ?_ GE164.out) | exact HB.out)) hb); clear HO_154001; clear HO_154002; clear HO_165001; clear BK153; clear BK164; clear HB; have HO_154001 := n0_; have HO_154002 := n1_; have HO_165001 := n2_; have BK153 := n3_; have BK164 := n4_; have HB := n5_; clear n0_ n1_ n2_ n3_ n4_ n5_; (try clear hb); (try clear hb2); (try clear hk); (try clear hi); have hnb81 := NB164_153.out; have hnc81 := NB153_164.out; have hcz82_0 : w80.cell? ⟨gb164, 0, none⟩ = some (.int .i64 x10_1) := (blk_cell BK164.out 0).trans rfl; have hcz82_1 : w80.cell? ⟨gb164, 1, none⟩ = some (u165001) := (blk_cell BK164.out 1).trans rfl; have hfz82_0 := blk_frozen BK164.out 0; have hfz82_1 := blk_frozen BK164.out 1) | ((with_reducible refine gate_dst (N := 109) rfl ?_); refine Kd.R_lit k38 _ 38 ?hg (N := 109) ?hd (xs := ([(⟨x10_1, 0, 0⟩ : S38), (⟨(-1), 120, 120⟩ : S38), (⟨(-1), 121, 121⟩ : S38)] : List (S38))) (inner := [.int .i64 x10_1, .int .i64 0, .int .i64 0, .int .i64 (-1), .int .i64 120, .int .i64 120, .int .i64 (-1), .int .i64 121, .int .i64 121]) (ok := fun _ => True) (okp := fun _ => True) ?hr ?hp (fun _ hk => hk) trivial (Below.refl _ _) (Nat.le_refl _) (by simp) ?_; (case hd => rfl); (case hg => rfl); (case hr => first | (go_simp; done) | (go_simp; rfl)); (case hp => exact (Reps.c3 (show Kd.M k38 _ _ _ (⟨x10_1, 0, 0⟩ : S38) [.int .i64 x10_1, .int .i64 0, .int .i64 0] from (k38_mkM _ _ _ (⟨x10_1, 0, 0⟩ : S38) )) (Reps.c3 (show Kd.M k38 _ _ _ (⟨(-1), 120, 120⟩ : S38) [.int .i64 (-1), .int .i64 120, .int .i64 120] from (k38_mkM _ _ _ (⟨(-1), 120, 120⟩ : S38) )) (Reps.c3 (show Kd.M k38 _ _ _ (⟨(-1), 121, 121⟩ : S38) [.int .i64 (-1), .int .i64 121, .int .i64 121] from (k38_mkM _ _ _ (⟨(-1), 121, 121⟩ : S38) )) (Reps.none _ _))))); intro v184 w83 ho84 hb hg_ hnew_; clear hg_ hnew_; (first | rw [← Ny183.out] at ho84 | (simp only [Int.reduceToNat] at ho84; rw [← Ny183.out] at ho84)); have n0_ := Aside0.mk (Kd.R_below (by (with_reducible repeat (first | apply Kd.R_alloc | apply Kd.R_drewN | apply Kd.R_drew)); exact HO_154001.out) hb); have n1_ := Aside0.mk (Kd.R_elder' (by (with_reducible repeat (first | apply Kd.R_alloc | apply Kd.R_drewN | apply Kd.R_drew)); exact HO_154002.out) (Kd.R_base ho84) hb); have n2_ := Aside0.mk (Kd.S_elder' (by (with_reducible repeat (first | apply Kd.S_alloc | apply Kd.S_drewN | apply Kd.S_drew)); exact HO_165001.out) (Kd.R_base ho84) hb); have n3_ := Aside0.mk (Kd.R_lower ho84 (below_size (by repeat (first | (with_reducible first | exact HB.out | apply below_alloc | apply pw_below_drewN | apply below_drew1 | refine below_set ?_ GE153.out | refine below_set ?_ GE164.out) | exact HB.out)))); have n4_ := Aside0.mk (blk_below (g := gb153) (o := .cells #[.int .i64 (wrap64 (Int.tmod (IntKind.u64.wrap (a2)) (IntKind.u64.wrap (wrap64 (1 + (Go.bits .and .i64 (l0.length : Int) 3)))))), .slice Ao26 y159.length co26, u154002] 25 (0, 0)) (by (with_reducible repeat (first | refine blk_drewN ?_ _ | refine blk_drew ?_ | refine blk_alloc ?_ _)); exact BK153.out) hb); have n5_ := Aside0.mk (blk_below (g := gb164) (o := .cells #[.int .i64 x10_1, u165001] 44 (0, 0)) (by (with_reducible repeat (first | refine blk_drewN ?_ _ | refine blk_drew ?_ | refine blk_alloc ?_ _)); exact BK164.out) hb); have n6_ := Aside0.mk (below_step (by repeat (first | (with_reducible first | exact HB.out | apply below_alloc | apply pw_below_drewN | apply below_drew1 | refine below_set ?_ GE153.out | refine below_set ?_ GE164.out) | exact HB.out)) hb); clear HO_154001; clear HO_154002; clear HO_165001; clear BK153; clear BK164; clear HB; have HO_154001 := n0_; have HO_154002 := n1_; have HO_165001 := n2_; have HO185 := n3_; have BK153 := n4_; have BK164 := n5_; have HB := n6_; clear n0_ n1_ n2_ n3_ n4_ n5_ n6_; clear hb ho84; obtain ⟨Ao85, co85, eo85⟩ := Kd.R_slice HO185.out; subst eo85) | ((with_reducible refine gate_builtin (b := .append) (xs := #[.tmp 103, .tmp 111]) rfl ?_); at_builtin; refine Kd.S_append k41 (w0 := w) w.heap.size rfl (.tmp 103) (.tmp 111) 42 41 (.agg #[(.bool false), (.slice none 0 0)]) 32 rfl Try.underlying42 info41 rfl (by decide) (by omega) u165001 x165001_5 (⟨(true), y183⟩ : S41) [.bool (true), .slice Ao85 y183.length co85] (fun _ => True) (fun k_ => some k_ = (.slice Ao85 y183.length co85 : Value).ownBlock) rfl rfl ?aP (fun k_ hk_ => ((Kd.R_mono (ok' := fun k_ => ((fun _ => True)) k_ ∧ some k_ ≠ (u165001 : Value).ownBlock) (Kd.R_apart' (HO185.out) (Kd.S_typed HO_165001.out) (by decide)) (fun k_ hk => ⟨trivial, hk.2⟩))).1 k_ hk_.symm) ?aF ?aO ?aB ?aS ?aL ?_; (case aP => exact k41_mkM _ _ _ (⟨(true), y183⟩ : S41) (Kd.R_mono (Kd.R_tight rfl (Kd.R_mono (ok' := fun k_ => ((fun _ => True)) k_ ∧ some k_ ≠ (u165001 : Value).ownBlock) (Kd.R_apart' (HO185.out) (Kd.S_typed HO_165001.out) (by decide)) (fun k_ hk => ⟨trivial, hk.2⟩))) (fun _ h_ => h_))); (case aB => exact (by repeat (first | (with_reducible first | exact HB.out | apply below_alloc | apply pw_below_drewN | apply below_drew1 | refine below_set ?_ GE153.out | refine below_set ?_ GE164.out) | exact HB.out))); (case aF => exact (fun _ _ => trivial)); (case aO => exact (by (with_reducible repeat (first | apply Kd.S_alloc | apply Kd.S_drewN | apply Kd.S_drew)); exact Kd.S_mono HO_165001.out (fun k_ hk => ⟨trivial, fun e_ => hk.2 e_⟩))); (case aS => exact (below_size (by repeat (first | (with_reducible first | exact HB.out | apply below_alloc | apply pw_below_drewN | apply below_drew1 | refine below_set ?_ GE153.out | refine below_set ?_ GE164.out) | exact HB.out)))); (case aL => have := LMc79.out; omega); intro v187 w86 ho hb hg hat; rw [← Ny186.out] at ho; have n0_ := Aside0.mk (Kd.R_over' (by (with_reducible repeat (first | apply Kd.R_alloc | apply Kd.R_drewN | apply Kd.R_drew)); exact HO_154001.out) (Kd.S_typed (by (with_reducible repeat (first | apply Kd.S_alloc | apply Kd.S_drewN | apply Kd.S_drew)); exact HO_165001.out)) (by decide) hg); have n1_ := Aside0.mk (Kd.R_after (ok := (fun k_ => some k_ ≠ (.slice Ao85 y183.length co85 : Value).ownBlock ∧ k_ ≠ gb164)) (by (with_reducible repeat (first | apply Kd.R_alloc | apply Kd.R_drewN | apply Kd.R_drew)); exact Kd.R_mono HO_154002.out (fun _ hk => ⟨⟨hk.2, hk.1.2⟩, hk.1.1⟩)) hg hat); have n2_ := Aside0.mk (blk_grown (g := gb153) (o := .cells #[.int .i64 (wrap64 (Int.tmod (IntKind.u64.wrap (a2)) (IntKind.u64.wrap (wrap64 (1 + (Go.bits .and .i64 (l0.length : Int) 3)))))), .slice Ao26 y159.length co26, u154002] 25 (0, 0)) (by (with_reducible repeat (first | refine blk_drewN ?_ _ | refine blk_drew ?_ | refine blk_alloc ?_ _)); exact BK153.out) hg (Kd.S_ne HO_165001.out BK153.out (by decide))); have n3_ := Aside0.mk (blk_grown (g := gb164) (o := .cells #[.int .i64 x10_1, u165001] 44 (0, 0)) (by (with_reducible repeat (first | refine blk_drewN ?_ _ | refine blk_drew ?_ | refine blk_alloc ?_ _)); exact BK164.out) hg (Kd.S_ne HO_165001.out BK164.out (by decide))); have n4_ := Aside0.mk (hb); have n5_ := Aside0.mk (ho); clear HO_154001; clear HO_154002; clear BK153; clear BK164; clear HB; clear HO_165001; clear HO185; have HO_154001 := n0_; have HO_154002 := n1_; have BK153 := n2_; have BK164 := n3_; have HB := n4_; have HO188 := n5_; clear n0_ n1_ n2_ n3_ n4_ n5_; clear ho hb hg hat; obtain ⟨Ao87, co87, eo87⟩ := Kd.S_slice HO188.out; subst eo87; have hcz88_0 : w86.cell? ⟨gb164, 0, none⟩ = some (.int .i64 x10_1) := (blk_cell BK164.out 0).trans rfl; have hcz88_1 : w86.cell? ⟨gb164, 1, none⟩ = some (u165001) := (blk_cell BK164.out 1).trans rfl; have hfz88_0 := blk_frozen BK164.out 0; have hfz88_1 := blk_frozen BK164.out 1))
                                                              go_roundg k5
                                                              case measure => have := HK1.out; have := HJ21.out; have := HK3.out; have := HJ31.out; have := HK5.out; omega
                                                              case rel => exact ⟨((((x9_5 ++ (⟨#[126]⟩ : ByteArray)) ++ (⟨#[110]⟩ : ByteArray)) ++ t182) ++ (⟨#[32, 34, 120, 121, 34]⟩ : ByteArray)), (wrap64 (x14_5 + 1)), (y186), (.slice Ao87 y186.length co87), (by first | rfl | (simp; done) | (simp [i64_w]; done) | (simp [*]; done) | (simp [*, i64_w]; done) | (simp [*]; unfold wrap64; omega)), (by first | rfl | (simp; done) | (simp [i64_w]; done) | (simp [*]; done) | (simp [*, i64_w]; done) | (simp [*]; unfold wrap64; omega)), H', ⟨by have := HK1.out; have := HJ21.out; have := HK3.out; have := HJ31.out; have := HK5.out; omega⟩, ⟨by (with_reducible repeat (first | apply Kd.R_alloc | apply Kd.R_drewN | apply Kd.R_drew)); exact Kd.R_mono (Kd.R_far (p := ⟨gb164, 1, none⟩) (Kd.R_types HO_154001.out BK164.out (by decide)) (fun _ hk => hk.2) (.slice Ao87 y186.length co87)) (fun _ hk => trivial)⟩, ⟨by (with_reducible repeat (first | apply Kd.R_alloc | apply Kd.R_drewN | apply Kd.R_drew)); exact Kd.R_mono (Kd.R_far (p := ⟨gb164, 1, none⟩) (Kd.R_mono HO_154002.out (fun k_ hk => (⟨hk, hk.1.2⟩ : _ ∧ k_ ≠ gb164))) (fun _ hk => hk.2) (.slice Ao87 y186.length co87)) (fun _ hk => ⟨hk.1.2, hk.1.1.2⟩)⟩, ⟨by (with_reducible repeat (first | apply Kd.S_alloc | apply Kd.S_drewN | apply Kd.S_drew)); exact Kd.S_mono (Kd.S_far (p := ⟨gb164, 1, none⟩) (Kd.S_types HO188.out BK164.out (by decide)) (fun _ hk => hk.2) (.slice Ao87 y186.length co87)) (fun _ hk => trivial)⟩, ⟨by (with_reducible repeat (first | refine blk_drewN ?_ _ | refine blk_drew ?_ | refine blk_alloc ?_ _)); refine blk_far ?_ NB153_164.out _; (with_reducible repeat (first | refine blk_drewN ?_ _ | refine blk_drew ?_ | refine blk_alloc ?_ _)); exact BK153.out⟩, ⟨by (with_reducible repeat (first | refine blk_drewN ?_ _ | refine blk_drew ?_ | refine blk_alloc ?_ _)); refine blk_put (cs := #[.int .i64 x10_1, u165001]) ?_ 1 _ rfl; (with_reducible repeat (first | refine blk_drewN ?_ _ | refine blk_drew ?_ | refine blk_alloc ?_ _)); exact BK164.out⟩, ⟨by repeat (first | (with_reducible first | exact HB.out | apply below_alloc | apply pw_below_drewN | apply below_drew1 | refine below_set ?_ GE153.out | refine below_set ?_ GE164.out) | exact HB.out)⟩⟩
                                                            · rw [if_neg c79] at H
                                                              exact absurd H (by simp)
                                                          · rw [if_neg c78] at H
                                                            exact absurd H (by simp)
                                                        · rw [if_neg c77] at H
                                                          exact absurd H (by simp)
                                                      · rw [if_neg c75] at H
                                                        exact absurd H (by simp)
                                                    · rw [if_neg c74] at H
                                                      exact absurd H (by simp)
                                                  · rw [if_neg c73] at H
                                                    have c73b0 : ((Go.bits .and .i64 (wrap64 (x14_5 + x12_3)) 1) == 1) = false := beq_eq_false_iff_ne.mpr c73
                                                    rw [c73b0] at H
                                                    have c73b1 : ((Go.bits .and .i64 (wrap64 (x14_5 + x12_3)) 1) != 1) = true := bne_iff_ne.mpr c73
                                                    by_cases c89 : x9_5.size + 1 ≤ 9223372036854775807
                                                    · rw [if_pos c89] at H
                                                      have c89b0 := eq_true c89
                                                      have c89b1 : decide (x9_5.size + 1 ≤ 9223372036854775807) = true := decide_eq_true c89
                                                      try have c89b2 : (9223372036854775807 < x9_5.size + 1) = False := eq_false (Nat.not_lt.2 c89)
                                                      replace H := Option.bind_eq_some_iff.mp H
                                                      obtain ⟨t189, A900, H⟩ := H
                                                      replace H : (if (x9_5 ++ (⟨#[110]⟩ : ByteArray)).size + t189.size ≤ 9223372036854775807 then (if ((x9_5 ++ (⟨#[110]⟩ : ByteArray)) ++ t189).size + 5 ≤ 9223372036854775807 then (if x165001_5.length < 4398046511104 then (templelaw5_ShowRows.l2 k5 l0 a1 (wrap64 (1 + (Go.bits .and .i64 (l0.length : Int) 3))) (((x9_5 ++ (⟨#[110]⟩ : ByteArray)) ++ t189) ++ (⟨#[32, 34, 120, 121, 34]⟩ : ByteArray)) x10_1 x11_21 x12_3 (wrap64 (x14_5 + 1)) (wrap64 (Int.tmod (IntKind.u64.wrap (a2)) (IntKind.u64.wrap (wrap64 (1 + (Go.bits .and .i64 (l0.length : Int) 3)))))) y159 x154002_3 x10_1 (x165001_5 ++ [(⟨(false), (([(⟨x10_1, 0, 0⟩ : S38), (⟨(-1), 120, 120⟩ : S38), (⟨(-1), 121, 121⟩ : S38)] : List (S38)))⟩ : S41)])) else (none)) else (none)) else (none)) = some r := H
                                                      have A90 := Aside0.mk A900
                                                      clear A900
                                                      by_cases c91 : (x9_5 ++ (⟨#[110]⟩ : ByteArray)).size + t189.size ≤ 9223372036854775807
                                                      · rw [if_pos c91] at H
                                                        have c91b0 := eq_true c91
                                                        have c91b1 : decide ((x9_5 ++ (⟨#[110]⟩ : ByteArray)).size + t189.size ≤ 9223372036854775807) = true := decide_eq_true c91
                                                        try have c91b2 : (9223372036854775807 < (x9_5 ++ (⟨#[110]⟩ : ByteArray)).size + t189.size) = False := eq_false (Nat.not_lt.2 c91)
                                                        try have c91b3 : (9223372036854775807 < x9_5.size + 1 + t189.size) = False := eq_false (by have q_ := c91; have z0_ : (⟨#[110]⟩ : ByteArray).size = 1 := rfl; (try simp only [ByteArray.size_append, ByteArray.size_extract] at q_); omega)
                                                        by_cases c92 : ((x9_5 ++ (⟨#[110]⟩ : ByteArray)) ++ t189).size + 5 ≤ 9223372036854775807
                                                        · rw [if_pos c92] at H
                                                          have c92b0 := eq_true c92
                                                          have c92b1 : decide (((x9_5 ++ (⟨#[110]⟩ : ByteArray)) ++ t189).size + 5 ≤ 9223372036854775807) = true := decide_eq_true c92
                                                          try have c92b2 : (9223372036854775807 < ((x9_5 ++ (⟨#[110]⟩ : ByteArray)) ++ t189).size + 5) = False := eq_false (Nat.not_lt.2 c92)
                                                          try have c92b3 : (9223372036854775807 < x9_5.size + 1 + t189.size + 5) = False := eq_false (by have q_ := c92; have z0_ : (⟨#[110]⟩ : ByteArray).size = 1 := rfl; (try simp only [ByteArray.size_append, ByteArray.size_extract] at q_); omega)
                                                          obtain ⟨y190, hy190⟩ : ∃ y_ : List (S38), y_ = (([(⟨x10_1, 0, 0⟩ : S38), (⟨(-1), 120, 120⟩ : S38), (⟨(-1), 121, 121⟩ : S38)] : List (S38))) := ⟨_, rfl⟩
                                                          replace H : (if x165001_5.length < 4398046511104 then (templelaw5_ShowRows.l2 k5 l0 a1 (wrap64 (1 + (Go.bits .and .i64 (l0.length : Int) 3))) (((x9_5 ++ (⟨#[110]⟩ : ByteArray)) ++ t189) ++ (⟨#[32, 34, 120, 121, 34]⟩ : ByteArray)) x10_1 x11_21 x12_3 (wrap64 (x14_5 + 1)) (wrap64 (Int.tmod (IntKind.u64.wrap (a2)) (IntKind.u64.wrap (wrap64 (1 + (Go.bits .and .i64 (l0.length : Int) 3)))))) y159 x154002_3 x10_1 (x165001_5 ++ [(⟨(false), y190⟩ : S41)])) else (none)) = some r := by first | (rw [hy190]; with_reducible exact H) | (have H2_ := (Option.bind_some _ _).symm.trans H; rw [hy190]; with_reducible exact H2_) | (have H2_ := (Option.bind_some _ _).symm.trans H; with_reducible exact H2_) | with_reducible exact H | (rw [hy190]; exact H) | exact H
                                                          have Ny190 := Aside0.mk hy190
                                                          clear hy190
                                                          by_cases c93 : x165001_5.length < 4398046511104
                                                          · rw [if_pos c93] at H
                                                            have LMc93 := Aside0.mk c93
                                                            clear c93
                                                            obtain ⟨y193, hy193⟩ : ∃ y_ : List (S41), y_ = (x165001_5 ++ [(⟨(false), y190⟩ : S41)]) := ⟨_, rfl⟩
                                                            replace H : (templelaw5_ShowRows.l2 k5 l0 a1 (wrap64 (1 + (Go.bits .and .i64 (l0.length : Int) 3))) (((x9_5 ++ (⟨#[110]⟩ : ByteArray)) ++ t189) ++ (⟨#[32, 34, 120, 121, 34]⟩ : ByteArray)) x10_1 x11_21 x12_3 (wrap64 (x14_5 + 1)) (wrap64 (Int.tmod (IntKind.u64.wrap (a2)) (IntKind.u64.wrap (wrap64 (1 + (Go.bits .and .i64 (l0.length : Int) 3)))))) y159 x154002_3 x10_1 y193) = some r := by first | (rw [hy193]; with_reducible exact H) | (have H2_ := (Option.bind_some _ _).symm.trans H; rw [hy193]; with_reducible exact H2_) | (have H2_ := (Option.bind_some _ _).symm.trans H; with_reducible exact H2_) | with_reducible exact H | (rw [hy193]; exact H) | exact H
                                                            have Ny193 := Aside0.mk hy193
                                                            clear hy193
                                                            have H' := Aside0.mk H
                                                            clear H
                                                            go_wp2_with (first | ((with_reducible refine gate_callee (f := 15) rfl ?_); refine goesL_ (some 99) rfl rfl Try.func15 (by kernel_rfl) rfl #[.int .i64 x10_1] rfl (by (try simp only [List.map_toArray, List.map_cons, List.map_nil]); first | done | rfl | (simp only [List.length_drop, List.length_take]; rfl)) ?_; (with_reducible refine (templeref0_Decimal.calls k5 x10_1 t189 _ A90.out).mono ?_); rintro e w94 ⟨rfl, hb⟩; refine ⟨_, rfl, ?_⟩; have n0_ := Aside0.mk (Kd.R_below (by (with_reducible repeat (first | apply Kd.R_alloc | apply Kd.R_drewN | apply Kd.R_drew)); exact HO_154001.out) hb); have n1_ := Aside0.mk (Kd.R_below (by (with_reducible repeat (first | apply Kd.R_alloc | apply Kd.R_drewN | apply Kd.R_drew)); exact HO_154002.out) hb); have n2_ := Aside0.mk (Kd.S_below (by (with_reducible repeat (first | apply Kd.S_alloc | apply Kd.S_drewN | apply Kd.S_drew)); exact HO_165001.out) hb); have n3_ := Aside0.mk (blk_below (g := gb153) (o := .cells #[.int .i64 (wrap64 (Int.tmod (IntKind.u64.wrap (a2)) (IntKind.u64.wrap (wrap64 (1 + (Go.bits .and .i64 (l0.length : Int) 3)))))), .slice Ao26 y159.length co26, u154002] 25 (0, 0)) (by (with_reducible repeat (first | refine blk_drewN ?_ _ | refine blk_drew ?_ | refine blk_alloc ?_ _)); exact BK153.out) hb); have n4_ := Aside0.mk (blk_below (g := gb164) (o := .cells #[.int .i64 x10_1, u165001] 44 (0, 0)) (by (with_reducible repeat (first | refine blk_drewN ?_ _ | refine blk_drew ?_ | refine blk_alloc ?_ _)); exact BK164.out) hb); have n5_ := Aside0.mk (below_step (by repeat (first | (with_reducible first | exact HB.out | apply below_alloc | apply pw_below_drewN | apply below_drew1 | refine below_set ?_ GE153.out | refine below_set ?_ GE164.out) | exact HB.out)) hb); clear HO_154001; clear HO_154002; clear HO_165001; clear BK153; clear BK164; clear HB; have HO_154001 := n0_; have HO_154002 := n1_; have HO_165001 := n2_; have BK153 := n3_; have BK164 := n4_; have HB := n5_; clear n0_ n1_ n2_ n3_ n4_ n5_; (try clear hb); (try clear hb2); (try clear hk); (try clear hi); have hnb95 := NB164_153.out; have hnc95 := NB153_164.out; have hcz96_0 : w94.cell? ⟨gb164, 0, none⟩ = some (.int .i64 x10_1) := (blk_cell BK164.out 0).trans rfl; have hcz96_1 : w94.cell? ⟨gb164, 1, none⟩ = some (u165001) := (blk_cell BK164.out 1).trans rfl; have hfz96_0 := blk_frozen BK164.out 0; have hfz96_1 := blk_frozen BK164.out 1) | ((with_reducible refine gate_dst (N := 109) rfl ?_); refine Kd.R_lit k38 _ 38 ?hg (N := 109) ?hd (xs := ([(⟨x10_1, 0, 0⟩ : S38), (⟨(-1), 120, 120⟩ : S38), (⟨(-1), 121, 121⟩ : S38)] : List (S38))) (inner := [.int .i64 x10_1, .int .i64 0, .int .i64 0, .int .i64 (-1), .int .i64 120, .int .i64 120, .int .i64 (-1), .int .i64 121, .int .i64 121]) (ok := fun _ => True) (okp := fun _ => True) ?hr ?hp (fun _ hk => hk) trivial (Below.refl _ _) (Nat.le_refl _) (by simp) ?_; (case hd => rfl); (case hg => rfl); (case hr => first | (go_simp; done) | (go_simp; rfl)); (case hp => exact (Reps.c3 (show Kd.M k38 _ _ _ (⟨x10_1, 0, 0⟩ : S38) [.int .i64 x10_1, .int .i64 0, .int .i64 0] from (k38_mkM _ _ _ (⟨x10_1, 0, 0⟩ : S38) )) (Reps.c3 (show Kd.M k38 _ _ _ (⟨(-1), 120, 120⟩ : S38) [.int .i64 (-1), .int .i64 120, .int .i64 120] from (k38_mkM _ _ _ (⟨(-1), 120, 120⟩ : S38) )) (Reps.c3 (show Kd.M k38 _ _ _ (⟨(-1), 121, 121⟩ : S38) [.int .i64 (-1), .int .i64 121, .int .i64 121] from (k38_mkM _ _ _ (⟨(-1), 121, 121⟩ : S38) )) (Reps.none _ _))))); intro v191 w97 ho98 hb hg_ hnew_; clear hg_ hnew_; (first | rw [← Ny190.out] at ho98 | (simp only [Int.reduceToNat] at ho98; rw [← Ny190.out] at ho98)); have n0_ := Aside0.mk (Kd.R_below (by (with_reducible repeat (first | apply Kd.R_alloc | apply Kd.R_drewN | apply Kd.R_drew)); exact HO_154001.out) hb); have n1_ := Aside0.mk (Kd.R_elder' (by (with_reducible repeat (first | apply Kd.R_alloc | apply Kd.R_drewN | apply Kd.R_drew)); exact HO_154002.out) (Kd.R_base ho98) hb); have n2_ := Aside0.mk (Kd.S_elder' (by (with_reducible repeat (first | apply Kd.S_alloc | apply Kd.S_drewN | apply Kd.S_drew)); exact HO_165001.out) (Kd.R_base ho98) hb); have n3_ := Aside0.mk (Kd.R_lower ho98 (below_size (by repeat (first | (with_reducible first | exact HB.out | apply below_alloc | apply pw_below_drewN | apply below_drew1 | refine below_set ?_ GE153.out | refine below_set ?_ GE164.out) | exact HB.out)))); have n4_ := Aside0.mk (blk_below (g := gb153) (o := .cells #[.int .i64 (wrap64 (Int.tmod (IntKind.u64.wrap (a2)) (IntKind.u64.wrap (wrap64 (1 + (Go.bits .and .i64 (l0.length : Int) 3)))))), .slice Ao26 y159.length co26, u154002] 25 (0, 0)) (by (with_reducible repeat (first | refine blk_drewN ?_ _ | refine blk_drew ?_ | refine blk_alloc ?_ _)); exact BK153.out) hb); have n5_ := Aside0.mk (blk_below (g := gb164) (o := .cells #[.int .i64 x10_1, u165001] 44 (0, 0)) (by (with_reducible repeat (first | refine blk_drewN ?_ _ | refine blk_drew ?_ | refine blk_alloc ?_ _)); exact BK164.out) hb); have n6_ := Aside0.mk (below_step (by repeat (first | (with_reducible first | exact HB.out | apply below_alloc | apply pw_below_drewN | apply below_drew1 | refine below_set ?_ GE153.out | refine below_set ?_ GE164.out) | exact HB.out)) hb); clear HO_154001; clear HO_154002; clear HO_165001; clear BK153; clear BK164; clear HB; have HO_154001 := n0_; have HO_154002 := n1_; have HO_165001 := n2_; have HO192 := n3_; have BK153 := n4_; have BK164 := n5_; have HB := n6_; clear n0_ n1_ n2_ n3_ n4_ n5_ n6_; clear hb ho98; obtain ⟨Ao99, co99, eo99⟩ := Kd.R_slice HO192.out; subst eo99) | ((with_reducible refine gate_builtin (b := .append) (xs := #[.tmp 103, .tmp 111]) rfl ?_); at_builtin; refine Kd.S_append k41 (w0 := w) w.heap.size rfl (.tmp 103) (.tmp 111) 42 41 (.agg #[(.bool false), (.slice none 0 0)]) 32 rfl Try.underlying42 info41 rfl (by decide) (by omega) u165001 x165001_5 (⟨(false), y190⟩ : S41) [.bool (false), .slice Ao99 y190.length co99] (fun _ => True) (fun k_ => some k_ = (.slice Ao99 y190.length co99 : Value).ownBlock) rfl rfl ?aP (fun k_ hk_ => ((Kd.R_mono (ok' := fun k_ => ((fun _ => True)) k_ ∧ some k_ ≠ (u165001 : Value).ownBlock) (Kd.R_apart' (HO192.out) (Kd.S_typed HO_165001.out) (by decide)) (fun k_ hk => ⟨trivial, hk.2⟩))).1 k_ hk_.symm) ?aF ?aO ?aB ?aS ?aL ?_; (case aP => exact k41_mkM _ _ _ (⟨(false), y190⟩ : S41) (Kd.R_mono (Kd.R_tight rfl (Kd.R_mono (ok' := fun k_ => ((fun _ => True)) k_ ∧ some k_ ≠ (u165001 : Value).ownBlock) (Kd.R_apart' (HO192.out) (Kd.S_typed HO_165001.out) (by decide)) (fun k_ hk => ⟨trivial, hk.2⟩))) (fun _ h_ => h_))); (case aB => exact (by repeat (first | (with_reducible first | exact HB.out | apply below_alloc | apply pw_below_drewN | apply below_drew1 | refine below_set ?_ GE153.out | refine below_set ?_ GE164.out) | exact HB.out))); (case aF => exact (fun _ _ => trivial)); (case aO => exact (by (with_reducible repeat (first | apply Kd.S_alloc | apply Kd.S_drewN | apply Kd.S_drew)); exact Kd.S_mono HO_165001.out (fun k_ hk => ⟨trivial, fun e_ => hk.2 e_⟩))); (case aS => exact (below_size (by repeat (first | (with_reducible first | exact HB.out | apply below_alloc | apply pw_below_drewN | apply below_drew1 | refine below_set ?_ GE153.out | refine below_set ?_ GE164.out) | exact HB.out)))); (case aL => have := LMc93.out; omega); intro v194 w100 ho hb hg hat; rw [← Ny193.out] at ho; have n0_ := Aside0.mk (Kd.R_over' (by (with_reducible repeat (first | apply Kd.R_alloc | apply Kd.R_drewN | apply Kd.R_drew)); exact HO_154001.out) (Kd.S_typed (by (with_reducible repeat (first | apply Kd.S_alloc | apply Kd.S_drewN | apply Kd.S_drew)); exact HO_165001.out)) (by decide) hg); have n1_ := Aside0.mk (Kd.R_after (ok := (fun k_ => some k_ ≠ (.slice Ao99 y190.length co99 : Value).ownBlock ∧ k_ ≠ gb164)) (by (with_reducible repeat (first | apply Kd.R_alloc | apply Kd.R_drewN | apply Kd.R_drew)); exact Kd.R_mono HO_154002.out (fun _ hk => ⟨⟨hk.2, hk.1.2⟩, hk.1.1⟩)) hg hat); have n2_ := Aside0.mk (blk_grown (g := gb153) (o := .cells #[.int .i64 (wrap64 (Int.tmod (IntKind.u64.wrap (a2)) (IntKind.u64.wrap (wrap64 (1 + (Go.bits .and .i64 (l0.length : Int) 3)))))), .slice Ao26 y159.length co26, u154002] 25 (0, 0)) (by (with_reducible repeat (first | refine blk_drewN ?_ _ | refine blk_drew ?_ | refine blk_alloc ?_ _)); exact BK153.out) hg (Kd.S_ne HO_165001.out BK153.out (by decide))); have n3_ := Aside0.mk (blk_grown (g := gb164) (o := .cells #[.int .i64 x10_1, u165001] 44 (0, 0)) (by (with_reducible repeat (first | refine blk_drewN ?_ _ | refine blk_drew ?_ | refine blk_alloc ?_ _)); exact BK164.out) hg (Kd.S_ne HO_165001.out BK164.out (by decide))); have n4_ := Aside0.mk (hb); have n5_ := Aside0.mk (ho); clear HO_154001; clear HO_154002; clear BK153; clear BK164; clear HB; clear HO_165001; clear HO192; have HO_154001 := n0_; have HO_154002 := n1_; have BK153 := n2_; have BK164 := n3_; have HB := n4_; have HO195 := n5_; clear n0_ n1_ n2_ n3_ n4_ n5_; clear ho hb hg hat; obtain ⟨Ao101, co101, eo101⟩ := Kd.S_slice HO195.out; subst eo101; have hcz102_0 : w100.cell? ⟨gb164, 0, none⟩ = some (.int .i64 x10_1) := (blk_cell BK164.out 0).trans rfl; have hcz102_1 : w100.cell? ⟨gb164, 1, none⟩ = some (u165001) := (blk_cell BK164.out 1).trans rfl; have hfz102_0 := blk_frozen BK164.out 0; have hfz102_1 := blk_frozen BK164.out 1))
                                                            go_roundg k5
                                                            case measure => have := HK1.out; have := HJ21.out; have := HK3.out; have := HJ31.out; have := HK5.out; omega
                                                            case rel => exact ⟨(((x9_5 ++ (⟨#[110]⟩ : ByteArray)) ++ t189) ++ (⟨#[32, 34, 120, 121, 34]⟩ : ByteArray)), (wrap64 (x14_5 + 1)), (y193), (.slice Ao101 y193.length co101), (by first | rfl | (simp; done) | (simp [i64_w]; done) | (simp [*]; done) | (simp [*, i64_w]; done) | (simp [*]; unfold wrap64; omega)), (by first | rfl | (simp; done) | (simp [i64_w]; done) | (simp [*]; done) | (simp [*, i64_w]; done) | (simp [*]; unfold wrap64; omega)), H', ⟨by have := HK1.out; have := HJ21.out; have := HK3.out; have := HJ31.out; have := HK5.out; omega⟩, ⟨by (with_reducible repeat (first | apply Kd.R_alloc | apply Kd.R_drewN | apply Kd.R_drew)); exact Kd.R_mono (Kd.R_far (p := ⟨gb164, 1, none⟩) (Kd.R_types HO_154001.out BK164.out (by decide)) (fun _ hk => hk.2) (.slice Ao101 y193.length co101)) (fun _ hk => trivial)⟩, ⟨by (with_reducible repeat (first | apply Kd.R_alloc | apply Kd.R_drewN | apply Kd.R_drew)); exact Kd.R_mono (Kd.R_far (p := ⟨gb164, 1, none⟩) (Kd.R_mono HO_154002.out (fun k_ hk => (⟨hk, hk.1.2⟩ : _ ∧ k_ ≠ gb164))) (fun _ hk => hk.2) (.slice Ao101 y193.length co101)) (fun _ hk => ⟨hk.1.2, hk.1.1.2⟩)⟩, ⟨by (with_reducible repeat (first | apply Kd.S_alloc | apply Kd.S_drewN | apply Kd.S_drew)); exact Kd.S_mono (Kd.S_far (p := ⟨gb164, 1, none⟩) (Kd.S_types HO195.out BK164.out (by decide)) (fun _ hk => hk.2) (.slice Ao101 y193.length co101)) (fun _ hk => trivial)⟩, ⟨by (with_reducible repeat (first | refine blk_drewN ?_ _ | refine blk_drew ?_ | refine blk_alloc ?_ _)); refine blk_far ?_ NB153_164.out _; (with_reducible repeat (first | refine blk_drewN ?_ _ | refine blk_drew ?_ | refine blk_alloc ?_ _)); exact BK153.out⟩, ⟨by (with_reducible repeat (first | refine blk_drewN ?_ _ | refine blk_drew ?_ | refine blk_alloc ?_ _)); refine blk_put (cs := #[.int .i64 x10_1, u165001]) ?_ 1 _ rfl; (with_reducible repeat (first | refine blk_drewN ?_ _ | refine blk_drew ?_ | refine blk_alloc ?_ _)); exact BK164.out⟩, ⟨by repeat (first | (with_reducible first | exact HB.out | apply below_alloc | apply pw_below_drewN | apply below_drew1 | refine below_set ?_ GE153.out | refine below_set ?_ GE164.out) | exact HB.out)⟩⟩
                                                          · rw [if_neg c93] at H
                                                            exact absurd H (by simp)
                                                        · rw [if_neg c92] at H
                                                          exact absurd H (by simp)
                                                      · rw [if_neg c91] at H
                                                        exact absurd H (by simp)
                                                    · rw [if_neg c89] at H
                                                      exact absurd H (by simp)
                                              · rw [if_neg c40] at H
                                                have c40b0 : decide (x14_5 ≤ (Go.bits .and .i64 (ji39) 3)) = false := decide_eq_false c40
                                                clear c40
                                                by_cases c103 : x154002_3.length < 4398046511104
                                                · rw [if_pos c103] at H
                                                  have LMc103 := Aside0.mk c103
                                                  clear c103
                                                  obtain ⟨y165, hy165⟩ : ∃ y_ : List (S44), y_ = (x154002_3 ++ [(⟨x10_1, x165001_5⟩ : S44)]) := ⟨_, rfl⟩
                                                  replace H : (templelaw5_ShowRows.l1 k5 l0 a1 (wrap64 (1 + (Go.bits .and .i64 (l0.length : Int) 3))) x9_5 x10_1 x11_21 (wrap64 (x12_3 + 1)) (wrap64 (Int.tmod (IntKind.u64.wrap (a2)) (IntKind.u64.wrap (wrap64 (1 + (Go.bits .and .i64 (l0.length : Int) 3)))))) y159 y165) = some r := by first | (rw [hy165]; with_reducible exact H) | (have H2_ := (Option.bind_some _ _).symm.trans H; rw [hy165]; with_reducible exact H2_) | (have H2_ := (Option.bind_some _ _).symm.trans H; with_reducible exact H2_) | with_reducible exact H | (rw [hy165]; exact H) | exact H
                                                  have Ny165 := Aside0.mk hy165
                                                  clear hy165
                                                  have H' := Aside0.mk H
                                                  clear H
                                                  have hnb104 := NB153_164.out
                                                  have hnc104 := NB164_153.out
                                                  have hcz105_0 : wr.cell? ⟨gb153, 0, none⟩ = some (.int .i64 (wrap64 (Int.tmod (IntKind.u64.wrap (a2)) (IntKind.u64.wrap (wrap64 (1 + (Go.bits .and .i64 (l0.length : Int) 3))))))) := (blk_cell BK153.out 0).trans rfl
                                                  have hcz105_1 : wr.cell? ⟨gb153, 1, none⟩ = some (.slice Ao26 y159.length co26) := (blk_cell BK153.out 1).trans rfl
                                                  have hcz105_2 : wr.cell? ⟨gb153, 2, none⟩ = some (u154002) := (blk_cell BK153.out 2).trans rfl
                                                  have hfz105_0 := blk_frozen BK153.out 0
                                                  have hfz105_1 := blk_frozen BK153.out 1
                                                  have hfz105_2 := blk_frozen BK153.out 2
                                                  have hcz106_0 : wr.cell? ⟨gb164, 0, none⟩ = some (.int .i64 x10_1) := (blk_cell BK164.out 0).trans rfl
                                                  have hcz106_1 : wr.cell? ⟨gb164, 1, none⟩ = some (u165001) := (blk_cell BK164.out 1).trans rfl
                                                  have hfz106_0 := blk_frozen BK164.out 0
                                                  have hfz106_1 := blk_frozen BK164.out 1
                                                  obtain ⟨Ao108, co108, eo108⟩ := Kd.S_slice HO_165001.out
                                                  subst eo108
                                                  go_wp2_with (first | ((with_reducible refine gate_builtin (b := .append) (xs := #[.tmp 115, .tmp 117]) rfl ?_); at_builtin; refine Kd.R_append k44 (w0 := w) w.heap.size rfl (.tmp 115) (.tmp 117) 23 44 (.agg #[(.int .i64 0), (.slice none 0 0)]) 32 rfl Try.underlying23 info44 rfl (by decide) (by omega) u154002 x154002_3 (⟨x10_1, x165001_5⟩ : S44) [.int .i64 x10_1, .slice Ao108 x165001_5.length co108] (fun k_ => k_ ≠ gb164) (fun k_ => ((fun k_ => k_ ≠ gb164)) k_ ∧ some k_ ≠ (u154002 : Value).ownBlock) rfl rfl ?aP (fun _ hk => hk) ?aF ?aO ?aB ?aS ?aL ?_; (case aP => exact k44_mkM _ _ _ (⟨x10_1, x165001_5⟩ : S44) (Kd.R_mono (Kd.R_types (Kd.R_apart' ((Kd.S_R HO_165001.out)) (Kd.R_typed HO_154002.out) (by decide)) BK164.out (by decide)) (fun k_ hk => ⟨hk.2, hk.1.2⟩))); (case aB => exact (by repeat (first | (with_reducible first | exact HB.out | apply below_alloc | apply pw_below_drewN | apply below_drew1 | refine below_set ?_ GE153.out | refine below_set ?_ GE164.out) | exact HB.out))); (case aF => exact (fun k_ hk => Kd.freshB (g := gb164) (o := .cells #[.int .i64 x10_1, .slice Ao108 x165001_5.length co108] 44 (0, 0)) (by (with_reducible repeat (first | refine blk_drewN ?_ _ | refine blk_drew ?_ | refine blk_alloc ?_ _)); exact BK164.out) k_ hk)); (case aO => exact (by (with_reducible repeat (first | apply Kd.R_alloc | apply Kd.R_drewN | apply Kd.R_drew)); exact Kd.R_mono HO_154002.out (fun _ hk => hk.2))); (case aS => exact (below_size (by repeat (first | (with_reducible first | exact HB.out | apply below_alloc | apply pw_below_drewN | apply below_drew1 | refine below_set ?_ GE153.out | refine below_set ?_ GE164.out) | exact HB.out)))); (case aL => have := LMc103.out; omega); intro v166 w107 ho hb hg hat; rw [← Ny165.out] at ho; have n0_ := Aside0.mk (Kd.R_over' (by (with_reducible repeat (first | apply Kd.R_alloc | apply Kd.R_drewN | apply Kd.R_drew)); exact HO_154001.out) (Kd.R_typed (by (with_reducible repeat (first | apply Kd.R_alloc | apply Kd.R_drewN | apply Kd.R_drew)); exact HO_154002.out)) (by decide) hg); have n1_ := Aside0.mk (blk_grown (g := gb153) (o := .cells #[.int .i64 (wrap64 (Int.tmod (IntKind.u64.wrap (a2)) (IntKind.u64.wrap (wrap64 (1 + (Go.bits .and .i64 (l0.length : Int) 3)))))), .slice Ao26 y159.length co26, u154002] 25 (0, 0)) (by (with_reducible repeat (first | refine blk_drewN ?_ _ | refine blk_drew ?_ | refine blk_alloc ?_ _)); exact BK153.out) hg (Kd.R_ne HO_154002.out BK153.out (by decide))); have n2_ := Aside0.mk (blk_grown (g := gb164) (o := .cells #[.int .i64 x10_1, .slice Ao108 x165001_5.length co108] 44 (0, 0)) (by (with_reducible repeat (first | refine blk_drewN ?_ _ | refine blk_drew ?_ | refine blk_alloc ?_ _)); exact BK164.out) hg (Kd.R_away HO_154002.out (fun _ hk => hk.2))); have n3_ := Aside0.mk (hb); have n4_ := Aside0.mk (ho); clear HO_154001; clear BK153; clear BK164; clear HB; clear HO_154002; clear HO_165001; have HO_154001 := n0_; have BK153 := n1_; have BK164 := n2_; have HB := n3_; have HO167 := n4_; clear n0_ n1_ n2_ n3_ n4_; clear ho hb hg hat; obtain ⟨Ao109, co109, eo109⟩ := Kd.R_slice HO167.out; subst eo109; have hcz110_0 : w107.cell? ⟨gb153, 0, none⟩ = some (.int .i64 (wrap64 (Int.tmod (IntKind.u64.wrap (a2)) (IntKind.u64.wrap (wrap64 (1 + (Go.bits .and .i64 (l0.length : Int) 3))))))) := (blk_cell BK153.out 0).trans rfl; have hcz110_1 : w107.cell? ⟨gb153, 1, none⟩ = some (.slice Ao26 y159.length co26) := (blk_cell BK153.out 1).trans rfl; have hcz110_2 : w107.cell? ⟨gb153, 2, none⟩ = some (u154002) := (blk_cell BK153.out 2).trans rfl; have hfz110_0 := blk_frozen BK153.out 0; have hfz110_1 := blk_frozen BK153.out 1; have hfz110_2 := blk_frozen BK153.out 2))
                                                  go_roundg k5
                                                  case measure => have := HK1.out; have := HJ21.out; have := HK3.out; have := HJ31.out; have := HK5.out; omega
                                                  case rel => exact ⟨(x9_5), (wrap64 (x12_3 + 1)), (y165), (.slice Ao109 y165.length co109), (by first | rfl | (simp; done) | (simp [i64_w]; done) | (simp [*]; done) | (simp [*, i64_w]; done) | (simp [*]; unfold wrap64; omega)), (by first | rfl | (simp; done) | (simp [i64_w]; done) | (simp [*]; done) | (simp [*, i64_w]; done) | (simp [*]; unfold wrap64; omega)), H', ⟨by have := HK1.out; have := HJ21.out; have := HK3.out; have := HJ31.out; have := HK5.out; omega⟩, ⟨by (with_reducible repeat (first | apply Kd.R_alloc | apply Kd.R_drewN | apply Kd.R_drew)); exact Kd.R_mono (Kd.R_far (p := ⟨gb153, 2, none⟩) (Kd.R_types HO_154001.out BK153.out (by decide)) (fun _ hk => hk.2) (.slice Ao109 y165.length co109)) (fun _ hk => trivial)⟩, ⟨by (with_reducible repeat (first | apply Kd.R_alloc | apply Kd.R_drewN | apply Kd.R_drew)); exact Kd.R_mono (Kd.R_far (p := ⟨gb153, 2, none⟩) (Kd.R_types HO167.out BK153.out (by decide)) (fun _ hk => hk.2) (.slice Ao109 y165.length co109)) (fun _ hk => trivial)⟩, ⟨by (with_reducible repeat (first | refine blk_drewN ?_ _ | refine blk_drew ?_ | refine blk_alloc ?_ _)); refine blk_put (cs := #[.int .i64 (wrap64 (Int.tmod (IntKind.u64.wrap (a2)) (IntKind.u64.wrap (wrap64 (1 + (Go.bits .and .i64 (l0.length : Int) 3)))))), .slice Ao26 y159.length co26, u154002]) ?_ 2 _ rfl; (with_reducible repeat (first | refine blk_drewN ?_ _ | refine blk_drew ?_ | refine blk_alloc ?_ _)); exact BK153.out⟩, ⟨by repeat (first | (with_reducible first | exact HB.out | apply below_alloc | apply pw_below_drewN | apply below_drew1 | refine below_set ?_ GE153.out | refine below_set ?_ GE164.out) | exact HB.out)⟩⟩
                                                · rw [if_neg c103] at H
                                                  exact absurd H (by simp)
                                            · rw [if_neg c38] at H
                                              exact absurd H (by simp)
                                  · rw [if_neg c31] at H
                                    have c31b0 : decide (x12_3 < x11_21) = false := decide_eq_false c31
                                    clear c31
                                    by_cases c111 : x9_3.size + 2 ≤ 9223372036854775807
                                    · rw [if_pos c111] at H
                                      have c111b0 := eq_true c111
                                      have c111b1 : decide (x9_3.size + 2 ≤ 9223372036854775807) = true := decide_eq_true c111
                                      try have c111b2 : (9223372036854775807 < x9_3.size + 2) = False := eq_false (Nat.not_lt.2 c111)
                                      have H' := Aside0.mk H
                                      clear H
                                      go_wp2
                                      go_roundg k3
                                      case measure => have := HK1.out; have := HJ21.out; have := HK3.out; omega
                                      case rel => exact ⟨(x9_3 ++ (⟨#[59, 10]⟩ : ByteArray)), (wrap64 (x10_1 + 1)), (y159), (x154002_3), (.slice Ao26 y159.length co26), (u154002), (by first | rfl | (simp; done) | (simp [i64_w]; done) | (simp [*]; done) | (simp [*, i64_w]; done) | (simp [*]; unfold wrap64; omega)), (by first | rfl | (simp; done) | (simp [i64_w]; done) | (simp [*]; done) | (simp [*, i64_w]; done) | (simp [*]; unfold wrap64; omega)), H', ⟨by have := HK1.out; have := HJ21.out; have := HK3.out; omega⟩, ⟨by (with_reducible repeat (first | apply Kd.R_alloc | apply Kd.R_drewN | apply Kd.R_drew)); exact HO_154001.out⟩, ⟨by (with_reducible repeat (first | apply Kd.R_alloc | apply Kd.R_drewN | apply Kd.R_drew)); exact HO_154002.out⟩, ⟨by (with_reducible repeat (first | refine blk_drewN ?_ _ | refine blk_drew ?_ | refine blk_alloc ?_ _)); exact BK153.out⟩, ⟨by repeat (first | (with_reducible first | exact HB.out | apply below_alloc | apply pw_below_drewN | apply below_drew1 | refine below_set ?_ GE153.out) | exact HB.out)⟩⟩
                                    · rw [if_neg c111] at H
                                      exact absurd H (by simp)
                        · rw [if_neg c21] at H
                          exact absurd H (by simp)
                      · rw [if_neg c20] at H
                        exact absurd H (by simp)
                    · rw [if_neg c18] at H
                      exact absurd H (by simp)
                  · rw [if_neg c17] at H
                    exact absurd H (by simp)
                · rw [if_neg c16] at H
                  exact absurd H (by simp)
              · rw [if_neg c14] at H
                have c14b0 : decide (x10_1 < (wrap64 (1 + (Go.bits .and .i64 (l0.length : Int) 3)))) = false := decide_eq_false c14
                clear c14
                replace H := Option.bind_eq_some_iff.mp H
                obtain ⟨⟨t155, t156⟩, A1120, H⟩ := H
                replace H : ((templelaw0_Num.f t156).bind fun t157 => (if t157 = 0 then (some (t155.toList == x9_1.toList)) else (none))) = some r := H
                have A112 := Aside0.mk A1120
                clear A1120
                replace H := Option.bind_eq_some_iff.mp H
                obtain ⟨t157, A1130, H⟩ := H
                replace H : (if t157 = 0 then (some (t155.toList == x9_1.toList)) else (none)) = some r := H
                have A113 := Aside0.mk A1130
                clear A1130
                by_cases c114 : t157 = 0
                · rw [if_pos c114] at H
                  have c114b0 : (t157 == 0) = true := beq_iff_eq.mpr c114
                  have c114b1 : (t157 != 0) = false := bne_eq_false_iff_eq.mpr c114
                  clear c114
                  obtain rfl := Option.some.inj H
                  have hcz115_0 : wr.cell? ⟨gb153, 0, none⟩ = some (.int .i64 (wrap64 (Int.tmod (IntKind.u64.wrap (a2)) (IntKind.u64.wrap (wrap64 (1 + (Go.bits .and .i64 (l0.length : Int) 3))))))) := (blk_cell BK153.out 0).trans rfl
                  have hcz115_1 : wr.cell? ⟨gb153, 1, none⟩ = some (u154001) := (blk_cell BK153.out 1).trans rfl
                  have hcz115_2 : wr.cell? ⟨gb153, 2, none⟩ = some (u154002) := (blk_cell BK153.out 2).trans rfl
                  have hfz115_0 := blk_frozen BK153.out 0
                  have hfz115_1 := blk_frozen BK153.out 1
                  have hfz115_2 := blk_frozen BK153.out 2
                  obtain ⟨Ao116, co116, eo116⟩ := Kd.R_slice HO_154001.out
                  subst eo116
                  obtain ⟨Ao117, co117, eo117⟩ := Kd.R_slice HO_154002.out
                  subst eo117
                  go_wp2_with (first | ((with_reducible refine gate_callee (f := 10) rfl ?_); refine goesL_ (some 124) rfl rfl Try.func10 (by kernel_rfl) rfl #[.agg #[.int .i64 (wrap64 (Int.tmod (IntKind.u64.wrap (a2)) (IntKind.u64.wrap (wrap64 (1 + (Go.bits .and .i64 (l0.length : Int) 3)))))), .slice Ao116 x154001_1.length co116, .slice Ao117 x154002_1.length co117]] rfl (by (try simp only [List.map_toArray, List.map_cons, List.map_nil]); first | done | rfl | (simp only [List.length_drop, List.length_take]; rfl)) ?_; (with_reducible refine (show_Show.calls (wrap64 (Int.tmod (IntKind.u64.wrap (a2)) (IntKind.u64.wrap (wrap64 (1 + (Go.bits .and .i64 (l0.length : Int) 3)))))) _ _ x154001_1 _ _ x154002_1 t155 t156 _ ?side1 ?side2 ?side3 ?side4 A112.out).mono ?_); (case side1 => repeat (first | exact (Kd.R_reads' HO_154001.out).2.2 | (with_reducible refine Kd.C_alloc ?_ _) | (with_reducible refine Kd.C_drewN ?_ _) | (with_reducible refine Kd.C_drew ?_))); (case side2 => exact (Kd.R_reads' HO_154001.out).2.1); (case side3 => repeat (first | exact (Kd.R_reads' HO_154002.out).2.2 | (with_reducible refine Kd.C_alloc ?_ _) | (with_reducible refine Kd.C_drewN ?_ _) | (with_reducible refine Kd.C_drew ?_))); (case side4 => exact (Kd.R_reads' HO_154002.out).2.1); rintro e w118 ⟨rfl, hb⟩; refine ⟨_, rfl, ?_⟩; have n0_ := Aside0.mk (Kd.R_below (by (with_reducible repeat (first | apply Kd.R_alloc | apply Kd.R_drewN | apply Kd.R_drew)); exact HO_154001.out) hb); have n1_ := Aside0.mk (Kd.R_below (by (with_reducible repeat (first | apply Kd.R_alloc | apply Kd.R_drewN | apply Kd.R_drew)); exact HO_154002.out) hb); have n2_ := Aside0.mk (blk_below (g := gb153) (o := .cells #[.int .i64 (wrap64 (Int.tmod (IntKind.u64.wrap (a2)) (IntKind.u64.wrap (wrap64 (1 + (Go.bits .and .i64 (l0.length : Int) 3)))))), .slice Ao116 x154001_1.length co116, .slice Ao117 x154002_1.length co117] 25 (0, 0)) (by (with_reducible repeat (first | refine blk_drewN ?_ _ | refine blk_drew ?_ | refine blk_alloc ?_ _)); exact BK153.out) hb); have n3_ := Aside0.mk (below_step (by repeat (first | (with_reducible first | exact HB.out | apply below_alloc | apply pw_below_drewN | apply below_drew1 | refine below_set ?_ GE153.out) | exact HB.out)) hb); clear HO_154001; clear HO_154002; clear BK153; clear HB; have HO_154001 := n0_; have HO_154002 := n1_; have BK153 := n2_; have HB := n3_; clear n0_ n1_ n2_ n3_; (try clear hb); (try clear hb2); (try clear hk); (try clear hi)) | ((with_reducible refine gate_callee (f := 12) rfl ?_); refine goesL_ (some 128) rfl rfl Try.func12 (by kernel_rfl) rfl #[.int .i64 t156] rfl (by (try simp only [List.map_toArray, List.map_cons, List.map_nil]); first | done | rfl | (simp only [List.length_drop, List.length_take]; rfl)) ?_; (with_reducible refine (templelaw0_Num.calls t156 t157 _ A113.out).mono ?_); rintro e w' ⟨rfl, ⟨nd, rfl⟩⟩; refine ⟨_, rfl, ?_⟩))
                  go_ret
                  exact ⟨by first | rfl | (simp [errW_none, errW_some] <;> rfl) | (simp [*, errW_none, errW_some] <;> rfl), by repeat (first | (with_reducible first | exact HB.out | apply below_alloc | apply pw_below_drewN | apply below_drew1 | refine below_set ?_ GE153.out) | exact HB.out)⟩
                · rw [if_neg c114] at H
                  exact absurd H (by simp)
        · rw [if_neg c9] at H
          exact absurd H (by simp)
      · rw [if_neg c8] at H
        exact absurd H (by simp)
  · replace c5 := Bool.eq_false_iff.mpr c5
    subst c5
    have H1 : (none) = some r := by rw [if_neg (show ¬ (false = true) by decide)] at H; exact H
    clear H
    have H := H1
    clear H1
    exact absurd H (by simp)

/-- THE ONE PURE STATEMENT of templelaw5_ShowRows: yours. -/
def templelaw5_ShowRows.Pure : Prop := ∀ (l0 : List Int) (a1 : Int) (a2 : Int), l0.length ≤ maxLen → l0.length * 8 ≤ 140737488351232 → (∀ x ∈ l0, (Lit.int .i64 x).wf = true) → (Lit.int .i64 a1).wf = true → (Lit.int .i64 a2).wf = true → ∃ k, templelaw5_ShowRows.f k l0 a1 a2 = some true
theorem templelaw5_ShowRows.walk (P : templelaw5_ShowRows.Pure) (a0 : Option Addr) (len0 cap0 : Nat) (z0 : List Int) (a1 : Int) (a2 : Int) (w : World) (w0 : (a0 = none ∧ len0 = 0 ∧ cap0 = 0 ∧ z0 = []) ∨ ∃ x, a0 = some x ∧ len0 ≤ cap0 ∧ cap0 ≤ maxLen ∧ z0.length = cap0 ∧ (∀ i, i < z0.length → w.cell? (x.add i) = some (.int .i64 (z0.getD i 0))) ∧ ∀ n ∈ z0, (Lit.int .i64 n).wf = true) (y0 : len0 * 8 ≤ 140737488351232) (w1 : (Lit.int .i64 a1).wf = true) (w2 : (Lit.int .i64 a2).wf = true) :
    Calls Try.prog 7 #[.slice a0 len0 cap0, .int .i64 a1, .int .i64 a2] w fun e w' => e = .returned (.bool true) ∧ Below w.heap.size w w' := by
  obtain ⟨l0, rfl, hr0, hm0, hw0, hc0⟩ := ReadsInt.ofRowC w0
  obtain ⟨k, h⟩ := P l0 a1 a2 hm0 y0 hw0 w1 w2
  refine (templelaw5_ShowRows.calls k _ _ l0 a1 a2 true w (Kd.C_of_reads (d := (0 : Int)) (h1 := fun _ => rfl) hr0) hc0 h).mono ?_
  rintro e w' ⟨rfl, hd⟩
  exact ⟨rfl, hd⟩

end Go.Proofs.Ytimmkmfcpfjgfaa.PSR
