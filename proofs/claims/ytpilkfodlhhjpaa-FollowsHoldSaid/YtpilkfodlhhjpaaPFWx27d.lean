-- written by a program of the session's (wip/myprint.py) out of the translation
import Derived.Test.YtpilkfodlhhjpaaPFWx0
import Derived.Test.YtpilkfodlhhjpaaPFWx1
import Derived.Test.YtpilkfodlhhjpaaPFWx10
import Derived.Test.YtpilkfodlhhjpaaPFWx11
import Derived.Test.YtpilkfodlhhjpaaPFWx12
import Derived.Test.YtpilkfodlhhjpaaPFWx13
import Derived.Test.YtpilkfodlhhjpaaPFWx17
import Derived.Test.YtpilkfodlhhjpaaPFWx24
import Derived.Test.YtpilkfodlhhjpaaPFWx25
import Derived.Test.YtpilkfodlhhjpaaPFWx26
namespace Go.Proofs.Ytpilkfodlhhjpaa.PFW
open Go.RowKit Go.Proofs.YtpilkfodlhhjpaaW.PrintWords Go.Proofs.YtpilkfodlhhjpaaW.PrintLast Go.Proofs.YtpilkfodlhhjpaaW.PrintMore
attribute [local go_sem] max2_int min2_int max_two min_two max_three min_three max_four min_four   -- for this text's walks alone
set_option linter.unusedVariables false
set_option linter.unusedSimpArgs false

attribute [local go_sem high] eqA63
mutual
def templelaw12_FollowsHold.j0 : Nat → List Bool → List (S63) → List (S66) → Bool → Int → List ByteArray → List (S55) → Option (Bool)
 | 0, _, _, _, _, _, _, _ => none
 | k + 1, x3, x5, x7, x49, x192000, x192001, x192002 => if x49 = true then (some ((wrap64 ((wrap64 ((x3.length : Int) + (x5.length : Int))) + (x7.length : Int))) == 0)) else ((templeref1_May.f k x192000 x192001 x192002).bind fun t208 => (if t208 = true then (if (x3.length : Int) = (x192001.length : Int) then (if (x5.length : Int) = (x192001.length : Int) then (if (x7.length : Int) = (x192001.length : Int) then (if 0 ≤ x192000 then (if x192000 < (x7.length : Int) then (if ((rd_T66 x7 x192000).f1 = true) then (templelaw12_FollowsHold.l0 k x3 x5 x7 0 x192000 x192001 x192002) else (none)) else (none)) else (none)) else (none)) else (none)) else (none)) else (none)))
def templelaw12_FollowsHold.l0 : Nat → List Bool → List (S63) → List (S66) → Int → Int → List ByteArray → List (S55) → Option (Bool)
 | 0, _, _, _, _, _, _, _ => none
 | k + 1, x3, x5, x7, x10, x192000, x192001, x192002 => if x10 < (x192002.length : Int) then (templelaw12_FollowsHold.l1 k x3 x5 x7 x10 0 x192000 x192001 x192002) else (some true)
def templelaw12_FollowsHold.l1 : Nat → List Bool → List (S63) → List (S66) → Int → Int → Int → List ByteArray → List (S55) → Option (Bool)
 | 0, _, _, _, _, _, _, _, _ => none
 | k + 1, x3, x5, x7, x10, x11, x192000, x192001, x192002 => if 0 ≤ x10 then (if x10 < (x192002.length : Int) then (if x11 < (((rd_T55 x192002 x10).f1).length : Int) then (if 0 ≤ x11 then (templelaw12_FollowsHold.l2 k x3 x5 x7 x10 x11 ((rd_T58 ((rd_T55 x192002 x10).f1) x11).f1) true (wrap64 ((((rd_T58 ((rd_T55 x192002 x10).f1) x11).f1).length : Int) - 1)) x192000 x192001 x192002 0 0 0 0) else (none)) else (templelaw12_FollowsHold.l0 k x3 x5 x7 (wrap64 (x10 + 1)) x192000 x192001 x192002)) else (none)) else (none)
def templelaw12_FollowsHold.l2 : Nat → List Bool → List (S63) → List (S66) → Int → Int → List (S68) → Bool → Int → Int → List ByteArray → List (S55) → Int → Int → Int → Int → Option (Bool)
 | 0, _, _, _, _, _, _, _, _, _, _, _, _, _, _, _ => none
 | k + 1, x3, x5, x7, x10, x11, x12, x13, x15, x192000, x192001, x192002, x214000, x214001, x214002, x214003 => if x15 ≥ 0 then (if 0 ≤ x15 then (if x15 < (x12.length : Int) then (if ((rd_T68 x12 x15).f0) ≥ 0 then (if 0 ≤ ((rd_T68 x12 x15).f0) then (if ((rd_T68 x12 x15).f0) < (x7.length : Int) then ((templeref1_Mix.f 0 ((rd_T66 x7 ((rd_T68 x12 x15).f0)).f0.f0) ((rd_T66 x7 ((rd_T68 x12 x15).f0)).f0.f1) ((rd_T66 x7 ((rd_T68 x12 x15).f0)).f0.f2) ((rd_T66 x7 ((rd_T68 x12 x15).f0)).f0.f3) x214000 x214001 x214002 x214003).bind fun bt218 => (if (!(bt218.1 == ((rd_T66 x7 ((rd_T68 x12 x15).f0)).f0.f0)) || (!(bt218.2.1 == ((rd_T66 x7 ((rd_T68 x12 x15).f0)).f0.f1)) || (!(bt218.2.2.1 == ((rd_T66 x7 ((rd_T68 x12 x15).f0)).f0.f2)) || (!(bt218.2.2.2 == ((rd_T66 x7 ((rd_T68 x12 x15).f0)).f0.f3)))))) = true then (none) else (if x13 = true then (if 0 ≤ x10 then (if x10 < (x192002.length : Int) then (if 0 ≤ ((rd_T55 x192002 x10).f0) then (if ((rd_T55 x192002 x10).f0) < (x7.length : Int) then ((templeref1_Mix.f 0 ((rd_T66 x7 ((rd_T68 x12 x15).f0)).f0.f0) ((rd_T66 x7 ((rd_T68 x12 x15).f0)).f0.f1) ((rd_T66 x7 ((rd_T68 x12 x15).f0)).f0.f2) ((rd_T66 x7 ((rd_T68 x12 x15).f0)).f0.f3) ((rd_T66 x7 ((rd_T55 x192002 x10).f0)).f0.f0) ((rd_T66 x7 ((rd_T55 x192002 x10).f0)).f0.f1) ((rd_T66 x7 ((rd_T55 x192002 x10).f0)).f0.f2) ((rd_T66 x7 ((rd_T55 x192002 x10).f0)).f0.f3)).bind fun bt224 => (if (!(bt224.1 == ((rd_T66 x7 ((rd_T68 x12 x15).f0)).f0.f0)) || (!(bt224.2.1 == ((rd_T66 x7 ((rd_T68 x12 x15).f0)).f0.f1)) || (!(bt224.2.2.1 == ((rd_T66 x7 ((rd_T68 x12 x15).f0)).f0.f2)) || (!(bt224.2.2.2 == ((rd_T66 x7 ((rd_T68 x12 x15).f0)).f0.f3)))))) = true then (templelaw12_FollowsHold.j4 k x3 x5 x7 x10 x11 x12 x13 x15 true x192000 x192001 x192002 x214000 x214001 x214002 x214003 ((rd_T68 x12 x15).f0) ((rd_T68 x12 x15).f1) ((rd_T68 x12 x15).f2)) else (if (rd_T66 x7 ((rd_T55 x192002 x10).f0)).f1 = true then (templelaw12_FollowsHold.j4 k x3 x5 x7 x10 x11 x12 x13 x15 (!((rd_T66 x7 ((rd_T68 x12 x15).f0)).f1)) x192000 x192001 x192002 x214000 x214001 x214002 x214003 ((rd_T68 x12 x15).f0) ((rd_T68 x12 x15).f1) ((rd_T68 x12 x15).f2)) else (templelaw12_FollowsHold.j4 k x3 x5 x7 x10 x11 x12 x13 x15 false x192000 x192001 x192002 x214000 x214001 x214002 x214003 ((rd_T68 x12 x15).f0) ((rd_T68 x12 x15).f1) ((rd_T68 x12 x15).f2))))) else (none)) else (none)) else (none)) else (none)) else (templelaw12_FollowsHold.j4 k x3 x5 x7 x10 x11 x12 x13 x15 false x192000 x192001 x192002 x214000 x214001 x214002 x214003 ((rd_T68 x12 x15).f0) ((rd_T68 x12 x15).f1) ((rd_T68 x12 x15).f2))))) else (none)) else (none)) else ((templeref1_Range.f ((rd_T68 x12 x15).f1) ((rd_T68 x12 x15).f2)).bind fun bt237 => (templelaw12_FollowsHold.l2 k x3 x5 x7 x10 x11 x12 false (wrap64 (x15 - 1)) x192000 x192001 x192002 bt237.1 bt237.2.1 bt237.2.2.1 bt237.2.2.2.1))) else (none)) else (none)) else (templelaw12_FollowsHold.l1 k x3 x5 x7 x10 (wrap64 (x11 + 1)) x192000 x192001 x192002)
def templelaw12_FollowsHold.j4 : Nat → List Bool → List (S63) → List (S66) → Int → Int → List (S68) → Bool → Int → Bool → Int → List ByteArray → List (S55) → Int → Int → Int → Int → Int → Int → Int → Option (Bool)
 | 0, _, _, _, _, _, _, _, _, _, _, _, _, _, _, _, _, _, _, _ => none
 | k + 1, x3, x5, x7, x10, x11, x12, x13, x15, x183, x192000, x192001, x192002, x214000, x214001, x214002, x214003, x216000, x216001, x216002 => if x183 = true then (none) else (if 0 ≤ x216000 then (if x216000 < (x3.length : Int) then (if rdOf false x3 x216000 = true then (if x216000 < (x5.length : Int) then ((templeref1_Mix.f 0 x214000 x214001 x214002 x214003 ((rd_T63 x5 x216000).f0) ((rd_T63 x5 x216000).f1) ((rd_T63 x5 x216000).f2) ((rd_T63 x5 x216000).f3)).bind fun bt232 => (templelaw12_FollowsHold.l2 k x3 x5 x7 x10 x11 x12 x13 (wrap64 (x15 - 1)) x192000 x192001 x192002 bt232.1 bt232.2.1 bt232.2.2.1 bt232.2.2.2)) else (none)) else (if x216000 < (x5.length : Int) then (templelaw12_FollowsHold.l2 k x3 x5 x7 x10 x11 x12 false (wrap64 (x15 - 1)) x192000 x192001 x192002 ((rd_T63 x5 x216000).f0) ((rd_T63 x5 x216000).f1) ((rd_T63 x5 x216000).f2) ((rd_T63 x5 x216000).f3)) else (none))) else (none)) else (none))
end
def templelaw12_FollowsHold.f (k : Nat) (a0_0 : Int) (l0_1 : List ByteArray) (l0_2 : List (S55)) : Option (Bool) := (templelaw12_awake.f k).bind fun t192 => (if t192 = true then ((first_Empty.f a0_0 l0_1 l0_2).bind fun bt193 => ((first_First.f a0_0 l0_1 l0_2).bind fun bt197 => ((first_Follow.f a0_0 l0_1 l0_2).bind fun bt201 => ((templelaw0_Num.f bt193.2).bind fun t205 => (if t205 = 0 then ((templelaw0_Num.f bt197.2).bind fun t206 => (if t206 = 0 then ((templelaw0_Num.f bt201.2).bind fun t207 => (templelaw12_FollowsHold.j0 k bt193.1 bt197.1 bt201.1 (t207 != 0) a0_0 l0_1 l0_2)) else (templelaw12_FollowsHold.j0 k bt193.1 bt197.1 bt201.1 true a0_0 l0_1 l0_2))) else (templelaw12_FollowsHold.j0 k bt193.1 bt197.1 bt201.1 true a0_0 l0_1 l0_2)))))) else (none))
theorem templelaw12_FollowsHold.mono_l : ∀ k, (∀ y0 y1 y2 y3 y4 y5 y6, LeO (templelaw12_FollowsHold.j0 k y0 y1 y2 y3 y4 y5 y6) (templelaw12_FollowsHold.j0 (k + 1) y0 y1 y2 y3 y4 y5 y6)) ∧ (∀ y0 y1 y2 y3 y4 y5 y6, LeO (templelaw12_FollowsHold.l0 k y0 y1 y2 y3 y4 y5 y6) (templelaw12_FollowsHold.l0 (k + 1) y0 y1 y2 y3 y4 y5 y6)) ∧ (∀ y0 y1 y2 y3 y4 y5 y6 y7, LeO (templelaw12_FollowsHold.l1 k y0 y1 y2 y3 y4 y5 y6 y7) (templelaw12_FollowsHold.l1 (k + 1) y0 y1 y2 y3 y4 y5 y6 y7)) ∧ (∀ y0 y1 y2 y3 y4 y5 y6 y7 y8 y9 y10 y11 y12 y13 y14, LeO (templelaw12_FollowsHold.l2 k y0 y1 y2 y3 y4 y5 y6 y7 y8 y9 y10 y11 y12 y13 y14) (templelaw12_FollowsHold.l2 (k + 1) y0 y1 y2 y3 y4 y5 y6 y7 y8 y9 y10 y11 y12 y13 y14)) ∧ (∀ y0 y1 y2 y3 y4 y5 y6 y7 y8 y9 y10 y11 y12 y13 y14 y15 y16 y17 y18, LeO (templelaw12_FollowsHold.j4 k y0 y1 y2 y3 y4 y5 y6 y7 y8 y9 y10 y11 y12 y13 y14 y15 y16 y17 y18) (templelaw12_FollowsHold.j4 (k + 1) y0 y1 y2 y3 y4 y5 y6 y7 y8 y9 y10 y11 y12 y13 y14 y15 y16 y17 y18))
 | 0 => ⟨fun _ _ _ _ _ _ _ r h => by simp [templelaw12_FollowsHold.j0] at h, fun _ _ _ _ _ _ _ r h => by simp [templelaw12_FollowsHold.l0] at h, fun _ _ _ _ _ _ _ _ r h => by simp [templelaw12_FollowsHold.l1] at h, fun _ _ _ _ _ _ _ _ _ _ _ _ _ _ _ r h => by simp [templelaw12_FollowsHold.l2] at h, fun _ _ _ _ _ _ _ _ _ _ _ _ _ _ _ _ _ _ _ r h => by simp [templelaw12_FollowsHold.j4] at h⟩
 | k + 1 => by
  obtain ⟨ih0, ih1, ih2, ih3, ih4⟩ := templelaw12_FollowsHold.mono_l k
  refine ⟨?_, ?_, ?_, ?_, ?_⟩
  ·intro y0 y1 y2 y3 y4 y5 y6
   unfold templelaw12_FollowsHold.j0
   repeat' first
   | (with_reducible exact ih0 _ _ _ _ _ _ _)
   | (with_reducible exact ih1 _ _ _ _ _ _ _)
   | (with_reducible exact ih2 _ _ _ _ _ _ _ _)
   | (with_reducible exact ih3 _ _ _ _ _ _ _ _ _ _ _ _ _ _ _)
   | (with_reducible exact ih4 _ _ _ _ _ _ _ _ _ _ _ _ _ _ _ _ _ _ _)
   | (with_reducible exact templelaw12_awake.mono _)
   | (with_reducible exact templeref1_May.mono _ _ _ _)
   | (with_reducible exact LeO.refl _)
   | (with_reducible exact LeO.none _)
   | (with_reducible refine LeO.ite ?_ ?_)
   | (with_reducible refine LeO.bind ?_ (fun _ => ?_))
   | exact ih0 _ _ _ _ _ _ _
   | exact ih1 _ _ _ _ _ _ _
   | exact ih2 _ _ _ _ _ _ _ _
   | exact ih3 _ _ _ _ _ _ _ _ _ _ _ _ _ _ _
   | exact ih4 _ _ _ _ _ _ _ _ _ _ _ _ _ _ _ _ _ _ _
   | exact templelaw12_awake.mono _
   | exact templeref1_May.mono _ _ _ _
   | exact LeO.none _
   | refine LeO.ite ?_ ?_
   | refine LeO.bind ?_ (fun _ => ?_)
  ·intro y0 y1 y2 y3 y4 y5 y6
   unfold templelaw12_FollowsHold.l0
   repeat' first
   | (with_reducible exact ih0 _ _ _ _ _ _ _)
   | (with_reducible exact ih1 _ _ _ _ _ _ _)
   | (with_reducible exact ih2 _ _ _ _ _ _ _ _)
   | (with_reducible exact ih3 _ _ _ _ _ _ _ _ _ _ _ _ _ _ _)
   | (with_reducible exact ih4 _ _ _ _ _ _ _ _ _ _ _ _ _ _ _ _ _ _ _)
   | (with_reducible exact templelaw12_awake.mono _)
   | (with_reducible exact templeref1_May.mono _ _ _ _)
   | (with_reducible exact LeO.refl _)
   | (with_reducible exact LeO.none _)
   | (with_reducible refine LeO.ite ?_ ?_)
   | (with_reducible refine LeO.bind ?_ (fun _ => ?_))
   | exact ih0 _ _ _ _ _ _ _
   | exact ih1 _ _ _ _ _ _ _
   | exact ih2 _ _ _ _ _ _ _ _
   | exact ih3 _ _ _ _ _ _ _ _ _ _ _ _ _ _ _
   | exact ih4 _ _ _ _ _ _ _ _ _ _ _ _ _ _ _ _ _ _ _
   | exact templelaw12_awake.mono _
   | exact templeref1_May.mono _ _ _ _
   | exact LeO.none _
   | refine LeO.ite ?_ ?_
   | refine LeO.bind ?_ (fun _ => ?_)
  ·intro y0 y1 y2 y3 y4 y5 y6 y7
   unfold templelaw12_FollowsHold.l1
   repeat' first
   | (with_reducible exact ih0 _ _ _ _ _ _ _)
   | (with_reducible exact ih1 _ _ _ _ _ _ _)
   | (with_reducible exact ih2 _ _ _ _ _ _ _ _)
   | (with_reducible exact ih3 _ _ _ _ _ _ _ _ _ _ _ _ _ _ _)
   | (with_reducible exact ih4 _ _ _ _ _ _ _ _ _ _ _ _ _ _ _ _ _ _ _)
   | (with_reducible exact templelaw12_awake.mono _)
   | (with_reducible exact templeref1_May.mono _ _ _ _)
   | (with_reducible exact LeO.refl _)
   | (with_reducible exact LeO.none _)
   | (with_reducible refine LeO.ite ?_ ?_)
   | (with_reducible refine LeO.bind ?_ (fun _ => ?_))
   | exact ih0 _ _ _ _ _ _ _
   | exact ih1 _ _ _ _ _ _ _
   | exact ih2 _ _ _ _ _ _ _ _
   | exact ih3 _ _ _ _ _ _ _ _ _ _ _ _ _ _ _
   | exact ih4 _ _ _ _ _ _ _ _ _ _ _ _ _ _ _ _ _ _ _
   | exact templelaw12_awake.mono _
   | exact templeref1_May.mono _ _ _ _
   | exact LeO.none _
   | refine LeO.ite ?_ ?_
   | refine LeO.bind ?_ (fun _ => ?_)
  ·intro y0 y1 y2 y3 y4 y5 y6 y7 y8 y9 y10 y11 y12 y13 y14
   unfold templelaw12_FollowsHold.l2
   repeat' first
   | (with_reducible exact ih0 _ _ _ _ _ _ _)
   | (with_reducible exact ih1 _ _ _ _ _ _ _)
   | (with_reducible exact ih2 _ _ _ _ _ _ _ _)
   | (with_reducible exact ih3 _ _ _ _ _ _ _ _ _ _ _ _ _ _ _)
   | (with_reducible exact ih4 _ _ _ _ _ _ _ _ _ _ _ _ _ _ _ _ _ _ _)
   | (with_reducible exact templelaw12_awake.mono _)
   | (with_reducible exact templeref1_May.mono _ _ _ _)
   | (with_reducible exact LeO.refl _)
   | (with_reducible exact LeO.none _)
   | (with_reducible refine LeO.ite ?_ ?_)
   | (with_reducible refine LeO.bind ?_ (fun _ => ?_))
   | exact ih0 _ _ _ _ _ _ _
   | exact ih1 _ _ _ _ _ _ _
   | exact ih2 _ _ _ _ _ _ _ _
   | exact ih3 _ _ _ _ _ _ _ _ _ _ _ _ _ _ _
   | exact ih4 _ _ _ _ _ _ _ _ _ _ _ _ _ _ _ _ _ _ _
   | exact templelaw12_awake.mono _
   | exact templeref1_May.mono _ _ _ _
   | exact LeO.none _
   | refine LeO.ite ?_ ?_
   | refine LeO.bind ?_ (fun _ => ?_)
  ·intro y0 y1 y2 y3 y4 y5 y6 y7 y8 y9 y10 y11 y12 y13 y14 y15 y16 y17 y18
   unfold templelaw12_FollowsHold.j4
   repeat' first
   | (with_reducible exact ih0 _ _ _ _ _ _ _)
   | (with_reducible exact ih1 _ _ _ _ _ _ _)
   | (with_reducible exact ih2 _ _ _ _ _ _ _ _)
   | (with_reducible exact ih3 _ _ _ _ _ _ _ _ _ _ _ _ _ _ _)
   | (with_reducible exact ih4 _ _ _ _ _ _ _ _ _ _ _ _ _ _ _ _ _ _ _)
   | (with_reducible exact templelaw12_awake.mono _)
   | (with_reducible exact templeref1_May.mono _ _ _ _)
   | (with_reducible exact LeO.refl _)
   | (with_reducible exact LeO.none _)
   | (with_reducible refine LeO.ite ?_ ?_)
   | (with_reducible refine LeO.bind ?_ (fun _ => ?_))
   | exact ih0 _ _ _ _ _ _ _
   | exact ih1 _ _ _ _ _ _ _
   | exact ih2 _ _ _ _ _ _ _ _
   | exact ih3 _ _ _ _ _ _ _ _ _ _ _ _ _ _ _
   | exact ih4 _ _ _ _ _ _ _ _ _ _ _ _ _ _ _ _ _ _ _
   | exact templelaw12_awake.mono _
   | exact templeref1_May.mono _ _ _ _
   | exact LeO.none _
   | refine LeO.ite ?_ ?_
   | refine LeO.bind ?_ (fun _ => ?_)
theorem templelaw12_FollowsHold.mono : ∀ a0 a1 a2 k, LeO (templelaw12_FollowsHold.f k a0 a1 a2) (templelaw12_FollowsHold.f (k + 1) a0 a1 a2) := by
 intro a0 a1 a2 k
 obtain ⟨ih0, ih1, ih2, ih3, ih4⟩ := templelaw12_FollowsHold.mono_l k
 unfold templelaw12_FollowsHold.f
 repeat' first
   | (with_reducible exact ih0 _ _ _ _ _ _ _)
   | (with_reducible exact ih1 _ _ _ _ _ _ _)
   | (with_reducible exact ih2 _ _ _ _ _ _ _ _)
   | (with_reducible exact ih3 _ _ _ _ _ _ _ _ _ _ _ _ _ _ _)
   | (with_reducible exact ih4 _ _ _ _ _ _ _ _ _ _ _ _ _ _ _ _ _ _ _)
   | (with_reducible exact templelaw12_awake.mono _)
   | (with_reducible exact templeref1_May.mono _ _ _ _)
   | (with_reducible exact LeO.refl _)
   | (with_reducible exact LeO.none _)
   | (with_reducible refine LeO.ite ?_ ?_)
   | (with_reducible refine LeO.bind ?_ (fun _ => ?_))
   | exact ih0 _ _ _ _ _ _ _
   | exact ih1 _ _ _ _ _ _ _
   | exact ih2 _ _ _ _ _ _ _ _
   | exact ih3 _ _ _ _ _ _ _ _ _ _ _ _ _ _ _
   | exact ih4 _ _ _ _ _ _ _ _ _ _ _ _ _ _ _ _ _ _ _
   | exact templelaw12_awake.mono _
   | exact templeref1_May.mono _ _ _ _
   | exact LeO.none _
   | refine LeO.ite ?_ ?_
   | refine LeO.bind ?_ (fun _ => ?_)
theorem kb {w w1 : World} {g : Nat} {o : Obj} (h : Aside0 (w.heap[g]? = some o)) (hb : Below w.heap.size w w1) : Aside0 (w1.heap[g]? = some o) := ⟨blk_below h.out hb⟩
theorem kn {w : World} {g k : Nat} {o : Obj} (hg : k = w.heap.size) (h : Aside0 (w.heap[g]? = some o)) : Aside0 (g ≠ k) := ⟨by rw [hg]; exact Nat.ne_of_lt (blk_lt h.out)⟩
theorem km {w : World} {g k : Nat} {o : Obj} (hg : k = w.heap.size) (h : Aside0 (w.heap[g]? = some o)) : Aside0 (k ≠ g) := ⟨by rw [hg]; exact Nat.ne_of_gt (blk_lt h.out)⟩
theorem ks {w0 w w1 : World} (h : Aside0 (Below w0.heap.size w0 w)) (hb : Below w.heap.size w w1) : Aside0 (Below w0.heap.size w0 w1) := ⟨below_step h.out hb⟩
theorem kl {w0 w : World} {k : Nat} (hg : k = w.heap.size) (h : Aside0 (Below w0.heap.size w0 w)) : Aside0 (w0.heap.size ≤ k) := ⟨by rw [hg]; exact below_size h.out⟩
theorem s1 {α : Type} (l : List α) (i : Nat) (a : α) : l.toArray.setIfInBounds i a = (l.set i a).toArray := List.setIfInBounds_toArray ..
theorem s2 {α : Type} (x : α) (l : List α) (a : α) : (x :: l).set 0 a = a :: l := rfl
theorem s3 {α : Type} (x : α) (l : List α) (i : Nat) (a : α) : (x :: l).set (i + 1) a = x :: l.set i a := rfl
/-- Which operations have come up: a number's bits. -/
def bs (n m : Nat) : Array Bool := ((List.range n).map fun i => m.testBit i).toArray
abbrev S5 (w : World) (g : Nat) (x0 x1 x2 x3 x4 : Value) : World := ((((w.setCell ⟨g, 0, none⟩ x0).setCell ⟨g, 1, none⟩ x1).setCell ⟨g, 2, none⟩ x2).setCell ⟨g, 3, none⟩ x3).setCell ⟨g, 4, none⟩ x4
theorem r5 {α : Type} {d : Kd α} {e base g : Nat} {w W : World} {x0 x1 x2 x3 x4 : Value} {ok : Nat → Prop} {v : Value} {xs : List α} (hw : W = S5 w g x0 x1 x2 x3 x4) (h : Kd.R d e w base ok v xs) (hn : ∀ k, ok k → k ≠ g) : Kd.R d e W base ok v xs := by
  subst hw
  exact Kd.R_far (p := ⟨g, 4, none⟩) (Kd.R_far (p := ⟨g, 3, none⟩) (Kd.R_far (p := ⟨g, 2, none⟩) (Kd.R_far (p := ⟨g, 1, none⟩) (Kd.R_far (p := ⟨g, 0, none⟩) h hn x0) hn x1) hn x2) hn x3) hn x4
theorem b5 {k g : Nat} {w W : World} {x0 x1 x2 x3 x4 : Value} {t : TypeId} {cs : Array Value} (hw : W = S5 w g x0 x1 x2 x3 x4) (h : w.heap[k]? = some (.cells cs t (0, 0))) (hn : k ≠ g) : W.heap[k]? = some (.cells cs t (0, 0)) := by
  subst hw
  exact blk_far (blk_far (blk_far (blk_far (blk_far h hn _) hn _) hn _) hn _) hn _
theorem p5 {g : Nat} {w W : World} {x0 x1 x2 x3 x4 y0 y1 y2 y3 y4 : Value} {t : TypeId} (hw : W = S5 w g x0 x1 x2 x3 x4) (h : w.heap[g]? = some (.cells #[y0, y1, y2, y3, y4] t (0, 0))) : W.heap[g]? = some (.cells #[x0, x1, x2, x3, x4] t (0, 0)) := by
  subst hw
  exact blk_put (blk_put (blk_put (blk_put (blk_put h 0 x0 (cs' := #[x0, y1, y2, y3, y4]) rfl) 1 x1 (cs' := #[x0, x1, y2, y3, y4]) rfl) 2 x2 (cs' := #[x0, x1, x2, y3, y4]) rfl) 3 x3 (cs' := #[x0, x1, x2, x3, y4]) rfl) 4 x4 rfl
theorem l5 {g : Nat} {w0 w W : World} {x0 x1 x2 x3 x4 : Value} (hw : W = S5 w g x0 x1 x2 x3 x4) (h : Below w0.heap.size w0 w) (hg : w0.heap.size ≤ g) : Below w0.heap.size w0 W := by
  subst hw
  exact below_set (below_set (below_set (below_set (below_set h hg) hg) hg) hg) hg
def templelaw12_FollowsHold.T26 : Bool × List (List Nat × List Nat) := (true, [([], []), ([0], [0]), ([], []), ([1, 2], [1, 2]), ([], []), ([4], [4]), ([3, 5], [3, 5]), ([6, 3], [6]), ([7], [7]), ([8, 7, 7], [7, 8]), ([9], [9]), ([10, 9], [9, 10]), ([9], [9]), ([9], [9]), ([13, 9], [9, 13]), ([9], [9]), ([14, 15, 9], [9, 14, 15]), ([16, 9], [9, 16]), ([17, 9], [9, 17]), ([12, 18, 9], [9, 12, 18]), ([19, 9], [9, 19]), ([20, 9], [9, 20]), ([11, 21, 9, 9], [9, 11, 21]), ([9], [9]), ([23, 9], [9, 23]), ([22, 24, 9], [9, 22, 24]), ([25, 22, 9], [9, 25]), ([26], [26]), ([26], [26]), ([28, 26], [26, 28]), ([26], [26]), ([29, 30, 26], [26, 29, 30]), ([31, 26], [26, 31]), ([32, 26], [26, 32]), ([27, 33, 26], [26, 27, 33]), ([34, 26], [26, 34]), ([35, 26], [26, 35]), ([36, 26, 26], [26, 36]), ([37], [37]), ([38, 37], [37, 38]), ([39, 37], [37, 39]), ([37, 40, 26], [26, 37, 40]), ([26, 41, 9], [9, 26, 41]), ([9, 42, 7], [7, 9, 42]), ([7, 43], [7, 43])])
def templelaw12_FollowsHold.B26 : List Nat := [0, 1, 0, 7, 0, 16, 63, 127, 255, 511, 1023, 2047, 1023, 1023, 9215, 1023, 58367, 123903, 254975, 521215, 1045503, 2094079, 4194303, 1023, 8389631, 33554431, 67108863, 134217727, 134217727, 402653183, 134217727, 2013265919, 4160749567, 8455716863, 17179869183, 34359738367, 68719476735, 137438953471, 274877906943, 549755813887, 1099511627775, 2199023255551, 4398046511103, 8796093022207, 17592186044415]
theorem templelaw12_FollowsHold.tab26 : rtab .any (opsOf Try.f5 26) = templelaw12_FollowsHold.T26 := by kernel_rfl
theorem templelaw12_FollowsHold.bits26 : waitsOk templelaw12_FollowsHold.T26.2 templelaw12_FollowsHold.B26 = true := by kernel_rfl
def templelaw12_FollowsHold.T29 : Bool × List (List Nat × List Nat) := (true, [([], []), ([], []), ([], []), ([2], [2]), ([1, 3], [1, 3]), ([4], [4]), ([0, 5], [0, 5]), ([6, 6, 0, 1, 2, 3, 4, 5, 6], [6])])
def templelaw12_FollowsHold.B29 : List Nat := [0, 0, 0, 4, 14, 30, 63, 127]
theorem templelaw12_FollowsHold.tab29 : rtab .any (opsOf Try.f5 29) = templelaw12_FollowsHold.T29 := by kernel_rfl
theorem templelaw12_FollowsHold.bits29 : waitsOk templelaw12_FollowsHold.T29.2 templelaw12_FollowsHold.B29 = true := by kernel_rfl
end Go.Proofs.Ytpilkfodlhhjpaa.PFW
