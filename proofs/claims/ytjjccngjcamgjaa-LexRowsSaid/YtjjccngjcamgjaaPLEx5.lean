-- written by a program of the session's (wip/myprint.py) out of the translation
import Derived.Test.YtjjccngjcamgjaaPLEx0
import Derived.Test.YtjjccngjcamgjaaPLEx3
import Derived.Test.YtjjccngjcamgjaaPLEx4
namespace Go.Proofs.Ytjjccngjcamgjaa.PLE
open Go.RowKit Go.Proofs.YtjjccngjcamgjaaW.PrintWords Go.Proofs.YtjjccngjcamgjaaW.PrintLast Go.Proofs.YtjjccngjcamgjaaW.PrintMore
attribute [local go_sem] max2_int min2_int max_two min_two max_three min_three max_four min_four   -- for this text's walks alone
set_option linter.unusedVariables false
set_option linter.unusedSimpArgs false

/-! ### templelaw2_LexRows: function 9 -/
mutual
def templelaw2_LexRows.l0 : Nat → List Int → List ByteArray → ByteArray → List (S33) → Int → Option (Bool)
  | 0, _, _, _, _, _ => none
  | k + 1, x0, x3, x4, x5, x6 => if x6 < (x0.length : Int) then (templelaw2_LexRows.j1 k x0 x3 x4 x5 x6 (decide (x6 < 40))) else (templelaw2_LexRows.j1 k x0 x3 x4 x5 x6 false)
def templelaw2_LexRows.j1 : Nat → List Int → List ByteArray → ByteArray → List (S33) → Int → Bool → Option (Bool)
  | 0, _, _, _, _, _, _ => none
  | k + 1, x0, x3, x4, x5, x6, x22 => if x22 = true then (if 0 ≤ x6 then (if x6 < (x0.length : Int) then (if (wrap64 (Int.tmod (IntKind.u64.wrap (rd x0 x6)) 9)) = 0 then (if x5.length < 2932031007402 then (if 0 ≤ (wrap64 (Int.tmod (IntKind.u64.wrap (rd x0 x6)) 9)) then (if (wrap64 (Int.tmod (IntKind.u64.wrap (rd x0 x6)) 9)) < (x3.length : Int) then (if x4.size + (rdOf ByteArray.empty x3 (wrap64 (Int.tmod (IntKind.u64.wrap (rd x0 x6)) 9))).size ≤ 9223372036854775807 then ((some (([(⟨#[32]⟩ : ByteArray), (⟨#[10]⟩ : ByteArray), (⟨#[35, 10]⟩ : ByteArray)] : List ByteArray) : List ByteArray)).bind fun y220 => (if 0 ≤ (Int.tmod x6 3) then (if (Int.tmod x6 3) < (y220.length : Int) then (if (x4 ++ (rdOf ByteArray.empty x3 (wrap64 (Int.tmod (IntKind.u64.wrap (rd x0 x6)) 9)))).size + (rdOf ByteArray.empty y220 (Int.tmod x6 3)).size ≤ 9223372036854775807 then (templelaw2_LexRows.l0 k x0 x3 ((x4 ++ (rdOf ByteArray.empty x3 (wrap64 (Int.tmod (IntKind.u64.wrap (rd x0 x6)) 9)))) ++ (rdOf ByteArray.empty y220 (Int.tmod x6 3))) (x5 ++ [(⟨wrap64 (0 + (wrap64 (Int.tmod (IntKind.u64.wrap (rd x0 x6)) 9))), (x4.size : Int), (⟨#[97, 98]⟩ : ByteArray), 0, 0⟩ : S33)]) (wrap64 (x6 + 1))) else (none)) else (none)) else (none))) else (none)) else (none)) else (none)) else (none)) else (if (wrap64 (Int.tmod (IntKind.u64.wrap (rd x0 x6)) 9)) = 1 then (if x5.length < 2932031007402 then (if 0 ≤ (wrap64 (Int.tmod (IntKind.u64.wrap (rd x0 x6)) 9)) then (if (wrap64 (Int.tmod (IntKind.u64.wrap (rd x0 x6)) 9)) < (x3.length : Int) then (if x4.size + (rdOf ByteArray.empty x3 (wrap64 (Int.tmod (IntKind.u64.wrap (rd x0 x6)) 9))).size ≤ 9223372036854775807 then ((some (([(⟨#[32]⟩ : ByteArray), (⟨#[10]⟩ : ByteArray), (⟨#[35, 10]⟩ : ByteArray)] : List ByteArray) : List ByteArray)).bind fun y228 => (if 0 ≤ (Int.tmod x6 3) then (if (Int.tmod x6 3) < (y228.length : Int) then (if (x4 ++ (rdOf ByteArray.empty x3 (wrap64 (Int.tmod (IntKind.u64.wrap (rd x0 x6)) 9)))).size + (rdOf ByteArray.empty y228 (Int.tmod x6 3)).size ≤ 9223372036854775807 then (templelaw2_LexRows.l0 k x0 x3 ((x4 ++ (rdOf ByteArray.empty x3 (wrap64 (Int.tmod (IntKind.u64.wrap (rd x0 x6)) 9)))) ++ (rdOf ByteArray.empty y228 (Int.tmod x6 3))) (x5 ++ [(⟨wrap64 (0 + (wrap64 (Int.tmod (IntKind.u64.wrap (rd x0 x6)) 9))), (x4.size : Int), (⟨#[120, 92, 121]⟩ : ByteArray), 0, 0⟩ : S33)]) (wrap64 (x6 + 1))) else (none)) else (none)) else (none))) else (none)) else (none)) else (none)) else (none)) else (if (wrap64 (Int.tmod (IntKind.u64.wrap (rd x0 x6)) 9)) = 2 then (if x5.length < 2932031007402 then (if 0 ≤ (wrap64 (Int.tmod (IntKind.u64.wrap (rd x0 x6)) 9)) then (if (wrap64 (Int.tmod (IntKind.u64.wrap (rd x0 x6)) 9)) < (x3.length : Int) then (if x4.size + (rdOf ByteArray.empty x3 (wrap64 (Int.tmod (IntKind.u64.wrap (rd x0 x6)) 9))).size ≤ 9223372036854775807 then ((some (([(⟨#[32]⟩ : ByteArray), (⟨#[10]⟩ : ByteArray), (⟨#[35, 10]⟩ : ByteArray)] : List ByteArray) : List ByteArray)).bind fun y236 => (if 0 ≤ (Int.tmod x6 3) then (if (Int.tmod x6 3) < (y236.length : Int) then (if (x4 ++ (rdOf ByteArray.empty x3 (wrap64 (Int.tmod (IntKind.u64.wrap (rd x0 x6)) 9)))).size + (rdOf ByteArray.empty y236 (Int.tmod x6 3)).size ≤ 9223372036854775807 then (templelaw2_LexRows.l0 k x0 x3 ((x4 ++ (rdOf ByteArray.empty x3 (wrap64 (Int.tmod (IntKind.u64.wrap (rd x0 x6)) 9)))) ++ (rdOf ByteArray.empty y236 (Int.tmod x6 3))) (x5 ++ [(⟨wrap64 (0 + (wrap64 (Int.tmod (IntKind.u64.wrap (rd x0 x6)) 9))), (x4.size : Int), (⟨#[]⟩ : ByteArray), 97, 127⟩ : S33)]) (wrap64 (x6 + 1))) else (none)) else (none)) else (none))) else (none)) else (none)) else (none)) else (none)) else (if x5.length < 2932031007402 then (if 0 ≤ (wrap64 (Int.tmod (IntKind.u64.wrap (rd x0 x6)) 9)) then (if (wrap64 (Int.tmod (IntKind.u64.wrap (rd x0 x6)) 9)) < (x3.length : Int) then (if x4.size + (rdOf ByteArray.empty x3 (wrap64 (Int.tmod (IntKind.u64.wrap (rd x0 x6)) 9))).size ≤ 9223372036854775807 then ((some (([(⟨#[32]⟩ : ByteArray), (⟨#[10]⟩ : ByteArray), (⟨#[35, 10]⟩ : ByteArray)] : List ByteArray) : List ByteArray)).bind fun y244 => (if 0 ≤ (Int.tmod x6 3) then (if (Int.tmod x6 3) < (y244.length : Int) then (if (x4 ++ (rdOf ByteArray.empty x3 (wrap64 (Int.tmod (IntKind.u64.wrap (rd x0 x6)) 9)))).size + (rdOf ByteArray.empty y244 (Int.tmod x6 3)).size ≤ 9223372036854775807 then (templelaw2_LexRows.l0 k x0 x3 ((x4 ++ (rdOf ByteArray.empty x3 (wrap64 (Int.tmod (IntKind.u64.wrap (rd x0 x6)) 9)))) ++ (rdOf ByteArray.empty y244 (Int.tmod x6 3))) (x5 ++ [(⟨wrap64 (0 + (wrap64 (Int.tmod (IntKind.u64.wrap (rd x0 x6)) 9))), (x4.size : Int), (⟨#[]⟩ : ByteArray), 0, 0⟩ : S33)]) (wrap64 (x6 + 1))) else (none)) else (none)) else (none))) else (none)) else (none)) else (none)) else (none))))) else (none)) else (none)) else ((lex_Lex.f k x4).bind fun bt207 => ((templelaw0_Num.f bt207.2.2).bind fun t212 => (if t212 = 0 then ((templelaw0_SameTokens.f k bt207.1 x5).bind fun t213 => (some t213)) else (none))))
end
def templelaw2_LexRows.f (k : Nat) (l0 : List Int) : Option (Bool) := (templelaw2_awake.f k).bind fun t203 => (if t203 = true then (templelaw2_LexRows.l0 k l0 (([(⟨#[97, 98]⟩ : ByteArray), (⟨#[34, 120, 92, 92, 121, 34]⟩ : ByteArray), (⟨#[39, 97, 39, 46, 46, 39, 92, 120, 55, 102, 39]⟩ : ByteArray), (⟨#[115, 116, 97, 114, 116]⟩ : ByteArray), (⟨#[61]⟩ : ByteArray), (⟨#[124]⟩ : ByteArray), (⟨#[38]⟩ : ByteArray), (⟨#[126]⟩ : ByteArray), (⟨#[59]⟩ : ByteArray)] : List ByteArray)) (⟨#[]⟩ : ByteArray) ([] : List (S33)) 0) else (none))
theorem templelaw2_LexRows.mono_l : ∀ k, (∀ y0 y1 y2 y3 y4, LeO (templelaw2_LexRows.l0 k y0 y1 y2 y3 y4) (templelaw2_LexRows.l0 (k + 1) y0 y1 y2 y3 y4)) ∧ (∀ y0 y1 y2 y3 y4 y5, LeO (templelaw2_LexRows.j1 k y0 y1 y2 y3 y4 y5) (templelaw2_LexRows.j1 (k + 1) y0 y1 y2 y3 y4 y5))
  | 0 => ⟨fun _ _ _ _ _ r h => by simp [templelaw2_LexRows.l0] at h, fun _ _ _ _ _ _ r h => by simp [templelaw2_LexRows.j1] at h⟩
  | k + 1 => by
    obtain ⟨ih0, ih1⟩ := templelaw2_LexRows.mono_l k
    refine ⟨?_, ?_⟩
    · intro y0 y1 y2 y3 y4
      unfold templelaw2_LexRows.l0
      repeat' first
      | (with_reducible exact ih0 _ _ _ _ _)
      | (with_reducible exact ih1 _ _ _ _ _ _)
      | (with_reducible exact lex_Lex.mono _ _)
      | (with_reducible exact templelaw0_SameTokens.mono _ _ _)
      | (with_reducible exact templelaw2_awake.mono _)
      | (with_reducible exact LeO.refl _)
      | (with_reducible exact LeO.none _)
      | (with_reducible refine LeO.ite ?_ ?_)
      | (with_reducible refine LeO.bind ?_ (fun _ => ?_))
      | exact ih0 _ _ _ _ _
      | exact ih1 _ _ _ _ _ _
      | exact lex_Lex.mono _ _
      | exact templelaw0_SameTokens.mono _ _ _
      | exact templelaw2_awake.mono _
      | exact LeO.none _
      | refine LeO.ite ?_ ?_
      | refine LeO.bind ?_ (fun _ => ?_)
    · intro y0 y1 y2 y3 y4 y5
      unfold templelaw2_LexRows.j1
      repeat' first
      | (with_reducible exact ih0 _ _ _ _ _)
      | (with_reducible exact ih1 _ _ _ _ _ _)
      | (with_reducible exact lex_Lex.mono _ _)
      | (with_reducible exact templelaw0_SameTokens.mono _ _ _)
      | (with_reducible exact templelaw2_awake.mono _)
      | (with_reducible exact LeO.refl _)
      | (with_reducible exact LeO.none _)
      | (with_reducible refine LeO.ite ?_ ?_)
      | (with_reducible refine LeO.bind ?_ (fun _ => ?_))
      | exact ih0 _ _ _ _ _
      | exact ih1 _ _ _ _ _ _
      | exact lex_Lex.mono _ _
      | exact templelaw0_SameTokens.mono _ _ _
      | exact templelaw2_awake.mono _
      | exact LeO.none _
      | refine LeO.ite ?_ ?_
      | refine LeO.bind ?_ (fun _ => ?_)
theorem templelaw2_LexRows.mono : ∀ a0 k, LeO (templelaw2_LexRows.f k a0) (templelaw2_LexRows.f (k + 1) a0) := by
  intro a0 k
  obtain ⟨ih0, ih1⟩ := templelaw2_LexRows.mono_l k
  unfold templelaw2_LexRows.f
  repeat' first
      | (with_reducible exact ih0 _ _ _ _ _)
      | (with_reducible exact ih1 _ _ _ _ _ _)
      | (with_reducible exact lex_Lex.mono _ _)
      | (with_reducible exact templelaw0_SameTokens.mono _ _ _)
      | (with_reducible exact templelaw2_awake.mono _)
      | (with_reducible exact LeO.refl _)
      | (with_reducible exact LeO.none _)
      | (with_reducible refine LeO.ite ?_ ?_)
      | (with_reducible refine LeO.bind ?_ (fun _ => ?_))
      | exact ih0 _ _ _ _ _
      | exact ih1 _ _ _ _ _ _
      | exact lex_Lex.mono _ _
      | exact templelaw0_SameTokens.mono _ _ _
      | exact templelaw2_awake.mono _
      | exact LeO.none _
      | refine LeO.ite ?_ ?_
      | refine LeO.bind ?_ (fun _ => ?_)
def templelaw2_LexRows.T20 : Bool × List (List Nat × List Nat) := (true, [([], []), ([], []), ([], []), ([1, 2], [1, 2]), ([3], [3]), ([0, 4], [0, 4]), ([], []), ([], []), ([7], [7]), ([6, 8], [6, 8]), ([9], [9]), ([5, 10], [5, 10]), ([11, 0, 1, 2, 3, 4, 5, 6, 7, 8, 9, 10, 11], [0, 11])])
def templelaw2_LexRows.B20 : List Nat := [0, 0, 0, 6, 14, 31, 0, 0, 128, 448, 960, 2047, 4095]
theorem templelaw2_LexRows.tab20 : rtab .any (opsOf Try.f9 20) = templelaw2_LexRows.T20 := by kernel_rfl
theorem templelaw2_LexRows.bits20 : waitsOk templelaw2_LexRows.T20.2 templelaw2_LexRows.B20 = true := by kernel_rfl
set_option maxHeartbeats 8000000 in
set_option maxRecDepth 100000 in
theorem templelaw2_LexRows.calls (k : Nat) (A0 : Option Addr) (c0 : Nat) (l0 : List Int) (r : Bool) (w : World) (hr0 : Kd.C (Kd.int .i64) w A0 l0.length l0) (hc0 : l0.length ≤ c0) (h : templelaw2_LexRows.f k l0 = some r) :
    Calls Try.prog 9 #[.slice A0 l0.length c0] w fun e w' => e = .returned (.bool r) ∧ Below w.heap.size w w' := by
  have hu33 := Try.underlying33
  have HR0 := Aside0.mk hr0
  have HC0 := Aside0.mk hc0
  clear hr0 hc0
  have HB := Aside0.mk (Below.refl w.heap.size w)
  have H : ((templelaw2_awake.f k).bind fun t203 => (if t203 = true then (templelaw2_LexRows.l0 k l0 (([(⟨#[97, 98]⟩ : ByteArray), (⟨#[34, 120, 92, 92, 121, 34]⟩ : ByteArray), (⟨#[39, 97, 39, 46, 46, 39, 92, 120, 55, 102, 39]⟩ : ByteArray), (⟨#[115, 116, 97, 114, 116]⟩ : ByteArray), (⟨#[61]⟩ : ByteArray), (⟨#[124]⟩ : ByteArray), (⟨#[38]⟩ : ByteArray), (⟨#[126]⟩ : ByteArray), (⟨#[59]⟩ : ByteArray)] : List ByteArray)) (⟨#[]⟩ : ByteArray) ([] : List (S33)) 0) else (none))) = some r := h
  clear h
  replace H := Option.bind_eq_some_iff.mp H
  obtain ⟨t203, A20, H⟩ := H
  replace H : (if t203 = true then (templelaw2_LexRows.l0 k l0 (([(⟨#[97, 98]⟩ : ByteArray), (⟨#[34, 120, 92, 92, 121, 34]⟩ : ByteArray), (⟨#[39, 97, 39, 46, 46, 39, 92, 120, 55, 102, 39]⟩ : ByteArray), (⟨#[115, 116, 97, 114, 116]⟩ : ByteArray), (⟨#[61]⟩ : ByteArray), (⟨#[124]⟩ : ByteArray), (⟨#[38]⟩ : ByteArray), (⟨#[126]⟩ : ByteArray), (⟨#[59]⟩ : ByteArray)] : List ByteArray)) (⟨#[]⟩ : ByteArray) ([] : List (S33)) 0) else (none)) = some r := H
  have A2 := Aside0.mk A20
  clear A20
  by_cases c3 : t203 = true
  · subst c3
    have H1 : (templelaw2_LexRows.l0 k l0 (([(⟨#[97, 98]⟩ : ByteArray), (⟨#[34, 120, 92, 92, 121, 34]⟩ : ByteArray), (⟨#[39, 97, 39, 46, 46, 39, 92, 120, 55, 102, 39]⟩ : ByteArray), (⟨#[115, 116, 97, 114, 116]⟩ : ByteArray), (⟨#[61]⟩ : ByteArray), (⟨#[124]⟩ : ByteArray), (⟨#[38]⟩ : ByteArray), (⟨#[126]⟩ : ByteArray), (⟨#[59]⟩ : ByteArray)] : List ByteArray)) (⟨#[]⟩ : ByteArray) ([] : List (S33)) 0) = some r := by rw [if_pos rfl] at H; exact H
    clear H
    have H := H1
    clear H1
    obtain ⟨y204, hy204⟩ : ∃ y_ : List ByteArray, y_ = (([(⟨#[97, 98]⟩ : ByteArray), (⟨#[34, 120, 92, 92, 121, 34]⟩ : ByteArray), (⟨#[39, 97, 39, 46, 46, 39, 92, 120, 55, 102, 39]⟩ : ByteArray), (⟨#[115, 116, 97, 114, 116]⟩ : ByteArray), (⟨#[61]⟩ : ByteArray), (⟨#[124]⟩ : ByteArray), (⟨#[38]⟩ : ByteArray), (⟨#[126]⟩ : ByteArray), (⟨#[59]⟩ : ByteArray)] : List ByteArray)) := ⟨_, rfl⟩
    replace H : (templelaw2_LexRows.l0 k l0 y204 (⟨#[]⟩ : ByteArray) ([] : List (S33)) 0) = some r := by first | (rw [hy204]; with_reducible exact H) | (have H2_ := (Option.bind_some _ _).symm.trans H; rw [hy204]; with_reducible exact H2_) | (have H2_ := (Option.bind_some _ _).symm.trans H; with_reducible exact H2_) | with_reducible exact H | (rw [hy204]; exact H) | exact H
    have Ny204 := Aside0.mk hy204
    clear hy204
    have H' := Aside0.mk H
    clear H
    go_enter Try.func9, Try.ntmps9
    go_wp2_with (first | ((with_reducible refine gate_callee (f := 14) rfl ?_); refine goesL_ (some 12) rfl rfl Try.func14 (by kernel_rfl) rfl #[] rfl (by (try simp only [List.map_toArray, List.map_cons, List.map_nil]); first | done | rfl | (simp only [List.length_drop, List.length_take]; rfl)) ?_; (with_reducible refine (templelaw2_awake.calls k  true _ A2.out).mono ?_); rintro e w4 ⟨rfl, hb⟩; refine ⟨_, rfl, ?_⟩; have n0_ := Aside0.mk (below_step (by repeat (first | (with_reducible first | exact HB.out | apply below_alloc | apply pw_below_drewN | apply below_drew1) | exact HB.out)) hb); clear HB; have HB := n0_; clear n0_; (try clear hb); (try clear hb2); (try clear hk); (try clear hi)) | ((with_reducible refine gate_dst (N := 14) rfl ?_); refine Kd.R_lit Kd.string _ 9 ?hg (N := 14) ?hd (xs := ([(⟨#[97, 98]⟩ : ByteArray), (⟨#[34, 120, 92, 92, 121, 34]⟩ : ByteArray), (⟨#[39, 97, 39, 46, 46, 39, 92, 120, 55, 102, 39]⟩ : ByteArray), (⟨#[115, 116, 97, 114, 116]⟩ : ByteArray), (⟨#[61]⟩ : ByteArray), (⟨#[124]⟩ : ByteArray), (⟨#[38]⟩ : ByteArray), (⟨#[126]⟩ : ByteArray), (⟨#[59]⟩ : ByteArray)] : List ByteArray)) (inner := [.string (⟨#[97, 98]⟩ : ByteArray), .string (⟨#[34, 120, 92, 92, 121, 34]⟩ : ByteArray), .string (⟨#[39, 97, 39, 46, 46, 39, 92, 120, 55, 102, 39]⟩ : ByteArray), .string (⟨#[115, 116, 97, 114, 116]⟩ : ByteArray), .string (⟨#[61]⟩ : ByteArray), .string (⟨#[124]⟩ : ByteArray), .string (⟨#[38]⟩ : ByteArray), .string (⟨#[126]⟩ : ByteArray), .string (⟨#[59]⟩ : ByteArray)]) (ok := fun _ => True) (okp := fun _ => True) ?hr ?hp (fun _ hk => hk) trivial (Below.refl _ _) (Nat.le_refl _) (by simp) ?_; (case hd => rfl); (case hg => rfl); (case hr => first | (go_simp; done) | (go_simp; rfl)); (case hp => exact (Reps.one (show Kd.M Kd.string _ _ _ (⟨#[97, 98]⟩ : ByteArray) [.string (⟨#[97, 98]⟩ : ByteArray)] from rfl) (Reps.one (show Kd.M Kd.string _ _ _ (⟨#[34, 120, 92, 92, 121, 34]⟩ : ByteArray) [.string (⟨#[34, 120, 92, 92, 121, 34]⟩ : ByteArray)] from rfl) (Reps.one (show Kd.M Kd.string _ _ _ (⟨#[39, 97, 39, 46, 46, 39, 92, 120, 55, 102, 39]⟩ : ByteArray) [.string (⟨#[39, 97, 39, 46, 46, 39, 92, 120, 55, 102, 39]⟩ : ByteArray)] from rfl) (Reps.one (show Kd.M Kd.string _ _ _ (⟨#[115, 116, 97, 114, 116]⟩ : ByteArray) [.string (⟨#[115, 116, 97, 114, 116]⟩ : ByteArray)] from rfl) (Reps.one (show Kd.M Kd.string _ _ _ (⟨#[61]⟩ : ByteArray) [.string (⟨#[61]⟩ : ByteArray)] from rfl) (Reps.one (show Kd.M Kd.string _ _ _ (⟨#[124]⟩ : ByteArray) [.string (⟨#[124]⟩ : ByteArray)] from rfl) (Reps.one (show Kd.M Kd.string _ _ _ (⟨#[38]⟩ : ByteArray) [.string (⟨#[38]⟩ : ByteArray)] from rfl) (Reps.one (show Kd.M Kd.string _ _ _ (⟨#[126]⟩ : ByteArray) [.string (⟨#[126]⟩ : ByteArray)] from rfl) (Reps.one (show Kd.M Kd.string _ _ _ (⟨#[59]⟩ : ByteArray) [.string (⟨#[59]⟩ : ByteArray)] from rfl) (Reps.none _ _))))))))))); intro v205 w5 ho6 hb hg_ hnew_; clear hg_ hnew_; (first | rw [← Ny204.out] at ho6 | (simp only [Int.reduceToNat] at ho6; rw [← Ny204.out] at ho6)); have n0_ := Aside0.mk (Kd.R_lower ho6 (below_size (by repeat (first | (with_reducible first | exact HB.out | apply below_alloc | apply pw_below_drewN | apply below_drew1) | exact HB.out)))); have n1_ := Aside0.mk (below_step (by repeat (first | (with_reducible first | exact HB.out | apply below_alloc | apply pw_below_drewN | apply below_drew1) | exact HB.out)) hb); clear HB; have HO206 := n0_; have HB := n1_; clear n0_ n1_; clear hb ho6))
    go_loopg [4, 5, 6] k (fun kq v4 v5 v6 w' => ∃ (x4_1 : ByteArray) (x5_1 : List (S33)) (x6_1 : Int), v4 = .string x4_1 ∧ v6 = .int .i64 x6_1 ∧ Aside0 (templelaw2_LexRows.l0 kq l0 y204 x4_1 x5_1 x6_1 = some r) ∧ Aside0 (kq ≤ k) ∧ Aside0 (Kd.R Kd.string 9 w' w.heap.size (fun _ => True) v205 y204) ∧ Aside0 (Kd.R k33 33 w' w.heap.size (fun _ => True) v5 x5_1) ∧ Aside0 (Below w.heap.size w w'))
    case atStart => exact ⟨((⟨#[]⟩ : ByteArray)), (([] : List (S33))), (0), (by first | rfl | (simp; done) | (simp [i64_w]; done) | (simp [*]; done) | (simp [*, i64_w]; done) | (simp [*]; unfold wrap64; omega)), (by first | rfl | (simp; done) | (simp [i64_w]; done) | (simp [*]; done) | (simp [*, i64_w]; done) | (simp [*]; unfold wrap64; omega)), H', ⟨Nat.le_refl _⟩, ⟨by (with_reducible repeat (first | apply Kd.R_alloc | apply Kd.R_drewN | apply Kd.R_drew)); exact HO206.out⟩, ⟨by first | exact Kd.R_nil _ _ _ _ _ | exact Kd.N_nil _ _ _ _ _ | exact Kd.V_nil _ _ _ _ _ | exact Kd.Q_nil _ _ _ _ _ | exact Kd.S_nil _ _ _ _ _⟩, ⟨by repeat (first | (with_reducible first | exact HB.out | apply below_alloc | apply pw_below_drewN | apply below_drew1) | exact HB.out)⟩⟩
    case round =>
      clear H'
      try clear c1
      try clear p2
      try clear c3
      obtain ⟨x4_1, x5_1, x6_1, rfl, rfl, HA, HK1, HO_3, HO_5, HB⟩ := hrel
      cases gk with
      | zero => exact absurd HA.out (by simp [templelaw2_LexRows.l0])
      | succ k1 =>
        have H := HA.out
        clear HA
        simp only [templelaw2_LexRows.l0] at H
        have HC7 := Aside0.mk H
        clear H
        go_upto_region 7 with (fail)
        go_cut [22] (fun v22 wc => ∃ (kq : Nat) (x22_6 : Bool), v22 = .bool x22_6 ∧ Aside0 (templelaw2_LexRows.j1 kq l0 y204 x4_1 x5_1 x6_1 x22_6 = some r) ∧ Aside0 (kq ≤ k1) ∧ Aside0 (Kd.R Kd.string 9 wc w.heap.size (fun _ => True) v205 y204) ∧ Aside0 (Kd.R k33 33 wc w.heap.size (fun _ => True) u5 x5_1) ∧ Aside0 (Below w.heap.size w wc))
        case first =>
          have H := HC7.out
          clear HC7
          by_cases c8 : x6_1 < (l0.length : Int)
          · rw [if_pos c8] at H
            have c8b0 : decide (x6_1 < (l0.length : Int)) = true := decide_eq_true c8
            clear c8
            (first | rw [c8b0] | (simp only [i64_w, i32_w]; rw [c8b0]) | skip)
            have H' := Aside0.mk H
            clear H
            go_wp2
            go_meet
            case rel => exact ⟨_, (decide (x6_1 < 40)), (by first | rfl | (simp; done) | (simp [i64_w]; done) | (simp [*]; done) | (simp [*, i64_w]; done) | (simp [*]; unfold wrap64; omega)), H', ⟨by have := HK1.out; first | omega | exact Nat.le_refl _⟩, ⟨by (with_reducible repeat (first | apply Kd.R_alloc | apply Kd.R_drewN | apply Kd.R_drew)); exact HO_3.out⟩, ⟨by (with_reducible repeat (first | apply Kd.R_alloc | apply Kd.R_drewN | apply Kd.R_drew)); exact HO_5.out⟩, ⟨by repeat (first | (with_reducible first | exact HB.out | apply below_alloc | apply pw_below_drewN | apply below_drew1) | exact HB.out)⟩⟩
          · rw [if_neg c8] at H
            have c8b0 : decide (x6_1 < (l0.length : Int)) = false := decide_eq_false c8
            clear c8
            (first | rw [c8b0] | (simp only [i64_w, i32_w]; rw [c8b0]) | skip)
            have H' := Aside0.mk H
            clear H
            go_wp2
            go_meet
            case rel => exact ⟨_, (false), (by first | rfl | (simp; done) | (simp [i64_w]; done) | (simp [*]; done) | (simp [*, i64_w]; done) | (simp [*]; unfold wrap64; omega)), H', ⟨by have := HK1.out; first | omega | exact Nat.le_refl _⟩, ⟨by (with_reducible repeat (first | apply Kd.R_alloc | apply Kd.R_drewN | apply Kd.R_drew)); exact HO_3.out⟩, ⟨by (with_reducible repeat (first | apply Kd.R_alloc | apply Kd.R_drewN | apply Kd.R_drew)); exact HO_5.out⟩, ⟨by repeat (first | (with_reducible first | exact HB.out | apply below_alloc | apply pw_below_drewN | apply below_drew1) | exact HB.out)⟩⟩
        case rest =>
          clear HC7
          try clear c1
          try clear p2
          try clear c3
          try clear c8
          try clear c8b0
          try clear p2
          obtain ⟨kq, x22_6, rfl, HA, HJ6, HO_3, HO_5, HB⟩ := hcut
          cases kq with
          | zero => exact absurd HA.out (by simp [templelaw2_LexRows.j1])
          | succ kj6 =>
            have H := HA.out
            clear HA
            simp only [templelaw2_LexRows.j1] at H
            by_cases c9 : x22_6 = true
            · subst c9
              have H1 : (if 0 ≤ x6_1 then (if x6_1 < (l0.length : Int) then (if (wrap64 (Int.tmod (IntKind.u64.wrap (rd l0 x6_1)) 9)) = 0 then (if x5_1.length < 2932031007402 then (if 0 ≤ (wrap64 (Int.tmod (IntKind.u64.wrap (rd l0 x6_1)) 9)) then (if (wrap64 (Int.tmod (IntKind.u64.wrap (rd l0 x6_1)) 9)) < (y204.length : Int) then (if x4_1.size + (rdOf ByteArray.empty y204 (wrap64 (Int.tmod (IntKind.u64.wrap (rd l0 x6_1)) 9))).size ≤ 9223372036854775807 then ((some (([(⟨#[32]⟩ : ByteArray), (⟨#[10]⟩ : ByteArray), (⟨#[35, 10]⟩ : ByteArray)] : List ByteArray) : List ByteArray)).bind fun y220 => (if 0 ≤ (Int.tmod x6_1 3) then (if (Int.tmod x6_1 3) < (y220.length : Int) then (if (x4_1 ++ (rdOf ByteArray.empty y204 (wrap64 (Int.tmod (IntKind.u64.wrap (rd l0 x6_1)) 9)))).size + (rdOf ByteArray.empty y220 (Int.tmod x6_1 3)).size ≤ 9223372036854775807 then (templelaw2_LexRows.l0 kj6 l0 y204 ((x4_1 ++ (rdOf ByteArray.empty y204 (wrap64 (Int.tmod (IntKind.u64.wrap (rd l0 x6_1)) 9)))) ++ (rdOf ByteArray.empty y220 (Int.tmod x6_1 3))) (x5_1 ++ [(⟨wrap64 (0 + (wrap64 (Int.tmod (IntKind.u64.wrap (rd l0 x6_1)) 9))), (x4_1.size : Int), (⟨#[97, 98]⟩ : ByteArray), 0, 0⟩ : S33)]) (wrap64 (x6_1 + 1))) else (none)) else (none)) else (none))) else (none)) else (none)) else (none)) else (none)) else (if (wrap64 (Int.tmod (IntKind.u64.wrap (rd l0 x6_1)) 9)) = 1 then (if x5_1.length < 2932031007402 then (if 0 ≤ (wrap64 (Int.tmod (IntKind.u64.wrap (rd l0 x6_1)) 9)) then (if (wrap64 (Int.tmod (IntKind.u64.wrap (rd l0 x6_1)) 9)) < (y204.length : Int) then (if x4_1.size + (rdOf ByteArray.empty y204 (wrap64 (Int.tmod (IntKind.u64.wrap (rd l0 x6_1)) 9))).size ≤ 9223372036854775807 then ((some (([(⟨#[32]⟩ : ByteArray), (⟨#[10]⟩ : ByteArray), (⟨#[35, 10]⟩ : ByteArray)] : List ByteArray) : List ByteArray)).bind fun y228 => (if 0 ≤ (Int.tmod x6_1 3) then (if (Int.tmod x6_1 3) < (y228.length : Int) then (if (x4_1 ++ (rdOf ByteArray.empty y204 (wrap64 (Int.tmod (IntKind.u64.wrap (rd l0 x6_1)) 9)))).size + (rdOf ByteArray.empty y228 (Int.tmod x6_1 3)).size ≤ 9223372036854775807 then (templelaw2_LexRows.l0 kj6 l0 y204 ((x4_1 ++ (rdOf ByteArray.empty y204 (wrap64 (Int.tmod (IntKind.u64.wrap (rd l0 x6_1)) 9)))) ++ (rdOf ByteArray.empty y228 (Int.tmod x6_1 3))) (x5_1 ++ [(⟨wrap64 (0 + (wrap64 (Int.tmod (IntKind.u64.wrap (rd l0 x6_1)) 9))), (x4_1.size : Int), (⟨#[120, 92, 121]⟩ : ByteArray), 0, 0⟩ : S33)]) (wrap64 (x6_1 + 1))) else (none)) else (none)) else (none))) else (none)) else (none)) else (none)) else (none)) else (if (wrap64 (Int.tmod (IntKind.u64.wrap (rd l0 x6_1)) 9)) = 2 then (if x5_1.length < 2932031007402 then (if 0 ≤ (wrap64 (Int.tmod (IntKind.u64.wrap (rd l0 x6_1)) 9)) then (if (wrap64 (Int.tmod (IntKind.u64.wrap (rd l0 x6_1)) 9)) < (y204.length : Int) then (if x4_1.size + (rdOf ByteArray.empty y204 (wrap64 (Int.tmod (IntKind.u64.wrap (rd l0 x6_1)) 9))).size ≤ 9223372036854775807 then ((some (([(⟨#[32]⟩ : ByteArray), (⟨#[10]⟩ : ByteArray), (⟨#[35, 10]⟩ : ByteArray)] : List ByteArray) : List ByteArray)).bind fun y236 => (if 0 ≤ (Int.tmod x6_1 3) then (if (Int.tmod x6_1 3) < (y236.length : Int) then (if (x4_1 ++ (rdOf ByteArray.empty y204 (wrap64 (Int.tmod (IntKind.u64.wrap (rd l0 x6_1)) 9)))).size + (rdOf ByteArray.empty y236 (Int.tmod x6_1 3)).size ≤ 9223372036854775807 then (templelaw2_LexRows.l0 kj6 l0 y204 ((x4_1 ++ (rdOf ByteArray.empty y204 (wrap64 (Int.tmod (IntKind.u64.wrap (rd l0 x6_1)) 9)))) ++ (rdOf ByteArray.empty y236 (Int.tmod x6_1 3))) (x5_1 ++ [(⟨wrap64 (0 + (wrap64 (Int.tmod (IntKind.u64.wrap (rd l0 x6_1)) 9))), (x4_1.size : Int), (⟨#[]⟩ : ByteArray), 97, 127⟩ : S33)]) (wrap64 (x6_1 + 1))) else (none)) else (none)) else (none))) else (none)) else (none)) else (none)) else (none)) else (if x5_1.length < 2932031007402 then (if 0 ≤ (wrap64 (Int.tmod (IntKind.u64.wrap (rd l0 x6_1)) 9)) then (if (wrap64 (Int.tmod (IntKind.u64.wrap (rd l0 x6_1)) 9)) < (y204.length : Int) then (if x4_1.size + (rdOf ByteArray.empty y204 (wrap64 (Int.tmod (IntKind.u64.wrap (rd l0 x6_1)) 9))).size ≤ 9223372036854775807 then ((some (([(⟨#[32]⟩ : ByteArray), (⟨#[10]⟩ : ByteArray), (⟨#[35, 10]⟩ : ByteArray)] : List ByteArray) : List ByteArray)).bind fun y244 => (if 0 ≤ (Int.tmod x6_1 3) then (if (Int.tmod x6_1 3) < (y244.length : Int) then (if (x4_1 ++ (rdOf ByteArray.empty y204 (wrap64 (Int.tmod (IntKind.u64.wrap (rd l0 x6_1)) 9)))).size + (rdOf ByteArray.empty y244 (Int.tmod x6_1 3)).size ≤ 9223372036854775807 then (templelaw2_LexRows.l0 kj6 l0 y204 ((x4_1 ++ (rdOf ByteArray.empty y204 (wrap64 (Int.tmod (IntKind.u64.wrap (rd l0 x6_1)) 9)))) ++ (rdOf ByteArray.empty y244 (Int.tmod x6_1 3))) (x5_1 ++ [(⟨wrap64 (0 + (wrap64 (Int.tmod (IntKind.u64.wrap (rd l0 x6_1)) 9))), (x4_1.size : Int), (⟨#[]⟩ : ByteArray), 0, 0⟩ : S33)]) (wrap64 (x6_1 + 1))) else (none)) else (none)) else (none))) else (none)) else (none)) else (none)) else (none))))) else (none)) else (none)) = some r := by rw [if_pos rfl] at H; exact H
              clear H
              have H := H1
              clear H1
              by_cases c10 : 0 ≤ x6_1
              · rw [if_pos c10] at H
                have c10b0 : decide (0 ≤ x6_1) = true := decide_eq_true c10
                clear c10
                by_cases c11 : x6_1 < (l0.length : Int)
                · rw [if_pos c11] at H
                  have c11b0 : decide (x6_1 < (l0.length : Int)) = true := decide_eq_true c11
                  clear c11
                  by_cases c12 : (wrap64 (Int.tmod (IntKind.u64.wrap (rd l0 x6_1)) 9)) = 0
                  · rw [if_pos c12] at H
                    have c12b0 : ((wrap64 (Int.tmod (IntKind.u64.wrap (rd l0 x6_1)) 9)) == 0) = true := beq_iff_eq.mpr c12
                    have c12b1 : ((wrap64 (Int.tmod (IntKind.u64.wrap (rd l0 x6_1)) 9)) != 0) = false := bne_eq_false_iff_eq.mpr c12
                    clear c12
                    by_cases c13 : x5_1.length < 2932031007402
                    · rw [if_pos c13] at H
                      have LMc13 := Aside0.mk c13
                      clear c13
                      obtain ⟨y216, hy216⟩ : ∃ y_ : List (S33), y_ = (x5_1 ++ [(⟨wrap64 (0 + (wrap64 (Int.tmod (IntKind.u64.wrap (rd l0 x6_1)) 9))), (x4_1.size : Int), (⟨#[97, 98]⟩ : ByteArray), 0, 0⟩ : S33)]) := ⟨_, rfl⟩
                      replace H : (if 0 ≤ (wrap64 (Int.tmod (IntKind.u64.wrap (rd l0 x6_1)) 9)) then (if (wrap64 (Int.tmod (IntKind.u64.wrap (rd l0 x6_1)) 9)) < (y204.length : Int) then (if x4_1.size + (rdOf ByteArray.empty y204 (wrap64 (Int.tmod (IntKind.u64.wrap (rd l0 x6_1)) 9))).size ≤ 9223372036854775807 then ((some (([(⟨#[32]⟩ : ByteArray), (⟨#[10]⟩ : ByteArray), (⟨#[35, 10]⟩ : ByteArray)] : List ByteArray) : List ByteArray)).bind fun y220 => (if 0 ≤ (Int.tmod x6_1 3) then (if (Int.tmod x6_1 3) < (y220.length : Int) then (if (x4_1 ++ (rdOf ByteArray.empty y204 (wrap64 (Int.tmod (IntKind.u64.wrap (rd l0 x6_1)) 9)))).size + (rdOf ByteArray.empty y220 (Int.tmod x6_1 3)).size ≤ 9223372036854775807 then (templelaw2_LexRows.l0 kj6 l0 y204 ((x4_1 ++ (rdOf ByteArray.empty y204 (wrap64 (Int.tmod (IntKind.u64.wrap (rd l0 x6_1)) 9)))) ++ (rdOf ByteArray.empty y220 (Int.tmod x6_1 3))) y216 (wrap64 (x6_1 + 1))) else (none)) else (none)) else (none))) else (none)) else (none)) else (none)) = some r := by first | (rw [hy216]; with_reducible exact H) | (have H2_ := (Option.bind_some _ _).symm.trans H; rw [hy216]; with_reducible exact H2_) | (have H2_ := (Option.bind_some _ _).symm.trans H; with_reducible exact H2_) | with_reducible exact H | (rw [hy216]; exact H) | exact H
                      have Ny216 := Aside0.mk hy216
                      clear hy216
                      obtain ⟨ji14, hji14⟩ : ∃ j_ : Int, (wrap64 (Int.tmod (IntKind.u64.wrap (rd l0 x6_1)) 9)) = j_ := ⟨_, rfl⟩
                      replace H : (if 0 ≤ (ji14) then (if (ji14) < (y204.length : Int) then (if x4_1.size + (rdOf ByteArray.empty y204 (ji14)).size ≤ 9223372036854775807 then ((some (([(⟨#[32]⟩ : ByteArray), (⟨#[10]⟩ : ByteArray), (⟨#[35, 10]⟩ : ByteArray)] : List ByteArray) : List ByteArray)).bind fun y220 => (if 0 ≤ (Int.tmod x6_1 3) then (if (Int.tmod x6_1 3) < (y220.length : Int) then (if (x4_1 ++ (rdOf ByteArray.empty y204 (ji14))).size + (rdOf ByteArray.empty y220 (Int.tmod x6_1 3)).size ≤ 9223372036854775807 then (templelaw2_LexRows.l0 kj6 l0 y204 ((x4_1 ++ (rdOf ByteArray.empty y204 (ji14))) ++ (rdOf ByteArray.empty y220 (Int.tmod x6_1 3))) y216 (wrap64 (x6_1 + 1))) else (none)) else (none)) else (none))) else (none)) else (none)) else (none)) = some r := by first | (rw [hji14] at H; exact H) | (simp only [hji14] at H ⊢; exact H)
                      (try rw [hji14] at c12b0)
                      (try rw [hji14] at c12b1)
                      (try rw [hji14] at Ny216)
                      (try simp only [Int.zero_add] at Ny216)
                      have hji14w : (IntKind.i64.wrap (Int.tmod (IntKind.u64.wrap (rd l0 x6_1)) 9)) = ji14 := (i64_w _).trans hji14
                      by_cases c15 : 0 ≤ (ji14)
                      · rw [if_pos c15] at H
                        have c15b0 : decide (0 ≤ (ji14)) = true := decide_eq_true c15
                        clear c15
                        by_cases c16 : (ji14) < (y204.length : Int)
                        · rw [if_pos c16] at H
                          have c16b0 : decide ((ji14) < (y204.length : Int)) = true := decide_eq_true c16
                          clear c16
                          by_cases c17 : x4_1.size + (rdOf ByteArray.empty y204 (ji14)).size ≤ 9223372036854775807
                          · rw [if_pos c17] at H
                            have c17b0 := eq_true c17
                            have c17b1 : decide (x4_1.size + (rdOf ByteArray.empty y204 (ji14)).size ≤ 9223372036854775807) = true := decide_eq_true c17
                            try have c17b2 : (9223372036854775807 < x4_1.size + (rdOf ByteArray.empty y204 (ji14)).size) = False := eq_false (Nat.not_lt.2 c17)
                            obtain ⟨y220, hy220⟩ : ∃ y_ : List ByteArray, y_ = (([(⟨#[32]⟩ : ByteArray), (⟨#[10]⟩ : ByteArray), (⟨#[35, 10]⟩ : ByteArray)] : List ByteArray)) := ⟨_, rfl⟩
                            replace H : (if 0 ≤ (Int.tmod x6_1 3) then (if (Int.tmod x6_1 3) < (y220.length : Int) then (if (x4_1 ++ (rdOf ByteArray.empty y204 (ji14))).size + (rdOf ByteArray.empty y220 (Int.tmod x6_1 3)).size ≤ 9223372036854775807 then (templelaw2_LexRows.l0 kj6 l0 y204 ((x4_1 ++ (rdOf ByteArray.empty y204 (ji14))) ++ (rdOf ByteArray.empty y220 (Int.tmod x6_1 3))) y216 (wrap64 (x6_1 + 1))) else (none)) else (none)) else (none)) = some r := by first | (rw [hy220]; with_reducible exact H) | (have H2_ := (Option.bind_some _ _).symm.trans H; rw [hy220]; with_reducible exact H2_) | (have H2_ := (Option.bind_some _ _).symm.trans H; with_reducible exact H2_) | with_reducible exact H | (rw [hy220]; exact H) | exact H
                            have Ny220 := Aside0.mk hy220
                            clear hy220
                            obtain ⟨ji18, hji18⟩ : ∃ j_ : Int, (Int.tmod x6_1 3) = j_ := ⟨_, rfl⟩
                            replace H : (if 0 ≤ (ji18) then (if (ji18) < (y220.length : Int) then (if (x4_1 ++ (rdOf ByteArray.empty y204 (ji14))).size + (rdOf ByteArray.empty y220 (ji18)).size ≤ 9223372036854775807 then (templelaw2_LexRows.l0 kj6 l0 y204 ((x4_1 ++ (rdOf ByteArray.empty y204 (ji14))) ++ (rdOf ByteArray.empty y220 (ji18))) y216 (wrap64 (x6_1 + 1))) else (none)) else (none)) else (none)) = some r := by first | (rw [hji18] at H; exact H) | (simp only [hji18] at H ⊢; exact H)
                            by_cases c19 : 0 ≤ (ji18)
                            · rw [if_pos c19] at H
                              have c19b0 : decide (0 ≤ (ji18)) = true := decide_eq_true c19
                              clear c19
                              by_cases c20 : (ji18) < (y220.length : Int)
                              · rw [if_pos c20] at H
                                have c20b0 : decide ((ji18) < (y220.length : Int)) = true := decide_eq_true c20
                                clear c20
                                by_cases c21 : (x4_1 ++ (rdOf ByteArray.empty y204 (ji14))).size + (rdOf ByteArray.empty y220 (ji18)).size ≤ 9223372036854775807
                                · rw [if_pos c21] at H
                                  have c21b0 := eq_true c21
                                  have c21b1 : decide ((x4_1 ++ (rdOf ByteArray.empty y204 (ji14))).size + (rdOf ByteArray.empty y220 (ji18)).size ≤ 9223372036854775807) = true := decide_eq_true c21
                                  try have c21b2 : (9223372036854775807 < (x4_1 ++ (rdOf ByteArray.empty y204 (ji14))).size + (rdOf ByteArray.empty y220 (ji18)).size) = False := eq_false (Nat.not_lt.2 c21)
                                  try have c21b3 : (9223372036854775807 < x4_1.size + (rdOf ByteArray.empty y204 (ji14)).size + (rdOf ByteArray.empty y220 (ji18)).size) = False := eq_false (by have q_ := c21; (try simp only [ByteArray.size_append, ByteArray.size_extract] at q_); omega)
                                  have H' := Aside0.mk H
                                  clear H
                                  have p214 : 0 ≤ (x6_1 : Int) := of_decide_eq_true (by first | (with_reducible assumption) | assumption)
                                  have q214 : x6_1 < (l0.length : Int) := of_decide_eq_true (by first | (with_reducible assumption) | assumption)
                                  obtain ⟨ad214, e214, hx214_0⟩ := Kd.at_int HR0.out x6_1 p214 q214
                                  cases e214
                                  replace hx214_0 := (HB.out.cell (World.block_lt_of_cell? w _ hx214_0)).trans hx214_0
                                  replace p214 := eq_true p214
                                  replace q214 := eq_true q214
                                  try go_wp2_with (first | ((with_reducible refine gate_dst (N := 8) rfl ?_); refine box_event ?hg (N := 8) ?hd (cs := #[.int .i64 0, .int .i64 0, .string (⟨#[]⟩ : ByteArray), .int .i64 0, .int .i64 0]) (t := 33) ?hr ?_; (case hd => rfl); (case hg => rfl); (case hr => first | (go_simp; done) | (go_simp; rfl)); intro gb215 hg w22 hbox hb; have n0_ := Aside0.mk (Kd.R_below (by (with_reducible repeat (first | apply Kd.R_alloc | apply Kd.R_drewN | apply Kd.R_drew)); exact HO_3.out) hb); have n1_ := Aside0.mk (Kd.R_below (Kd.R_elderB (by (with_reducible repeat (first | apply Kd.R_alloc | apply Kd.R_drewN | apply Kd.R_drew)); exact HO_5.out) gb215 (Nat.le_of_eq hg.symm)) hb); have n2_ := Aside0.mk (below_step (by repeat (first | (with_reducible first | exact HB.out | apply below_alloc | apply pw_below_drewN | apply below_drew1) | exact HB.out)) hb); have n3_ := Aside0.mk (hbox); have n4_ := Aside0.mk ((by rw [hg]; exact (below_size (by repeat (first | (with_reducible first | exact HB.out | apply below_alloc | apply pw_below_drewN | apply below_drew1) | exact HB.out))) : w.heap.size ≤ gb215)); have n5_ := Aside0.mk ((by rw [hg]; exact (below_size (by repeat (first | (with_reducible first | exact HB.out | apply below_alloc | apply pw_below_drewN | apply below_drew1) | exact HB.out))) : w.heap.size ≤ gb215)); clear HO_3; clear HO_5; clear HB; have HO_3 := n0_; have HO_5 := n1_; have HB := n2_; have BK215 := n3_; have GW215 := n4_; have GE215 := n5_; clear n0_ n1_ n2_ n3_ n4_ n5_; clear hb hbox hg; have hcz23_0 : w22.cell? ⟨gb215, 0, none⟩ = some (.int .i64 0) := (blk_cell BK215.out 0).trans rfl; have hcz23_1 : w22.cell? ⟨gb215, 1, none⟩ = some (.int .i64 0) := (blk_cell BK215.out 1).trans rfl; have hcz23_2 : w22.cell? ⟨gb215, 2, none⟩ = some (.string (⟨#[]⟩ : ByteArray)) := (blk_cell BK215.out 2).trans rfl; have hcz23_3 : w22.cell? ⟨gb215, 3, none⟩ = some (.int .i64 0) := (blk_cell BK215.out 3).trans rfl; have hcz23_4 : w22.cell? ⟨gb215, 4, none⟩ = some (.int .i64 0) := (blk_cell BK215.out 4).trans rfl; have hcw_2 : ((((((w22.setCell ⟨gb215, 0, none⟩ (.int .i64 (wrap64 (ji14)))).setCell ⟨gb215, 1, none⟩ (.int .i64 (x4_1.size : Int))).setCell ⟨gb215, 2, none⟩ (.string (⟨#[]⟩ : ByteArray))).setCell ⟨gb215, 3, none⟩ (.int .i64 0)).setCell ⟨gb215, 4, none⟩ (.int .i64 0)).setCell ⟨gb215, 2, none⟩ (.string (⟨#[97, 98]⟩ : ByteArray))).cell? ⟨gb215, 2, none⟩ = some (.string (⟨#[97, 98]⟩ : ByteArray)) := (World.cell?_setCell_same _ _ _ ((World.cell?_setCell_other _ _ _ _ (by simp)).trans ((World.cell?_setCell_other _ _ _ _ (by simp)).trans (World.cell?_setCell_same _ _ _ ((World.cell?_setCell_other _ _ _ _ (by simp)).trans ((World.cell?_setCell_other _ _ _ _ (by simp)).trans hcz23_2)))))); have hfz23_0 := blk_frozen BK215.out 0; have hfz23_1 := blk_frozen BK215.out 1; have hfz23_2 := blk_frozen BK215.out 2; have hfz23_3 := blk_frozen BK215.out 3; have hfz23_4 := blk_frozen BK215.out 4) | ((with_reducible refine gate_builtin (b := .append) (xs := #[.tmp 48, .tmp 50]) rfl ?_); at_builtin; refine Kd.R_append k33 (w0 := w) w.heap.size rfl (.tmp 48) (.tmp 50) 22 33 (.agg #[(.int .i64 0), (.int .i64 0), (.string ⟨#[]⟩), (.int .i64 0), (.int .i64 0)]) 48 rfl Try.underlying22 info33 rfl (by decide) (by omega) u5 x5_1 (⟨wrap64 (ji14), (x4_1.size : Int), (⟨#[97, 98]⟩ : ByteArray), 0, 0⟩ : S33) [.int .i64 (wrap64 (ji14)), .int .i64 (x4_1.size : Int), .string (⟨#[97, 98]⟩ : ByteArray), .int .i64 0, .int .i64 0] (fun k_ => k_ ≠ gb215) (fun _ => False) rfl (by first | (go_simp; done) | (go_simp; rfl)) ?aP (fun _ hk => hk.elim) ?aF ?aO ?aB ?aS ?aL ?_; (case aP => exact k33_mkM _ _ _ (⟨wrap64 (ji14), (x4_1.size : Int), (⟨#[97, 98]⟩ : ByteArray), 0, 0⟩ : S33)); (case aB => exact (by repeat (first | (with_reducible first | exact HB.out | apply below_alloc | apply pw_below_drewN | apply below_drew1 | refine below_set ?_ GE215.out) | exact HB.out))); (case aF => exact (fun k_ hk => Kd.freshB (g := gb215) (o := .cells #[.int .i64 (wrap64 (ji14)), .int .i64 (x4_1.size : Int), .string (⟨#[97, 98]⟩ : ByteArray), .int .i64 0, .int .i64 0] 33 (0, 0)) (by (with_reducible repeat (first | refine blk_drewN ?_ _ | refine blk_drew ?_ | refine blk_alloc ?_ _)); refine blk_put (cs := #[.int .i64 (wrap64 (ji14)), .int .i64 (x4_1.size : Int), .string (⟨#[]⟩ : ByteArray), .int .i64 0, .int .i64 0]) ?_ 2 _ rfl; (with_reducible repeat (first | refine blk_drewN ?_ _ | refine blk_drew ?_ | refine blk_alloc ?_ _)); refine blk_put (cs := #[.int .i64 (wrap64 (ji14)), .int .i64 (x4_1.size : Int), .string (⟨#[]⟩ : ByteArray), .int .i64 0, .int .i64 0]) ?_ 4 _ rfl; (with_reducible repeat (first | refine blk_drewN ?_ _ | refine blk_drew ?_ | refine blk_alloc ?_ _)); refine blk_put (cs := #[.int .i64 (wrap64 (ji14)), .int .i64 (x4_1.size : Int), .string (⟨#[]⟩ : ByteArray), .int .i64 0, .int .i64 0]) ?_ 3 _ rfl; (with_reducible repeat (first | refine blk_drewN ?_ _ | refine blk_drew ?_ | refine blk_alloc ?_ _)); refine blk_put (cs := #[.int .i64 (wrap64 (ji14)), .int .i64 (x4_1.size : Int), .string (⟨#[]⟩ : ByteArray), .int .i64 0, .int .i64 0]) ?_ 2 _ rfl; (with_reducible repeat (first | refine blk_drewN ?_ _ | refine blk_drew ?_ | refine blk_alloc ?_ _)); refine blk_put (cs := #[.int .i64 (wrap64 (ji14)), .int .i64 0, .string (⟨#[]⟩ : ByteArray), .int .i64 0, .int .i64 0]) ?_ 1 _ rfl; (with_reducible repeat (first | refine blk_drewN ?_ _ | refine blk_drew ?_ | refine blk_alloc ?_ _)); refine blk_put (cs := #[.int .i64 0, .int .i64 0, .string (⟨#[]⟩ : ByteArray), .int .i64 0, .int .i64 0]) ?_ 0 _ rfl; (with_reducible repeat (first | refine blk_drewN ?_ _ | refine blk_drew ?_ | refine blk_alloc ?_ _)); exact BK215.out) k_ hk)); (case aO => exact (by (with_reducible repeat (first | apply Kd.R_alloc | apply Kd.R_drewN | apply Kd.R_drew)); exact Kd.R_mono (Kd.R_far (p := ⟨gb215, 2, none⟩) (Kd.R_far (p := ⟨gb215, 4, none⟩) (Kd.R_far (p := ⟨gb215, 3, none⟩) (Kd.R_far (p := ⟨gb215, 2, none⟩) (Kd.R_far (p := ⟨gb215, 1, none⟩) (Kd.R_far (p := ⟨gb215, 0, none⟩) (Kd.R_mono HO_5.out (fun k_ hk => (⟨hk, hk.2⟩ : _ ∧ k_ ≠ gb215))) (fun _ hk => hk.2) (.int .i64 (wrap64 (ji14)))) (fun _ hk => hk.2) (.int .i64 (x4_1.size : Int))) (fun _ hk => hk.2) (.string (⟨#[]⟩ : ByteArray))) (fun _ hk => hk.2) (.int .i64 0)) (fun _ hk => hk.2) (.int .i64 0)) (fun _ hk => hk.2) (.string (⟨#[97, 98]⟩ : ByteArray))) (fun _ hk => hk.1.2))); (case aS => exact (below_size (by repeat (first | (with_reducible first | exact HB.out | apply below_alloc | apply pw_below_drewN | apply below_drew1 | refine below_set ?_ GE215.out) | exact HB.out)))); (case aL => have := LMc13.out; omega); intro v217 w24 ho hb hg hat; rw [← Ny216.out] at ho; have n0_ := Aside0.mk (Kd.R_over' (by (with_reducible repeat (first | apply Kd.R_alloc | apply Kd.R_drewN | apply Kd.R_drew)); exact (Kd.R_mono (Kd.R_far (p := ⟨gb215, 2, none⟩) (Kd.R_far (p := ⟨gb215, 4, none⟩) (Kd.R_far (p := ⟨gb215, 3, none⟩) (Kd.R_far (p := ⟨gb215, 2, none⟩) (Kd.R_far (p := ⟨gb215, 1, none⟩) (Kd.R_far (p := ⟨gb215, 0, none⟩) (Kd.R_types HO_3.out BK215.out (by decide)) (fun _ hk => hk.2) (.int .i64 (wrap64 (ji14)))) (fun _ hk => hk.2) (.int .i64 (x4_1.size : Int))) (fun _ hk => hk.2) (.string (⟨#[]⟩ : ByteArray))) (fun _ hk => hk.2) (.int .i64 0)) (fun _ hk => hk.2) (.int .i64 0)) (fun _ hk => hk.2) (.string (⟨#[97, 98]⟩ : ByteArray))) (fun _ h_ => h_.1))) (Kd.R_typed (by (with_reducible repeat (first | apply Kd.R_alloc | apply Kd.R_drewN | apply Kd.R_drew)); exact (Kd.R_mono (Kd.R_far (p := ⟨gb215, 2, none⟩) (Kd.R_far (p := ⟨gb215, 4, none⟩) (Kd.R_far (p := ⟨gb215, 3, none⟩) (Kd.R_far (p := ⟨gb215, 2, none⟩) (Kd.R_far (p := ⟨gb215, 1, none⟩) (Kd.R_far (p := ⟨gb215, 0, none⟩) (Kd.R_mono HO_5.out (fun k_ hk => (⟨hk, hk.2⟩ : _ ∧ k_ ≠ gb215))) (fun _ hk => hk.2) (.int .i64 (wrap64 (ji14)))) (fun _ hk => hk.2) (.int .i64 (x4_1.size : Int))) (fun _ hk => hk.2) (.string (⟨#[]⟩ : ByteArray))) (fun _ hk => hk.2) (.int .i64 0)) (fun _ hk => hk.2) (.int .i64 0)) (fun _ hk => hk.2) (.string (⟨#[97, 98]⟩ : ByteArray))) (fun _ h_ => h_.1)))) (by decide) hg); have n1_ := Aside0.mk (blk_grown (g := gb215) (o := .cells #[.int .i64 (wrap64 (ji14)), .int .i64 (x4_1.size : Int), .string (⟨#[97, 98]⟩ : ByteArray), .int .i64 0, .int .i64 0] 33 (0, 0)) (by (with_reducible repeat (first | refine blk_drewN ?_ _ | refine blk_drew ?_ | refine blk_alloc ?_ _)); refine blk_put (cs := #[.int .i64 (wrap64 (ji14)), .int .i64 (x4_1.size : Int), .string (⟨#[]⟩ : ByteArray), .int .i64 0, .int .i64 0]) ?_ 2 _ rfl; (with_reducible repeat (first | refine blk_drewN ?_ _ | refine blk_drew ?_ | refine blk_alloc ?_ _)); refine blk_put (cs := #[.int .i64 (wrap64 (ji14)), .int .i64 (x4_1.size : Int), .string (⟨#[]⟩ : ByteArray), .int .i64 0, .int .i64 0]) ?_ 4 _ rfl; (with_reducible repeat (first | refine blk_drewN ?_ _ | refine blk_drew ?_ | refine blk_alloc ?_ _)); refine blk_put (cs := #[.int .i64 (wrap64 (ji14)), .int .i64 (x4_1.size : Int), .string (⟨#[]⟩ : ByteArray), .int .i64 0, .int .i64 0]) ?_ 3 _ rfl; (with_reducible repeat (first | refine blk_drewN ?_ _ | refine blk_drew ?_ | refine blk_alloc ?_ _)); refine blk_put (cs := #[.int .i64 (wrap64 (ji14)), .int .i64 (x4_1.size : Int), .string (⟨#[]⟩ : ByteArray), .int .i64 0, .int .i64 0]) ?_ 2 _ rfl; (with_reducible repeat (first | refine blk_drewN ?_ _ | refine blk_drew ?_ | refine blk_alloc ?_ _)); refine blk_put (cs := #[.int .i64 (wrap64 (ji14)), .int .i64 0, .string (⟨#[]⟩ : ByteArray), .int .i64 0, .int .i64 0]) ?_ 1 _ rfl; (with_reducible repeat (first | refine blk_drewN ?_ _ | refine blk_drew ?_ | refine blk_alloc ?_ _)); refine blk_put (cs := #[.int .i64 0, .int .i64 0, .string (⟨#[]⟩ : ByteArray), .int .i64 0, .int .i64 0]) ?_ 0 _ rfl; (with_reducible repeat (first | refine blk_drewN ?_ _ | refine blk_drew ?_ | refine blk_alloc ?_ _)); exact BK215.out) hg (Kd.R_away HO_5.out (fun _ hk => hk.2))); have n2_ := Aside0.mk (hb); have n3_ := Aside0.mk (ho); clear HO_3; clear BK215; clear HB; clear HO_5; have HO_3 := n0_; have BK215 := n1_; have HB := n2_; have HO218 := n3_; clear n0_ n1_ n2_ n3_; clear ho hb hg hat))
                                  have pi223 : (0 ≤ ((ji18) : Int)) = True := eq_true (of_decide_eq_true (by first | (with_reducible assumption) | assumption))
                                  have qi223 : ((ji18) < (y220.length : Int)) = True := eq_true (of_decide_eq_true (by first | (with_reducible assumption) | assumption))
                                  have n0_ := Aside0.mk (Kd.R_drew HO_3.out)
                                  have n1_ := Aside0.mk (Kd.R_drew HO218.out)
                                  have n2_ := Aside0.mk (blk_drew BK215.out)
                                  have n3_ := Aside0.mk (below_drew1 HB.out)
                                  clear HO_3
                                  clear HO218
                                  clear BK215
                                  clear HB
                                  have HO_3 := n0_
                                  have HO218 := n1_
                                  have BK215 := n2_
                                  have HB := n3_
                                  clear n0_ n1_ n2_ n3_
                                  obtain ⟨Ao26, co26, eo26⟩ := Kd.R_slice HO_3.out
                                  (first | subst eo26 | (injection eo26 with f1_ f2_ f3_; have f4_ := f1_.symm; have f5_ := f3_.symm; clear f1_ f2_ f3_; subst f4_; subst f5_))
                                  have p219 : 0 ≤ ((ji14) : Int) := of_decide_eq_true (by first | (with_reducible assumption) | assumption)
                                  have q219 : (ji14) < (y204.length : Int) := of_decide_eq_true (by first | (with_reducible assumption) | assumption)
                                  obtain ⟨ad219, e219, hx219_0⟩ := Kd.at_string (Kd.R_reads' HO_3.out).2.2 (ji14) p219 q219
                                  cases e219
                                  replace p219 := eq_true p219
                                  replace q219 := eq_true q219
                                  refine start_ (n := 13) (S := fun w' => w'.cell? (ad219.add ((ji14)).toNat) = some (.string (rdOf ByteArray.empty y204 (ji14)))) (ds := []) #[false, false, false, false, false, false, false, false, false, false, false, false, false] (by kernel_rfl) rfl rfl (hx219_0) (fun hHeld => ?_); refine with_tabW templelaw2_LexRows.tab20 templelaw2_LexRows.bits20 (fun HT_ HW_ => ?_)
                                  generalize w24.drew = w25 at HO_3 HO218 BK215 HB hx219_0 hHeld ⊢
                                  refine pure_ (i := 0) (N := some 52) (v := ?_) (a' := ?_) #[true, false, false, false, false, false, false, false, false, false, false, false, false] rfl rfl (any_of HT_.out (by kernel_rfl)) (fun _ _ _ h => h) (Or.inl ⟨by rfl, ?_⟩) ?_ ?_
                                  rotate_left
                                  · intro w'
                                    go_simp
                                    with_reducible rfl
                                  rotate_left
                                  · simp only [Act.put, List.setIfInBounds_toArray, List.set_cons_zero, List.set_cons_succ, i64_w, i32_w]
                                    rfl
                                  refine pure_ (i := 1) (N := some 53) (v := ?_) (a' := ?_) #[true, true, false, false, false, false, false, false, false, false, false, false, false] rfl rfl (any_of HT_.out (by kernel_rfl)) (fun _ _ _ h => h) (Or.inl ⟨by rfl, ?_⟩) ?_ ?_
                                  rotate_left
                                  · intro w'
                                    go_simp
                                    with_reducible rfl
                                  rotate_left
                                  · simp only [Act.put, List.setIfInBounds_toArray, List.set_cons_zero, List.set_cons_succ, i64_w, i32_w]
                                    rfl
                                  refine pure_ (i := 2) (N := some 54) (v := ?_) (a' := ?_) #[true, true, true, false, false, false, false, false, false, false, false, false, false] rfl rfl (any_of HT_.out (by kernel_rfl)) (fun _ _ _ h => h) (Or.inl ⟨by rfl, ?_⟩) ?_ ?_
                                  rotate_left
                                  · intro w'
                                    go_simp
                                    with_reducible rfl
                                  rotate_left
                                  · simp only [Act.put, List.setIfInBounds_toArray, List.set_cons_zero, List.set_cons_succ, i64_w, i32_w]
                                    rfl
                                  refine pure_ (i := 3) (N := some 55) (v := ?_) (a' := ?_) #[true, true, true, true, false, false, false, false, false, false, false, false, false] rfl rfl (any_of HT_.out (by kernel_rfl)) (fun _ _ _ h => h) (Or.inl ⟨by rfl, ?_⟩) ?_ ?_
                                  rotate_left
                                  · intro w'
                                    go_simp
                                    with_reducible rfl
                                  rotate_left
                                  · simp only [Act.put, List.setIfInBounds_toArray, List.set_cons_zero, List.set_cons_succ, i64_w, i32_w]
                                    rfl
                                  refine pure_ (i := 7) (N := some 59) (v := ?_) (a' := ?_) #[true, true, true, true, false, false, false, true, false, false, false, false, false] rfl rfl (any_of HT_.out (by kernel_rfl)) (fun _ _ _ h => h) (Or.inl ⟨by rfl, ?_⟩) ?_ ?_
                                  rotate_left
                                  · intro w'
                                    go_simp
                                    with_reducible rfl
                                  rotate_left
                                  · simp only [Act.put, List.setIfInBounds_toArray, List.set_cons_zero, List.set_cons_succ, i64_w, i32_w]
                                    rfl
                                  refine pure_ (i := 8) (N := some 60) (v := ?_) (a' := ?_) #[true, true, true, true, false, false, false, true, true, false, false, false, false] rfl rfl (any_of HT_.out (by kernel_rfl)) (fun _ _ _ h => h) (Or.inl ⟨by rfl, ?_⟩) ?_ ?_
                                  rotate_left
                                  · intro w'
                                    go_simp
                                    with_reducible rfl
                                  rotate_left
                                  · simp only [Act.put, List.setIfInBounds_toArray, List.set_cons_zero, List.set_cons_succ, i64_w, i32_w]
                                    rfl
                                  refine take_ (i := 4) (N := some 56) (v := ?_) (a' := ?_) #[true, true, true, true, true, false, false, true, true, false, false, false, false] rfl rfl (take_ofW HT_.out HW_.out (by kernel_rfl)) (fun _ _ _ h => h) (Or.inl ⟨by rfl, ?_⟩) hHeld ?_ ?_
                                  rotate_left
                                  · intro w' s0
                                    go_simp
                                    with_reducible rfl
                                  rotate_left
                                  · simp only [Act.put, List.setIfInBounds_toArray, List.set_cons_zero, List.set_cons_succ, i64_w, i32_w]
                                    rfl
                                  refine pure_ (i := 5) (N := some 57) (v := ?_) (a' := ?_) #[true, true, true, true, true, true, false, true, true, false, false, false, false] rfl rfl (any_of HT_.out (by kernel_rfl)) (fun _ _ _ h => h) (Or.inl ⟨by rfl, ?_⟩) ?_ ?_
                                  rotate_left
                                  · intro w'
                                    go_simp
                                    with_reducible rfl
                                  rotate_left
                                  · simp only [Act.put, List.setIfInBounds_toArray, List.set_cons_zero, List.set_cons_succ, i64_w, i32_w]
                                    rfl
                                  refine one_ (i := 6) (N := some 58) #[true, true, true, true, true, true, true, true, true, false, false, false, false] rfl rfl (one_of HT_.out (by kernel_rfl)) (by decide) (fun K hK => ?_)
                                  refine Kd.R_lit_step Kd.string _ 9 ?hg (N := 58) ?hd (xs := ([(⟨#[32]⟩ : ByteArray), (⟨#[10]⟩ : ByteArray), (⟨#[35, 10]⟩ : ByteArray)] : List ByteArray)) (inner := [.string (⟨#[32]⟩ : ByteArray), .string (⟨#[10]⟩ : ByteArray), .string (⟨#[35, 10]⟩ : ByteArray)]) (ok := fun _ => True) (okp := fun _ => True) ?hr ?hp (fun _ hk => hk) trivial (Below.refl _ _) (Nat.le_refl _) (by simp) ?_; (case hd => rfl); (case hg => rfl); (case hr => first | (go_simp; done) | (go_simp; rfl)); (case hp => exact (Reps.one (show Kd.M Kd.string _ _ _ (⟨#[32]⟩ : ByteArray) [.string (⟨#[32]⟩ : ByteArray)] from rfl) (Reps.one (show Kd.M Kd.string _ _ _ (⟨#[10]⟩ : ByteArray) [.string (⟨#[10]⟩ : ByteArray)] from rfl) (Reps.one (show Kd.M Kd.string _ _ _ (⟨#[35, 10]⟩ : ByteArray) [.string (⟨#[35, 10]⟩ : ByteArray)] from rfl) (Reps.none _ _)))))
                                  intro v221 w27 ho28 hb hg_ hnew_
                                  have HS0_ := (hb.cell (World.block_lt_of_cell? _ _ (hHeld))).trans (hHeld)
                                  clear hg_ hnew_
                                  (first | rw [← Ny220.out] at ho28 | (simp only [Int.reduceToNat] at ho28; rw [← Ny220.out] at ho28))
                                  have n0_ := Aside0.mk (Kd.R_elder' (by (with_reducible repeat (first | apply Kd.R_alloc | apply Kd.R_drewN | apply Kd.R_drew)); exact HO_3.out) (Kd.R_base ho28) hb)
                                  have n1_ := Aside0.mk (Kd.R_below (by (with_reducible repeat (first | apply Kd.R_alloc | apply Kd.R_drewN | apply Kd.R_drew)); exact HO218.out) hb)
                                  have n2_ := Aside0.mk (Kd.R_lower (Kd.R_new' ho28 (Kd.R_lt (by (with_reducible repeat (first | apply Kd.R_alloc | apply Kd.R_drewN | apply Kd.R_drew)); exact HO_3.out))) (below_size (by repeat (first | (with_reducible first | exact HB.out | apply below_alloc | apply pw_below_drewN | apply below_drew1 | refine below_set ?_ GE215.out) | exact HB.out))))
                                  have n3_ := Aside0.mk (blk_below (g := gb215) (o := .cells #[.int .i64 (wrap64 (ji14)), .int .i64 (x4_1.size : Int), .string (⟨#[97, 98]⟩ : ByteArray), .int .i64 0, .int .i64 0] 33 (0, 0)) (by (with_reducible repeat (first | refine blk_drewN ?_ _ | refine blk_drew ?_ | refine blk_alloc ?_ _)); exact BK215.out) hb)
                                  have n4_ := Aside0.mk (below_step (by repeat (first | (with_reducible first | exact HB.out | apply below_alloc | apply pw_below_drewN | apply below_drew1 | refine below_set ?_ GE215.out) | exact HB.out)) hb)
                                  clear HO_3
                                  clear HO218
                                  clear BK215
                                  clear HB
                                  have HO_3 := n0_
                                  have HO218 := n1_
                                  have HO222 := n2_
                                  have BK215 := n3_
                                  have HB := n4_
                                  clear n0_ n1_ n2_ n3_ n4_
                                  clear hb ho28
                                  obtain ⟨Ao29, co29, eo29⟩ := Kd.R_slice HO222.out
                                  subst eo29
                                  obtain ⟨ado29, fo29, _⟩ := Kd.at_string (Kd.R_reads' HO222.out).2.2 0 (by decide) (by rw [Ny220.out]; simp)
                                  cases fo29
                                  refine hK.out _ _ (HS0_) (fun hHeld => ?_)
                                  clear hK K
                                  refine norm_ (a' := ?_) ?_ ?_
                                  rotate_left
                                  · show Act.put _ (some 58) _ = _
                                    simp only [Act.put, List.setIfInBounds_toArray, List.set_cons_zero, List.set_cons_succ, i64_w, i32_w]
                                    rfl
                                  refine pure_ (i := 9) (N := some 61) (v := ?_) (a' := ?_) #[true, true, true, true, true, true, true, true, true, true, false, false, false] rfl rfl (any_of HT_.out (by kernel_rfl)) (fun _ _ _ h => h) (Or.inl ⟨by rfl, ?_⟩) ?_ ?_
                                  rotate_left
                                  · intro w'
                                    go_simp
                                    with_reducible rfl
                                  rotate_left
                                  · simp only [Act.put, List.setIfInBounds_toArray, List.set_cons_zero, List.set_cons_succ, i64_w, i32_w]
                                    rfl
                                  refine one_ (i := 10) (N := some 62) #[true, true, true, true, true, true, true, true, true, true, true, false, false] rfl rfl (one_of HT_.out (by kernel_rfl)) (by decide) (fun K hK => ?_)
                                  (have p223 : 0 ≤ ((ji18) : Int) := of_decide_eq_true (by first | (with_reducible assumption) | assumption); have q223 : (ji18) < (y220.length : Int) := of_decide_eq_true (by first | (with_reducible assumption) | assumption); obtain ⟨ad223, e223, hx223_0⟩ := Kd.at_string (Kd.R_reads' HO222.out).2.2 (ji18) p223 q223; obtain rfl : ado29 = ad223 := (by injection e223))
                                  refine value_ (w1 := ?_) (v := ?_) (by rfl) rfl ?_ ?_
                                  rotate_left 2
                                  · go_simp
                                    constructor
                                    · rfl
                                    · rfl
                                  clear hx223_0
                                  refine hK.out _ _ (hHeld) (fun hHeld => ?_)
                                  clear hK K
                                  refine norm_ (a' := ?_) ?_ ?_
                                  rotate_left
                                  · show Act.put _ (some 62) _ = _
                                    simp only [Act.put, List.setIfInBounds_toArray, List.set_cons_zero, List.set_cons_succ, i64_w, i32_w]
                                    rfl
                                  refine pure_ (i := 11) (N := some 63) (v := ?_) (a' := ?_) #[true, true, true, true, true, true, true, true, true, true, true, true, false] rfl rfl (any_of HT_.out (by kernel_rfl)) (fun _ _ _ h => h) (Or.inl ⟨by rfl, ?_⟩) ?_ ?_
                                  rotate_left
                                  · intro w'
                                    go_simp
                                    with_reducible rfl
                                  rotate_left
                                  · simp only [Act.put, List.setIfInBounds_toArray, List.set_cons_zero, List.set_cons_succ, i64_w, i32_w]
                                    rfl
                                  refine pure_ (i := 12) (N := some 4) (v := ?_) (a' := ?_) #[true, true, true, true, true, true, true, true, true, true, true, true, true] rfl rfl (any_of HT_.out (by kernel_rfl)) (fun _ _ _ h => h) (Or.inl ⟨by rfl, ?_⟩) ?_ ?_
                                  rotate_left
                                  · intro w'
                                    go_simp
                                    with_reducible rfl
                                  rotate_left
                                  · simp only [Act.put, List.setIfInBounds_toArray, List.set_cons_zero, List.set_cons_succ, i64_w, i32_w]
                                    rfl
                                  refine done_ (done_of HT_.out (by kernel_rfl)) ?_
                                  try go_wp2
                                  go_roundg kj6
                                  case measure => have := HK1.out; have := HJ6.out; omega
                                  case rel => exact ⟨((x4_1 ++ (rdOf ByteArray.empty y204 (ji14))) ++ (rdOf ByteArray.empty y220 (ji18))), (y216), (wrap64 (x6_1 + 1)), (by first | rfl | (simp; done) | (simp only [← hji14, ← hji18] <;> (first | rfl | (simp; done) | (simp [i64_w]; done))) | (simp [*]; done)), (by first | rfl | (simp; done) | (simp [i64_w]; done) | (simp [*]; done) | (simp [*, i64_w]; done) | (simp [*]; unfold wrap64; omega)), H', ⟨by have := HK1.out; have := HJ6.out; omega⟩, ⟨by (with_reducible repeat (first | apply Kd.R_alloc | apply Kd.R_drewN | apply Kd.R_drew)); exact Kd.R_mono HO_3.out (fun _ hk => trivial)⟩, ⟨by (with_reducible repeat (first | apply Kd.R_alloc | apply Kd.R_drewN | apply Kd.R_drew)); exact Kd.R_mono HO218.out (fun _ hk => trivial)⟩, ⟨by repeat (first | (with_reducible first | exact HB.out | apply below_alloc | apply pw_below_drewN | apply below_drew1 | refine below_set ?_ GE215.out) | exact HB.out)⟩⟩
                                · rw [if_neg c21] at H
                                  exact absurd H (by simp)
                              · rw [if_neg c20] at H
                                exact absurd H (by simp)
                            · rw [if_neg c19] at H
                              exact absurd H (by simp)
                          · rw [if_neg c17] at H
                            exact absurd H (by simp)
                        · rw [if_neg c16] at H
                          exact absurd H (by simp)
                      · rw [if_neg c15] at H
                        exact absurd H (by simp)
                    · rw [if_neg c13] at H
                      exact absurd H (by simp)
                  · rw [if_neg c12] at H
                    have c12b0 : ((wrap64 (Int.tmod (IntKind.u64.wrap (rd l0 x6_1)) 9)) == 0) = false := beq_eq_false_iff_ne.mpr c12
                    have c12b1 : ((wrap64 (Int.tmod (IntKind.u64.wrap (rd l0 x6_1)) 9)) != 0) = true := bne_iff_ne.mpr c12
                    by_cases c30 : (wrap64 (Int.tmod (IntKind.u64.wrap (rd l0 x6_1)) 9)) = 1
                    · rw [if_pos c30] at H
                      have c30b0 : ((wrap64 (Int.tmod (IntKind.u64.wrap (rd l0 x6_1)) 9)) == 1) = true := beq_iff_eq.mpr c30
                      have c30b1 : ((wrap64 (Int.tmod (IntKind.u64.wrap (rd l0 x6_1)) 9)) != 1) = false := bne_eq_false_iff_eq.mpr c30
                      clear c30
                      by_cases c31 : x5_1.length < 2932031007402
                      · rw [if_pos c31] at H
                        have LMc31 := Aside0.mk c31
                        clear c31
                        obtain ⟨y224, hy224⟩ : ∃ y_ : List (S33), y_ = (x5_1 ++ [(⟨wrap64 (0 + (wrap64 (Int.tmod (IntKind.u64.wrap (rd l0 x6_1)) 9))), (x4_1.size : Int), (⟨#[120, 92, 121]⟩ : ByteArray), 0, 0⟩ : S33)]) := ⟨_, rfl⟩
                        replace H : (if 0 ≤ (wrap64 (Int.tmod (IntKind.u64.wrap (rd l0 x6_1)) 9)) then (if (wrap64 (Int.tmod (IntKind.u64.wrap (rd l0 x6_1)) 9)) < (y204.length : Int) then (if x4_1.size + (rdOf ByteArray.empty y204 (wrap64 (Int.tmod (IntKind.u64.wrap (rd l0 x6_1)) 9))).size ≤ 9223372036854775807 then ((some (([(⟨#[32]⟩ : ByteArray), (⟨#[10]⟩ : ByteArray), (⟨#[35, 10]⟩ : ByteArray)] : List ByteArray) : List ByteArray)).bind fun y228 => (if 0 ≤ (Int.tmod x6_1 3) then (if (Int.tmod x6_1 3) < (y228.length : Int) then (if (x4_1 ++ (rdOf ByteArray.empty y204 (wrap64 (Int.tmod (IntKind.u64.wrap (rd l0 x6_1)) 9)))).size + (rdOf ByteArray.empty y228 (Int.tmod x6_1 3)).size ≤ 9223372036854775807 then (templelaw2_LexRows.l0 kj6 l0 y204 ((x4_1 ++ (rdOf ByteArray.empty y204 (wrap64 (Int.tmod (IntKind.u64.wrap (rd l0 x6_1)) 9)))) ++ (rdOf ByteArray.empty y228 (Int.tmod x6_1 3))) y224 (wrap64 (x6_1 + 1))) else (none)) else (none)) else (none))) else (none)) else (none)) else (none)) = some r := by first | (rw [hy224]; with_reducible exact H) | (have H2_ := (Option.bind_some _ _).symm.trans H; rw [hy224]; with_reducible exact H2_) | (have H2_ := (Option.bind_some _ _).symm.trans H; with_reducible exact H2_) | with_reducible exact H | (rw [hy224]; exact H) | exact H
                        have Ny224 := Aside0.mk hy224
                        clear hy224
                        obtain ⟨ji32, hji32⟩ : ∃ j_ : Int, (wrap64 (Int.tmod (IntKind.u64.wrap (rd l0 x6_1)) 9)) = j_ := ⟨_, rfl⟩
                        replace H : (if 0 ≤ (ji32) then (if (ji32) < (y204.length : Int) then (if x4_1.size + (rdOf ByteArray.empty y204 (ji32)).size ≤ 9223372036854775807 then ((some (([(⟨#[32]⟩ : ByteArray), (⟨#[10]⟩ : ByteArray), (⟨#[35, 10]⟩ : ByteArray)] : List ByteArray) : List ByteArray)).bind fun y228 => (if 0 ≤ (Int.tmod x6_1 3) then (if (Int.tmod x6_1 3) < (y228.length : Int) then (if (x4_1 ++ (rdOf ByteArray.empty y204 (ji32))).size + (rdOf ByteArray.empty y228 (Int.tmod x6_1 3)).size ≤ 9223372036854775807 then (templelaw2_LexRows.l0 kj6 l0 y204 ((x4_1 ++ (rdOf ByteArray.empty y204 (ji32))) ++ (rdOf ByteArray.empty y228 (Int.tmod x6_1 3))) y224 (wrap64 (x6_1 + 1))) else (none)) else (none)) else (none))) else (none)) else (none)) else (none)) = some r := by first | (rw [hji32] at H; exact H) | (simp only [hji32] at H ⊢; exact H)
                        (try rw [hji32] at c12b0)
                        (try rw [hji32] at c12b1)
                        (try rw [hji32] at c30b0)
                        (try rw [hji32] at c30b1)
                        (try rw [hji32] at Ny224)
                        (try simp only [Int.zero_add] at Ny224)
                        have hji32w : (IntKind.i64.wrap (Int.tmod (IntKind.u64.wrap (rd l0 x6_1)) 9)) = ji32 := (i64_w _).trans hji32
                        by_cases c33 : 0 ≤ (ji32)
                        · rw [if_pos c33] at H
                          have c33b0 : decide (0 ≤ (ji32)) = true := decide_eq_true c33
                          clear c33
                          by_cases c34 : (ji32) < (y204.length : Int)
                          · rw [if_pos c34] at H
                            have c34b0 : decide ((ji32) < (y204.length : Int)) = true := decide_eq_true c34
                            clear c34
                            by_cases c35 : x4_1.size + (rdOf ByteArray.empty y204 (ji32)).size ≤ 9223372036854775807
                            · rw [if_pos c35] at H
                              have c35b0 := eq_true c35
                              have c35b1 : decide (x4_1.size + (rdOf ByteArray.empty y204 (ji32)).size ≤ 9223372036854775807) = true := decide_eq_true c35
                              try have c35b2 : (9223372036854775807 < x4_1.size + (rdOf ByteArray.empty y204 (ji32)).size) = False := eq_false (Nat.not_lt.2 c35)
                              obtain ⟨y228, hy228⟩ : ∃ y_ : List ByteArray, y_ = (([(⟨#[32]⟩ : ByteArray), (⟨#[10]⟩ : ByteArray), (⟨#[35, 10]⟩ : ByteArray)] : List ByteArray)) := ⟨_, rfl⟩
                              replace H : (if 0 ≤ (Int.tmod x6_1 3) then (if (Int.tmod x6_1 3) < (y228.length : Int) then (if (x4_1 ++ (rdOf ByteArray.empty y204 (ji32))).size + (rdOf ByteArray.empty y228 (Int.tmod x6_1 3)).size ≤ 9223372036854775807 then (templelaw2_LexRows.l0 kj6 l0 y204 ((x4_1 ++ (rdOf ByteArray.empty y204 (ji32))) ++ (rdOf ByteArray.empty y228 (Int.tmod x6_1 3))) y224 (wrap64 (x6_1 + 1))) else (none)) else (none)) else (none)) = some r := by first | (rw [hy228]; with_reducible exact H) | (have H2_ := (Option.bind_some _ _).symm.trans H; rw [hy228]; with_reducible exact H2_) | (have H2_ := (Option.bind_some _ _).symm.trans H; with_reducible exact H2_) | with_reducible exact H | (rw [hy228]; exact H) | exact H
                              have Ny228 := Aside0.mk hy228
                              clear hy228
                              obtain ⟨ji36, hji36⟩ : ∃ j_ : Int, (Int.tmod x6_1 3) = j_ := ⟨_, rfl⟩
                              replace H : (if 0 ≤ (ji36) then (if (ji36) < (y228.length : Int) then (if (x4_1 ++ (rdOf ByteArray.empty y204 (ji32))).size + (rdOf ByteArray.empty y228 (ji36)).size ≤ 9223372036854775807 then (templelaw2_LexRows.l0 kj6 l0 y204 ((x4_1 ++ (rdOf ByteArray.empty y204 (ji32))) ++ (rdOf ByteArray.empty y228 (ji36))) y224 (wrap64 (x6_1 + 1))) else (none)) else (none)) else (none)) = some r := by first | (rw [hji36] at H; exact H) | (simp only [hji36] at H ⊢; exact H)
                              by_cases c37 : 0 ≤ (ji36)
                              · rw [if_pos c37] at H
                                have c37b0 : decide (0 ≤ (ji36)) = true := decide_eq_true c37
                                clear c37
                                by_cases c38 : (ji36) < (y228.length : Int)
                                · rw [if_pos c38] at H
                                  have c38b0 : decide ((ji36) < (y228.length : Int)) = true := decide_eq_true c38
                                  clear c38
                                  by_cases c39 : (x4_1 ++ (rdOf ByteArray.empty y204 (ji32))).size + (rdOf ByteArray.empty y228 (ji36)).size ≤ 9223372036854775807
                                  · rw [if_pos c39] at H
                                    have c39b0 := eq_true c39
                                    have c39b1 : decide ((x4_1 ++ (rdOf ByteArray.empty y204 (ji32))).size + (rdOf ByteArray.empty y228 (ji36)).size ≤ 9223372036854775807) = true := decide_eq_true c39
                                    try have c39b2 : (9223372036854775807 < (x4_1 ++ (rdOf ByteArray.empty y204 (ji32))).size + (rdOf ByteArray.empty y228 (ji36)).size) = False := eq_false (Nat.not_lt.2 c39)
                                    try have c39b3 : (9223372036854775807 < x4_1.size + (rdOf ByteArray.empty y204 (ji32)).size + (rdOf ByteArray.empty y228 (ji36)).size) = False := eq_false (by have q_ := c39; (try simp only [ByteArray.size_append, ByteArray.size_extract] at q_); omega)
                                    have H' := Aside0.mk H
                                    clear H
                                    have p214 : 0 ≤ (x6_1 : Int) := of_decide_eq_true (by first | (with_reducible assumption) | assumption)
                                    have q214 : x6_1 < (l0.length : Int) := of_decide_eq_true (by first | (with_reducible assumption) | assumption)
                                    obtain ⟨ad214, e214, hx214_0⟩ := Kd.at_int HR0.out x6_1 p214 q214
                                    cases e214
                                    replace hx214_0 := (HB.out.cell (World.block_lt_of_cell? w _ hx214_0)).trans hx214_0
                                    replace p214 := eq_true p214
                                    replace q214 := eq_true q214
                                    try go_wp2_with (first | ((with_reducible refine gate_dst (N := 8) rfl ?_); refine box_event ?hg (N := 8) ?hd (cs := #[.int .i64 0, .int .i64 0, .string (⟨#[]⟩ : ByteArray), .int .i64 0, .int .i64 0]) (t := 33) ?hr ?_; (case hd => rfl); (case hg => rfl); (case hr => first | (go_simp; done) | (go_simp; rfl)); intro gb215 hg w40 hbox hb; have n0_ := Aside0.mk (Kd.R_below (by (with_reducible repeat (first | apply Kd.R_alloc | apply Kd.R_drewN | apply Kd.R_drew)); exact HO_3.out) hb); have n1_ := Aside0.mk (Kd.R_below (Kd.R_elderB (by (with_reducible repeat (first | apply Kd.R_alloc | apply Kd.R_drewN | apply Kd.R_drew)); exact HO_5.out) gb215 (Nat.le_of_eq hg.symm)) hb); have n2_ := Aside0.mk (below_step (by repeat (first | (with_reducible first | exact HB.out | apply below_alloc | apply pw_below_drewN | apply below_drew1) | exact HB.out)) hb); have n3_ := Aside0.mk (hbox); have n4_ := Aside0.mk ((by rw [hg]; exact (below_size (by repeat (first | (with_reducible first | exact HB.out | apply below_alloc | apply pw_below_drewN | apply below_drew1) | exact HB.out))) : w.heap.size ≤ gb215)); have n5_ := Aside0.mk ((by rw [hg]; exact (below_size (by repeat (first | (with_reducible first | exact HB.out | apply below_alloc | apply pw_below_drewN | apply below_drew1) | exact HB.out))) : w.heap.size ≤ gb215)); clear HO_3; clear HO_5; clear HB; have HO_3 := n0_; have HO_5 := n1_; have HB := n2_; have BK215 := n3_; have GW215 := n4_; have GE215 := n5_; clear n0_ n1_ n2_ n3_ n4_ n5_; clear hb hbox hg; have hcz41_0 : w40.cell? ⟨gb215, 0, none⟩ = some (.int .i64 0) := (blk_cell BK215.out 0).trans rfl; have hcz41_1 : w40.cell? ⟨gb215, 1, none⟩ = some (.int .i64 0) := (blk_cell BK215.out 1).trans rfl; have hcz41_2 : w40.cell? ⟨gb215, 2, none⟩ = some (.string (⟨#[]⟩ : ByteArray)) := (blk_cell BK215.out 2).trans rfl; have hcz41_3 : w40.cell? ⟨gb215, 3, none⟩ = some (.int .i64 0) := (blk_cell BK215.out 3).trans rfl; have hcz41_4 : w40.cell? ⟨gb215, 4, none⟩ = some (.int .i64 0) := (blk_cell BK215.out 4).trans rfl; have hcw_2 : ((((((w40.setCell ⟨gb215, 0, none⟩ (.int .i64 (wrap64 (ji32)))).setCell ⟨gb215, 1, none⟩ (.int .i64 (x4_1.size : Int))).setCell ⟨gb215, 2, none⟩ (.string (⟨#[]⟩ : ByteArray))).setCell ⟨gb215, 3, none⟩ (.int .i64 0)).setCell ⟨gb215, 4, none⟩ (.int .i64 0)).setCell ⟨gb215, 2, none⟩ (.string (⟨#[120, 92, 121]⟩ : ByteArray))).cell? ⟨gb215, 2, none⟩ = some (.string (⟨#[120, 92, 121]⟩ : ByteArray)) := (World.cell?_setCell_same _ _ _ ((World.cell?_setCell_other _ _ _ _ (by simp)).trans ((World.cell?_setCell_other _ _ _ _ (by simp)).trans (World.cell?_setCell_same _ _ _ ((World.cell?_setCell_other _ _ _ _ (by simp)).trans ((World.cell?_setCell_other _ _ _ _ (by simp)).trans hcz41_2)))))); have hfz41_0 := blk_frozen BK215.out 0; have hfz41_1 := blk_frozen BK215.out 1; have hfz41_2 := blk_frozen BK215.out 2; have hfz41_3 := blk_frozen BK215.out 3; have hfz41_4 := blk_frozen BK215.out 4) | ((with_reducible refine gate_builtin (b := .append) (xs := #[.tmp 48, .tmp 50]) rfl ?_); at_builtin; refine Kd.R_append k33 (w0 := w) w.heap.size rfl (.tmp 48) (.tmp 50) 22 33 (.agg #[(.int .i64 0), (.int .i64 0), (.string ⟨#[]⟩), (.int .i64 0), (.int .i64 0)]) 48 rfl Try.underlying22 info33 rfl (by decide) (by omega) u5 x5_1 (⟨wrap64 (ji32), (x4_1.size : Int), (⟨#[120, 92, 121]⟩ : ByteArray), 0, 0⟩ : S33) [.int .i64 (wrap64 (ji32)), .int .i64 (x4_1.size : Int), .string (⟨#[120, 92, 121]⟩ : ByteArray), .int .i64 0, .int .i64 0] (fun k_ => k_ ≠ gb215) (fun _ => False) rfl (by first | (go_simp; done) | (go_simp; rfl)) ?aP (fun _ hk => hk.elim) ?aF ?aO ?aB ?aS ?aL ?_; (case aP => exact k33_mkM _ _ _ (⟨wrap64 (ji32), (x4_1.size : Int), (⟨#[120, 92, 121]⟩ : ByteArray), 0, 0⟩ : S33)); (case aB => exact (by repeat (first | (with_reducible first | exact HB.out | apply below_alloc | apply pw_below_drewN | apply below_drew1 | refine below_set ?_ GE215.out) | exact HB.out))); (case aF => exact (fun k_ hk => Kd.freshB (g := gb215) (o := .cells #[.int .i64 (wrap64 (ji32)), .int .i64 (x4_1.size : Int), .string (⟨#[120, 92, 121]⟩ : ByteArray), .int .i64 0, .int .i64 0] 33 (0, 0)) (by (with_reducible repeat (first | refine blk_drewN ?_ _ | refine blk_drew ?_ | refine blk_alloc ?_ _)); refine blk_put (cs := #[.int .i64 (wrap64 (ji32)), .int .i64 (x4_1.size : Int), .string (⟨#[]⟩ : ByteArray), .int .i64 0, .int .i64 0]) ?_ 2 _ rfl; (with_reducible repeat (first | refine blk_drewN ?_ _ | refine blk_drew ?_ | refine blk_alloc ?_ _)); refine blk_put (cs := #[.int .i64 (wrap64 (ji32)), .int .i64 (x4_1.size : Int), .string (⟨#[]⟩ : ByteArray), .int .i64 0, .int .i64 0]) ?_ 4 _ rfl; (with_reducible repeat (first | refine blk_drewN ?_ _ | refine blk_drew ?_ | refine blk_alloc ?_ _)); refine blk_put (cs := #[.int .i64 (wrap64 (ji32)), .int .i64 (x4_1.size : Int), .string (⟨#[]⟩ : ByteArray), .int .i64 0, .int .i64 0]) ?_ 3 _ rfl; (with_reducible repeat (first | refine blk_drewN ?_ _ | refine blk_drew ?_ | refine blk_alloc ?_ _)); refine blk_put (cs := #[.int .i64 (wrap64 (ji32)), .int .i64 (x4_1.size : Int), .string (⟨#[]⟩ : ByteArray), .int .i64 0, .int .i64 0]) ?_ 2 _ rfl; (with_reducible repeat (first | refine blk_drewN ?_ _ | refine blk_drew ?_ | refine blk_alloc ?_ _)); refine blk_put (cs := #[.int .i64 (wrap64 (ji32)), .int .i64 0, .string (⟨#[]⟩ : ByteArray), .int .i64 0, .int .i64 0]) ?_ 1 _ rfl; (with_reducible repeat (first | refine blk_drewN ?_ _ | refine blk_drew ?_ | refine blk_alloc ?_ _)); refine blk_put (cs := #[.int .i64 0, .int .i64 0, .string (⟨#[]⟩ : ByteArray), .int .i64 0, .int .i64 0]) ?_ 0 _ rfl; (with_reducible repeat (first | refine blk_drewN ?_ _ | refine blk_drew ?_ | refine blk_alloc ?_ _)); exact BK215.out) k_ hk)); (case aO => exact (by (with_reducible repeat (first | apply Kd.R_alloc | apply Kd.R_drewN | apply Kd.R_drew)); exact Kd.R_mono (Kd.R_far (p := ⟨gb215, 2, none⟩) (Kd.R_far (p := ⟨gb215, 4, none⟩) (Kd.R_far (p := ⟨gb215, 3, none⟩) (Kd.R_far (p := ⟨gb215, 2, none⟩) (Kd.R_far (p := ⟨gb215, 1, none⟩) (Kd.R_far (p := ⟨gb215, 0, none⟩) (Kd.R_mono HO_5.out (fun k_ hk => (⟨hk, hk.2⟩ : _ ∧ k_ ≠ gb215))) (fun _ hk => hk.2) (.int .i64 (wrap64 (ji32)))) (fun _ hk => hk.2) (.int .i64 (x4_1.size : Int))) (fun _ hk => hk.2) (.string (⟨#[]⟩ : ByteArray))) (fun _ hk => hk.2) (.int .i64 0)) (fun _ hk => hk.2) (.int .i64 0)) (fun _ hk => hk.2) (.string (⟨#[120, 92, 121]⟩ : ByteArray))) (fun _ hk => hk.1.2))); (case aS => exact (below_size (by repeat (first | (with_reducible first | exact HB.out | apply below_alloc | apply pw_below_drewN | apply below_drew1 | refine below_set ?_ GE215.out) | exact HB.out)))); (case aL => have := LMc31.out; omega); intro v225 w42 ho hb hg hat; rw [← Ny224.out] at ho; have n0_ := Aside0.mk (Kd.R_over' (by (with_reducible repeat (first | apply Kd.R_alloc | apply Kd.R_drewN | apply Kd.R_drew)); exact (Kd.R_mono (Kd.R_far (p := ⟨gb215, 2, none⟩) (Kd.R_far (p := ⟨gb215, 4, none⟩) (Kd.R_far (p := ⟨gb215, 3, none⟩) (Kd.R_far (p := ⟨gb215, 2, none⟩) (Kd.R_far (p := ⟨gb215, 1, none⟩) (Kd.R_far (p := ⟨gb215, 0, none⟩) (Kd.R_types HO_3.out BK215.out (by decide)) (fun _ hk => hk.2) (.int .i64 (wrap64 (ji32)))) (fun _ hk => hk.2) (.int .i64 (x4_1.size : Int))) (fun _ hk => hk.2) (.string (⟨#[]⟩ : ByteArray))) (fun _ hk => hk.2) (.int .i64 0)) (fun _ hk => hk.2) (.int .i64 0)) (fun _ hk => hk.2) (.string (⟨#[120, 92, 121]⟩ : ByteArray))) (fun _ h_ => h_.1))) (Kd.R_typed (by (with_reducible repeat (first | apply Kd.R_alloc | apply Kd.R_drewN | apply Kd.R_drew)); exact (Kd.R_mono (Kd.R_far (p := ⟨gb215, 2, none⟩) (Kd.R_far (p := ⟨gb215, 4, none⟩) (Kd.R_far (p := ⟨gb215, 3, none⟩) (Kd.R_far (p := ⟨gb215, 2, none⟩) (Kd.R_far (p := ⟨gb215, 1, none⟩) (Kd.R_far (p := ⟨gb215, 0, none⟩) (Kd.R_mono HO_5.out (fun k_ hk => (⟨hk, hk.2⟩ : _ ∧ k_ ≠ gb215))) (fun _ hk => hk.2) (.int .i64 (wrap64 (ji32)))) (fun _ hk => hk.2) (.int .i64 (x4_1.size : Int))) (fun _ hk => hk.2) (.string (⟨#[]⟩ : ByteArray))) (fun _ hk => hk.2) (.int .i64 0)) (fun _ hk => hk.2) (.int .i64 0)) (fun _ hk => hk.2) (.string (⟨#[120, 92, 121]⟩ : ByteArray))) (fun _ h_ => h_.1)))) (by decide) hg); have n1_ := Aside0.mk (blk_grown (g := gb215) (o := .cells #[.int .i64 (wrap64 (ji32)), .int .i64 (x4_1.size : Int), .string (⟨#[120, 92, 121]⟩ : ByteArray), .int .i64 0, .int .i64 0] 33 (0, 0)) (by (with_reducible repeat (first | refine blk_drewN ?_ _ | refine blk_drew ?_ | refine blk_alloc ?_ _)); refine blk_put (cs := #[.int .i64 (wrap64 (ji32)), .int .i64 (x4_1.size : Int), .string (⟨#[]⟩ : ByteArray), .int .i64 0, .int .i64 0]) ?_ 2 _ rfl; (with_reducible repeat (first | refine blk_drewN ?_ _ | refine blk_drew ?_ | refine blk_alloc ?_ _)); refine blk_put (cs := #[.int .i64 (wrap64 (ji32)), .int .i64 (x4_1.size : Int), .string (⟨#[]⟩ : ByteArray), .int .i64 0, .int .i64 0]) ?_ 4 _ rfl; (with_reducible repeat (first | refine blk_drewN ?_ _ | refine blk_drew ?_ | refine blk_alloc ?_ _)); refine blk_put (cs := #[.int .i64 (wrap64 (ji32)), .int .i64 (x4_1.size : Int), .string (⟨#[]⟩ : ByteArray), .int .i64 0, .int .i64 0]) ?_ 3 _ rfl; (with_reducible repeat (first | refine blk_drewN ?_ _ | refine blk_drew ?_ | refine blk_alloc ?_ _)); refine blk_put (cs := #[.int .i64 (wrap64 (ji32)), .int .i64 (x4_1.size : Int), .string (⟨#[]⟩ : ByteArray), .int .i64 0, .int .i64 0]) ?_ 2 _ rfl; (with_reducible repeat (first | refine blk_drewN ?_ _ | refine blk_drew ?_ | refine blk_alloc ?_ _)); refine blk_put (cs := #[.int .i64 (wrap64 (ji32)), .int .i64 0, .string (⟨#[]⟩ : ByteArray), .int .i64 0, .int .i64 0]) ?_ 1 _ rfl; (with_reducible repeat (first | refine blk_drewN ?_ _ | refine blk_drew ?_ | refine blk_alloc ?_ _)); refine blk_put (cs := #[.int .i64 0, .int .i64 0, .string (⟨#[]⟩ : ByteArray), .int .i64 0, .int .i64 0]) ?_ 0 _ rfl; (with_reducible repeat (first | refine blk_drewN ?_ _ | refine blk_drew ?_ | refine blk_alloc ?_ _)); exact BK215.out) hg (Kd.R_away HO_5.out (fun _ hk => hk.2))); have n2_ := Aside0.mk (hb); have n3_ := Aside0.mk (ho); clear HO_3; clear BK215; clear HB; clear HO_5; have HO_3 := n0_; have BK215 := n1_; have HB := n2_; have HO226 := n3_; clear n0_ n1_ n2_ n3_; clear ho hb hg hat))
                                    have pi231 : (0 ≤ ((ji36) : Int)) = True := eq_true (of_decide_eq_true (by first | (with_reducible assumption) | assumption))
                                    have qi231 : ((ji36) < (y228.length : Int)) = True := eq_true (of_decide_eq_true (by first | (with_reducible assumption) | assumption))
                                    have n0_ := Aside0.mk (Kd.R_drew HO_3.out)
                                    have n1_ := Aside0.mk (Kd.R_drew HO226.out)
                                    have n2_ := Aside0.mk (blk_drew BK215.out)
                                    have n3_ := Aside0.mk (below_drew1 HB.out)
                                    clear HO_3
                                    clear HO226
                                    clear BK215
                                    clear HB
                                    have HO_3 := n0_
                                    have HO226 := n1_
                                    have BK215 := n2_
                                    have HB := n3_
                                    clear n0_ n1_ n2_ n3_
                                    obtain ⟨Ao44, co44, eo44⟩ := Kd.R_slice HO_3.out
                                    (first | subst eo44 | (injection eo44 with f1_ f2_ f3_; have f4_ := f1_.symm; have f5_ := f3_.symm; clear f1_ f2_ f3_; subst f4_; subst f5_))
                                    have p227 : 0 ≤ ((ji32) : Int) := of_decide_eq_true (by first | (with_reducible assumption) | assumption)
                                    have q227 : (ji32) < (y204.length : Int) := of_decide_eq_true (by first | (with_reducible assumption) | assumption)
                                    obtain ⟨ad227, e227, hx227_0⟩ := Kd.at_string (Kd.R_reads' HO_3.out).2.2 (ji32) p227 q227
                                    cases e227
                                    replace p227 := eq_true p227
                                    replace q227 := eq_true q227
                                    refine start_ (n := 13) (S := fun w' => w'.cell? (ad227.add ((ji32)).toNat) = some (.string (rdOf ByteArray.empty y204 (ji32)))) (ds := []) #[false, false, false, false, false, false, false, false, false, false, false, false, false] (by kernel_rfl) rfl rfl (hx227_0) (fun hHeld => ?_); refine with_tabW templelaw2_LexRows.tab20 templelaw2_LexRows.bits20 (fun HT_ HW_ => ?_)
                                    generalize w42.drew = w43 at HO_3 HO226 BK215 HB hx227_0 hHeld ⊢
                                    refine pure_ (i := 0) (N := some 52) (v := ?_) (a' := ?_) #[true, false, false, false, false, false, false, false, false, false, false, false, false] rfl rfl (any_of HT_.out (by kernel_rfl)) (fun _ _ _ h => h) (Or.inl ⟨by rfl, ?_⟩) ?_ ?_
                                    rotate_left
                                    · intro w'
                                      go_simp
                                      with_reducible rfl
                                    rotate_left
                                    · simp only [Act.put, List.setIfInBounds_toArray, List.set_cons_zero, List.set_cons_succ, i64_w, i32_w]
                                      rfl
                                    refine pure_ (i := 1) (N := some 53) (v := ?_) (a' := ?_) #[true, true, false, false, false, false, false, false, false, false, false, false, false] rfl rfl (any_of HT_.out (by kernel_rfl)) (fun _ _ _ h => h) (Or.inl ⟨by rfl, ?_⟩) ?_ ?_
                                    rotate_left
                                    · intro w'
                                      go_simp
                                      with_reducible rfl
                                    rotate_left
                                    · simp only [Act.put, List.setIfInBounds_toArray, List.set_cons_zero, List.set_cons_succ, i64_w, i32_w]
                                      rfl
                                    refine pure_ (i := 2) (N := some 54) (v := ?_) (a' := ?_) #[true, true, true, false, false, false, false, false, false, false, false, false, false] rfl rfl (any_of HT_.out (by kernel_rfl)) (fun _ _ _ h => h) (Or.inl ⟨by rfl, ?_⟩) ?_ ?_
                                    rotate_left
                                    · intro w'
                                      go_simp
                                      with_reducible rfl
                                    rotate_left
                                    · simp only [Act.put, List.setIfInBounds_toArray, List.set_cons_zero, List.set_cons_succ, i64_w, i32_w]
                                      rfl
                                    refine pure_ (i := 3) (N := some 55) (v := ?_) (a' := ?_) #[true, true, true, true, false, false, false, false, false, false, false, false, false] rfl rfl (any_of HT_.out (by kernel_rfl)) (fun _ _ _ h => h) (Or.inl ⟨by rfl, ?_⟩) ?_ ?_
                                    rotate_left
                                    · intro w'
                                      go_simp
                                      with_reducible rfl
                                    rotate_left
                                    · simp only [Act.put, List.setIfInBounds_toArray, List.set_cons_zero, List.set_cons_succ, i64_w, i32_w]
                                      rfl
                                    refine pure_ (i := 7) (N := some 59) (v := ?_) (a' := ?_) #[true, true, true, true, false, false, false, true, false, false, false, false, false] rfl rfl (any_of HT_.out (by kernel_rfl)) (fun _ _ _ h => h) (Or.inl ⟨by rfl, ?_⟩) ?_ ?_
                                    rotate_left
                                    · intro w'
                                      go_simp
                                      with_reducible rfl
                                    rotate_left
                                    · simp only [Act.put, List.setIfInBounds_toArray, List.set_cons_zero, List.set_cons_succ, i64_w, i32_w]
                                      rfl
                                    refine pure_ (i := 8) (N := some 60) (v := ?_) (a' := ?_) #[true, true, true, true, false, false, false, true, true, false, false, false, false] rfl rfl (any_of HT_.out (by kernel_rfl)) (fun _ _ _ h => h) (Or.inl ⟨by rfl, ?_⟩) ?_ ?_
                                    rotate_left
                                    · intro w'
                                      go_simp
                                      with_reducible rfl
                                    rotate_left
                                    · simp only [Act.put, List.setIfInBounds_toArray, List.set_cons_zero, List.set_cons_succ, i64_w, i32_w]
                                      rfl
                                    refine take_ (i := 4) (N := some 56) (v := ?_) (a' := ?_) #[true, true, true, true, true, false, false, true, true, false, false, false, false] rfl rfl (take_ofW HT_.out HW_.out (by kernel_rfl)) (fun _ _ _ h => h) (Or.inl ⟨by rfl, ?_⟩) hHeld ?_ ?_
                                    rotate_left
                                    · intro w' s0
                                      go_simp
                                      with_reducible rfl
                                    rotate_left
                                    · simp only [Act.put, List.setIfInBounds_toArray, List.set_cons_zero, List.set_cons_succ, i64_w, i32_w]
                                      rfl
                                    refine pure_ (i := 5) (N := some 57) (v := ?_) (a' := ?_) #[true, true, true, true, true, true, false, true, true, false, false, false, false] rfl rfl (any_of HT_.out (by kernel_rfl)) (fun _ _ _ h => h) (Or.inl ⟨by rfl, ?_⟩) ?_ ?_
                                    rotate_left
                                    · intro w'
                                      go_simp
                                      with_reducible rfl
                                    rotate_left
                                    · simp only [Act.put, List.setIfInBounds_toArray, List.set_cons_zero, List.set_cons_succ, i64_w, i32_w]
                                      rfl
                                    refine one_ (i := 6) (N := some 58) #[true, true, true, true, true, true, true, true, true, false, false, false, false] rfl rfl (one_of HT_.out (by kernel_rfl)) (by decide) (fun K hK => ?_)
                                    refine Kd.R_lit_step Kd.string _ 9 ?hg (N := 58) ?hd (xs := ([(⟨#[32]⟩ : ByteArray), (⟨#[10]⟩ : ByteArray), (⟨#[35, 10]⟩ : ByteArray)] : List ByteArray)) (inner := [.string (⟨#[32]⟩ : ByteArray), .string (⟨#[10]⟩ : ByteArray), .string (⟨#[35, 10]⟩ : ByteArray)]) (ok := fun _ => True) (okp := fun _ => True) ?hr ?hp (fun _ hk => hk) trivial (Below.refl _ _) (Nat.le_refl _) (by simp) ?_; (case hd => rfl); (case hg => rfl); (case hr => first | (go_simp; done) | (go_simp; rfl)); (case hp => exact (Reps.one (show Kd.M Kd.string _ _ _ (⟨#[32]⟩ : ByteArray) [.string (⟨#[32]⟩ : ByteArray)] from rfl) (Reps.one (show Kd.M Kd.string _ _ _ (⟨#[10]⟩ : ByteArray) [.string (⟨#[10]⟩ : ByteArray)] from rfl) (Reps.one (show Kd.M Kd.string _ _ _ (⟨#[35, 10]⟩ : ByteArray) [.string (⟨#[35, 10]⟩ : ByteArray)] from rfl) (Reps.none _ _)))))
                                    intro v229 w45 ho46 hb hg_ hnew_
                                    have HS0_ := (hb.cell (World.block_lt_of_cell? _ _ (hHeld))).trans (hHeld)
                                    clear hg_ hnew_
                                    (first | rw [← Ny228.out] at ho46 | (simp only [Int.reduceToNat] at ho46; rw [← Ny228.out] at ho46))
                                    have n0_ := Aside0.mk (Kd.R_elder' (by (with_reducible repeat (first | apply Kd.R_alloc | apply Kd.R_drewN | apply Kd.R_drew)); exact HO_3.out) (Kd.R_base ho46) hb)
                                    have n1_ := Aside0.mk (Kd.R_below (by (with_reducible repeat (first | apply Kd.R_alloc | apply Kd.R_drewN | apply Kd.R_drew)); exact HO226.out) hb)
                                    have n2_ := Aside0.mk (Kd.R_lower (Kd.R_new' ho46 (Kd.R_lt (by (with_reducible repeat (first | apply Kd.R_alloc | apply Kd.R_drewN | apply Kd.R_drew)); exact HO_3.out))) (below_size (by repeat (first | (with_reducible first | exact HB.out | apply below_alloc | apply pw_below_drewN | apply below_drew1 | refine below_set ?_ GE215.out) | exact HB.out))))
                                    have n3_ := Aside0.mk (blk_below (g := gb215) (o := .cells #[.int .i64 (wrap64 (ji32)), .int .i64 (x4_1.size : Int), .string (⟨#[120, 92, 121]⟩ : ByteArray), .int .i64 0, .int .i64 0] 33 (0, 0)) (by (with_reducible repeat (first | refine blk_drewN ?_ _ | refine blk_drew ?_ | refine blk_alloc ?_ _)); exact BK215.out) hb)
                                    have n4_ := Aside0.mk (below_step (by repeat (first | (with_reducible first | exact HB.out | apply below_alloc | apply pw_below_drewN | apply below_drew1 | refine below_set ?_ GE215.out) | exact HB.out)) hb)
                                    clear HO_3
                                    clear HO226
                                    clear BK215
                                    clear HB
                                    have HO_3 := n0_
                                    have HO226 := n1_
                                    have HO230 := n2_
                                    have BK215 := n3_
                                    have HB := n4_
                                    clear n0_ n1_ n2_ n3_ n4_
                                    clear hb ho46
                                    obtain ⟨Ao47, co47, eo47⟩ := Kd.R_slice HO230.out
                                    subst eo47
                                    obtain ⟨ado47, fo47, _⟩ := Kd.at_string (Kd.R_reads' HO230.out).2.2 0 (by decide) (by rw [Ny228.out]; simp)
                                    cases fo47
                                    refine hK.out _ _ (HS0_) (fun hHeld => ?_)
                                    clear hK K
                                    refine norm_ (a' := ?_) ?_ ?_
                                    rotate_left
                                    · show Act.put _ (some 58) _ = _
                                      simp only [Act.put, List.setIfInBounds_toArray, List.set_cons_zero, List.set_cons_succ, i64_w, i32_w]
                                      rfl
                                    refine pure_ (i := 9) (N := some 61) (v := ?_) (a' := ?_) #[true, true, true, true, true, true, true, true, true, true, false, false, false] rfl rfl (any_of HT_.out (by kernel_rfl)) (fun _ _ _ h => h) (Or.inl ⟨by rfl, ?_⟩) ?_ ?_
                                    rotate_left
                                    · intro w'
                                      go_simp
                                      with_reducible rfl
                                    rotate_left
                                    · simp only [Act.put, List.setIfInBounds_toArray, List.set_cons_zero, List.set_cons_succ, i64_w, i32_w]
                                      rfl
                                    refine one_ (i := 10) (N := some 62) #[true, true, true, true, true, true, true, true, true, true, true, false, false] rfl rfl (one_of HT_.out (by kernel_rfl)) (by decide) (fun K hK => ?_)
                                    (have p231 : 0 ≤ ((ji36) : Int) := of_decide_eq_true (by first | (with_reducible assumption) | assumption); have q231 : (ji36) < (y228.length : Int) := of_decide_eq_true (by first | (with_reducible assumption) | assumption); obtain ⟨ad231, e231, hx231_0⟩ := Kd.at_string (Kd.R_reads' HO230.out).2.2 (ji36) p231 q231; obtain rfl : ado47 = ad231 := (by injection e231))
                                    refine value_ (w1 := ?_) (v := ?_) (by rfl) rfl ?_ ?_
                                    rotate_left 2
                                    · go_simp
                                      constructor
                                      · rfl
                                      · rfl
                                    clear hx231_0
                                    refine hK.out _ _ (hHeld) (fun hHeld => ?_)
                                    clear hK K
                                    refine norm_ (a' := ?_) ?_ ?_
                                    rotate_left
                                    · show Act.put _ (some 62) _ = _
                                      simp only [Act.put, List.setIfInBounds_toArray, List.set_cons_zero, List.set_cons_succ, i64_w, i32_w]
                                      rfl
                                    refine pure_ (i := 11) (N := some 63) (v := ?_) (a' := ?_) #[true, true, true, true, true, true, true, true, true, true, true, true, false] rfl rfl (any_of HT_.out (by kernel_rfl)) (fun _ _ _ h => h) (Or.inl ⟨by rfl, ?_⟩) ?_ ?_
                                    rotate_left
                                    · intro w'
                                      go_simp
                                      with_reducible rfl
                                    rotate_left
                                    · simp only [Act.put, List.setIfInBounds_toArray, List.set_cons_zero, List.set_cons_succ, i64_w, i32_w]
                                      rfl
                                    refine pure_ (i := 12) (N := some 4) (v := ?_) (a' := ?_) #[true, true, true, true, true, true, true, true, true, true, true, true, true] rfl rfl (any_of HT_.out (by kernel_rfl)) (fun _ _ _ h => h) (Or.inl ⟨by rfl, ?_⟩) ?_ ?_
                                    rotate_left
                                    · intro w'
                                      go_simp
                                      with_reducible rfl
                                    rotate_left
                                    · simp only [Act.put, List.setIfInBounds_toArray, List.set_cons_zero, List.set_cons_succ, i64_w, i32_w]
                                      rfl
                                    refine done_ (done_of HT_.out (by kernel_rfl)) ?_
                                    try go_wp2
                                    go_roundg kj6
                                    case measure => have := HK1.out; have := HJ6.out; omega
                                    case rel => exact ⟨((x4_1 ++ (rdOf ByteArray.empty y204 (ji32))) ++ (rdOf ByteArray.empty y228 (ji36))), (y224), (wrap64 (x6_1 + 1)), (by first | rfl | (simp; done) | (simp only [← hji32, ← hji36] <;> (first | rfl | (simp; done) | (simp [i64_w]; done))) | (simp [*]; done)), (by first | rfl | (simp; done) | (simp [i64_w]; done) | (simp [*]; done) | (simp [*, i64_w]; done) | (simp [*]; unfold wrap64; omega)), H', ⟨by have := HK1.out; have := HJ6.out; omega⟩, ⟨by (with_reducible repeat (first | apply Kd.R_alloc | apply Kd.R_drewN | apply Kd.R_drew)); exact Kd.R_mono HO_3.out (fun _ hk => trivial)⟩, ⟨by (with_reducible repeat (first | apply Kd.R_alloc | apply Kd.R_drewN | apply Kd.R_drew)); exact Kd.R_mono HO226.out (fun _ hk => trivial)⟩, ⟨by repeat (first | (with_reducible first | exact HB.out | apply below_alloc | apply pw_below_drewN | apply below_drew1 | refine below_set ?_ GE215.out) | exact HB.out)⟩⟩
                                  · rw [if_neg c39] at H
                                    exact absurd H (by simp)
                                · rw [if_neg c38] at H
                                  exact absurd H (by simp)
                              · rw [if_neg c37] at H
                                exact absurd H (by simp)
                            · rw [if_neg c35] at H
                              exact absurd H (by simp)
                          · rw [if_neg c34] at H
                            exact absurd H (by simp)
                        · rw [if_neg c33] at H
                          exact absurd H (by simp)
                      · rw [if_neg c31] at H
                        exact absurd H (by simp)
                    · rw [if_neg c30] at H
                      have c30b0 : ((wrap64 (Int.tmod (IntKind.u64.wrap (rd l0 x6_1)) 9)) == 1) = false := beq_eq_false_iff_ne.mpr c30
                      have c30b1 : ((wrap64 (Int.tmod (IntKind.u64.wrap (rd l0 x6_1)) 9)) != 1) = true := bne_iff_ne.mpr c30
                      by_cases c48 : (wrap64 (Int.tmod (IntKind.u64.wrap (rd l0 x6_1)) 9)) = 2
                      · rw [if_pos c48] at H
                        have c48b0 : ((wrap64 (Int.tmod (IntKind.u64.wrap (rd l0 x6_1)) 9)) == 2) = true := beq_iff_eq.mpr c48
                        have c48b1 : ((wrap64 (Int.tmod (IntKind.u64.wrap (rd l0 x6_1)) 9)) != 2) = false := bne_eq_false_iff_eq.mpr c48
                        clear c48
                        by_cases c49 : x5_1.length < 2932031007402
                        · rw [if_pos c49] at H
                          have LMc49 := Aside0.mk c49
                          clear c49
                          obtain ⟨y232, hy232⟩ : ∃ y_ : List (S33), y_ = (x5_1 ++ [(⟨wrap64 (0 + (wrap64 (Int.tmod (IntKind.u64.wrap (rd l0 x6_1)) 9))), (x4_1.size : Int), (⟨#[]⟩ : ByteArray), 97, 127⟩ : S33)]) := ⟨_, rfl⟩
                          replace H : (if 0 ≤ (wrap64 (Int.tmod (IntKind.u64.wrap (rd l0 x6_1)) 9)) then (if (wrap64 (Int.tmod (IntKind.u64.wrap (rd l0 x6_1)) 9)) < (y204.length : Int) then (if x4_1.size + (rdOf ByteArray.empty y204 (wrap64 (Int.tmod (IntKind.u64.wrap (rd l0 x6_1)) 9))).size ≤ 9223372036854775807 then ((some (([(⟨#[32]⟩ : ByteArray), (⟨#[10]⟩ : ByteArray), (⟨#[35, 10]⟩ : ByteArray)] : List ByteArray) : List ByteArray)).bind fun y236 => (if 0 ≤ (Int.tmod x6_1 3) then (if (Int.tmod x6_1 3) < (y236.length : Int) then (if (x4_1 ++ (rdOf ByteArray.empty y204 (wrap64 (Int.tmod (IntKind.u64.wrap (rd l0 x6_1)) 9)))).size + (rdOf ByteArray.empty y236 (Int.tmod x6_1 3)).size ≤ 9223372036854775807 then (templelaw2_LexRows.l0 kj6 l0 y204 ((x4_1 ++ (rdOf ByteArray.empty y204 (wrap64 (Int.tmod (IntKind.u64.wrap (rd l0 x6_1)) 9)))) ++ (rdOf ByteArray.empty y236 (Int.tmod x6_1 3))) y232 (wrap64 (x6_1 + 1))) else (none)) else (none)) else (none))) else (none)) else (none)) else (none)) = some r := by first | (rw [hy232]; with_reducible exact H) | (have H2_ := (Option.bind_some _ _).symm.trans H; rw [hy232]; with_reducible exact H2_) | (have H2_ := (Option.bind_some _ _).symm.trans H; with_reducible exact H2_) | with_reducible exact H | (rw [hy232]; exact H) | exact H
                          have Ny232 := Aside0.mk hy232
                          clear hy232
                          obtain ⟨ji50, hji50⟩ : ∃ j_ : Int, (wrap64 (Int.tmod (IntKind.u64.wrap (rd l0 x6_1)) 9)) = j_ := ⟨_, rfl⟩
                          replace H : (if 0 ≤ (ji50) then (if (ji50) < (y204.length : Int) then (if x4_1.size + (rdOf ByteArray.empty y204 (ji50)).size ≤ 9223372036854775807 then ((some (([(⟨#[32]⟩ : ByteArray), (⟨#[10]⟩ : ByteArray), (⟨#[35, 10]⟩ : ByteArray)] : List ByteArray) : List ByteArray)).bind fun y236 => (if 0 ≤ (Int.tmod x6_1 3) then (if (Int.tmod x6_1 3) < (y236.length : Int) then (if (x4_1 ++ (rdOf ByteArray.empty y204 (ji50))).size + (rdOf ByteArray.empty y236 (Int.tmod x6_1 3)).size ≤ 9223372036854775807 then (templelaw2_LexRows.l0 kj6 l0 y204 ((x4_1 ++ (rdOf ByteArray.empty y204 (ji50))) ++ (rdOf ByteArray.empty y236 (Int.tmod x6_1 3))) y232 (wrap64 (x6_1 + 1))) else (none)) else (none)) else (none))) else (none)) else (none)) else (none)) = some r := by first | (rw [hji50] at H; exact H) | (simp only [hji50] at H ⊢; exact H)
                          (try rw [hji50] at c12b0)
                          (try rw [hji50] at c12b1)
                          (try rw [hji50] at c30b0)
                          (try rw [hji50] at c30b1)
                          (try rw [hji50] at c48b0)
                          (try rw [hji50] at c48b1)
                          (try rw [hji50] at Ny232)
                          (try simp only [Int.zero_add] at Ny232)
                          have hji50w : (IntKind.i64.wrap (Int.tmod (IntKind.u64.wrap (rd l0 x6_1)) 9)) = ji50 := (i64_w _).trans hji50
                          by_cases c51 : 0 ≤ (ji50)
                          · rw [if_pos c51] at H
                            have c51b0 : decide (0 ≤ (ji50)) = true := decide_eq_true c51
                            clear c51
                            by_cases c52 : (ji50) < (y204.length : Int)
                            · rw [if_pos c52] at H
                              have c52b0 : decide ((ji50) < (y204.length : Int)) = true := decide_eq_true c52
                              clear c52
                              by_cases c53 : x4_1.size + (rdOf ByteArray.empty y204 (ji50)).size ≤ 9223372036854775807
                              · rw [if_pos c53] at H
                                have c53b0 := eq_true c53
                                have c53b1 : decide (x4_1.size + (rdOf ByteArray.empty y204 (ji50)).size ≤ 9223372036854775807) = true := decide_eq_true c53
                                try have c53b2 : (9223372036854775807 < x4_1.size + (rdOf ByteArray.empty y204 (ji50)).size) = False := eq_false (Nat.not_lt.2 c53)
                                obtain ⟨y236, hy236⟩ : ∃ y_ : List ByteArray, y_ = (([(⟨#[32]⟩ : ByteArray), (⟨#[10]⟩ : ByteArray), (⟨#[35, 10]⟩ : ByteArray)] : List ByteArray)) := ⟨_, rfl⟩
                                replace H : (if 0 ≤ (Int.tmod x6_1 3) then (if (Int.tmod x6_1 3) < (y236.length : Int) then (if (x4_1 ++ (rdOf ByteArray.empty y204 (ji50))).size + (rdOf ByteArray.empty y236 (Int.tmod x6_1 3)).size ≤ 9223372036854775807 then (templelaw2_LexRows.l0 kj6 l0 y204 ((x4_1 ++ (rdOf ByteArray.empty y204 (ji50))) ++ (rdOf ByteArray.empty y236 (Int.tmod x6_1 3))) y232 (wrap64 (x6_1 + 1))) else (none)) else (none)) else (none)) = some r := by first | (rw [hy236]; with_reducible exact H) | (have H2_ := (Option.bind_some _ _).symm.trans H; rw [hy236]; with_reducible exact H2_) | (have H2_ := (Option.bind_some _ _).symm.trans H; with_reducible exact H2_) | with_reducible exact H | (rw [hy236]; exact H) | exact H
                                have Ny236 := Aside0.mk hy236
                                clear hy236
                                obtain ⟨ji54, hji54⟩ : ∃ j_ : Int, (Int.tmod x6_1 3) = j_ := ⟨_, rfl⟩
                                replace H : (if 0 ≤ (ji54) then (if (ji54) < (y236.length : Int) then (if (x4_1 ++ (rdOf ByteArray.empty y204 (ji50))).size + (rdOf ByteArray.empty y236 (ji54)).size ≤ 9223372036854775807 then (templelaw2_LexRows.l0 kj6 l0 y204 ((x4_1 ++ (rdOf ByteArray.empty y204 (ji50))) ++ (rdOf ByteArray.empty y236 (ji54))) y232 (wrap64 (x6_1 + 1))) else (none)) else (none)) else (none)) = some r := by first | (rw [hji54] at H; exact H) | (simp only [hji54] at H ⊢; exact H)
                                by_cases c55 : 0 ≤ (ji54)
                                · rw [if_pos c55] at H
                                  have c55b0 : decide (0 ≤ (ji54)) = true := decide_eq_true c55
                                  clear c55
                                  by_cases c56 : (ji54) < (y236.length : Int)
                                  · rw [if_pos c56] at H
                                    have c56b0 : decide ((ji54) < (y236.length : Int)) = true := decide_eq_true c56
                                    clear c56
                                    by_cases c57 : (x4_1 ++ (rdOf ByteArray.empty y204 (ji50))).size + (rdOf ByteArray.empty y236 (ji54)).size ≤ 9223372036854775807
                                    · rw [if_pos c57] at H
                                      have c57b0 := eq_true c57
                                      have c57b1 : decide ((x4_1 ++ (rdOf ByteArray.empty y204 (ji50))).size + (rdOf ByteArray.empty y236 (ji54)).size ≤ 9223372036854775807) = true := decide_eq_true c57
                                      try have c57b2 : (9223372036854775807 < (x4_1 ++ (rdOf ByteArray.empty y204 (ji50))).size + (rdOf ByteArray.empty y236 (ji54)).size) = False := eq_false (Nat.not_lt.2 c57)
                                      try have c57b3 : (9223372036854775807 < x4_1.size + (rdOf ByteArray.empty y204 (ji50)).size + (rdOf ByteArray.empty y236 (ji54)).size) = False := eq_false (by have q_ := c57; (try simp only [ByteArray.size_append, ByteArray.size_extract] at q_); omega)
                                      have H' := Aside0.mk H
                                      clear H
                                      have p214 : 0 ≤ (x6_1 : Int) := of_decide_eq_true (by first | (with_reducible assumption) | assumption)
                                      have q214 : x6_1 < (l0.length : Int) := of_decide_eq_true (by first | (with_reducible assumption) | assumption)
                                      obtain ⟨ad214, e214, hx214_0⟩ := Kd.at_int HR0.out x6_1 p214 q214
                                      cases e214
                                      replace hx214_0 := (HB.out.cell (World.block_lt_of_cell? w _ hx214_0)).trans hx214_0
                                      replace p214 := eq_true p214
                                      replace q214 := eq_true q214
                                      try go_wp2_with (first | ((with_reducible refine gate_dst (N := 8) rfl ?_); refine box_event ?hg (N := 8) ?hd (cs := #[.int .i64 0, .int .i64 0, .string (⟨#[]⟩ : ByteArray), .int .i64 0, .int .i64 0]) (t := 33) ?hr ?_; (case hd => rfl); (case hg => rfl); (case hr => first | (go_simp; done) | (go_simp; rfl)); intro gb215 hg w58 hbox hb; have n0_ := Aside0.mk (Kd.R_below (by (with_reducible repeat (first | apply Kd.R_alloc | apply Kd.R_drewN | apply Kd.R_drew)); exact HO_3.out) hb); have n1_ := Aside0.mk (Kd.R_below (Kd.R_elderB (by (with_reducible repeat (first | apply Kd.R_alloc | apply Kd.R_drewN | apply Kd.R_drew)); exact HO_5.out) gb215 (Nat.le_of_eq hg.symm)) hb); have n2_ := Aside0.mk (below_step (by repeat (first | (with_reducible first | exact HB.out | apply below_alloc | apply pw_below_drewN | apply below_drew1) | exact HB.out)) hb); have n3_ := Aside0.mk (hbox); have n4_ := Aside0.mk ((by rw [hg]; exact (below_size (by repeat (first | (with_reducible first | exact HB.out | apply below_alloc | apply pw_below_drewN | apply below_drew1) | exact HB.out))) : w.heap.size ≤ gb215)); have n5_ := Aside0.mk ((by rw [hg]; exact (below_size (by repeat (first | (with_reducible first | exact HB.out | apply below_alloc | apply pw_below_drewN | apply below_drew1) | exact HB.out))) : w.heap.size ≤ gb215)); clear HO_3; clear HO_5; clear HB; have HO_3 := n0_; have HO_5 := n1_; have HB := n2_; have BK215 := n3_; have GW215 := n4_; have GE215 := n5_; clear n0_ n1_ n2_ n3_ n4_ n5_; clear hb hbox hg; have hcz59_0 : w58.cell? ⟨gb215, 0, none⟩ = some (.int .i64 0) := (blk_cell BK215.out 0).trans rfl; have hcz59_1 : w58.cell? ⟨gb215, 1, none⟩ = some (.int .i64 0) := (blk_cell BK215.out 1).trans rfl; have hcz59_2 : w58.cell? ⟨gb215, 2, none⟩ = some (.string (⟨#[]⟩ : ByteArray)) := (blk_cell BK215.out 2).trans rfl; have hcz59_3 : w58.cell? ⟨gb215, 3, none⟩ = some (.int .i64 0) := (blk_cell BK215.out 3).trans rfl; have hcz59_4 : w58.cell? ⟨gb215, 4, none⟩ = some (.int .i64 0) := (blk_cell BK215.out 4).trans rfl; have hcw_3 : (((((((w58.setCell ⟨gb215, 0, none⟩ (.int .i64 (wrap64 (ji50)))).setCell ⟨gb215, 1, none⟩ (.int .i64 (x4_1.size : Int))).setCell ⟨gb215, 2, none⟩ (.string (⟨#[]⟩ : ByteArray))).setCell ⟨gb215, 3, none⟩ (.int .i64 0)).setCell ⟨gb215, 4, none⟩ (.int .i64 0)).setCell ⟨gb215, 3, none⟩ (.int .i64 97)).setCell ⟨gb215, 4, none⟩ (.int .i64 127)).cell? ⟨gb215, 3, none⟩ = some (.int .i64 97) := ((World.cell?_setCell_other _ _ _ _ (by simp)).trans (World.cell?_setCell_same _ _ _ ((World.cell?_setCell_other _ _ _ _ (by simp)).trans (World.cell?_setCell_same _ _ _ ((World.cell?_setCell_other _ _ _ _ (by simp)).trans ((World.cell?_setCell_other _ _ _ _ (by simp)).trans ((World.cell?_setCell_other _ _ _ _ (by simp)).trans hcz59_3))))))); have hcw_4 : (((((((w58.setCell ⟨gb215, 0, none⟩ (.int .i64 (wrap64 (ji50)))).setCell ⟨gb215, 1, none⟩ (.int .i64 (x4_1.size : Int))).setCell ⟨gb215, 2, none⟩ (.string (⟨#[]⟩ : ByteArray))).setCell ⟨gb215, 3, none⟩ (.int .i64 0)).setCell ⟨gb215, 4, none⟩ (.int .i64 0)).setCell ⟨gb215, 3, none⟩ (.int .i64 97)).setCell ⟨gb215, 4, none⟩ (.int .i64 127)).cell? ⟨gb215, 4, none⟩ = some (.int .i64 127) := (World.cell?_setCell_same _ _ _ ((World.cell?_setCell_other _ _ _ _ (by simp)).trans (World.cell?_setCell_same _ _ _ ((World.cell?_setCell_other _ _ _ _ (by simp)).trans ((World.cell?_setCell_other _ _ _ _ (by simp)).trans ((World.cell?_setCell_other _ _ _ _ (by simp)).trans ((World.cell?_setCell_other _ _ _ _ (by simp)).trans hcz59_4))))))); have hfz59_0 := blk_frozen BK215.out 0; have hfz59_1 := blk_frozen BK215.out 1; have hfz59_2 := blk_frozen BK215.out 2; have hfz59_3 := blk_frozen BK215.out 3; have hfz59_4 := blk_frozen BK215.out 4) | ((with_reducible refine gate_builtin (b := .append) (xs := #[.tmp 48, .tmp 50]) rfl ?_); at_builtin; refine Kd.R_append k33 (w0 := w) w.heap.size rfl (.tmp 48) (.tmp 50) 22 33 (.agg #[(.int .i64 0), (.int .i64 0), (.string ⟨#[]⟩), (.int .i64 0), (.int .i64 0)]) 48 rfl Try.underlying22 info33 rfl (by decide) (by omega) u5 x5_1 (⟨wrap64 (ji50), (x4_1.size : Int), (⟨#[]⟩ : ByteArray), 97, 127⟩ : S33) [.int .i64 (wrap64 (ji50)), .int .i64 (x4_1.size : Int), .string (⟨#[]⟩ : ByteArray), .int .i64 97, .int .i64 127] (fun k_ => k_ ≠ gb215) (fun _ => False) rfl (by first | (go_simp; done) | (go_simp; rfl)) ?aP (fun _ hk => hk.elim) ?aF ?aO ?aB ?aS ?aL ?_; (case aP => exact k33_mkM _ _ _ (⟨wrap64 (ji50), (x4_1.size : Int), (⟨#[]⟩ : ByteArray), 97, 127⟩ : S33)); (case aB => exact (by repeat (first | (with_reducible first | exact HB.out | apply below_alloc | apply pw_below_drewN | apply below_drew1 | refine below_set ?_ GE215.out) | exact HB.out))); (case aF => exact (fun k_ hk => Kd.freshB (g := gb215) (o := .cells #[.int .i64 (wrap64 (ji50)), .int .i64 (x4_1.size : Int), .string (⟨#[]⟩ : ByteArray), .int .i64 97, .int .i64 127] 33 (0, 0)) (by (with_reducible repeat (first | refine blk_drewN ?_ _ | refine blk_drew ?_ | refine blk_alloc ?_ _)); refine blk_put (cs := #[.int .i64 (wrap64 (ji50)), .int .i64 (x4_1.size : Int), .string (⟨#[]⟩ : ByteArray), .int .i64 97, .int .i64 0]) ?_ 4 _ rfl; (with_reducible repeat (first | refine blk_drewN ?_ _ | refine blk_drew ?_ | refine blk_alloc ?_ _)); refine blk_put (cs := #[.int .i64 (wrap64 (ji50)), .int .i64 (x4_1.size : Int), .string (⟨#[]⟩ : ByteArray), .int .i64 0, .int .i64 0]) ?_ 3 _ rfl; (with_reducible repeat (first | refine blk_drewN ?_ _ | refine blk_drew ?_ | refine blk_alloc ?_ _)); refine blk_put (cs := #[.int .i64 (wrap64 (ji50)), .int .i64 (x4_1.size : Int), .string (⟨#[]⟩ : ByteArray), .int .i64 0, .int .i64 0]) ?_ 4 _ rfl; (with_reducible repeat (first | refine blk_drewN ?_ _ | refine blk_drew ?_ | refine blk_alloc ?_ _)); refine blk_put (cs := #[.int .i64 (wrap64 (ji50)), .int .i64 (x4_1.size : Int), .string (⟨#[]⟩ : ByteArray), .int .i64 0, .int .i64 0]) ?_ 3 _ rfl; (with_reducible repeat (first | refine blk_drewN ?_ _ | refine blk_drew ?_ | refine blk_alloc ?_ _)); refine blk_put (cs := #[.int .i64 (wrap64 (ji50)), .int .i64 (x4_1.size : Int), .string (⟨#[]⟩ : ByteArray), .int .i64 0, .int .i64 0]) ?_ 2 _ rfl; (with_reducible repeat (first | refine blk_drewN ?_ _ | refine blk_drew ?_ | refine blk_alloc ?_ _)); refine blk_put (cs := #[.int .i64 (wrap64 (ji50)), .int .i64 0, .string (⟨#[]⟩ : ByteArray), .int .i64 0, .int .i64 0]) ?_ 1 _ rfl; (with_reducible repeat (first | refine blk_drewN ?_ _ | refine blk_drew ?_ | refine blk_alloc ?_ _)); refine blk_put (cs := #[.int .i64 0, .int .i64 0, .string (⟨#[]⟩ : ByteArray), .int .i64 0, .int .i64 0]) ?_ 0 _ rfl; (with_reducible repeat (first | refine blk_drewN ?_ _ | refine blk_drew ?_ | refine blk_alloc ?_ _)); exact BK215.out) k_ hk)); (case aO => exact (by (with_reducible repeat (first | apply Kd.R_alloc | apply Kd.R_drewN | apply Kd.R_drew)); exact Kd.R_mono (Kd.R_far (p := ⟨gb215, 4, none⟩) (Kd.R_far (p := ⟨gb215, 3, none⟩) (Kd.R_far (p := ⟨gb215, 4, none⟩) (Kd.R_far (p := ⟨gb215, 3, none⟩) (Kd.R_far (p := ⟨gb215, 2, none⟩) (Kd.R_far (p := ⟨gb215, 1, none⟩) (Kd.R_far (p := ⟨gb215, 0, none⟩) (Kd.R_mono HO_5.out (fun k_ hk => (⟨hk, hk.2⟩ : _ ∧ k_ ≠ gb215))) (fun _ hk => hk.2) (.int .i64 (wrap64 (ji50)))) (fun _ hk => hk.2) (.int .i64 (x4_1.size : Int))) (fun _ hk => hk.2) (.string (⟨#[]⟩ : ByteArray))) (fun _ hk => hk.2) (.int .i64 0)) (fun _ hk => hk.2) (.int .i64 0)) (fun _ hk => hk.2) (.int .i64 97)) (fun _ hk => hk.2) (.int .i64 127)) (fun _ hk => hk.1.2))); (case aS => exact (below_size (by repeat (first | (with_reducible first | exact HB.out | apply below_alloc | apply pw_below_drewN | apply below_drew1 | refine below_set ?_ GE215.out) | exact HB.out)))); (case aL => have := LMc49.out; omega); intro v233 w60 ho hb hg hat; rw [← Ny232.out] at ho; have n0_ := Aside0.mk (Kd.R_over' (by (with_reducible repeat (first | apply Kd.R_alloc | apply Kd.R_drewN | apply Kd.R_drew)); exact (Kd.R_mono (Kd.R_far (p := ⟨gb215, 4, none⟩) (Kd.R_far (p := ⟨gb215, 3, none⟩) (Kd.R_far (p := ⟨gb215, 4, none⟩) (Kd.R_far (p := ⟨gb215, 3, none⟩) (Kd.R_far (p := ⟨gb215, 2, none⟩) (Kd.R_far (p := ⟨gb215, 1, none⟩) (Kd.R_far (p := ⟨gb215, 0, none⟩) (Kd.R_types HO_3.out BK215.out (by decide)) (fun _ hk => hk.2) (.int .i64 (wrap64 (ji50)))) (fun _ hk => hk.2) (.int .i64 (x4_1.size : Int))) (fun _ hk => hk.2) (.string (⟨#[]⟩ : ByteArray))) (fun _ hk => hk.2) (.int .i64 0)) (fun _ hk => hk.2) (.int .i64 0)) (fun _ hk => hk.2) (.int .i64 97)) (fun _ hk => hk.2) (.int .i64 127)) (fun _ h_ => h_.1))) (Kd.R_typed (by (with_reducible repeat (first | apply Kd.R_alloc | apply Kd.R_drewN | apply Kd.R_drew)); exact (Kd.R_mono (Kd.R_far (p := ⟨gb215, 4, none⟩) (Kd.R_far (p := ⟨gb215, 3, none⟩) (Kd.R_far (p := ⟨gb215, 4, none⟩) (Kd.R_far (p := ⟨gb215, 3, none⟩) (Kd.R_far (p := ⟨gb215, 2, none⟩) (Kd.R_far (p := ⟨gb215, 1, none⟩) (Kd.R_far (p := ⟨gb215, 0, none⟩) (Kd.R_mono HO_5.out (fun k_ hk => (⟨hk, hk.2⟩ : _ ∧ k_ ≠ gb215))) (fun _ hk => hk.2) (.int .i64 (wrap64 (ji50)))) (fun _ hk => hk.2) (.int .i64 (x4_1.size : Int))) (fun _ hk => hk.2) (.string (⟨#[]⟩ : ByteArray))) (fun _ hk => hk.2) (.int .i64 0)) (fun _ hk => hk.2) (.int .i64 0)) (fun _ hk => hk.2) (.int .i64 97)) (fun _ hk => hk.2) (.int .i64 127)) (fun _ h_ => h_.1)))) (by decide) hg); have n1_ := Aside0.mk (blk_grown (g := gb215) (o := .cells #[.int .i64 (wrap64 (ji50)), .int .i64 (x4_1.size : Int), .string (⟨#[]⟩ : ByteArray), .int .i64 97, .int .i64 127] 33 (0, 0)) (by (with_reducible repeat (first | refine blk_drewN ?_ _ | refine blk_drew ?_ | refine blk_alloc ?_ _)); refine blk_put (cs := #[.int .i64 (wrap64 (ji50)), .int .i64 (x4_1.size : Int), .string (⟨#[]⟩ : ByteArray), .int .i64 97, .int .i64 0]) ?_ 4 _ rfl; (with_reducible repeat (first | refine blk_drewN ?_ _ | refine blk_drew ?_ | refine blk_alloc ?_ _)); refine blk_put (cs := #[.int .i64 (wrap64 (ji50)), .int .i64 (x4_1.size : Int), .string (⟨#[]⟩ : ByteArray), .int .i64 0, .int .i64 0]) ?_ 3 _ rfl; (with_reducible repeat (first | refine blk_drewN ?_ _ | refine blk_drew ?_ | refine blk_alloc ?_ _)); refine blk_put (cs := #[.int .i64 (wrap64 (ji50)), .int .i64 (x4_1.size : Int), .string (⟨#[]⟩ : ByteArray), .int .i64 0, .int .i64 0]) ?_ 4 _ rfl; (with_reducible repeat (first | refine blk_drewN ?_ _ | refine blk_drew ?_ | refine blk_alloc ?_ _)); refine blk_put (cs := #[.int .i64 (wrap64 (ji50)), .int .i64 (x4_1.size : Int), .string (⟨#[]⟩ : ByteArray), .int .i64 0, .int .i64 0]) ?_ 3 _ rfl; (with_reducible repeat (first | refine blk_drewN ?_ _ | refine blk_drew ?_ | refine blk_alloc ?_ _)); refine blk_put (cs := #[.int .i64 (wrap64 (ji50)), .int .i64 (x4_1.size : Int), .string (⟨#[]⟩ : ByteArray), .int .i64 0, .int .i64 0]) ?_ 2 _ rfl; (with_reducible repeat (first | refine blk_drewN ?_ _ | refine blk_drew ?_ | refine blk_alloc ?_ _)); refine blk_put (cs := #[.int .i64 (wrap64 (ji50)), .int .i64 0, .string (⟨#[]⟩ : ByteArray), .int .i64 0, .int .i64 0]) ?_ 1 _ rfl; (with_reducible repeat (first | refine blk_drewN ?_ _ | refine blk_drew ?_ | refine blk_alloc ?_ _)); refine blk_put (cs := #[.int .i64 0, .int .i64 0, .string (⟨#[]⟩ : ByteArray), .int .i64 0, .int .i64 0]) ?_ 0 _ rfl; (with_reducible repeat (first | refine blk_drewN ?_ _ | refine blk_drew ?_ | refine blk_alloc ?_ _)); exact BK215.out) hg (Kd.R_away HO_5.out (fun _ hk => hk.2))); have n2_ := Aside0.mk (hb); have n3_ := Aside0.mk (ho); clear HO_3; clear BK215; clear HB; clear HO_5; have HO_3 := n0_; have BK215 := n1_; have HB := n2_; have HO234 := n3_; clear n0_ n1_ n2_ n3_; clear ho hb hg hat))
                                      have pi239 : (0 ≤ ((ji54) : Int)) = True := eq_true (of_decide_eq_true (by first | (with_reducible assumption) | assumption))
                                      have qi239 : ((ji54) < (y236.length : Int)) = True := eq_true (of_decide_eq_true (by first | (with_reducible assumption) | assumption))
                                      have n0_ := Aside0.mk (Kd.R_drew HO_3.out)
                                      have n1_ := Aside0.mk (Kd.R_drew HO234.out)
                                      have n2_ := Aside0.mk (blk_drew BK215.out)
                                      have n3_ := Aside0.mk (below_drew1 HB.out)
                                      clear HO_3
                                      clear HO234
                                      clear BK215
                                      clear HB
                                      have HO_3 := n0_
                                      have HO234 := n1_
                                      have BK215 := n2_
                                      have HB := n3_
                                      clear n0_ n1_ n2_ n3_
                                      obtain ⟨Ao62, co62, eo62⟩ := Kd.R_slice HO_3.out
                                      (first | subst eo62 | (injection eo62 with f1_ f2_ f3_; have f4_ := f1_.symm; have f5_ := f3_.symm; clear f1_ f2_ f3_; subst f4_; subst f5_))
                                      have p235 : 0 ≤ ((ji50) : Int) := of_decide_eq_true (by first | (with_reducible assumption) | assumption)
                                      have q235 : (ji50) < (y204.length : Int) := of_decide_eq_true (by first | (with_reducible assumption) | assumption)
                                      obtain ⟨ad235, e235, hx235_0⟩ := Kd.at_string (Kd.R_reads' HO_3.out).2.2 (ji50) p235 q235
                                      cases e235
                                      replace p235 := eq_true p235
                                      replace q235 := eq_true q235
                                      refine start_ (n := 13) (S := fun w' => w'.cell? (ad235.add ((ji50)).toNat) = some (.string (rdOf ByteArray.empty y204 (ji50)))) (ds := []) #[false, false, false, false, false, false, false, false, false, false, false, false, false] (by kernel_rfl) rfl rfl (hx235_0) (fun hHeld => ?_); refine with_tabW templelaw2_LexRows.tab20 templelaw2_LexRows.bits20 (fun HT_ HW_ => ?_)
                                      generalize w60.drew = w61 at HO_3 HO234 BK215 HB hx235_0 hHeld ⊢
                                      refine pure_ (i := 0) (N := some 52) (v := ?_) (a' := ?_) #[true, false, false, false, false, false, false, false, false, false, false, false, false] rfl rfl (any_of HT_.out (by kernel_rfl)) (fun _ _ _ h => h) (Or.inl ⟨by rfl, ?_⟩) ?_ ?_
                                      rotate_left
                                      · intro w'
                                        go_simp
                                        with_reducible rfl
                                      rotate_left
                                      · simp only [Act.put, List.setIfInBounds_toArray, List.set_cons_zero, List.set_cons_succ, i64_w, i32_w]
                                        rfl
                                      refine pure_ (i := 1) (N := some 53) (v := ?_) (a' := ?_) #[true, true, false, false, false, false, false, false, false, false, false, false, false] rfl rfl (any_of HT_.out (by kernel_rfl)) (fun _ _ _ h => h) (Or.inl ⟨by rfl, ?_⟩) ?_ ?_
                                      rotate_left
                                      · intro w'
                                        go_simp
                                        with_reducible rfl
                                      rotate_left
                                      · simp only [Act.put, List.setIfInBounds_toArray, List.set_cons_zero, List.set_cons_succ, i64_w, i32_w]
                                        rfl
                                      refine pure_ (i := 2) (N := some 54) (v := ?_) (a' := ?_) #[true, true, true, false, false, false, false, false, false, false, false, false, false] rfl rfl (any_of HT_.out (by kernel_rfl)) (fun _ _ _ h => h) (Or.inl ⟨by rfl, ?_⟩) ?_ ?_
                                      rotate_left
                                      · intro w'
                                        go_simp
                                        with_reducible rfl
                                      rotate_left
                                      · simp only [Act.put, List.setIfInBounds_toArray, List.set_cons_zero, List.set_cons_succ, i64_w, i32_w]
                                        rfl
                                      refine pure_ (i := 3) (N := some 55) (v := ?_) (a' := ?_) #[true, true, true, true, false, false, false, false, false, false, false, false, false] rfl rfl (any_of HT_.out (by kernel_rfl)) (fun _ _ _ h => h) (Or.inl ⟨by rfl, ?_⟩) ?_ ?_
                                      rotate_left
                                      · intro w'
                                        go_simp
                                        with_reducible rfl
                                      rotate_left
                                      · simp only [Act.put, List.setIfInBounds_toArray, List.set_cons_zero, List.set_cons_succ, i64_w, i32_w]
                                        rfl
                                      refine pure_ (i := 7) (N := some 59) (v := ?_) (a' := ?_) #[true, true, true, true, false, false, false, true, false, false, false, false, false] rfl rfl (any_of HT_.out (by kernel_rfl)) (fun _ _ _ h => h) (Or.inl ⟨by rfl, ?_⟩) ?_ ?_
                                      rotate_left
                                      · intro w'
                                        go_simp
                                        with_reducible rfl
                                      rotate_left
                                      · simp only [Act.put, List.setIfInBounds_toArray, List.set_cons_zero, List.set_cons_succ, i64_w, i32_w]
                                        rfl
                                      refine pure_ (i := 8) (N := some 60) (v := ?_) (a' := ?_) #[true, true, true, true, false, false, false, true, true, false, false, false, false] rfl rfl (any_of HT_.out (by kernel_rfl)) (fun _ _ _ h => h) (Or.inl ⟨by rfl, ?_⟩) ?_ ?_
                                      rotate_left
                                      · intro w'
                                        go_simp
                                        with_reducible rfl
                                      rotate_left
                                      · simp only [Act.put, List.setIfInBounds_toArray, List.set_cons_zero, List.set_cons_succ, i64_w, i32_w]
                                        rfl
                                      refine take_ (i := 4) (N := some 56) (v := ?_) (a' := ?_) #[true, true, true, true, true, false, false, true, true, false, false, false, false] rfl rfl (take_ofW HT_.out HW_.out (by kernel_rfl)) (fun _ _ _ h => h) (Or.inl ⟨by rfl, ?_⟩) hHeld ?_ ?_
                                      rotate_left
                                      · intro w' s0
                                        go_simp
                                        with_reducible rfl
                                      rotate_left
                                      · simp only [Act.put, List.setIfInBounds_toArray, List.set_cons_zero, List.set_cons_succ, i64_w, i32_w]
                                        rfl
                                      refine pure_ (i := 5) (N := some 57) (v := ?_) (a' := ?_) #[true, true, true, true, true, true, false, true, true, false, false, false, false] rfl rfl (any_of HT_.out (by kernel_rfl)) (fun _ _ _ h => h) (Or.inl ⟨by rfl, ?_⟩) ?_ ?_
                                      rotate_left
                                      · intro w'
                                        go_simp
                                        with_reducible rfl
                                      rotate_left
                                      · simp only [Act.put, List.setIfInBounds_toArray, List.set_cons_zero, List.set_cons_succ, i64_w, i32_w]
                                        rfl
                                      refine one_ (i := 6) (N := some 58) #[true, true, true, true, true, true, true, true, true, false, false, false, false] rfl rfl (one_of HT_.out (by kernel_rfl)) (by decide) (fun K hK => ?_)
                                      refine Kd.R_lit_step Kd.string _ 9 ?hg (N := 58) ?hd (xs := ([(⟨#[32]⟩ : ByteArray), (⟨#[10]⟩ : ByteArray), (⟨#[35, 10]⟩ : ByteArray)] : List ByteArray)) (inner := [.string (⟨#[32]⟩ : ByteArray), .string (⟨#[10]⟩ : ByteArray), .string (⟨#[35, 10]⟩ : ByteArray)]) (ok := fun _ => True) (okp := fun _ => True) ?hr ?hp (fun _ hk => hk) trivial (Below.refl _ _) (Nat.le_refl _) (by simp) ?_; (case hd => rfl); (case hg => rfl); (case hr => first | (go_simp; done) | (go_simp; rfl)); (case hp => exact (Reps.one (show Kd.M Kd.string _ _ _ (⟨#[32]⟩ : ByteArray) [.string (⟨#[32]⟩ : ByteArray)] from rfl) (Reps.one (show Kd.M Kd.string _ _ _ (⟨#[10]⟩ : ByteArray) [.string (⟨#[10]⟩ : ByteArray)] from rfl) (Reps.one (show Kd.M Kd.string _ _ _ (⟨#[35, 10]⟩ : ByteArray) [.string (⟨#[35, 10]⟩ : ByteArray)] from rfl) (Reps.none _ _)))))
                                      intro v237 w63 ho64 hb hg_ hnew_
                                      have HS0_ := (hb.cell (World.block_lt_of_cell? _ _ (hHeld))).trans (hHeld)
                                      clear hg_ hnew_
                                      (first | rw [← Ny236.out] at ho64 | (simp only [Int.reduceToNat] at ho64; rw [← Ny236.out] at ho64))
                                      have n0_ := Aside0.mk (Kd.R_elder' (by (with_reducible repeat (first | apply Kd.R_alloc | apply Kd.R_drewN | apply Kd.R_drew)); exact HO_3.out) (Kd.R_base ho64) hb)
                                      have n1_ := Aside0.mk (Kd.R_below (by (with_reducible repeat (first | apply Kd.R_alloc | apply Kd.R_drewN | apply Kd.R_drew)); exact HO234.out) hb)
                                      have n2_ := Aside0.mk (Kd.R_lower (Kd.R_new' ho64 (Kd.R_lt (by (with_reducible repeat (first | apply Kd.R_alloc | apply Kd.R_drewN | apply Kd.R_drew)); exact HO_3.out))) (below_size (by repeat (first | (with_reducible first | exact HB.out | apply below_alloc | apply pw_below_drewN | apply below_drew1 | refine below_set ?_ GE215.out) | exact HB.out))))
                                      have n3_ := Aside0.mk (blk_below (g := gb215) (o := .cells #[.int .i64 (wrap64 (ji50)), .int .i64 (x4_1.size : Int), .string (⟨#[]⟩ : ByteArray), .int .i64 97, .int .i64 127] 33 (0, 0)) (by (with_reducible repeat (first | refine blk_drewN ?_ _ | refine blk_drew ?_ | refine blk_alloc ?_ _)); exact BK215.out) hb)
                                      have n4_ := Aside0.mk (below_step (by repeat (first | (with_reducible first | exact HB.out | apply below_alloc | apply pw_below_drewN | apply below_drew1 | refine below_set ?_ GE215.out) | exact HB.out)) hb)
                                      clear HO_3
                                      clear HO234
                                      clear BK215
                                      clear HB
                                      have HO_3 := n0_
                                      have HO234 := n1_
                                      have HO238 := n2_
                                      have BK215 := n3_
                                      have HB := n4_
                                      clear n0_ n1_ n2_ n3_ n4_
                                      clear hb ho64
                                      obtain ⟨Ao65, co65, eo65⟩ := Kd.R_slice HO238.out
                                      subst eo65
                                      obtain ⟨ado65, fo65, _⟩ := Kd.at_string (Kd.R_reads' HO238.out).2.2 0 (by decide) (by rw [Ny236.out]; simp)
                                      cases fo65
                                      refine hK.out _ _ (HS0_) (fun hHeld => ?_)
                                      clear hK K
                                      refine norm_ (a' := ?_) ?_ ?_
                                      rotate_left
                                      · show Act.put _ (some 58) _ = _
                                        simp only [Act.put, List.setIfInBounds_toArray, List.set_cons_zero, List.set_cons_succ, i64_w, i32_w]
                                        rfl
                                      refine pure_ (i := 9) (N := some 61) (v := ?_) (a' := ?_) #[true, true, true, true, true, true, true, true, true, true, false, false, false] rfl rfl (any_of HT_.out (by kernel_rfl)) (fun _ _ _ h => h) (Or.inl ⟨by rfl, ?_⟩) ?_ ?_
                                      rotate_left
                                      · intro w'
                                        go_simp
                                        with_reducible rfl
                                      rotate_left
                                      · simp only [Act.put, List.setIfInBounds_toArray, List.set_cons_zero, List.set_cons_succ, i64_w, i32_w]
                                        rfl
                                      refine one_ (i := 10) (N := some 62) #[true, true, true, true, true, true, true, true, true, true, true, false, false] rfl rfl (one_of HT_.out (by kernel_rfl)) (by decide) (fun K hK => ?_)
                                      (have p239 : 0 ≤ ((ji54) : Int) := of_decide_eq_true (by first | (with_reducible assumption) | assumption); have q239 : (ji54) < (y236.length : Int) := of_decide_eq_true (by first | (with_reducible assumption) | assumption); obtain ⟨ad239, e239, hx239_0⟩ := Kd.at_string (Kd.R_reads' HO238.out).2.2 (ji54) p239 q239; obtain rfl : ado65 = ad239 := (by injection e239))
                                      refine value_ (w1 := ?_) (v := ?_) (by rfl) rfl ?_ ?_
                                      rotate_left 2
                                      · go_simp
                                        constructor
                                        · rfl
                                        · rfl
                                      clear hx239_0
                                      refine hK.out _ _ (hHeld) (fun hHeld => ?_)
                                      clear hK K
                                      refine norm_ (a' := ?_) ?_ ?_
                                      rotate_left
                                      · show Act.put _ (some 62) _ = _
                                        simp only [Act.put, List.setIfInBounds_toArray, List.set_cons_zero, List.set_cons_succ, i64_w, i32_w]
                                        rfl
                                      refine pure_ (i := 11) (N := some 63) (v := ?_) (a' := ?_) #[true, true, true, true, true, true, true, true, true, true, true, true, false] rfl rfl (any_of HT_.out (by kernel_rfl)) (fun _ _ _ h => h) (Or.inl ⟨by rfl, ?_⟩) ?_ ?_
                                      rotate_left
                                      · intro w'
                                        go_simp
                                        with_reducible rfl
                                      rotate_left
                                      · simp only [Act.put, List.setIfInBounds_toArray, List.set_cons_zero, List.set_cons_succ, i64_w, i32_w]
                                        rfl
                                      refine pure_ (i := 12) (N := some 4) (v := ?_) (a' := ?_) #[true, true, true, true, true, true, true, true, true, true, true, true, true] rfl rfl (any_of HT_.out (by kernel_rfl)) (fun _ _ _ h => h) (Or.inl ⟨by rfl, ?_⟩) ?_ ?_
                                      rotate_left
                                      · intro w'
                                        go_simp
                                        with_reducible rfl
                                      rotate_left
                                      · simp only [Act.put, List.setIfInBounds_toArray, List.set_cons_zero, List.set_cons_succ, i64_w, i32_w]
                                        rfl
                                      refine done_ (done_of HT_.out (by kernel_rfl)) ?_
                                      try go_wp2
                                      go_roundg kj6
                                      case measure => have := HK1.out; have := HJ6.out; omega
                                      case rel => exact ⟨((x4_1 ++ (rdOf ByteArray.empty y204 (ji50))) ++ (rdOf ByteArray.empty y236 (ji54))), (y232), (wrap64 (x6_1 + 1)), (by first | rfl | (simp; done) | (simp only [← hji50, ← hji54] <;> (first | rfl | (simp; done) | (simp [i64_w]; done))) | (simp [*]; done)), (by first | rfl | (simp; done) | (simp [i64_w]; done) | (simp [*]; done) | (simp [*, i64_w]; done) | (simp [*]; unfold wrap64; omega)), H', ⟨by have := HK1.out; have := HJ6.out; omega⟩, ⟨by (with_reducible repeat (first | apply Kd.R_alloc | apply Kd.R_drewN | apply Kd.R_drew)); exact Kd.R_mono HO_3.out (fun _ hk => trivial)⟩, ⟨by (with_reducible repeat (first | apply Kd.R_alloc | apply Kd.R_drewN | apply Kd.R_drew)); exact Kd.R_mono HO234.out (fun _ hk => trivial)⟩, ⟨by repeat (first | (with_reducible first | exact HB.out | apply below_alloc | apply pw_below_drewN | apply below_drew1 | refine below_set ?_ GE215.out) | exact HB.out)⟩⟩
                                    · rw [if_neg c57] at H
                                      exact absurd H (by simp)
                                  · rw [if_neg c56] at H
                                    exact absurd H (by simp)
                                · rw [if_neg c55] at H
                                  exact absurd H (by simp)
                              · rw [if_neg c53] at H
                                exact absurd H (by simp)
                            · rw [if_neg c52] at H
                              exact absurd H (by simp)
                          · rw [if_neg c51] at H
                            exact absurd H (by simp)
                        · rw [if_neg c49] at H
                          exact absurd H (by simp)
                      · rw [if_neg c48] at H
                        have c48b0 : ((wrap64 (Int.tmod (IntKind.u64.wrap (rd l0 x6_1)) 9)) == 2) = false := beq_eq_false_iff_ne.mpr c48
                        have c48b1 : ((wrap64 (Int.tmod (IntKind.u64.wrap (rd l0 x6_1)) 9)) != 2) = true := bne_iff_ne.mpr c48
                        by_cases c66 : x5_1.length < 2932031007402
                        · rw [if_pos c66] at H
                          have LMc66 := Aside0.mk c66
                          clear c66
                          obtain ⟨y240, hy240⟩ : ∃ y_ : List (S33), y_ = (x5_1 ++ [(⟨wrap64 (0 + (wrap64 (Int.tmod (IntKind.u64.wrap (rd l0 x6_1)) 9))), (x4_1.size : Int), (⟨#[]⟩ : ByteArray), 0, 0⟩ : S33)]) := ⟨_, rfl⟩
                          replace H : (if 0 ≤ (wrap64 (Int.tmod (IntKind.u64.wrap (rd l0 x6_1)) 9)) then (if (wrap64 (Int.tmod (IntKind.u64.wrap (rd l0 x6_1)) 9)) < (y204.length : Int) then (if x4_1.size + (rdOf ByteArray.empty y204 (wrap64 (Int.tmod (IntKind.u64.wrap (rd l0 x6_1)) 9))).size ≤ 9223372036854775807 then ((some (([(⟨#[32]⟩ : ByteArray), (⟨#[10]⟩ : ByteArray), (⟨#[35, 10]⟩ : ByteArray)] : List ByteArray) : List ByteArray)).bind fun y244 => (if 0 ≤ (Int.tmod x6_1 3) then (if (Int.tmod x6_1 3) < (y244.length : Int) then (if (x4_1 ++ (rdOf ByteArray.empty y204 (wrap64 (Int.tmod (IntKind.u64.wrap (rd l0 x6_1)) 9)))).size + (rdOf ByteArray.empty y244 (Int.tmod x6_1 3)).size ≤ 9223372036854775807 then (templelaw2_LexRows.l0 kj6 l0 y204 ((x4_1 ++ (rdOf ByteArray.empty y204 (wrap64 (Int.tmod (IntKind.u64.wrap (rd l0 x6_1)) 9)))) ++ (rdOf ByteArray.empty y244 (Int.tmod x6_1 3))) y240 (wrap64 (x6_1 + 1))) else (none)) else (none)) else (none))) else (none)) else (none)) else (none)) = some r := by first | (rw [hy240]; with_reducible exact H) | (have H2_ := (Option.bind_some _ _).symm.trans H; rw [hy240]; with_reducible exact H2_) | (have H2_ := (Option.bind_some _ _).symm.trans H; with_reducible exact H2_) | with_reducible exact H | (rw [hy240]; exact H) | exact H
                          have Ny240 := Aside0.mk hy240
                          clear hy240
                          obtain ⟨ji67, hji67⟩ : ∃ j_ : Int, (wrap64 (Int.tmod (IntKind.u64.wrap (rd l0 x6_1)) 9)) = j_ := ⟨_, rfl⟩
                          replace H : (if 0 ≤ (ji67) then (if (ji67) < (y204.length : Int) then (if x4_1.size + (rdOf ByteArray.empty y204 (ji67)).size ≤ 9223372036854775807 then ((some (([(⟨#[32]⟩ : ByteArray), (⟨#[10]⟩ : ByteArray), (⟨#[35, 10]⟩ : ByteArray)] : List ByteArray) : List ByteArray)).bind fun y244 => (if 0 ≤ (Int.tmod x6_1 3) then (if (Int.tmod x6_1 3) < (y244.length : Int) then (if (x4_1 ++ (rdOf ByteArray.empty y204 (ji67))).size + (rdOf ByteArray.empty y244 (Int.tmod x6_1 3)).size ≤ 9223372036854775807 then (templelaw2_LexRows.l0 kj6 l0 y204 ((x4_1 ++ (rdOf ByteArray.empty y204 (ji67))) ++ (rdOf ByteArray.empty y244 (Int.tmod x6_1 3))) y240 (wrap64 (x6_1 + 1))) else (none)) else (none)) else (none))) else (none)) else (none)) else (none)) = some r := by first | (rw [hji67] at H; exact H) | (simp only [hji67] at H ⊢; exact H)
                          (try rw [hji67] at c12b0)
                          (try rw [hji67] at c12b1)
                          (try rw [hji67] at c30b0)
                          (try rw [hji67] at c30b1)
                          (try rw [hji67] at c48b0)
                          (try rw [hji67] at c48b1)
                          (try rw [hji67] at Ny240)
                          (try simp only [Int.zero_add] at Ny240)
                          have hji67w : (IntKind.i64.wrap (Int.tmod (IntKind.u64.wrap (rd l0 x6_1)) 9)) = ji67 := (i64_w _).trans hji67
                          by_cases c68 : 0 ≤ (ji67)
                          · rw [if_pos c68] at H
                            have c68b0 : decide (0 ≤ (ji67)) = true := decide_eq_true c68
                            clear c68
                            by_cases c69 : (ji67) < (y204.length : Int)
                            · rw [if_pos c69] at H
                              have c69b0 : decide ((ji67) < (y204.length : Int)) = true := decide_eq_true c69
                              clear c69
                              by_cases c70 : x4_1.size + (rdOf ByteArray.empty y204 (ji67)).size ≤ 9223372036854775807
                              · rw [if_pos c70] at H
                                have c70b0 := eq_true c70
                                have c70b1 : decide (x4_1.size + (rdOf ByteArray.empty y204 (ji67)).size ≤ 9223372036854775807) = true := decide_eq_true c70
                                try have c70b2 : (9223372036854775807 < x4_1.size + (rdOf ByteArray.empty y204 (ji67)).size) = False := eq_false (Nat.not_lt.2 c70)
                                obtain ⟨y244, hy244⟩ : ∃ y_ : List ByteArray, y_ = (([(⟨#[32]⟩ : ByteArray), (⟨#[10]⟩ : ByteArray), (⟨#[35, 10]⟩ : ByteArray)] : List ByteArray)) := ⟨_, rfl⟩
                                replace H : (if 0 ≤ (Int.tmod x6_1 3) then (if (Int.tmod x6_1 3) < (y244.length : Int) then (if (x4_1 ++ (rdOf ByteArray.empty y204 (ji67))).size + (rdOf ByteArray.empty y244 (Int.tmod x6_1 3)).size ≤ 9223372036854775807 then (templelaw2_LexRows.l0 kj6 l0 y204 ((x4_1 ++ (rdOf ByteArray.empty y204 (ji67))) ++ (rdOf ByteArray.empty y244 (Int.tmod x6_1 3))) y240 (wrap64 (x6_1 + 1))) else (none)) else (none)) else (none)) = some r := by first | (rw [hy244]; with_reducible exact H) | (have H2_ := (Option.bind_some _ _).symm.trans H; rw [hy244]; with_reducible exact H2_) | (have H2_ := (Option.bind_some _ _).symm.trans H; with_reducible exact H2_) | with_reducible exact H | (rw [hy244]; exact H) | exact H
                                have Ny244 := Aside0.mk hy244
                                clear hy244
                                obtain ⟨ji71, hji71⟩ : ∃ j_ : Int, (Int.tmod x6_1 3) = j_ := ⟨_, rfl⟩
                                replace H : (if 0 ≤ (ji71) then (if (ji71) < (y244.length : Int) then (if (x4_1 ++ (rdOf ByteArray.empty y204 (ji67))).size + (rdOf ByteArray.empty y244 (ji71)).size ≤ 9223372036854775807 then (templelaw2_LexRows.l0 kj6 l0 y204 ((x4_1 ++ (rdOf ByteArray.empty y204 (ji67))) ++ (rdOf ByteArray.empty y244 (ji71))) y240 (wrap64 (x6_1 + 1))) else (none)) else (none)) else (none)) = some r := by first | (rw [hji71] at H; exact H) | (simp only [hji71] at H ⊢; exact H)
                                by_cases c72 : 0 ≤ (ji71)
                                · rw [if_pos c72] at H
                                  have c72b0 : decide (0 ≤ (ji71)) = true := decide_eq_true c72
                                  clear c72
                                  by_cases c73 : (ji71) < (y244.length : Int)
                                  · rw [if_pos c73] at H
                                    have c73b0 : decide ((ji71) < (y244.length : Int)) = true := decide_eq_true c73
                                    clear c73
                                    by_cases c74 : (x4_1 ++ (rdOf ByteArray.empty y204 (ji67))).size + (rdOf ByteArray.empty y244 (ji71)).size ≤ 9223372036854775807
                                    · rw [if_pos c74] at H
                                      have c74b0 := eq_true c74
                                      have c74b1 : decide ((x4_1 ++ (rdOf ByteArray.empty y204 (ji67))).size + (rdOf ByteArray.empty y244 (ji71)).size ≤ 9223372036854775807) = true := decide_eq_true c74
                                      try have c74b2 : (9223372036854775807 < (x4_1 ++ (rdOf ByteArray.empty y204 (ji67))).size + (rdOf ByteArray.empty y244 (ji71)).size) = False := eq_false (Nat.not_lt.2 c74)
                                      try have c74b3 : (9223372036854775807 < x4_1.size + (rdOf ByteArray.empty y204 (ji67)).size + (rdOf ByteArray.empty y244 (ji71)).size) = False := eq_false (by have q_ := c74; (try simp only [ByteArray.size_append, ByteArray.size_extract] at q_); omega)
                                      have H' := Aside0.mk H
                                      clear H
                                      have p214 : 0 ≤ (x6_1 : Int) := of_decide_eq_true (by first | (with_reducible assumption) | assumption)
                                      have q214 : x6_1 < (l0.length : Int) := of_decide_eq_true (by first | (with_reducible assumption) | assumption)
                                      obtain ⟨ad214, e214, hx214_0⟩ := Kd.at_int HR0.out x6_1 p214 q214
                                      cases e214
                                      replace hx214_0 := (HB.out.cell (World.block_lt_of_cell? w _ hx214_0)).trans hx214_0
                                      replace p214 := eq_true p214
                                      replace q214 := eq_true q214
                                      try go_wp2_with (first | ((with_reducible refine gate_dst (N := 8) rfl ?_); refine box_event ?hg (N := 8) ?hd (cs := #[.int .i64 0, .int .i64 0, .string (⟨#[]⟩ : ByteArray), .int .i64 0, .int .i64 0]) (t := 33) ?hr ?_; (case hd => rfl); (case hg => rfl); (case hr => first | (go_simp; done) | (go_simp; rfl)); intro gb215 hg w75 hbox hb; have n0_ := Aside0.mk (Kd.R_below (by (with_reducible repeat (first | apply Kd.R_alloc | apply Kd.R_drewN | apply Kd.R_drew)); exact HO_3.out) hb); have n1_ := Aside0.mk (Kd.R_below (Kd.R_elderB (by (with_reducible repeat (first | apply Kd.R_alloc | apply Kd.R_drewN | apply Kd.R_drew)); exact HO_5.out) gb215 (Nat.le_of_eq hg.symm)) hb); have n2_ := Aside0.mk (below_step (by repeat (first | (with_reducible first | exact HB.out | apply below_alloc | apply pw_below_drewN | apply below_drew1) | exact HB.out)) hb); have n3_ := Aside0.mk (hbox); have n4_ := Aside0.mk ((by rw [hg]; exact (below_size (by repeat (first | (with_reducible first | exact HB.out | apply below_alloc | apply pw_below_drewN | apply below_drew1) | exact HB.out))) : w.heap.size ≤ gb215)); have n5_ := Aside0.mk ((by rw [hg]; exact (below_size (by repeat (first | (with_reducible first | exact HB.out | apply below_alloc | apply pw_below_drewN | apply below_drew1) | exact HB.out))) : w.heap.size ≤ gb215)); clear HO_3; clear HO_5; clear HB; have HO_3 := n0_; have HO_5 := n1_; have HB := n2_; have BK215 := n3_; have GW215 := n4_; have GE215 := n5_; clear n0_ n1_ n2_ n3_ n4_ n5_; clear hb hbox hg; have hcz76_0 : w75.cell? ⟨gb215, 0, none⟩ = some (.int .i64 0) := (blk_cell BK215.out 0).trans rfl; have hcz76_1 : w75.cell? ⟨gb215, 1, none⟩ = some (.int .i64 0) := (blk_cell BK215.out 1).trans rfl; have hcz76_2 : w75.cell? ⟨gb215, 2, none⟩ = some (.string (⟨#[]⟩ : ByteArray)) := (blk_cell BK215.out 2).trans rfl; have hcz76_3 : w75.cell? ⟨gb215, 3, none⟩ = some (.int .i64 0) := (blk_cell BK215.out 3).trans rfl; have hcz76_4 : w75.cell? ⟨gb215, 4, none⟩ = some (.int .i64 0) := (blk_cell BK215.out 4).trans rfl; have hfz76_0 := blk_frozen BK215.out 0; have hfz76_1 := blk_frozen BK215.out 1; have hfz76_2 := blk_frozen BK215.out 2; have hfz76_3 := blk_frozen BK215.out 3; have hfz76_4 := blk_frozen BK215.out 4) | ((with_reducible refine gate_builtin (b := .append) (xs := #[.tmp 48, .tmp 50]) rfl ?_); at_builtin; refine Kd.R_append k33 (w0 := w) w.heap.size rfl (.tmp 48) (.tmp 50) 22 33 (.agg #[(.int .i64 0), (.int .i64 0), (.string ⟨#[]⟩), (.int .i64 0), (.int .i64 0)]) 48 rfl Try.underlying22 info33 rfl (by decide) (by omega) u5 x5_1 (⟨wrap64 (ji67), (x4_1.size : Int), (⟨#[]⟩ : ByteArray), 0, 0⟩ : S33) [.int .i64 (wrap64 (ji67)), .int .i64 (x4_1.size : Int), .string (⟨#[]⟩ : ByteArray), .int .i64 0, .int .i64 0] (fun k_ => k_ ≠ gb215) (fun _ => False) rfl (by first | (go_simp; done) | (go_simp; rfl)) ?aP (fun _ hk => hk.elim) ?aF ?aO ?aB ?aS ?aL ?_; (case aP => exact k33_mkM _ _ _ (⟨wrap64 (ji67), (x4_1.size : Int), (⟨#[]⟩ : ByteArray), 0, 0⟩ : S33)); (case aB => exact (by repeat (first | (with_reducible first | exact HB.out | apply below_alloc | apply pw_below_drewN | apply below_drew1 | refine below_set ?_ GE215.out) | exact HB.out))); (case aF => exact (fun k_ hk => Kd.freshB (g := gb215) (o := .cells #[.int .i64 (wrap64 (ji67)), .int .i64 (x4_1.size : Int), .string (⟨#[]⟩ : ByteArray), .int .i64 0, .int .i64 0] 33 (0, 0)) (by (with_reducible repeat (first | refine blk_drewN ?_ _ | refine blk_drew ?_ | refine blk_alloc ?_ _)); refine blk_put (cs := #[.int .i64 (wrap64 (ji67)), .int .i64 (x4_1.size : Int), .string (⟨#[]⟩ : ByteArray), .int .i64 0, .int .i64 0]) ?_ 4 _ rfl; (with_reducible repeat (first | refine blk_drewN ?_ _ | refine blk_drew ?_ | refine blk_alloc ?_ _)); refine blk_put (cs := #[.int .i64 (wrap64 (ji67)), .int .i64 (x4_1.size : Int), .string (⟨#[]⟩ : ByteArray), .int .i64 0, .int .i64 0]) ?_ 3 _ rfl; (with_reducible repeat (first | refine blk_drewN ?_ _ | refine blk_drew ?_ | refine blk_alloc ?_ _)); refine blk_put (cs := #[.int .i64 (wrap64 (ji67)), .int .i64 (x4_1.size : Int), .string (⟨#[]⟩ : ByteArray), .int .i64 0, .int .i64 0]) ?_ 2 _ rfl; (with_reducible repeat (first | refine blk_drewN ?_ _ | refine blk_drew ?_ | refine blk_alloc ?_ _)); refine blk_put (cs := #[.int .i64 (wrap64 (ji67)), .int .i64 0, .string (⟨#[]⟩ : ByteArray), .int .i64 0, .int .i64 0]) ?_ 1 _ rfl; (with_reducible repeat (first | refine blk_drewN ?_ _ | refine blk_drew ?_ | refine blk_alloc ?_ _)); refine blk_put (cs := #[.int .i64 0, .int .i64 0, .string (⟨#[]⟩ : ByteArray), .int .i64 0, .int .i64 0]) ?_ 0 _ rfl; (with_reducible repeat (first | refine blk_drewN ?_ _ | refine blk_drew ?_ | refine blk_alloc ?_ _)); exact BK215.out) k_ hk)); (case aO => exact (by (with_reducible repeat (first | apply Kd.R_alloc | apply Kd.R_drewN | apply Kd.R_drew)); exact Kd.R_mono (Kd.R_far (p := ⟨gb215, 4, none⟩) (Kd.R_far (p := ⟨gb215, 3, none⟩) (Kd.R_far (p := ⟨gb215, 2, none⟩) (Kd.R_far (p := ⟨gb215, 1, none⟩) (Kd.R_far (p := ⟨gb215, 0, none⟩) (Kd.R_mono HO_5.out (fun k_ hk => (⟨hk, hk.2⟩ : _ ∧ k_ ≠ gb215))) (fun _ hk => hk.2) (.int .i64 (wrap64 (ji67)))) (fun _ hk => hk.2) (.int .i64 (x4_1.size : Int))) (fun _ hk => hk.2) (.string (⟨#[]⟩ : ByteArray))) (fun _ hk => hk.2) (.int .i64 0)) (fun _ hk => hk.2) (.int .i64 0)) (fun _ hk => hk.1.2))); (case aS => exact (below_size (by repeat (first | (with_reducible first | exact HB.out | apply below_alloc | apply pw_below_drewN | apply below_drew1 | refine below_set ?_ GE215.out) | exact HB.out)))); (case aL => have := LMc66.out; omega); intro v241 w77 ho hb hg hat; rw [← Ny240.out] at ho; have n0_ := Aside0.mk (Kd.R_over' (by (with_reducible repeat (first | apply Kd.R_alloc | apply Kd.R_drewN | apply Kd.R_drew)); exact (Kd.R_mono (Kd.R_far (p := ⟨gb215, 4, none⟩) (Kd.R_far (p := ⟨gb215, 3, none⟩) (Kd.R_far (p := ⟨gb215, 2, none⟩) (Kd.R_far (p := ⟨gb215, 1, none⟩) (Kd.R_far (p := ⟨gb215, 0, none⟩) (Kd.R_types HO_3.out BK215.out (by decide)) (fun _ hk => hk.2) (.int .i64 (wrap64 (ji67)))) (fun _ hk => hk.2) (.int .i64 (x4_1.size : Int))) (fun _ hk => hk.2) (.string (⟨#[]⟩ : ByteArray))) (fun _ hk => hk.2) (.int .i64 0)) (fun _ hk => hk.2) (.int .i64 0)) (fun _ h_ => h_.1))) (Kd.R_typed (by (with_reducible repeat (first | apply Kd.R_alloc | apply Kd.R_drewN | apply Kd.R_drew)); exact (Kd.R_mono (Kd.R_far (p := ⟨gb215, 4, none⟩) (Kd.R_far (p := ⟨gb215, 3, none⟩) (Kd.R_far (p := ⟨gb215, 2, none⟩) (Kd.R_far (p := ⟨gb215, 1, none⟩) (Kd.R_far (p := ⟨gb215, 0, none⟩) (Kd.R_mono HO_5.out (fun k_ hk => (⟨hk, hk.2⟩ : _ ∧ k_ ≠ gb215))) (fun _ hk => hk.2) (.int .i64 (wrap64 (ji67)))) (fun _ hk => hk.2) (.int .i64 (x4_1.size : Int))) (fun _ hk => hk.2) (.string (⟨#[]⟩ : ByteArray))) (fun _ hk => hk.2) (.int .i64 0)) (fun _ hk => hk.2) (.int .i64 0)) (fun _ h_ => h_.1)))) (by decide) hg); have n1_ := Aside0.mk (blk_grown (g := gb215) (o := .cells #[.int .i64 (wrap64 (ji67)), .int .i64 (x4_1.size : Int), .string (⟨#[]⟩ : ByteArray), .int .i64 0, .int .i64 0] 33 (0, 0)) (by (with_reducible repeat (first | refine blk_drewN ?_ _ | refine blk_drew ?_ | refine blk_alloc ?_ _)); refine blk_put (cs := #[.int .i64 (wrap64 (ji67)), .int .i64 (x4_1.size : Int), .string (⟨#[]⟩ : ByteArray), .int .i64 0, .int .i64 0]) ?_ 4 _ rfl; (with_reducible repeat (first | refine blk_drewN ?_ _ | refine blk_drew ?_ | refine blk_alloc ?_ _)); refine blk_put (cs := #[.int .i64 (wrap64 (ji67)), .int .i64 (x4_1.size : Int), .string (⟨#[]⟩ : ByteArray), .int .i64 0, .int .i64 0]) ?_ 3 _ rfl; (with_reducible repeat (first | refine blk_drewN ?_ _ | refine blk_drew ?_ | refine blk_alloc ?_ _)); refine blk_put (cs := #[.int .i64 (wrap64 (ji67)), .int .i64 (x4_1.size : Int), .string (⟨#[]⟩ : ByteArray), .int .i64 0, .int .i64 0]) ?_ 2 _ rfl; (with_reducible repeat (first | refine blk_drewN ?_ _ | refine blk_drew ?_ | refine blk_alloc ?_ _)); refine blk_put (cs := #[.int .i64 (wrap64 (ji67)), .int .i64 0, .string (⟨#[]⟩ : ByteArray), .int .i64 0, .int .i64 0]) ?_ 1 _ rfl; (with_reducible repeat (first | refine blk_drewN ?_ _ | refine blk_drew ?_ | refine blk_alloc ?_ _)); refine blk_put (cs := #[.int .i64 0, .int .i64 0, .string (⟨#[]⟩ : ByteArray), .int .i64 0, .int .i64 0]) ?_ 0 _ rfl; (with_reducible repeat (first | refine blk_drewN ?_ _ | refine blk_drew ?_ | refine blk_alloc ?_ _)); exact BK215.out) hg (Kd.R_away HO_5.out (fun _ hk => hk.2))); have n2_ := Aside0.mk (hb); have n3_ := Aside0.mk (ho); clear HO_3; clear BK215; clear HB; clear HO_5; have HO_3 := n0_; have BK215 := n1_; have HB := n2_; have HO242 := n3_; clear n0_ n1_ n2_ n3_; clear ho hb hg hat))
                                      have pi247 : (0 ≤ ((ji71) : Int)) = True := eq_true (of_decide_eq_true (by first | (with_reducible assumption) | assumption))
                                      have qi247 : ((ji71) < (y244.length : Int)) = True := eq_true (of_decide_eq_true (by first | (with_reducible assumption) | assumption))
                                      have n0_ := Aside0.mk (Kd.R_drew HO_3.out)
                                      have n1_ := Aside0.mk (Kd.R_drew HO242.out)
                                      have n2_ := Aside0.mk (blk_drew BK215.out)
                                      have n3_ := Aside0.mk (below_drew1 HB.out)
                                      clear HO_3
                                      clear HO242
                                      clear BK215
                                      clear HB
                                      have HO_3 := n0_
                                      have HO242 := n1_
                                      have BK215 := n2_
                                      have HB := n3_
                                      clear n0_ n1_ n2_ n3_
                                      obtain ⟨Ao79, co79, eo79⟩ := Kd.R_slice HO_3.out
                                      (first | subst eo79 | (injection eo79 with f1_ f2_ f3_; have f4_ := f1_.symm; have f5_ := f3_.symm; clear f1_ f2_ f3_; subst f4_; subst f5_))
                                      have p243 : 0 ≤ ((ji67) : Int) := of_decide_eq_true (by first | (with_reducible assumption) | assumption)
                                      have q243 : (ji67) < (y204.length : Int) := of_decide_eq_true (by first | (with_reducible assumption) | assumption)
                                      obtain ⟨ad243, e243, hx243_0⟩ := Kd.at_string (Kd.R_reads' HO_3.out).2.2 (ji67) p243 q243
                                      cases e243
                                      replace p243 := eq_true p243
                                      replace q243 := eq_true q243
                                      refine start_ (n := 13) (S := fun w' => w'.cell? (ad243.add ((ji67)).toNat) = some (.string (rdOf ByteArray.empty y204 (ji67)))) (ds := []) #[false, false, false, false, false, false, false, false, false, false, false, false, false] (by kernel_rfl) rfl rfl (hx243_0) (fun hHeld => ?_); refine with_tabW templelaw2_LexRows.tab20 templelaw2_LexRows.bits20 (fun HT_ HW_ => ?_)
                                      generalize w77.drew = w78 at HO_3 HO242 BK215 HB hx243_0 hHeld ⊢
                                      refine pure_ (i := 0) (N := some 52) (v := ?_) (a' := ?_) #[true, false, false, false, false, false, false, false, false, false, false, false, false] rfl rfl (any_of HT_.out (by kernel_rfl)) (fun _ _ _ h => h) (Or.inl ⟨by rfl, ?_⟩) ?_ ?_
                                      rotate_left
                                      · intro w'
                                        go_simp
                                        with_reducible rfl
                                      rotate_left
                                      · simp only [Act.put, List.setIfInBounds_toArray, List.set_cons_zero, List.set_cons_succ, i64_w, i32_w]
                                        rfl
                                      refine pure_ (i := 1) (N := some 53) (v := ?_) (a' := ?_) #[true, true, false, false, false, false, false, false, false, false, false, false, false] rfl rfl (any_of HT_.out (by kernel_rfl)) (fun _ _ _ h => h) (Or.inl ⟨by rfl, ?_⟩) ?_ ?_
                                      rotate_left
                                      · intro w'
                                        go_simp
                                        with_reducible rfl
                                      rotate_left
                                      · simp only [Act.put, List.setIfInBounds_toArray, List.set_cons_zero, List.set_cons_succ, i64_w, i32_w]
                                        rfl
                                      refine pure_ (i := 2) (N := some 54) (v := ?_) (a' := ?_) #[true, true, true, false, false, false, false, false, false, false, false, false, false] rfl rfl (any_of HT_.out (by kernel_rfl)) (fun _ _ _ h => h) (Or.inl ⟨by rfl, ?_⟩) ?_ ?_
                                      rotate_left
                                      · intro w'
                                        go_simp
                                        with_reducible rfl
                                      rotate_left
                                      · simp only [Act.put, List.setIfInBounds_toArray, List.set_cons_zero, List.set_cons_succ, i64_w, i32_w]
                                        rfl
                                      refine pure_ (i := 3) (N := some 55) (v := ?_) (a' := ?_) #[true, true, true, true, false, false, false, false, false, false, false, false, false] rfl rfl (any_of HT_.out (by kernel_rfl)) (fun _ _ _ h => h) (Or.inl ⟨by rfl, ?_⟩) ?_ ?_
                                      rotate_left
                                      · intro w'
                                        go_simp
                                        with_reducible rfl
                                      rotate_left
                                      · simp only [Act.put, List.setIfInBounds_toArray, List.set_cons_zero, List.set_cons_succ, i64_w, i32_w]
                                        rfl
                                      refine pure_ (i := 7) (N := some 59) (v := ?_) (a' := ?_) #[true, true, true, true, false, false, false, true, false, false, false, false, false] rfl rfl (any_of HT_.out (by kernel_rfl)) (fun _ _ _ h => h) (Or.inl ⟨by rfl, ?_⟩) ?_ ?_
                                      rotate_left
                                      · intro w'
                                        go_simp
                                        with_reducible rfl
                                      rotate_left
                                      · simp only [Act.put, List.setIfInBounds_toArray, List.set_cons_zero, List.set_cons_succ, i64_w, i32_w]
                                        rfl
                                      refine pure_ (i := 8) (N := some 60) (v := ?_) (a' := ?_) #[true, true, true, true, false, false, false, true, true, false, false, false, false] rfl rfl (any_of HT_.out (by kernel_rfl)) (fun _ _ _ h => h) (Or.inl ⟨by rfl, ?_⟩) ?_ ?_
                                      rotate_left
                                      · intro w'
                                        go_simp
                                        with_reducible rfl
                                      rotate_left
                                      · simp only [Act.put, List.setIfInBounds_toArray, List.set_cons_zero, List.set_cons_succ, i64_w, i32_w]
                                        rfl
                                      refine take_ (i := 4) (N := some 56) (v := ?_) (a' := ?_) #[true, true, true, true, true, false, false, true, true, false, false, false, false] rfl rfl (take_ofW HT_.out HW_.out (by kernel_rfl)) (fun _ _ _ h => h) (Or.inl ⟨by rfl, ?_⟩) hHeld ?_ ?_
                                      rotate_left
                                      · intro w' s0
                                        go_simp
                                        with_reducible rfl
                                      rotate_left
                                      · simp only [Act.put, List.setIfInBounds_toArray, List.set_cons_zero, List.set_cons_succ, i64_w, i32_w]
                                        rfl
                                      refine pure_ (i := 5) (N := some 57) (v := ?_) (a' := ?_) #[true, true, true, true, true, true, false, true, true, false, false, false, false] rfl rfl (any_of HT_.out (by kernel_rfl)) (fun _ _ _ h => h) (Or.inl ⟨by rfl, ?_⟩) ?_ ?_
                                      rotate_left
                                      · intro w'
                                        go_simp
                                        with_reducible rfl
                                      rotate_left
                                      · simp only [Act.put, List.setIfInBounds_toArray, List.set_cons_zero, List.set_cons_succ, i64_w, i32_w]
                                        rfl
                                      refine one_ (i := 6) (N := some 58) #[true, true, true, true, true, true, true, true, true, false, false, false, false] rfl rfl (one_of HT_.out (by kernel_rfl)) (by decide) (fun K hK => ?_)
                                      refine Kd.R_lit_step Kd.string _ 9 ?hg (N := 58) ?hd (xs := ([(⟨#[32]⟩ : ByteArray), (⟨#[10]⟩ : ByteArray), (⟨#[35, 10]⟩ : ByteArray)] : List ByteArray)) (inner := [.string (⟨#[32]⟩ : ByteArray), .string (⟨#[10]⟩ : ByteArray), .string (⟨#[35, 10]⟩ : ByteArray)]) (ok := fun _ => True) (okp := fun _ => True) ?hr ?hp (fun _ hk => hk) trivial (Below.refl _ _) (Nat.le_refl _) (by simp) ?_; (case hd => rfl); (case hg => rfl); (case hr => first | (go_simp; done) | (go_simp; rfl)); (case hp => exact (Reps.one (show Kd.M Kd.string _ _ _ (⟨#[32]⟩ : ByteArray) [.string (⟨#[32]⟩ : ByteArray)] from rfl) (Reps.one (show Kd.M Kd.string _ _ _ (⟨#[10]⟩ : ByteArray) [.string (⟨#[10]⟩ : ByteArray)] from rfl) (Reps.one (show Kd.M Kd.string _ _ _ (⟨#[35, 10]⟩ : ByteArray) [.string (⟨#[35, 10]⟩ : ByteArray)] from rfl) (Reps.none _ _)))))
                                      intro v245 w80 ho81 hb hg_ hnew_
                                      have HS0_ := (hb.cell (World.block_lt_of_cell? _ _ (hHeld))).trans (hHeld)
                                      clear hg_ hnew_
                                      (first | rw [← Ny244.out] at ho81 | (simp only [Int.reduceToNat] at ho81; rw [← Ny244.out] at ho81))
                                      have n0_ := Aside0.mk (Kd.R_elder' (by (with_reducible repeat (first | apply Kd.R_alloc | apply Kd.R_drewN | apply Kd.R_drew)); exact HO_3.out) (Kd.R_base ho81) hb)
                                      have n1_ := Aside0.mk (Kd.R_below (by (with_reducible repeat (first | apply Kd.R_alloc | apply Kd.R_drewN | apply Kd.R_drew)); exact HO242.out) hb)
                                      have n2_ := Aside0.mk (Kd.R_lower (Kd.R_new' ho81 (Kd.R_lt (by (with_reducible repeat (first | apply Kd.R_alloc | apply Kd.R_drewN | apply Kd.R_drew)); exact HO_3.out))) (below_size (by repeat (first | (with_reducible first | exact HB.out | apply below_alloc | apply pw_below_drewN | apply below_drew1 | refine below_set ?_ GE215.out) | exact HB.out))))
                                      have n3_ := Aside0.mk (blk_below (g := gb215) (o := .cells #[.int .i64 (wrap64 (ji67)), .int .i64 (x4_1.size : Int), .string (⟨#[]⟩ : ByteArray), .int .i64 0, .int .i64 0] 33 (0, 0)) (by (with_reducible repeat (first | refine blk_drewN ?_ _ | refine blk_drew ?_ | refine blk_alloc ?_ _)); exact BK215.out) hb)
                                      have n4_ := Aside0.mk (below_step (by repeat (first | (with_reducible first | exact HB.out | apply below_alloc | apply pw_below_drewN | apply below_drew1 | refine below_set ?_ GE215.out) | exact HB.out)) hb)
                                      clear HO_3
                                      clear HO242
                                      clear BK215
                                      clear HB
                                      have HO_3 := n0_
                                      have HO242 := n1_
                                      have HO246 := n2_
                                      have BK215 := n3_
                                      have HB := n4_
                                      clear n0_ n1_ n2_ n3_ n4_
                                      clear hb ho81
                                      obtain ⟨Ao82, co82, eo82⟩ := Kd.R_slice HO246.out
                                      subst eo82
                                      obtain ⟨ado82, fo82, _⟩ := Kd.at_string (Kd.R_reads' HO246.out).2.2 0 (by decide) (by rw [Ny244.out]; simp)
                                      cases fo82
                                      refine hK.out _ _ (HS0_) (fun hHeld => ?_)
                                      clear hK K
                                      refine norm_ (a' := ?_) ?_ ?_
                                      rotate_left
                                      · show Act.put _ (some 58) _ = _
                                        simp only [Act.put, List.setIfInBounds_toArray, List.set_cons_zero, List.set_cons_succ, i64_w, i32_w]
                                        rfl
                                      refine pure_ (i := 9) (N := some 61) (v := ?_) (a' := ?_) #[true, true, true, true, true, true, true, true, true, true, false, false, false] rfl rfl (any_of HT_.out (by kernel_rfl)) (fun _ _ _ h => h) (Or.inl ⟨by rfl, ?_⟩) ?_ ?_
                                      rotate_left
                                      · intro w'
                                        go_simp
                                        with_reducible rfl
                                      rotate_left
                                      · simp only [Act.put, List.setIfInBounds_toArray, List.set_cons_zero, List.set_cons_succ, i64_w, i32_w]
                                        rfl
                                      refine one_ (i := 10) (N := some 62) #[true, true, true, true, true, true, true, true, true, true, true, false, false] rfl rfl (one_of HT_.out (by kernel_rfl)) (by decide) (fun K hK => ?_)
                                      (have p247 : 0 ≤ ((ji71) : Int) := of_decide_eq_true (by first | (with_reducible assumption) | assumption); have q247 : (ji71) < (y244.length : Int) := of_decide_eq_true (by first | (with_reducible assumption) | assumption); obtain ⟨ad247, e247, hx247_0⟩ := Kd.at_string (Kd.R_reads' HO246.out).2.2 (ji71) p247 q247; obtain rfl : ado82 = ad247 := (by injection e247))
                                      refine value_ (w1 := ?_) (v := ?_) (by rfl) rfl ?_ ?_
                                      rotate_left 2
                                      · go_simp
                                        constructor
                                        · rfl
                                        · rfl
                                      clear hx247_0
                                      refine hK.out _ _ (hHeld) (fun hHeld => ?_)
                                      clear hK K
                                      refine norm_ (a' := ?_) ?_ ?_
                                      rotate_left
                                      · show Act.put _ (some 62) _ = _
                                        simp only [Act.put, List.setIfInBounds_toArray, List.set_cons_zero, List.set_cons_succ, i64_w, i32_w]
                                        rfl
                                      refine pure_ (i := 11) (N := some 63) (v := ?_) (a' := ?_) #[true, true, true, true, true, true, true, true, true, true, true, true, false] rfl rfl (any_of HT_.out (by kernel_rfl)) (fun _ _ _ h => h) (Or.inl ⟨by rfl, ?_⟩) ?_ ?_
                                      rotate_left
                                      · intro w'
                                        go_simp
                                        with_reducible rfl
                                      rotate_left
                                      · simp only [Act.put, List.setIfInBounds_toArray, List.set_cons_zero, List.set_cons_succ, i64_w, i32_w]
                                        rfl
                                      refine pure_ (i := 12) (N := some 4) (v := ?_) (a' := ?_) #[true, true, true, true, true, true, true, true, true, true, true, true, true] rfl rfl (any_of HT_.out (by kernel_rfl)) (fun _ _ _ h => h) (Or.inl ⟨by rfl, ?_⟩) ?_ ?_
                                      rotate_left
                                      · intro w'
                                        go_simp
                                        with_reducible rfl
                                      rotate_left
                                      · simp only [Act.put, List.setIfInBounds_toArray, List.set_cons_zero, List.set_cons_succ, i64_w, i32_w]
                                        rfl
                                      refine done_ (done_of HT_.out (by kernel_rfl)) ?_
                                      try go_wp2
                                      go_roundg kj6
                                      case measure => have := HK1.out; have := HJ6.out; omega
                                      case rel => exact ⟨((x4_1 ++ (rdOf ByteArray.empty y204 (ji67))) ++ (rdOf ByteArray.empty y244 (ji71))), (y240), (wrap64 (x6_1 + 1)), (by first | rfl | (simp; done) | (simp only [← hji67, ← hji71] <;> (first | rfl | (simp; done) | (simp [i64_w]; done))) | (simp [*]; done)), (by first | rfl | (simp; done) | (simp [i64_w]; done) | (simp [*]; done) | (simp [*, i64_w]; done) | (simp [*]; unfold wrap64; omega)), H', ⟨by have := HK1.out; have := HJ6.out; omega⟩, ⟨by (with_reducible repeat (first | apply Kd.R_alloc | apply Kd.R_drewN | apply Kd.R_drew)); exact Kd.R_mono HO_3.out (fun _ hk => trivial)⟩, ⟨by (with_reducible repeat (first | apply Kd.R_alloc | apply Kd.R_drewN | apply Kd.R_drew)); exact Kd.R_mono HO242.out (fun _ hk => trivial)⟩, ⟨by repeat (first | (with_reducible first | exact HB.out | apply below_alloc | apply pw_below_drewN | apply below_drew1 | refine below_set ?_ GE215.out) | exact HB.out)⟩⟩
                                    · rw [if_neg c74] at H
                                      exact absurd H (by simp)
                                  · rw [if_neg c73] at H
                                    exact absurd H (by simp)
                                · rw [if_neg c72] at H
                                  exact absurd H (by simp)
                              · rw [if_neg c70] at H
                                exact absurd H (by simp)
                            · rw [if_neg c69] at H
                              exact absurd H (by simp)
                          · rw [if_neg c68] at H
                            exact absurd H (by simp)
                        · rw [if_neg c66] at H
                          exact absurd H (by simp)
                · rw [if_neg c11] at H
                  exact absurd H (by simp)
              · rw [if_neg c10] at H
                exact absurd H (by simp)
            · replace c9 := Bool.eq_false_iff.mpr c9
              subst c9
              have H1 : ((lex_Lex.f kj6 x4_1).bind fun bt207 => ((templelaw0_Num.f bt207.2.2).bind fun t212 => (if t212 = 0 then ((templelaw0_SameTokens.f kj6 bt207.1 x5_1).bind fun t213 => (some t213)) else (none)))) = some r := by rw [if_neg (show ¬ (false = true) by decide)] at H; exact H
              clear H
              have H := H1
              clear H1
              replace H := Option.bind_eq_some_iff.mp H
              obtain ⟨⟨t207, t208, t209⟩, A830, H⟩ := H
              replace H : ((templelaw0_Num.f t209).bind fun t212 => (if t212 = 0 then ((templelaw0_SameTokens.f kj6 t207 x5_1).bind fun t213 => (some t213)) else (none))) = some r := H
              have A83 := Aside0.mk A830
              clear A830
              replace H := Option.bind_eq_some_iff.mp H
              obtain ⟨t212, A840, H⟩ := H
              replace H : (if t212 = 0 then ((templelaw0_SameTokens.f kj6 t207 x5_1).bind fun t213 => (some t213)) else (none)) = some r := H
              have A84 := Aside0.mk A840
              clear A840
              by_cases c85 : t212 = 0
              · rw [if_pos c85] at H
                have c85b0 : (t212 == 0) = true := beq_iff_eq.mpr c85
                have c85b1 : (t212 != 0) = false := bne_eq_false_iff_eq.mpr c85
                clear c85
                replace H := Option.bind_eq_some_iff.mp H
                obtain ⟨t213, A860, H⟩ := H
                replace H : (some t213) = some r := H
                have A86 := Aside0.mk A860
                clear A860
                obtain rfl := Option.some.inj H
                go_wp2_with (first | ((with_reducible refine gate_callee (f := 10) rfl ?_); refine goesL_ (some 66) rfl rfl Try.func10 (by kernel_rfl) rfl #[.string x4_1] rfl (by (try simp only [List.map_toArray, List.map_cons, List.map_nil]); first | done | rfl | (simp only [List.length_drop, List.length_take]; rfl)) ?_; (with_reducible refine (lex_Lex.calls kj6 x4_1 t207 t208 t209 _ A83.out).mono ?_); rintro e w87 ⟨v210, rfl, ho0, hb⟩; refine ⟨_, rfl, ?_⟩; have n0_ := Aside0.mk (Kd.R_below (by (with_reducible repeat (first | apply Kd.R_alloc | apply Kd.R_drewN | apply Kd.R_drew)); exact HO_3.out) hb); have n1_ := Aside0.mk (Kd.R_elder' (by (with_reducible repeat (first | apply Kd.R_alloc | apply Kd.R_drewN | apply Kd.R_drew)); exact HO_5.out) (Kd.R_base ho0) hb); have n2_ := Aside0.mk (Kd.R_lower (Kd.R_new' ho0 (Kd.R_lt (by (with_reducible repeat (first | apply Kd.R_alloc | apply Kd.R_drewN | apply Kd.R_drew)); exact HO_5.out))) (below_size (by repeat (first | (with_reducible first | exact HB.out | apply below_alloc | apply pw_below_drewN | apply below_drew1) | exact HB.out)))); have n3_ := Aside0.mk (below_step (by repeat (first | (with_reducible first | exact HB.out | apply below_alloc | apply pw_below_drewN | apply below_drew1) | exact HB.out)) hb); clear HO_3; clear HO_5; clear HB; have HO_3 := n0_; have HO_5 := n1_; have HO211 := n2_; have HB := n3_; clear n0_ n1_ n2_ n3_; (try clear hb); (try clear hb2); (try clear hk); (try clear hi); (try clear ho0)) | ((with_reducible refine gate_callee (f := 13) rfl ?_); refine goesL_ (some 71) rfl rfl Try.func13 (by kernel_rfl) rfl #[.int .i64 t209] rfl (by (try simp only [List.map_toArray, List.map_cons, List.map_nil]); first | done | rfl | (simp only [List.length_drop, List.length_take]; rfl)) ?_; (with_reducible refine (templelaw0_Num.calls t209 t212 _ A84.out).mono ?_); rintro e w' ⟨rfl, ⟨nd, rfl⟩⟩; refine ⟨_, rfl, ?_⟩; obtain ⟨Ao88, co88, eo88⟩ := Kd.R_slice HO211.out; subst eo88; obtain ⟨Ao89, co89, eo89⟩ := Kd.R_slice HO_5.out; subst eo89) | (go_at_call 12; (with_reducible refine (templelaw0_SameTokens.calls kj6 _ _ t207 _ _ x5_1 t213 _ ?side1 ?side2 ?side3 ?side4 A86.out).mono ?_); (case side1 => repeat (first | exact (Kd.R_reads' HO211.out).2.2 | (with_reducible refine Kd.C_alloc ?_ _) | (with_reducible refine Kd.C_drewN ?_ _) | (with_reducible refine Kd.C_drew ?_))); (case side2 => exact (Kd.R_reads' HO211.out).2.1); (case side3 => repeat (first | exact (Kd.R_reads' HO_5.out).2.2 | (with_reducible refine Kd.C_alloc ?_ _) | (with_reducible refine Kd.C_drewN ?_ _) | (with_reducible refine Kd.C_drew ?_))); (case side4 => exact (Kd.R_reads' HO_5.out).2.1); rintro e w' ⟨rfl, ⟨nd, rfl⟩⟩))
                go_ret
                exact ⟨by first | rfl | (simp [errW_none, errW_some] <;> rfl) | (simp [*, errW_none, errW_some] <;> rfl), by repeat (first | (with_reducible first | exact HB.out | apply below_alloc | apply pw_below_drewN | apply below_drew1) | exact HB.out)⟩
              · rw [if_neg c85] at H
                exact absurd H (by simp)
  · replace c3 := Bool.eq_false_iff.mpr c3
    subst c3
    have H1 : (none) = some r := by rw [if_neg (show ¬ (false = true) by decide)] at H; exact H
    clear H
    have H := H1
    clear H1
    exact absurd H (by simp)

/-- THE ONE PURE STATEMENT of templelaw2_LexRows: yours. -/
def templelaw2_LexRows.Pure : Prop := ∀ (l0 : List Int), l0.length ≤ maxLen → l0.length * 8 ≤ 140737488351232 → (∀ x ∈ l0, (Lit.int .i64 x).wf = true) → ∃ k, templelaw2_LexRows.f k l0 = some true
theorem templelaw2_LexRows.walk (P : templelaw2_LexRows.Pure) (a0 : Option Addr) (len0 cap0 : Nat) (z0 : List Int) (w : World) (w0 : (a0 = none ∧ len0 = 0 ∧ cap0 = 0 ∧ z0 = []) ∨ ∃ x, a0 = some x ∧ len0 ≤ cap0 ∧ cap0 ≤ maxLen ∧ z0.length = cap0 ∧ (∀ i, i < z0.length → w.cell? (x.add i) = some (.int .i64 (z0.getD i 0))) ∧ ∀ n ∈ z0, (Lit.int .i64 n).wf = true) (y0 : len0 * 8 ≤ 140737488351232) :
    Calls Try.prog 9 #[.slice a0 len0 cap0] w fun e w' => e = .returned (.bool true) ∧ Below w.heap.size w w' := by
  obtain ⟨l0, rfl, hr0, hm0, hw0, hc0⟩ := ReadsInt.ofRowC w0
  obtain ⟨k, h⟩ := P l0 hm0 y0 hw0
  refine (templelaw2_LexRows.calls k _ _ l0 true w (Kd.C_of_reads (d := (0 : Int)) (h1 := fun _ => rfl) hr0) hc0 h).mono ?_
  rintro e w' ⟨rfl, hd⟩
  exact ⟨rfl, hd⟩

end Go.Proofs.Ytjjccngjcamgjaa.PLE
