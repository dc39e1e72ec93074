-- written by a program of the session's (wip/myprint.py) out of the translation
import Derived.Test.YtdjnpgigdchfkaaPBSx0
import Derived.Test.YtdjnpgigdchfkaaPBSx1
import Derived.Test.YtdjnpgigdchfkaaPBSx3
import Derived.Test.YtdjnpgigdchfkaaPBSx6
import Derived.Test.YtdjnpgigdchfkaaPBSx8
import Derived.Test.YtdjnpgigdchfkaaPBSx12
import Derived.Test.YtdjnpgigdchfkaaPBSx13
import Derived.Test.YtdjnpgigdchfkaaPBSx14
import Derived.Test.YtdjnpgigdchfkaaPBSx15
namespace Go.Proofs.Ytdjnpgigdchfkaa.PBS
open Go.RowKit Go.Proofs.YtdjnpgigdchfkaaW.PrintWords Go.Proofs.YtdjnpgigdchfkaaW.PrintLast Go.Proofs.YtdjnpgigdchfkaaW.PrintMore
attribute [local go_sem] max2_int min2_int max_two min_two max_three min_three max_four min_four   -- for this text's walks alone
set_option linter.unusedVariables false
set_option linter.unusedSimpArgs false

/-! ### templelaw4_awake: function 20 -/
def awIts : List S61 := [⟨1, ⟨#[97, 98]⟩, 0, 0⟩, ⟨0, ⟨#[83]⟩, 0, 0⟩]
def awRaw : List S45 := [⟨⟨#[83]⟩, [[⟨true, awIts⟩]]⟩]
def awSyms : List S56 := [⟨-1, 97, 97⟩, ⟨-1, 98, 98⟩, ⟨0, 0, 0⟩]
def awRules : List S51 := [⟨0, [⟨true, awSyms⟩]⟩]
theorem aw_num (e : Int) : templelaw0_Num.f e = some e := rfl
theorem aw_raw {w : World} {gI gC gA gD : Nat} (h1 : w.heap[gI]? = some (.cells #[.int .i64 1, .string ⟨#[97, 98]⟩, .int .i64 0, .int .i64 0, .int .i64 0, .string ⟨#[83]⟩, .int .i64 0, .int .i64 0] 61 (0, 0))) (h2 : w.heap[gC]? = some (.cells #[.bool true, .slice (some ⟨gI, 0, none⟩) 2 2] 64 (0, 0)))
  (h3 : w.heap[gA]? = some (.cells #[.slice (some ⟨gC, 0, none⟩) 1 1] 65 (0, 0))) (h4 : w.heap[gD]? = some (.cells #[.string ⟨#[83]⟩, .slice (some ⟨gA, 0, none⟩) 1 1] 45 (0, 0))) : Kd.C k45 w (some ⟨gD, 0, none⟩) awRaw.length awRaw := by
 have c1 : Kd.C k61 w (some ⟨gI, 0, none⟩) awIts.length awIts := C_lit h1 (Reps.c4 (k61_mk w ⟨1, ⟨#[97, 98]⟩, 0, 0⟩) (Reps.c4 (k61_mk w ⟨0, ⟨#[83]⟩, 0, 0⟩) (Reps.none _ _))) (by decide)
 have c2 : Kd.C k64 w (some ⟨gC, 0, none⟩) [(⟨true, awIts⟩ : S64)].length [⟨true, awIts⟩] := C_lit h2 (Reps.c2 (k64_mk w ⟨true, awIts⟩ (by decide) c1) (Reps.none _ _)) (by decide)
 have c3 : Kd.C (Kd.slice 64 k64) w (some ⟨gA, 0, none⟩) [[(⟨true, awIts⟩ : S64)]].length [[⟨true, awIts⟩]] := C_lit h3 (Reps.one ⟨_, _, rfl, by decide, c2⟩ (Reps.none _ _)) (by decide)
 exact C_lit h4 (Reps.c2 (k45_mk w ⟨⟨#[83]⟩, [[⟨true, awIts⟩]]⟩ (by decide) c3) (Reps.none _ _)) (by decide)
theorem aw_str {w : World} {g : Nat} {s : ByteArray} (h : w.heap[g]? = some (.cells #[.string s] 9 (0, 0))) : Kd.C Kd.string w (some ⟨g, 0, none⟩) [s].length [s] := C_lit h (Reps.one rfl (Reps.none _ _)) (by simp)
theorem aw_rules {w : World} {gS gC gR : Nat} (h1 : w.heap[gS]? = some (.cells #[.int .i64 (-1), .int .i64 97, .int .i64 97, .int .i64 (-1), .int .i64 98, .int .i64 98, .int .i64 0, .int .i64 0, .int .i64 0] 56 (0, 0))) (h2 : w.heap[gC]? = some (.cells #[.bool true, .slice (some ⟨gS, 0, none⟩) 3 3] 54 (0, 0)))
  (h3 : w.heap[gR]? = some (.cells #[.int .i64 0, .slice (some ⟨gC, 0, none⟩) 1 1] 51 (0, 0))) : Kd.C k51 w (some ⟨gR, 0, none⟩) awRules.length awRules := by
 have c1 : Kd.C k56 w (some ⟨gS, 0, none⟩) awSyms.length awSyms := C_lit h1 (Reps.c3 (k56_mk w ⟨-1, 97, 97⟩) (Reps.c3 (k56_mk w ⟨-1, 98, 98⟩) (Reps.c3 (k56_mk w ⟨0, 0, 0⟩) (Reps.none _ _)))) (by decide)
 have c2 : Kd.C k54 w (some ⟨gC, 0, none⟩) [(⟨true, awSyms⟩ : S54)].length [⟨true, awSyms⟩] := C_lit h2 (Reps.c2 (k54_mk w ⟨true, awSyms⟩ (by decide) c1) (Reps.none _ _)) (by decide)
 exact C_lit h3 (Reps.c2 (k51_mk w ⟨0, [⟨true, awSyms⟩]⟩ (by decide) c2) (Reps.none _ _)) (by decide)
def templelaw4_awake.f (k : Nat) : Option (Bool) :=
 (gram_Build.f k [⟨#[83]⟩] awRaw).bind fun A => (gram_Build.f k [] []).bind fun B => (gram_Build.f k [⟨#[84]⟩] awRaw).bind fun C => (templelaw0_SameGrammar.f A.1 A.2.1 A.2.2.1 0 [⟨#[83]⟩] awRules).bind fun s =>
  if s = true ∧ A.2.2.2.1.data.toList = [] ∧ A.2.2.2.2 = 0 ∧ B.2.2.2.2 = 400 ∧ C.2.2.2.1.data.toList = [84] ∧ C.2.2.2.2 = 402 ∧ mayB A.1 A.2.1 A.2.2.1 = true ∧ mayB 0 [] [] = false then some true else none
theorem templelaw4_awake.mono : ∀ k, LeO (templelaw4_awake.f k) (templelaw4_awake.f (k + 1)) := by
 intro k
 unfold templelaw4_awake.f
 repeat' first
   | (with_reducible exact gram_Build.mono _ _ _)
   | (with_reducible exact LeO.refl _)
   | (with_reducible exact LeO.none _)
   | (with_reducible refine LeO.bind ?_ (fun _ => ?_))
set_option maxHeartbeats 8000000 in
set_option maxRecDepth 100000 in
theorem templelaw4_awake.calls (k : Nat) (r : Bool) (w : World) (h : templelaw4_awake.f k = some r) :
  Calls Try.prog 20 #[] w fun e w' => e = .returned (.bool r) ∧ Below w.heap.size w w' := by
 unfold templelaw4_awake.f at h
 replace h := Option.bind_eq_some_iff.1 h
 obtain ⟨⟨a1, a2, a3, a4, a5⟩, hA, h⟩ := h
 replace h := Option.bind_eq_some_iff.1 h
 obtain ⟨⟨b1, b2, b3, b4, b5⟩, hB, h⟩ := h
 replace h := Option.bind_eq_some_iff.1 h
 obtain ⟨⟨c1, c2, c3, c4, c5⟩, hC, h⟩ := h
 replace h := Option.bind_eq_some_iff.1 h
 obtain ⟨s, hS, h⟩ := h
 dsimp only at hS h
 by_cases hp : s = true ∧ a4.data.toList = [] ∧ a5 = 0 ∧ b5 = 400 ∧ c4.data.toList = [84] ∧ c5 = 402 ∧ mayB a1 a2 a3 = true ∧ mayB 0 [] [] = false
 case neg => rw [if_neg hp] at h; cases h
 rw [if_pos hp] at h
 obtain rfl := Option.some.inj h; obtain ⟨rfl, h4, rfl, rfl, h5, rfl, hm, hm0⟩ := hp; obtain rfl : a4 = ⟨#[]⟩ := by cases a4; simp at h4; simp [h4]
 obtain rfl : c4 = ⟨#[84]⟩ := by cases c4; congr 1; exact Array.toList_inj.1 h5
 have FA := Aside0.mk hA; have FB := Aside0.mk hB; have FC := Aside0.mk hC; have FS := Aside0.mk hS
 have FM := Aside0.mk (show gram_May.f a1 a2 a3 = some true by unfold gram_May.f; rw [hm])
 have FN := Aside0.mk (show gram_May.f 0 [] [] = some false by unfold gram_May.f; rw [hm0])
 clear h h4 h5 hA hB hC hS hm hm0
 go_enter Try.func20, Try.ntmps20
 go_upto_region 2 with (fail)
 have hsz : ((((((w.alloc (.cells #[.string ⟨#[83]⟩] 9)).alloc (.cells #[.int .i64 1, .string ⟨#[97, 98]⟩, .int .i64 0, .int .i64 0, .int .i64 0, .string ⟨#[83]⟩, .int .i64 0, .int .i64 0] 61)).alloc (.cells #[.bool true, .slice (some ⟨w.heap.size + 1, 0, none⟩) 2 2] 64)).alloc (.cells #[.slice (some ⟨w.heap.size + 1 + 1, 0, none⟩) 1 1] 65)).alloc (.cells #[.string ⟨#[83]⟩, .slice (some ⟨w.heap.size + 1 + 1 + 1, 0, none⟩) 1 1] 45)).alloc (.cells #[.slice (some ⟨w.heap.size, 0, none⟩) 1 1, .slice (some ⟨w.heap.size + 1 + 1 + 1 + 1, 0, none⟩) 1 1] 25)).heap.size = w.heap.size + 1 + 1 + 1 + 1 + 1 + 1 := by simp
 have m0 := (blk_alloc (blk_alloc (blk_alloc (blk_alloc (blk_alloc (blk_new w (.cells #[.string ⟨#[83]⟩] 9)) (.cells #[.int .i64 1, .string ⟨#[97, 98]⟩, .int .i64 0, .int .i64 0, .int .i64 0, .string ⟨#[83]⟩, .int .i64 0, .int .i64 0] 61)) (.cells #[.bool true, .slice (some ⟨w.heap.size + 1, 0, none⟩) 2 2] 64)) (.cells #[.slice (some ⟨w.heap.size + 1 + 1, 0, none⟩) 1 1] 65)) (.cells #[.string ⟨#[83]⟩, .slice (some ⟨w.heap.size + 1 + 1 + 1, 0, none⟩) 1 1] 45)) (.cells #[.slice (some ⟨w.heap.size, 0, none⟩) 1 1, .slice (some ⟨w.heap.size + 1 + 1 + 1 + 1, 0, none⟩) 1 1] 25))
 have e0 : True := trivial
 have m1 := (blk_alloc (blk_alloc (blk_alloc (blk_alloc (blk_new (w.alloc (.cells #[.string ⟨#[83]⟩] 9)) (.cells #[.int .i64 1, .string ⟨#[97, 98]⟩, .int .i64 0, .int .i64 0, .int .i64 0, .string ⟨#[83]⟩, .int .i64 0, .int .i64 0] 61)) (.cells #[.bool true, .slice (some ⟨w.heap.size + 1, 0, none⟩) 2 2] 64)) (.cells #[.slice (some ⟨w.heap.size + 1 + 1, 0, none⟩) 1 1] 65)) (.cells #[.string ⟨#[83]⟩, .slice (some ⟨w.heap.size + 1 + 1 + 1, 0, none⟩) 1 1] 45)) (.cells #[.slice (some ⟨w.heap.size, 0, none⟩) 1 1, .slice (some ⟨w.heap.size + 1 + 1 + 1 + 1, 0, none⟩) 1 1] 25))
 have e1 : (w.alloc (.cells #[.string ⟨#[83]⟩] 9)).heap.size = w.heap.size + 1 := by simp
 rw [e1] at m1
 have m2 := (blk_alloc (blk_alloc (blk_alloc (blk_new ((w.alloc (.cells #[.string ⟨#[83]⟩] 9)).alloc (.cells #[.int .i64 1, .string ⟨#[97, 98]⟩, .int .i64 0, .int .i64 0, .int .i64 0, .string ⟨#[83]⟩, .int .i64 0, .int .i64 0] 61)) (.cells #[.bool true, .slice (some ⟨w.heap.size + 1, 0, none⟩) 2 2] 64)) (.cells #[.slice (some ⟨w.heap.size + 1 + 1, 0, none⟩) 1 1] 65)) (.cells #[.string ⟨#[83]⟩, .slice (some ⟨w.heap.size + 1 + 1 + 1, 0, none⟩) 1 1] 45)) (.cells #[.slice (some ⟨w.heap.size, 0, none⟩) 1 1, .slice (some ⟨w.heap.size + 1 + 1 + 1 + 1, 0, none⟩) 1 1] 25))
 have e2 : ((w.alloc (.cells #[.string ⟨#[83]⟩] 9)).alloc (.cells #[.int .i64 1, .string ⟨#[97, 98]⟩, .int .i64 0, .int .i64 0, .int .i64 0, .string ⟨#[83]⟩, .int .i64 0, .int .i64 0] 61)).heap.size = w.heap.size + 1 + 1 := by simp
 rw [e2] at m2
 have m3 := (blk_alloc (blk_alloc (blk_new (((w.alloc (.cells #[.string ⟨#[83]⟩] 9)).alloc (.cells #[.int .i64 1, .string ⟨#[97, 98]⟩, .int .i64 0, .int .i64 0, .int .i64 0, .string ⟨#[83]⟩, .int .i64 0, .int .i64 0] 61)).alloc (.cells #[.bool true, .slice (some ⟨w.heap.size + 1, 0, none⟩) 2 2] 64)) (.cells #[.slice (some ⟨w.heap.size + 1 + 1, 0, none⟩) 1 1] 65)) (.cells #[.string ⟨#[83]⟩, .slice (some ⟨w.heap.size + 1 + 1 + 1, 0, none⟩) 1 1] 45)) (.cells #[.slice (some ⟨w.heap.size, 0, none⟩) 1 1, .slice (some ⟨w.heap.size + 1 + 1 + 1 + 1, 0, none⟩) 1 1] 25))
 have e3 : (((w.alloc (.cells #[.string ⟨#[83]⟩] 9)).alloc (.cells #[.int .i64 1, .string ⟨#[97, 98]⟩, .int .i64 0, .int .i64 0, .int .i64 0, .string ⟨#[83]⟩, .int .i64 0, .int .i64 0] 61)).alloc (.cells #[.bool true, .slice (some ⟨w.heap.size + 1, 0, none⟩) 2 2] 64)).heap.size = w.heap.size + 1 + 1 + 1 := by simp
 rw [e3] at m3
 have m4 := (blk_alloc (blk_new ((((w.alloc (.cells #[.string ⟨#[83]⟩] 9)).alloc (.cells #[.int .i64 1, .string ⟨#[97, 98]⟩, .int .i64 0, .int .i64 0, .int .i64 0, .string ⟨#[83]⟩, .int .i64 0, .int .i64 0] 61)).alloc (.cells #[.bool true, .slice (some ⟨w.heap.size + 1, 0, none⟩) 2 2] 64)).alloc (.cells #[.slice (some ⟨w.heap.size + 1 + 1, 0, none⟩) 1 1] 65)) (.cells #[.string ⟨#[83]⟩, .slice (some ⟨w.heap.size + 1 + 1 + 1, 0, none⟩) 1 1] 45)) (.cells #[.slice (some ⟨w.heap.size, 0, none⟩) 1 1, .slice (some ⟨w.heap.size + 1 + 1 + 1 + 1, 0, none⟩) 1 1] 25))
 have e4 : ((((w.alloc (.cells #[.string ⟨#[83]⟩] 9)).alloc (.cells #[.int .i64 1, .string ⟨#[97, 98]⟩, .int .i64 0, .int .i64 0, .int .i64 0, .string ⟨#[83]⟩, .int .i64 0, .int .i64 0] 61)).alloc (.cells #[.bool true, .slice (some ⟨w.heap.size + 1, 0, none⟩) 2 2] 64)).alloc (.cells #[.slice (some ⟨w.heap.size + 1 + 1, 0, none⟩) 1 1] 65)).heap.size = w.heap.size + 1 + 1 + 1 + 1 := by simp
 rw [e4] at m4
 have m5 := (blk_new (((((w.alloc (.cells #[.string ⟨#[83]⟩] 9)).alloc (.cells #[.int .i64 1, .string ⟨#[97, 98]⟩, .int .i64 0, .int .i64 0, .int .i64 0, .string ⟨#[83]⟩, .int .i64 0, .int .i64 0] 61)).alloc (.cells #[.bool true, .slice (some ⟨w.heap.size + 1, 0, none⟩) 2 2] 64)).alloc (.cells #[.slice (some ⟨w.heap.size + 1 + 1, 0, none⟩) 1 1] 65)).alloc (.cells #[.string ⟨#[83]⟩, .slice (some ⟨w.heap.size + 1 + 1 + 1, 0, none⟩) 1 1] 45)) (.cells #[.slice (some ⟨w.heap.size, 0, none⟩) 1 1, .slice (some ⟨w.heap.size + 1 + 1 + 1 + 1, 0, none⟩) 1 1] 25))
 have e5 : (((((w.alloc (.cells #[.string ⟨#[83]⟩] 9)).alloc (.cells #[.int .i64 1, .string ⟨#[97, 98]⟩, .int .i64 0, .int .i64 0, .int .i64 0, .string ⟨#[83]⟩, .int .i64 0, .int .i64 0] 61)).alloc (.cells #[.bool true, .slice (some ⟨w.heap.size + 1, 0, none⟩) 2 2] 64)).alloc (.cells #[.slice (some ⟨w.heap.size + 1 + 1, 0, none⟩) 1 1] 65)).alloc (.cells #[.string ⟨#[83]⟩, .slice (some ⟨w.heap.size + 1 + 1 + 1, 0, none⟩) 1 1] 45)).heap.size = w.heap.size + 1 + 1 + 1 + 1 + 1 := by simp
 rw [e5] at m5
 have hb := below_alloc (below_alloc (below_alloc (below_alloc (below_alloc (below_alloc (Below.refl w.heap.size w) (.cells #[.string ⟨#[83]⟩] 9)) (.cells #[.int .i64 1, .string ⟨#[97, 98]⟩, .int .i64 0, .int .i64 0, .int .i64 0, .string ⟨#[83]⟩, .int .i64 0, .int .i64 0] 61)) (.cells #[.bool true, .slice (some ⟨w.heap.size + 1, 0, none⟩) 2 2] 64)) (.cells #[.slice (some ⟨w.heap.size + 1 + 1, 0, none⟩) 1 1] 65)) (.cells #[.string ⟨#[83]⟩, .slice (some ⟨w.heap.size + 1 + 1 + 1, 0, none⟩) 1 1] 45)) (.cells #[.slice (some ⟨w.heap.size, 0, none⟩) 1 1, .slice (some ⟨w.heap.size + 1 + 1 + 1 + 1, 0, none⟩) 1 1] 25)
 clear e0 e1 e2 e3 e4 e5
 have M := Aside0.mk (And.intro hb (And.intro hsz (And.intro m0 (And.intro m1 (And.intro m2 (And.intro m3 (And.intro m4 m5)))))))
 clear hb hsz m0 m1 m2 m3 m4 m5
 generalize ((((((w.alloc (.cells #[.string ⟨#[83]⟩] 9)).alloc (.cells #[.int .i64 1, .string ⟨#[97, 98]⟩, .int .i64 0, .int .i64 0, .int .i64 0, .string ⟨#[83]⟩, .int .i64 0, .int .i64 0] 61)).alloc (.cells #[.bool true, .slice (some ⟨w.heap.size + 1, 0, none⟩) 2 2] 64)).alloc (.cells #[.slice (some ⟨w.heap.size + 1 + 1, 0, none⟩) 1 1] 65)).alloc (.cells #[.string ⟨#[83]⟩, .slice (some ⟨w.heap.size + 1 + 1 + 1, 0, none⟩) 1 1] 45)).alloc (.cells #[.slice (some ⟨w.heap.size, 0, none⟩) 1 1, .slice (some ⟨w.heap.size + 1 + 1 + 1 + 1, 0, none⟩) 1 1] 25)) = W0 at *
 have hS := Aside0.mk (aw_str M.out.2.2.1)
 have hR := Aside0.mk (aw_raw M.out.2.2.2.1 M.out.2.2.2.2.1 M.out.2.2.2.2.2.1 M.out.2.2.2.2.2.2.1)
 have kk0 : W0.cell? ⟨w.heap.size + 1 + 1 + 1 + 1 + 1, 0, none⟩ = some (.slice (some ⟨w.heap.size, 0, none⟩) 1 1) := (blk_cell M.out.2.2.2.2.2.2.2 0).trans rfl
 have kk1 : W0.cell? ⟨w.heap.size + 1 + 1 + 1 + 1 + 1, 1, none⟩ = some (.slice (some ⟨w.heap.size + 1 + 1 + 1 + 1, 0, none⟩) 1 1) := (blk_cell M.out.2.2.2.2.2.2.2 1).trans rfl
 go_upto_region 3 with (first | (go_at_call 11; refine (gram_Build.calls k _ 1 [⟨#[83]⟩] _ 1 awRaw a1 a2 a3 ⟨#[]⟩ 0 _ hS.out (Nat.le_refl _) hR.out (Nat.le_refl _) FA.out).mono ?_; rintro e w1 ⟨v0, v1, rfl, h0, h1, hb⟩; (obtain ⟨P1, p1, rfl⟩ := Kd.R_slice h0); (obtain ⟨P2, p2, rfl⟩ := Kd.R_slice h1); have D1 := Aside0.mk (And.intro h0 (And.intro h1 hb)); clear h0 h1 hb))
 clear kk0 kk1
 have hZ : Below W0.heap.size W0 (w1.alloc (.cells #[.int .i64 a1, .slice P1 a2.length p1, .slice P2 a3.length p2] 28)) := below_alloc D1.out.2.2 _
 have hBx := blk_new w1 (.cells #[.int .i64 a1, .slice P1 a2.length p1, .slice P2 a3.length p2] 28)
 have hlt : w1.heap.size < (w1.alloc (.cells #[.int .i64 a1, .slice P1 a2.length p1, .slice P2 a3.length p2] 28)).heap.size ∧ W0.heap.size ≤ w1.heap.size := ⟨by simp, D1.out.2.2.size⟩
 have hq0 := Kd.R_below D1.out.1 (below_alloc (Below.refl w1.heap.size w1) (.cells #[.int .i64 a1, .slice P1 a2.length p1, .slice P2 a3.length p2] 28))
 have hq1 := Kd.R_below D1.out.2.1 (below_alloc (Below.refl w1.heap.size w1) (.cells #[.int .i64 a1, .slice P1 a2.length p1, .slice P2 a3.length p2] 28))
 have E1 := Aside0.mk (And.intro hZ (And.intro hBx (And.intro hq0 (And.intro hq1 hlt))))
 clear hZ hBx hq0 hq1 hlt D1
 generalize w1.alloc (.cells #[.int .i64 a1, .slice P1 a2.length p1, .slice P2 a3.length p2] 28) = W1 at *
 generalize w1.heap.size = g2 at *
 go_upto_region 4 with (first | (go_at_call 11; refine (gram_Build.calls k none 0 [] none 0 [] b1 b2 b3 b4 400 _ (Kd.C_nil _ _) (Nat.le_refl _) (Kd.C_nil _ _) (Nat.le_refl _) FB.out).mono ?_; rintro e w2 ⟨v0, v1, rfl, h0, h1, hb⟩; (obtain ⟨Q1, q1, rfl⟩ := Kd.R_slice h0); (obtain ⟨Q2, q2, rfl⟩ := Kd.R_slice h1); have D2 := Aside0.mk (And.intro h0 (And.intro h1 hb)); clear h0 h1 hb))
 have hZ : Below W1.heap.size W1 (w2.alloc (.cells #[.int .i64 b1, .slice Q1 b2.length q1, .slice Q2 b3.length q2] 28)) := below_alloc D2.out.2.2 _
 have hBx := blk_new w2 (.cells #[.int .i64 b1, .slice Q1 b2.length q1, .slice Q2 b3.length q2] 28)
 have hlt : w2.heap.size < (w2.alloc (.cells #[.int .i64 b1, .slice Q1 b2.length q1, .slice Q2 b3.length q2] 28)).heap.size ∧ W1.heap.size ≤ w2.heap.size := ⟨by simp, D2.out.2.2.size⟩
 have hq0 := Kd.R_below D2.out.1 (below_alloc (Below.refl w2.heap.size w2) (.cells #[.int .i64 b1, .slice Q1 b2.length q1, .slice Q2 b3.length q2] 28))
 have hq1 := Kd.R_below D2.out.2.1 (below_alloc (Below.refl w2.heap.size w2) (.cells #[.int .i64 b1, .slice Q1 b2.length q1, .slice Q2 b3.length q2] 28))
 have E2 := Aside0.mk (And.intro hZ (And.intro hBx (And.intro hq0 (And.intro hq1 hlt))))
 clear hZ hBx hq0 hq1 hlt D2
 generalize w2.alloc (.cells #[.int .i64 b1, .slice Q1 b2.length q1, .slice Q2 b3.length q2] 28) = W2 at *
 generalize w2.heap.size = g5 at *
 have b02 := Aside0.mk (E1.out.1.trans (E2.out.1.mono E1.out.1.size))
 have kk0 : W2.cell? ⟨w.heap.size + 1 + 1 + 1 + 1 + 1, 0, none⟩ = some (.slice (some ⟨w.heap.size, 0, none⟩) 1 1) := (blk_cell ((b02.out.block _ (by rw [M.out.2.1]; omega)).trans M.out.2.2.2.2.2.2.2) 0).trans rfl
 have m0 := (b02.out.block w.heap.size (by rw [M.out.2.1]; omega)).trans M.out.2.2.1
 have kk2 : W2.cell? ⟨w.heap.size, 0, none⟩ = some (.string ⟨#[83]⟩) := (blk_cell m0 0).trans rfl
 have kk3 := blk_frozen m0 0
 go_upto_region 5 with (fail)
 clear kk0 kk2 kk3
 have n0 := blk_put m0 0 (.string ⟨#[84]⟩) rfl
 have n1 := blk_far ((b02.out.block (w.heap.size + 1) (by rw [M.out.2.1]; omega)).trans M.out.2.2.2.1) (p := ⟨w.heap.size, 0, none⟩) (by show w.heap.size + 1 ≠ w.heap.size; omega) (.string ⟨#[84]⟩)
 have n2 := blk_far ((b02.out.block (w.heap.size + 1 + 1) (by rw [M.out.2.1]; omega)).trans M.out.2.2.2.2.1) (p := ⟨w.heap.size, 0, none⟩) (by show w.heap.size + 1 + 1 ≠ w.heap.size; omega) (.string ⟨#[84]⟩)
 have n3 := blk_far ((b02.out.block (w.heap.size + 1 + 1 + 1) (by rw [M.out.2.1]; omega)).trans M.out.2.2.2.2.2.1) (p := ⟨w.heap.size, 0, none⟩) (by show w.heap.size + 1 + 1 + 1 ≠ w.heap.size; omega) (.string ⟨#[84]⟩)
 have n4 := blk_far ((b02.out.block (w.heap.size + 1 + 1 + 1 + 1) (by rw [M.out.2.1]; omega)).trans M.out.2.2.2.2.2.2.1) (p := ⟨w.heap.size, 0, none⟩) (by show w.heap.size + 1 + 1 + 1 + 1 ≠ w.heap.size; omega) (.string ⟨#[84]⟩)
 have n5 := blk_far ((b02.out.block (w.heap.size + 1 + 1 + 1 + 1 + 1) (by rw [M.out.2.1]; omega)).trans M.out.2.2.2.2.2.2.2) (p := ⟨w.heap.size, 0, none⟩) (by show w.heap.size + 1 + 1 + 1 + 1 + 1 ≠ w.heap.size; omega) (.string ⟨#[84]⟩)
 have hlo : w.heap.size < W0.heap.size := by rw [M.out.2.1]; omega
 have hbox := blk_far ((E2.out.1.block g2 E1.out.2.2.2.2.1).trans E1.out.2.1) (p := ⟨w.heap.size, 0, none⟩) (by show g2 ≠ w.heap.size; have := E1.out.2.2.2.2.2; omega) (.string ⟨#[84]⟩)
 have hp0 := Kd.R_far (p := ⟨w.heap.size, 0, none⟩) (Kd.R_below (Kd.R_mono (Kd.R_bound E1.out.2.2.1) (fun k hk => hk.2.1)) E2.out.1) (fun k hk => by show k ≠ w.heap.size; have : W0.heap.size ≤ k := hk; omega) (.string ⟨#[84]⟩)
 have hp1 := Kd.R_far (p := ⟨w.heap.size, 0, none⟩) (Kd.R_below (Kd.R_mono (Kd.R_bound E1.out.2.2.2.1) (fun k hk => hk.2.1)) E2.out.1) (fun k hk => by show k ≠ w.heap.size; have : W0.heap.size ≤ k := hk; omega) (.string ⟨#[84]⟩)
 have hbl := ((M.out.1.trans (b02.out.mono M.out.1.size)).setCell (p := ⟨w.heap.size, 0, none⟩) (Nat.le_refl _) (.string ⟨#[84]⟩))
 have hg2 : g2 < (W2.setCell ⟨w.heap.size, 0, none⟩ (.string ⟨#[84]⟩)).heap.size := Nat.lt_of_lt_of_le (Nat.lt_of_lt_of_le E1.out.2.2.2.2.1 E2.out.1.size) (Nat.le_of_eq (by simp))
 have N := Aside0.mk (And.intro n0 (And.intro n1 (And.intro n2 (And.intro n3 (And.intro n4 (And.intro n5 (And.intro hbox (And.intro hp0 (And.intro hp1 (And.intro hbl hg2))))))))))
 clear n0 n1 n2 n3 n4 n5 hbox hp0 hp1 hbl hg2 hlo m0 b02 E1 E2 M hS hR
 generalize (W2.setCell ⟨w.heap.size, 0, none⟩ (.string ⟨#[84]⟩)) = W3 at *
 have hS := Aside0.mk (aw_str N.out.1)
 have hR := Aside0.mk (aw_raw N.out.2.1 N.out.2.2.1 N.out.2.2.2.1 N.out.2.2.2.2.1)
 have kk0 : W3.cell? ⟨w.heap.size + 1 + 1 + 1 + 1 + 1, 0, none⟩ = some (.slice (some ⟨w.heap.size, 0, none⟩) 1 1) := (blk_cell N.out.2.2.2.2.2.1 0).trans rfl
 have kk1 : W3.cell? ⟨w.heap.size + 1 + 1 + 1 + 1 + 1, 1, none⟩ = some (.slice (some ⟨w.heap.size + 1 + 1 + 1 + 1, 0, none⟩) 1 1) := (blk_cell N.out.2.2.2.2.2.1 1).trans rfl
 go_upto_region 6 with (first | (go_at_call 11; refine (gram_Build.calls k _ 1 [⟨#[84]⟩] _ 1 awRaw c1 c2 c3 ⟨#[84]⟩ 402 _ hS.out (Nat.le_refl _) hR.out (Nat.le_refl _) FC.out).mono ?_; rintro e w3 ⟨v0, v1, rfl, h0, h1, hb⟩; (obtain ⟨V1, u1, rfl⟩ := Kd.R_slice h0); (obtain ⟨V2, u2, rfl⟩ := Kd.R_slice h1); have D3 := Aside0.mk (And.intro h0 (And.intro h1 hb)); clear h0 h1 hb))
 clear kk0 kk1 hS hR
 have hZ : Below W3.heap.size W3 (w3.alloc (.cells #[.int .i64 c1, .slice V1 c2.length u1, .slice V2 c3.length u2] 28)) := below_alloc D3.out.2.2 _
 have hBx := blk_new w3 (.cells #[.int .i64 c1, .slice V1 c2.length u1, .slice V2 c3.length u2] 28)
 have hlt : w3.heap.size < (w3.alloc (.cells #[.int .i64 c1, .slice V1 c2.length u1, .slice V2 c3.length u2] 28)).heap.size ∧ W3.heap.size ≤ w3.heap.size := ⟨by simp, D3.out.2.2.size⟩
 have hq0 := Kd.R_below D3.out.1 (below_alloc (Below.refl w3.heap.size w3) (.cells #[.int .i64 c1, .slice V1 c2.length u1, .slice V2 c3.length u2] 28))
 have hq1 := Kd.R_below D3.out.2.1 (below_alloc (Below.refl w3.heap.size w3) (.cells #[.int .i64 c1, .slice V1 c2.length u1, .slice V2 c3.length u2] 28))
 have E3 := Aside0.mk (And.intro hZ (And.intro hBx (And.intro hq0 (And.intro hq1 hlt))))
 clear hZ hBx hq0 hq1 hlt D3
 generalize w3.alloc (.cells #[.int .i64 c1, .slice V1 c2.length u1, .slice V2 c3.length u2] 28) = W4 at *
 generalize w3.heap.size = g8 at *
 have m0 := (blk_alloc (blk_alloc (blk_alloc (blk_new W4 (.cells #[.string ⟨#[83]⟩] 9)) (.cells #[.int .i64 (-1), .int .i64 97, .int .i64 97, .int .i64 (-1), .int .i64 98, .int .i64 98, .int .i64 0, .int .i64 0, .int .i64 0] 56)) (.cells #[.bool true, .slice (some ⟨W4.heap.size + 1, 0, none⟩) 3 3] 54)) (.cells #[.int .i64 0, .slice (some ⟨W4.heap.size + 1 + 1, 0, none⟩) 1 1] 51))
 have m1 := (blk_alloc (blk_alloc (blk_new (W4.alloc (.cells #[.string ⟨#[83]⟩] 9)) (.cells #[.int .i64 (-1), .int .i64 97, .int .i64 97, .int .i64 (-1), .int .i64 98, .int .i64 98, .int .i64 0, .int .i64 0, .int .i64 0] 56)) (.cells #[.bool true, .slice (some ⟨W4.heap.size + 1, 0, none⟩) 3 3] 54)) (.cells #[.int .i64 0, .slice (some ⟨W4.heap.size + 1 + 1, 0, none⟩) 1 1] 51))
 have e1 : (W4.alloc (.cells #[.string ⟨#[83]⟩] 9)).heap.size = W4.heap.size + 1 := by simp
 rw [e1] at m1
 clear e1
 have m2 := (blk_alloc (blk_new ((W4.alloc (.cells #[.string ⟨#[83]⟩] 9)).alloc (.cells #[.int .i64 (-1), .int .i64 97, .int .i64 97, .int .i64 (-1), .int .i64 98, .int .i64 98, .int .i64 0, .int .i64 0, .int .i64 0] 56)) (.cells #[.bool true, .slice (some ⟨W4.heap.size + 1, 0, none⟩) 3 3] 54)) (.cells #[.int .i64 0, .slice (some ⟨W4.heap.size + 1 + 1, 0, none⟩) 1 1] 51))
 have e2 : ((W4.alloc (.cells #[.string ⟨#[83]⟩] 9)).alloc (.cells #[.int .i64 (-1), .int .i64 97, .int .i64 97, .int .i64 (-1), .int .i64 98, .int .i64 98, .int .i64 0, .int .i64 0, .int .i64 0] 56)).heap.size = W4.heap.size + 1 + 1 := by simp
 rw [e2] at m2
 clear e2
 have m3 := (blk_new (((W4.alloc (.cells #[.string ⟨#[83]⟩] 9)).alloc (.cells #[.int .i64 (-1), .int .i64 97, .int .i64 97, .int .i64 (-1), .int .i64 98, .int .i64 98, .int .i64 0, .int .i64 0, .int .i64 0] 56)).alloc (.cells #[.bool true, .slice (some ⟨W4.heap.size + 1, 0, none⟩) 3 3] 54)) (.cells #[.int .i64 0, .slice (some ⟨W4.heap.size + 1 + 1, 0, none⟩) 1 1] 51))
 have e3 : (((W4.alloc (.cells #[.string ⟨#[83]⟩] 9)).alloc (.cells #[.int .i64 (-1), .int .i64 97, .int .i64 97, .int .i64 (-1), .int .i64 98, .int .i64 98, .int .i64 0, .int .i64 0, .int .i64 0] 56)).alloc (.cells #[.bool true, .slice (some ⟨W4.heap.size + 1, 0, none⟩) 3 3] 54)).heap.size = W4.heap.size + 1 + 1 + 1 := by simp
 rw [e3] at m3
 clear e3
 have hb5 := below_alloc (below_alloc (below_alloc (below_alloc (Below.refl W4.heap.size W4) (.cells #[.string ⟨#[83]⟩] 9)) (.cells #[.int .i64 (-1), .int .i64 97, .int .i64 97, .int .i64 (-1), .int .i64 98, .int .i64 98, .int .i64 0, .int .i64 0, .int .i64 0] 56)) (.cells #[.bool true, .slice (some ⟨W4.heap.size + 1, 0, none⟩) 3 3] 54)) (.cells #[.int .i64 0, .slice (some ⟨W4.heap.size + 1 + 1, 0, none⟩) 1 1] 51)
 have Z := Aside0.mk (And.intro (aw_str m0) (And.intro (aw_rules m1 m2 m3) hb5))
 clear m0 m1 m2 m3 hb5
 have hW4 := (E3.out.1.block g2 N.out.2.2.2.2.2.2.2.2.2.2).trans N.out.2.2.2.2.2.2.1
 have hc4 : Aside0 (g2 < W4.heap.size) := ⟨Nat.lt_of_lt_of_le N.out.2.2.2.2.2.2.2.2.2.2 E3.out.1.size⟩
 have hcs : ∀ w', Below W4.heap.size W4 w' → w'.cell? ⟨g2, 0, none⟩ = some (.int .i64 a1) ∧ w'.cell? ⟨g2, 1, none⟩ = some (.slice P1 a2.length p1) ∧ w'.cell? ⟨g2, 2, none⟩ = some (.slice P2 a3.length p2) := fun w' h => ⟨(blk_cell ((h.block g2 hc4.out).trans hW4) 0).trans rfl, (blk_cell ((h.block g2 hc4.out).trans hW4) 1).trans rfl, (blk_cell ((h.block g2 hc4.out).trans hW4) 2).trans rfl⟩
 obtain ⟨k1, k2, k3⟩ := hcs W4 (Below.refl _ _)
 have PC := Aside0.mk (And.intro (Kd.C_below (Kd.R_reads' N.out.2.2.2.2.2.2.2.1).2.2 E3.out.1) (And.intro (Kd.C_below (Kd.R_reads' N.out.2.2.2.2.2.2.2.2.1).2.2 E3.out.1) (And.intro (Kd.R_reads' N.out.2.2.2.2.2.2.2.1).2.1 (Kd.R_reads' N.out.2.2.2.2.2.2.2.2.1).2.1)))
 have BW := Aside0.mk (N.out.2.2.2.2.2.2.2.2.2.1.trans (E3.out.1.mono N.out.2.2.2.2.2.2.2.2.2.1.size))
 go_wp2_with (first | (go_at_call 17; (with_reducible refine (gram_May.calls a1 P1 p1 a2 P2 p2 a3 true _ (Kd.C_drewN (Kd.C_below PC.out.1 hb5.out) _) PC.out.2.2.1 (Kd.C_drewN (Kd.C_below PC.out.2.1 hb5.out) _) PC.out.2.2.2 FM.out).mono ?_); rintro e w6 ⟨rfl, hq⟩; have hb6 := Aside0.mk hq; clear hq) | (go_at_call 17; refine (gram_May.calls 0 none 0 [] none 0 [] false _ (Kd.C_nil _ _) (Nat.le_refl _) (Kd.C_nil _ _) (Nat.le_refl _) FN.out).mono ?_; rintro e w7 ⟨rfl, hq⟩; have hb7 := Aside0.mk hq; clear hq) | (go_at_call 13; refine (templelaw0_SameGrammar.calls a1 P1 p1 a2 P2 p2 a3 0 _ 1 [⟨#[83]⟩] _ 1 awRules true _ (Kd.C_below PC.out.1 Z.out.2.2) PC.out.2.2.1 (Kd.C_below PC.out.2.1 Z.out.2.2) PC.out.2.2.2 Z.out.1 (Nat.le_refl _) Z.out.2.1 (Nat.le_refl _) FS.out).mono ?_; rintro e w5 ⟨rfl, hq⟩; have hb5 := Aside0.mk (Z.out.2.2.trans (hq.mono Z.out.2.2.size)); clear hq; (obtain ⟨j1, j2, j3⟩ := hcs w5 hb5.out)) | (go_at_call 14; (with_reducible refine (templelaw0_Num.calls 0 0 _ (aw_num 0)).mono ?_); rintro e w' ⟨rfl, ⟨nd, rfl⟩⟩) | (go_at_call 14; (with_reducible refine (templelaw0_Num.calls 400 400 _ (aw_num 400)).mono ?_); rintro e w' ⟨rfl, ⟨nd, rfl⟩⟩) | (go_at_call 14; (with_reducible refine (templelaw0_Num.calls 402 402 _ (aw_num 402)).mono ?_); rintro e w' ⟨rfl, ⟨nd, rfl⟩⟩))
 go_ret
 refine ⟨rfl, ?_⟩
 have y5 := BW.out.trans (hb5.out.mono BW.out.size)
 have y6 := (pw_below_drewN y5 _).trans (hb6.out.mono (pw_below_drewN y5 _).size)
 exact y6.trans (hb7.out.mono y6.size)


/-! ### templelaw4_Builds: function 3 -/
def bld.T7 : Bool × List (List Nat × List Nat) := (true, [([], []), ([0], [0]), ([], []), ([2, 1], [2]), ([1, 3], [1, 3]), ([4, 3], [4]), ([5], [5]), ([5], [5]), ([6, 7, 5, 5], [5, 6, 7]), ([8, 5], [5, 8]), ([5, 9], [5, 9])])
def bld.B7 : List Nat := [0, 1, 0, 7, 15, 31, 63, 63, 255, 511, 1023]
theorem bld.tab7 : rtab .any (opsOf Try.f3 7) = bld.T7 := by kernel_rfl
theorem bld.bits7 : waitsOk bld.T7.2 bld.B7 = true := by kernel_rfl
theorem bs_num (e : Int) : templelaw0_Num.f e = some e := rfl
theorem R_past {α : Type} {d : Kd α} {e lo hi base : Nat} {w w' : World} {ok : Nat → Prop} {v : Value} {xs : List α} (h : Kd.R d e w base ok v xs) (hb : hi ≤ base) (hs : Sim lo hi w w') : Kd.R d e w' base (fun _ => True) v xs :=
 Kd.R_mono (Kd.R_step (Kd.R_bound h) (fun k hk hlt => hs.past k (Nat.le_trans hb hk.2.1) hlt)) (fun _ _ => trivial)
def templelaw4_Builds.f (k : Nat) (l0 : List ByteArray) (l1 : List S45) (a : Int) (g1 : List ByteArray) (g2 : List S51) : Option (Bool) :=
 (templelaw0_CopyRaw.f k l0 l1).bind fun x => (gram_Build.f k x.1 x.2).bind fun A => (templeref1_Build.f k l0 l1).bind fun B =>
  (templelaw0_SameGrammar.f A.1 A.2.1 A.2.2.1 B.1 B.2.1 B.2.2.1).bind fun s1 =>
   if s1 = true ∧ A.2.2.2.1 = B.2.2.2.1 ∧ A.2.2.2.2 = B.2.2.2.2 ∧ A.2.1.all (fun y => decide (y.size ≤ 1000000)) = true then
    (templelaw0_SameRaw.f x.1 x.2 l0 l1).bind fun s2 => if s2 = true then
     (templelaw0_CopyGrammar.f k a g1 g2).bind fun Y => (gram_May.f Y.1 Y.2.1 Y.2.2).bind fun m1 => (templeref1_May.f k a g1 g2).bind fun m2 =>
      if m1 = m2 then (templelaw0_SameGrammar.f Y.1 Y.2.1 Y.2.2 a g1 g2).bind fun s3 => if s3 = true then
       (templelaw4_awake.f k).bind fun z => if z = true then some true else none
      else none else none
    else none
   else none
theorem templelaw4_Builds.mono : ∀ l0 l1 a g1 g2 k, LeO (templelaw4_Builds.f k l0 l1 a g1 g2) (templelaw4_Builds.f (k + 1) l0 l1 a g1 g2) := by
 intro l0 l1 a g1 g2 k
 unfold templelaw4_Builds.f
 repeat' first
   | (with_reducible exact templelaw0_CopyRaw.mono _ _ _)
   | (with_reducible exact gram_Build.mono _ _ _)
   | (with_reducible exact templeref1_Build.mono _ _ _)
   | (with_reducible exact templelaw0_CopyGrammar.mono _ _ _ _)
   | (with_reducible exact templeref1_May.mono _ _ _ _)
   | (with_reducible exact templelaw4_awake.mono _)
   | (with_reducible exact LeO.refl _)
   | (with_reducible exact LeO.none _)
   | (with_reducible refine LeO.ite ?_ ?_)
   | (with_reducible refine LeO.bind ?_ (fun _ => ?_))
set_option maxHeartbeats 8000000 in
set_option maxRecDepth 100000 in
theorem templelaw4_Builds.calls (k : Nat) (A0_0 : Option Addr) (c0_0 : Nat) (l0 : List ByteArray) (A0_1 : Option Addr) (c0_1 : Nat) (l1 : List S45) (a : Int) (A1_1 : Option Addr) (c1_1 : Nat) (g1 : List ByteArray) (A1_2 : Option Addr) (c1_2 : Nat) (g2 : List S51) (r : Bool) (w : World)
  (hr0_0 : Kd.C Kd.string w A0_0 l0.length l0) (hc0_0 : l0.length ≤ c0_0) (hr0_1 : Kd.C k45 w A0_1 l1.length l1) (hc0_1 : l1.length ≤ c0_1) (hr1_1 : Kd.C Kd.string w A1_1 g1.length g1) (hc1_1 : g1.length ≤ c1_1) (hr1_2 : Kd.C k51 w A1_2 g2.length g2) (hc1_2 : g2.length ≤ c1_2) (h : templelaw4_Builds.f k l0 l1 a g1 g2 = some r) :
  Calls Try.prog 3 #[.agg #[.slice A0_0 l0.length c0_0, .slice A0_1 l1.length c0_1], .agg #[.int .i64 a, .slice A1_1 g1.length c1_1, .slice A1_2 g2.length c1_2]] w fun e w' => e = .returned (.bool r) ∧ Below w.heap.size w w' := by
 unfold templelaw4_Builds.f at h
 replace h := Option.bind_eq_some_iff.1 h
 obtain ⟨⟨x0, x1⟩, hX, h⟩ := h
 replace h := Option.bind_eq_some_iff.1 h
 obtain ⟨⟨a1, a2, a3, a4, a5⟩, hA, h⟩ := h
 replace h := Option.bind_eq_some_iff.1 h
 obtain ⟨⟨b1, b2, b3, b4, b5⟩, hB, h⟩ := h
 replace h := Option.bind_eq_some_iff.1 h
 obtain ⟨s1, hS1, h⟩ := h
 dsimp only at hA hS1 h
 by_cases hp : s1 = true ∧ a4 = b4 ∧ a5 = b5 ∧ a2.all (fun y => decide (y.size ≤ 1000000)) = true
 case neg => rw [if_neg hp] at h; cases h
 rw [if_pos hp] at h
 obtain ⟨rfl, rfl, rfl, hz⟩ := hp
 replace h := Option.bind_eq_some_iff.1 h
 obtain ⟨s2, hS2, h⟩ := h
 cases s2 with
 | false => rw [if_neg (by decide)] at h; cases h
 | true =>
 rw [if_pos rfl] at h
 replace h := Option.bind_eq_some_iff.1 h
 obtain ⟨⟨y0, y1, y2⟩, hY, h⟩ := h
 replace h := Option.bind_eq_some_iff.1 h
 obtain ⟨m1, hM1, h⟩ := h
 replace h := Option.bind_eq_some_iff.1 h
 obtain ⟨m2, hM2, h⟩ := h
 dsimp only at hM1 h
 by_cases hm : m1 = m2
 case neg => rw [if_neg hm] at h; cases h
 rw [if_pos hm] at h
 subst hm
 replace h := Option.bind_eq_some_iff.1 h
 obtain ⟨s3, hS3, h⟩ := h
 cases s3 with
 | false => rw [if_neg (by decide)] at h; cases h
 | true =>
 rw [if_pos rfl] at h
 replace h := Option.bind_eq_some_iff.1 h
 obtain ⟨z, hZ, h⟩ := h
 cases z with
 | false => rw [if_neg (by decide)] at h; cases h
 | true =>
 rw [if_pos rfl] at h
 obtain rfl := Option.some.inj h; have FX := Aside0.mk hX; have FA := Aside0.mk hA; have FB := Aside0.mk hB; have F1 := Aside0.mk hS1; have F2 := Aside0.mk hS2; have FY := Aside0.mk hY; have FM1 := Aside0.mk hM1; have FM2 := Aside0.mk hM2; have F3 := Aside0.mk hS3; have FZ := Aside0.mk hZ
 have Fz : Aside0 (∀ y ∈ a2, y.size ≤ 1000000) := ⟨fun y hy => by simpa using List.all_eq_true.1 hz y hy⟩
 have L0 := Aside0.mk (And.intro hr0_0 hc0_0)
 have L1 := Aside0.mk (And.intro hr0_1 hc0_1)
 have G1 := Aside0.mk (And.intro hr1_1 hc1_1)
 have G2 := Aside0.mk (And.intro hr1_2 hc1_2)
 clear hX hA hB hS1 hS2 hY hM1 hM2 hS3 hZ hz h hr0_0 hc0_0 hr0_1 hc0_1 hr1_1 hc1_1 hr1_2 hc1_2
 go_enter Try.func3, Try.ntmps3
 go_upto_region 1 with (fail)
 have hE : Below w.heap.size w ((w.alloc (.cells #[.slice A0_0 l0.length c0_0, .slice A0_1 l1.length c0_1] 25)).alloc (.cells #[.int .i64 a, .slice A1_1 g1.length c1_1, .slice A1_2 g2.length c1_2] 28)) := below_alloc (below_alloc (Below.refl w.heap.size w) _) _
 have hs0 : w.heap.size + 2 = ((w.alloc (.cells #[.slice A0_0 l0.length c0_0, .slice A0_1 l1.length c0_1] 25)).alloc (.cells #[.int .i64 a, .slice A1_1 g1.length c1_1, .slice A1_2 g2.length c1_2] 28)).heap.size := by simp
 have hB2 := blk_alloc (blk_new w (.cells #[.slice A0_0 l0.length c0_0, .slice A0_1 l1.length c0_1] 25)) (.cells #[.int .i64 a, .slice A1_1 g1.length c1_1, .slice A1_2 g2.length c1_2] 28)
 have hB3 := blk_new (w.alloc (.cells #[.slice A0_0 l0.length c0_0, .slice A0_1 l1.length c0_1] 25)) (.cells #[.int .i64 a, .slice A1_1 g1.length c1_1, .slice A1_2 g2.length c1_2] 28)
 rw [show (w.alloc (.cells #[.slice A0_0 l0.length c0_0, .slice A0_1 l1.length c0_1] 25)).heap.size = w.heap.size + 1 from by simp] at hB3
 have E0 := Aside0.mk (And.intro hE (And.intro hs0 (And.intro hB2 hB3)))
 clear hE hs0 hB2 hB3
 try simp only [World.heap_alloc_size]
 generalize ((w.alloc (.cells #[.slice A0_0 l0.length c0_0, .slice A0_1 l1.length c0_1] 25)).alloc (.cells #[.int .i64 a, .slice A1_1 g1.length c1_1, .slice A1_2 g2.length c1_2] 28)) = w0 at *
 have k2a : w0.cell? ⟨w.heap.size, 0, none⟩ = some (.slice A0_0 l0.length c0_0) := (blk_cell E0.out.2.2.1 0).trans rfl
 have k2b : w0.cell? ⟨w.heap.size, 1, none⟩ = some (.slice A0_1 l1.length c0_1) := (blk_cell E0.out.2.2.1 1).trans rfl
 go_upto_region 2 with (first | (go_at_call 10; (with_reducible refine (templelaw0_CopyRaw.calls k _ _ l0 _ _ l1 x0 x1 _ (Kd.C_below L0.out.1 E0.out.1) L0.out.2 (Kd.C_below L1.out.1 E0.out.1) L1.out.2 FX.out).mono ?_); rintro e w1 ⟨v0, v1, rfl, h0, h1, hb⟩; (obtain ⟨X1, e1, rfl⟩ := Kd.R_slice h0); (obtain ⟨X2, e2, rfl⟩ := Kd.R_slice h1); have D1 := Aside0.mk (And.intro h0 (And.intro h1 hb)); clear h0 h1 hb))
 clear k2a k2b
 have hZ : Below w0.heap.size w0 (w1.alloc (.cells #[.slice X1 x0.length e1, .slice X2 x1.length e2] 25)) := below_alloc D1.out.2.2 _
 have hB5 := blk_new w1 (.cells #[.slice X1 x0.length e1, .slice X2 x1.length e2] 25)
 have hX0 := Kd.C_below (Kd.R_reads' D1.out.1).2.2 (below_alloc (Below.refl w1.heap.size w1) (.cells #[.slice X1 x0.length e1, .slice X2 x1.length e2] 25))
 have hX1 := Kd.C_below (Kd.R_reads' D1.out.2.1).2.2 (below_alloc (Below.refl w1.heap.size w1) (.cells #[.slice X1 x0.length e1, .slice X2 x1.length e2] 25))
 have hX2 := And.intro (Kd.R_reads' D1.out.1).2.1 (Kd.R_reads' D1.out.2.1).2.1
 have h5 : w1.heap.size < (w1.alloc (.cells #[.slice X1 x0.length e1, .slice X2 x1.length e2] 25)).heap.size ∧ w0.heap.size ≤ w1.heap.size := ⟨by simp, D1.out.2.2.size⟩
 have E1 := Aside0.mk (And.intro hZ (And.intro hB5 (And.intro hX0 (And.intro hX1 (And.intro hX2 h5)))))
 clear hZ hB5 hX0 hX1 hX2 h5 D1
 generalize w1.alloc (.cells #[.slice X1 x0.length e1, .slice X2 x1.length e2] 25) = W1 at *
 generalize w1.heap.size = g5 at *
 have k5a : W1.cell? ⟨g5, 0, none⟩ = some (.slice X1 x0.length e1) := (blk_cell E1.out.2.1 0).trans rfl
 have k5b : W1.cell? ⟨g5, 1, none⟩ = some (.slice X2 x1.length e2) := (blk_cell E1.out.2.1 1).trans rfl
 go_upto_region 3 with (first | (go_at_call 11; (with_reducible refine (gram_Build.calls k _ _ x0 _ _ x1 a1 a2 a3 a4 a5 _ E1.out.2.2.1 E1.out.2.2.2.2.1.1 E1.out.2.2.2.1 E1.out.2.2.2.2.1.2 FA.out).mono ?_); rintro e w2 ⟨v0, v1, rfl, h0, h1, hb⟩; (obtain ⟨P1, p1, rfl⟩ := Kd.R_slice h0); (obtain ⟨P2, p2, rfl⟩ := Kd.R_slice h1); have D2 := Aside0.mk (And.intro h0 (And.intro h1 hb)); clear h0 h1 hb))
 clear k5a k5b
 have hZ : Below W1.heap.size W1 (w2.alloc (.cells #[.int .i64 a1, .slice P1 a2.length p1, .slice P2 a3.length p2] 28)) := below_alloc D2.out.2.2 _
 have hB6 := blk_new w2 (.cells #[.int .i64 a1, .slice P1 a2.length p1, .slice P2 a3.length p2] 28)
 have hA0 := Kd.R_below (Kd.R_mono (Kd.R_bound D2.out.1) (fun k hk => (Nat.lt_of_lt_of_le hk.2.2.1 (by simp) : k < (w2.alloc (.cells #[.int .i64 a1, .slice P1 a2.length p1, .slice P2 a3.length p2] 28)).heap.size))) (below_alloc (Below.refl w2.heap.size w2) (.cells #[.int .i64 a1, .slice P1 a2.length p1, .slice P2 a3.length p2] 28))
 have hA1 := Kd.R_below (Kd.R_mono (Kd.R_bound D2.out.2.1) (fun k hk => (Nat.lt_of_lt_of_le hk.2.2.1 (by simp) : k < (w2.alloc (.cells #[.int .i64 a1, .slice P1 a2.length p1, .slice P2 a3.length p2] 28)).heap.size))) (below_alloc (Below.refl w2.heap.size w2) (.cells #[.int .i64 a1, .slice P1 a2.length p1, .slice P2 a3.length p2] 28))
 have h6 : w2.heap.size < (w2.alloc (.cells #[.int .i64 a1, .slice P1 a2.length p1, .slice P2 a3.length p2] 28)).heap.size ∧ W1.heap.size ≤ w2.heap.size := ⟨by simp, D2.out.2.2.size⟩
 have E2 := Aside0.mk (And.intro hZ (And.intro hB6 (And.intro hA0 (And.intro hA1 h6))))
 clear hZ hB6 hA0 hA1 h6 D2
 generalize w2.alloc (.cells #[.int .i64 a1, .slice P1 a2.length p1, .slice P2 a3.length p2] 28) = W2 at *
 generalize w2.heap.size = g6 at *
 have E02 := Aside0.mk (E0.out.1.trans ((E1.out.1.trans (E2.out.1.mono E1.out.1.size)).mono E0.out.1.size))
 have k2a : W2.cell? ⟨w.heap.size, 0, none⟩ = some (.slice A0_0 l0.length c0_0) := (blk_cell (((E1.out.1.trans (E2.out.1.mono E1.out.1.size)).block _ (by have := E0.out.2.1; omega)).trans E0.out.2.2.1) 0).trans rfl
 have k2b : W2.cell? ⟨w.heap.size, 1, none⟩ = some (.slice A0_1 l1.length c0_1) := (blk_cell (((E1.out.1.trans (E2.out.1.mono E1.out.1.size)).block _ (by have := E0.out.2.1; omega)).trans E0.out.2.2.1) 1).trans rfl
 go_upto_region 4 with (first | (go_at_call 12; (with_reducible refine (templeref1_Build.calls k _ _ l0 _ _ l1 b1 b2 b3 a4 a5 _ (Kd.C_below L0.out.1 E02.out) L0.out.2 (Kd.C_below L1.out.1 E02.out) L1.out.2 FB.out).mono ?_); rintro e w3 ⟨v0, v1, rfl, h0, h1, hb⟩; (obtain ⟨Q1, q1, rfl⟩ := Kd.R_slice h0); (obtain ⟨Q2, q2, rfl⟩ := Kd.R_slice h1); have D3 := Aside0.mk (And.intro h0 (And.intro h1 hb)); clear h0 h1 hb))
 clear k2a k2b
 have hZ : Below W2.heap.size W2 (w3.alloc (.cells #[.int .i64 b1, .slice Q1 b2.length q1, .slice Q2 b3.length q2] 28)) := below_alloc D3.out.2.2 _
 have hBx := blk_new w3 (.cells #[.int .i64 b1, .slice Q1 b2.length q1, .slice Q2 b3.length q2] 28)
 have hX0 := Kd.R_below D3.out.1 (below_alloc (Below.refl w3.heap.size w3) (.cells #[.int .i64 b1, .slice Q1 b2.length q1, .slice Q2 b3.length q2] 28))
 have hX1 := Kd.R_below D3.out.2.1 (below_alloc (Below.refl w3.heap.size w3) (.cells #[.int .i64 b1, .slice Q1 b2.length q1, .slice Q2 b3.length q2] 28))
 have hlt : w3.heap.size < (w3.alloc (.cells #[.int .i64 b1, .slice Q1 b2.length q1, .slice Q2 b3.length q2] 28)).heap.size ∧ W2.heap.size ≤ w3.heap.size := ⟨by simp, D3.out.2.2.size⟩
 have E3 := Aside0.mk (And.intro hZ (And.intro hBx (And.intro hX0 (And.intro hX1 hlt))))
 clear hZ hBx hX0 hX1 hlt D3
 generalize w3.alloc (.cells #[.int .i64 b1, .slice Q1 b2.length q1, .slice Q2 b3.length q2] 28) = W3 at *
 generalize w3.heap.size = g9 at *
 have E03 := Aside0.mk (E02.out.trans (E3.out.1.mono E02.out.size))
 have E13 := Aside0.mk (E1.out.1.trans (((E2.out.1.trans (E3.out.1.mono E2.out.1.size))).mono E1.out.1.size))
 have E23 := Aside0.mk (E2.out.1.trans (E3.out.1.mono E2.out.1.size))
 clear E02
 have hcs : ∀ w', Below W3.heap.size W3 w' → w'.cell? ⟨w.heap.size, 0, none⟩ = some (.slice A0_0 l0.length c0_0) ∧ w'.cell? ⟨w.heap.size, 1, none⟩ = some (.slice A0_1 l1.length c0_1) ∧ w'.cell? ⟨w.heap.size + 1, 0, none⟩ = some (.int .i64 a) ∧ w'.cell? ⟨w.heap.size + 1, 1, none⟩ = some (.slice A1_1 g1.length c1_1) ∧ w'.cell? ⟨w.heap.size + 1, 2, none⟩ = some (.slice A1_2 g2.length c1_2) ∧
   w'.cell? ⟨g5, 0, none⟩ = some (.slice X1 x0.length e1) ∧ w'.cell? ⟨g5, 1, none⟩ = some (.slice X2 x1.length e2) ∧ w'.cell? ⟨g6, 0, none⟩ = some (.int .i64 a1) ∧ w'.cell? ⟨g6, 1, none⟩ = some (.slice P1 a2.length p1) ∧ w'.cell? ⟨g6, 2, none⟩ = some (.slice P2 a3.length p2) ∧
   w'.cell? ⟨g9, 0, none⟩ = some (.int .i64 b1) ∧ w'.cell? ⟨g9, 1, none⟩ = some (.slice Q1 b2.length q1) ∧ w'.cell? ⟨g9, 2, none⟩ = some (.slice Q2 b3.length q2) := by
  intro w' hb
  have s0 := E0.out.2.1; have s1 := E1.out.1.size; have s2 := E2.out.1.size; have s3 := E3.out.1.size; have z1 := E1.out.2.2.2.2.2; have z2 := E2.out.2.2.2.2; have z3 := E3.out.2.2.2.2
  have n2 := (hb.block _ (by omega)).trans (((E13.out.block _ (by omega)).trans E0.out.2.2.1))
  have n3 := (hb.block _ (by omega)).trans (((E13.out.block _ (by omega)).trans E0.out.2.2.2))
  have n5 := (hb.block _ (by omega)).trans ((E23.out.block _ (by omega)).trans E1.out.2.1)
  have n6 := (hb.block _ (by omega)).trans (((E3.out.1.block _ (by omega)).trans E2.out.2.1))
  have n9 := (hb.block _ (by omega)).trans E3.out.2.1
  exact ⟨(blk_cell n2 0).trans rfl, (blk_cell n2 1).trans rfl, (blk_cell n3 0).trans rfl, (blk_cell n3 1).trans rfl, (blk_cell n3 2).trans rfl, (blk_cell n5 0).trans rfl, (blk_cell n5 1).trans rfl, (blk_cell n6 0).trans rfl, (blk_cell n6 1).trans rfl, (blk_cell n6 2).trans rfl, (blk_cell n9 0).trans rfl, (blk_cell n9 1).trans rfl, (blk_cell n9 2).trans rfl⟩
 have E1W3 := Aside0.mk (E2.out.1.trans (E3.out.1.mono E2.out.1.size))
 have CA0 := Aside0.mk (Kd.C_below (Kd.R_reads' E2.out.2.2.1).2.2 E3.out.1)
 have CA1 := Aside0.mk (Kd.C_below (Kd.R_reads' E2.out.2.2.2.1).2.2 E3.out.1)
 have CA := Aside0.mk (And.intro (Kd.R_reads' E2.out.2.2.1).2.1 (Kd.R_reads' E2.out.2.2.2.1).2.1)
 have CB0 := Aside0.mk (Kd.R_reads' E3.out.2.2.1).2.2
 have CB1 := Aside0.mk (Kd.R_reads' E3.out.2.2.2.1).2.2
 have CB := Aside0.mk (And.intro (Kd.R_reads' E3.out.2.2.1).2.1 (Kd.R_reads' E3.out.2.2.2.1).2.1)
 obtain ⟨k1, k2, k3, k4, k5, k6, k7, k8, k9, k10, k11, k12, k13⟩ := hcs W3 (Below.refl _ _)
 go_upto_region 6 with (first | (go_at_call 15; (with_reducible refine (templelaw0_SameRaw.calls _ _ x0 _ _ x1 _ _ l0 _ _ l1 true _ (Kd.C_drewN (Kd.C_below E1.out.2.2.1 (E1W3.out.trans (hb4.out.mono E1W3.out.size))) _) E1.out.2.2.2.2.1.1 (Kd.C_drewN (Kd.C_below E1.out.2.2.2.1 (E1W3.out.trans (hb4.out.mono E1W3.out.size))) _) E1.out.2.2.2.2.1.2 (Kd.C_drewN (Kd.C_below L0.out.1 (E03.out.trans (hb4.out.mono E03.out.size))) _) L0.out.2 (Kd.C_drewN (Kd.C_below L1.out.1 (E03.out.trans (hb4.out.mono E03.out.size))) _) L1.out.2 F2.out).mono ?_); rintro e w5 ⟨rfl, hq⟩; have hb5 := Aside0.mk hq; clear hq; (obtain ⟨j1, j2, j3, j4, j5, j6, j7, j8, j9, j10, j11, j12, j13⟩ := hcs w5 ((pw_below_drewN hb4.out _).trans (hb5.out.mono (pw_below_drewN hb4.out _).size)))) | (go_at_call 14; (with_reducible refine (templelaw0_Num.calls a5 a5 _ (bs_num a5)).mono ?_); rintro e w' ⟨rfl, ⟨nd, rfl⟩⟩) | (go_at_call 13; (with_reducible refine (templelaw0_SameGrammar.calls a1 _ _ a2 _ _ a3 b1 _ _ b2 _ _ b3 true _ CA0.out CA.out.1 CA1.out CA.out.2 CB0.out CB.out.1 CB1.out CB.out.2 F1.out).mono ?_); rintro e w4 ⟨rfl, hq⟩; have hb4 := Aside0.mk hq; clear hq; (obtain ⟨i1, i2, i3, i4, i5, i6, i7, i8, i9, i10, i11, i12, i13⟩ := hcs w4 hb4.out)))
 have E35 := Aside0.mk ((pw_below_drewN hb4.out _).trans (hb5.out.mono (pw_below_drewN hb4.out _).size))
 have E05 := Aside0.mk (E03.out.trans (E35.out.mono E03.out.size))
 clear i1 i2 i3 i4 i5 i6 i7 i8 i9 i10 i11 i12 i13 k1 k2 k3 k4 k5 k6 k7 k8 k9 k10 k11 k12 k13 j1 j2 j6 j7 j8 j9 j10 j11 j12 j13 CA0 CA1 CA CB0 CB1 CB hb4 hb5
 go_upto_region 7 with (first | (go_at_call 16; (with_reducible refine (templelaw0_CopyGrammar.calls k a _ _ g1 _ _ g2 y0 y1 y2 _ (Kd.C_below G1.out.1 E05.out) G1.out.2 (Kd.C_below G2.out.1 E05.out) G2.out.2 FY.out).mono ?_); rintro e w6 ⟨v0, v1, rfl, h0, h1, hb⟩; (obtain ⟨Y1, f1, rfl⟩ := Kd.R_slice h0); (obtain ⟨Y2, f2, rfl⟩ := Kd.R_slice h1); have D6 := Aside0.mk (And.intro h0 (And.intro h1 hb)); clear h0 h1 hb))
 clear j3 j4 j5
 have hZ : Below w5.heap.size w5 (w6.alloc (.cells #[.int .i64 y0, .slice Y1 y1.length f1, .slice Y2 y2.length f2] 28)) := below_alloc D6.out.2.2 _
 have hBx := blk_new w6 (.cells #[.int .i64 y0, .slice Y1 y1.length f1, .slice Y2 y2.length f2] 28)
 have hX0 := Kd.C_below (Kd.R_reads' D6.out.1).2.2 (below_alloc (Below.refl w6.heap.size w6) (.cells #[.int .i64 y0, .slice Y1 y1.length f1, .slice Y2 y2.length f2] 28))
 have hX1 := Kd.C_below (Kd.R_reads' D6.out.2.1).2.2 (below_alloc (Below.refl w6.heap.size w6) (.cells #[.int .i64 y0, .slice Y1 y1.length f1, .slice Y2 y2.length f2] 28))
 have hX2 := And.intro (Kd.R_reads' D6.out.1).2.1 (Kd.R_reads' D6.out.2.1).2.1
 have hlt : w6.heap.size < (w6.alloc (.cells #[.int .i64 y0, .slice Y1 y1.length f1, .slice Y2 y2.length f2] 28)).heap.size := by simp
 have E6 := Aside0.mk (And.intro hZ (And.intro hBx (And.intro hX0 (And.intro hX1 (And.intro hX2 hlt)))))
 clear hZ hBx hX0 hX1 hX2 hlt D6
 generalize w6.alloc (.cells #[.int .i64 y0, .slice Y1 y1.length f1, .slice Y2 y2.length f2] 28) = W6 at *
 generalize w6.heap.size = g12 at *
 have E36 := Aside0.mk (E35.out.trans (E6.out.1.mono E35.out.size))
 have E06 := Aside0.mk (E03.out.trans (E36.out.mono E03.out.size))
 clear E35 E05
 have hSz : ∀ w', Below W6.heap.size W6 w' → w'.cell? ⟨g12, 0, none⟩ = some (.int .i64 y0) ∧ w'.cell? ⟨g12, 1, none⟩ = some (.slice Y1 y1.length f1) ∧ w'.cell? ⟨g12, 2, none⟩ = some (.slice Y2 y2.length f2) ∧ w'.cell? ⟨w.heap.size + 1, 0, none⟩ = some (.int .i64 a) ∧ w'.cell? ⟨w.heap.size + 1, 1, none⟩ = some (.slice A1_1 g1.length c1_1) ∧ w'.cell? ⟨w.heap.size + 1, 2, none⟩ = some (.slice A1_2 g2.length c1_2) ∧ Aside0 (Below W6.heap.size W6 w') := by
  intro w' hb
  have n12 := (hb.block _ E6.out.2.2.2.2.2).trans E6.out.2.1
  obtain ⟨_, _, q3, q4, q5, _⟩ := hcs w' (E36.out.trans (hb.mono E36.out.size))
  exact ⟨(blk_cell n12 0).trans rfl, (blk_cell n12 1).trans rfl, (blk_cell n12 2).trans rfl, q3, q4, q5, ⟨hb⟩⟩
 have hb0 := (Below.refl W6.heap.size W6).drew
 refine start_ (n := 11) (S := fun w' => w'.cell? ⟨g12, 0, none⟩ = some (.int .i64 y0) ∧ w'.cell? ⟨g12, 1, none⟩ = some (.slice Y1 y1.length f1) ∧ w'.cell? ⟨g12, 2, none⟩ = some (.slice Y2 y2.length f2) ∧ w'.cell? ⟨w.heap.size + 1, 0, none⟩ = some (.int .i64 a) ∧ w'.cell? ⟨w.heap.size + 1, 1, none⟩ = some (.slice A1_1 g1.length c1_1) ∧ w'.cell? ⟨w.heap.size + 1, 2, none⟩ = some (.slice A1_2 g2.length c1_2) ∧ Aside0 (Below W6.heap.size W6 w')) (ds := []) #[false, false, false, false, false, false, false, false, false, false, false] (by kernel_rfl) rfl rfl ⟨(hSz _ hb0).1, (hSz _ hb0).2.1, (hSz _ hb0).2.2.1, (hSz _ hb0).2.2.2.1, (hSz _ hb0).2.2.2.2.1, (hSz _ hb0).2.2.2.2.2.1, (hSz _ hb0).2.2.2.2.2.2⟩ (fun hHeld => ?_)
 refine with_tabW bld.tab7 bld.bits7 (fun HT_ HW_ => ?_)
 refine take_ (i := 0) (N := some 53) (v := ?_) (a' := ?_) #[true, false, false, false, false, false, false, false, false, false, false] rfl rfl (take_ofW HT_.out HW_.out (by kernel_rfl)) (fun _ _ _ h => h) (Or.inl ⟨by rfl, ?_⟩) hHeld ?_ ?_
 rotate_left
 ·rintro w' ⟨s0, s1, s2, s3, s4, s5, s6⟩; go_simp; with_reducible rfl
 rotate_left
 ·simp only [Act.put, s1, s2, s3, i64_w, i32_w]
  rfl
 refine take_ (i := 2) (N := some 55) (v := ?_) (a' := ?_) #[true, false, true, false, false, false, false, false, false, false, false] rfl rfl (take_ofW HT_.out HW_.out (by kernel_rfl)) (fun _ _ _ h => h) (Or.inl ⟨by rfl, ?_⟩) hHeld ?_ ?_
 rotate_left
 ·rintro w' ⟨s0, s1, s2, s3, s4, s5, s6⟩; go_simp; with_reducible rfl
 rotate_left
 ·simp only [Act.put, s1, s2, s3, i64_w, i32_w]
  rfl
 refine one_ (i := 1) (N := some 54) #[true, true, true, false, false, false, false, false, false, false, false] rfl rfl (one_of HT_.out (by kernel_rfl)) (by decide) (fun K hK => ?_)
 refine goes_ Try.func17 (by kernel_rfl) rfl #[.agg #[.int .i64 y0, .slice Y1 y1.length f1, .slice Y2 y2.length f2]] (by rfl) rfl rfl (by (try simp only [List.map_toArray, List.map_cons, List.map_nil]); first | done | rfl) ?_
 have hbc := hHeld.2.2.2.2.2.2.out
 refine (gram_May.calls y0 Y1 f1 y1 Y2 f2 y2 m1 _ (Kd.C_below E6.out.2.2.1 hbc) E6.out.2.2.2.2.1.1 (Kd.C_below E6.out.2.2.2.1 hbc) E6.out.2.2.2.2.1.2 FM1.out).mono ?_
 rintro e wn ⟨rfl, hb⟩
 have hbn := hbc.trans (hb.mono hbc.size)
 refine ⟨_, rfl, ?_⟩
 refine hK.out _ _ ⟨(hSz _ hbn).1, (hSz _ hbn).2.1, (hSz _ hbn).2.2.1, (hSz _ hbn).2.2.2.1, (hSz _ hbn).2.2.2.2.1, (hSz _ hbn).2.2.2.2.2.1, (hSz _ hbn).2.2.2.2.2.2⟩ (fun hHeld => ?_)
 clear hK K
 refine norm_ (a' := ?_) ?_ ?_
 rotate_left
 ·show Act.put _ (some 54) _ = _
  simp only [Act.put, s1, s2, s3, i64_w, i32_w]
  rfl
 refine one_ (i := 3) (N := some 56) #[true, true, true, true, false, false, false, false, false, false, false] rfl rfl (one_of HT_.out (by kernel_rfl)) (by decide) (fun K hK => ?_)
 refine goes_ Try.func18 (by kernel_rfl) rfl #[.agg #[.int .i64 a, .slice A1_1 g1.length c1_1, .slice A1_2 g2.length c1_2]] (by rfl) rfl rfl (by (try simp only [List.map_toArray, List.map_cons, List.map_nil]); first | done | rfl) ?_
 have hbc := hHeld.2.2.2.2.2.2.out
 refine (templeref1_May.calls k a A1_1 c1_1 g1 A1_2 c1_2 g2 m1 _ (Kd.C_below G1.out.1 (E06.out.trans (hbc.mono E06.out.size))) G1.out.2 (Kd.C_below G2.out.1 (E06.out.trans (hbc.mono E06.out.size))) G2.out.2 FM2.out).mono ?_
 rintro e wn ⟨rfl, hb⟩
 have hbn := hbc.trans (hb.mono hbc.size)
 refine ⟨_, rfl, ?_⟩
 refine hK.out _ _ ⟨(hSz _ hbn).1, (hSz _ hbn).2.1, (hSz _ hbn).2.2.1, (hSz _ hbn).2.2.2.1, (hSz _ hbn).2.2.2.2.1, (hSz _ hbn).2.2.2.2.2.1, (hSz _ hbn).2.2.2.2.2.2⟩ (fun hHeld => ?_)
 clear hK K
 refine norm_ (a' := ?_) ?_ ?_
 rotate_left
 ·show Act.put _ (some 56) _ = _
  simp only [Act.put, s1, s2, s3, i64_w, i32_w]
  rfl
 refine pure_ (i := 4) (N := some 57) (v := ?_) (a' := ?_) #[true, true, true, true, true, false, false, false, false, false, false] rfl rfl (any_of HT_.out (by kernel_rfl)) (fun _ _ _ h => h) (Or.inl ⟨by rfl, ?_⟩) ?_ ?_
 rotate_left
 ·intro w'
  go_simp; with_reducible rfl
 rotate_left
 ·simp only [Act.put, s1, s2, s3, i64_w, i32_w]
  rfl
 refine pure_ (i := 5) (N := some 58) (v := ?_) (a' := ?_) #[true, true, true, true, true, true, false, false, false, false, false] rfl rfl (any_of HT_.out (by kernel_rfl)) (fun _ _ _ h => h) (Or.inl ⟨by rfl, ?_⟩) ?_ ?_
 rotate_left
 ·intro w'
  go_simp; with_reducible rfl
 rotate_left
 ·simp only [Act.put, s1, s2, s3, i64_w, i32_w]
  rfl
 refine take_ (i := 6) (N := some 59) (v := ?_) (a' := ?_) #[true, true, true, true, true, true, true, false, false, false, false] rfl rfl (take_ofW HT_.out HW_.out (by kernel_rfl)) (fun _ _ _ h => h) (Or.inl ⟨by rfl, ?_⟩) hHeld ?_ ?_
 rotate_left
 ·rintro w' ⟨s0, s1, s2, s3, s4, s5, s6⟩; go_simp; with_reducible rfl
 rotate_left
 ·simp only [Act.put, s1, s2, s3, i64_w, i32_w]
  rfl
 refine take_ (i := 7) (N := some 60) (v := ?_) (a' := ?_) #[true, true, true, true, true, true, true, true, false, false, false] rfl rfl (take_ofW HT_.out HW_.out (by kernel_rfl)) (fun _ _ _ h => h) (Or.inl ⟨by rfl, ?_⟩) hHeld ?_ ?_
 rotate_left
 ·rintro w' ⟨s0, s1, s2, s3, s4, s5, s6⟩; go_simp; with_reducible rfl
 rotate_left
 ·simp only [Act.put, s1, s2, s3, i64_w, i32_w]
  rfl
 refine one_ (i := 8) (N := some 61) #[true, true, true, true, true, true, true, true, true, false, false] rfl rfl (one_of HT_.out (by kernel_rfl)) (by decide) (fun K hK => ?_)
 refine goes_ Try.func13 (by kernel_rfl) rfl #[.agg #[.int .i64 y0, .slice Y1 y1.length f1, .slice Y2 y2.length f2], .agg #[.int .i64 a, .slice A1_1 g1.length c1_1, .slice A1_2 g2.length c1_2]] (by rfl) rfl rfl (by (try simp only [List.map_toArray, List.map_cons, List.map_nil]); first | done | rfl) ?_
 have hbc := hHeld.2.2.2.2.2.2.out
 refine (templelaw0_SameGrammar.calls y0 Y1 f1 y1 Y2 f2 y2 a A1_1 c1_1 g1 A1_2 c1_2 g2 true _ (Kd.C_below E6.out.2.2.1 hbc) E6.out.2.2.2.2.1.1 (Kd.C_below E6.out.2.2.2.1 hbc) E6.out.2.2.2.2.1.2 (Kd.C_below G1.out.1 (E06.out.trans (hbc.mono E06.out.size))) G1.out.2 (Kd.C_below G2.out.1 (E06.out.trans (hbc.mono E06.out.size))) G2.out.2 F3.out).mono ?_
 rintro e wn ⟨rfl, hb⟩
 have hbn := hbc.trans (hb.mono hbc.size)
 refine ⟨_, rfl, ?_⟩
 refine hK.out _ _ ⟨(hSz _ hbn).1, (hSz _ hbn).2.1, (hSz _ hbn).2.2.1, (hSz _ hbn).2.2.2.1, (hSz _ hbn).2.2.2.2.1, (hSz _ hbn).2.2.2.2.2.1, (hSz _ hbn).2.2.2.2.2.2⟩ (fun hHeld => ?_)
 clear hK K
 refine norm_ (a' := ?_) ?_ ?_
 rotate_left
 ·show Act.put _ (some 61) _ = _
  simp only [Act.put, s1, s2, s3, i64_w, i32_w]
  rfl
 refine pure_ (i := 9) (N := some 62) (v := ?_) (a' := ?_) #[true, true, true, true, true, true, true, true, true, true, false] rfl rfl (any_of HT_.out (by kernel_rfl)) (fun _ _ _ h => h) (Or.inl ⟨by rfl, ?_⟩) ?_ ?_
 rotate_left
 ·intro w'
  go_simp; with_reducible rfl
 rotate_left
 ·simp only [Act.put, s1, s2, s3, i64_w, i32_w]
  rfl
 refine pure_ (i := 10) (N := some 63) (v := ?_) (a' := ?_) #[true, true, true, true, true, true, true, true, true, true, true] rfl rfl (any_of HT_.out (by kernel_rfl)) (fun _ _ _ h => h) (Or.inl ⟨by rfl, ?_⟩) ?_ ?_
 rotate_left
 ·intro w'
  go_simp; with_reducible rfl
 rotate_left
 ·simp only [Act.put, s1, s2, s3, i64_w, i32_w]
  rfl
 refine done_ (done_of HT_.out (by kernel_rfl)) ?_
 have hbF := hHeld.2.2.2.2.2.2.out; clear hHeld HT_ HW_ hSz hb0
 have E3S := Aside0.mk (E36.out.trans (hbF.mono E36.out.size))
 have E2S := Aside0.mk (E3.out.1.trans (E3S.out.mono E3.out.1.size))
 have E0S := Aside0.mk (E06.out.trans (hbF.mono E06.out.size))
 have E1S := Aside0.mk (E2.out.1.trans (E2S.out.mono E2.out.1.size))
 clear hbF E36 E06; obtain ⟨_, _, _, _, _, _, _, k8, k9, k10, _⟩ := hcs _ E3S.out
 go_upto_region 10 with (first | (go_at_call 19; (with_reducible refine (templelaw0_SpoilGrammar.spoils (lo := W1.heap.size) (hi := W2.heap.size) _ a1 P1 p1 a2 P2 p2 a3 (Kd.R_below E2.out.2.2.1 E2S.out) (Kd.R_below E2.out.2.2.2.1 E2S.out) E2S.out.size (Nat.le_trans E2.out.1.size E2S.out.size) Fz.out).mono ?_); rintro e w7 ⟨rfl, hs⟩; have HS7 := Aside0.mk hs; clear hs))
 clear k8 k9 k10
 have E17 := Aside0.mk (E1S.out.trans HS7.out.below)
 have s01 : Aside0 (w.heap.size + 2 ≤ W1.heap.size) := ⟨by
  have := E0.out.2.1
  have := E1.out.1.size
  omega⟩
 have E07 := Aside0.mk (E0S.out.trans (HS7.out.below.mono (Nat.le_trans (Nat.le_add_right _ 2) s01.out)))
 have k5a := (blk_cell ((E17.out.block g5 E1.out.2.2.2.2.2.1).trans E1.out.2.1) 0).trans rfl
 have k5b := (blk_cell ((E17.out.block g5 E1.out.2.2.2.2.2.1).trans E1.out.2.1) 1).trans rfl
 have HQ1 := Aside0.mk (R_past (Kd.R_below E3.out.2.2.1 E3S.out) (Nat.le_refl _) HS7.out)
 have HQ2 := Aside0.mk (R_past (Kd.R_below E3.out.2.2.2.1 E3S.out) (Nat.le_refl _) HS7.out)
 have HB9 := Aside0.mk ((HS7.out.past g9 E3.out.2.2.2.2.2 (Nat.lt_of_lt_of_le E3.out.2.2.2.2.1 E3S.out.size)).trans ((E3S.out.block g9 E3.out.2.2.2.2.1).trans E3.out.2.1))
 have HB2 := Aside0.mk ((HS7.out.below.block w.heap.size (by have := s01.out; omega)).trans ((E1S.out.block w.heap.size (by have := s01.out; omega)).trans ((E1.out.1.block w.heap.size (by have := E0.out.2.1; omega)).trans E0.out.2.2.1)))
 go_upto_region 11 with (first | (go_at_call 11; (with_reducible refine (gram_Build.calls k _ _ x0 _ _ x1 a1 a2 a3 a4 a5 _ (Kd.C_below E1.out.2.2.1 E17.out) E1.out.2.2.2.2.1.1 (Kd.C_below E1.out.2.2.2.1 E17.out) E1.out.2.2.2.2.1.2 FA.out).mono ?_); rintro e w8 ⟨v0, v1, rfl, h0, h1, hb⟩; (obtain ⟨V1, u1, rfl⟩ := Kd.R_slice h0); (obtain ⟨V2, u2, rfl⟩ := Kd.R_slice h1); have D8 := Aside0.mk (And.intro h0 (And.intro h1 hb)); clear h0 h1 hb))
 clear k5a k5b
 have hZ : Below w7.heap.size w7 (w8.alloc (.cells #[.int .i64 a1, .slice V1 a2.length u1, .slice V2 a3.length u2] 28)) := below_alloc D8.out.2.2 _
 have hBx := blk_new w8 (.cells #[.int .i64 a1, .slice V1 a2.length u1, .slice V2 a3.length u2] 28)
 have hX0 := Kd.C_below (Kd.R_reads' D8.out.1).2.2 (below_alloc (Below.refl w8.heap.size w8) (.cells #[.int .i64 a1, .slice V1 a2.length u1, .slice V2 a3.length u2] 28))
 have hX1 := Kd.C_below (Kd.R_reads' D8.out.2.1).2.2 (below_alloc (Below.refl w8.heap.size w8) (.cells #[.int .i64 a1, .slice V1 a2.length u1, .slice V2 a3.length u2] 28))
 have hX2 := And.intro (Kd.R_reads' D8.out.1).2.1 (Kd.R_reads' D8.out.2.1).2.1
 have E8 := Aside0.mk (And.intro hZ (And.intro hBx (And.intro hX0 (And.intro hX1 hX2))))
 clear hZ hBx hX0 hX1 hX2 D8
 generalize w8.alloc (.cells #[.int .i64 a1, .slice V1 a2.length u1, .slice V2 a3.length u2] 28) = W8 at *
 generalize w8.heap.size = g13 at *
 have l9 : Aside0 (g9 < w7.heap.size) := ⟨Nat.lt_of_lt_of_le E3.out.2.2.2.2.1 (Nat.le_trans E3S.out.size HS7.out.below.size)⟩
 have l17 : Aside0 (W1.heap.size ≤ w7.heap.size) := ⟨E17.out.size⟩
 have k1 : W8.cell? ⟨g13, 0, none⟩ = some (.int .i64 a1) := (blk_cell E8.out.2.1 0).trans rfl
 have k2 : W8.cell? ⟨g13, 1, none⟩ = some (.slice V1 a2.length u1) := (blk_cell E8.out.2.1 1).trans rfl
 have k3 : W8.cell? ⟨g13, 2, none⟩ = some (.slice V2 a3.length u2) := (blk_cell E8.out.2.1 2).trans rfl
 have k4 : W8.cell? ⟨g9, 0, none⟩ = some (.int .i64 b1) := (blk_cell ((E8.out.1.block g9 l9.out).trans HB9.out) 0).trans rfl
 have k5 : W8.cell? ⟨g9, 1, none⟩ = some (.slice Q1 b2.length q1) := (blk_cell ((E8.out.1.block g9 l9.out).trans HB9.out) 1).trans rfl
 have k6 : W8.cell? ⟨g9, 2, none⟩ = some (.slice Q2 b3.length q2) := (blk_cell ((E8.out.1.block g9 l9.out).trans HB9.out) 2).trans rfl
 have E78 : ∀ w', Below W8.heap.size W8 w' → Below w7.heap.size w7 w' := fun w' h => E8.out.1.trans (h.mono E8.out.1.size)
 have hcl : ∀ w', Below W8.heap.size W8 w' → w'.cell? ⟨g5, 0, none⟩ = some (.slice X1 x0.length e1) ∧ w'.cell? ⟨g5, 1, none⟩ = some (.slice X2 x1.length e2) ∧ w'.cell? ⟨w.heap.size, 0, none⟩ = some (.slice A0_0 l0.length c0_0) ∧ w'.cell? ⟨w.heap.size, 1, none⟩ = some (.slice A0_1 l1.length c0_1) := by
  intro w' h
  have n5 := ((E78 w' h).block g5 (Nat.lt_of_lt_of_le E1.out.2.2.2.2.2.1 l17.out)).trans ((E17.out.block g5 E1.out.2.2.2.2.2.1).trans E1.out.2.1)
  have n2 := ((E78 w' h).block w.heap.size (by have := s01.out; have := l17.out; omega)).trans HB2.out
  exact ⟨(blk_cell n5 0).trans rfl, (blk_cell n5 1).trans rfl, (blk_cell n2 0).trans rfl, (blk_cell n2 1).trans rfl⟩
 have cV := Aside0.mk (And.intro E8.out.2.2.1 (And.intro E8.out.2.2.2.1 E8.out.2.2.2.2))
 have cQ := Aside0.mk (And.intro (Kd.C_below (Kd.R_reads' HQ1.out).2.2 E8.out.1) (And.intro (Kd.C_below (Kd.R_reads' HQ2.out).2.2 E8.out.1) (And.intro (Kd.R_reads' HQ1.out).2.1 (Kd.R_reads' HQ2.out).2.1)))
 go_wp2_with (first | (go_at_call 20; (with_reducible refine (templelaw4_awake.calls k true _ FZ.out).mono ?_); rintro e w11 ⟨rfl, hq⟩; have hb11 := Aside0.mk hq; clear hq) | (go_at_call 15; (with_reducible refine (templelaw0_SameRaw.calls _ _ x0 _ _ x1 _ _ l0 _ _ l1 true _ (Kd.C_below E1.out.2.2.1 (E17.out.trans ((E78 _ hb9.out).mono l17.out))) E1.out.2.2.2.2.1.1 (Kd.C_below E1.out.2.2.2.1 (E17.out.trans ((E78 _ hb9.out).mono l17.out))) E1.out.2.2.2.2.1.2 (Kd.C_below L0.out.1 (E07.out.trans ((E78 _ hb9.out).mono E07.out.size))) L0.out.2 (Kd.C_below L1.out.1 (E07.out.trans ((E78 _ hb9.out).mono E07.out.size))) L1.out.2 F2.out).mono ?_); rintro e w10 ⟨rfl, hq⟩; have hb10 := Aside0.mk hq; clear hq) | (go_at_call 13; (with_reducible refine (templelaw0_SameGrammar.calls a1 _ _ a2 _ _ a3 b1 _ _ b2 _ _ b3 true _ cV.out.1 cV.out.2.2.1 cV.out.2.1 cV.out.2.2.2 cQ.out.1 cQ.out.2.2.1 cQ.out.2.1 cQ.out.2.2.2 F1.out).mono ?_); rintro e w9 ⟨rfl, hq⟩; have hb9 := Aside0.mk hq; clear hq; (obtain ⟨j1, j2, j3, j4⟩ := hcl w9 hb9.out)))
 go_ret
 refine ⟨rfl, ?_⟩
 have y9 := E07.out.trans ((E78 _ hb9.out).mono E07.out.size)
 have y10 := y9.trans (hb10.out.mono y9.size)
 exact y10.trans (hb11.out.mono y10.size)


end Go.Proofs.Ytdjnpgigdchfkaa.PBS
