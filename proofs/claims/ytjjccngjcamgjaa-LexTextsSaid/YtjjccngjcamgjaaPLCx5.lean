-- written by a program of the session's (wip/myprint.py) out of the translation
import Derived.Test.YtjjccngjcamgjaaPLCx0
import Derived.Test.YtjjccngjcamgjaaPLCx3
import Derived.Test.YtjjccngjcamgjaaPLCx4
namespace Go.Proofs.Ytjjccngjcamgjaa.PLC
open Go.RowKit Go.Proofs.YtjjccngjcamgjaaW.PrintWords Go.Proofs.YtjjccngjcamgjaaW.PrintLast Go.Proofs.YtjjccngjcamgjaaW.PrintMore
attribute [local go_sem] max2_int min2_int max_two min_two max_three min_three max_four min_four   -- for this text's walks alone
set_option linter.unusedVariables false
set_option linter.unusedSimpArgs false

/-! ### templelaw2_LexNames: function 7 -/
def templelaw2_LexNames.l0 : Nat → Int → Int → ByteArray → Int → Option (Bool)
  | 0, _, _, _, _ => none
  | k + 1, x1, x5, x6, x7 => if x7 < x5 then (if 0 ≤ (Int.tmod (wrap64 (x7 + (Go.bits .and .i64 x1 3))) 6) then (if (Int.tmod (wrap64 (x7 + (Go.bits .and .i64 x1 3))) 6) < 6 then ((some (([bt (⟨#[97, 90, 95, 113, 48, 57]⟩ : ByteArray) (Int.tmod (wrap64 (x7 + (Go.bits .and .i64 x1 3))) 6)] : List Int) : List Int)).bind fun y227 => (if x6.size + (strOfNums y227).size ≤ 9223372036854775807 then (templelaw2_LexNames.l0 k x1 x5 (x6 ++ (strOfNums y227)) (wrap64 (x7 + 1))) else (none))) else (none)) else (none)) else (if 1 ≤ (x6.size : Int) then (if 1 + (x6.extract 1 x6.size).size ≤ 9223372036854775807 then (if 1 + ((⟨#[110]⟩ : ByteArray) ++ (x6.extract 1 x6.size)).size ≤ 9223372036854775807 then (if ((⟨#[32]⟩ : ByteArray) ++ ((⟨#[110]⟩ : ByteArray) ++ (x6.extract 1 x6.size))).size + 1 ≤ 9223372036854775807 then ((lex_Lex.f k (((⟨#[32]⟩ : ByteArray) ++ ((⟨#[110]⟩ : ByteArray) ++ (x6.extract 1 x6.size))) ++ (⟨#[59]⟩ : ByteArray))).bind fun bt230 => (if x5 > 32 then ((templelaw0_Num.f bt230.2.2).bind fun t235 => (if t235 = 201 then (if bt230.2.1 = 1 then (some ((bt230.1.length : Int) == 0)) else (none)) else (none))) else ((templelaw0_Num.f bt230.2.2).bind fun t236 => (if t236 = 0 then ((templelaw0_SameTokens.f k bt230.1 (([(⟨0, 1, (⟨#[110]⟩ : ByteArray) ++ (x6.extract 1 x6.size), 0, 0⟩ : S33), (⟨8, wrap64 (1 + x5), (⟨#[]⟩ : ByteArray), 0, 0⟩ : S33)] : List (S33)))).bind fun t240 => (some t240)) else (none))))) else (none)) else (none)) else (none)) else (none))
def templelaw2_LexNames.f (k : Nat) (a0 : Int) (a1 : Int) : Option (Bool) := (templelaw2_awake.f k).bind fun t226 => (if t226 = true then (templelaw2_LexNames.l0 k a1 (wrap64 (1 + (Go.bits .and .i64 a0 63))) (⟨#[]⟩ : ByteArray) 0) else (none))
theorem templelaw2_LexNames.mono_l : ∀ k, (∀ y0 y1 y2 y3, LeO (templelaw2_LexNames.l0 k y0 y1 y2 y3) (templelaw2_LexNames.l0 (k + 1) y0 y1 y2 y3))
  | 0 => fun _ _ _ _ r h => by simp [templelaw2_LexNames.l0] at h
  | k + 1 => by
    have ih0 := templelaw2_LexNames.mono_l k
    · intro y0 y1 y2 y3
      unfold templelaw2_LexNames.l0
      repeat' first
      | (with_reducible exact ih0 _ _ _ _)
      | (with_reducible exact lex_Lex.mono _ _)
      | (with_reducible exact templelaw0_SameTokens.mono _ _ _)
      | (with_reducible exact templelaw2_awake.mono _)
      | (with_reducible exact LeO.refl _)
      | (with_reducible exact LeO.none _)
      | (with_reducible refine LeO.ite ?_ ?_)
      | (with_reducible refine LeO.bind ?_ (fun _ => ?_))
      | exact ih0 _ _ _ _
      | exact lex_Lex.mono _ _
      | exact templelaw0_SameTokens.mono _ _ _
      | exact templelaw2_awake.mono _
      | exact LeO.none _
      | refine LeO.ite ?_ ?_
      | refine LeO.bind ?_ (fun _ => ?_)
theorem templelaw2_LexNames.mono : ∀ a0 a1 k, LeO (templelaw2_LexNames.f k a0 a1) (templelaw2_LexNames.f (k + 1) a0 a1) := by
  intro a0 a1 k
  have ih0 := templelaw2_LexNames.mono_l k
  unfold templelaw2_LexNames.f
  repeat' first
      | (with_reducible exact ih0 _ _ _ _)
      | (with_reducible exact lex_Lex.mono _ _)
      | (with_reducible exact templelaw0_SameTokens.mono _ _ _)
      | (with_reducible exact templelaw2_awake.mono _)
      | (with_reducible exact LeO.refl _)
      | (with_reducible exact LeO.none _)
      | (with_reducible refine LeO.ite ?_ ?_)
      | (with_reducible refine LeO.bind ?_ (fun _ => ?_))
      | exact ih0 _ _ _ _
      | exact lex_Lex.mono _ _
      | exact templelaw0_SameTokens.mono _ _ _
      | exact templelaw2_awake.mono _
      | exact LeO.none _
      | refine LeO.ite ?_ ?_
      | refine LeO.bind ?_ (fun _ => ?_)
set_option maxHeartbeats 8000000 in
set_option maxRecDepth 100000 in
theorem templelaw2_LexNames.calls (k : Nat) (a0 : Int) (a1 : Int) (r : Bool) (w : World) (h : templelaw2_LexNames.f k a0 a1 = some r) :
    Calls Try.prog 7 #[.int .i64 a0, .int .i64 a1] w fun e w' => e = .returned (.bool r) ∧ Below w.heap.size w w' := by
  have hu33 := Try.underlying33
  have HB := Aside0.mk (Below.refl w.heap.size w)
  have H : ((templelaw2_awake.f k).bind fun t226 => (if t226 = true then (templelaw2_LexNames.l0 k a1 (wrap64 (1 + (Go.bits .and .i64 a0 63))) (⟨#[]⟩ : ByteArray) 0) else (none))) = some r := h
  clear h
  replace H := Option.bind_eq_some_iff.mp H
  obtain ⟨t226, A30, H⟩ := H
  replace H : (if t226 = true then (templelaw2_LexNames.l0 k a1 (wrap64 (1 + (Go.bits .and .i64 a0 63))) (⟨#[]⟩ : ByteArray) 0) else (none)) = some r := H
  have A3 := Aside0.mk A30
  clear A30
  by_cases c4 : t226 = true
  · subst c4
    have H1 : (templelaw2_LexNames.l0 k a1 (wrap64 (1 + (Go.bits .and .i64 a0 63))) (⟨#[]⟩ : ByteArray) 0) = some r := by rw [if_pos rfl] at H; exact H
    clear H
    have H := H1
    clear H1
    have H' := Aside0.mk H
    clear H
    go_enter Try.func7, Try.ntmps7
    go_wp2_with (first | ((with_reducible refine gate_callee (f := 14) rfl ?_); refine goesL_ (some 11) rfl rfl Try.func14 (by kernel_rfl) rfl #[] rfl (by (try simp only [List.map_toArray, List.map_cons, List.map_nil]); first | done | rfl | (simp only [List.length_drop, List.length_take]; rfl)) ?_; (with_reducible refine (templelaw2_awake.calls k  true _ A3.out).mono ?_); rintro e w5 ⟨rfl, hb⟩; refine ⟨_, rfl, ?_⟩; have n0_ := Aside0.mk (below_step (by repeat (first | (with_reducible first | exact HB.out | apply below_alloc | apply pw_below_drewN | apply below_drew1) | exact HB.out)) hb); clear HB; have HB := n0_; clear n0_; (try clear hb); (try clear hb2); (try clear hk); (try clear hi)))
    go_loopg [6, 7] k (fun kq v6 v7 w' => ∃ (x6_1 : ByteArray) (x7_1 : Int), v6 = .string x6_1 ∧ v7 = .int .i64 x7_1 ∧ Aside0 (templelaw2_LexNames.l0 kq a1 (wrap64 (1 + (Go.bits .and .i64 a0 63))) x6_1 x7_1 = some r) ∧ Aside0 (kq ≤ k) ∧ Aside0 (Below w.heap.size w w'))
    case atStart => exact ⟨((⟨#[]⟩ : ByteArray)), (0), (by first | rfl | (simp; done) | (simp [i64_w]; done) | (simp [*]; done) | (simp [*, i64_w]; done) | (simp [*]; unfold wrap64; omega)), (by first | rfl | (simp; done) | (simp [i64_w]; done) | (simp [*]; done) | (simp [*, i64_w]; done) | (simp [*]; unfold wrap64; omega)), H', ⟨Nat.le_refl _⟩, ⟨by repeat (first | (with_reducible first | exact HB.out | apply below_alloc | apply pw_below_drewN | apply below_drew1) | exact HB.out)⟩⟩
    case round =>
      clear H'
      try clear c1
      try clear p2
      try clear c4
      obtain ⟨x6_1, x7_1, rfl, rfl, HA, HK1, HB⟩ := hrel
      cases gk with
      | zero => exact absurd HA.out (by simp [templelaw2_LexNames.l0])
      | succ k1 =>
        have H := HA.out
        clear HA
        simp only [templelaw2_LexNames.l0] at H
        by_cases c6 : x7_1 < (wrap64 (1 + (Go.bits .and .i64 a0 63)))
        · rw [if_pos c6] at H
          have c6b0 : decide (x7_1 < (wrap64 (1 + (Go.bits .and .i64 a0 63)))) = true := decide_eq_true c6
          clear c6
          obtain ⟨ji7, hji7⟩ : ∃ j_ : Int, (Int.tmod (wrap64 (x7_1 + (Go.bits .and .i64 a1 3))) 6) = j_ := ⟨_, rfl⟩
          replace H : (if 0 ≤ (ji7) then (if (ji7) < 6 then ((some (([bt (⟨#[97, 90, 95, 113, 48, 57]⟩ : ByteArray) (ji7)] : List Int) : List Int)).bind fun y227 => (if x6_1.size + (strOfNums y227).size ≤ 9223372036854775807 then (templelaw2_LexNames.l0 k1 a1 (wrap64 (1 + (Go.bits .and .i64 a0 63))) (x6_1 ++ (strOfNums y227)) (wrap64 (x7_1 + 1))) else (none))) else (none)) else (none)) = some r := by first | (rw [hji7] at H; exact H) | (simp only [hji7] at H ⊢; exact H)
          by_cases c8 : 0 ≤ (ji7)
          · rw [if_pos c8] at H
            have c8b0 : decide (0 ≤ (ji7)) = true := decide_eq_true c8
            clear c8
            by_cases c9 : (ji7) < 6
            · rw [if_pos c9] at H
              have c9b0 : decide ((ji7) < 6) = true := decide_eq_true c9
              clear c9
              obtain ⟨y227, hy227⟩ : ∃ y_ : List Int, y_ = (([bt (⟨#[97, 90, 95, 113, 48, 57]⟩ : ByteArray) (ji7)] : List Int)) := ⟨_, rfl⟩
              replace H : (if x6_1.size + (strOfNums y227).size ≤ 9223372036854775807 then (templelaw2_LexNames.l0 k1 a1 (wrap64 (1 + (Go.bits .and .i64 a0 63))) (x6_1 ++ (strOfNums y227)) (wrap64 (x7_1 + 1))) else (none)) = some r := by first | (rw [hy227]; with_reducible exact H) | (have H2_ := (Option.bind_some _ _).symm.trans H; rw [hy227]; with_reducible exact H2_) | (have H2_ := (Option.bind_some _ _).symm.trans H; with_reducible exact H2_) | with_reducible exact H | (rw [hy227]; exact H) | exact H
              have Ny227 := Aside0.mk hy227
              clear hy227
              by_cases c11 : x6_1.size + (strOfNums y227).size ≤ 9223372036854775807
              · rw [if_pos c11] at H
                have c11b0 := eq_true c11
                have c11b1 : decide (x6_1.size + (strOfNums y227).size ≤ 9223372036854775807) = true := decide_eq_true c11
                try have c11b2 : (9223372036854775807 < x6_1.size + (strOfNums y227).size) = False := eq_false (Nat.not_lt.2 c11)
                have H' := Aside0.mk H
                clear H
                have p10 : 0 ≤ ((ji7) : Int) := of_decide_eq_true (by first | (with_reducible assumption) | assumption)
                have q10 : (ji7) < (6 : Int) := of_decide_eq_true (by first | (with_reducible assumption) | assumption)
                have hx10 := bt_at (⟨#[97, 90, 95, 113, 48, 57]⟩ : ByteArray) (ji7)
                replace p10 := eq_true p10
                replace q10 := eq_true q10
                go_wp2_with (first | ((with_reducible refine gate_dst (N := 28) rfl ?_); (try (refine gate_guard (by rfl) ?_; dsimp only)); refine Kd.R_lit (Kd.int .u8) _ 5 ?hg (N := 28) ?hd (xs := ([bt (⟨#[97, 90, 95, 113, 48, 57]⟩ : ByteArray) (ji7)] : List Int)) (inner := [.int .u8 (bt (⟨#[97, 90, 95, 113, 48, 57]⟩ : ByteArray) (ji7))]) (ok := fun _ => True) (okp := fun _ => True) ?hr ?hp (fun _ hk => hk) trivial (Below.refl _ _) (Nat.le_refl _) (by simp) ?_; (case hd => rfl); (case hg => rfl); (case hr => first | (go_simp; done) | (go_simp; rfl)); (case hp => exact (Reps.one (show Kd.M (Kd.int .u8) _ _ _ (bt (⟨#[97, 90, 95, 113, 48, 57]⟩ : ByteArray) (ji7)) [.int .u8 (bt (⟨#[97, 90, 95, 113, 48, 57]⟩ : ByteArray) (ji7))] from rfl) (Reps.none _ _))); intro v228 w12 ho13 hb hg_ hnew_; clear hg_ hnew_; (first | rw [← Ny227.out] at ho13 | (simp only [Int.reduceToNat] at ho13; rw [← Ny227.out] at ho13)); have n0_ := Aside0.mk (Kd.R_lower ho13 (below_size (by repeat (first | (with_reducible first | exact HB.out | apply below_alloc | apply pw_below_drewN | apply below_drew1) | exact HB.out)))); have n1_ := Aside0.mk (below_step (by repeat (first | (with_reducible first | exact HB.out | apply below_alloc | apply pw_below_drewN | apply below_drew1) | exact HB.out)) hb); clear HB; have HO229 := n0_; have HB := n1_; clear n0_ n1_; clear hb ho13; have hcv14 := own_string (P := Try.prog) Try.underlying35 Try.underlying5 Try.underlying9 (Kd.own_of_R HO229.out)))
                go_roundg k1
                case measure => have := HK1.out; omega
                case rel => exact ⟨(x6_1 ++ (strOfNums y227)), (wrap64 (x7_1 + 1)), (by first | rfl | (simp; done) | (simp [i64_w]; done) | (simp [*]; done) | (simp [*, i64_w]; done) | (simp [*]; unfold wrap64; omega)), (by first | rfl | (simp; done) | (simp [i64_w]; done) | (simp [*]; done) | (simp [*, i64_w]; done) | (simp [*]; unfold wrap64; omega)), H', ⟨by have := HK1.out; omega⟩, ⟨by repeat (first | (with_reducible first | exact HB.out | apply below_alloc | apply pw_below_drewN | apply below_drew1) | exact HB.out)⟩⟩
              · rw [if_neg c11] at H
                exact absurd H (by simp)
            · rw [if_neg c9] at H
              exact absurd H (by simp)
          · rw [if_neg c8] at H
            exact absurd H (by simp)
        · rw [if_neg c6] at H
          have c6b0 : decide (x7_1 < (wrap64 (1 + (Go.bits .and .i64 a0 63)))) = false := decide_eq_false c6
          clear c6
          by_cases c15 : 1 ≤ (x6_1.size : Int)
          · rw [if_pos c15] at H
            have c15b0 := eq_true c15
            have c15b1 : decide (1 ≤ (x6_1.size : Int)) = true := decide_eq_true c15
            clear c15
            by_cases c16 : 1 + (x6_1.extract 1 x6_1.size).size ≤ 9223372036854775807
            · rw [if_pos c16] at H
              have c16b0 := eq_true c16
              have c16b1 : decide (1 + (x6_1.extract 1 x6_1.size).size ≤ 9223372036854775807) = true := decide_eq_true c16
              try have c16b2 : (9223372036854775807 < 1 + (x6_1.extract 1 x6_1.size).size) = False := eq_false (Nat.not_lt.2 c16)
              try have c16b3 : (9223372036854775807 < 1 + (x6_1.size - 1)) = False := eq_false (by have q_ := c16; (try simp only [ByteArray.size_append, ByteArray.size_extract] at q_); omega)
              by_cases c17 : 1 + ((⟨#[110]⟩ : ByteArray) ++ (x6_1.extract 1 x6_1.size)).size ≤ 9223372036854775807
              · rw [if_pos c17] at H
                have c17b0 := eq_true c17
                have c17b1 : decide (1 + ((⟨#[110]⟩ : ByteArray) ++ (x6_1.extract 1 x6_1.size)).size ≤ 9223372036854775807) = true := decide_eq_true c17
                try have c17b2 : (9223372036854775807 < 1 + ((⟨#[110]⟩ : ByteArray) ++ (x6_1.extract 1 x6_1.size)).size) = False := eq_false (Nat.not_lt.2 c17)
                try have c17b3 : (9223372036854775807 < 1 + (1 + (x6_1.size - 1))) = False := eq_false (by have q_ := c17; have z0_ : (⟨#[110]⟩ : ByteArray).size = 1 := rfl; (try simp only [ByteArray.size_append, ByteArray.size_extract] at q_); omega)
                by_cases c18 : ((⟨#[32]⟩ : ByteArray) ++ ((⟨#[110]⟩ : ByteArray) ++ (x6_1.extract 1 x6_1.size))).size + 1 ≤ 9223372036854775807
                · rw [if_pos c18] at H
                  have c18b0 := eq_true c18
                  have c18b1 : decide (((⟨#[32]⟩ : ByteArray) ++ ((⟨#[110]⟩ : ByteArray) ++ (x6_1.extract 1 x6_1.size))).size + 1 ≤ 9223372036854775807) = true := decide_eq_true c18
                  try have c18b2 : (9223372036854775807 < ((⟨#[32]⟩ : ByteArray) ++ ((⟨#[110]⟩ : ByteArray) ++ (x6_1.extract 1 x6_1.size))).size + 1) = False := eq_false (Nat.not_lt.2 c18)
                  try have c18b3 : (9223372036854775807 < 1 + (1 + (x6_1.size - 1)) + 1) = False := eq_false (by have q_ := c18; have z0_ : (⟨#[110]⟩ : ByteArray).size = 1 := rfl; have z1_ : (⟨#[32]⟩ : ByteArray).size = 1 := rfl; (try simp only [ByteArray.size_append, ByteArray.size_extract] at q_); omega)
                  replace H := Option.bind_eq_some_iff.mp H
                  obtain ⟨⟨t230, t231, t232⟩, A190, H⟩ := H
                  replace H : (if (wrap64 (1 + (Go.bits .and .i64 a0 63))) > 32 then ((templelaw0_Num.f t232).bind fun t235 => (if t235 = 201 then (if t231 = 1 then (some ((t230.length : Int) == 0)) else (none)) else (none))) else ((templelaw0_Num.f t232).bind fun t236 => (if t236 = 0 then ((templelaw0_SameTokens.f k1 t230 (([(⟨0, 1, (⟨#[110]⟩ : ByteArray) ++ (x6_1.extract 1 x6_1.size), 0, 0⟩ : S33), (⟨8, wrap64 (1 + (wrap64 (1 + (Go.bits .and .i64 a0 63)))), (⟨#[]⟩ : ByteArray), 0, 0⟩ : S33)] : List (S33)))).bind fun t240 => (some t240)) else (none)))) = some r := H
                  have A19 := Aside0.mk A190
                  clear A190
                  by_cases c20 : (wrap64 (1 + (Go.bits .and .i64 a0 63))) > 32
                  · rw [if_pos c20] at H
                    have c20b0 : decide (32 < (wrap64 (1 + (Go.bits .and .i64 a0 63)))) = true := decide_eq_true c20
                    clear c20
                    replace H := Option.bind_eq_some_iff.mp H
                    obtain ⟨t235, A210, H⟩ := H
                    replace H : (if t235 = 201 then (if t231 = 1 then (some ((t230.length : Int) == 0)) else (none)) else (none)) = some r := H
                    have A21 := Aside0.mk A210
                    clear A210
                    by_cases c22 : t235 = 201
                    · rw [if_pos c22] at H
                      have c22b0 : (t235 == 201) = true := beq_iff_eq.mpr c22
                      have c22b1 : (t235 != 201) = false := bne_eq_false_iff_eq.mpr c22
                      clear c22
                      by_cases c23 : t231 = 1
                      · rw [if_pos c23] at H
                        have c23b0 : (t231 == 1) = true := beq_iff_eq.mpr c23
                        have c23b1 : (t231 != 1) = false := bne_eq_false_iff_eq.mpr c23
                        clear c23
                        obtain rfl := Option.some.inj H
                        go_wp2_with (first | ((with_reducible refine gate_callee (f := 10) rfl ?_); refine goesL_ (some 38) rfl rfl Try.func10 (by kernel_rfl) rfl #[.string (((⟨#[32]⟩ : ByteArray) ++ ((⟨#[110]⟩ : ByteArray) ++ (x6_1.extract 1 x6_1.size))) ++ (⟨#[59]⟩ : ByteArray))] rfl (by (try simp only [List.map_toArray, List.map_cons, List.map_nil]); first | done | rfl | (simp only [List.length_drop, List.length_take]; rfl)) ?_; (with_reducible refine (lex_Lex.calls k1 (((⟨#[32]⟩ : ByteArray) ++ ((⟨#[110]⟩ : ByteArray) ++ (x6_1.extract 1 x6_1.size))) ++ (⟨#[59]⟩ : ByteArray)) t230 t231 t232 _ A19.out).mono ?_); rintro e w24 ⟨v233, rfl, ho0, hb⟩; refine ⟨_, rfl, ?_⟩; have n0_ := Aside0.mk (Kd.R_lower ho0 (below_size (by repeat (first | (with_reducible first | exact HB.out | apply below_alloc | apply pw_below_drewN | apply below_drew1) | exact HB.out)))); have n1_ := Aside0.mk (below_step (by repeat (first | (with_reducible first | exact HB.out | apply below_alloc | apply pw_below_drewN | apply below_drew1) | exact HB.out)) hb); clear HB; have HO234 := n0_; have HB := n1_; clear n0_ n1_; (try clear hb); (try clear hb2); (try clear hk); (try clear hi); (try clear ho0)) | ((with_reducible refine gate_callee (f := 13) rfl ?_); refine goesL_ (some 45) rfl rfl Try.func13 (by kernel_rfl) rfl #[.int .i64 t232] rfl (by (try simp only [List.map_toArray, List.map_cons, List.map_nil]); first | done | rfl | (simp only [List.length_drop, List.length_take]; rfl)) ?_; (with_reducible refine (templelaw0_Num.calls t232 t235 _ A21.out).mono ?_); rintro e w' ⟨rfl, ⟨nd, rfl⟩⟩; refine ⟨_, rfl, ?_⟩; obtain ⟨Ao25, co25, eo25⟩ := Kd.R_slice HO234.out; subst eo25))
                        go_ret
                        exact ⟨by first | rfl | (simp [errW_none, errW_some] <;> rfl) | (simp [*, errW_none, errW_some] <;> rfl), by repeat (first | (with_reducible first | exact HB.out | apply below_alloc | apply pw_below_drewN | apply below_drew1) | exact HB.out)⟩
                      · rw [if_neg c23] at H
                        exact absurd H (by simp)
                    · rw [if_neg c22] at H
                      exact absurd H (by simp)
                  · rw [if_neg c20] at H
                    have c20b0 : decide (32 < (wrap64 (1 + (Go.bits .and .i64 a0 63)))) = false := decide_eq_false c20
                    clear c20
                    replace H := Option.bind_eq_some_iff.mp H
                    obtain ⟨t236, A260, H⟩ := H
                    replace H : (if t236 = 0 then ((templelaw0_SameTokens.f k1 t230 (([(⟨0, 1, (⟨#[110]⟩ : ByteArray) ++ (x6_1.extract 1 x6_1.size), 0, 0⟩ : S33), (⟨8, wrap64 (1 + (wrap64 (1 + (Go.bits .and .i64 a0 63)))), (⟨#[]⟩ : ByteArray), 0, 0⟩ : S33)] : List (S33)))).bind fun t240 => (some t240)) else (none)) = some r := H
                    have A26 := Aside0.mk A260
                    clear A260
                    by_cases c27 : t236 = 0
                    · rw [if_pos c27] at H
                      have c27b0 : (t236 == 0) = true := beq_iff_eq.mpr c27
                      have c27b1 : (t236 != 0) = false := bne_eq_false_iff_eq.mpr c27
                      clear c27
                      obtain ⟨y237, hy237⟩ : ∃ y_ : List (S33), y_ = (([(⟨0, 1, (⟨#[110]⟩ : ByteArray) ++ (x6_1.extract 1 x6_1.size), 0, 0⟩ : S33), (⟨8, wrap64 (1 + (wrap64 (1 + (Go.bits .and .i64 a0 63)))), (⟨#[]⟩ : ByteArray), 0, 0⟩ : S33)] : List (S33))) := ⟨_, rfl⟩
                      replace H : ((templelaw0_SameTokens.f k1 t230 y237).bind fun t240 => (some t240)) = some r := by first | (rw [hy237]; with_reducible exact H) | (have H2_ := (Option.bind_some _ _).symm.trans H; rw [hy237]; with_reducible exact H2_) | (have H2_ := (Option.bind_some _ _).symm.trans H; with_reducible exact H2_) | with_reducible exact H | (rw [hy237]; exact H) | exact H
                      have Ny237 := Aside0.mk hy237
                      clear hy237
                      replace H := Option.bind_eq_some_iff.mp H
                      obtain ⟨t240, A280, H⟩ := H
                      replace H : (some t240) = some r := H
                      have A28 := Aside0.mk A280
                      clear A280
                      obtain rfl := Option.some.inj H
                      go_wp2_with (first | ((with_reducible refine gate_callee (f := 10) rfl ?_); refine goesL_ (some 38) rfl rfl Try.func10 (by kernel_rfl) rfl #[.string (((⟨#[32]⟩ : ByteArray) ++ ((⟨#[110]⟩ : ByteArray) ++ (x6_1.extract 1 x6_1.size))) ++ (⟨#[59]⟩ : ByteArray))] rfl (by (try simp only [List.map_toArray, List.map_cons, List.map_nil]); first | done | rfl | (simp only [List.length_drop, List.length_take]; rfl)) ?_; (with_reducible refine (lex_Lex.calls k1 (((⟨#[32]⟩ : ByteArray) ++ ((⟨#[110]⟩ : ByteArray) ++ (x6_1.extract 1 x6_1.size))) ++ (⟨#[59]⟩ : ByteArray)) t230 t231 t232 _ A19.out).mono ?_); rintro e w29 ⟨v233, rfl, ho0, hb⟩; refine ⟨_, rfl, ?_⟩; have n0_ := Aside0.mk (Kd.R_lower ho0 (below_size (by repeat (first | (with_reducible first | exact HB.out | apply below_alloc | apply pw_below_drewN | apply below_drew1) | exact HB.out)))); have n1_ := Aside0.mk (below_step (by repeat (first | (with_reducible first | exact HB.out | apply below_alloc | apply pw_below_drewN | apply below_drew1) | exact HB.out)) hb); clear HB; have HO234 := n0_; have HB := n1_; clear n0_ n1_; (try clear hb); (try clear hb2); (try clear hk); (try clear hi); (try clear ho0)) | ((with_reducible refine gate_callee (f := 13) rfl ?_); refine goesL_ (some 57) rfl rfl Try.func13 (by kernel_rfl) rfl #[.int .i64 t232] rfl (by (try simp only [List.map_toArray, List.map_cons, List.map_nil]); first | done | rfl | (simp only [List.length_drop, List.length_take]; rfl)) ?_; (with_reducible refine (templelaw0_Num.calls t232 t236 _ A26.out).mono ?_); rintro e w' ⟨rfl, ⟨nd, rfl⟩⟩; refine ⟨_, rfl, ?_⟩) | ((with_reducible refine gate_dst (N := 66) rfl ?_); (try (refine gate_guard (by rfl) ?_; dsimp only)); refine Kd.R_lit k33 _ 33 ?hg (N := 66) ?hd (xs := ([(⟨0, 1, (⟨#[110]⟩ : ByteArray) ++ (x6_1.extract 1 x6_1.size), 0, 0⟩ : S33), (⟨8, wrap64 (1 + (wrap64 (1 + (Go.bits .and .i64 a0 63)))), (⟨#[]⟩ : ByteArray), 0, 0⟩ : S33)] : List (S33))) (inner := [.int .i64 0, .int .i64 1, .string ((⟨#[110]⟩ : ByteArray) ++ (x6_1.extract 1 x6_1.size)), .int .i64 0, .int .i64 0, .int .i64 8, .int .i64 (wrap64 (1 + (wrap64 (1 + (Go.bits .and .i64 a0 63))))), .string (⟨#[]⟩ : ByteArray), .int .i64 0, .int .i64 0]) (ok := fun _ => True) (okp := fun _ => True) ?hr ?hp (fun _ hk => hk) trivial (Below.refl _ _) (Nat.le_refl _) (by simp) ?_; (case hd => rfl); (case hg => rfl); (case hr => first | (go_simp; done) | (go_simp; rfl)); (case hp => exact (Reps.c5 (show Kd.M k33 _ _ _ (⟨0, 1, (⟨#[110]⟩ : ByteArray) ++ (x6_1.extract 1 x6_1.size), 0, 0⟩ : S33) [.int .i64 0, .int .i64 1, .string ((⟨#[110]⟩ : ByteArray) ++ (x6_1.extract 1 x6_1.size)), .int .i64 0, .int .i64 0] from (k33_mkM _ _ _ (⟨0, 1, (⟨#[110]⟩ : ByteArray) ++ (x6_1.extract 1 x6_1.size), 0, 0⟩ : S33) )) (Reps.c5 (show Kd.M k33 _ _ _ (⟨8, wrap64 (1 + (wrap64 (1 + (Go.bits .and .i64 a0 63)))), (⟨#[]⟩ : ByteArray), 0, 0⟩ : S33) [.int .i64 8, .int .i64 (wrap64 (1 + (wrap64 (1 + (Go.bits .and .i64 a0 63))))), .string (⟨#[]⟩ : ByteArray), .int .i64 0, .int .i64 0] from (k33_mkM _ _ _ (⟨8, wrap64 (1 + (wrap64 (1 + (Go.bits .and .i64 a0 63)))), (⟨#[]⟩ : ByteArray), 0, 0⟩ : S33) )) (Reps.none _ _)))); intro v238 w30 ho31 hb hg_ hnew_; clear hg_ hnew_; (first | rw [← Ny237.out] at ho31 | (simp only [Int.reduceToNat] at ho31; rw [← Ny237.out] at ho31)); have n0_ := Aside0.mk (Kd.R_elder' (by (with_reducible repeat (first | apply Kd.R_alloc | apply Kd.R_drewN | apply Kd.R_drew)); exact HO234.out) (Kd.R_base ho31) hb); have n1_ := Aside0.mk (Kd.R_lower (Kd.R_new' ho31 (Kd.R_lt (by (with_reducible repeat (first | apply Kd.R_alloc | apply Kd.R_drewN | apply Kd.R_drew)); exact HO234.out))) (below_size (by repeat (first | (with_reducible first | exact HB.out | apply below_alloc | apply pw_below_drewN | apply below_drew1) | exact HB.out)))); have n2_ := Aside0.mk (below_step (by repeat (first | (with_reducible first | exact HB.out | apply below_alloc | apply pw_below_drewN | apply below_drew1) | exact HB.out)) hb); clear HO234; clear HB; have HO234 := n0_; have HO239 := n1_; have HB := n2_; clear n0_ n1_ n2_; clear hb ho31; obtain ⟨Ao32, co32, eo32⟩ := Kd.R_slice HO234.out; subst eo32; obtain ⟨Ao33, co33, eo33⟩ := Kd.R_slice HO239.out; subst eo33) | (go_at_call 12; (with_reducible refine (templelaw0_SameTokens.calls k1 _ _ t230 _ _ y237 t240 _ ?side1 ?side2 ?side3 ?side4 A28.out).mono ?_); (case side1 => repeat (first | exact (Kd.R_reads' HO234.out).2.2 | (with_reducible refine Kd.C_alloc ?_ _) | (with_reducible refine Kd.C_drewN ?_ _) | (with_reducible refine Kd.C_drew ?_))); (case side2 => exact (Kd.R_reads' HO234.out).2.1); (case side3 => repeat (first | exact (Kd.R_reads' HO239.out).2.2 | (with_reducible refine Kd.C_alloc ?_ _) | (with_reducible refine Kd.C_drewN ?_ _) | (with_reducible refine Kd.C_drew ?_))); (case side4 => exact (Kd.R_reads' HO239.out).2.1); rintro e w' ⟨rfl, ⟨nd, rfl⟩⟩))
                      go_ret
                      exact ⟨by first | rfl | (simp [errW_none, errW_some] <;> rfl) | (simp [*, errW_none, errW_some] <;> rfl), by repeat (first | (with_reducible first | exact HB.out | apply below_alloc | apply pw_below_drewN | apply below_drew1) | exact HB.out)⟩
                    · rw [if_neg c27] at H
                      exact absurd H (by simp)
                · rw [if_neg c18] at H
                  exact absurd H (by simp)
              · rw [if_neg c17] at H
                exact absurd H (by simp)
            · rw [if_neg c16] at H
              exact absurd H (by simp)
          · rw [if_neg c15] at H
            exact absurd H (by simp)
  · replace c4 := Bool.eq_false_iff.mpr c4
    subst c4
    have H1 : (none) = some r := by rw [if_neg (show ¬ (false = true) by decide)] at H; exact H
    clear H
    have H := H1
    clear H1
    exact absurd H (by simp)

/-- THE ONE PURE STATEMENT of templelaw2_LexNames: yours. -/
def templelaw2_LexNames.Pure : Prop := ∀ (a0 : Int) (a1 : Int), (Lit.int .i64 a0).wf = true → (Lit.int .i64 a1).wf = true → ∃ k, templelaw2_LexNames.f k a0 a1 = some true
theorem templelaw2_LexNames.walk (P : templelaw2_LexNames.Pure) (a0 : Int) (a1 : Int) (w : World) (w0 : (Lit.int .i64 a0).wf = true) (w1 : (Lit.int .i64 a1).wf = true) :
    Calls Try.prog 7 #[.int .i64 a0, .int .i64 a1] w fun e w' => e = .returned (.bool true) ∧ Below w.heap.size w w' := by
  obtain ⟨k, h⟩ := P a0 a1 w0 w1
  refine (templelaw2_LexNames.calls k a0 a1 true w h).mono ?_
  rintro e w' ⟨rfl, hd⟩
  exact ⟨rfl, hd⟩

/-! ### templelaw2_LexTexts: function 5 -/
def templelaw2_LexTexts.l0 : Nat → ByteArray → Int → ByteArray → ByteArray → Int → Option (Bool)
  | 0, _, _, _, _, _ => none
  | k + 1, x0, x1, x5, x6, x7 => if x7 < (x0.size : Int) then (if x6.size + 2 ≤ 9223372036854775807 then (if 0 ≤ x7 then (if 0 ≤ ((Int.tdiv (bt x0 x7) 16) % 256) then (if ((Int.tdiv (bt x0 x7) 16) % 256) < (x5.size : Int) then (if 0 ≤ (Int.tmod (bt x0 x7) 16) then (if (Int.tmod (bt x0 x7) 16) < (x5.size : Int) then ((some (([bt x5 ((Int.tdiv (bt x0 x7) 16) % 256), bt x5 (Int.tmod (bt x0 x7) 16)] : List Int) : List Int)).bind fun y242 => (if (x6 ++ (⟨#[92, 120]⟩ : ByteArray)).size + (strOfNums y242).size ≤ 9223372036854775807 then (templelaw2_LexTexts.l0 k x0 x1 x5 ((x6 ++ (⟨#[92, 120]⟩ : ByteArray)) ++ (strOfNums y242)) (wrap64 (x7 + 1))) else (none))) else (none)) else (none)) else (none)) else (none)) else (none)) else (none)) else (if 0 ≤ (wrap64 (Int.tdiv (Go.bits .and .i64 x1 255) 16)) then (if (wrap64 (Int.tdiv (Go.bits .and .i64 x1 255) 16)) < (x5.size : Int) then (if 0 ≤ (Int.tmod (Go.bits .and .i64 x1 255) 16) then (if (Int.tmod (Go.bits .and .i64 x1 255) 16) < (x5.size : Int) then ((some (([bt x5 (wrap64 (Int.tdiv (Go.bits .and .i64 x1 255) 16)), bt x5 (Int.tmod (Go.bits .and .i64 x1 255) 16)] : List Int) : List Int)).bind fun y245 => (if 3 + (strOfNums y245).size ≤ 9223372036854775807 then (if ((⟨#[39, 92, 120]⟩ : ByteArray) ++ (strOfNums y245)).size + 1 ≤ 9223372036854775807 then (if x6.size + 1 ≤ 9223372036854775807 then (if (x6 ++ (⟨#[34]⟩ : ByteArray)).size + (((⟨#[39, 92, 120]⟩ : ByteArray) ++ (strOfNums y245)) ++ (⟨#[39]⟩ : ByteArray)).size ≤ 9223372036854775807 then (if ((x6 ++ (⟨#[34]⟩ : ByteArray)) ++ (((⟨#[39, 92, 120]⟩ : ByteArray) ++ (strOfNums y245)) ++ (⟨#[39]⟩ : ByteArray))).size + 2 ≤ 9223372036854775807 then (if (((x6 ++ (⟨#[34]⟩ : ByteArray)) ++ (((⟨#[39, 92, 120]⟩ : ByteArray) ++ (strOfNums y245)) ++ (⟨#[39]⟩ : ByteArray))) ++ (⟨#[46, 46]⟩ : ByteArray)).size + (((⟨#[39, 92, 120]⟩ : ByteArray) ++ (strOfNums y245)) ++ (⟨#[39]⟩ : ByteArray)).size ≤ 9223372036854775807 then ((lex_Lex.f k ((((x6 ++ (⟨#[34]⟩ : ByteArray)) ++ (((⟨#[39, 92, 120]⟩ : ByteArray) ++ (strOfNums y245)) ++ (⟨#[39]⟩ : ByteArray))) ++ (⟨#[46, 46]⟩ : ByteArray)) ++ (((⟨#[39, 92, 120]⟩ : ByteArray) ++ (strOfNums y245)) ++ (⟨#[39]⟩ : ByteArray)))).bind fun bt248 => ((templelaw0_Num.f bt248.2.2).bind fun t253 => (if t253 = 0 then ((templelaw0_SameTokens.f k bt248.1 (([(⟨1, 0, x0, 0, 0⟩ : S33), (⟨2, wrap64 ((x6.size : Int) + 1), (⟨#[]⟩ : ByteArray), Go.bits .and .i64 x1 255, Go.bits .and .i64 x1 255⟩ : S33)] : List (S33)))).bind fun t257 => (some t257)) else (none)))) else (none)) else (none)) else (none)) else (none)) else (none)) else (none))) else (none)) else (none)) else (none)) else (none))
def templelaw2_LexTexts.f (k : Nat) (a0 : ByteArray) (a1 : Int) : Option (Bool) := (templelaw2_awake.f k).bind fun t241 => (if t241 = true then (if (a0.size : Int) > 2000 then (some true) else (templelaw2_LexTexts.l0 k a0 a1 (⟨#[48, 49, 50, 51, 52, 53, 54, 55, 56, 57, 97, 98, 99, 100, 101, 102]⟩ : ByteArray) (⟨#[34]⟩ : ByteArray) 0)) else (none))
theorem templelaw2_LexTexts.mono_l : ∀ k, (∀ y0 y1 y2 y3 y4, LeO (templelaw2_LexTexts.l0 k y0 y1 y2 y3 y4) (templelaw2_LexTexts.l0 (k + 1) y0 y1 y2 y3 y4))
  | 0 => fun _ _ _ _ _ r h => by simp [templelaw2_LexTexts.l0] at h
  | k + 1 => by
    have ih0 := templelaw2_LexTexts.mono_l k
    · intro y0 y1 y2 y3 y4
      unfold templelaw2_LexTexts.l0
      repeat' first
      | (with_reducible exact ih0 _ _ _ _ _)
      | (with_reducible exact lex_Lex.mono _ _)
      | (with_reducible exact templelaw0_SameTokens.mono _ _ _)
      | (with_reducible exact templelaw2_awake.mono _)
      | (with_reducible exact LeO.refl _)
      | (with_reducible exact LeO.none _)
      | (with_reducible refine LeO.ite ?_ ?_)
      | (with_reducible refine LeO.bind ?_ (fun _ => ?_))
      | exact ih0 _ _ _ _ _
      | exact lex_Lex.mono _ _
      | exact templelaw0_SameTokens.mono _ _ _
      | exact templelaw2_awake.mono _
      | exact LeO.none _
      | refine LeO.ite ?_ ?_
      | refine LeO.bind ?_ (fun _ => ?_)
theorem templelaw2_LexTexts.mono : ∀ a0 a1 k, LeO (templelaw2_LexTexts.f k a0 a1) (templelaw2_LexTexts.f (k + 1) a0 a1) := by
  intro a0 a1 k
  have ih0 := templelaw2_LexTexts.mono_l k
  unfold templelaw2_LexTexts.f
  repeat' first
      | (with_reducible exact ih0 _ _ _ _ _)
      | (with_reducible exact lex_Lex.mono _ _)
      | (with_reducible exact templelaw0_SameTokens.mono _ _ _)
      | (with_reducible exact templelaw2_awake.mono _)
      | (with_reducible exact LeO.refl _)
      | (with_reducible exact LeO.none _)
      | (with_reducible refine LeO.ite ?_ ?_)
      | (with_reducible refine LeO.bind ?_ (fun _ => ?_))
      | exact ih0 _ _ _ _ _
      | exact lex_Lex.mono _ _
      | exact templelaw0_SameTokens.mono _ _ _
      | exact templelaw2_awake.mono _
      | exact LeO.none _
      | refine LeO.ite ?_ ?_
      | refine LeO.bind ?_ (fun _ => ?_)
def templelaw2_LexTexts.T10 : Bool × List (List Nat × List Nat) := (true, [([], []), ([0], [0]), ([], []), ([], []), ([], []), ([3, 4], [3, 4]), ([5], [5]), ([2, 6], [2, 6]), ([], []), ([], []), ([], []), ([9, 10], [9, 10]), ([11], [11]), ([8, 12], [8, 12]), ([7, 13], [7, 13]), ([14], [14]), ([1, 15], [1, 15]), ([16, 0, 1, 2, 3, 4, 5, 6, 7, 8, 9, 10, 11, 12, 13, 14, 15, 16], [0, 16])])
def templelaw2_LexTexts.B10 : List Nat := [0, 1, 0, 0, 0, 24, 56, 124, 0, 0, 0, 1536, 3584, 7936, 16380, 32764, 65535, 131071]
theorem templelaw2_LexTexts.tab10 : rtab .any (opsOf Try.f5 10) = templelaw2_LexTexts.T10 := by kernel_rfl
theorem templelaw2_LexTexts.bits10 : waitsOk templelaw2_LexTexts.T10.2 templelaw2_LexTexts.B10 = true := by kernel_rfl
def templelaw2_LexTexts.T12 : Bool × List (List Nat × List Nat) := (true, [([], []), ([], []), ([1], [1]), ([0, 2], [0, 2]), ([], []), ([], []), ([5], [5]), ([4, 6], [4, 6]), ([3, 7], [3, 7]), ([8], [8]), ([9], [9]), ([10], [10]), ([11, 0, 1, 2, 3, 4, 5, 6, 7, 8, 9, 10, 11], [11])])
def templelaw2_LexTexts.B12 : List Nat := [0, 0, 2, 7, 0, 0, 32, 112, 255, 511, 1023, 2047, 4095]
theorem templelaw2_LexTexts.tab12 : rtab .any (opsOf Try.f5 12) = templelaw2_LexTexts.T12 := by kernel_rfl
theorem templelaw2_LexTexts.bits12 : waitsOk templelaw2_LexTexts.T12.2 templelaw2_LexTexts.B12 = true := by kernel_rfl
set_option maxHeartbeats 8000000 in
set_option maxRecDepth 100000 in
theorem templelaw2_LexTexts.calls (k : Nat) (a0 : ByteArray) (a1 : Int) (r : Bool) (w : World) (h : templelaw2_LexTexts.f k a0 a1 = some r) :
    Calls Try.prog 5 #[.string a0, .int .i64 a1] w fun e w' => e = .returned (.bool r) ∧ Below w.heap.size w w' := by
  have hu33 := Try.underlying33
  have HB := Aside0.mk (Below.refl w.heap.size w)
  have H : ((templelaw2_awake.f k).bind fun t241 => (if t241 = true then (if (a0.size : Int) > 2000 then (some true) else (templelaw2_LexTexts.l0 k a0 a1 (⟨#[48, 49, 50, 51, 52, 53, 54, 55, 56, 57, 97, 98, 99, 100, 101, 102]⟩ : ByteArray) (⟨#[34]⟩ : ByteArray) 0)) else (none))) = some r := h
  clear h
  replace H := Option.bind_eq_some_iff.mp H
  obtain ⟨t241, A30, H⟩ := H
  replace H : (if t241 = true then (if (a0.size : Int) > 2000 then (some true) else (templelaw2_LexTexts.l0 k a0 a1 (⟨#[48, 49, 50, 51, 52, 53, 54, 55, 56, 57, 97, 98, 99, 100, 101, 102]⟩ : ByteArray) (⟨#[34]⟩ : ByteArray) 0)) else (none)) = some r := H
  have A3 := Aside0.mk A30
  clear A30
  by_cases c4 : t241 = true
  · subst c4
    have H1 : (if (a0.size : Int) > 2000 then (some true) else (templelaw2_LexTexts.l0 k a0 a1 (⟨#[48, 49, 50, 51, 52, 53, 54, 55, 56, 57, 97, 98, 99, 100, 101, 102]⟩ : ByteArray) (⟨#[34]⟩ : ByteArray) 0)) = some r := by rw [if_pos rfl] at H; exact H
    clear H
    have H := H1
    clear H1
    by_cases c5 : (a0.size : Int) > 2000
    · rw [if_pos c5] at H
      have c5b0 : decide (2000 < (a0.size : Int)) = true := decide_eq_true c5
      have c5b1 : decide (2000 < a0.size) = true := decide_eq_true (by omega)
      clear c5
      obtain rfl := Option.some.inj H
      go_enter Try.func5, Try.ntmps5
      go_wp2_with (first | ((with_reducible refine gate_callee (f := 14) rfl ?_); refine goesL_ (some 13) rfl rfl Try.func14 (by kernel_rfl) rfl #[] rfl (by (try simp only [List.map_toArray, List.map_cons, List.map_nil]); first | done | rfl | (simp only [List.length_drop, List.length_take]; rfl)) ?_; (with_reducible refine (templelaw2_awake.calls k  true _ A3.out).mono ?_); rintro e w6 ⟨rfl, hb⟩; refine ⟨_, rfl, ?_⟩; have n0_ := Aside0.mk (below_step (by repeat (first | (with_reducible first | exact HB.out | apply below_alloc | apply pw_below_drewN | apply below_drew1) | exact HB.out)) hb); clear HB; have HB := n0_; clear n0_; (try clear hb); (try clear hb2); (try clear hk); (try clear hi)))
      go_ret
      exact ⟨by first | rfl | (simp [errW_none, errW_some] <;> rfl) | (simp [*, errW_none, errW_some] <;> rfl), by repeat (first | (with_reducible first | exact HB.out | apply below_alloc | apply pw_below_drewN | apply below_drew1) | exact HB.out)⟩
    · rw [if_neg c5] at H
      have c5b0 : decide (2000 < (a0.size : Int)) = false := decide_eq_false c5
      have c5b1 : decide (2000 < a0.size) = false := decide_eq_false (by omega)
      clear c5
      have H' := Aside0.mk H
      clear H
      go_enter Try.func5, Try.ntmps5
      go_wp2_with (first | ((with_reducible refine gate_callee (f := 14) rfl ?_); refine goesL_ (some 13) rfl rfl Try.func14 (by kernel_rfl) rfl #[] rfl (by (try simp only [List.map_toArray, List.map_cons, List.map_nil]); first | done | rfl | (simp only [List.length_drop, List.length_take]; rfl)) ?_; (with_reducible refine (templelaw2_awake.calls k  true _ A3.out).mono ?_); rintro e w7 ⟨rfl, hb⟩; refine ⟨_, rfl, ?_⟩; have n0_ := Aside0.mk (below_step (by repeat (first | (with_reducible first | exact HB.out | apply below_alloc | apply pw_below_drewN | apply below_drew1) | exact HB.out)) hb); clear HB; have HB := n0_; clear n0_; (try clear hb); (try clear hb2); (try clear hk); (try clear hi)))
      go_loopg [6, 7] k (fun kq v6 v7 w' => ∃ (x6_1 : ByteArray) (x7_1 : Int), v6 = .string x6_1 ∧ v7 = .int .i64 x7_1 ∧ Aside0 (templelaw2_LexTexts.l0 kq a0 a1 (⟨#[48, 49, 50, 51, 52, 53, 54, 55, 56, 57, 97, 98, 99, 100, 101, 102]⟩ : ByteArray) x6_1 x7_1 = some r) ∧ Aside0 (kq ≤ k) ∧ Aside0 (Below w.heap.size w w'))
      case atStart => exact ⟨((⟨#[34]⟩ : ByteArray)), (0), (by first | rfl | (simp; done) | (simp [i64_w]; done) | (simp [*]; done) | (simp [*, i64_w]; done) | (simp [*]; unfold wrap64; omega)), (by first | rfl | (simp; done) | (simp [i64_w]; done) | (simp [*]; done) | (simp [*, i64_w]; done) | (simp [*]; unfold wrap64; omega)), H', ⟨Nat.le_refl _⟩, ⟨by repeat (first | (with_reducible first | exact HB.out | apply below_alloc | apply pw_below_drewN | apply below_drew1) | exact HB.out)⟩⟩
      case round =>
        clear H'
        try clear c1
        try clear p2
        try clear c4
        try clear c5
        try clear c5b0
        try clear c5b1
        obtain ⟨x6_1, x7_1, rfl, rfl, HA, HK1, HB⟩ := hrel
        cases gk with
        | zero => exact absurd HA.out (by simp [templelaw2_LexTexts.l0])
        | succ k1 =>
          have H := HA.out
          clear HA
          simp only [templelaw2_LexTexts.l0] at H
          by_cases c8 : x7_1 < (a0.size : Int)
          · rw [if_pos c8] at H
            have c8b0 : decide (x7_1 < (a0.size : Int)) = true := decide_eq_true c8
            clear c8
            by_cases c9 : x6_1.size + 2 ≤ 9223372036854775807
            · rw [if_pos c9] at H
              have c9b0 := eq_true c9
              have c9b1 : decide (x6_1.size + 2 ≤ 9223372036854775807) = true := decide_eq_true c9
              try have c9b2 : (9223372036854775807 < x6_1.size + 2) = False := eq_false (Nat.not_lt.2 c9)
              by_cases c10 : 0 ≤ x7_1
              · rw [if_pos c10] at H
                have c10b0 : decide (0 ≤ x7_1) = true := decide_eq_true c10
                clear c10
                obtain ⟨ji12, hji12⟩ : ∃ j_ : Int, ((Int.tdiv (bt a0 x7_1) 16) % 256) = j_ := ⟨_, rfl⟩
                replace H : (if 0 ≤ (ji12) then (if (ji12) < ((⟨#[48, 49, 50, 51, 52, 53, 54, 55, 56, 57, 97, 98, 99, 100, 101, 102]⟩ : ByteArray).size : Int) then (if 0 ≤ (Int.tmod (bt a0 x7_1) 16) then (if (Int.tmod (bt a0 x7_1) 16) < ((⟨#[48, 49, 50, 51, 52, 53, 54, 55, 56, 57, 97, 98, 99, 100, 101, 102]⟩ : ByteArray).size : Int) then ((some (([bt (⟨#[48, 49, 50, 51, 52, 53, 54, 55, 56, 57, 97, 98, 99, 100, 101, 102]⟩ : ByteArray) (ji12), bt (⟨#[48, 49, 50, 51, 52, 53, 54, 55, 56, 57, 97, 98, 99, 100, 101, 102]⟩ : ByteArray) (Int.tmod (bt a0 x7_1) 16)] : List Int) : List Int)).bind fun y242 => (if (x6_1 ++ (⟨#[92, 120]⟩ : ByteArray)).size + (strOfNums y242).size ≤ 9223372036854775807 then (templelaw2_LexTexts.l0 k1 a0 a1 (⟨#[48, 49, 50, 51, 52, 53, 54, 55, 56, 57, 97, 98, 99, 100, 101, 102]⟩ : ByteArray) ((x6_1 ++ (⟨#[92, 120]⟩ : ByteArray)) ++ (strOfNums y242)) (wrap64 (x7_1 + 1))) else (none))) else (none)) else (none)) else (none)) else (none)) = some r := by first | (rw [hji12] at H; exact H) | (simp only [hji12] at H ⊢; exact H)
                have hji12w : (IntKind.u8.wrap (Int.tdiv (bt a0 x7_1) 16)) = ji12 := hji12
                by_cases c13 : 0 ≤ (ji12)
                · rw [if_pos c13] at H
                  have c13b0 : decide (0 ≤ (ji12)) = true := decide_eq_true c13
                  clear c13
                  by_cases c14 : (ji12) < ((⟨#[48, 49, 50, 51, 52, 53, 54, 55, 56, 57, 97, 98, 99, 100, 101, 102]⟩ : ByteArray).size : Int)
                  · rw [if_pos c14] at H
                    have c14b0 : decide ((ji12) < ((⟨#[48, 49, 50, 51, 52, 53, 54, 55, 56, 57, 97, 98, 99, 100, 101, 102]⟩ : ByteArray).size : Int)) = true := decide_eq_true c14
                    clear c14
                    obtain ⟨ji17, hji17⟩ : ∃ j_ : Int, (Int.tmod (bt a0 x7_1) 16) = j_ := ⟨_, rfl⟩
                    replace H : (if 0 ≤ (ji17) then (if (ji17) < ((⟨#[48, 49, 50, 51, 52, 53, 54, 55, 56, 57, 97, 98, 99, 100, 101, 102]⟩ : ByteArray).size : Int) then ((some (([bt (⟨#[48, 49, 50, 51, 52, 53, 54, 55, 56, 57, 97, 98, 99, 100, 101, 102]⟩ : ByteArray) (ji12), bt (⟨#[48, 49, 50, 51, 52, 53, 54, 55, 56, 57, 97, 98, 99, 100, 101, 102]⟩ : ByteArray) (ji17)] : List Int) : List Int)).bind fun y242 => (if (x6_1 ++ (⟨#[92, 120]⟩ : ByteArray)).size + (strOfNums y242).size ≤ 9223372036854775807 then (templelaw2_LexTexts.l0 k1 a0 a1 (⟨#[48, 49, 50, 51, 52, 53, 54, 55, 56, 57, 97, 98, 99, 100, 101, 102]⟩ : ByteArray) ((x6_1 ++ (⟨#[92, 120]⟩ : ByteArray)) ++ (strOfNums y242)) (wrap64 (x7_1 + 1))) else (none))) else (none)) else (none)) = some r := by first | (rw [hji17] at H; exact H) | (simp only [hji17] at H ⊢; exact H)
                    by_cases c18 : 0 ≤ (ji17)
                    · rw [if_pos c18] at H
                      have c18b0 : decide (0 ≤ (ji17)) = true := decide_eq_true c18
                      clear c18
                      by_cases c19 : (ji17) < ((⟨#[48, 49, 50, 51, 52, 53, 54, 55, 56, 57, 97, 98, 99, 100, 101, 102]⟩ : ByteArray).size : Int)
                      · rw [if_pos c19] at H
                        have c19b0 : decide ((ji17) < ((⟨#[48, 49, 50, 51, 52, 53, 54, 55, 56, 57, 97, 98, 99, 100, 101, 102]⟩ : ByteArray).size : Int)) = true := decide_eq_true c19
                        clear c19
                        obtain ⟨y242, hy242⟩ : ∃ y_ : List Int, y_ = (([bt (⟨#[48, 49, 50, 51, 52, 53, 54, 55, 56, 57, 97, 98, 99, 100, 101, 102]⟩ : ByteArray) (ji12), bt (⟨#[48, 49, 50, 51, 52, 53, 54, 55, 56, 57, 97, 98, 99, 100, 101, 102]⟩ : ByteArray) (ji17)] : List Int)) := ⟨_, rfl⟩
                        replace H : (if (x6_1 ++ (⟨#[92, 120]⟩ : ByteArray)).size + (strOfNums y242).size ≤ 9223372036854775807 then (templelaw2_LexTexts.l0 k1 a0 a1 (⟨#[48, 49, 50, 51, 52, 53, 54, 55, 56, 57, 97, 98, 99, 100, 101, 102]⟩ : ByteArray) ((x6_1 ++ (⟨#[92, 120]⟩ : ByteArray)) ++ (strOfNums y242)) (wrap64 (x7_1 + 1))) else (none)) = some r := by first | (rw [hy242]; with_reducible exact H) | (have H2_ := (Option.bind_some _ _).symm.trans H; rw [hy242]; with_reducible exact H2_) | (have H2_ := (Option.bind_some _ _).symm.trans H; with_reducible exact H2_) | with_reducible exact H | (rw [hy242]; exact H) | exact H
                        have Ny242 := Aside0.mk hy242
                        clear hy242
                        by_cases c21 : (x6_1 ++ (⟨#[92, 120]⟩ : ByteArray)).size + (strOfNums y242).size ≤ 9223372036854775807
                        · rw [if_pos c21] at H
                          have c21b0 := eq_true c21
                          have c21b1 : decide ((x6_1 ++ (⟨#[92, 120]⟩ : ByteArray)).size + (strOfNums y242).size ≤ 9223372036854775807) = true := decide_eq_true c21
                          try have c21b2 : (9223372036854775807 < (x6_1 ++ (⟨#[92, 120]⟩ : ByteArray)).size + (strOfNums y242).size) = False := eq_false (Nat.not_lt.2 c21)
                          try have c21b3 : (9223372036854775807 < x6_1.size + 2 + (strOfNums y242).size) = False := eq_false (by have q_ := c21; have z0_ : (⟨#[92, 120]⟩ : ByteArray).size = 2 := rfl; (try simp only [ByteArray.size_append, ByteArray.size_extract] at q_); omega)
                          have H' := Aside0.mk H
                          clear H
                          try go_wp2
                          have n0_ := Aside0.mk (below_drew1 HB.out)
                          clear HB
                          have HB := n0_
                          clear n0_
                          have p11 : 0 ≤ (x7_1 : Int) := of_decide_eq_true (by first | (with_reducible assumption) | assumption)
                          have q11 : x7_1 < (a0.size : Int) := of_decide_eq_true (by first | (with_reducible assumption) | assumption)
                          have hx11 := bt_at a0 x7_1
                          replace p11 := eq_true p11
                          replace q11 := eq_true q11
                          have p15 : 0 ≤ ((ji12) : Int) := of_decide_eq_true (by first | (with_reducible assumption) | assumption)
                          have q15 : (ji12) < (16 : Int) := of_decide_eq_true (by first | (with_reducible assumption) | assumption)
                          have hx15 := bt_at (⟨#[48, 49, 50, 51, 52, 53, 54, 55, 56, 57, 97, 98, 99, 100, 101, 102]⟩ : ByteArray) (ji12)
                          replace p15 := eq_true p15
                          replace q15 := eq_true q15
                          have p16 : 0 ≤ (x7_1 : Int) := of_decide_eq_true (by first | (with_reducible assumption) | assumption)
                          have q16 : x7_1 < (a0.size : Int) := of_decide_eq_true (by first | (with_reducible assumption) | assumption)
                          have hx16 := bt_at a0 x7_1
                          replace p16 := eq_true p16
                          replace q16 := eq_true q16
                          have p20 : 0 ≤ ((ji17) : Int) := of_decide_eq_true (by first | (with_reducible assumption) | assumption)
                          have q20 : (ji17) < (16 : Int) := of_decide_eq_true (by first | (with_reducible assumption) | assumption)
                          have hx20 := bt_at (⟨#[48, 49, 50, 51, 52, 53, 54, 55, 56, 57, 97, 98, 99, 100, 101, 102]⟩ : ByteArray) (ji17)
                          replace p20 := eq_true p20
                          replace q20 := eq_true q20
                          refine start_ (n := 18) (S := fun w' => True) (ds := []) #[false, false, false, false, false, false, false, false, false, false, false, false, false, false, false, false, false, false] (by kernel_rfl) rfl rfl trivial (fun hHeld => ?_); refine with_tabW templelaw2_LexTexts.tab10 templelaw2_LexTexts.bits10 (fun HT_ HW_ => ?_)
                          generalize wr.drew = w22 at HB hHeld ⊢
                          refine pure_ (i := 0) (N := some 24) (v := ?_) (a' := ?_) #[true, false, false, false, false, false, false, false, false, false, false, false, false, false, false, false, false, false] rfl rfl (any_of HT_.out (by kernel_rfl)) (fun _ _ _ h => h) (Or.inl ⟨by rfl, ?_⟩) ?_ ?_
                          rotate_left
                          · intro w'
                            go_simp
                            with_reducible rfl
                          rotate_left
                          · simp only [Act.put, List.setIfInBounds_toArray, List.set_cons_zero, List.set_cons_succ, i64_w, i32_w]
                            rfl
                          refine pure_ (i := 1) (N := some 25) (v := ?_) (a' := ?_) #[true, true, false, false, false, false, false, false, false, false, false, false, false, false, false, false, false, false] rfl rfl (any_of HT_.out (by kernel_rfl)) (fun _ _ _ h => h) (Or.inl ⟨by rfl, ?_⟩) ?_ ?_
                          rotate_left
                          · intro w'
                            go_simp
                            with_reducible rfl
                          rotate_left
                          · simp only [Act.put, List.setIfInBounds_toArray, List.set_cons_zero, List.set_cons_succ, i64_w, i32_w]
                            rfl
                          refine pure_ (i := 2) (N := some 26) (v := ?_) (a' := ?_) #[true, true, true, false, false, false, false, false, false, false, false, false, false, false, false, false, false, false] rfl rfl (any_of HT_.out (by kernel_rfl)) (fun _ _ _ h => h) (Or.inl ⟨by rfl, ?_⟩) ?_ ?_
                          rotate_left
                          · intro w'
                            go_simp
                            with_reducible rfl
                          rotate_left
                          · simp only [Act.put, List.setIfInBounds_toArray, List.set_cons_zero, List.set_cons_succ, i64_w, i32_w]
                            rfl
                          refine pure_ (i := 3) (N := some 27) (v := ?_) (a' := ?_) #[true, true, true, true, false, false, false, false, false, false, false, false, false, false, false, false, false, false] rfl rfl (any_of HT_.out (by kernel_rfl)) (fun _ _ _ h => h) (Or.inl ⟨by rfl, ?_⟩) ?_ ?_
                          rotate_left
                          · intro w'
                            go_simp
                            with_reducible rfl
                          rotate_left
                          · simp only [Act.put, List.setIfInBounds_toArray, List.set_cons_zero, List.set_cons_succ, i64_w, i32_w]
                            rfl
                          refine pure_ (i := 4) (N := some 28) (v := ?_) (a' := ?_) #[true, true, true, true, true, false, false, false, false, false, false, false, false, false, false, false, false, false] rfl rfl (any_of HT_.out (by kernel_rfl)) (fun _ _ _ h => h) (Or.inl ⟨by rfl, ?_⟩) ?_ ?_
                          rotate_left
                          · intro w'
                            go_simp
                            with_reducible rfl
                          rotate_left
                          · simp only [Act.put, List.setIfInBounds_toArray, List.set_cons_zero, List.set_cons_succ, i64_w, i32_w]
                            rfl
                          refine pure_ (i := 8) (N := some 32) (v := ?_) (a' := ?_) #[true, true, true, true, true, false, false, false, true, false, false, false, false, false, false, false, false, false] rfl rfl (any_of HT_.out (by kernel_rfl)) (fun _ _ _ h => h) (Or.inl ⟨by rfl, ?_⟩) ?_ ?_
                          rotate_left
                          · intro w'
                            go_simp
                            with_reducible rfl
                          rotate_left
                          · simp only [Act.put, List.setIfInBounds_toArray, List.set_cons_zero, List.set_cons_succ, i64_w, i32_w]
                            rfl
                          refine pure_ (i := 9) (N := some 33) (v := ?_) (a' := ?_) #[true, true, true, true, true, false, false, false, true, true, false, false, false, false, false, false, false, false] rfl rfl (any_of HT_.out (by kernel_rfl)) (fun _ _ _ h => h) (Or.inl ⟨by rfl, ?_⟩) ?_ ?_
                          rotate_left
                          · intro w'
                            go_simp
                            with_reducible rfl
                          rotate_left
                          · simp only [Act.put, List.setIfInBounds_toArray, List.set_cons_zero, List.set_cons_succ, i64_w, i32_w]
                            rfl
                          refine pure_ (i := 10) (N := some 34) (v := ?_) (a' := ?_) #[true, true, true, true, true, false, false, false, true, true, true, false, false, false, false, false, false, false] rfl rfl (any_of HT_.out (by kernel_rfl)) (fun _ _ _ h => h) (Or.inl ⟨by rfl, ?_⟩) ?_ ?_
                          rotate_left
                          · intro w'
                            go_simp
                            with_reducible rfl
                          rotate_left
                          · simp only [Act.put, List.setIfInBounds_toArray, List.set_cons_zero, List.set_cons_succ, i64_w, i32_w]
                            rfl
                          refine take_ (i := 5) (N := some 29) (v := ?_) (a' := ?_) #[true, true, true, true, true, true, false, false, true, true, true, false, false, false, false, false, false, false] rfl rfl (take_ofW HT_.out HW_.out (by kernel_rfl)) (fun _ _ _ h => h) (Or.inl ⟨by rfl, ?_⟩) hHeld ?_ ?_
                          rotate_left
                          · intro w' _
                            go_simp
                            with_reducible rfl
                          rotate_left
                          · simp only [Act.put, List.setIfInBounds_toArray, List.set_cons_zero, List.set_cons_succ, i64_w, i32_w]
                            rfl
                          refine pure_ (i := 6) (N := some 30) (v := ?_) (a' := ?_) #[true, true, true, true, true, true, true, false, true, true, true, false, false, false, false, false, false, false] rfl rfl (any_of HT_.out (by kernel_rfl)) (fun _ _ _ h => h) (Or.inl ⟨by rfl, ?_⟩) ?_ ?_
                          rotate_left
                          · intro w'
                            go_simp
                            with_reducible rfl
                          rotate_left
                          · simp only [Act.put, List.setIfInBounds_toArray, List.set_cons_zero, List.set_cons_succ, i64_w, i32_w]
                            rfl
                          refine take_ (i := 7) (N := some 31) (v := ?_) (a' := ?_) #[true, true, true, true, true, true, true, true, true, true, true, false, false, false, false, false, false, false] rfl rfl (take_ofW HT_.out HW_.out (by kernel_rfl)) (fun _ _ _ h => h) (Or.inl ⟨by rfl, ?_⟩) hHeld ?_ ?_
                          rotate_left
                          · intro w' _
                            go_simp
                            with_reducible rfl
                          rotate_left
                          · simp only [Act.put, List.setIfInBounds_toArray, List.set_cons_zero, List.set_cons_succ, i64_w, i32_w]
                            rfl
                          refine take_ (i := 11) (N := some 35) (v := ?_) (a' := ?_) #[true, true, true, true, true, true, true, true, true, true, true, true, false, false, false, false, false, false] rfl rfl (take_ofW HT_.out HW_.out (by kernel_rfl)) (fun _ _ _ h => h) (Or.inl ⟨by rfl, ?_⟩) hHeld ?_ ?_
                          rotate_left
                          · intro w' _
                            go_simp
                            with_reducible rfl
                          rotate_left
                          · simp only [Act.put, List.setIfInBounds_toArray, List.set_cons_zero, List.set_cons_succ, i64_w, i32_w]
                            rfl
                          refine pure_ (i := 12) (N := some 36) (v := ?_) (a' := ?_) #[true, true, true, true, true, true, true, true, true, true, true, true, true, false, false, false, false, false] rfl rfl (any_of HT_.out (by kernel_rfl)) (fun _ _ _ h => h) (Or.inl ⟨by rfl, ?_⟩) ?_ ?_
                          rotate_left
                          · intro w'
                            go_simp
                            with_reducible rfl
                          rotate_left
                          · simp only [Act.put, List.setIfInBounds_toArray, List.set_cons_zero, List.set_cons_succ, i64_w, i32_w]
                            rfl
                          refine take_ (i := 13) (N := some 37) (v := ?_) (a' := ?_) #[true, true, true, true, true, true, true, true, true, true, true, true, true, true, false, false, false, false] rfl rfl (take_ofW HT_.out HW_.out (by kernel_rfl)) (fun _ _ _ h => h) (Or.inl ⟨by rfl, ?_⟩) hHeld ?_ ?_
                          rotate_left
                          · intro w' _
                            go_simp
                            with_reducible rfl
                          rotate_left
                          · simp only [Act.put, List.setIfInBounds_toArray, List.set_cons_zero, List.set_cons_succ, i64_w, i32_w]
                            rfl
                          refine one_ (i := 14) (N := some 38) #[true, true, true, true, true, true, true, true, true, true, true, true, true, true, true, false, false, false] rfl rfl (one_of HT_.out (by kernel_rfl)) (by decide) (fun K hK => ?_)
                          refine Kd.R_lit_step (Kd.int .u8) _ 5 ?hg (N := 38) ?hd (xs := ([bt (⟨#[48, 49, 50, 51, 52, 53, 54, 55, 56, 57, 97, 98, 99, 100, 101, 102]⟩ : ByteArray) (ji12), bt (⟨#[48, 49, 50, 51, 52, 53, 54, 55, 56, 57, 97, 98, 99, 100, 101, 102]⟩ : ByteArray) (ji17)] : List Int)) (inner := [.int .u8 (bt (⟨#[48, 49, 50, 51, 52, 53, 54, 55, 56, 57, 97, 98, 99, 100, 101, 102]⟩ : ByteArray) (ji12)), .int .u8 (bt (⟨#[48, 49, 50, 51, 52, 53, 54, 55, 56, 57, 97, 98, 99, 100, 101, 102]⟩ : ByteArray) (ji17))]) (ok := fun _ => True) (okp := fun _ => True) ?hr ?hp (fun _ hk => hk) trivial (Below.refl _ _) (Nat.le_refl _) (by simp) ?_; (case hd => rfl); (case hg => rfl); (case hr => first | (go_simp; done) | (go_simp; rfl)); (case hp => exact (Reps.one (show Kd.M (Kd.int .u8) _ _ _ (bt (⟨#[48, 49, 50, 51, 52, 53, 54, 55, 56, 57, 97, 98, 99, 100, 101, 102]⟩ : ByteArray) (ji12)) [.int .u8 (bt (⟨#[48, 49, 50, 51, 52, 53, 54, 55, 56, 57, 97, 98, 99, 100, 101, 102]⟩ : ByteArray) (ji12))] from rfl) (Reps.one (show Kd.M (Kd.int .u8) _ _ _ (bt (⟨#[48, 49, 50, 51, 52, 53, 54, 55, 56, 57, 97, 98, 99, 100, 101, 102]⟩ : ByteArray) (ji17)) [.int .u8 (bt (⟨#[48, 49, 50, 51, 52, 53, 54, 55, 56, 57, 97, 98, 99, 100, 101, 102]⟩ : ByteArray) (ji17))] from rfl) (Reps.none _ _))))
                          intro v243 w23 ho24 hb hg_ hnew_
                          clear hg_ hnew_
                          (first | rw [← Ny242.out] at ho24 | (simp only [Int.reduceToNat] at ho24; rw [← Ny242.out] at ho24))
                          have n0_ := Aside0.mk (Kd.R_lower ho24 (below_size (by repeat (first | (with_reducible first | exact HB.out | apply below_alloc | apply pw_below_drewN | apply below_drew1) | exact HB.out))))
                          have n1_ := Aside0.mk (below_step (by repeat (first | (with_reducible first | exact HB.out | apply below_alloc | apply pw_below_drewN | apply below_drew1) | exact HB.out)) hb)
                          clear HB
                          have HO244 := n0_
                          have HB := n1_
                          clear n0_ n1_
                          clear hb ho24
                          refine hK.out _ _ trivial (fun hHeld => ?_)
                          clear hK K
                          refine norm_ (a' := ?_) ?_ ?_
                          rotate_left
                          · show Act.put _ (some 38) _ = _
                            simp only [Act.put, List.setIfInBounds_toArray, List.set_cons_zero, List.set_cons_succ, i64_w, i32_w]
                            rfl
                          refine one_ (i := 15) (N := some 39) #[true, true, true, true, true, true, true, true, true, true, true, true, true, true, true, true, false, false] rfl rfl (one_of HT_.out (by kernel_rfl)) (by decide) (fun K hK => ?_)
                          have hcv25 := own_string (P := Try.prog) Try.underlying35 Try.underlying5 Try.underlying9 (Kd.own_of_R HO244.out)
                          refine value_ (w1 := ?_) (v := ?_) (by rfl) rfl ?_ ?_
                          rotate_left 2
                          · go_simp
                            constructor
                            · rfl
                            · rfl
                          clear hcv25
                          refine hK.out _ _ trivial (fun hHeld => ?_)
                          clear hK K
                          refine norm_ (a' := ?_) ?_ ?_
                          rotate_left
                          · show Act.put _ (some 39) _ = _
                            simp only [Act.put, List.setIfInBounds_toArray, List.set_cons_zero, List.set_cons_succ, i64_w, i32_w]
                            rfl
                          refine pure_ (i := 16) (N := some 40) (v := ?_) (a' := ?_) #[true, true, true, true, true, true, true, true, true, true, true, true, true, true, true, true, true, false] rfl rfl (any_of HT_.out (by kernel_rfl)) (fun _ _ _ h => h) (Or.inl ⟨by rfl, ?_⟩) ?_ ?_
                          rotate_left
                          · intro w'
                            go_simp
                            with_reducible rfl
                          rotate_left
                          · simp only [Act.put, List.setIfInBounds_toArray, List.set_cons_zero, List.set_cons_succ, i64_w, i32_w]
                            rfl
                          refine pure_ (i := 17) (N := some 6) (v := ?_) (a' := ?_) #[true, true, true, true, true, true, true, true, true, true, true, true, true, true, true, true, true, true] rfl rfl (any_of HT_.out (by kernel_rfl)) (fun _ _ _ h => h) (Or.inl ⟨by rfl, ?_⟩) ?_ ?_
                          rotate_left
                          · intro w'
                            go_simp
                            with_reducible rfl
                          rotate_left
                          · simp only [Act.put, List.setIfInBounds_toArray, List.set_cons_zero, List.set_cons_succ, i64_w, i32_w]
                            rfl
                          refine done_ (done_of HT_.out (by kernel_rfl)) ?_
                          try go_wp2
                          go_roundg k1
                          case measure => have := HK1.out; omega
                          case rel => exact ⟨((x6_1 ++ (⟨#[92, 120]⟩ : ByteArray)) ++ (strOfNums y242)), (wrap64 (x7_1 + 1)), (by first | rfl | (simp; done) | (simp [i64_w]; done) | (simp [*]; done) | (simp [*, i64_w]; done) | (simp [*]; unfold wrap64; omega)), (by first | rfl | (simp; done) | (simp [i64_w]; done) | (simp [*]; done) | (simp [*, i64_w]; done) | (simp [*]; unfold wrap64; omega)), H', ⟨by have := HK1.out; omega⟩, ⟨by repeat (first | (with_reducible first | exact HB.out | apply below_alloc | apply pw_below_drewN | apply below_drew1) | exact HB.out)⟩⟩
                        · rw [if_neg c21] at H
                          exact absurd H (by simp)
                      · rw [if_neg c19] at H
                        exact absurd H (by simp)
                    · rw [if_neg c18] at H
                      exact absurd H (by simp)
                  · rw [if_neg c14] at H
                    exact absurd H (by simp)
                · rw [if_neg c13] at H
                  exact absurd H (by simp)
              · rw [if_neg c10] at H
                exact absurd H (by simp)
            · rw [if_neg c9] at H
              exact absurd H (by simp)
          · rw [if_neg c8] at H
            have c8b0 : decide (x7_1 < (a0.size : Int)) = false := decide_eq_false c8
            clear c8
            obtain ⟨ji26, hji26⟩ : ∃ j_ : Int, (wrap64 (Int.tdiv (Go.bits .and .i64 a1 255) 16)) = j_ := ⟨_, rfl⟩
            replace H : (if 0 ≤ (ji26) then (if (ji26) < ((⟨#[48, 49, 50, 51, 52, 53, 54, 55, 56, 57, 97, 98, 99, 100, 101, 102]⟩ : ByteArray).size : Int) then (if 0 ≤ (Int.tmod (Go.bits .and .i64 a1 255) 16) then (if (Int.tmod (Go.bits .and .i64 a1 255) 16) < ((⟨#[48, 49, 50, 51, 52, 53, 54, 55, 56, 57, 97, 98, 99, 100, 101, 102]⟩ : ByteArray).size : Int) then ((some (([bt (⟨#[48, 49, 50, 51, 52, 53, 54, 55, 56, 57, 97, 98, 99, 100, 101, 102]⟩ : ByteArray) (ji26), bt (⟨#[48, 49, 50, 51, 52, 53, 54, 55, 56, 57, 97, 98, 99, 100, 101, 102]⟩ : ByteArray) (Int.tmod (Go.bits .and .i64 a1 255) 16)] : List Int) : List Int)).bind fun y245 => (if 3 + (strOfNums y245).size ≤ 9223372036854775807 then (if ((⟨#[39, 92, 120]⟩ : ByteArray) ++ (strOfNums y245)).size + 1 ≤ 9223372036854775807 then (if x6_1.size + 1 ≤ 9223372036854775807 then (if (x6_1 ++ (⟨#[34]⟩ : ByteArray)).size + (((⟨#[39, 92, 120]⟩ : ByteArray) ++ (strOfNums y245)) ++ (⟨#[39]⟩ : ByteArray)).size ≤ 9223372036854775807 then (if ((x6_1 ++ (⟨#[34]⟩ : ByteArray)) ++ (((⟨#[39, 92, 120]⟩ : ByteArray) ++ (strOfNums y245)) ++ (⟨#[39]⟩ : ByteArray))).size + 2 ≤ 9223372036854775807 then (if (((x6_1 ++ (⟨#[34]⟩ : ByteArray)) ++ (((⟨#[39, 92, 120]⟩ : ByteArray) ++ (strOfNums y245)) ++ (⟨#[39]⟩ : ByteArray))) ++ (⟨#[46, 46]⟩ : ByteArray)).size + (((⟨#[39, 92, 120]⟩ : ByteArray) ++ (strOfNums y245)) ++ (⟨#[39]⟩ : ByteArray)).size ≤ 9223372036854775807 then ((lex_Lex.f k1 ((((x6_1 ++ (⟨#[34]⟩ : ByteArray)) ++ (((⟨#[39, 92, 120]⟩ : ByteArray) ++ (strOfNums y245)) ++ (⟨#[39]⟩ : ByteArray))) ++ (⟨#[46, 46]⟩ : ByteArray)) ++ (((⟨#[39, 92, 120]⟩ : ByteArray) ++ (strOfNums y245)) ++ (⟨#[39]⟩ : ByteArray)))).bind fun bt248 => ((templelaw0_Num.f bt248.2.2).bind fun t253 => (if t253 = 0 then ((templelaw0_SameTokens.f k1 bt248.1 (([(⟨1, 0, a0, 0, 0⟩ : S33), (⟨2, wrap64 ((x6_1.size : Int) + 1), (⟨#[]⟩ : ByteArray), Go.bits .and .i64 a1 255, Go.bits .and .i64 a1 255⟩ : S33)] : List (S33)))).bind fun t257 => (some t257)) else (none)))) else (none)) else (none)) else (none)) else (none)) else (none)) else (none))) else (none)) else (none)) else (none)) else (none)) = some r := by first | (rw [hji26] at H; exact H) | (simp only [hji26] at H ⊢; exact H)
            have hji26w : (IntKind.i64.wrap (Int.tdiv (Go.bits .and .i64 a1 255) 16)) = ji26 := (i64_w _).trans hji26
            by_cases c27 : 0 ≤ (ji26)
            · rw [if_pos c27] at H
              have c27b0 : decide (0 ≤ (ji26)) = true := decide_eq_true c27
              clear c27
              by_cases c28 : (ji26) < ((⟨#[48, 49, 50, 51, 52, 53, 54, 55, 56, 57, 97, 98, 99, 100, 101, 102]⟩ : ByteArray).size : Int)
              · rw [if_pos c28] at H
                have c28b0 : decide ((ji26) < ((⟨#[48, 49, 50, 51, 52, 53, 54, 55, 56, 57, 97, 98, 99, 100, 101, 102]⟩ : ByteArray).size : Int)) = true := decide_eq_true c28
                clear c28
                obtain ⟨ji30, hji30⟩ : ∃ j_ : Int, (Int.tmod (Go.bits .and .i64 a1 255) 16) = j_ := ⟨_, rfl⟩
                replace H : (if 0 ≤ (ji30) then (if (ji30) < ((⟨#[48, 49, 50, 51, 52, 53, 54, 55, 56, 57, 97, 98, 99, 100, 101, 102]⟩ : ByteArray).size : Int) then ((some (([bt (⟨#[48, 49, 50, 51, 52, 53, 54, 55, 56, 57, 97, 98, 99, 100, 101, 102]⟩ : ByteArray) (ji26), bt (⟨#[48, 49, 50, 51, 52, 53, 54, 55, 56, 57, 97, 98, 99, 100, 101, 102]⟩ : ByteArray) (ji30)] : List Int) : List Int)).bind fun y245 => (if 3 + (strOfNums y245).size ≤ 9223372036854775807 then (if ((⟨#[39, 92, 120]⟩ : ByteArray) ++ (strOfNums y245)).size + 1 ≤ 9223372036854775807 then (if x6_1.size + 1 ≤ 9223372036854775807 then (if (x6_1 ++ (⟨#[34]⟩ : ByteArray)).size + (((⟨#[39, 92, 120]⟩ : ByteArray) ++ (strOfNums y245)) ++ (⟨#[39]⟩ : ByteArray)).size ≤ 9223372036854775807 then (if ((x6_1 ++ (⟨#[34]⟩ : ByteArray)) ++ (((⟨#[39, 92, 120]⟩ : ByteArray) ++ (strOfNums y245)) ++ (⟨#[39]⟩ : ByteArray))).size + 2 ≤ 9223372036854775807 then (if (((x6_1 ++ (⟨#[34]⟩ : ByteArray)) ++ (((⟨#[39, 92, 120]⟩ : ByteArray) ++ (strOfNums y245)) ++ (⟨#[39]⟩ : ByteArray))) ++ (⟨#[46, 46]⟩ : ByteArray)).size + (((⟨#[39, 92, 120]⟩ : ByteArray) ++ (strOfNums y245)) ++ (⟨#[39]⟩ : ByteArray)).size ≤ 9223372036854775807 then ((lex_Lex.f k1 ((((x6_1 ++ (⟨#[34]⟩ : ByteArray)) ++ (((⟨#[39, 92, 120]⟩ : ByteArray) ++ (strOfNums y245)) ++ (⟨#[39]⟩ : ByteArray))) ++ (⟨#[46, 46]⟩ : ByteArray)) ++ (((⟨#[39, 92, 120]⟩ : ByteArray) ++ (strOfNums y245)) ++ (⟨#[39]⟩ : ByteArray)))).bind fun bt248 => ((templelaw0_Num.f bt248.2.2).bind fun t253 => (if t253 = 0 then ((templelaw0_SameTokens.f k1 bt248.1 (([(⟨1, 0, a0, 0, 0⟩ : S33), (⟨2, wrap64 ((x6_1.size : Int) + 1), (⟨#[]⟩ : ByteArray), Go.bits .and .i64 a1 255, Go.bits .and .i64 a1 255⟩ : S33)] : List (S33)))).bind fun t257 => (some t257)) else (none)))) else (none)) else (none)) else (none)) else (none)) else (none)) else (none))) else (none)) else (none)) = some r := by first | (rw [hji30] at H; exact H) | (simp only [hji30] at H ⊢; exact H)
                by_cases c31 : 0 ≤ (ji30)
                · rw [if_pos c31] at H
                  have c31b0 : decide (0 ≤ (ji30)) = true := decide_eq_true c31
                  clear c31
                  by_cases c32 : (ji30) < ((⟨#[48, 49, 50, 51, 52, 53, 54, 55, 56, 57, 97, 98, 99, 100, 101, 102]⟩ : ByteArray).size : Int)
                  · rw [if_pos c32] at H
                    have c32b0 : decide ((ji30) < ((⟨#[48, 49, 50, 51, 52, 53, 54, 55, 56, 57, 97, 98, 99, 100, 101, 102]⟩ : ByteArray).size : Int)) = true := decide_eq_true c32
                    clear c32
                    obtain ⟨y245, hy245⟩ : ∃ y_ : List Int, y_ = (([bt (⟨#[48, 49, 50, 51, 52, 53, 54, 55, 56, 57, 97, 98, 99, 100, 101, 102]⟩ : ByteArray) (ji26), bt (⟨#[48, 49, 50, 51, 52, 53, 54, 55, 56, 57, 97, 98, 99, 100, 101, 102]⟩ : ByteArray) (ji30)] : List Int)) := ⟨_, rfl⟩
                    replace H : (if 3 + (strOfNums y245).size ≤ 9223372036854775807 then (if ((⟨#[39, 92, 120]⟩ : ByteArray) ++ (strOfNums y245)).size + 1 ≤ 9223372036854775807 then (if x6_1.size + 1 ≤ 9223372036854775807 then (if (x6_1 ++ (⟨#[34]⟩ : ByteArray)).size + (((⟨#[39, 92, 120]⟩ : ByteArray) ++ (strOfNums y245)) ++ (⟨#[39]⟩ : ByteArray)).size ≤ 9223372036854775807 then (if ((x6_1 ++ (⟨#[34]⟩ : ByteArray)) ++ (((⟨#[39, 92, 120]⟩ : ByteArray) ++ (strOfNums y245)) ++ (⟨#[39]⟩ : ByteArray))).size + 2 ≤ 9223372036854775807 then (if (((x6_1 ++ (⟨#[34]⟩ : ByteArray)) ++ (((⟨#[39, 92, 120]⟩ : ByteArray) ++ (strOfNums y245)) ++ (⟨#[39]⟩ : ByteArray))) ++ (⟨#[46, 46]⟩ : ByteArray)).size + (((⟨#[39, 92, 120]⟩ : ByteArray) ++ (strOfNums y245)) ++ (⟨#[39]⟩ : ByteArray)).size ≤ 9223372036854775807 then ((lex_Lex.f k1 ((((x6_1 ++ (⟨#[34]⟩ : ByteArray)) ++ (((⟨#[39, 92, 120]⟩ : ByteArray) ++ (strOfNums y245)) ++ (⟨#[39]⟩ : ByteArray))) ++ (⟨#[46, 46]⟩ : ByteArray)) ++ (((⟨#[39, 92, 120]⟩ : ByteArray) ++ (strOfNums y245)) ++ (⟨#[39]⟩ : ByteArray)))).bind fun bt248 => ((templelaw0_Num.f bt248.2.2).bind fun t253 => (if t253 = 0 then ((templelaw0_SameTokens.f k1 bt248.1 (([(⟨1, 0, a0, 0, 0⟩ : S33), (⟨2, wrap64 ((x6_1.size : Int) + 1), (⟨#[]⟩ : ByteArray), Go.bits .and .i64 a1 255, Go.bits .and .i64 a1 255⟩ : S33)] : List (S33)))).bind fun t257 => (some t257)) else (none)))) else (none)) else (none)) else (none)) else (none)) else (none)) else (none)) = some r := by first | (rw [hy245]; with_reducible exact H) | (have H2_ := (Option.bind_some _ _).symm.trans H; rw [hy245]; with_reducible exact H2_) | (have H2_ := (Option.bind_some _ _).symm.trans H; with_reducible exact H2_) | with_reducible exact H | (rw [hy245]; exact H) | exact H
                    have Ny245 := Aside0.mk hy245
                    clear hy245
                    by_cases c34 : 3 + (strOfNums y245).size ≤ 9223372036854775807
                    · rw [if_pos c34] at H
                      have c34b0 := eq_true c34
                      have c34b1 : decide (3 + (strOfNums y245).size ≤ 9223372036854775807) = true := decide_eq_true c34
                      try have c34b2 : (9223372036854775807 < 3 + (strOfNums y245).size) = False := eq_false (Nat.not_lt.2 c34)
                      by_cases c35 : ((⟨#[39, 92, 120]⟩ : ByteArray) ++ (strOfNums y245)).size + 1 ≤ 9223372036854775807
                      · rw [if_pos c35] at H
                        have c35b0 := eq_true c35
                        have c35b1 : decide (((⟨#[39, 92, 120]⟩ : ByteArray) ++ (strOfNums y245)).size + 1 ≤ 9223372036854775807) = true := decide_eq_true c35
                        try have c35b2 : (9223372036854775807 < ((⟨#[39, 92, 120]⟩ : ByteArray) ++ (strOfNums y245)).size + 1) = False := eq_false (Nat.not_lt.2 c35)
                        try have c35b3 : (9223372036854775807 < 3 + (strOfNums y245).size + 1) = False := eq_false (by have q_ := c35; have z0_ : (⟨#[39, 92, 120]⟩ : ByteArray).size = 3 := rfl; (try simp only [ByteArray.size_append, ByteArray.size_extract] at q_); omega)
                        by_cases c36 : x6_1.size + 1 ≤ 9223372036854775807
                        · rw [if_pos c36] at H
                          have c36b0 := eq_true c36
                          have c36b1 : decide (x6_1.size + 1 ≤ 9223372036854775807) = true := decide_eq_true c36
                          try have c36b2 : (9223372036854775807 < x6_1.size + 1) = False := eq_false (Nat.not_lt.2 c36)
                          by_cases c37 : (x6_1 ++ (⟨#[34]⟩ : ByteArray)).size + (((⟨#[39, 92, 120]⟩ : ByteArray) ++ (strOfNums y245)) ++ (⟨#[39]⟩ : ByteArray)).size ≤ 9223372036854775807
                          · rw [if_pos c37] at H
                            have c37b0 := eq_true c37
                            have c37b1 : decide ((x6_1 ++ (⟨#[34]⟩ : ByteArray)).size + (((⟨#[39, 92, 120]⟩ : ByteArray) ++ (strOfNums y245)) ++ (⟨#[39]⟩ : ByteArray)).size ≤ 9223372036854775807) = true := decide_eq_true c37
                            try have c37b2 : (9223372036854775807 < (x6_1 ++ (⟨#[34]⟩ : ByteArray)).size + (((⟨#[39, 92, 120]⟩ : ByteArray) ++ (strOfNums y245)) ++ (⟨#[39]⟩ : ByteArray)).size) = False := eq_false (Nat.not_lt.2 c37)
                            try have c37b3 : (9223372036854775807 < x6_1.size + 1 + (3 + (strOfNums y245).size + 1)) = False := eq_false (by have q_ := c37; have z0_ : (⟨#[34]⟩ : ByteArray).size = 1 := rfl; have z1_ : (⟨#[39, 92, 120]⟩ : ByteArray).size = 3 := rfl; have z2_ : (⟨#[39]⟩ : ByteArray).size = 1 := rfl; (try simp only [ByteArray.size_append, ByteArray.size_extract] at q_); omega)
                            by_cases c38 : ((x6_1 ++ (⟨#[34]⟩ : ByteArray)) ++ (((⟨#[39, 92, 120]⟩ : ByteArray) ++ (strOfNums y245)) ++ (⟨#[39]⟩ : ByteArray))).size + 2 ≤ 9223372036854775807
                            · rw [if_pos c38] at H
                              have c38b0 := eq_true c38
                              have c38b1 : decide (((x6_1 ++ (⟨#[34]⟩ : ByteArray)) ++ (((⟨#[39, 92, 120]⟩ : ByteArray) ++ (strOfNums y245)) ++ (⟨#[39]⟩ : ByteArray))).size + 2 ≤ 9223372036854775807) = true := decide_eq_true c38
                              try have c38b2 : (9223372036854775807 < ((x6_1 ++ (⟨#[34]⟩ : ByteArray)) ++ (((⟨#[39, 92, 120]⟩ : ByteArray) ++ (strOfNums y245)) ++ (⟨#[39]⟩ : ByteArray))).size + 2) = False := eq_false (Nat.not_lt.2 c38)
                              try have c38b3 : (9223372036854775807 < x6_1.size + 1 + (3 + (strOfNums y245).size + 1) + 2) = False := eq_false (by have q_ := c38; have z0_ : (⟨#[34]⟩ : ByteArray).size = 1 := rfl; have z1_ : (⟨#[39, 92, 120]⟩ : ByteArray).size = 3 := rfl; have z2_ : (⟨#[39]⟩ : ByteArray).size = 1 := rfl; (try simp only [ByteArray.size_append, ByteArray.size_extract] at q_); omega)
                              by_cases c39 : (((x6_1 ++ (⟨#[34]⟩ : ByteArray)) ++ (((⟨#[39, 92, 120]⟩ : ByteArray) ++ (strOfNums y245)) ++ (⟨#[39]⟩ : ByteArray))) ++ (⟨#[46, 46]⟩ : ByteArray)).size + (((⟨#[39, 92, 120]⟩ : ByteArray) ++ (strOfNums y245)) ++ (⟨#[39]⟩ : ByteArray)).size ≤ 9223372036854775807
                              · rw [if_pos c39] at H
                                have c39b0 := eq_true c39
                                have c39b1 : decide ((((x6_1 ++ (⟨#[34]⟩ : ByteArray)) ++ (((⟨#[39, 92, 120]⟩ : ByteArray) ++ (strOfNums y245)) ++ (⟨#[39]⟩ : ByteArray))) ++ (⟨#[46, 46]⟩ : ByteArray)).size + (((⟨#[39, 92, 120]⟩ : ByteArray) ++ (strOfNums y245)) ++ (⟨#[39]⟩ : ByteArray)).size ≤ 9223372036854775807) = true := decide_eq_true c39
                                try have c39b2 : (9223372036854775807 < (((x6_1 ++ (⟨#[34]⟩ : ByteArray)) ++ (((⟨#[39, 92, 120]⟩ : ByteArray) ++ (strOfNums y245)) ++ (⟨#[39]⟩ : ByteArray))) ++ (⟨#[46, 46]⟩ : ByteArray)).size + (((⟨#[39, 92, 120]⟩ : ByteArray) ++ (strOfNums y245)) ++ (⟨#[39]⟩ : ByteArray)).size) = False := eq_false (Nat.not_lt.2 c39)
                                try have c39b3 : (9223372036854775807 < x6_1.size + 1 + (3 + (strOfNums y245).size + 1) + 2 + (3 + (strOfNums y245).size + 1)) = False := eq_false (by have q_ := c39; have z0_ : (⟨#[34]⟩ : ByteArray).size = 1 := rfl; have z1_ : (⟨#[39, 92, 120]⟩ : ByteArray).size = 3 := rfl; have z2_ : (⟨#[39]⟩ : ByteArray).size = 1 := rfl; have z3_ : (⟨#[46, 46]⟩ : ByteArray).size = 2 := rfl; (try simp only [ByteArray.size_append, ByteArray.size_extract] at q_); omega)
                                replace H := Option.bind_eq_some_iff.mp H
                                obtain ⟨⟨t248, t249, t250⟩, A400, H⟩ := H
                                replace H : ((templelaw0_Num.f t250).bind fun t253 => (if t253 = 0 then ((templelaw0_SameTokens.f k1 t248 (([(⟨1, 0, a0, 0, 0⟩ : S33), (⟨2, wrap64 ((x6_1.size : Int) + 1), (⟨#[]⟩ : ByteArray), Go.bits .and .i64 a1 255, Go.bits .and .i64 a1 255⟩ : S33)] : List (S33)))).bind fun t257 => (some t257)) else (none))) = some r := H
                                have A40 := Aside0.mk A400
                                clear A400
                                replace H := Option.bind_eq_some_iff.mp H
                                obtain ⟨t253, A410, H⟩ := H
                                replace H : (if t253 = 0 then ((templelaw0_SameTokens.f k1 t248 (([(⟨1, 0, a0, 0, 0⟩ : S33), (⟨2, wrap64 ((x6_1.size : Int) + 1), (⟨#[]⟩ : ByteArray), Go.bits .and .i64 a1 255, Go.bits .and .i64 a1 255⟩ : S33)] : List (S33)))).bind fun t257 => (some t257)) else (none)) = some r := H
                                have A41 := Aside0.mk A410
                                clear A410
                                by_cases c42 : t253 = 0
                                · rw [if_pos c42] at H
                                  have c42b0 : (t253 == 0) = true := beq_iff_eq.mpr c42
                                  have c42b1 : (t253 != 0) = false := bne_eq_false_iff_eq.mpr c42
                                  clear c42
                                  have hwz_ : wrap64 ((x6_1.size : Int) + 1) = ((x6_1.size : Int) + 1) := by unfold wrap64; omega
                                  rw [hwz_] at H
                                  clear hwz_
                                  obtain ⟨y254, hy254⟩ : ∃ y_ : List (S33), y_ = (([(⟨1, 0, a0, 0, 0⟩ : S33), (⟨2, ((x6_1.size : Int) + 1), (⟨#[]⟩ : ByteArray), Go.bits .and .i64 a1 255, Go.bits .and .i64 a1 255⟩ : S33)] : List (S33))) := ⟨_, rfl⟩
                                  replace H : ((templelaw0_SameTokens.f k1 t248 y254).bind fun t257 => (some t257)) = some r := by first | (rw [hy254]; with_reducible exact H) | (have H2_ := (Option.bind_some _ _).symm.trans H; rw [hy254]; with_reducible exact H2_) | (have H2_ := (Option.bind_some _ _).symm.trans H; with_reducible exact H2_) | with_reducible exact H | (rw [hy254]; exact H) | exact H
                                  have Ny254 := Aside0.mk hy254
                                  clear hy254
                                  replace H := Option.bind_eq_some_iff.mp H
                                  obtain ⟨t257, A430, H⟩ := H
                                  replace H : (some t257) = some r := H
                                  have A43 := Aside0.mk A430
                                  clear A430
                                  obtain rfl := Option.some.inj H
                                  try go_wp2
                                  have n0_ := Aside0.mk (below_drew1 HB.out)
                                  clear HB
                                  have HB := n0_
                                  clear n0_
                                  have p29 : 0 ≤ ((ji26) : Int) := of_decide_eq_true (by first | (with_reducible assumption) | assumption)
                                  have q29 : (ji26) < (16 : Int) := of_decide_eq_true (by first | (with_reducible assumption) | assumption)
                                  have hx29 := bt_at (⟨#[48, 49, 50, 51, 52, 53, 54, 55, 56, 57, 97, 98, 99, 100, 101, 102]⟩ : ByteArray) (ji26)
                                  replace p29 := eq_true p29
                                  replace q29 := eq_true q29
                                  have p33 : 0 ≤ ((ji30) : Int) := of_decide_eq_true (by first | (with_reducible assumption) | assumption)
                                  have q33 : (ji30) < (16 : Int) := of_decide_eq_true (by first | (with_reducible assumption) | assumption)
                                  have hx33 := bt_at (⟨#[48, 49, 50, 51, 52, 53, 54, 55, 56, 57, 97, 98, 99, 100, 101, 102]⟩ : ByteArray) (ji30)
                                  replace p33 := eq_true p33
                                  replace q33 := eq_true q33
                                  refine start_ (n := 13) (S := fun w' => True) (ds := []) #[false, false, false, false, false, false, false, false, false, false, false, false, false] (by kernel_rfl) rfl rfl trivial (fun hHeld => ?_); refine with_tabW templelaw2_LexTexts.tab12 templelaw2_LexTexts.bits12 (fun HT_ HW_ => ?_)
                                  generalize wr.drew = w44 at HB hHeld ⊢
                                  refine pure_ (i := 0) (N := some 43) (v := ?_) (a' := ?_) #[true, false, false, false, false, false, false, false, false, false, false, false, false] rfl rfl (any_of HT_.out (by kernel_rfl)) (fun _ _ _ h => h) (Or.inl ⟨by rfl, ?_⟩) ?_ ?_
                                  rotate_left
                                  · intro w'
                                    go_simp
                                    with_reducible rfl
                                  rotate_left
                                  · simp only [Act.put, List.setIfInBounds_toArray, List.set_cons_zero, List.set_cons_succ, i64_w, i32_w]
                                    rfl
                                  refine pure_ (i := 1) (N := some 44) (v := ?_) (a' := ?_) #[true, true, false, false, false, false, false, false, false, false, false, false, false] rfl rfl (any_of HT_.out (by kernel_rfl)) (fun _ _ _ h => h) (Or.inl ⟨by rfl, ?_⟩) ?_ ?_
                                  rotate_left
                                  · intro w'
                                    go_simp
                                    with_reducible rfl
                                  rotate_left
                                  · simp only [Act.put, List.setIfInBounds_toArray, List.set_cons_zero, List.set_cons_succ, i64_w, i32_w]
                                    rfl
                                  refine pure_ (i := 2) (N := some 45) (v := ?_) (a' := ?_) #[true, true, true, false, false, false, false, false, false, false, false, false, false] rfl rfl (any_of HT_.out (by kernel_rfl)) (fun _ _ _ h => h) (Or.inl ⟨by rfl, ?_⟩) ?_ ?_
                                  rotate_left
                                  · intro w'
                                    go_simp
                                    with_reducible rfl
                                  rotate_left
                                  · simp only [Act.put, List.setIfInBounds_toArray, List.set_cons_zero, List.set_cons_succ, i64_w, i32_w]
                                    rfl
                                  refine pure_ (i := 4) (N := some 47) (v := ?_) (a' := ?_) #[true, true, true, false, true, false, false, false, false, false, false, false, false] rfl rfl (any_of HT_.out (by kernel_rfl)) (fun _ _ _ h => h) (Or.inl ⟨by rfl, ?_⟩) ?_ ?_
                                  rotate_left
                                  · intro w'
                                    go_simp
                                    with_reducible rfl
                                  rotate_left
                                  · simp only [Act.put, List.setIfInBounds_toArray, List.set_cons_zero, List.set_cons_succ, i64_w, i32_w]
                                    rfl
                                  refine pure_ (i := 5) (N := some 48) (v := ?_) (a' := ?_) #[true, true, true, false, true, true, false, false, false, false, false, false, false] rfl rfl (any_of HT_.out (by kernel_rfl)) (fun _ _ _ h => h) (Or.inl ⟨by rfl, ?_⟩) ?_ ?_
                                  rotate_left
                                  · intro w'
                                    go_simp
                                    with_reducible rfl
                                  rotate_left
                                  · simp only [Act.put, List.setIfInBounds_toArray, List.set_cons_zero, List.set_cons_succ, i64_w, i32_w]
                                    rfl
                                  refine pure_ (i := 6) (N := some 49) (v := ?_) (a' := ?_) #[true, true, true, false, true, true, true, false, false, false, false, false, false] rfl rfl (any_of HT_.out (by kernel_rfl)) (fun _ _ _ h => h) (Or.inl ⟨by rfl, ?_⟩) ?_ ?_
                                  rotate_left
                                  · intro w'
                                    go_simp
                                    with_reducible rfl
                                  rotate_left
                                  · simp only [Act.put, List.setIfInBounds_toArray, List.set_cons_zero, List.set_cons_succ, i64_w, i32_w]
                                    rfl
                                  refine take_ (i := 3) (N := some 46) (v := ?_) (a' := ?_) #[true, true, true, true, true, true, true, false, false, false, false, false, false] rfl rfl (take_ofW HT_.out HW_.out (by kernel_rfl)) (fun _ _ _ h => h) (Or.inl ⟨by rfl, ?_⟩) hHeld ?_ ?_
                                  rotate_left
                                  · intro w' _
                                    go_simp
                                    with_reducible rfl
                                  rotate_left
                                  · simp only [Act.put, List.setIfInBounds_toArray, List.set_cons_zero, List.set_cons_succ, i64_w, i32_w]
                                    rfl
                                  refine take_ (i := 7) (N := some 50) (v := ?_) (a' := ?_) #[true, true, true, true, true, true, true, true, false, false, false, false, false] rfl rfl (take_ofW HT_.out HW_.out (by kernel_rfl)) (fun _ _ _ h => h) (Or.inl ⟨by rfl, ?_⟩) hHeld ?_ ?_
                                  rotate_left
                                  · intro w' _
                                    go_simp
                                    with_reducible rfl
                                  rotate_left
                                  · simp only [Act.put, List.setIfInBounds_toArray, List.set_cons_zero, List.set_cons_succ, i64_w, i32_w]
                                    rfl
                                  refine one_ (i := 8) (N := some 51) #[true, true, true, true, true, true, true, true, true, false, false, false, false] rfl rfl (one_of HT_.out (by kernel_rfl)) (by decide) (fun K hK => ?_)
                                  refine Kd.R_lit_step (Kd.int .u8) _ 5 ?hg (N := 51) ?hd (xs := ([bt (⟨#[48, 49, 50, 51, 52, 53, 54, 55, 56, 57, 97, 98, 99, 100, 101, 102]⟩ : ByteArray) (ji26), bt (⟨#[48, 49, 50, 51, 52, 53, 54, 55, 56, 57, 97, 98, 99, 100, 101, 102]⟩ : ByteArray) (ji30)] : List Int)) (inner := [.int .u8 (bt (⟨#[48, 49, 50, 51, 52, 53, 54, 55, 56, 57, 97, 98, 99, 100, 101, 102]⟩ : ByteArray) (ji26)), .int .u8 (bt (⟨#[48, 49, 50, 51, 52, 53, 54, 55, 56, 57, 97, 98, 99, 100, 101, 102]⟩ : ByteArray) (ji30))]) (ok := fun _ => True) (okp := fun _ => True) ?hr ?hp (fun _ hk => hk) trivial (Below.refl _ _) (Nat.le_refl _) (by simp) ?_; (case hd => rfl); (case hg => rfl); (case hr => first | (go_simp; done) | (go_simp; rfl)); (case hp => exact (Reps.one (show Kd.M (Kd.int .u8) _ _ _ (bt (⟨#[48, 49, 50, 51, 52, 53, 54, 55, 56, 57, 97, 98, 99, 100, 101, 102]⟩ : ByteArray) (ji26)) [.int .u8 (bt (⟨#[48, 49, 50, 51, 52, 53, 54, 55, 56, 57, 97, 98, 99, 100, 101, 102]⟩ : ByteArray) (ji26))] from rfl) (Reps.one (show Kd.M (Kd.int .u8) _ _ _ (bt (⟨#[48, 49, 50, 51, 52, 53, 54, 55, 56, 57, 97, 98, 99, 100, 101, 102]⟩ : ByteArray) (ji30)) [.int .u8 (bt (⟨#[48, 49, 50, 51, 52, 53, 54, 55, 56, 57, 97, 98, 99, 100, 101, 102]⟩ : ByteArray) (ji30))] from rfl) (Reps.none _ _))))
                                  intro v246 w45 ho46 hb hg_ hnew_
                                  clear hg_ hnew_
                                  (first | rw [← Ny245.out] at ho46 | (simp only [Int.reduceToNat] at ho46; rw [← Ny245.out] at ho46))
                                  have n0_ := Aside0.mk (Kd.R_lower ho46 (below_size (by repeat (first | (with_reducible first | exact HB.out | apply below_alloc | apply pw_below_drewN | apply below_drew1) | exact HB.out))))
                                  have n1_ := Aside0.mk (below_step (by repeat (first | (with_reducible first | exact HB.out | apply below_alloc | apply pw_below_drewN | apply below_drew1) | exact HB.out)) hb)
                                  clear HB
                                  have HO247 := n0_
                                  have HB := n1_
                                  clear n0_ n1_
                                  clear hb ho46
                                  refine hK.out _ _ trivial (fun hHeld => ?_)
                                  clear hK K
                                  refine norm_ (a' := ?_) ?_ ?_
                                  rotate_left
                                  · show Act.put _ (some 51) _ = _
                                    simp only [Act.put, List.setIfInBounds_toArray, List.set_cons_zero, List.set_cons_succ, i64_w, i32_w]
                                    rfl
                                  refine one_ (i := 9) (N := some 52) #[true, true, true, true, true, true, true, true, true, true, false, false, false] rfl rfl (one_of HT_.out (by kernel_rfl)) (by decide) (fun K hK => ?_)
                                  have hcv47 := own_string (P := Try.prog) Try.underlying35 Try.underlying5 Try.underlying9 (Kd.own_of_R HO247.out)
                                  refine value_ (w1 := ?_) (v := ?_) (by rfl) rfl ?_ ?_
                                  rotate_left 2
                                  · go_simp
                                    constructor
                                    · rfl
                                    · rfl
                                  clear hcv47
                                  refine hK.out _ _ trivial (fun hHeld => ?_)
                                  clear hK K
                                  refine norm_ (a' := ?_) ?_ ?_
                                  rotate_left
                                  · show Act.put _ (some 52) _ = _
                                    simp only [Act.put, List.setIfInBounds_toArray, List.set_cons_zero, List.set_cons_succ, i64_w, i32_w]
                                    rfl
                                  refine pure_ (i := 10) (N := some 53) (v := ?_) (a' := ?_) #[true, true, true, true, true, true, true, true, true, true, true, false, false] rfl rfl (any_of HT_.out (by kernel_rfl)) (fun _ _ _ h => h) (Or.inl ⟨by rfl, ?_⟩) ?_ ?_
                                  rotate_left
                                  · intro w'
                                    go_simp
                                    with_reducible rfl
                                  rotate_left
                                  · simp only [Act.put, List.setIfInBounds_toArray, List.set_cons_zero, List.set_cons_succ, i64_w, i32_w]
                                    rfl
                                  refine pure_ (i := 11) (N := some 54) (v := ?_) (a' := ?_) #[true, true, true, true, true, true, true, true, true, true, true, true, false] rfl rfl (any_of HT_.out (by kernel_rfl)) (fun _ _ _ h => h) (Or.inl ⟨by rfl, ?_⟩) ?_ ?_
                                  rotate_left
                                  · intro w'
                                    go_simp
                                    with_reducible rfl
                                  rotate_left
                                  · simp only [Act.put, List.setIfInBounds_toArray, List.set_cons_zero, List.set_cons_succ, i64_w, i32_w]
                                    rfl
                                  refine pure_ (i := 12) (N := some 9) (v := ?_) (a' := ?_) #[true, true, true, true, true, true, true, true, true, true, true, true, true] rfl rfl (any_of HT_.out (by kernel_rfl)) (fun _ _ _ h => h) (Or.inl ⟨by rfl, ?_⟩) ?_ ?_
                                  rotate_left
                                  · intro w'
                                    go_simp
                                    with_reducible rfl
                                  rotate_left
                                  · simp only [Act.put, List.setIfInBounds_toArray, List.set_cons_zero, List.set_cons_succ, i64_w, i32_w]
                                    rfl
                                  refine done_ (done_of HT_.out (by kernel_rfl)) ?_
                                  try go_wp2_with (first | ((with_reducible refine gate_callee (f := 10) rfl ?_); refine goesL_ (some 63) rfl rfl Try.func10 (by kernel_rfl) rfl #[.string ((((x6_1 ++ (⟨#[34]⟩ : ByteArray)) ++ (((⟨#[39, 92, 120]⟩ : ByteArray) ++ (strOfNums y245)) ++ (⟨#[39]⟩ : ByteArray))) ++ (⟨#[46, 46]⟩ : ByteArray)) ++ (((⟨#[39, 92, 120]⟩ : ByteArray) ++ (strOfNums y245)) ++ (⟨#[39]⟩ : ByteArray)))] rfl (by (try simp only [List.map_toArray, List.map_cons, List.map_nil]); first | done | rfl | (simp only [List.length_drop, List.length_take]; rfl)) ?_; (with_reducible refine (lex_Lex.calls k1 ((((x6_1 ++ (⟨#[34]⟩ : ByteArray)) ++ (((⟨#[39, 92, 120]⟩ : ByteArray) ++ (strOfNums y245)) ++ (⟨#[39]⟩ : ByteArray))) ++ (⟨#[46, 46]⟩ : ByteArray)) ++ (((⟨#[39, 92, 120]⟩ : ByteArray) ++ (strOfNums y245)) ++ (⟨#[39]⟩ : ByteArray))) t248 t249 t250 _ A40.out).mono ?_); rintro e w48 ⟨v251, rfl, ho0, hb⟩; refine ⟨_, rfl, ?_⟩; have n0_ := Aside0.mk (Kd.R_below (by (with_reducible repeat (first | apply Kd.R_alloc | apply Kd.R_drewN | apply Kd.R_drew)); exact HO247.out) hb); have n1_ := Aside0.mk (Kd.R_lower ho0 (below_size (by repeat (first | (with_reducible first | exact HB.out | apply below_alloc | apply pw_below_drewN | apply below_drew1) | exact HB.out)))); have n2_ := Aside0.mk (below_step (by repeat (first | (with_reducible first | exact HB.out | apply below_alloc | apply pw_below_drewN | apply below_drew1) | exact HB.out)) hb); clear HO247; clear HB; have HO247 := n0_; have HO252 := n1_; have HB := n2_; clear n0_ n1_ n2_; (try clear hb); (try clear hb2); (try clear hk); (try clear hi); (try clear ho0)) | ((with_reducible refine gate_callee (f := 13) rfl ?_); refine goesL_ (some 68) rfl rfl Try.func13 (by kernel_rfl) rfl #[.int .i64 t250] rfl (by (try simp only [List.map_toArray, List.map_cons, List.map_nil]); first | done | rfl | (simp only [List.length_drop, List.length_take]; rfl)) ?_; (with_reducible refine (templelaw0_Num.calls t250 t253 _ A41.out).mono ?_); rintro e w' ⟨rfl, ⟨nd, rfl⟩⟩; refine ⟨_, rfl, ?_⟩) | ((with_reducible refine gate_dst (N := 80) rfl ?_); (try (refine gate_guard (by rfl) ?_; dsimp only)); refine Kd.R_lit k33 _ 33 ?hg (N := 80) ?hd (xs := ([(⟨1, 0, a0, 0, 0⟩ : S33), (⟨2, ((x6_1.size : Int) + 1), (⟨#[]⟩ : ByteArray), Go.bits .and .i64 a1 255, Go.bits .and .i64 a1 255⟩ : S33)] : List (S33))) (inner := [.int .i64 1, .int .i64 0, .string a0, .int .i64 0, .int .i64 0, .int .i64 2, .int .i64 (((x6_1.size : Int) + 1)), .string (⟨#[]⟩ : ByteArray), .int .i64 (Go.bits .and .i64 a1 255), .int .i64 (Go.bits .and .i64 a1 255)]) (ok := fun _ => True) (okp := fun _ => True) ?hr ?hp (fun _ hk => hk) trivial (Below.refl _ _) (Nat.le_refl _) (by simp) ?_; (case hd => rfl); (case hg => rfl); (case hr => first | (go_simp; done) | (go_simp; rfl)); (case hp => exact (Reps.c5 (show Kd.M k33 _ _ _ (⟨1, 0, a0, 0, 0⟩ : S33) [.int .i64 1, .int .i64 0, .string a0, .int .i64 0, .int .i64 0] from (k33_mkM _ _ _ (⟨1, 0, a0, 0, 0⟩ : S33) )) (Reps.c5 (show Kd.M k33 _ _ _ (⟨2, ((x6_1.size : Int) + 1), (⟨#[]⟩ : ByteArray), Go.bits .and .i64 a1 255, Go.bits .and .i64 a1 255⟩ : S33) [.int .i64 2, .int .i64 (((x6_1.size : Int) + 1)), .string (⟨#[]⟩ : ByteArray), .int .i64 (Go.bits .and .i64 a1 255), .int .i64 (Go.bits .and .i64 a1 255)] from (k33_mkM _ _ _ (⟨2, ((x6_1.size : Int) + 1), (⟨#[]⟩ : ByteArray), Go.bits .and .i64 a1 255, Go.bits .and .i64 a1 255⟩ : S33) )) (Reps.none _ _)))); intro v255 w49 ho50 hb hg_ hnew_; clear hg_ hnew_; (first | rw [← Ny254.out] at ho50 | (simp only [Int.reduceToNat] at ho50; rw [← Ny254.out] at ho50)); have n0_ := Aside0.mk (Kd.R_below (by (with_reducible repeat (first | apply Kd.R_alloc | apply Kd.R_drewN | apply Kd.R_drew)); exact HO247.out) hb); have n1_ := Aside0.mk (Kd.R_elder' (by (with_reducible repeat (first | apply Kd.R_alloc | apply Kd.R_drewN | apply Kd.R_drew)); exact HO252.out) (Kd.R_base ho50) hb); have n2_ := Aside0.mk (Kd.R_lower (Kd.R_new' ho50 (Kd.R_lt (by (with_reducible repeat (first | apply Kd.R_alloc | apply Kd.R_drewN | apply Kd.R_drew)); exact HO252.out))) (below_size (by repeat (first | (with_reducible first | exact HB.out | apply below_alloc | apply pw_below_drewN | apply below_drew1) | exact HB.out)))); have n3_ := Aside0.mk (below_step (by repeat (first | (with_reducible first | exact HB.out | apply below_alloc | apply pw_below_drewN | apply below_drew1) | exact HB.out)) hb); clear HO247; clear HO252; clear HB; have HO247 := n0_; have HO252 := n1_; have HO256 := n2_; have HB := n3_; clear n0_ n1_ n2_ n3_; clear hb ho50; obtain ⟨Ao51, co51, eo51⟩ := Kd.R_slice HO252.out; subst eo51; obtain ⟨Ao52, co52, eo52⟩ := Kd.R_slice HO256.out; subst eo52) | (go_at_call 12; (with_reducible refine (templelaw0_SameTokens.calls k1 _ _ t248 _ _ y254 t257 _ ?side1 ?side2 ?side3 ?side4 A43.out).mono ?_); (case side1 => repeat (first | exact (Kd.R_reads' HO252.out).2.2 | (with_reducible refine Kd.C_alloc ?_ _) | (with_reducible refine Kd.C_drewN ?_ _) | (with_reducible refine Kd.C_drew ?_))); (case side2 => exact (Kd.R_reads' HO252.out).2.1); (case side3 => repeat (first | exact (Kd.R_reads' HO256.out).2.2 | (with_reducible refine Kd.C_alloc ?_ _) | (with_reducible refine Kd.C_drewN ?_ _) | (with_reducible refine Kd.C_drew ?_))); (case side4 => exact (Kd.R_reads' HO256.out).2.1); rintro e w' ⟨rfl, ⟨nd, rfl⟩⟩))
                                  go_ret
                                  exact ⟨by first | rfl | (simp [errW_none, errW_some] <;> rfl) | (simp only [← hji26, ← hji30]; first | rfl | (simp [errW_none, errW_some] <;> rfl)) | (simp [*, errW_none, errW_some] <;> rfl), by repeat (first | (with_reducible first | exact HB.out | apply below_alloc | apply pw_below_drewN | apply below_drew1) | exact HB.out)⟩
                                · rw [if_neg c42] at H
                                  exact absurd H (by simp)
                              · rw [if_neg c39] at H
                                exact absurd H (by simp)
                            · rw [if_neg c38] at H
                              exact absurd H (by simp)
                          · rw [if_neg c37] at H
                            exact absurd H (by simp)
                        · rw [if_neg c36] at H
                          exact absurd H (by simp)
                      · rw [if_neg c35] at H
                        exact absurd H (by simp)
                    · rw [if_neg c34] at H
                      exact absurd H (by simp)
                  · rw [if_neg c32] at H
                    exact absurd H (by simp)
                · rw [if_neg c31] at H
                  exact absurd H (by simp)
              · rw [if_neg c28] at H
                exact absurd H (by simp)
            · rw [if_neg c27] at H
              exact absurd H (by simp)
  · replace c4 := Bool.eq_false_iff.mpr c4
    subst c4
    have H1 : (none) = some r := by rw [if_neg (show ¬ (false = true) by decide)] at H; exact H
    clear H
    have H := H1
    clear H1
    exact absurd H (by simp)

/-- THE ONE PURE STATEMENT of templelaw2_LexTexts: yours. -/
def templelaw2_LexTexts.Pure : Prop := ∀ (a0 : ByteArray) (a1 : Int), a0.size ≤ 140737488351232 → (Lit.int .i64 a1).wf = true → ∃ k, templelaw2_LexTexts.f k a0 a1 = some true
theorem templelaw2_LexTexts.walk (P : templelaw2_LexTexts.Pure) (a0 : ByteArray) (a1 : Int) (w : World) (w0 : a0.size ≤ 140737488351232) (w1 : (Lit.int .i64 a1).wf = true) :
    Calls Try.prog 5 #[.string a0, .int .i64 a1] w fun e w' => e = .returned (.bool true) ∧ Below w.heap.size w w' := by
  obtain ⟨k, h⟩ := P a0 a1 w0 w1
  refine (templelaw2_LexTexts.calls k a0 a1 true w h).mono ?_
  rintro e w' ⟨rfl, hd⟩
  exact ⟨rfl, hd⟩

end Go.Proofs.Ytjjccngjcamgjaa.PLC
