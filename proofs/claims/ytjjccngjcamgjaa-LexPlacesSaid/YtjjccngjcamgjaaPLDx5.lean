-- written by a program of the session's (wip/myprint.py) out of the translation
import Derived.Test.YtjjccngjcamgjaaPLDx0
import Derived.Test.YtjjccngjcamgjaaPLDx3
import Derived.Test.YtjjccngjcamgjaaPLDx4
namespace Go.Proofs.Ytjjccngjcamgjaa.PLD
open Go.RowKit Go.Proofs.YtjjccngjcamgjaaW.PrintWords Go.Proofs.YtjjccngjcamgjaaW.PrintLast Go.Proofs.YtjjccngjcamgjaaW.PrintMore
attribute [local go_sem] max2_int min2_int max_two min_two max_three min_three max_four min_four   -- for this text's walks alone
set_option linter.unusedVariables false
set_option linter.unusedSimpArgs false

/-! ### templelaw2_LexPlaces: function 8 -/
def templelaw2_LexPlaces.l0 : Nat → ByteArray → List (S33) → Int → Int → Option (Bool)
  | 0, _, _, _, _ => none
  | k + 1, x0, x3, x6, x7 => if x7 < (x3.length : Int) then (if 0 ≤ x7 then (if ((rd_T33 x3 x7).f1) ≤ x6 then (none) else (if ((rd_T33 x3 x7).f1) ≥ (x0.size : Int) then (none) else (if ((rd_T33 x3 x7).f0) < 0 then (none) else (if ((rd_T33 x3 x7).f0) > 8 then (none) else (if 0 ≤ ((rd_T33 x3 x7).f1) then (if ((rd_T33 x3 x7).f1) < (x0.size : Int) then (if ((rd_T33 x3 x7).f0) = 1 then (if (bt x0 ((rd_T33 x3 x7).f1)) = 34 then (if ((rd_T33 x3 x7).f0) = 2 then (none) else (if ((rd_T33 x3 x7).f0) = 0 then (none) else (if ((rd_T33 x3 x7).f0) = 4 then (none) else (if ((rd_T33 x3 x7).f0) = 5 then (none) else (if ((rd_T33 x3 x7).f0) = 6 then (none) else (if ((rd_T33 x3 x7).f0) = 7 then (none) else (if ((rd_T33 x3 x7).f0) = 8 then (none) else (if ((rd_T33 x3 x7).f0) = 3 then (none) else (templelaw2_LexPlaces.l0 k x0 x3 ((rd_T33 x3 x7).f1) (wrap64 (x7 + 1))))))))))) else (none)) else (if ((rd_T33 x3 x7).f0) = 2 then (if (bt x0 ((rd_T33 x3 x7).f1)) = 39 then (if ((rd_T33 x3 x7).f0) = 0 then (none) else (if ((rd_T33 x3 x7).f0) = 4 then (none) else (if ((rd_T33 x3 x7).f0) = 5 then (none) else (if ((rd_T33 x3 x7).f0) = 6 then (none) else (if ((rd_T33 x3 x7).f0) = 7 then (none) else (if ((rd_T33 x3 x7).f0) = 8 then (none) else (if ((rd_T33 x3 x7).f0) = 3 then (none) else (templelaw2_LexPlaces.l0 k x0 x3 ((rd_T33 x3 x7).f1) (wrap64 (x7 + 1)))))))))) else (none)) else (if ((rd_T33 x3 x7).f0) = 0 then (if ((rd_T33 x3 x7).f2).toList = ([] : List UInt8) then (none) else (if 0 < (((rd_T33 x3 x7).f2).size : Int) then (if (bt ((rd_T33 x3 x7).f2) 0) = (bt x0 ((rd_T33 x3 x7).f1)) then (if ((rd_T33 x3 x7).f0) = 4 then (none) else (if ((rd_T33 x3 x7).f0) = 5 then (none) else (if ((rd_T33 x3 x7).f0) = 6 then (none) else (if ((rd_T33 x3 x7).f0) = 7 then (none) else (if ((rd_T33 x3 x7).f0) = 8 then (none) else (if ((rd_T33 x3 x7).f0) = 3 then (none) else (templelaw2_LexPlaces.l0 k x0 x3 ((rd_T33 x3 x7).f1) (wrap64 (x7 + 1))))))))) else (none)) else (none))) else (if ((rd_T33 x3 x7).f0) = 4 then (if (bt x0 ((rd_T33 x3 x7).f1)) = 61 then (if ((rd_T33 x3 x7).f0) = 5 then (none) else (if ((rd_T33 x3 x7).f0) = 6 then (none) else (if ((rd_T33 x3 x7).f0) = 7 then (none) else (if ((rd_T33 x3 x7).f0) = 8 then (none) else (if ((rd_T33 x3 x7).f0) = 3 then (none) else (templelaw2_LexPlaces.l0 k x0 x3 ((rd_T33 x3 x7).f1) (wrap64 (x7 + 1)))))))) else (none)) else (if ((rd_T33 x3 x7).f0) = 5 then (if (bt x0 ((rd_T33 x3 x7).f1)) = 124 then (if ((rd_T33 x3 x7).f0) = 6 then (none) else (if ((rd_T33 x3 x7).f0) = 7 then (none) else (if ((rd_T33 x3 x7).f0) = 8 then (none) else (if ((rd_T33 x3 x7).f0) = 3 then (none) else (templelaw2_LexPlaces.l0 k x0 x3 ((rd_T33 x3 x7).f1) (wrap64 (x7 + 1))))))) else (none)) else (if ((rd_T33 x3 x7).f0) = 6 then (if (bt x0 ((rd_T33 x3 x7).f1)) = 38 then (if ((rd_T33 x3 x7).f0) = 7 then (none) else (if ((rd_T33 x3 x7).f0) = 8 then (none) else (if ((rd_T33 x3 x7).f0) = 3 then (none) else (templelaw2_LexPlaces.l0 k x0 x3 ((rd_T33 x3 x7).f1) (wrap64 (x7 + 1)))))) else (none)) else (if ((rd_T33 x3 x7).f0) = 7 then (if (bt x0 ((rd_T33 x3 x7).f1)) = 126 then (if ((rd_T33 x3 x7).f0) = 8 then (none) else (if ((rd_T33 x3 x7).f0) = 3 then (none) else (templelaw2_LexPlaces.l0 k x0 x3 ((rd_T33 x3 x7).f1) (wrap64 (x7 + 1))))) else (none)) else (if ((rd_T33 x3 x7).f0) = 8 then (if (bt x0 ((rd_T33 x3 x7).f1)) = 59 then (if ((rd_T33 x3 x7).f0) = 3 then (none) else (templelaw2_LexPlaces.l0 k x0 x3 ((rd_T33 x3 x7).f1) (wrap64 (x7 + 1)))) else (none)) else (if ((rd_T33 x3 x7).f0) = 3 then (if (bt x0 ((rd_T33 x3 x7).f1)) = 115 then (templelaw2_LexPlaces.l0 k x0 x3 ((rd_T33 x3 x7).f1) (wrap64 (x7 + 1))) else (none)) else (templelaw2_LexPlaces.l0 k x0 x3 ((rd_T33 x3 x7).f1) (wrap64 (x7 + 1)))))))))))) else (none)) else (none)))))) else (none)) else (some true)
def templelaw2_LexPlaces.f (k : Nat) (a0 : ByteArray) : Option (Bool) := (templelaw2_awake.f k).bind fun t203 => (if t203 = true then ((lex_Lex.f k a0).bind fun bt204 => ((templelaw0_Num.f bt204.2.2).bind fun t209 => (if t209 = 0 then (templelaw2_LexPlaces.l0 k a0 bt204.1 (-1) 0) else (some ((bt204.1.length : Int) == 0))))) else (none))
theorem templelaw2_LexPlaces.mono_l : ∀ k, (∀ y0 y1 y2 y3, LeO (templelaw2_LexPlaces.l0 k y0 y1 y2 y3) (templelaw2_LexPlaces.l0 (k + 1) y0 y1 y2 y3))
  | 0 => fun _ _ _ _ r h => by simp [templelaw2_LexPlaces.l0] at h
  | k + 1 => by
    have ih0 := templelaw2_LexPlaces.mono_l k
    · intro y0 y1 y2 y3
      unfold templelaw2_LexPlaces.l0
      repeat' first
      | (with_reducible exact ih0 _ _ _ _)
      | (with_reducible exact lex_Lex.mono _ _)
      | (with_reducible exact templelaw2_awake.mono _)
      | (with_reducible exact LeO.refl _)
      | (with_reducible exact LeO.none _)
      | (with_reducible refine LeO.ite ?_ ?_)
      | (with_reducible refine LeO.bind ?_ (fun _ => ?_))
      | exact ih0 _ _ _ _
      | exact lex_Lex.mono _ _
      | exact templelaw2_awake.mono _
      | exact LeO.none _
      | refine LeO.ite ?_ ?_
      | refine LeO.bind ?_ (fun _ => ?_)
theorem templelaw2_LexPlaces.mono : ∀ a0 k, LeO (templelaw2_LexPlaces.f k a0) (templelaw2_LexPlaces.f (k + 1) a0) := by
  intro a0 k
  have ih0 := templelaw2_LexPlaces.mono_l k
  unfold templelaw2_LexPlaces.f
  repeat' first
      | (with_reducible exact ih0 _ _ _ _)
      | (with_reducible exact lex_Lex.mono _ _)
      | (with_reducible exact templelaw2_awake.mono _)
      | (with_reducible exact LeO.refl _)
      | (with_reducible exact LeO.none _)
      | (with_reducible refine LeO.ite ?_ ?_)
      | (with_reducible refine LeO.bind ?_ (fun _ => ?_))
      | exact ih0 _ _ _ _
      | exact lex_Lex.mono _ _
      | exact templelaw2_awake.mono _
      | exact LeO.none _
      | refine LeO.ite ?_ ?_
      | refine LeO.bind ?_ (fun _ => ?_)
set_option maxHeartbeats 8000000 in
set_option maxRecDepth 100000 in
theorem templelaw2_LexPlaces.calls (k : Nat) (a0 : ByteArray) (r : Bool) (w : World) (h : templelaw2_LexPlaces.f k a0 = some r) :
    Calls Try.prog 8 #[.string a0] w fun e w' => e = .returned (.bool r) ∧ Below w.heap.size w w' := by
  have hu33 := Try.underlying33
  have HB := Aside0.mk (Below.refl w.heap.size w)
  have H : ((templelaw2_awake.f k).bind fun t203 => (if t203 = true then ((lex_Lex.f k a0).bind fun bt204 => ((templelaw0_Num.f bt204.2.2).bind fun t209 => (if t209 = 0 then (templelaw2_LexPlaces.l0 k a0 bt204.1 (-1) 0) else (some ((bt204.1.length : Int) == 0))))) else (none))) = some r := h
  clear h
  replace H := Option.bind_eq_some_iff.mp H
  obtain ⟨t203, A20, H⟩ := H
  replace H : (if t203 = true then ((lex_Lex.f k a0).bind fun bt204 => ((templelaw0_Num.f bt204.2.2).bind fun t209 => (if t209 = 0 then (templelaw2_LexPlaces.l0 k a0 bt204.1 (-1) 0) else (some ((bt204.1.length : Int) == 0))))) else (none)) = some r := H
  have A2 := Aside0.mk A20
  clear A20
  by_cases c3 : t203 = true
  · subst c3
    have H1 : ((lex_Lex.f k a0).bind fun bt204 => ((templelaw0_Num.f bt204.2.2).bind fun t209 => (if t209 = 0 then (templelaw2_LexPlaces.l0 k a0 bt204.1 (-1) 0) else (some ((bt204.1.length : Int) == 0))))) = some r := by rw [if_pos rfl] at H; exact H
    clear H
    have H := H1
    clear H1
    replace H := Option.bind_eq_some_iff.mp H
    obtain ⟨⟨t204, t205, t206⟩, A40, H⟩ := H
    replace H : ((templelaw0_Num.f t206).bind fun t209 => (if t209 = 0 then (templelaw2_LexPlaces.l0 k a0 t204 (-1) 0) else (some ((t204.length : Int) == 0)))) = some r := H
    have A4 := Aside0.mk A40
    clear A40
    replace H := Option.bind_eq_some_iff.mp H
    obtain ⟨t209, A50, H⟩ := H
    replace H : (if t209 = 0 then (templelaw2_LexPlaces.l0 k a0 t204 (-1) 0) else (some ((t204.length : Int) == 0))) = some r := H
    have A5 := Aside0.mk A50
    clear A50
    by_cases c6 : t209 = 0
    · rw [if_pos c6] at H
      have c6b0 : (t209 == 0) = true := beq_iff_eq.mpr c6
      have c6b1 : (t209 != 0) = false := bne_eq_false_iff_eq.mpr c6
      clear c6
      have H' := Aside0.mk H
      clear H
      go_enter Try.func8, Try.ntmps8
      try simp only [List.append]
      go_wp2_with (first | ((with_reducible refine gate_callee (f := 14) rfl ?_); refine goesL_ (some 10) rfl rfl Try.func14 (by kernel_rfl) rfl #[] rfl (by (try simp only [List.map_toArray, List.map_cons, List.map_nil]); first | done | rfl | (simp only [List.length_drop, List.length_take]; rfl)) ?_; (with_reducible refine (templelaw2_awake.calls k  true _ A2.out).mono ?_); rintro e w7 ⟨rfl, hb⟩; refine ⟨_, rfl, ?_⟩; have n0_ := Aside0.mk (below_step (by repeat (first | (with_reducible first | exact HB.out | apply below_alloc | apply pw_below_drewN | apply below_drew1) | exact HB.out)) hb); clear HB; have HB := n0_; clear n0_; (try clear hb); (try clear hb2); (try clear hk); (try clear hi)) | ((with_reducible refine gate_callee (f := 10) rfl ?_); refine goesL_ (some 14) rfl rfl Try.func10 (by kernel_rfl) rfl #[.string a0] rfl (by (try simp only [List.map_toArray, List.map_cons, List.map_nil]); first | done | rfl | (simp only [List.length_drop, List.length_take]; rfl)) ?_; (with_reducible refine (lex_Lex.calls k a0 t204 t205 t206 _ A4.out).mono ?_); rintro e w8 ⟨v207, rfl, ho0, hb⟩; refine ⟨_, rfl, ?_⟩; have n0_ := Aside0.mk (Kd.R_lower ho0 (below_size (by repeat (first | (with_reducible first | exact HB.out | apply below_alloc | apply pw_below_drewN | apply below_drew1) | exact HB.out)))); have n1_ := Aside0.mk (below_step (by repeat (first | (with_reducible first | exact HB.out | apply below_alloc | apply pw_below_drewN | apply below_drew1) | exact HB.out)) hb); clear HB; have HO208 := n0_; have HB := n1_; clear n0_ n1_; (try clear hb); (try clear hb2); (try clear hk); (try clear hi); (try clear ho0)) | ((with_reducible refine gate_callee (f := 13) rfl ?_); refine goesL_ (some 19) rfl rfl Try.func13 (by kernel_rfl) rfl #[.int .i64 t206] rfl (by (try simp only [List.map_toArray, List.map_cons, List.map_nil]); first | done | rfl | (simp only [List.length_drop, List.length_take]; rfl)) ?_; (with_reducible refine (templelaw0_Num.calls t206 t209 _ A5.out).mono ?_); rintro e w' ⟨rfl, ⟨nd, rfl⟩⟩; refine ⟨_, rfl, ?_⟩))
      go_loopg [6, 7] k (fun kq v6 v7 w' => ∃ (x6_1 : Int) (x7_1 : Int), v6 = .int .i64 x6_1 ∧ v7 = .int .i64 x7_1 ∧ Aside0 (templelaw2_LexPlaces.l0 kq a0 t204 x6_1 x7_1 = some r) ∧ Aside0 (kq ≤ k) ∧ Aside0 (Kd.R k33 33 w' w.heap.size (fun _ => True) v207 t204) ∧ Aside0 (Below w.heap.size w w'))
      case atStart => exact ⟨((-1)), (0), (by first | rfl | (simp; done) | (simp [i64_w]; done) | (simp [*]; done) | (simp [*, i64_w]; done) | (simp [*]; unfold wrap64; omega)), (by first | rfl | (simp; done) | (simp [i64_w]; done) | (simp [*]; done) | (simp [*, i64_w]; done) | (simp [*]; unfold wrap64; omega)), H', ⟨Nat.le_refl _⟩, ⟨by (with_reducible repeat (first | apply Kd.R_alloc | apply Kd.R_drewN | apply Kd.R_drew)); exact HO208.out⟩, ⟨by repeat (first | (with_reducible first | exact HB.out | apply below_alloc | apply pw_below_drewN | apply below_drew1) | exact HB.out)⟩⟩
      case round =>
        clear H'
        try clear c1
        try clear p2
        try clear c3
        try clear c6
        try clear c6b0
        try clear c6b1
        try clear c8
        obtain ⟨x6_1, x7_1, rfl, rfl, HA, HK1, HO_3, HB⟩ := hrel
        cases gk with
        | zero => exact absurd HA.out (by simp [templelaw2_LexPlaces.l0])
        | succ k1 =>
          have H := HA.out
          clear HA
          simp only [templelaw2_LexPlaces.l0] at H
          by_cases c9 : x7_1 < (t204.length : Int)
          · rw [if_pos c9] at H
            have c9b0 : decide (x7_1 < (t204.length : Int)) = true := decide_eq_true c9
            clear c9
            by_cases c10 : 0 ≤ x7_1
            · rw [if_pos c10] at H
              have c10b0 : decide (0 ≤ x7_1) = true := decide_eq_true c10
              clear c10
              by_cases c11 : ((rd_T33 t204 x7_1).f1) ≤ x6_1
              · rw [if_pos c11] at H
                exact absurd H (by simp)
              · rw [if_neg c11] at H
                have c11b0 : decide (((rd_T33 t204 x7_1).f1) ≤ x6_1) = false := decide_eq_false c11
                clear c11
                by_cases c12 : ((rd_T33 t204 x7_1).f1) ≥ (a0.size : Int)
                · rw [if_pos c12] at H
                  exact absurd H (by simp)
                · rw [if_neg c12] at H
                  have c12b0 : decide ((a0.size : Int) ≤ ((rd_T33 t204 x7_1).f1)) = false := decide_eq_false c12
                  clear c12
                  by_cases c13 : ((rd_T33 t204 x7_1).f0) < 0
                  · rw [if_pos c13] at H
                    exact absurd H (by simp)
                  · rw [if_neg c13] at H
                    have c13b0 : decide (((rd_T33 t204 x7_1).f0) < 0) = false := decide_eq_false c13
                    clear c13
                    by_cases c14 : ((rd_T33 t204 x7_1).f0) > 8
                    · rw [if_pos c14] at H
                      exact absurd H (by simp)
                    · rw [if_neg c14] at H
                      have c14b0 : decide (8 < ((rd_T33 t204 x7_1).f0)) = false := decide_eq_false c14
                      clear c14
                      by_cases c15 : 0 ≤ ((rd_T33 t204 x7_1).f1)
                      · rw [if_pos c15] at H
                        have c15b0 : decide (0 ≤ ((rd_T33 t204 x7_1).f1)) = true := decide_eq_true c15
                        clear c15
                        by_cases c16 : ((rd_T33 t204 x7_1).f1) < (a0.size : Int)
                        · rw [if_pos c16] at H
                          have c16b0 : decide (((rd_T33 t204 x7_1).f1) < (a0.size : Int)) = true := decide_eq_true c16
                          clear c16
                          by_cases c18 : ((rd_T33 t204 x7_1).f0) = 1
                          · rw [if_pos c18] at H
                            have c18b0 : (((rd_T33 t204 x7_1).f0) == 1) = true := beq_iff_eq.mpr c18
                            have c18b1 : (((rd_T33 t204 x7_1).f0) != 1) = false := bne_eq_false_iff_eq.mpr c18
                            clear c18
                            by_cases c19 : (bt a0 ((rd_T33 t204 x7_1).f1)) = 34
                            · rw [if_pos c19] at H
                              have c19b0 : ((bt a0 ((rd_T33 t204 x7_1).f1)) == 34) = true := beq_iff_eq.mpr c19
                              have c19b1 : ((bt a0 ((rd_T33 t204 x7_1).f1)) != 34) = false := bne_eq_false_iff_eq.mpr c19
                              clear c19
                              by_cases c20 : ((rd_T33 t204 x7_1).f0) = 2
                              · rw [if_pos c20] at H
                                exact absurd H (by simp)
                              · rw [if_neg c20] at H
                                have c20b0 : (((rd_T33 t204 x7_1).f0) == 2) = false := beq_eq_false_iff_ne.mpr c20
                                have c20b1 : (((rd_T33 t204 x7_1).f0) != 2) = true := bne_iff_ne.mpr c20
                                by_cases c21 : ((rd_T33 t204 x7_1).f0) = 0
                                · rw [if_pos c21] at H
                                  exact absurd H (by simp)
                                · rw [if_neg c21] at H
                                  have c21b0 : (((rd_T33 t204 x7_1).f0) == 0) = false := beq_eq_false_iff_ne.mpr c21
                                  have c21b1 : (((rd_T33 t204 x7_1).f0) != 0) = true := bne_iff_ne.mpr c21
                                  by_cases c22 : ((rd_T33 t204 x7_1).f0) = 4
                                  · rw [if_pos c22] at H
                                    exact absurd H (by simp)
                                  · rw [if_neg c22] at H
                                    have c22b0 : (((rd_T33 t204 x7_1).f0) == 4) = false := beq_eq_false_iff_ne.mpr c22
                                    have c22b1 : (((rd_T33 t204 x7_1).f0) != 4) = true := bne_iff_ne.mpr c22
                                    by_cases c23 : ((rd_T33 t204 x7_1).f0) = 5
                                    · rw [if_pos c23] at H
                                      exact absurd H (by simp)
                                    · rw [if_neg c23] at H
                                      have c23b0 : (((rd_T33 t204 x7_1).f0) == 5) = false := beq_eq_false_iff_ne.mpr c23
                                      have c23b1 : (((rd_T33 t204 x7_1).f0) != 5) = true := bne_iff_ne.mpr c23
                                      by_cases c24 : ((rd_T33 t204 x7_1).f0) = 6
                                      · rw [if_pos c24] at H
                                        exact absurd H (by simp)
                                      · rw [if_neg c24] at H
                                        have c24b0 : (((rd_T33 t204 x7_1).f0) == 6) = false := beq_eq_false_iff_ne.mpr c24
                                        have c24b1 : (((rd_T33 t204 x7_1).f0) != 6) = true := bne_iff_ne.mpr c24
                                        by_cases c25 : ((rd_T33 t204 x7_1).f0) = 7
                                        · rw [if_pos c25] at H
                                          exact absurd H (by simp)
                                        · rw [if_neg c25] at H
                                          have c25b0 : (((rd_T33 t204 x7_1).f0) == 7) = false := beq_eq_false_iff_ne.mpr c25
                                          have c25b1 : (((rd_T33 t204 x7_1).f0) != 7) = true := bne_iff_ne.mpr c25
                                          by_cases c26 : ((rd_T33 t204 x7_1).f0) = 8
                                          · rw [if_pos c26] at H
                                            exact absurd H (by simp)
                                          · rw [if_neg c26] at H
                                            have c26b0 : (((rd_T33 t204 x7_1).f0) == 8) = false := beq_eq_false_iff_ne.mpr c26
                                            have c26b1 : (((rd_T33 t204 x7_1).f0) != 8) = true := bne_iff_ne.mpr c26
                                            by_cases c27 : ((rd_T33 t204 x7_1).f0) = 3
                                            · rw [if_pos c27] at H
                                              exact absurd H (by simp)
                                            · rw [if_neg c27] at H
                                              have c27b0 : (((rd_T33 t204 x7_1).f0) == 3) = false := beq_eq_false_iff_ne.mpr c27
                                              have c27b1 : (((rd_T33 t204 x7_1).f0) != 3) = true := bne_iff_ne.mpr c27
                                              have H' := Aside0.mk H
                                              clear H
                                              obtain ⟨Ao28, co28, eo28⟩ := Kd.R_slice HO_3.out
                                              subst eo28
                                              have p210 : 0 ≤ (x7_1 : Int) := of_decide_eq_true (by first | (with_reducible assumption) | assumption)
                                              have q210 : x7_1 < (t204.length : Int) := of_decide_eq_true (by first | (with_reducible assumption) | assumption)
                                              obtain ⟨ad210, e210, hx210_0, hx210_1, hx210_2, hx210_3, hx210_4⟩ := at_T33 (Kd.R_reads' HO_3.out).2.2 x7_1 p210 q210
                                              cases e210
                                              replace p210 := eq_true p210
                                              replace q210 := eq_true q210
                                              go_wp2_with (first | ((with_reducible refine gate_dst (N := 8) rfl ?_); (try (refine gate_guard (by rfl) ?_; dsimp only)); refine box_event ?hg (N := 8) ?hd (cs := #[.int .i64 0, .int .i64 0, .string (⟨#[]⟩ : ByteArray), .int .i64 0, .int .i64 0]) (t := 33) ?hr ?_; (case hd => rfl); (case hg => rfl); (case hr => first | (go_simp; done) | (go_simp; rfl)); intro gb211 hg w29 hbox hb; have n0_ := Aside0.mk (Kd.R_below (Kd.R_elderB (by (with_reducible repeat (first | apply Kd.R_alloc | apply Kd.R_drewN | apply Kd.R_drew)); exact HO_3.out) gb211 (Nat.le_of_eq hg.symm)) hb); have n1_ := Aside0.mk (below_step (by repeat (first | (with_reducible first | exact HB.out | apply below_alloc | apply pw_below_drewN | apply below_drew1) | exact HB.out)) hb); have n2_ := Aside0.mk (hbox); have n3_ := Aside0.mk ((by rw [hg]; exact (below_size (by repeat (first | (with_reducible first | exact HB.out | apply below_alloc | apply pw_below_drewN | apply below_drew1) | exact HB.out))) : w.heap.size ≤ gb211)); have n4_ := Aside0.mk ((by rw [hg]; exact (below_size (by repeat (first | (with_reducible first | exact HB.out | apply below_alloc | apply pw_below_drewN | apply below_drew1) | exact HB.out))) : w.heap.size ≤ gb211)); clear HO_3; clear HB; have HO_3 := n0_; have HB := n1_; have BK211 := n2_; have GW211 := n3_; have GE211 := n4_; clear n0_ n1_ n2_ n3_ n4_; clear hb hbox hg; have hcz30_0 : w29.cell? ⟨gb211, 0, none⟩ = some (.int .i64 0) := (blk_cell BK211.out 0).trans rfl; have hcz30_1 : w29.cell? ⟨gb211, 1, none⟩ = some (.int .i64 0) := (blk_cell BK211.out 1).trans rfl; have hcz30_2 : w29.cell? ⟨gb211, 2, none⟩ = some (.string (⟨#[]⟩ : ByteArray)) := (blk_cell BK211.out 2).trans rfl; have hcz30_3 : w29.cell? ⟨gb211, 3, none⟩ = some (.int .i64 0) := (blk_cell BK211.out 3).trans rfl; have hcz30_4 : w29.cell? ⟨gb211, 4, none⟩ = some (.int .i64 0) := (blk_cell BK211.out 4).trans rfl; have hfz30_0 := blk_frozen BK211.out 0; have hfz30_1 := blk_frozen BK211.out 1; have hfz30_2 := blk_frozen BK211.out 2; have hfz30_3 := blk_frozen BK211.out 3; have hfz30_4 := blk_frozen BK211.out 4; have p17 : 0 ≤ (((rd_T33 t204 x7_1).f1) : Int) := of_decide_eq_true (by first | (with_reducible assumption) | assumption); have q17 : ((rd_T33 t204 x7_1).f1) < (a0.size : Int) := of_decide_eq_true (by first | (with_reducible assumption) | assumption); have hx17 := bt_at a0 ((rd_T33 t204 x7_1).f1); replace p17 := eq_true p17; replace q17 := eq_true q17))
                                              go_roundg k1
                                              case measure => have := HK1.out; omega
                                              case rel => exact ⟨((rd_T33 t204 x7_1).f1), (wrap64 (x7_1 + 1)), (by first | rfl | (simp; done) | (simp [i64_w]; done) | (simp [*]; done) | (simp [*, i64_w]; done) | (simp [*]; unfold wrap64; omega)), (by first | rfl | (simp; done) | (simp [i64_w]; done) | (simp [*]; done) | (simp [*, i64_w]; done) | (simp [*]; unfold wrap64; omega)), H', ⟨by have := HK1.out; omega⟩, ⟨by (with_reducible repeat (first | apply Kd.R_alloc | apply Kd.R_drewN | apply Kd.R_drew)); exact Kd.R_mono (Kd.R_far (p := ⟨gb211, 4, none⟩) (Kd.R_far (p := ⟨gb211, 3, none⟩) (Kd.R_far (p := ⟨gb211, 2, none⟩) (Kd.R_far (p := ⟨gb211, 1, none⟩) (Kd.R_far (p := ⟨gb211, 0, none⟩) (Kd.R_mono HO_3.out (fun k_ hk => (⟨hk, hk.2⟩ : _ ∧ k_ ≠ gb211))) (fun _ hk => hk.2) (.int .i64 ((rd_T33 t204 x7_1).f0))) (fun _ hk => hk.2) (.int .i64 ((rd_T33 t204 x7_1).f1))) (fun _ hk => hk.2) (.string ((rd_T33 t204 x7_1).f2))) (fun _ hk => hk.2) (.int .i64 ((rd_T33 t204 x7_1).f3))) (fun _ hk => hk.2) (.int .i64 ((rd_T33 t204 x7_1).f4))) (fun _ hk => trivial)⟩, ⟨by repeat (first | (with_reducible first | exact HB.out | apply below_alloc | apply pw_below_drewN | apply below_drew1 | refine below_set ?_ GE211.out) | exact HB.out)⟩⟩
                            · rw [if_neg c19] at H
                              exact absurd H (by simp)
                          · rw [if_neg c18] at H
                            have c18b0 : (((rd_T33 t204 x7_1).f0) == 1) = false := beq_eq_false_iff_ne.mpr c18
                            have c18b1 : (((rd_T33 t204 x7_1).f0) != 1) = true := bne_iff_ne.mpr c18
                            by_cases c31 : ((rd_T33 t204 x7_1).f0) = 2
                            · rw [if_pos c31] at H
                              have c31b0 : (((rd_T33 t204 x7_1).f0) == 2) = true := beq_iff_eq.mpr c31
                              have c31b1 : (((rd_T33 t204 x7_1).f0) != 2) = false := bne_eq_false_iff_eq.mpr c31
                              clear c31
                              by_cases c32 : (bt a0 ((rd_T33 t204 x7_1).f1)) = 39
                              · rw [if_pos c32] at H
                                have c32b0 : ((bt a0 ((rd_T33 t204 x7_1).f1)) == 39) = true := beq_iff_eq.mpr c32
                                have c32b1 : ((bt a0 ((rd_T33 t204 x7_1).f1)) != 39) = false := bne_eq_false_iff_eq.mpr c32
                                clear c32
                                by_cases c33 : ((rd_T33 t204 x7_1).f0) = 0
                                · rw [if_pos c33] at H
                                  exact absurd H (by simp)
                                · rw [if_neg c33] at H
                                  have c33b0 : (((rd_T33 t204 x7_1).f0) == 0) = false := beq_eq_false_iff_ne.mpr c33
                                  have c33b1 : (((rd_T33 t204 x7_1).f0) != 0) = true := bne_iff_ne.mpr c33
                                  by_cases c34 : ((rd_T33 t204 x7_1).f0) = 4
                                  · rw [if_pos c34] at H
                                    exact absurd H (by simp)
                                  · rw [if_neg c34] at H
                                    have c34b0 : (((rd_T33 t204 x7_1).f0) == 4) = false := beq_eq_false_iff_ne.mpr c34
                                    have c34b1 : (((rd_T33 t204 x7_1).f0) != 4) = true := bne_iff_ne.mpr c34
                                    by_cases c35 : ((rd_T33 t204 x7_1).f0) = 5
                                    · rw [if_pos c35] at H
                                      exact absurd H (by simp)
                                    · rw [if_neg c35] at H
                                      have c35b0 : (((rd_T33 t204 x7_1).f0) == 5) = false := beq_eq_false_iff_ne.mpr c35
                                      have c35b1 : (((rd_T33 t204 x7_1).f0) != 5) = true := bne_iff_ne.mpr c35
                                      by_cases c36 : ((rd_T33 t204 x7_1).f0) = 6
                                      · rw [if_pos c36] at H
                                        exact absurd H (by simp)
                                      · rw [if_neg c36] at H
                                        have c36b0 : (((rd_T33 t204 x7_1).f0) == 6) = false := beq_eq_false_iff_ne.mpr c36
                                        have c36b1 : (((rd_T33 t204 x7_1).f0) != 6) = true := bne_iff_ne.mpr c36
                                        by_cases c37 : ((rd_T33 t204 x7_1).f0) = 7
                                        · rw [if_pos c37] at H
                                          exact absurd H (by simp)
                                        · rw [if_neg c37] at H
                                          have c37b0 : (((rd_T33 t204 x7_1).f0) == 7) = false := beq_eq_false_iff_ne.mpr c37
                                          have c37b1 : (((rd_T33 t204 x7_1).f0) != 7) = true := bne_iff_ne.mpr c37
                                          by_cases c38 : ((rd_T33 t204 x7_1).f0) = 8
                                          · rw [if_pos c38] at H
                                            exact absurd H (by simp)
                                          · rw [if_neg c38] at H
                                            have c38b0 : (((rd_T33 t204 x7_1).f0) == 8) = false := beq_eq_false_iff_ne.mpr c38
                                            have c38b1 : (((rd_T33 t204 x7_1).f0) != 8) = true := bne_iff_ne.mpr c38
                                            by_cases c39 : ((rd_T33 t204 x7_1).f0) = 3
                                            · rw [if_pos c39] at H
                                              exact absurd H (by simp)
                                            · rw [if_neg c39] at H
                                              have c39b0 : (((rd_T33 t204 x7_1).f0) == 3) = false := beq_eq_false_iff_ne.mpr c39
                                              have c39b1 : (((rd_T33 t204 x7_1).f0) != 3) = true := bne_iff_ne.mpr c39
                                              have H' := Aside0.mk H
                                              clear H
                                              obtain ⟨Ao40, co40, eo40⟩ := Kd.R_slice HO_3.out
                                              subst eo40
                                              have p210 : 0 ≤ (x7_1 : Int) := of_decide_eq_true (by first | (with_reducible assumption) | assumption)
                                              have q210 : x7_1 < (t204.length : Int) := of_decide_eq_true (by first | (with_reducible assumption) | assumption)
                                              obtain ⟨ad210, e210, hx210_0, hx210_1, hx210_2, hx210_3, hx210_4⟩ := at_T33 (Kd.R_reads' HO_3.out).2.2 x7_1 p210 q210
                                              cases e210
                                              replace p210 := eq_true p210
                                              replace q210 := eq_true q210
                                              go_wp2_with (first | ((with_reducible refine gate_dst (N := 8) rfl ?_); (try (refine gate_guard (by rfl) ?_; dsimp only)); refine box_event ?hg (N := 8) ?hd (cs := #[.int .i64 0, .int .i64 0, .string (⟨#[]⟩ : ByteArray), .int .i64 0, .int .i64 0]) (t := 33) ?hr ?_; (case hd => rfl); (case hg => rfl); (case hr => first | (go_simp; done) | (go_simp; rfl)); intro gb211 hg w41 hbox hb; have n0_ := Aside0.mk (Kd.R_below (Kd.R_elderB (by (with_reducible repeat (first | apply Kd.R_alloc | apply Kd.R_drewN | apply Kd.R_drew)); exact HO_3.out) gb211 (Nat.le_of_eq hg.symm)) hb); have n1_ := Aside0.mk (below_step (by repeat (first | (with_reducible first | exact HB.out | apply below_alloc | apply pw_below_drewN | apply below_drew1) | exact HB.out)) hb); have n2_ := Aside0.mk (hbox); have n3_ := Aside0.mk ((by rw [hg]; exact (below_size (by repeat (first | (with_reducible first | exact HB.out | apply below_alloc | apply pw_below_drewN | apply below_drew1) | exact HB.out))) : w.heap.size ≤ gb211)); have n4_ := Aside0.mk ((by rw [hg]; exact (below_size (by repeat (first | (with_reducible first | exact HB.out | apply below_alloc | apply pw_below_drewN | apply below_drew1) | exact HB.out))) : w.heap.size ≤ gb211)); clear HO_3; clear HB; have HO_3 := n0_; have HB := n1_; have BK211 := n2_; have GW211 := n3_; have GE211 := n4_; clear n0_ n1_ n2_ n3_ n4_; clear hb hbox hg; have hcz42_0 : w41.cell? ⟨gb211, 0, none⟩ = some (.int .i64 0) := (blk_cell BK211.out 0).trans rfl; have hcz42_1 : w41.cell? ⟨gb211, 1, none⟩ = some (.int .i64 0) := (blk_cell BK211.out 1).trans rfl; have hcz42_2 : w41.cell? ⟨gb211, 2, none⟩ = some (.string (⟨#[]⟩ : ByteArray)) := (blk_cell BK211.out 2).trans rfl; have hcz42_3 : w41.cell? ⟨gb211, 3, none⟩ = some (.int .i64 0) := (blk_cell BK211.out 3).trans rfl; have hcz42_4 : w41.cell? ⟨gb211, 4, none⟩ = some (.int .i64 0) := (blk_cell BK211.out 4).trans rfl; have hfz42_0 := blk_frozen BK211.out 0; have hfz42_1 := blk_frozen BK211.out 1; have hfz42_2 := blk_frozen BK211.out 2; have hfz42_3 := blk_frozen BK211.out 3; have hfz42_4 := blk_frozen BK211.out 4; have p17 : 0 ≤ (((rd_T33 t204 x7_1).f1) : Int) := of_decide_eq_true (by first | (with_reducible assumption) | assumption); have q17 : ((rd_T33 t204 x7_1).f1) < (a0.size : Int) := of_decide_eq_true (by first | (with_reducible assumption) | assumption); have hx17 := bt_at a0 ((rd_T33 t204 x7_1).f1); replace p17 := eq_true p17; replace q17 := eq_true q17))
                                              go_roundg k1
                                              case measure => have := HK1.out; omega
                                              case rel => exact ⟨((rd_T33 t204 x7_1).f1), (wrap64 (x7_1 + 1)), (by first | rfl | (simp; done) | (simp [i64_w]; done) | (simp [*]; done) | (simp [*, i64_w]; done) | (simp [*]; unfold wrap64; omega)), (by first | rfl | (simp; done) | (simp [i64_w]; done) | (simp [*]; done) | (simp [*, i64_w]; done) | (simp [*]; unfold wrap64; omega)), H', ⟨by have := HK1.out; omega⟩, ⟨by (with_reducible repeat (first | apply Kd.R_alloc | apply Kd.R_drewN | apply Kd.R_drew)); exact Kd.R_mono (Kd.R_far (p := ⟨gb211, 4, none⟩) (Kd.R_far (p := ⟨gb211, 3, none⟩) (Kd.R_far (p := ⟨gb211, 2, none⟩) (Kd.R_far (p := ⟨gb211, 1, none⟩) (Kd.R_far (p := ⟨gb211, 0, none⟩) (Kd.R_mono HO_3.out (fun k_ hk => (⟨hk, hk.2⟩ : _ ∧ k_ ≠ gb211))) (fun _ hk => hk.2) (.int .i64 ((rd_T33 t204 x7_1).f0))) (fun _ hk => hk.2) (.int .i64 ((rd_T33 t204 x7_1).f1))) (fun _ hk => hk.2) (.string ((rd_T33 t204 x7_1).f2))) (fun _ hk => hk.2) (.int .i64 ((rd_T33 t204 x7_1).f3))) (fun _ hk => hk.2) (.int .i64 ((rd_T33 t204 x7_1).f4))) (fun _ hk => trivial)⟩, ⟨by repeat (first | (with_reducible first | exact HB.out | apply below_alloc | apply pw_below_drewN | apply below_drew1 | refine below_set ?_ GE211.out) | exact HB.out)⟩⟩
                              · rw [if_neg c32] at H
                                exact absurd H (by simp)
                            · rw [if_neg c31] at H
                              have c31b0 : (((rd_T33 t204 x7_1).f0) == 2) = false := beq_eq_false_iff_ne.mpr c31
                              have c31b1 : (((rd_T33 t204 x7_1).f0) != 2) = true := bne_iff_ne.mpr c31
                              by_cases c43 : ((rd_T33 t204 x7_1).f0) = 0
                              · rw [if_pos c43] at H
                                have c43b0 : (((rd_T33 t204 x7_1).f0) == 0) = true := beq_iff_eq.mpr c43
                                have c43b1 : (((rd_T33 t204 x7_1).f0) != 0) = false := bne_eq_false_iff_eq.mpr c43
                                clear c43
                                by_cases c44 : ((rd_T33 t204 x7_1).f2).toList = ([] : List UInt8)
                                · rw [if_pos c44] at H
                                  exact absurd H (by simp)
                                · rw [if_neg c44] at H
                                  have c44b0 : (((rd_T33 t204 x7_1).f2).toList == ([] : List UInt8)) = false := beq_eq_false_iff_ne.mpr c44
                                  have c44b1 : (((rd_T33 t204 x7_1).f2).toList != ([] : List UInt8)) = true := bne_iff_ne.mpr c44
                                  by_cases c45 : 0 < (((rd_T33 t204 x7_1).f2).size : Int)
                                  · rw [if_pos c45] at H
                                    have c45b0 : decide (0 < (((rd_T33 t204 x7_1).f2).size : Int)) = true := decide_eq_true c45
                                    have c45b1 : decide (0 < ((rd_T33 t204 x7_1).f2).size) = true := decide_eq_true (by omega)
                                    clear c45
                                    by_cases c47 : (bt ((rd_T33 t204 x7_1).f2) 0) = (bt a0 ((rd_T33 t204 x7_1).f1))
                                    · rw [if_pos c47] at H
                                      have c47b0 : ((bt ((rd_T33 t204 x7_1).f2) 0) == (bt a0 ((rd_T33 t204 x7_1).f1))) = true := beq_iff_eq.mpr c47
                                      have c47b1 : ((bt ((rd_T33 t204 x7_1).f2) 0) != (bt a0 ((rd_T33 t204 x7_1).f1))) = false := bne_eq_false_iff_eq.mpr c47
                                      clear c47
                                      by_cases c48 : ((rd_T33 t204 x7_1).f0) = 4
                                      · rw [if_pos c48] at H
                                        exact absurd H (by simp)
                                      · rw [if_neg c48] at H
                                        have c48b0 : (((rd_T33 t204 x7_1).f0) == 4) = false := beq_eq_false_iff_ne.mpr c48
                                        have c48b1 : (((rd_T33 t204 x7_1).f0) != 4) = true := bne_iff_ne.mpr c48
                                        by_cases c49 : ((rd_T33 t204 x7_1).f0) = 5
                                        · rw [if_pos c49] at H
                                          exact absurd H (by simp)
                                        · rw [if_neg c49] at H
                                          have c49b0 : (((rd_T33 t204 x7_1).f0) == 5) = false := beq_eq_false_iff_ne.mpr c49
                                          have c49b1 : (((rd_T33 t204 x7_1).f0) != 5) = true := bne_iff_ne.mpr c49
                                          by_cases c50 : ((rd_T33 t204 x7_1).f0) = 6
                                          · rw [if_pos c50] at H
                                            exact absurd H (by simp)
                                          · rw [if_neg c50] at H
                                            have c50b0 : (((rd_T33 t204 x7_1).f0) == 6) = false := beq_eq_false_iff_ne.mpr c50
                                            have c50b1 : (((rd_T33 t204 x7_1).f0) != 6) = true := bne_iff_ne.mpr c50
                                            by_cases c51 : ((rd_T33 t204 x7_1).f0) = 7
                                            · rw [if_pos c51] at H
                                              exact absurd H (by simp)
                                            · rw [if_neg c51] at H
                                              have c51b0 : (((rd_T33 t204 x7_1).f0) == 7) = false := beq_eq_false_iff_ne.mpr c51
                                              have c51b1 : (((rd_T33 t204 x7_1).f0) != 7) = true := bne_iff_ne.mpr c51
                                              by_cases c52 : ((rd_T33 t204 x7_1).f0) = 8
                                              · rw [if_pos c52] at H
                                                exact absurd H (by simp)
                                              · rw [if_neg c52] at H
                                                have c52b0 : (((rd_T33 t204 x7_1).f0) == 8) = false := beq_eq_false_iff_ne.mpr c52
                                                have c52b1 : (((rd_T33 t204 x7_1).f0) != 8) = true := bne_iff_ne.mpr c52
                                                by_cases c53 : ((rd_T33 t204 x7_1).f0) = 3
                                                · rw [if_pos c53] at H
                                                  exact absurd H (by simp)
                                                · rw [if_neg c53] at H
                                                  have c53b0 : (((rd_T33 t204 x7_1).f0) == 3) = false := beq_eq_false_iff_ne.mpr c53
                                                  have c53b1 : (((rd_T33 t204 x7_1).f0) != 3) = true := bne_iff_ne.mpr c53
                                                  have H' := Aside0.mk H
                                                  clear H
                                                  obtain ⟨Ao54, co54, eo54⟩ := Kd.R_slice HO_3.out
                                                  subst eo54
                                                  have p210 : 0 ≤ (x7_1 : Int) := of_decide_eq_true (by first | (with_reducible assumption) | assumption)
                                                  have q210 : x7_1 < (t204.length : Int) := of_decide_eq_true (by first | (with_reducible assumption) | assumption)
                                                  obtain ⟨ad210, e210, hx210_0, hx210_1, hx210_2, hx210_3, hx210_4⟩ := at_T33 (Kd.R_reads' HO_3.out).2.2 x7_1 p210 q210
                                                  cases e210
                                                  replace p210 := eq_true p210
                                                  replace q210 := eq_true q210
                                                  go_wp2_with (first | ((with_reducible refine gate_dst (N := 8) rfl ?_); (try (refine gate_guard (by rfl) ?_; dsimp only)); refine box_event ?hg (N := 8) ?hd (cs := #[.int .i64 0, .int .i64 0, .string (⟨#[]⟩ : ByteArray), .int .i64 0, .int .i64 0]) (t := 33) ?hr ?_; (case hd => rfl); (case hg => rfl); (case hr => first | (go_simp; done) | (go_simp; rfl)); intro gb211 hg w55 hbox hb; have n0_ := Aside0.mk (Kd.R_below (Kd.R_elderB (by (with_reducible repeat (first | apply Kd.R_alloc | apply Kd.R_drewN | apply Kd.R_drew)); exact HO_3.out) gb211 (Nat.le_of_eq hg.symm)) hb); have n1_ := Aside0.mk (below_step (by repeat (first | (with_reducible first | exact HB.out | apply below_alloc | apply pw_below_drewN | apply below_drew1) | exact HB.out)) hb); have n2_ := Aside0.mk (hbox); have n3_ := Aside0.mk ((by rw [hg]; exact (below_size (by repeat (first | (with_reducible first | exact HB.out | apply below_alloc | apply pw_below_drewN | apply below_drew1) | exact HB.out))) : w.heap.size ≤ gb211)); have n4_ := Aside0.mk ((by rw [hg]; exact (below_size (by repeat (first | (with_reducible first | exact HB.out | apply below_alloc | apply pw_below_drewN | apply below_drew1) | exact HB.out))) : w.heap.size ≤ gb211)); clear HO_3; clear HB; have HO_3 := n0_; have HB := n1_; have BK211 := n2_; have GW211 := n3_; have GE211 := n4_; clear n0_ n1_ n2_ n3_ n4_; clear hb hbox hg; have hcz56_0 : w55.cell? ⟨gb211, 0, none⟩ = some (.int .i64 0) := (blk_cell BK211.out 0).trans rfl; have hcz56_1 : w55.cell? ⟨gb211, 1, none⟩ = some (.int .i64 0) := (blk_cell BK211.out 1).trans rfl; have hcz56_2 : w55.cell? ⟨gb211, 2, none⟩ = some (.string (⟨#[]⟩ : ByteArray)) := (blk_cell BK211.out 2).trans rfl; have hcz56_3 : w55.cell? ⟨gb211, 3, none⟩ = some (.int .i64 0) := (blk_cell BK211.out 3).trans rfl; have hcz56_4 : w55.cell? ⟨gb211, 4, none⟩ = some (.int .i64 0) := (blk_cell BK211.out 4).trans rfl; have hfz56_0 := blk_frozen BK211.out 0; have hfz56_1 := blk_frozen BK211.out 1; have hfz56_2 := blk_frozen BK211.out 2; have hfz56_3 := blk_frozen BK211.out 3; have hfz56_4 := blk_frozen BK211.out 4; have p17 : 0 ≤ (((rd_T33 t204 x7_1).f1) : Int) := of_decide_eq_true (by first | (with_reducible assumption) | assumption); have q17 : ((rd_T33 t204 x7_1).f1) < (a0.size : Int) := of_decide_eq_true (by first | (with_reducible assumption) | assumption); have hx17 := bt_at a0 ((rd_T33 t204 x7_1).f1); replace p17 := eq_true p17; replace q17 := eq_true q17; have p46 : 0 ≤ (0 : Int) := (by omega); have q46 : 0 < ((rd_T33 t204 x7_1).f2).size := (by have : (0 : Int) < (((rd_T33 t204 x7_1).f2).size : Int) := of_decide_eq_true (by first | (with_reducible assumption) | assumption); omega); have hx46 : ∀ h : 0 < ((rd_T33 t204 x7_1).f2).size, ((((rd_T33 t204 x7_1).f2)[0]'h).toNat : Int) = bt ((rd_T33 t204 x7_1).f2) 0 := bt_at ((rd_T33 t204 x7_1).f2) 0; clear p46; have qi46 : (0 < (((rd_T33 t204 x7_1).f2).size : Int)) = True := eq_true (of_decide_eq_true (by first | (with_reducible assumption) | assumption)); replace q46 := eq_true q46))
                                                  go_roundg k1
                                                  case measure => have := HK1.out; omega
                                                  case rel => exact ⟨((rd_T33 t204 x7_1).f1), (wrap64 (x7_1 + 1)), (by first | rfl | (simp; done) | (simp [i64_w]; done) | (simp [*]; done) | (simp [*, i64_w]; done) | (simp [*]; unfold wrap64; omega)), (by first | rfl | (simp; done) | (simp [i64_w]; done) | (simp [*]; done) | (simp [*, i64_w]; done) | (simp [*]; unfold wrap64; omega)), H', ⟨by have := HK1.out; omega⟩, ⟨by (with_reducible repeat (first | apply Kd.R_alloc | apply Kd.R_drewN | apply Kd.R_drew)); exact Kd.R_mono (Kd.R_far (p := ⟨gb211, 4, none⟩) (Kd.R_far (p := ⟨gb211, 3, none⟩) (Kd.R_far (p := ⟨gb211, 2, none⟩) (Kd.R_far (p := ⟨gb211, 1, none⟩) (Kd.R_far (p := ⟨gb211, 0, none⟩) (Kd.R_mono HO_3.out (fun k_ hk => (⟨hk, hk.2⟩ : _ ∧ k_ ≠ gb211))) (fun _ hk => hk.2) (.int .i64 ((rd_T33 t204 x7_1).f0))) (fun _ hk => hk.2) (.int .i64 ((rd_T33 t204 x7_1).f1))) (fun _ hk => hk.2) (.string ((rd_T33 t204 x7_1).f2))) (fun _ hk => hk.2) (.int .i64 ((rd_T33 t204 x7_1).f3))) (fun _ hk => hk.2) (.int .i64 ((rd_T33 t204 x7_1).f4))) (fun _ hk => trivial)⟩, ⟨by repeat (first | (with_reducible first | exact HB.out | apply below_alloc | apply pw_below_drewN | apply below_drew1 | refine below_set ?_ GE211.out) | exact HB.out)⟩⟩
                                    · rw [if_neg c47] at H
                                      exact absurd H (by simp)
                                  · rw [if_neg c45] at H
                                    exact absurd H (by simp)
                              · rw [if_neg c43] at H
                                have c43b0 : (((rd_T33 t204 x7_1).f0) == 0) = false := beq_eq_false_iff_ne.mpr c43
                                have c43b1 : (((rd_T33 t204 x7_1).f0) != 0) = true := bne_iff_ne.mpr c43
                                by_cases c57 : ((rd_T33 t204 x7_1).f0) = 4
                                · rw [if_pos c57] at H
                                  have c57b0 : (((rd_T33 t204 x7_1).f0) == 4) = true := beq_iff_eq.mpr c57
                                  have c57b1 : (((rd_T33 t204 x7_1).f0) != 4) = false := bne_eq_false_iff_eq.mpr c57
                                  clear c57
                                  by_cases c58 : (bt a0 ((rd_T33 t204 x7_1).f1)) = 61
                                  · rw [if_pos c58] at H
                                    have c58b0 : ((bt a0 ((rd_T33 t204 x7_1).f1)) == 61) = true := beq_iff_eq.mpr c58
                                    have c58b1 : ((bt a0 ((rd_T33 t204 x7_1).f1)) != 61) = false := bne_eq_false_iff_eq.mpr c58
                                    clear c58
                                    by_cases c59 : ((rd_T33 t204 x7_1).f0) = 5
                                    · rw [if_pos c59] at H
                                      exact absurd H (by simp)
                                    · rw [if_neg c59] at H
                                      have c59b0 : (((rd_T33 t204 x7_1).f0) == 5) = false := beq_eq_false_iff_ne.mpr c59
                                      have c59b1 : (((rd_T33 t204 x7_1).f0) != 5) = true := bne_iff_ne.mpr c59
                                      by_cases c60 : ((rd_T33 t204 x7_1).f0) = 6
                                      · rw [if_pos c60] at H
                                        exact absurd H (by simp)
                                      · rw [if_neg c60] at H
                                        have c60b0 : (((rd_T33 t204 x7_1).f0) == 6) = false := beq_eq_false_iff_ne.mpr c60
                                        have c60b1 : (((rd_T33 t204 x7_1).f0) != 6) = true := bne_iff_ne.mpr c60
                                        by_cases c61 : ((rd_T33 t204 x7_1).f0) = 7
                                        · rw [if_pos c61] at H
                                          exact absurd H (by simp)
                                        · rw [if_neg c61] at H
                                          have c61b0 : (((rd_T33 t204 x7_1).f0) == 7) = false := beq_eq_false_iff_ne.mpr c61
                                          have c61b1 : (((rd_T33 t204 x7_1).f0) != 7) = true := bne_iff_ne.mpr c61
                                          by_cases c62 : ((rd_T33 t204 x7_1).f0) = 8
                                          · rw [if_pos c62] at H
                                            exact absurd H (by simp)
                                          · rw [if_neg c62] at H
                                            have c62b0 : (((rd_T33 t204 x7_1).f0) == 8) = false := beq_eq_false_iff_ne.mpr c62
                                            have c62b1 : (((rd_T33 t204 x7_1).f0) != 8) = true := bne_iff_ne.mpr c62
                                            by_cases c63 : ((rd_T33 t204 x7_1).f0) = 3
                                            · rw [if_pos c63] at H
                                              exact absurd H (by simp)
                                            · rw [if_neg c63] at H
                                              have c63b0 : (((rd_T33 t204 x7_1).f0) == 3) = false := beq_eq_false_iff_ne.mpr c63
                                              have c63b1 : (((rd_T33 t204 x7_1).f0) != 3) = true := bne_iff_ne.mpr c63
                                              have H' := Aside0.mk H
                                              clear H
                                              obtain ⟨Ao64, co64, eo64⟩ := Kd.R_slice HO_3.out
                                              subst eo64
                                              have p210 : 0 ≤ (x7_1 : Int) := of_decide_eq_true (by first | (with_reducible assumption) | assumption)
                                              have q210 : x7_1 < (t204.length : Int) := of_decide_eq_true (by first | (with_reducible assumption) | assumption)
                                              obtain ⟨ad210, e210, hx210_0, hx210_1, hx210_2, hx210_3, hx210_4⟩ := at_T33 (Kd.R_reads' HO_3.out).2.2 x7_1 p210 q210
                                              cases e210
                                              replace p210 := eq_true p210
                                              replace q210 := eq_true q210
                                              go_wp2_with (first | ((with_reducible refine gate_dst (N := 8) rfl ?_); (try (refine gate_guard (by rfl) ?_; dsimp only)); refine box_event ?hg (N := 8) ?hd (cs := #[.int .i64 0, .int .i64 0, .string (⟨#[]⟩ : ByteArray), .int .i64 0, .int .i64 0]) (t := 33) ?hr ?_; (case hd => rfl); (case hg => rfl); (case hr => first | (go_simp; done) | (go_simp; rfl)); intro gb211 hg w65 hbox hb; have n0_ := Aside0.mk (Kd.R_below (Kd.R_elderB (by (with_reducible repeat (first | apply Kd.R_alloc | apply Kd.R_drewN | apply Kd.R_drew)); exact HO_3.out) gb211 (Nat.le_of_eq hg.symm)) hb); have n1_ := Aside0.mk (below_step (by repeat (first | (with_reducible first | exact HB.out | apply below_alloc | apply pw_below_drewN | apply below_drew1) | exact HB.out)) hb); have n2_ := Aside0.mk (hbox); have n3_ := Aside0.mk ((by rw [hg]; exact (below_size (by repeat (first | (with_reducible first | exact HB.out | apply below_alloc | apply pw_below_drewN | apply below_drew1) | exact HB.out))) : w.heap.size ≤ gb211)); have n4_ := Aside0.mk ((by rw [hg]; exact (below_size (by repeat (first | (with_reducible first | exact HB.out | apply below_alloc | apply pw_below_drewN | apply below_drew1) | exact HB.out))) : w.heap.size ≤ gb211)); clear HO_3; clear HB; have HO_3 := n0_; have HB := n1_; have BK211 := n2_; have GW211 := n3_; have GE211 := n4_; clear n0_ n1_ n2_ n3_ n4_; clear hb hbox hg; have hcz66_0 : w65.cell? ⟨gb211, 0, none⟩ = some (.int .i64 0) := (blk_cell BK211.out 0).trans rfl; have hcz66_1 : w65.cell? ⟨gb211, 1, none⟩ = some (.int .i64 0) := (blk_cell BK211.out 1).trans rfl; have hcz66_2 : w65.cell? ⟨gb211, 2, none⟩ = some (.string (⟨#[]⟩ : ByteArray)) := (blk_cell BK211.out 2).trans rfl; have hcz66_3 : w65.cell? ⟨gb211, 3, none⟩ = some (.int .i64 0) := (blk_cell BK211.out 3).trans rfl; have hcz66_4 : w65.cell? ⟨gb211, 4, none⟩ = some (.int .i64 0) := (blk_cell BK211.out 4).trans rfl; have hfz66_0 := blk_frozen BK211.out 0; have hfz66_1 := blk_frozen BK211.out 1; have hfz66_2 := blk_frozen BK211.out 2; have hfz66_3 := blk_frozen BK211.out 3; have hfz66_4 := blk_frozen BK211.out 4; have p17 : 0 ≤ (((rd_T33 t204 x7_1).f1) : Int) := of_decide_eq_true (by first | (with_reducible assumption) | assumption); have q17 : ((rd_T33 t204 x7_1).f1) < (a0.size : Int) := of_decide_eq_true (by first | (with_reducible assumption) | assumption); have hx17 := bt_at a0 ((rd_T33 t204 x7_1).f1); replace p17 := eq_true p17; replace q17 := eq_true q17))
                                              go_roundg k1
                                              case measure => have := HK1.out; omega
                                              case rel => exact ⟨((rd_T33 t204 x7_1).f1), (wrap64 (x7_1 + 1)), (by first | rfl | (simp; done) | (simp [i64_w]; done) | (simp [*]; done) | (simp [*, i64_w]; done) | (simp [*]; unfold wrap64; omega)), (by first | rfl | (simp; done) | (simp [i64_w]; done) | (simp [*]; done) | (simp [*, i64_w]; done) | (simp [*]; unfold wrap64; omega)), H', ⟨by have := HK1.out; omega⟩, ⟨by (with_reducible repeat (first | apply Kd.R_alloc | apply Kd.R_drewN | apply Kd.R_drew)); exact Kd.R_mono (Kd.R_far (p := ⟨gb211, 4, none⟩) (Kd.R_far (p := ⟨gb211, 3, none⟩) (Kd.R_far (p := ⟨gb211, 2, none⟩) (Kd.R_far (p := ⟨gb211, 1, none⟩) (Kd.R_far (p := ⟨gb211, 0, none⟩) (Kd.R_mono HO_3.out (fun k_ hk => (⟨hk, hk.2⟩ : _ ∧ k_ ≠ gb211))) (fun _ hk => hk.2) (.int .i64 ((rd_T33 t204 x7_1).f0))) (fun _ hk => hk.2) (.int .i64 ((rd_T33 t204 x7_1).f1))) (fun _ hk => hk.2) (.string ((rd_T33 t204 x7_1).f2))) (fun _ hk => hk.2) (.int .i64 ((rd_T33 t204 x7_1).f3))) (fun _ hk => hk.2) (.int .i64 ((rd_T33 t204 x7_1).f4))) (fun _ hk => trivial)⟩, ⟨by repeat (first | (with_reducible first | exact HB.out | apply below_alloc | apply pw_below_drewN | apply below_drew1 | refine below_set ?_ GE211.out) | exact HB.out)⟩⟩
                                  · rw [if_neg c58] at H
                                    exact absurd H (by simp)
                                · rw [if_neg c57] at H
                                  have c57b0 : (((rd_T33 t204 x7_1).f0) == 4) = false := beq_eq_false_iff_ne.mpr c57
                                  have c57b1 : (((rd_T33 t204 x7_1).f0) != 4) = true := bne_iff_ne.mpr c57
                                  by_cases c67 : ((rd_T33 t204 x7_1).f0) = 5
                                  · rw [if_pos c67] at H
                                    have c67b0 : (((rd_T33 t204 x7_1).f0) == 5) = true := beq_iff_eq.mpr c67
                                    have c67b1 : (((rd_T33 t204 x7_1).f0) != 5) = false := bne_eq_false_iff_eq.mpr c67
                                    clear c67
                                    by_cases c68 : (bt a0 ((rd_T33 t204 x7_1).f1)) = 124
                                    · rw [if_pos c68] at H
                                      have c68b0 : ((bt a0 ((rd_T33 t204 x7_1).f1)) == 124) = true := beq_iff_eq.mpr c68
                                      have c68b1 : ((bt a0 ((rd_T33 t204 x7_1).f1)) != 124) = false := bne_eq_false_iff_eq.mpr c68
                                      clear c68
                                      by_cases c69 : ((rd_T33 t204 x7_1).f0) = 6
                                      · rw [if_pos c69] at H
                                        exact absurd H (by simp)
                                      · rw [if_neg c69] at H
                                        have c69b0 : (((rd_T33 t204 x7_1).f0) == 6) = false := beq_eq_false_iff_ne.mpr c69
                                        have c69b1 : (((rd_T33 t204 x7_1).f0) != 6) = true := bne_iff_ne.mpr c69
                                        by_cases c70 : ((rd_T33 t204 x7_1).f0) = 7
                                        · rw [if_pos c70] at H
                                          exact absurd H (by simp)
                                        · rw [if_neg c70] at H
                                          have c70b0 : (((rd_T33 t204 x7_1).f0) == 7) = false := beq_eq_false_iff_ne.mpr c70
                                          have c70b1 : (((rd_T33 t204 x7_1).f0) != 7) = true := bne_iff_ne.mpr c70
                                          by_cases c71 : ((rd_T33 t204 x7_1).f0) = 8
                                          · rw [if_pos c71] at H
                                            exact absurd H (by simp)
                                          · rw [if_neg c71] at H
                                            have c71b0 : (((rd_T33 t204 x7_1).f0) == 8) = false := beq_eq_false_iff_ne.mpr c71
                                            have c71b1 : (((rd_T33 t204 x7_1).f0) != 8) = true := bne_iff_ne.mpr c71
                                            by_cases c72 : ((rd_T33 t204 x7_1).f0) = 3
                                            · rw [if_pos c72] at H
                                              exact absurd H (by simp)
                                            · rw [if_neg c72] at H
                                              have c72b0 : (((rd_T33 t204 x7_1).f0) == 3) = false := beq_eq_false_iff_ne.mpr c72
                                              have c72b1 : (((rd_T33 t204 x7_1).f0) != 3) = true := bne_iff_ne.mpr c72
                                              have H' := Aside0.mk H
                                              clear H
                                              obtain ⟨Ao73, co73, eo73⟩ := Kd.R_slice HO_3.out
                                              subst eo73
                                              have p210 : 0 ≤ (x7_1 : Int) := of_decide_eq_true (by first | (with_reducible assumption) | assumption)
                                              have q210 : x7_1 < (t204.length : Int) := of_decide_eq_true (by first | (with_reducible assumption) | assumption)
                                              obtain ⟨ad210, e210, hx210_0, hx210_1, hx210_2, hx210_3, hx210_4⟩ := at_T33 (Kd.R_reads' HO_3.out).2.2 x7_1 p210 q210
                                              cases e210
                                              replace p210 := eq_true p210
                                              replace q210 := eq_true q210
                                              go_wp2_with (first | ((with_reducible refine gate_dst (N := 8) rfl ?_); (try (refine gate_guard (by rfl) ?_; dsimp only)); refine box_event ?hg (N := 8) ?hd (cs := #[.int .i64 0, .int .i64 0, .string (⟨#[]⟩ : ByteArray), .int .i64 0, .int .i64 0]) (t := 33) ?hr ?_; (case hd => rfl); (case hg => rfl); (case hr => first | (go_simp; done) | (go_simp; rfl)); intro gb211 hg w74 hbox hb; have n0_ := Aside0.mk (Kd.R_below (Kd.R_elderB (by (with_reducible repeat (first | apply Kd.R_alloc | apply Kd.R_drewN | apply Kd.R_drew)); exact HO_3.out) gb211 (Nat.le_of_eq hg.symm)) hb); have n1_ := Aside0.mk (below_step (by repeat (first | (with_reducible first | exact HB.out | apply below_alloc | apply pw_below_drewN | apply below_drew1) | exact HB.out)) hb); have n2_ := Aside0.mk (hbox); have n3_ := Aside0.mk ((by rw [hg]; exact (below_size (by repeat (first | (with_reducible first | exact HB.out | apply below_alloc | apply pw_below_drewN | apply below_drew1) | exact HB.out))) : w.heap.size ≤ gb211)); have n4_ := Aside0.mk ((by rw [hg]; exact (below_size (by repeat (first | (with_reducible first | exact HB.out | apply below_alloc | apply pw_below_drewN | apply below_drew1) | exact HB.out))) : w.heap.size ≤ gb211)); clear HO_3; clear HB; have HO_3 := n0_; have HB := n1_; have BK211 := n2_; have GW211 := n3_; have GE211 := n4_; clear n0_ n1_ n2_ n3_ n4_; clear hb hbox hg; have hcz75_0 : w74.cell? ⟨gb211, 0, none⟩ = some (.int .i64 0) := (blk_cell BK211.out 0).trans rfl; have hcz75_1 : w74.cell? ⟨gb211, 1, none⟩ = some (.int .i64 0) := (blk_cell BK211.out 1).trans rfl; have hcz75_2 : w74.cell? ⟨gb211, 2, none⟩ = some (.string (⟨#[]⟩ : ByteArray)) := (blk_cell BK211.out 2).trans rfl; have hcz75_3 : w74.cell? ⟨gb211, 3, none⟩ = some (.int .i64 0) := (blk_cell BK211.out 3).trans rfl; have hcz75_4 : w74.cell? ⟨gb211, 4, none⟩ = some (.int .i64 0) := (blk_cell BK211.out 4).trans rfl; have hfz75_0 := blk_frozen BK211.out 0; have hfz75_1 := blk_frozen BK211.out 1; have hfz75_2 := blk_frozen BK211.out 2; have hfz75_3 := blk_frozen BK211.out 3; have hfz75_4 := blk_frozen BK211.out 4; have p17 : 0 ≤ (((rd_T33 t204 x7_1).f1) : Int) := of_decide_eq_true (by first | (with_reducible assumption) | assumption); have q17 : ((rd_T33 t204 x7_1).f1) < (a0.size : Int) := of_decide_eq_true (by first | (with_reducible assumption) | assumption); have hx17 := bt_at a0 ((rd_T33 t204 x7_1).f1); replace p17 := eq_true p17; replace q17 := eq_true q17))
                                              go_roundg k1
                                              case measure => have := HK1.out; omega
                                              case rel => exact ⟨((rd_T33 t204 x7_1).f1), (wrap64 (x7_1 + 1)), (by first | rfl | (simp; done) | (simp [i64_w]; done) | (simp [*]; done) | (simp [*, i64_w]; done) | (simp [*]; unfold wrap64; omega)), (by first | rfl | (simp; done) | (simp [i64_w]; done) | (simp [*]; done) | (simp [*, i64_w]; done) | (simp [*]; unfold wrap64; omega)), H', ⟨by have := HK1.out; omega⟩, ⟨by (with_reducible repeat (first | apply Kd.R_alloc | apply Kd.R_drewN | apply Kd.R_drew)); exact Kd.R_mono (Kd.R_far (p := ⟨gb211, 4, none⟩) (Kd.R_far (p := ⟨gb211, 3, none⟩) (Kd.R_far (p := ⟨gb211, 2, none⟩) (Kd.R_far (p := ⟨gb211, 1, none⟩) (Kd.R_far (p := ⟨gb211, 0, none⟩) (Kd.R_mono HO_3.out (fun k_ hk => (⟨hk, hk.2⟩ : _ ∧ k_ ≠ gb211))) (fun _ hk => hk.2) (.int .i64 ((rd_T33 t204 x7_1).f0))) (fun _ hk => hk.2) (.int .i64 ((rd_T33 t204 x7_1).f1))) (fun _ hk => hk.2) (.string ((rd_T33 t204 x7_1).f2))) (fun _ hk => hk.2) (.int .i64 ((rd_T33 t204 x7_1).f3))) (fun _ hk => hk.2) (.int .i64 ((rd_T33 t204 x7_1).f4))) (fun _ hk => trivial)⟩, ⟨by repeat (first | (with_reducible first | exact HB.out | apply below_alloc | apply pw_below_drewN | apply below_drew1 | refine below_set ?_ GE211.out) | exact HB.out)⟩⟩
                                    · rw [if_neg c68] at H
                                      exact absurd H (by simp)
                                  · rw [if_neg c67] at H
                                    have c67b0 : (((rd_T33 t204 x7_1).f0) == 5) = false := beq_eq_false_iff_ne.mpr c67
                                    have c67b1 : (((rd_T33 t204 x7_1).f0) != 5) = true := bne_iff_ne.mpr c67
                                    by_cases c76 : ((rd_T33 t204 x7_1).f0) = 6
                                    · rw [if_pos c76] at H
                                      have c76b0 : (((rd_T33 t204 x7_1).f0) == 6) = true := beq_iff_eq.mpr c76
                                      have c76b1 : (((rd_T33 t204 x7_1).f0) != 6) = false := bne_eq_false_iff_eq.mpr c76
                                      clear c76
                                      by_cases c77 : (bt a0 ((rd_T33 t204 x7_1).f1)) = 38
                                      · rw [if_pos c77] at H
                                        have c77b0 : ((bt a0 ((rd_T33 t204 x7_1).f1)) == 38) = true := beq_iff_eq.mpr c77
                                        have c77b1 : ((bt a0 ((rd_T33 t204 x7_1).f1)) != 38) = false := bne_eq_false_iff_eq.mpr c77
                                        clear c77
                                        by_cases c78 : ((rd_T33 t204 x7_1).f0) = 7
                                        · rw [if_pos c78] at H
                                          exact absurd H (by simp)
                                        · rw [if_neg c78] at H
                                          have c78b0 : (((rd_T33 t204 x7_1).f0) == 7) = false := beq_eq_false_iff_ne.mpr c78
                                          have c78b1 : (((rd_T33 t204 x7_1).f0) != 7) = true := bne_iff_ne.mpr c78
                                          by_cases c79 : ((rd_T33 t204 x7_1).f0) = 8
                                          · rw [if_pos c79] at H
                                            exact absurd H (by simp)
                                          · rw [if_neg c79] at H
                                            have c79b0 : (((rd_T33 t204 x7_1).f0) == 8) = false := beq_eq_false_iff_ne.mpr c79
                                            have c79b1 : (((rd_T33 t204 x7_1).f0) != 8) = true := bne_iff_ne.mpr c79
                                            by_cases c80 : ((rd_T33 t204 x7_1).f0) = 3
                                            · rw [if_pos c80] at H
                                              exact absurd H (by simp)
                                            · rw [if_neg c80] at H
                                              have c80b0 : (((rd_T33 t204 x7_1).f0) == 3) = false := beq_eq_false_iff_ne.mpr c80
                                              have c80b1 : (((rd_T33 t204 x7_1).f0) != 3) = true := bne_iff_ne.mpr c80
                                              have H' := Aside0.mk H
                                              clear H
                                              obtain ⟨Ao81, co81, eo81⟩ := Kd.R_slice HO_3.out
                                              subst eo81
                                              have p210 : 0 ≤ (x7_1 : Int) := of_decide_eq_true (by first | (with_reducible assumption) | assumption)
                                              have q210 : x7_1 < (t204.length : Int) := of_decide_eq_true (by first | (with_reducible assumption) | assumption)
                                              obtain ⟨ad210, e210, hx210_0, hx210_1, hx210_2, hx210_3, hx210_4⟩ := at_T33 (Kd.R_reads' HO_3.out).2.2 x7_1 p210 q210
                                              cases e210
                                              replace p210 := eq_true p210
                                              replace q210 := eq_true q210
                                              go_wp2_with (first | ((with_reducible refine gate_dst (N := 8) rfl ?_); (try (refine gate_guard (by rfl) ?_; dsimp only)); refine box_event ?hg (N := 8) ?hd (cs := #[.int .i64 0, .int .i64 0, .string (⟨#[]⟩ : ByteArray), .int .i64 0, .int .i64 0]) (t := 33) ?hr ?_; (case hd => rfl); (case hg => rfl); (case hr => first | (go_simp; done) | (go_simp; rfl)); intro gb211 hg w82 hbox hb; have n0_ := Aside0.mk (Kd.R_below (Kd.R_elderB (by (with_reducible repeat (first | apply Kd.R_alloc | apply Kd.R_drewN | apply Kd.R_drew)); exact HO_3.out) gb211 (Nat.le_of_eq hg.symm)) hb); have n1_ := Aside0.mk (below_step (by repeat (first | (with_reducible first | exact HB.out | apply below_alloc | apply pw_below_drewN | apply below_drew1) | exact HB.out)) hb); have n2_ := Aside0.mk (hbox); have n3_ := Aside0.mk ((by rw [hg]; exact (below_size (by repeat (first | (with_reducible first | exact HB.out | apply below_alloc | apply pw_below_drewN | apply below_drew1) | exact HB.out))) : w.heap.size ≤ gb211)); have n4_ := Aside0.mk ((by rw [hg]; exact (below_size (by repeat (first | (with_reducible first | exact HB.out | apply below_alloc | apply pw_below_drewN | apply below_drew1) | exact HB.out))) : w.heap.size ≤ gb211)); clear HO_3; clear HB; have HO_3 := n0_; have HB := n1_; have BK211 := n2_; have GW211 := n3_; have GE211 := n4_; clear n0_ n1_ n2_ n3_ n4_; clear hb hbox hg; have hcz83_0 : w82.cell? ⟨gb211, 0, none⟩ = some (.int .i64 0) := (blk_cell BK211.out 0).trans rfl; have hcz83_1 : w82.cell? ⟨gb211, 1, none⟩ = some (.int .i64 0) := (blk_cell BK211.out 1).trans rfl; have hcz83_2 : w82.cell? ⟨gb211, 2, none⟩ = some (.string (⟨#[]⟩ : ByteArray)) := (blk_cell BK211.out 2).trans rfl; have hcz83_3 : w82.cell? ⟨gb211, 3, none⟩ = some (.int .i64 0) := (blk_cell BK211.out 3).trans rfl; have hcz83_4 : w82.cell? ⟨gb211, 4, none⟩ = some (.int .i64 0) := (blk_cell BK211.out 4).trans rfl; have hfz83_0 := blk_frozen BK211.out 0; have hfz83_1 := blk_frozen BK211.out 1; have hfz83_2 := blk_frozen BK211.out 2; have hfz83_3 := blk_frozen BK211.out 3; have hfz83_4 := blk_frozen BK211.out 4; have p17 : 0 ≤ (((rd_T33 t204 x7_1).f1) : Int) := of_decide_eq_true (by first | (with_reducible assumption) | assumption); have q17 : ((rd_T33 t204 x7_1).f1) < (a0.size : Int) := of_decide_eq_true (by first | (with_reducible assumption) | assumption); have hx17 := bt_at a0 ((rd_T33 t204 x7_1).f1); replace p17 := eq_true p17; replace q17 := eq_true q17))
                                              go_roundg k1
                                              case measure => have := HK1.out; omega
                                              case rel => exact ⟨((rd_T33 t204 x7_1).f1), (wrap64 (x7_1 + 1)), (by first | rfl | (simp; done) | (simp [i64_w]; done) | (simp [*]; done) | (simp [*, i64_w]; done) | (simp [*]; unfold wrap64; omega)), (by first | rfl | (simp; done) | (simp [i64_w]; done) | (simp [*]; done) | (simp [*, i64_w]; done) | (simp [*]; unfold wrap64; omega)), H', ⟨by have := HK1.out; omega⟩, ⟨by (with_reducible repeat (first | apply Kd.R_alloc | apply Kd.R_drewN | apply Kd.R_drew)); exact Kd.R_mono (Kd.R_far (p := ⟨gb211, 4, none⟩) (Kd.R_far (p := ⟨gb211, 3, none⟩) (Kd.R_far (p := ⟨gb211, 2, none⟩) (Kd.R_far (p := ⟨gb211, 1, none⟩) (Kd.R_far (p := ⟨gb211, 0, none⟩) (Kd.R_mono HO_3.out (fun k_ hk => (⟨hk, hk.2⟩ : _ ∧ k_ ≠ gb211))) (fun _ hk => hk.2) (.int .i64 ((rd_T33 t204 x7_1).f0))) (fun _ hk => hk.2) (.int .i64 ((rd_T33 t204 x7_1).f1))) (fun _ hk => hk.2) (.string ((rd_T33 t204 x7_1).f2))) (fun _ hk => hk.2) (.int .i64 ((rd_T33 t204 x7_1).f3))) (fun _ hk => hk.2) (.int .i64 ((rd_T33 t204 x7_1).f4))) (fun _ hk => trivial)⟩, ⟨by repeat (first | (with_reducible first | exact HB.out | apply below_alloc | apply pw_below_drewN | apply below_drew1 | refine below_set ?_ GE211.out) | exact HB.out)⟩⟩
                                      · rw [if_neg c77] at H
                                        exact absurd H (by simp)
                                    · rw [if_neg c76] at H
                                      have c76b0 : (((rd_T33 t204 x7_1).f0) == 6) = false := beq_eq_false_iff_ne.mpr c76
                                      have c76b1 : (((rd_T33 t204 x7_1).f0) != 6) = true := bne_iff_ne.mpr c76
                                      by_cases c84 : ((rd_T33 t204 x7_1).f0) = 7
                                      · rw [if_pos c84] at H
                                        have c84b0 : (((rd_T33 t204 x7_1).f0) == 7) = true := beq_iff_eq.mpr c84
                                        have c84b1 : (((rd_T33 t204 x7_1).f0) != 7) = false := bne_eq_false_iff_eq.mpr c84
                                        clear c84
                                        by_cases c85 : (bt a0 ((rd_T33 t204 x7_1).f1)) = 126
                                        · rw [if_pos c85] at H
                                          have c85b0 : ((bt a0 ((rd_T33 t204 x7_1).f1)) == 126) = true := beq_iff_eq.mpr c85
                                          have c85b1 : ((bt a0 ((rd_T33 t204 x7_1).f1)) != 126) = false := bne_eq_false_iff_eq.mpr c85
                                          clear c85
                                          by_cases c86 : ((rd_T33 t204 x7_1).f0) = 8
                                          · rw [if_pos c86] at H
                                            exact absurd H (by simp)
                                          · rw [if_neg c86] at H
                                            have c86b0 : (((rd_T33 t204 x7_1).f0) == 8) = false := beq_eq_false_iff_ne.mpr c86
                                            have c86b1 : (((rd_T33 t204 x7_1).f0) != 8) = true := bne_iff_ne.mpr c86
                                            by_cases c87 : ((rd_T33 t204 x7_1).f0) = 3
                                            · rw [if_pos c87] at H
                                              exact absurd H (by simp)
                                            · rw [if_neg c87] at H
                                              have c87b0 : (((rd_T33 t204 x7_1).f0) == 3) = false := beq_eq_false_iff_ne.mpr c87
                                              have c87b1 : (((rd_T33 t204 x7_1).f0) != 3) = true := bne_iff_ne.mpr c87
                                              have H' := Aside0.mk H
                                              clear H
                                              obtain ⟨Ao88, co88, eo88⟩ := Kd.R_slice HO_3.out
                                              subst eo88
                                              have p210 : 0 ≤ (x7_1 : Int) := of_decide_eq_true (by first | (with_reducible assumption) | assumption)
                                              have q210 : x7_1 < (t204.length : Int) := of_decide_eq_true (by first | (with_reducible assumption) | assumption)
                                              obtain ⟨ad210, e210, hx210_0, hx210_1, hx210_2, hx210_3, hx210_4⟩ := at_T33 (Kd.R_reads' HO_3.out).2.2 x7_1 p210 q210
                                              cases e210
                                              replace p210 := eq_true p210
                                              replace q210 := eq_true q210
                                              go_wp2_with (first | ((with_reducible refine gate_dst (N := 8) rfl ?_); (try (refine gate_guard (by rfl) ?_; dsimp only)); refine box_event ?hg (N := 8) ?hd (cs := #[.int .i64 0, .int .i64 0, .string (⟨#[]⟩ : ByteArray), .int .i64 0, .int .i64 0]) (t := 33) ?hr ?_; (case hd => rfl); (case hg => rfl); (case hr => first | (go_simp; done) | (go_simp; rfl)); intro gb211 hg w89 hbox hb; have n0_ := Aside0.mk (Kd.R_below (Kd.R_elderB (by (with_reducible repeat (first | apply Kd.R_alloc | apply Kd.R_drewN | apply Kd.R_drew)); exact HO_3.out) gb211 (Nat.le_of_eq hg.symm)) hb); have n1_ := Aside0.mk (below_step (by repeat (first | (with_reducible first | exact HB.out | apply below_alloc | apply pw_below_drewN | apply below_drew1) | exact HB.out)) hb); have n2_ := Aside0.mk (hbox); have n3_ := Aside0.mk ((by rw [hg]; exact (below_size (by repeat (first | (with_reducible first | exact HB.out | apply below_alloc | apply pw_below_drewN | apply below_drew1) | exact HB.out))) : w.heap.size ≤ gb211)); have n4_ := Aside0.mk ((by rw [hg]; exact (below_size (by repeat (first | (with_reducible first | exact HB.out | apply below_alloc | apply pw_below_drewN | apply below_drew1) | exact HB.out))) : w.heap.size ≤ gb211)); clear HO_3; clear HB; have HO_3 := n0_; have HB := n1_; have BK211 := n2_; have GW211 := n3_; have GE211 := n4_; clear n0_ n1_ n2_ n3_ n4_; clear hb hbox hg; have hcz90_0 : w89.cell? ⟨gb211, 0, none⟩ = some (.int .i64 0) := (blk_cell BK211.out 0).trans rfl; have hcz90_1 : w89.cell? ⟨gb211, 1, none⟩ = some (.int .i64 0) := (blk_cell BK211.out 1).trans rfl; have hcz90_2 : w89.cell? ⟨gb211, 2, none⟩ = some (.string (⟨#[]⟩ : ByteArray)) := (blk_cell BK211.out 2).trans rfl; have hcz90_3 : w89.cell? ⟨gb211, 3, none⟩ = some (.int .i64 0) := (blk_cell BK211.out 3).trans rfl; have hcz90_4 : w89.cell? ⟨gb211, 4, none⟩ = some (.int .i64 0) := (blk_cell BK211.out 4).trans rfl; have hfz90_0 := blk_frozen BK211.out 0; have hfz90_1 := blk_frozen BK211.out 1; have hfz90_2 := blk_frozen BK211.out 2; have hfz90_3 := blk_frozen BK211.out 3; have hfz90_4 := blk_frozen BK211.out 4; have p17 : 0 ≤ (((rd_T33 t204 x7_1).f1) : Int) := of_decide_eq_true (by first | (with_reducible assumption) | assumption); have q17 : ((rd_T33 t204 x7_1).f1) < (a0.size : Int) := of_decide_eq_true (by first | (with_reducible assumption) | assumption); have hx17 := bt_at a0 ((rd_T33 t204 x7_1).f1); replace p17 := eq_true p17; replace q17 := eq_true q17))
                                              go_roundg k1
                                              case measure => have := HK1.out; omega
                                              case rel => exact ⟨((rd_T33 t204 x7_1).f1), (wrap64 (x7_1 + 1)), (by first | rfl | (simp; done) | (simp [i64_w]; done) | (simp [*]; done) | (simp [*, i64_w]; done) | (simp [*]; unfold wrap64; omega)), (by first | rfl | (simp; done) | (simp [i64_w]; done) | (simp [*]; done) | (simp [*, i64_w]; done) | (simp [*]; unfold wrap64; omega)), H', ⟨by have := HK1.out; omega⟩, ⟨by (with_reducible repeat (first | apply Kd.R_alloc | apply Kd.R_drewN | apply Kd.R_drew)); exact Kd.R_mono (Kd.R_far (p := ⟨gb211, 4, none⟩) (Kd.R_far (p := ⟨gb211, 3, none⟩) (Kd.R_far (p := ⟨gb211, 2, none⟩) (Kd.R_far (p := ⟨gb211, 1, none⟩) (Kd.R_far (p := ⟨gb211, 0, none⟩) (Kd.R_mono HO_3.out (fun k_ hk => (⟨hk, hk.2⟩ : _ ∧ k_ ≠ gb211))) (fun _ hk => hk.2) (.int .i64 ((rd_T33 t204 x7_1).f0))) (fun _ hk => hk.2) (.int .i64 ((rd_T33 t204 x7_1).f1))) (fun _ hk => hk.2) (.string ((rd_T33 t204 x7_1).f2))) (fun _ hk => hk.2) (.int .i64 ((rd_T33 t204 x7_1).f3))) (fun _ hk => hk.2) (.int .i64 ((rd_T33 t204 x7_1).f4))) (fun _ hk => trivial)⟩, ⟨by repeat (first | (with_reducible first | exact HB.out | apply below_alloc | apply pw_below_drewN | apply below_drew1 | refine below_set ?_ GE211.out) | exact HB.out)⟩⟩
                                        · rw [if_neg c85] at H
                                          exact absurd H (by simp)
                                      · rw [if_neg c84] at H
                                        have c84b0 : (((rd_T33 t204 x7_1).f0) == 7) = false := beq_eq_false_iff_ne.mpr c84
                                        have c84b1 : (((rd_T33 t204 x7_1).f0) != 7) = true := bne_iff_ne.mpr c84
                                        by_cases c91 : ((rd_T33 t204 x7_1).f0) = 8
                                        · rw [if_pos c91] at H
                                          have c91b0 : (((rd_T33 t204 x7_1).f0) == 8) = true := beq_iff_eq.mpr c91
                                          have c91b1 : (((rd_T33 t204 x7_1).f0) != 8) = false := bne_eq_false_iff_eq.mpr c91
                                          clear c91
                                          by_cases c92 : (bt a0 ((rd_T33 t204 x7_1).f1)) = 59
                                          · rw [if_pos c92] at H
                                            have c92b0 : ((bt a0 ((rd_T33 t204 x7_1).f1)) == 59) = true := beq_iff_eq.mpr c92
                                            have c92b1 : ((bt a0 ((rd_T33 t204 x7_1).f1)) != 59) = false := bne_eq_false_iff_eq.mpr c92
                                            clear c92
                                            by_cases c93 : ((rd_T33 t204 x7_1).f0) = 3
                                            · rw [if_pos c93] at H
                                              exact absurd H (by simp)
                                            · rw [if_neg c93] at H
                                              have c93b0 : (((rd_T33 t204 x7_1).f0) == 3) = false := beq_eq_false_iff_ne.mpr c93
                                              have c93b1 : (((rd_T33 t204 x7_1).f0) != 3) = true := bne_iff_ne.mpr c93
                                              have H' := Aside0.mk H
                                              clear H
                                              obtain ⟨Ao94, co94, eo94⟩ := Kd.R_slice HO_3.out
                                              subst eo94
                                              have p210 : 0 ≤ (x7_1 : Int) := of_decide_eq_true (by first | (with_reducible assumption) | assumption)
                                              have q210 : x7_1 < (t204.length : Int) := of_decide_eq_true (by first | (with_reducible assumption) | assumption)
                                              obtain ⟨ad210, e210, hx210_0, hx210_1, hx210_2, hx210_3, hx210_4⟩ := at_T33 (Kd.R_reads' HO_3.out).2.2 x7_1 p210 q210
                                              cases e210
                                              replace p210 := eq_true p210
                                              replace q210 := eq_true q210
                                              go_wp2_with (first | ((with_reducible refine gate_dst (N := 8) rfl ?_); (try (refine gate_guard (by rfl) ?_; dsimp only)); refine box_event ?hg (N := 8) ?hd (cs := #[.int .i64 0, .int .i64 0, .string (⟨#[]⟩ : ByteArray), .int .i64 0, .int .i64 0]) (t := 33) ?hr ?_; (case hd => rfl); (case hg => rfl); (case hr => first | (go_simp; done) | (go_simp; rfl)); intro gb211 hg w95 hbox hb; have n0_ := Aside0.mk (Kd.R_below (Kd.R_elderB (by (with_reducible repeat (first | apply Kd.R_alloc | apply Kd.R_drewN | apply Kd.R_drew)); exact HO_3.out) gb211 (Nat.le_of_eq hg.symm)) hb); have n1_ := Aside0.mk (below_step (by repeat (first | (with_reducible first | exact HB.out | apply below_alloc | apply pw_below_drewN | apply below_drew1) | exact HB.out)) hb); have n2_ := Aside0.mk (hbox); have n3_ := Aside0.mk ((by rw [hg]; exact (below_size (by repeat (first | (with_reducible first | exact HB.out | apply below_alloc | apply pw_below_drewN | apply below_drew1) | exact HB.out))) : w.heap.size ≤ gb211)); have n4_ := Aside0.mk ((by rw [hg]; exact (below_size (by repeat (first | (with_reducible first | exact HB.out | apply below_alloc | apply pw_below_drewN | apply below_drew1) | exact HB.out))) : w.heap.size ≤ gb211)); clear HO_3; clear HB; have HO_3 := n0_; have HB := n1_; have BK211 := n2_; have GW211 := n3_; have GE211 := n4_; clear n0_ n1_ n2_ n3_ n4_; clear hb hbox hg; have hcz96_0 : w95.cell? ⟨gb211, 0, none⟩ = some (.int .i64 0) := (blk_cell BK211.out 0).trans rfl; have hcz96_1 : w95.cell? ⟨gb211, 1, none⟩ = some (.int .i64 0) := (blk_cell BK211.out 1).trans rfl; have hcz96_2 : w95.cell? ⟨gb211, 2, none⟩ = some (.string (⟨#[]⟩ : ByteArray)) := (blk_cell BK211.out 2).trans rfl; have hcz96_3 : w95.cell? ⟨gb211, 3, none⟩ = some (.int .i64 0) := (blk_cell BK211.out 3).trans rfl; have hcz96_4 : w95.cell? ⟨gb211, 4, none⟩ = some (.int .i64 0) := (blk_cell BK211.out 4).trans rfl; have hfz96_0 := blk_frozen BK211.out 0; have hfz96_1 := blk_frozen BK211.out 1; have hfz96_2 := blk_frozen BK211.out 2; have hfz96_3 := blk_frozen BK211.out 3; have hfz96_4 := blk_frozen BK211.out 4; have p17 : 0 ≤ (((rd_T33 t204 x7_1).f1) : Int) := of_decide_eq_true (by first | (with_reducible assumption) | assumption); have q17 : ((rd_T33 t204 x7_1).f1) < (a0.size : Int) := of_decide_eq_true (by first | (with_reducible assumption) | assumption); have hx17 := bt_at a0 ((rd_T33 t204 x7_1).f1); replace p17 := eq_true p17; replace q17 := eq_true q17))
                                              go_roundg k1
                                              case measure => have := HK1.out; omega
                                              case rel => exact ⟨((rd_T33 t204 x7_1).f1), (wrap64 (x7_1 + 1)), (by first | rfl | (simp; done) | (simp [i64_w]; done) | (simp [*]; done) | (simp [*, i64_w]; done) | (simp [*]; unfold wrap64; omega)), (by first | rfl | (simp; done) | (simp [i64_w]; done) | (simp [*]; done) | (simp [*, i64_w]; done) | (simp [*]; unfold wrap64; omega)), H', ⟨by have := HK1.out; omega⟩, ⟨by (with_reducible repeat (first | apply Kd.R_alloc | apply Kd.R_drewN | apply Kd.R_drew)); exact Kd.R_mono (Kd.R_far (p := ⟨gb211, 4, none⟩) (Kd.R_far (p := ⟨gb211, 3, none⟩) (Kd.R_far (p := ⟨gb211, 2, none⟩) (Kd.R_far (p := ⟨gb211, 1, none⟩) (Kd.R_far (p := ⟨gb211, 0, none⟩) (Kd.R_mono HO_3.out (fun k_ hk => (⟨hk, hk.2⟩ : _ ∧ k_ ≠ gb211))) (fun _ hk => hk.2) (.int .i64 ((rd_T33 t204 x7_1).f0))) (fun _ hk => hk.2) (.int .i64 ((rd_T33 t204 x7_1).f1))) (fun _ hk => hk.2) (.string ((rd_T33 t204 x7_1).f2))) (fun _ hk => hk.2) (.int .i64 ((rd_T33 t204 x7_1).f3))) (fun _ hk => hk.2) (.int .i64 ((rd_T33 t204 x7_1).f4))) (fun _ hk => trivial)⟩, ⟨by repeat (first | (with_reducible first | exact HB.out | apply below_alloc | apply pw_below_drewN | apply below_drew1 | refine below_set ?_ GE211.out) | exact HB.out)⟩⟩
                                          · rw [if_neg c92] at H
                                            exact absurd H (by simp)
                                        · rw [if_neg c91] at H
                                          have c91b0 : (((rd_T33 t204 x7_1).f0) == 8) = false := beq_eq_false_iff_ne.mpr c91
                                          have c91b1 : (((rd_T33 t204 x7_1).f0) != 8) = true := bne_iff_ne.mpr c91
                                          by_cases c97 : ((rd_T33 t204 x7_1).f0) = 3
                                          · rw [if_pos c97] at H
                                            have c97b0 : (((rd_T33 t204 x7_1).f0) == 3) = true := beq_iff_eq.mpr c97
                                            have c97b1 : (((rd_T33 t204 x7_1).f0) != 3) = false := bne_eq_false_iff_eq.mpr c97
                                            clear c97
                                            by_cases c98 : (bt a0 ((rd_T33 t204 x7_1).f1)) = 115
                                            · rw [if_pos c98] at H
                                              have c98b0 : ((bt a0 ((rd_T33 t204 x7_1).f1)) == 115) = true := beq_iff_eq.mpr c98
                                              have c98b1 : ((bt a0 ((rd_T33 t204 x7_1).f1)) != 115) = false := bne_eq_false_iff_eq.mpr c98
                                              clear c98
                                              have H' := Aside0.mk H
                                              clear H
                                              obtain ⟨Ao99, co99, eo99⟩ := Kd.R_slice HO_3.out
                                              subst eo99
                                              have p210 : 0 ≤ (x7_1 : Int) := of_decide_eq_true (by first | (with_reducible assumption) | assumption)
                                              have q210 : x7_1 < (t204.length : Int) := of_decide_eq_true (by first | (with_reducible assumption) | assumption)
                                              obtain ⟨ad210, e210, hx210_0, hx210_1, hx210_2, hx210_3, hx210_4⟩ := at_T33 (Kd.R_reads' HO_3.out).2.2 x7_1 p210 q210
                                              cases e210
                                              replace p210 := eq_true p210
                                              replace q210 := eq_true q210
                                              go_wp2_with (first | ((with_reducible refine gate_dst (N := 8) rfl ?_); (try (refine gate_guard (by rfl) ?_; dsimp only)); refine box_event ?hg (N := 8) ?hd (cs := #[.int .i64 0, .int .i64 0, .string (⟨#[]⟩ : ByteArray), .int .i64 0, .int .i64 0]) (t := 33) ?hr ?_; (case hd => rfl); (case hg => rfl); (case hr => first | (go_simp; done) | (go_simp; rfl)); intro gb211 hg w100 hbox hb; have n0_ := Aside0.mk (Kd.R_below (Kd.R_elderB (by (with_reducible repeat (first | apply Kd.R_alloc | apply Kd.R_drewN | apply Kd.R_drew)); exact HO_3.out) gb211 (Nat.le_of_eq hg.symm)) hb); have n1_ := Aside0.mk (below_step (by repeat (first | (with_reducible first | exact HB.out | apply below_alloc | apply pw_below_drewN | apply below_drew1) | exact HB.out)) hb); have n2_ := Aside0.mk (hbox); have n3_ := Aside0.mk ((by rw [hg]; exact (below_size (by repeat (first | (with_reducible first | exact HB.out | apply below_alloc | apply pw_below_drewN | apply below_drew1) | exact HB.out))) : w.heap.size ≤ gb211)); have n4_ := Aside0.mk ((by rw [hg]; exact (below_size (by repeat (first | (with_reducible first | exact HB.out | apply below_alloc | apply pw_below_drewN | apply below_drew1) | exact HB.out))) : w.heap.size ≤ gb211)); clear HO_3; clear HB; have HO_3 := n0_; have HB := n1_; have BK211 := n2_; have GW211 := n3_; have GE211 := n4_; clear n0_ n1_ n2_ n3_ n4_; clear hb hbox hg; have hcz101_0 : w100.cell? ⟨gb211, 0, none⟩ = some (.int .i64 0) := (blk_cell BK211.out 0).trans rfl; have hcz101_1 : w100.cell? ⟨gb211, 1, none⟩ = some (.int .i64 0) := (blk_cell BK211.out 1).trans rfl; have hcz101_2 : w100.cell? ⟨gb211, 2, none⟩ = some (.string (⟨#[]⟩ : ByteArray)) := (blk_cell BK211.out 2).trans rfl; have hcz101_3 : w100.cell? ⟨gb211, 3, none⟩ = some (.int .i64 0) := (blk_cell BK211.out 3).trans rfl; have hcz101_4 : w100.cell? ⟨gb211, 4, none⟩ = some (.int .i64 0) := (blk_cell BK211.out 4).trans rfl; have hfz101_0 := blk_frozen BK211.out 0; have hfz101_1 := blk_frozen BK211.out 1; have hfz101_2 := blk_frozen BK211.out 2; have hfz101_3 := blk_frozen BK211.out 3; have hfz101_4 := blk_frozen BK211.out 4; have p17 : 0 ≤ (((rd_T33 t204 x7_1).f1) : Int) := of_decide_eq_true (by first | (with_reducible assumption) | assumption); have q17 : ((rd_T33 t204 x7_1).f1) < (a0.size : Int) := of_decide_eq_true (by first | (with_reducible assumption) | assumption); have hx17 := bt_at a0 ((rd_T33 t204 x7_1).f1); replace p17 := eq_true p17; replace q17 := eq_true q17))
                                              go_roundg k1
                                              case measure => have := HK1.out; omega
                                              case rel => exact ⟨((rd_T33 t204 x7_1).f1), (wrap64 (x7_1 + 1)), (by first | rfl | (simp; done) | (simp [i64_w]; done) | (simp [*]; done) | (simp [*, i64_w]; done) | (simp [*]; unfold wrap64; omega)), (by first | rfl | (simp; done) | (simp [i64_w]; done) | (simp [*]; done) | (simp [*, i64_w]; done) | (simp [*]; unfold wrap64; omega)), H', ⟨by have := HK1.out; omega⟩, ⟨by (with_reducible repeat (first | apply Kd.R_alloc | apply Kd.R_drewN | apply Kd.R_drew)); exact Kd.R_mono (Kd.R_far (p := ⟨gb211, 4, none⟩) (Kd.R_far (p := ⟨gb211, 3, none⟩) (Kd.R_far (p := ⟨gb211, 2, none⟩) (Kd.R_far (p := ⟨gb211, 1, none⟩) (Kd.R_far (p := ⟨gb211, 0, none⟩) (Kd.R_mono HO_3.out (fun k_ hk => (⟨hk, hk.2⟩ : _ ∧ k_ ≠ gb211))) (fun _ hk => hk.2) (.int .i64 ((rd_T33 t204 x7_1).f0))) (fun _ hk => hk.2) (.int .i64 ((rd_T33 t204 x7_1).f1))) (fun _ hk => hk.2) (.string ((rd_T33 t204 x7_1).f2))) (fun _ hk => hk.2) (.int .i64 ((rd_T33 t204 x7_1).f3))) (fun _ hk => hk.2) (.int .i64 ((rd_T33 t204 x7_1).f4))) (fun _ hk => trivial)⟩, ⟨by repeat (first | (with_reducible first | exact HB.out | apply below_alloc | apply pw_below_drewN | apply below_drew1 | refine below_set ?_ GE211.out) | exact HB.out)⟩⟩
                                            · rw [if_neg c98] at H
                                              exact absurd H (by simp)
                                          · rw [if_neg c97] at H
                                            have c97b0 : (((rd_T33 t204 x7_1).f0) == 3) = false := beq_eq_false_iff_ne.mpr c97
                                            have c97b1 : (((rd_T33 t204 x7_1).f0) != 3) = true := bne_iff_ne.mpr c97
                                            have H' := Aside0.mk H
                                            clear H
                                            obtain ⟨Ao102, co102, eo102⟩ := Kd.R_slice HO_3.out
                                            subst eo102
                                            have p210 : 0 ≤ (x7_1 : Int) := of_decide_eq_true (by first | (with_reducible assumption) | assumption)
                                            have q210 : x7_1 < (t204.length : Int) := of_decide_eq_true (by first | (with_reducible assumption) | assumption)
                                            obtain ⟨ad210, e210, hx210_0, hx210_1, hx210_2, hx210_3, hx210_4⟩ := at_T33 (Kd.R_reads' HO_3.out).2.2 x7_1 p210 q210
                                            cases e210
                                            replace p210 := eq_true p210
                                            replace q210 := eq_true q210
                                            go_wp2_with (first | ((with_reducible refine gate_dst (N := 8) rfl ?_); (try (refine gate_guard (by rfl) ?_; dsimp only)); refine box_event ?hg (N := 8) ?hd (cs := #[.int .i64 0, .int .i64 0, .string (⟨#[]⟩ : ByteArray), .int .i64 0, .int .i64 0]) (t := 33) ?hr ?_; (case hd => rfl); (case hg => rfl); (case hr => first | (go_simp; done) | (go_simp; rfl)); intro gb211 hg w103 hbox hb; have n0_ := Aside0.mk (Kd.R_below (Kd.R_elderB (by (with_reducible repeat (first | apply Kd.R_alloc | apply Kd.R_drewN | apply Kd.R_drew)); exact HO_3.out) gb211 (Nat.le_of_eq hg.symm)) hb); have n1_ := Aside0.mk (below_step (by repeat (first | (with_reducible first | exact HB.out | apply below_alloc | apply pw_below_drewN | apply below_drew1) | exact HB.out)) hb); have n2_ := Aside0.mk (hbox); have n3_ := Aside0.mk ((by rw [hg]; exact (below_size (by repeat (first | (with_reducible first | exact HB.out | apply below_alloc | apply pw_below_drewN | apply below_drew1) | exact HB.out))) : w.heap.size ≤ gb211)); have n4_ := Aside0.mk ((by rw [hg]; exact (below_size (by repeat (first | (with_reducible first | exact HB.out | apply below_alloc | apply pw_below_drewN | apply below_drew1) | exact HB.out))) : w.heap.size ≤ gb211)); clear HO_3; clear HB; have HO_3 := n0_; have HB := n1_; have BK211 := n2_; have GW211 := n3_; have GE211 := n4_; clear n0_ n1_ n2_ n3_ n4_; clear hb hbox hg; have hcz104_0 : w103.cell? ⟨gb211, 0, none⟩ = some (.int .i64 0) := (blk_cell BK211.out 0).trans rfl; have hcz104_1 : w103.cell? ⟨gb211, 1, none⟩ = some (.int .i64 0) := (blk_cell BK211.out 1).trans rfl; have hcz104_2 : w103.cell? ⟨gb211, 2, none⟩ = some (.string (⟨#[]⟩ : ByteArray)) := (blk_cell BK211.out 2).trans rfl; have hcz104_3 : w103.cell? ⟨gb211, 3, none⟩ = some (.int .i64 0) := (blk_cell BK211.out 3).trans rfl; have hcz104_4 : w103.cell? ⟨gb211, 4, none⟩ = some (.int .i64 0) := (blk_cell BK211.out 4).trans rfl; have hfz104_0 := blk_frozen BK211.out 0; have hfz104_1 := blk_frozen BK211.out 1; have hfz104_2 := blk_frozen BK211.out 2; have hfz104_3 := blk_frozen BK211.out 3; have hfz104_4 := blk_frozen BK211.out 4; have p17 : 0 ≤ (((rd_T33 t204 x7_1).f1) : Int) := of_decide_eq_true (by first | (with_reducible assumption) | assumption); have q17 : ((rd_T33 t204 x7_1).f1) < (a0.size : Int) := of_decide_eq_true (by first | (with_reducible assumption) | assumption); have hx17 := bt_at a0 ((rd_T33 t204 x7_1).f1); replace p17 := eq_true p17; replace q17 := eq_true q17))
                                            go_roundg k1
                                            case measure => have := HK1.out; omega
                                            case rel => exact ⟨((rd_T33 t204 x7_1).f1), (wrap64 (x7_1 + 1)), (by first | rfl | (simp; done) | (simp [i64_w]; done) | (simp [*]; done) | (simp [*, i64_w]; done) | (simp [*]; unfold wrap64; omega)), (by first | rfl | (simp; done) | (simp [i64_w]; done) | (simp [*]; done) | (simp [*, i64_w]; done) | (simp [*]; unfold wrap64; omega)), H', ⟨by have := HK1.out; omega⟩, ⟨by (with_reducible repeat (first | apply Kd.R_alloc | apply Kd.R_drewN | apply Kd.R_drew)); exact Kd.R_mono (Kd.R_far (p := ⟨gb211, 4, none⟩) (Kd.R_far (p := ⟨gb211, 3, none⟩) (Kd.R_far (p := ⟨gb211, 2, none⟩) (Kd.R_far (p := ⟨gb211, 1, none⟩) (Kd.R_far (p := ⟨gb211, 0, none⟩) (Kd.R_mono HO_3.out (fun k_ hk => (⟨hk, hk.2⟩ : _ ∧ k_ ≠ gb211))) (fun _ hk => hk.2) (.int .i64 ((rd_T33 t204 x7_1).f0))) (fun _ hk => hk.2) (.int .i64 ((rd_T33 t204 x7_1).f1))) (fun _ hk => hk.2) (.string ((rd_T33 t204 x7_1).f2))) (fun _ hk => hk.2) (.int .i64 ((rd_T33 t204 x7_1).f3))) (fun _ hk => hk.2) (.int .i64 ((rd_T33 t204 x7_1).f4))) (fun _ hk => trivial)⟩, ⟨by repeat (first | (with_reducible first | exact HB.out | apply below_alloc | apply pw_below_drewN | apply below_drew1 | refine below_set ?_ GE211.out) | exact HB.out)⟩⟩
                        · rw [if_neg c16] at H
                          exact absurd H (by simp)
                      · rw [if_neg c15] at H
                        exact absurd H (by simp)
            · rw [if_neg c10] at H
              exact absurd H (by simp)
          · rw [if_neg c9] at H
            have c9b0 : decide (x7_1 < (t204.length : Int)) = false := decide_eq_false c9
            clear c9
            obtain rfl := Option.some.inj H
            obtain ⟨Ao105, co105, eo105⟩ := Kd.R_slice HO_3.out
            subst eo105
            go_wp2
            go_ret
            exact ⟨by first | rfl | (simp [errW_none, errW_some] <;> rfl) | (simp [*, errW_none, errW_some] <;> rfl), by repeat (first | (with_reducible first | exact HB.out | apply below_alloc | apply pw_below_drewN | apply below_drew1) | exact HB.out)⟩
    · rw [if_neg c6] at H
      have c6b0 : (t209 == 0) = false := beq_eq_false_iff_ne.mpr c6
      have c6b1 : (t209 != 0) = true := bne_iff_ne.mpr c6
      obtain rfl := Option.some.inj H
      go_enter Try.func8, Try.ntmps8
      try simp only [List.append]
      go_wp2_with (first | ((with_reducible refine gate_callee (f := 14) rfl ?_); refine goesL_ (some 10) rfl rfl Try.func14 (by kernel_rfl) rfl #[] rfl (by (try simp only [List.map_toArray, List.map_cons, List.map_nil]); first | done | rfl | (simp only [List.length_drop, List.length_take]; rfl)) ?_; (with_reducible refine (templelaw2_awake.calls k  true _ A2.out).mono ?_); rintro e w106 ⟨rfl, hb⟩; refine ⟨_, rfl, ?_⟩; have n0_ := Aside0.mk (below_step (by repeat (first | (with_reducible first | exact HB.out | apply below_alloc | apply pw_below_drewN | apply below_drew1) | exact HB.out)) hb); clear HB; have HB := n0_; clear n0_; (try clear hb); (try clear hb2); (try clear hk); (try clear hi)) | ((with_reducible refine gate_callee (f := 10) rfl ?_); refine goesL_ (some 14) rfl rfl Try.func10 (by kernel_rfl) rfl #[.string a0] rfl (by (try simp only [List.map_toArray, List.map_cons, List.map_nil]); first | done | rfl | (simp only [List.length_drop, List.length_take]; rfl)) ?_; (with_reducible refine (lex_Lex.calls k a0 t204 t205 t206 _ A4.out).mono ?_); rintro e w107 ⟨v207, rfl, ho0, hb⟩; refine ⟨_, rfl, ?_⟩; have n0_ := Aside0.mk (Kd.R_lower ho0 (below_size (by repeat (first | (with_reducible first | exact HB.out | apply below_alloc | apply pw_below_drewN | apply below_drew1) | exact HB.out)))); have n1_ := Aside0.mk (below_step (by repeat (first | (with_reducible first | exact HB.out | apply below_alloc | apply pw_below_drewN | apply below_drew1) | exact HB.out)) hb); clear HB; have HO208 := n0_; have HB := n1_; clear n0_ n1_; (try clear hb); (try clear hb2); (try clear hk); (try clear hi); (try clear ho0)) | ((with_reducible refine gate_callee (f := 13) rfl ?_); refine goesL_ (some 19) rfl rfl Try.func13 (by kernel_rfl) rfl #[.int .i64 t206] rfl (by (try simp only [List.map_toArray, List.map_cons, List.map_nil]); first | done | rfl | (simp only [List.length_drop, List.length_take]; rfl)) ?_; (with_reducible refine (templelaw0_Num.calls t206 t209 _ A5.out).mono ?_); rintro e w' ⟨rfl, ⟨nd, rfl⟩⟩; refine ⟨_, rfl, ?_⟩; obtain ⟨Ao108, co108, eo108⟩ := Kd.R_slice HO208.out; subst eo108))
      go_ret
      exact ⟨by first | rfl | (simp [errW_none, errW_some] <;> rfl) | (simp [*, errW_none, errW_some] <;> rfl), by repeat (first | (with_reducible first | exact HB.out | apply below_alloc | apply pw_below_drewN | apply below_drew1) | exact HB.out)⟩
  · replace c3 := Bool.eq_false_iff.mpr c3
    subst c3
    have H1 : (none) = some r := by rw [if_neg (show ¬ (false = true) by decide)] at H; exact H
    clear H
    have H := H1
    clear H1
    exact absurd H (by simp)

/-- THE ONE PURE STATEMENT of templelaw2_LexPlaces: yours. -/
def templelaw2_LexPlaces.Pure : Prop := ∀ (a0 : ByteArray), a0.size ≤ 140737488351232 → ∃ k, templelaw2_LexPlaces.f k a0 = some true
theorem templelaw2_LexPlaces.walk (P : templelaw2_LexPlaces.Pure) (a0 : ByteArray) (w : World) (w0 : a0.size ≤ 140737488351232) :
    Calls Try.prog 8 #[.string a0] w fun e w' => e = .returned (.bool true) ∧ Below w.heap.size w w' := by
  obtain ⟨k, h⟩ := P a0 w0
  refine (templelaw2_LexPlaces.calls k a0 true w h).mono ?_
  rintro e w' ⟨rfl, hd⟩
  exact ⟨rfl, hd⟩

end Go.Proofs.Ytjjccngjcamgjaa.PLD
