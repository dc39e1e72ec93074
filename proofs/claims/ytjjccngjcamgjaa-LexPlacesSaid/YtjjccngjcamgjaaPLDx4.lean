-- written by a program of the session's (wip/myprint.py) out of the translation
import Derived.Test.YtjjccngjcamgjaaPLDx0
import Derived.Test.YtjjccngjcamgjaaPLDx1
import Derived.Test.YtjjccngjcamgjaaPLDx3
namespace Go.Proofs.Ytjjccngjcamgjaa.PLD
open Go.RowKit Go.Proofs.YtjjccngjcamgjaaW.PrintWords Go.Proofs.YtjjccngjcamgjaaW.PrintLast Go.Proofs.YtjjccngjcamgjaaW.PrintMore
attribute [local go_sem] max2_int min2_int max_two min_two max_three min_three max_four min_four   -- for this text's walks alone
set_option linter.unusedVariables false
set_option linter.unusedSimpArgs false

attribute [local go_sem high] eqA33
/-! ### templelaw0_SameTokens: function 12 -/
def templelaw0_SameTokens.l0 : Nat → List (S33) → List (S33) → Int → Option (Bool)
  | 0, _, _, _ => none
  | k + 1, x0, x1, x5 => if x5 < (x0.length : Int) then (if 0 ≤ x5 then (if x5 < (x1.length : Int) then (if (!(((rd_T33 x0 x5).f0) == ((rd_T33 x1 x5).f0)) || (!(((rd_T33 x0 x5).f1) == ((rd_T33 x1 x5).f1)) || (!((((rd_T33 x0 x5).f2).toList) == (((rd_T33 x1 x5).f2).toList)) || (!(((rd_T33 x0 x5).f3) == ((rd_T33 x1 x5).f3)) || (!(((rd_T33 x0 x5).f4) == ((rd_T33 x1 x5).f4))))))) = true then (some false) else (templelaw0_SameTokens.l0 k x0 x1 (wrap64 (x5 + 1)))) else (none)) else (none)) else (some true)
def templelaw0_SameTokens.f (k : Nat) (l0 : List (S33)) (l1 : List (S33)) : Option (Bool) := if (l0.length : Int) = (l1.length : Int) then (templelaw0_SameTokens.l0 k l0 l1 0) else (some false)
theorem templelaw0_SameTokens.mono_l : ∀ k, (∀ y0 y1 y2, LeO (templelaw0_SameTokens.l0 k y0 y1 y2) (templelaw0_SameTokens.l0 (k + 1) y0 y1 y2))
  | 0 => fun _ _ _ r h => by simp [templelaw0_SameTokens.l0] at h
  | k + 1 => by
    have ih0 := templelaw0_SameTokens.mono_l k
    · intro y0 y1 y2
      unfold templelaw0_SameTokens.l0
      repeat' first
      | (with_reducible exact ih0 _ _ _)
      | (with_reducible exact LeO.refl _)
      | (with_reducible exact LeO.none _)
      | (with_reducible refine LeO.ite ?_ ?_)
      | (with_reducible refine LeO.bind ?_ (fun _ => ?_))
      | exact ih0 _ _ _
      | exact LeO.none _
      | refine LeO.ite ?_ ?_
      | refine LeO.bind ?_ (fun _ => ?_)
theorem templelaw0_SameTokens.mono : ∀ a0 a1 k, LeO (templelaw0_SameTokens.f k a0 a1) (templelaw0_SameTokens.f (k + 1) a0 a1) := by
  intro a0 a1 k
  have ih0 := templelaw0_SameTokens.mono_l k
  unfold templelaw0_SameTokens.f
  repeat' first
      | (with_reducible exact ih0 _ _ _)
      | (with_reducible exact LeO.refl _)
      | (with_reducible exact LeO.none _)
      | (with_reducible refine LeO.ite ?_ ?_)
      | (with_reducible refine LeO.bind ?_ (fun _ => ?_))
      | exact ih0 _ _ _
      | exact LeO.none _
      | refine LeO.ite ?_ ?_
      | refine LeO.bind ?_ (fun _ => ?_)
set_option maxHeartbeats 8000000 in
set_option maxRecDepth 100000 in
theorem templelaw0_SameTokens.calls (k : Nat) (A0 : Option Addr) (c0 : Nat) (l0 : List (S33)) (A1 : Option Addr) (c1 : Nat) (l1 : List (S33)) (r : Bool) (w : World) (hr0 : Kd.C k33 w A0 l0.length l0) (hc0 : l0.length ≤ c0) (hr1 : Kd.C k33 w A1 l1.length l1) (hc1 : l1.length ≤ c1) (h : templelaw0_SameTokens.f k l0 l1 = some r) :
    Calls Try.prog 12 #[.slice A0 l0.length c0, .slice A1 l1.length c1] w fun e w' => e = .returned (.bool r) ∧ Drawn0 w w' := by
  have hu33 := Try.underlying33
  have HR0 := Aside0.mk hr0
  have HC0 := Aside0.mk hc0
  clear hr0 hc0
  have HR1 := Aside0.mk hr1
  have HC1 := Aside0.mk hc1
  clear hr1 hc1
  have H : (if (l0.length : Int) = (l1.length : Int) then (templelaw0_SameTokens.l0 k l0 l1 0) else (some false)) = some r := h
  clear h
  by_cases c3 : (l0.length : Int) = (l1.length : Int)
  · rw [if_pos c3] at H
    have c3b0 : ((l0.length : Int) == (l1.length : Int)) = true := beq_iff_eq.mpr c3
    have c3b1 : ((l0.length : Int) != (l1.length : Int)) = false := bne_eq_false_iff_eq.mpr c3
    have c3b2 : (l0.length == l1.length) = true := by first | simpa using c3 | (simp at c3 ⊢; omega)
    clear c3
    have H' := Aside0.mk H
    clear H
    go_enter Try.func12, Try.ntmps12
    go_wp2
    repeat (go_quiet (fail); try go_wp2)
    go_loopg [5] k (fun kq v5 w' => ∃ (x5_1 : Int), v5 = .int .i64 x5_1 ∧ Aside0 (templelaw0_SameTokens.l0 kq l0 l1 x5_1 = some r) ∧ Aside0 (kq ≤ k) ∧ Drawn0 w w')
    case atStart => exact ⟨(0), (by first | rfl | (simp; done) | (simp [i64_w]; done) | (simp [*]; done) | (simp [*, i64_w]; done) | (simp [*]; unfold wrap64; omega)), H', ⟨Nat.le_refl _⟩, by repeat (first | exact Drawn0.refl _ | apply Drawn0.step)⟩
    case round =>
      clear H'
      try clear c1
      try clear p2
      try clear c3
      try clear c3b0
      try clear c3b1
      try clear c3b2
      obtain ⟨x5_1, rfl, HA, HK1, ⟨m1, rfl⟩⟩ := hrel
      cases gk with
      | zero => exact absurd HA.out (by simp [templelaw0_SameTokens.l0])
      | succ k1 =>
        have H := HA.out
        clear HA
        simp only [templelaw0_SameTokens.l0] at H
        by_cases c4 : x5_1 < (l0.length : Int)
        · rw [if_pos c4] at H
          have c4b0 : decide (x5_1 < (l0.length : Int)) = true := decide_eq_true c4
          clear c4
          by_cases c5 : 0 ≤ x5_1
          · rw [if_pos c5] at H
            have c5b0 : decide (0 ≤ x5_1) = true := decide_eq_true c5
            clear c5
            by_cases c6 : x5_1 < (l1.length : Int)
            · rw [if_pos c6] at H
              have c6b0 : decide (x5_1 < (l1.length : Int)) = true := decide_eq_true c6
              clear c6
              by_cases c7 : (!(((rd_T33 l0 x5_1).f0) == ((rd_T33 l1 x5_1).f0)) || (!(((rd_T33 l0 x5_1).f1) == ((rd_T33 l1 x5_1).f1)) || (!((((rd_T33 l0 x5_1).f2).toList) == (((rd_T33 l1 x5_1).f2).toList)) || (!(((rd_T33 l0 x5_1).f3) == ((rd_T33 l1 x5_1).f3)) || (!(((rd_T33 l0 x5_1).f4) == ((rd_T33 l1 x5_1).f4))))))) = true
              · rw [if_pos c7] at H
                have c7b0 : (!(((rd_T33 l0 x5_1).f0) == ((rd_T33 l1 x5_1).f0)) || (!(((rd_T33 l0 x5_1).f1) == ((rd_T33 l1 x5_1).f1)) || (!((((rd_T33 l0 x5_1).f2).toList) == (((rd_T33 l1 x5_1).f2).toList)) || (!(((rd_T33 l0 x5_1).f3) == ((rd_T33 l1 x5_1).f3)) || (!(((rd_T33 l0 x5_1).f4) == ((rd_T33 l1 x5_1).f4))))))) = true := c7
                clear c7
                obtain rfl := Option.some.inj H
                have p179 : 0 ≤ (x5_1 : Int) := of_decide_eq_true (by first | (with_reducible assumption) | assumption)
                have q179 : x5_1 < (l0.length : Int) := of_decide_eq_true (by first | (with_reducible assumption) | assumption)
                obtain ⟨ad179, e179, hx179_0, hx179_1, hx179_2, hx179_3, hx179_4⟩ := at_T33 HR0.out x5_1 p179 q179
                cases e179
                replace p179 := eq_true p179
                replace q179 := eq_true q179
                have p180 : 0 ≤ (x5_1 : Int) := of_decide_eq_true (by first | (with_reducible assumption) | assumption)
                have q180 : x5_1 < (l1.length : Int) := of_decide_eq_true (by first | (with_reducible assumption) | assumption)
                obtain ⟨ad180, e180, hx180_0, hx180_1, hx180_2, hx180_3, hx180_4⟩ := at_T33 HR1.out x5_1 p180 q180
                cases e180
                replace p180 := eq_true p180
                replace q180 := eq_true q180
                go_wp2
                repeat (go_quiet (fail); try go_wp2)
                go_ret
                exact ⟨by first | rfl | (simp; done) | (simp [*]; done), by repeat (first | exact Drawn0.refl _ | apply Drawn0.step)⟩
              · rw [if_neg c7] at H
                have c7b0 : (!(((rd_T33 l0 x5_1).f0) == ((rd_T33 l1 x5_1).f0)) || (!(((rd_T33 l0 x5_1).f1) == ((rd_T33 l1 x5_1).f1)) || (!((((rd_T33 l0 x5_1).f2).toList) == (((rd_T33 l1 x5_1).f2).toList)) || (!(((rd_T33 l0 x5_1).f3) == ((rd_T33 l1 x5_1).f3)) || (!(((rd_T33 l0 x5_1).f4) == ((rd_T33 l1 x5_1).f4))))))) = false := by simpa using c7
                clear c7
                have H' := Aside0.mk H
                clear H
                have p179 : 0 ≤ (x5_1 : Int) := of_decide_eq_true (by first | (with_reducible assumption) | assumption)
                have q179 : x5_1 < (l0.length : Int) := of_decide_eq_true (by first | (with_reducible assumption) | assumption)
                obtain ⟨ad179, e179, hx179_0, hx179_1, hx179_2, hx179_3, hx179_4⟩ := at_T33 HR0.out x5_1 p179 q179
                cases e179
                replace p179 := eq_true p179
                replace q179 := eq_true q179
                have p180 : 0 ≤ (x5_1 : Int) := of_decide_eq_true (by first | (with_reducible assumption) | assumption)
                have q180 : x5_1 < (l1.length : Int) := of_decide_eq_true (by first | (with_reducible assumption) | assumption)
                obtain ⟨ad180, e180, hx180_0, hx180_1, hx180_2, hx180_3, hx180_4⟩ := at_T33 HR1.out x5_1 p180 q180
                cases e180
                replace p180 := eq_true p180
                replace q180 := eq_true q180
                go_wp2
                repeat (go_quiet (fail); try go_wp2)
                go_roundg k1
                case measure => have := HK1.out; omega
                case rel => exact ⟨(wrap64 (x5_1 + 1)), (by first | rfl | (simp; done) | (simp [i64_w]; done) | (simp [*]; done) | (simp [*, i64_w]; done) | (simp [*]; unfold wrap64; omega)), H', ⟨by have := HK1.out; omega⟩, by repeat (first | exact Drawn0.refl _ | apply Drawn0.step)⟩
            · rw [if_neg c6] at H
              exact absurd H (by simp)
          · rw [if_neg c5] at H
            exact absurd H (by simp)
        · rw [if_neg c4] at H
          have c4b0 : decide (x5_1 < (l0.length : Int)) = false := decide_eq_false c4
          clear c4
          obtain rfl := Option.some.inj H
          go_wp2
          repeat (go_quiet (fail); try go_wp2)
          go_ret
          exact ⟨by first | rfl | (simp; done) | (simp [*]; done), by repeat (first | exact Drawn0.refl _ | apply Drawn0.step)⟩
  · rw [if_neg c3] at H
    have c3b0 : ((l0.length : Int) == (l1.length : Int)) = false := beq_eq_false_iff_ne.mpr c3
    have c3b1 : ((l0.length : Int) != (l1.length : Int)) = true := bne_iff_ne.mpr c3
    have c3b2 : (l0.length == l1.length) = false := by first | simpa using c3 | (simp at c3 ⊢; omega)
    obtain rfl := Option.some.inj H
    go_enter Try.func12, Try.ntmps12
    go_wp2
    repeat (go_quiet (fail); try go_wp2)
    go_ret
    exact ⟨by first | rfl | (simp; done) | (simp [*]; done), by repeat (first | exact Drawn0.refl _ | apply Drawn0.step)⟩

/-! ### templelaw2_awake: function 14 -/
def templelaw2_awake.f (k : Nat)  : Option (Bool) := (lex_Lex.f k (⟨#[115, 116, 97, 114, 116, 32, 65, 98, 95, 49, 59, 32, 35, 32, 120, 10, 61, 32, 34, 97, 92, 120, 48, 97, 92, 34, 34, 32, 39, 97, 39, 46, 46, 39, 92, 39, 39, 32, 39, 98, 39, 32, 38, 32, 124, 32, 126]⟩ : ByteArray)).bind fun bt181 => ((lex_Lex.f k (⟨#[97, 32, 36]⟩ : ByteArray)).bind fun bt186 => ((lex_Lex.f k (⟨#[97, 32, 34, 98]⟩ : ByteArray)).bind fun bt191 => ((templelaw0_SameTokens.f k bt181.1 (([(⟨3, 0, (⟨#[]⟩ : ByteArray), 0, 0⟩ : S33), (⟨0, 6, (⟨#[65, 98, 95, 49]⟩ : ByteArray), 0, 0⟩ : S33), (⟨8, 10, (⟨#[]⟩ : ByteArray), 0, 0⟩ : S33), (⟨4, 16, (⟨#[]⟩ : ByteArray), 0, 0⟩ : S33), (⟨1, 18, (⟨#[97, 10, 34]⟩ : ByteArray), 0, 0⟩ : S33), (⟨2, 28, (⟨#[]⟩ : ByteArray), 97, 39⟩ : S33), (⟨2, 38, (⟨#[]⟩ : ByteArray), 98, 98⟩ : S33), (⟨6, 42, (⟨#[]⟩ : ByteArray), 0, 0⟩ : S33), (⟨5, 44, (⟨#[]⟩ : ByteArray), 0, 0⟩ : S33), (⟨7, 46, (⟨#[]⟩ : ByteArray), 0, 0⟩ : S33)] : List (S33)))).bind fun t199 => (if t199 = true then (if bt181.2.1 = 0 then ((templelaw0_Num.f bt181.2.2).bind fun t200 => (if t200 = 0 then (if bt186.2.1 = 2 then ((templelaw0_Num.f bt186.2.2).bind fun t201 => (if t201 = 200 then (if bt191.2.1 = 2 then ((templelaw0_Num.f bt191.2.2).bind fun t202 => (some (t202 == 201))) else (none)) else (none))) else (none)) else (none))) else (none)) else (none)))))
theorem templelaw2_awake.mono : ∀ k, LeO (templelaw2_awake.f k ) (templelaw2_awake.f (k + 1) ) := by
  intro  k
  unfold templelaw2_awake.f
  repeat' first
      | (with_reducible exact lex_Lex.mono _ _)
      | (with_reducible exact templelaw0_SameTokens.mono _ _ _)
      | (with_reducible exact LeO.refl _)
      | (with_reducible exact LeO.none _)
      | (with_reducible refine LeO.ite ?_ ?_)
      | (with_reducible refine LeO.bind ?_ (fun _ => ?_))
      | exact lex_Lex.mono _ _
      | exact templelaw0_SameTokens.mono _ _ _
      | exact LeO.none _
      | refine LeO.ite ?_ ?_
      | refine LeO.bind ?_ (fun _ => ?_)
set_option maxHeartbeats 8000000 in
set_option maxRecDepth 100000 in
theorem templelaw2_awake.calls (k : Nat)  (r : Bool) (w : World) (h : templelaw2_awake.f k  = some r) :
    Calls Try.prog 14 #[] w fun e w' => e = .returned (.bool r) ∧ Below w.heap.size w w' := by
  have hu33 := Try.underlying33
  have HB := Aside0.mk (Below.refl w.heap.size w)
  have H : ((lex_Lex.f k (⟨#[115, 116, 97, 114, 116, 32, 65, 98, 95, 49, 59, 32, 35, 32, 120, 10, 61, 32, 34, 97, 92, 120, 48, 97, 92, 34, 34, 32, 39, 97, 39, 46, 46, 39, 92, 39, 39, 32, 39, 98, 39, 32, 38, 32, 124, 32, 126]⟩ : ByteArray)).bind fun bt181 => ((lex_Lex.f k (⟨#[97, 32, 36]⟩ : ByteArray)).bind fun bt186 => ((lex_Lex.f k (⟨#[97, 32, 34, 98]⟩ : ByteArray)).bind fun bt191 => ((templelaw0_SameTokens.f k bt181.1 (([(⟨3, 0, (⟨#[]⟩ : ByteArray), 0, 0⟩ : S33), (⟨0, 6, (⟨#[65, 98, 95, 49]⟩ : ByteArray), 0, 0⟩ : S33), (⟨8, 10, (⟨#[]⟩ : ByteArray), 0, 0⟩ : S33), (⟨4, 16, (⟨#[]⟩ : ByteArray), 0, 0⟩ : S33), (⟨1, 18, (⟨#[97, 10, 34]⟩ : ByteArray), 0, 0⟩ : S33), (⟨2, 28, (⟨#[]⟩ : ByteArray), 97, 39⟩ : S33), (⟨2, 38, (⟨#[]⟩ : ByteArray), 98, 98⟩ : S33), (⟨6, 42, (⟨#[]⟩ : ByteArray), 0, 0⟩ : S33), (⟨5, 44, (⟨#[]⟩ : ByteArray), 0, 0⟩ : S33), (⟨7, 46, (⟨#[]⟩ : ByteArray), 0, 0⟩ : S33)] : List (S33)))).bind fun t199 => (if t199 = true then (if bt181.2.1 = 0 then ((templelaw0_Num.f bt181.2.2).bind fun t200 => (if t200 = 0 then (if bt186.2.1 = 2 then ((templelaw0_Num.f bt186.2.2).bind fun t201 => (if t201 = 200 then (if bt191.2.1 = 2 then ((templelaw0_Num.f bt191.2.2).bind fun t202 => (some (t202 == 201))) else (none)) else (none))) else (none)) else (none))) else (none)) else (none)))))) = some r := h
  clear h
  replace H := Option.bind_eq_some_iff.mp H
  obtain ⟨⟨t181, t182, t183⟩, A10, H⟩ := H
  replace H : ((lex_Lex.f k (⟨#[97, 32, 36]⟩ : ByteArray)).bind fun bt186 => ((lex_Lex.f k (⟨#[97, 32, 34, 98]⟩ : ByteArray)).bind fun bt191 => ((templelaw0_SameTokens.f k t181 (([(⟨3, 0, (⟨#[]⟩ : ByteArray), 0, 0⟩ : S33), (⟨0, 6, (⟨#[65, 98, 95, 49]⟩ : ByteArray), 0, 0⟩ : S33), (⟨8, 10, (⟨#[]⟩ : ByteArray), 0, 0⟩ : S33), (⟨4, 16, (⟨#[]⟩ : ByteArray), 0, 0⟩ : S33), (⟨1, 18, (⟨#[97, 10, 34]⟩ : ByteArray), 0, 0⟩ : S33), (⟨2, 28, (⟨#[]⟩ : ByteArray), 97, 39⟩ : S33), (⟨2, 38, (⟨#[]⟩ : ByteArray), 98, 98⟩ : S33), (⟨6, 42, (⟨#[]⟩ : ByteArray), 0, 0⟩ : S33), (⟨5, 44, (⟨#[]⟩ : ByteArray), 0, 0⟩ : S33), (⟨7, 46, (⟨#[]⟩ : ByteArray), 0, 0⟩ : S33)] : List (S33)))).bind fun t199 => (if t199 = true then (if t182 = 0 then ((templelaw0_Num.f t183).bind fun t200 => (if t200 = 0 then (if bt186.2.1 = 2 then ((templelaw0_Num.f bt186.2.2).bind fun t201 => (if t201 = 200 then (if bt191.2.1 = 2 then ((templelaw0_Num.f bt191.2.2).bind fun t202 => (some (t202 == 201))) else (none)) else (none))) else (none)) else (none))) else (none)) else (none))))) = some r := H
  have A1 := Aside0.mk A10
  clear A10
  replace H := Option.bind_eq_some_iff.mp H
  obtain ⟨⟨t186, t187, t188⟩, A20, H⟩ := H
  replace H : ((lex_Lex.f k (⟨#[97, 32, 34, 98]⟩ : ByteArray)).bind fun bt191 => ((templelaw0_SameTokens.f k t181 (([(⟨3, 0, (⟨#[]⟩ : ByteArray), 0, 0⟩ : S33), (⟨0, 6, (⟨#[65, 98, 95, 49]⟩ : ByteArray), 0, 0⟩ : S33), (⟨8, 10, (⟨#[]⟩ : ByteArray), 0, 0⟩ : S33), (⟨4, 16, (⟨#[]⟩ : ByteArray), 0, 0⟩ : S33), (⟨1, 18, (⟨#[97, 10, 34]⟩ : ByteArray), 0, 0⟩ : S33), (⟨2, 28, (⟨#[]⟩ : ByteArray), 97, 39⟩ : S33), (⟨2, 38, (⟨#[]⟩ : ByteArray), 98, 98⟩ : S33), (⟨6, 42, (⟨#[]⟩ : ByteArray), 0, 0⟩ : S33), (⟨5, 44, (⟨#[]⟩ : ByteArray), 0, 0⟩ : S33), (⟨7, 46, (⟨#[]⟩ : ByteArray), 0, 0⟩ : S33)] : List (S33)))).bind fun t199 => (if t199 = true then (if t182 = 0 then ((templelaw0_Num.f t183).bind fun t200 => (if t200 = 0 then (if t187 = 2 then ((templelaw0_Num.f t188).bind fun t201 => (if t201 = 200 then (if bt191.2.1 = 2 then ((templelaw0_Num.f bt191.2.2).bind fun t202 => (some (t202 == 201))) else (none)) else (none))) else (none)) else (none))) else (none)) else (none)))) = some r := H
  have A2 := Aside0.mk A20
  clear A20
  replace H := Option.bind_eq_some_iff.mp H
  obtain ⟨⟨t191, t192, t193⟩, A30, H⟩ := H
  replace H : ((templelaw0_SameTokens.f k t181 (([(⟨3, 0, (⟨#[]⟩ : ByteArray), 0, 0⟩ : S33), (⟨0, 6, (⟨#[65, 98, 95, 49]⟩ : ByteArray), 0, 0⟩ : S33), (⟨8, 10, (⟨#[]⟩ : ByteArray), 0, 0⟩ : S33), (⟨4, 16, (⟨#[]⟩ : ByteArray), 0, 0⟩ : S33), (⟨1, 18, (⟨#[97, 10, 34]⟩ : ByteArray), 0, 0⟩ : S33), (⟨2, 28, (⟨#[]⟩ : ByteArray), 97, 39⟩ : S33), (⟨2, 38, (⟨#[]⟩ : ByteArray), 98, 98⟩ : S33), (⟨6, 42, (⟨#[]⟩ : ByteArray), 0, 0⟩ : S33), (⟨5, 44, (⟨#[]⟩ : ByteArray), 0, 0⟩ : S33), (⟨7, 46, (⟨#[]⟩ : ByteArray), 0, 0⟩ : S33)] : List (S33)))).bind fun t199 => (if t199 = true then (if t182 = 0 then ((templelaw0_Num.f t183).bind fun t200 => (if t200 = 0 then (if t187 = 2 then ((templelaw0_Num.f t188).bind fun t201 => (if t201 = 200 then (if t192 = 2 then ((templelaw0_Num.f t193).bind fun t202 => (some (t202 == 201))) else (none)) else (none))) else (none)) else (none))) else (none)) else (none))) = some r := H
  have A3 := Aside0.mk A30
  clear A30
  obtain ⟨y196, hy196⟩ : ∃ y_ : List (S33), y_ = (([(⟨3, 0, (⟨#[]⟩ : ByteArray), 0, 0⟩ : S33), (⟨0, 6, (⟨#[65, 98, 95, 49]⟩ : ByteArray), 0, 0⟩ : S33), (⟨8, 10, (⟨#[]⟩ : ByteArray), 0, 0⟩ : S33), (⟨4, 16, (⟨#[]⟩ : ByteArray), 0, 0⟩ : S33), (⟨1, 18, (⟨#[97, 10, 34]⟩ : ByteArray), 0, 0⟩ : S33), (⟨2, 28, (⟨#[]⟩ : ByteArray), 97, 39⟩ : S33), (⟨2, 38, (⟨#[]⟩ : ByteArray), 98, 98⟩ : S33), (⟨6, 42, (⟨#[]⟩ : ByteArray), 0, 0⟩ : S33), (⟨5, 44, (⟨#[]⟩ : ByteArray), 0, 0⟩ : S33), (⟨7, 46, (⟨#[]⟩ : ByteArray), 0, 0⟩ : S33)] : List (S33))) := ⟨_, rfl⟩
  replace H : ((templelaw0_SameTokens.f k t181 y196).bind fun t199 => (if t199 = true then (if t182 = 0 then ((templelaw0_Num.f t183).bind fun t200 => (if t200 = 0 then (if t187 = 2 then ((templelaw0_Num.f t188).bind fun t201 => (if t201 = 200 then (if t192 = 2 then ((templelaw0_Num.f t193).bind fun t202 => (some (t202 == 201))) else (none)) else (none))) else (none)) else (none))) else (none)) else (none))) = some r := by first | (rw [hy196]; with_reducible exact H) | (have H2_ := (Option.bind_some _ _).symm.trans H; rw [hy196]; with_reducible exact H2_) | (have H2_ := (Option.bind_some _ _).symm.trans H; with_reducible exact H2_) | with_reducible exact H | (rw [hy196]; exact H) | exact H
  have Ny196 := Aside0.mk hy196
  clear hy196
  replace H := Option.bind_eq_some_iff.mp H
  obtain ⟨t199, A40, H⟩ := H
  replace H : (if t199 = true then (if t182 = 0 then ((templelaw0_Num.f t183).bind fun t200 => (if t200 = 0 then (if t187 = 2 then ((templelaw0_Num.f t188).bind fun t201 => (if t201 = 200 then (if t192 = 2 then ((templelaw0_Num.f t193).bind fun t202 => (some (t202 == 201))) else (none)) else (none))) else (none)) else (none))) else (none)) else (none)) = some r := H
  have A4 := Aside0.mk A40
  clear A40
  by_cases c5 : t199 = true
  · subst c5
    have H1 : (if t182 = 0 then ((templelaw0_Num.f t183).bind fun t200 => (if t200 = 0 then (if t187 = 2 then ((templelaw0_Num.f t188).bind fun t201 => (if t201 = 200 then (if t192 = 2 then ((templelaw0_Num.f t193).bind fun t202 => (some (t202 == 201))) else (none)) else (none))) else (none)) else (none))) else (none)) = some r := by rw [if_pos rfl] at H; exact H
    clear H
    have H := H1
    clear H1
    by_cases c6 : t182 = 0
    · rw [if_pos c6] at H
      have c6b0 : (t182 == 0) = true := beq_iff_eq.mpr c6
      have c6b1 : (t182 != 0) = false := bne_eq_false_iff_eq.mpr c6
      clear c6
      replace H := Option.bind_eq_some_iff.mp H
      obtain ⟨t200, A70, H⟩ := H
      replace H : (if t200 = 0 then (if t187 = 2 then ((templelaw0_Num.f t188).bind fun t201 => (if t201 = 200 then (if t192 = 2 then ((templelaw0_Num.f t193).bind fun t202 => (some (t202 == 201))) else (none)) else (none))) else (none)) else (none)) = some r := H
      have A7 := Aside0.mk A70
      clear A70
      by_cases c8 : t200 = 0
      · rw [if_pos c8] at H
        have c8b0 : (t200 == 0) = true := beq_iff_eq.mpr c8
        have c8b1 : (t200 != 0) = false := bne_eq_false_iff_eq.mpr c8
        clear c8
        by_cases c9 : t187 = 2
        · rw [if_pos c9] at H
          have c9b0 : (t187 == 2) = true := beq_iff_eq.mpr c9
          have c9b1 : (t187 != 2) = false := bne_eq_false_iff_eq.mpr c9
          clear c9
          replace H := Option.bind_eq_some_iff.mp H
          obtain ⟨t201, A100, H⟩ := H
          replace H : (if t201 = 200 then (if t192 = 2 then ((templelaw0_Num.f t193).bind fun t202 => (some (t202 == 201))) else (none)) else (none)) = some r := H
          have A10 := Aside0.mk A100
          clear A100
          by_cases c11 : t201 = 200
          · rw [if_pos c11] at H
            have c11b0 : (t201 == 200) = true := beq_iff_eq.mpr c11
            have c11b1 : (t201 != 200) = false := bne_eq_false_iff_eq.mpr c11
            clear c11
            by_cases c12 : t192 = 2
            · rw [if_pos c12] at H
              have c12b0 : (t192 == 2) = true := beq_iff_eq.mpr c12
              have c12b1 : (t192 != 2) = false := bne_eq_false_iff_eq.mpr c12
              clear c12
              replace H := Option.bind_eq_some_iff.mp H
              obtain ⟨t202, A130, H⟩ := H
              replace H : (some (t202 == 201)) = some r := H
              have A13 := Aside0.mk A130
              clear A130
              obtain rfl := Option.some.inj H
              go_enter Try.func14, Try.ntmps14
              go_wp2_with (first | ((with_reducible refine gate_callee (f := 10) rfl ?_); refine goesL_ (some 12) rfl rfl Try.func10 (by kernel_rfl) rfl #[.string (⟨#[115, 116, 97, 114, 116, 32, 65, 98, 95, 49, 59, 32, 35, 32, 120, 10, 61, 32, 34, 97, 92, 120, 48, 97, 92, 34, 34, 32, 39, 97, 39, 46, 46, 39, 92, 39, 39, 32, 39, 98, 39, 32, 38, 32, 124, 32, 126]⟩ : ByteArray)] rfl (by (try simp only [List.map_toArray, List.map_cons, List.map_nil]); first | done | rfl | (simp only [List.length_drop, List.length_take]; rfl)) ?_; (with_reducible refine (lex_Lex.calls k (⟨#[115, 116, 97, 114, 116, 32, 65, 98, 95, 49, 59, 32, 35, 32, 120, 10, 61, 32, 34, 97, 92, 120, 48, 97, 92, 34, 34, 32, 39, 97, 39, 46, 46, 39, 92, 39, 39, 32, 39, 98, 39, 32, 38, 32, 124, 32, 126]⟩ : ByteArray) t181 t182 t183 _ A1.out).mono ?_); rintro e w14 ⟨v184, rfl, ho0, hb⟩; refine ⟨_, rfl, ?_⟩; have n0_ := Aside0.mk (Kd.R_lower ho0 (below_size (by repeat (first | (with_reducible first | exact HB.out | apply below_alloc | apply pw_below_drewN | apply below_drew1) | exact HB.out)))); have n1_ := Aside0.mk (below_step (by repeat (first | (with_reducible first | exact HB.out | apply below_alloc | apply pw_below_drewN | apply below_drew1) | exact HB.out)) hb); clear HB; have HO185 := n0_; have HB := n1_; clear n0_ n1_; (try clear hb); (try clear hb2); (try clear hk); (try clear hi); (try clear ho0)) | ((with_reducible refine gate_callee (f := 10) rfl ?_); refine goesL_ (some 17) rfl rfl Try.func10 (by kernel_rfl) rfl #[.string (⟨#[97, 32, 36]⟩ : ByteArray)] rfl (by (try simp only [List.map_toArray, List.map_cons, List.map_nil]); first | done | rfl | (simp only [List.length_drop, List.length_take]; rfl)) ?_; (with_reducible refine (lex_Lex.calls k (⟨#[97, 32, 36]⟩ : ByteArray) t186 t187 t188 _ A2.out).mono ?_); rintro e w15 ⟨v189, rfl, ho0, hb⟩; refine ⟨_, rfl, ?_⟩; have n0_ := Aside0.mk (Kd.R_elder' (by (with_reducible repeat (first | apply Kd.R_alloc | apply Kd.R_drewN | apply Kd.R_drew)); exact HO185.out) (Kd.R_base ho0) hb); have n1_ := Aside0.mk (Kd.R_lower (Kd.R_new' ho0 (Kd.R_lt (by (with_reducible repeat (first | apply Kd.R_alloc | apply Kd.R_drewN | apply Kd.R_drew)); exact HO185.out))) (below_size (by repeat (first | (with_reducible first | exact HB.out | apply below_alloc | apply pw_below_drewN | apply below_drew1) | exact HB.out)))); have n2_ := Aside0.mk (below_step (by repeat (first | (with_reducible first | exact HB.out | apply below_alloc | apply pw_below_drewN | apply below_drew1) | exact HB.out)) hb); clear HO185; clear HB; have HO185 := n0_; have HO190 := n1_; have HB := n2_; clear n0_ n1_ n2_; (try clear hb); (try clear hb2); (try clear hk); (try clear hi); (try clear ho0)) | ((with_reducible refine gate_callee (f := 10) rfl ?_); refine goesL_ (some 22) rfl rfl Try.func10 (by kernel_rfl) rfl #[.string (⟨#[97, 32, 34, 98]⟩ : ByteArray)] rfl (by (try simp only [List.map_toArray, List.map_cons, List.map_nil]); first | done | rfl | (simp only [List.length_drop, List.length_take]; rfl)) ?_; (with_reducible refine (lex_Lex.calls k (⟨#[97, 32, 34, 98]⟩ : ByteArray) t191 t192 t193 _ A3.out).mono ?_); rintro e w16 ⟨v194, rfl, ho0, hb⟩; refine ⟨_, rfl, ?_⟩; have n0_ := Aside0.mk (Kd.R_elder' (by (with_reducible repeat (first | apply Kd.R_alloc | apply Kd.R_drewN | apply Kd.R_drew)); exact HO185.out) (Kd.R_base ho0) hb); have n1_ := Aside0.mk (Kd.R_elder' (by (with_reducible repeat (first | apply Kd.R_alloc | apply Kd.R_drewN | apply Kd.R_drew)); exact HO190.out) (Kd.R_base ho0) hb); have n2_ := Aside0.mk (Kd.R_lower (Kd.R_new' (Kd.R_new' ho0 (Kd.R_lt (by (with_reducible repeat (first | apply Kd.R_alloc | apply Kd.R_drewN | apply Kd.R_drew)); exact HO185.out))) (Kd.R_lt (by (with_reducible repeat (first | apply Kd.R_alloc | apply Kd.R_drewN | apply Kd.R_drew)); exact HO190.out))) (below_size (by repeat (first | (with_reducible first | exact HB.out | apply below_alloc | apply pw_below_drewN | apply below_drew1) | exact HB.out)))); have n3_ := Aside0.mk (below_step (by repeat (first | (with_reducible first | exact HB.out | apply below_alloc | apply pw_below_drewN | apply below_drew1) | exact HB.out)) hb); clear HO185; clear HO190; clear HB; have HO185 := n0_; have HO190 := n1_; have HO195 := n2_; have HB := n3_; clear n0_ n1_ n2_ n3_; (try clear hb); (try clear hb2); (try clear hk); (try clear hi); (try clear ho0)) | ((with_reducible refine gate_dst (N := 36) rfl ?_); refine Kd.R_lit k33 _ 33 ?hg (N := 36) ?hd (xs := ([(⟨3, 0, (⟨#[]⟩ : ByteArray), 0, 0⟩ : S33), (⟨0, 6, (⟨#[65, 98, 95, 49]⟩ : ByteArray), 0, 0⟩ : S33), (⟨8, 10, (⟨#[]⟩ : ByteArray), 0, 0⟩ : S33), (⟨4, 16, (⟨#[]⟩ : ByteArray), 0, 0⟩ : S33), (⟨1, 18, (⟨#[97, 10, 34]⟩ : ByteArray), 0, 0⟩ : S33), (⟨2, 28, (⟨#[]⟩ : ByteArray), 97, 39⟩ : S33), (⟨2, 38, (⟨#[]⟩ : ByteArray), 98, 98⟩ : S33), (⟨6, 42, (⟨#[]⟩ : ByteArray), 0, 0⟩ : S33), (⟨5, 44, (⟨#[]⟩ : ByteArray), 0, 0⟩ : S33), (⟨7, 46, (⟨#[]⟩ : ByteArray), 0, 0⟩ : S33)] : List (S33))) (inner := [.int .i64 3, .int .i64 0, .string (⟨#[]⟩ : ByteArray), .int .i64 0, .int .i64 0, .int .i64 0, .int .i64 6, .string (⟨#[65, 98, 95, 49]⟩ : ByteArray), .int .i64 0, .int .i64 0, .int .i64 8, .int .i64 10, .string (⟨#[]⟩ : ByteArray), .int .i64 0, .int .i64 0, .int .i64 4, .int .i64 16, .string (⟨#[]⟩ : ByteArray), .int .i64 0, .int .i64 0, .int .i64 1, .int .i64 18, .string (⟨#[97, 10, 34]⟩ : ByteArray), .int .i64 0, .int .i64 0, .int .i64 2, .int .i64 28, .string (⟨#[]⟩ : ByteArray), .int .i64 97, .int .i64 39, .int .i64 2, .int .i64 38, .string (⟨#[]⟩ : ByteArray), .int .i64 98, .int .i64 98, .int .i64 6, .int .i64 42, .string (⟨#[]⟩ : ByteArray), .int .i64 0, .int .i64 0, .int .i64 5, .int .i64 44, .string (⟨#[]⟩ : ByteArray), .int .i64 0, .int .i64 0, .int .i64 7, .int .i64 46, .string (⟨#[]⟩ : ByteArray), .int .i64 0, .int .i64 0]) (ok := fun _ => True) (okp := fun _ => True) ?hr ?hp (fun _ hk => hk) trivial (Below.refl _ _) (Nat.le_refl _) (by simp) ?_; (case hd => rfl); (case hg => rfl); (case hr => first | (go_simp; done) | (go_simp; rfl)); (case hp => exact (Reps.c5 (show Kd.M k33 _ _ _ (⟨3, 0, (⟨#[]⟩ : ByteArray), 0, 0⟩ : S33) [.int .i64 3, .int .i64 0, .string (⟨#[]⟩ : ByteArray), .int .i64 0, .int .i64 0] from (k33_mkM _ _ _ (⟨3, 0, (⟨#[]⟩ : ByteArray), 0, 0⟩ : S33) )) (Reps.c5 (show Kd.M k33 _ _ _ (⟨0, 6, (⟨#[65, 98, 95, 49]⟩ : ByteArray), 0, 0⟩ : S33) [.int .i64 0, .int .i64 6, .string (⟨#[65, 98, 95, 49]⟩ : ByteArray), .int .i64 0, .int .i64 0] from (k33_mkM _ _ _ (⟨0, 6, (⟨#[65, 98, 95, 49]⟩ : ByteArray), 0, 0⟩ : S33) )) (Reps.c5 (show Kd.M k33 _ _ _ (⟨8, 10, (⟨#[]⟩ : ByteArray), 0, 0⟩ : S33) [.int .i64 8, .int .i64 10, .string (⟨#[]⟩ : ByteArray), .int .i64 0, .int .i64 0] from (k33_mkM _ _ _ (⟨8, 10, (⟨#[]⟩ : ByteArray), 0, 0⟩ : S33) )) (Reps.c5 (show Kd.M k33 _ _ _ (⟨4, 16, (⟨#[]⟩ : ByteArray), 0, 0⟩ : S33) [.int .i64 4, .int .i64 16, .string (⟨#[]⟩ : ByteArray), .int .i64 0, .int .i64 0] from (k33_mkM _ _ _ (⟨4, 16, (⟨#[]⟩ : ByteArray), 0, 0⟩ : S33) )) (Reps.c5 (show Kd.M k33 _ _ _ (⟨1, 18, (⟨#[97, 10, 34]⟩ : ByteArray), 0, 0⟩ : S33) [.int .i64 1, .int .i64 18, .string (⟨#[97, 10, 34]⟩ : ByteArray), .int .i64 0, .int .i64 0] from (k33_mkM _ _ _ (⟨1, 18, (⟨#[97, 10, 34]⟩ : ByteArray), 0, 0⟩ : S33) )) (Reps.c5 (show Kd.M k33 _ _ _ (⟨2, 28, (⟨#[]⟩ : ByteArray), 97, 39⟩ : S33) [.int .i64 2, .int .i64 28, .string (⟨#[]⟩ : ByteArray), .int .i64 97, .int .i64 39] from (k33_mkM _ _ _ (⟨2, 28, (⟨#[]⟩ : ByteArray), 97, 39⟩ : S33) )) (Reps.c5 (show Kd.M k33 _ _ _ (⟨2, 38, (⟨#[]⟩ : ByteArray), 98, 98⟩ : S33) [.int .i64 2, .int .i64 38, .string (⟨#[]⟩ : ByteArray), .int .i64 98, .int .i64 98] from (k33_mkM _ _ _ (⟨2, 38, (⟨#[]⟩ : ByteArray), 98, 98⟩ : S33) )) (Reps.c5 (show Kd.M k33 _ _ _ (⟨6, 42, (⟨#[]⟩ : ByteArray), 0, 0⟩ : S33) [.int .i64 6, .int .i64 42, .string (⟨#[]⟩ : ByteArray), .int .i64 0, .int .i64 0] from (k33_mkM _ _ _ (⟨6, 42, (⟨#[]⟩ : ByteArray), 0, 0⟩ : S33) )) (Reps.c5 (show Kd.M k33 _ _ _ (⟨5, 44, (⟨#[]⟩ : ByteArray), 0, 0⟩ : S33) [.int .i64 5, .int .i64 44, .string (⟨#[]⟩ : ByteArray), .int .i64 0, .int .i64 0] from (k33_mkM _ _ _ (⟨5, 44, (⟨#[]⟩ : ByteArray), 0, 0⟩ : S33) )) (Reps.c5 (show Kd.M k33 _ _ _ (⟨7, 46, (⟨#[]⟩ : ByteArray), 0, 0⟩ : S33) [.int .i64 7, .int .i64 46, .string (⟨#[]⟩ : ByteArray), .int .i64 0, .int .i64 0] from (k33_mkM _ _ _ (⟨7, 46, (⟨#[]⟩ : ByteArray), 0, 0⟩ : S33) )) (Reps.none _ _)))))))))))); intro v197 w17 ho18 hb hg_ hnew_; clear hg_ hnew_; (first | rw [← Ny196.out] at ho18 | (simp only [Int.reduceToNat] at ho18; rw [← Ny196.out] at ho18)); have n0_ := Aside0.mk (Kd.R_elder' (by (with_reducible repeat (first | apply Kd.R_alloc | apply Kd.R_drewN | apply Kd.R_drew)); exact HO185.out) (Kd.R_base ho18) hb); have n1_ := Aside0.mk (Kd.R_elder' (by (with_reducible repeat (first | apply Kd.R_alloc | apply Kd.R_drewN | apply Kd.R_drew)); exact HO190.out) (Kd.R_base ho18) hb); have n2_ := Aside0.mk (Kd.R_elder' (by (with_reducible repeat (first | apply Kd.R_alloc | apply Kd.R_drewN | apply Kd.R_drew)); exact HO195.out) (Kd.R_base ho18) hb); have n3_ := Aside0.mk (Kd.R_lower (Kd.R_new' (Kd.R_new' (Kd.R_new' ho18 (Kd.R_lt (by (with_reducible repeat (first | apply Kd.R_alloc | apply Kd.R_drewN | apply Kd.R_drew)); exact HO185.out))) (Kd.R_lt (by (with_reducible repeat (first | apply Kd.R_alloc | apply Kd.R_drewN | apply Kd.R_drew)); exact HO190.out))) (Kd.R_lt (by (with_reducible repeat (first | apply Kd.R_alloc | apply Kd.R_drewN | apply Kd.R_drew)); exact HO195.out))) (below_size (by repeat (first | (with_reducible first | exact HB.out | apply below_alloc | apply pw_below_drewN | apply below_drew1) | exact HB.out)))); have n4_ := Aside0.mk (below_step (by repeat (first | (with_reducible first | exact HB.out | apply below_alloc | apply pw_below_drewN | apply below_drew1) | exact HB.out)) hb); clear HO185; clear HO190; clear HO195; clear HB; have HO185 := n0_; have HO190 := n1_; have HO195 := n2_; have HO198 := n3_; have HB := n4_; clear n0_ n1_ n2_ n3_ n4_; clear hb ho18; obtain ⟨Ao19, co19, eo19⟩ := Kd.R_slice HO185.out; subst eo19; obtain ⟨Ao20, co20, eo20⟩ := Kd.R_slice HO198.out; subst eo20) | ((with_reducible refine gate_callee (f := 12) rfl ?_); refine goesL_ (some 39) rfl rfl Try.func12 (by kernel_rfl) rfl #[.slice Ao19 t181.length co19, .slice Ao20 y196.length co20] rfl (by (try simp only [List.map_toArray, List.map_cons, List.map_nil]); first | done | rfl | (simp only [List.length_drop, List.length_take]; rfl)) ?_; (with_reducible refine (templelaw0_SameTokens.calls k _ _ t181 _ _ y196 true _ ?side1 ?side2 ?side3 ?side4 A4.out).mono ?_); (case side1 => repeat (first | exact (Kd.R_reads' HO185.out).2.2 | (with_reducible refine Kd.C_alloc ?_ _) | (with_reducible refine Kd.C_drewN ?_ _) | (with_reducible refine Kd.C_drew ?_))); (case side2 => exact (Kd.R_reads' HO185.out).2.1); (case side3 => repeat (first | exact (Kd.R_reads' HO198.out).2.2 | (with_reducible refine Kd.C_alloc ?_ _) | (with_reducible refine Kd.C_drewN ?_ _) | (with_reducible refine Kd.C_drew ?_))); (case side4 => exact (Kd.R_reads' HO198.out).2.1); rintro e w' ⟨rfl, ⟨nd, rfl⟩⟩; refine ⟨_, rfl, ?_⟩) | (go_at_call 13; (with_reducible refine (templelaw0_Num.calls t183 t200 _ A7.out).mono ?_); rintro e w' ⟨rfl, ⟨nd, rfl⟩⟩) | (go_at_call 13; (with_reducible refine (templelaw0_Num.calls t188 t201 _ A10.out).mono ?_); rintro e w' ⟨rfl, ⟨nd, rfl⟩⟩) | (go_at_call 13; (with_reducible refine (templelaw0_Num.calls t193 t202 _ A13.out).mono ?_); rintro e w' ⟨rfl, ⟨nd, rfl⟩⟩))
              go_ret
              exact ⟨by first | rfl | (simp [errW_none, errW_some] <;> rfl) | (simp [*, errW_none, errW_some] <;> rfl), by repeat (first | (with_reducible first | exact HB.out | apply below_alloc | apply pw_below_drewN | apply below_drew1) | exact HB.out)⟩
            · rw [if_neg c12] at H
              exact absurd H (by simp)
          · rw [if_neg c11] at H
            exact absurd H (by simp)
        · rw [if_neg c9] at H
          exact absurd H (by simp)
      · rw [if_neg c8] at H
        exact absurd H (by simp)
    · rw [if_neg c6] at H
      exact absurd H (by simp)
  · replace c5 := Bool.eq_false_iff.mpr c5
    subst c5
    have H1 : (none) = some r := by rw [if_neg (show ¬ (false = true) by decide)] at H; exact H
    clear H
    have H := H1
    clear H1
    exact absurd H (by simp)

end Go.Proofs.Ytjjccngjcamgjaa.PLD
