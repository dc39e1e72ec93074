-- written by a program of the session's (wip/myprint.py) out of the translation
import Derived.Test.YtjjccngjcamgjaaPLCx0
import Derived.Test.YtjjccngjcamgjaaPLCx1
import Derived.Test.YtjjccngjcamgjaaPLCx3
namespace Go.Proofs.Ytjjccngjcamgjaa.PLC
open Go.RowKit Go.Proofs.YtjjccngjcamgjaaW.PrintWords Go.Proofs.YtjjccngjcamgjaaW.PrintLast Go.Proofs.YtjjccngjcamgjaaW.PrintMore
attribute [local go_sem] max2_int min2_int max_two min_two max_three min_three max_four min_four   -- for this text's walks alone
set_option linter.unusedVariables false
set_option linter.unusedSimpArgs false

attribute [local go_sem high] eqA33
/-! ### templelaw0_SameTokens: function 12 -/
def templelaw0_SameTokens.l0 : Nat → List (S33) → List (S33) → Int → Option (Bool)
  | 0, _, _, _ => none
  | k + 1, x0, x1, x5 => if x5 < (x0.length : Int) then (if 0 ≤ x5 then (if x5 < (x1.length : Int) then (if (!(((rd_T33 x0 x5).f0) == ((rd_T33 x1 x5).f0)) || (!(((rd_T33 x0 x5).f1) == ((rd_T33 x1 x5).f1)) || (!((((rd_T33 x0 x5).f2).toList) == (((rd_T33 x1 x5).f2).toList)) || (!(((rd_T33 x0 x5).f3) == ((rd_T33 x1 x5).f3)) || (!(((rd_T33 x0 x5).f4) == ((rd_T33 x1 x5).f4))))))) = true then (some false) else (templelaw0_SameTokens.l0 k x0 x1 (wrap64 (x5 + 1)))) else (none)) else (none)) else (some true)
def templelaw0_SameTokens.f (k : Nat) (l0 : List (S33)) (l1 : List (S33)) : Option (Bool) := if (l0.length : Int) = (l1.length : Int) then (templelaw0_SameTokens.l0 k l0 l1 0) else (some false)
theorem templelaw0_SameTokens.mono_l : ∀ k, (∀ y0 y1 y2, LeO (templelaw0_SameTokens.l0 k y0 y1 y2) (templelaw0_SameTokens.l0 (k + 1) y0 y1 y2))
  | 0 => fun _ _ _ r h => by simp [templelaw0_SameTokens.l0] at h
  | k + 1 => by
    have ih0 := templelaw0_SameTokens.mono_l k
    · intro y0 y1 y2
      unfold templelaw0_SameTokens.l0
      repeat' first
      | (with_reducible exact ih0 _ _ _)
      | (with_reducible exact LeO.refl _)
      | (with_reducible exact LeO.none _)
      | (with_reducible refine LeO.ite ?_ ?_)
      | (with_reducible refine LeO.bind ?_ (fun _ => ?_))
      | exact ih0 _ _ _
      | exact LeO.none _
      | refine LeO.ite ?_ ?_
      | refine LeO.bind ?_ (fun _ => ?_)
theorem templelaw0_SameTokens.mono : ∀ a0 a1 k, LeO (templelaw0_SameTokens.f k a0 a1) (templelaw0_SameTokens.f (k + 1) a0 a1) := by
  intro a0 a1 k
  have ih0 := templelaw0_SameTokens.mono_l k
  unfold templelaw0_SameTokens.f
  repeat' first
      | (with_reducible exact ih0 _ _ _)
      | (with_reducible exact LeO.refl _)
      | (with_reducible exact LeO.none _)
      | (with_reducible refine LeO.ite ?_ ?_)
      | (with_reducible refine LeO.bind ?_ (fun _ => ?_))
      | exact ih0 _ _ _
      | exact LeO.none _
      | refine LeO.ite ?_ ?_
      | refine LeO.bind ?_ (fun _ => ?_)
set_option maxHeartbeats 8000000 in
set_option maxRecDepth 100000 in
theorem templelaw0_SameTokens.calls (k : Nat) (A0 : Option Addr) (c0 : Nat) (l0 : List (S33)) (A1 : Option Addr) (c1 : Nat) (l1 : List (S33)) (r : Bool) (w : World) (hr0 : Kd.C k33 w A0 l0.length l0) (hc0 : l0.length ≤ c0) (hr1 : Kd.C k33 w A1 l1.length l1) (hc1 : l1.length ≤ c1) (h : templelaw0_SameTokens.f k l0 l1 = some r) :
    Calls Try.prog 12 #[.slice A0 l0.length c0, .slice A1 l1.length c1] w fun e w' => e = .returned (.bool r) ∧ Drawn0 w w' := by
  have hu33 := Try.underlying33
  have HR0 := Aside0.mk hr0
  have HC0 := Aside0.mk hc0
  clear hr0 hc0
  have HR1 := Aside0.mk hr1
  have HC1 := Aside0.mk hc1
  clear hr1 hc1
  have H : (if (l0.length : Int) = (l1.length : Int) then (templelaw0_SameTokens.l0 k l0 l1 0) else (some false)) = some r := h
  clear h
  by_cases c3 : (l0.length : Int) = (l1.length : Int)
  · rw [if_pos c3] at H
    have c3b0 : ((l0.length : Int) == (l1.length : Int)) = true := beq_iff_eq.mpr c3
    have c3b1 : ((l0.length : Int) != (l1.length : Int)) = false := bne_eq_false_iff_eq.mpr c3
    have c3b2 : (l0.length == l1.length) = true := by first | simpa using c3 | (simp at c3 ⊢; omega)
    clear c3
    have H' := Aside0.mk H
    clear H
    go_enter Try.func12, Try.ntmps12
    go_wp2
    repeat (go_quiet (fail); try go_wp2)
    go_loopg [5] k (fun kq v5 w' => ∃ (x5_1 : Int), v5 = .int .i64 x5_1 ∧ Aside0 (templelaw0_SameTokens.l0 kq l0 l1 x5_1 = some r) ∧ Aside0 (kq ≤ k) ∧ Drawn0 w w')
    case atStart => exact ⟨(0), (by first | rfl | (simp; done) | (simp [i64_w]; done) | (simp [*]; done) | (simp [*, i64_w]; done) | (simp [*]; unfold wrap64; omega)), H', ⟨Nat.le_refl _⟩, by repeat (first | exact Drawn0.refl _ | apply Drawn0.step)⟩
    case round =>
      clear H'
      try clear c1
      try clear p2
      try clear c3
      try clear c3b0
      try clear c3b1
      try clear c3b2
      obtain ⟨x5_1, rfl, HA, HK1, ⟨m1, rfl⟩⟩ := hrel
      cases gk with
      | zero => exact absurd HA.out (by simp [templelaw0_SameTokens.l0])
      | succ k1 =>
        have H := HA.out
        clear HA
        simp only [templelaw0_SameTokens.l0] at H
        by_cases c4 : x5_1 < (l0.length : Int)
        · rw [if_pos c4] at H
          have c4b0 : decide (x5_1 < (l0.length : Int)) = true := decide_eq_true c4
          clear c4
          by_cases c5 : 0 ≤ x5_1
          · rw [if_pos c5] at H
            have c5b0 : decide (0 ≤ x5_1) = true := decide_eq_true c5
            clear c5
            by_cases c6 : x5_1 < (l1.length : Int)
            · rw [if_pos c6] at H
              have c6b0 : decide (x5_1 < (l1.length : Int)) = true := decide_eq_true c6
              clear c6
              by_cases c7 : (!(((rd_T33 l0 x5_1).f0) == ((rd_T33 l1 x5_1).f0)) || (!(((rd_T33 l0 x5_1).f1) == ((rd_T33 l1 x5_1).f1)) || (!((((rd_T33 l0 x5_1).f2).toList) == (((rd_T33 l1 x5_1).f2).toList)) || (!(((rd_T33 l0 x5_1).f3) == ((rd_T33 l1 x5_1).f3)) || (!(((rd_T33 l0 x5_1).f4) == ((rd_T33 l1 x5_1).f4))))))) = true
              · rw [if_pos c7] at H
                have c7b0 : (!(((rd_T33 l0 x5_1).f0) == ((rd_T33 l1 x5_1).f0)) || (!(((rd_T33 l0 x5_1).f1) == ((rd_T33 l1 x5_1).f1)) || (!((((rd_T33 l0 x5_1).f2).toList) == (((rd_T33 l1 x5_1).f2).toList)) || (!(((rd_T33 l0 x5_1).f3) == ((rd_T33 l1 x5_1).f3)) || (!(((rd_T33 l0 x5_1).f4) == ((rd_T33 l1 x5_1).f4))))))) = true := c7
                clear c7
                obtain rfl := Option.some.inj H
                have p179 : 0 ≤ (x5_1 : Int) := of_decide_eq_true (by first | (with_reducible assumption) | assumption)
                have q179 : x5_1 < (l0.length : Int) := of_decide_eq_true (by first | (with_reducible assumption) | assumption)
                obtain ⟨ad179, e179, hx179_0, hx179_1, hx179_2, hx179_3, hx179_4⟩ := at_T33 HR0.out x5_1 p179 q179
                cases e179
                replace p179 := eq_true p179
                replace q179 := eq_true q179
                have p180 : 0 ≤ (x5_1 : Int) := of_decide_eq_true (by first | (with_reducible assumption) | assumption)
                have q180 : x5_1 < (l1.length : Int) := of_decide_eq_true (by first | (with_reducible assumption) | assumption)
                obtain ⟨ad180, e180, hx180_0, hx180_1, hx180_2, hx180_3, hx180_4⟩ := at_T33 HR1.out x5_1 p180 q180
                cases e180
                replace p180 := eq_true p180
                replace q180 := eq_true q180
                go_wp2
                repeat (go_quiet (fail); try go_wp2)
                go_ret
                exact ⟨by first | rfl | (simp; done) | (simp [*]; done), by repeat (first | exact Drawn0.refl _ | apply Drawn0.step)⟩
              · rw [if_neg c7] at H
                have c7b0 : (!(((rd_T33 l0 x5_1).f0) == ((rd_T33 l1 x5_1).f0)) || (!(((rd_T33 l0 x5_1).f1) == ((rd_T33 l1 x5_1).f1)) || (!((((rd_T33 l0 x5_1).f2).toList) == (((rd_T33 l1 x5_1).f2).toList)) || (!(((rd_T33 l0 x5_1).f3) == ((rd_T33 l1 x5_1).f3)) || (!(((rd_T33 l0 x5_1).f4) == ((rd_T33 l1 x5_1).f4))))))) = false := by simpa using c7
                clear c7
                have H' := Aside0.mk H
                clear H
                have p179 : 0 ≤ (x5_1 : Int) := of_decide_eq_true (by first | (with_reducible assumption) | assumption)
                have q179 : x5_1 < (l0.length : Int) := of_decide_eq_true (by first | (with_reducible assumption) | assumption)
                obtain ⟨ad179, e179, hx179_0, hx179_1, hx179_2, hx179_3, hx179_4⟩ := at_T33 HR0.out x5_1 p179 q179
                cases e179
                replace p179 := eq_true p179
                replace q179 := eq_true q179
                have p180 : 0 ≤ (x5_1 : Int) := of_decide_eq_true (by first | (with_reducible assumption) | assumption)
                have q180 : x5_1 < (l1.length : Int) := of_decide_eq_true (by first | (with_reducible assumption) | assumption)
                obtain ⟨ad180, e180, hx180_0, hx180_1, hx180_2, hx180_3, hx180_4⟩ := at_T33 HR1.out x5_1 p180 q180
                cases e180
                replace p180 := eq_true p180
                replace q180 := eq_true q180
                go_wp2
                repeat (go_quiet (fail); try go_wp2)
                go_roundg k1
                case measure => have := HK1.out; omega
                case rel => exact ⟨(wrap64 (x5_1 + 1)), (by first | rfl | (simp; done) | (simp [i64_w]; done) | (simp [*]; done) | (simp [*, i64_w]; done) | (simp [*]; unfold wrap64; omega)), H', ⟨by have := HK1.out; omega⟩, by repeat (first | exact Drawn0.refl _ | apply Drawn0.step)⟩
            · rw [if_neg c6] at H
              exact absurd H (by simp)
          · rw [if_neg c5] at H
            exact absurd H (by simp)
        · rw [if_neg c4] at H
          have c4b0 : decide (x5_1 < (l0.length : Int)) = false := decide_eq_false c4
          clear c4
          obtain rfl := Option.some.inj H
          go_wp2
          repeat (go_quiet (fail); try go_wp2)
          go_ret
          exact ⟨by first | rfl | (simp; done) | (simp [*]; done), by repeat (first | exact Drawn0.refl _ | apply Drawn0.step)⟩
  · rw [if_neg c3] at H
    have c3b0 : ((l0.length : Int) == (l1.length : Int)) = false := beq_eq_false_iff_ne.mpr c3
    have c3b1 : ((l0.length : Int) != (l1.length : Int)) = true := bne_iff_ne.mpr c3
    have c3b2 : (l0.length == l1.length) = false := by first | simpa using c3 | (simp at c3 ⊢; omega)
    obtain rfl := Option.some.inj H
    go_enter Try.func12, Try.ntmps12
    go_wp2
    repeat (go_quiet (fail); try go_wp2)
    go_ret
    exact ⟨by first | rfl | (simp; done) | (simp [*]; done), by repeat (first | exact Drawn0.refl _ | apply Drawn0.step)⟩

/-! ### templelaw2_awake: function 14 -/
def templelaw2_awake.f (k : Nat)  : Option (Bool) := (lex_Lex.f k (⟨#[115, 116, 97, 114, 116, 32, 65, 98, 95, 49, 59, 32, 35, 32, 120, 10, 61, 32, 34, 97, 92, 120, 48, 97, 92, 34, 34, 32, 39, 97, 39, 46, 46, 39, 92, 39, 39, 32, 39, 98, 39, 32, 38, 32, 124, 32, 126]⟩ : ByteArray)).bind fun bt181 => ((lex_Lex.f k (⟨#[97, 32, 36]⟩ : ByteArray)).bind fun bt186 => ((lex_Lex.f k (⟨#[97, 32, 34, 98]⟩ : ByteArray)).bind fun bt191 => ((templelaw0_SameTokens.f k bt181.1 (([(⟨3, 0, (⟨#[]⟩ : ByteArray), 0, 0⟩ : S33), (⟨0, 6, (⟨#[65, 98, 95, 49]⟩ : ByteArray), 0, 0⟩ : S33), (⟨8, 10, (⟨#[]⟩ : ByteArray), 0, 0⟩ : S33), (⟨4, 16, (⟨#[]⟩ : ByteArray), 0, 0⟩ : S33), (⟨1, 18, (⟨#[97, 10, 34]⟩ : ByteArray), 0, 0⟩ : S33), (⟨2, 28, (⟨#[]⟩ : ByteArray), 97, 39⟩ : S33), (⟨2, 38, (⟨#[]⟩ : ByteArray), 98, 98⟩ : S33), (⟨6, 42, (⟨#[]⟩ : ByteArray), 0, 0⟩ : S33), (⟨5, 44, (⟨#[]⟩ : ByteArray), 0, 0⟩ : S33), (⟨7, 46, (⟨#[]⟩ : ByteArray), 0, 0⟩ : S33)] : List (S33)))).bind fun t199 => (if t199 = true then (if bt181.2.1 = 0 then ((templelaw0_Num.f bt181.2.2).bind fun t200 => (if t200 = 0 then (if bt186.2.1 = 2 then ((templelaw0_Num.f bt186.2.2).bind fun t201 => (if t201 = 200 then (if bt191.2.1 = 2 then ((templelaw0_Num.f bt191.2.2).bind fun t202 => (some (t202 == 201))) else (none)) else (none))) else (none)) else (none))) else (none)) else (none)))))
theorem templelaw2_awake.mono : ∀ k, LeO (templelaw2_awake.f k ) (templelaw2_awake.f (k + 1) ) := by
  intro  k
  unfold templelaw2_awake.f
  repeat' first
      | (with_reducible exact lex_Lex.mono _ _)
      | (with_reducible exact templelaw0_SameTokens.mono _ _ _)
      | (with_reducible exact LeO.refl _)
      | (with_reducible exact LeO.none _)
      | (with_reducible refine LeO.ite ?_ ?_)
      | (with_reducible refine LeO.bind ?_ (fun _ => ?_))
      | exact lex_Lex.mono _ _
      | exact templelaw0_SameTokens.mono _ _ _
      | exact LeO.none _
      | refine LeO.ite ?_ ?_
      | refine LeO.bind ?_ (fun _ => ?_)
set_option maxHeartbeats 8000000 in
set_option maxRecDepth 100000 in
theorem templelaw2_awake.calls (k : Nat)  (r : Bool) (w : World) (h : templelaw2_awake.f k  = some r) :
    Calls Try.prog 14 #[] w fun e w' => e = .returned (.bool r) ∧ Below w.heap.size w w' := by
  have hu33 := Try.underlying33
  have HB := Aside0.mk (Below.refl w.heap.size w)
  have H : ((lex_Lex.f k (⟨#[115, 116, 97, 114, 116, 32, 65, 98, 95, 49, 59, 32, 35, 32, 120, 10, 61, 32, 34, 97, 92, 120, 48, 97, 92, 34, 34, 32, 39, 97, 39, 46, 46, 39, 92, 39, 39, 32, 39, 98, 39, 32, 38, 32, 124, 32, 126]⟩ : ByteArray)).bind fun bt181 => ((lex_Lex.f k (⟨#[97, 32, 36]⟩ : ByteArray)).bind fun bt186 => ((lex_Lex.f k (⟨#[97, 32, 34, 98]⟩ : ByteArray)).bind fun bt191 => ((templelaw0_SameTokens.f k bt181.1 (([(⟨3, 0, (⟨#[]⟩ : ByteArray), 0, 0⟩ : S33), (⟨0, 6, (⟨#[65, 98, 95, 49]⟩ : ByteArray), 0, 0⟩ : S33), (⟨8, 10, (⟨#[]⟩ : ByteArray), 0, 0⟩ : S33), (⟨4, 16, (⟨#[]⟩ : ByteArray), 0, 0⟩ : S33), (⟨1, 18, (⟨#[97, 10, 34]⟩ : ByteArray), 0, 0⟩ : S33), (⟨2, 28, (⟨#[]⟩ : ByteArray), 97, 39⟩ : S33), (⟨2, 38, (⟨#[]⟩ : ByteArray), 98, 98⟩ : S33), (⟨6, 42, (⟨#[]⟩ : ByteArray), 0, 0⟩ : S33), (⟨5, 44, (⟨#[]⟩ : ByteArray), 0, 0⟩ : S33), (⟨7, 46, (⟨#[]⟩ : ByteArray), 0, 0⟩ : S33)] : List (S33)))).bind fun t199 => (if t199 = true then (if bt181.2.1 = 0 then ((templelaw0_Num.f bt181.2.2).bind fun t200 => (if t200 = 0 then (if bt186.2.1 = 2 then ((templelaw0_Num.f bt186.2.2).bind fun t201 => (if t201 = 200 then (if bt191.2.1 = 2 then ((templelaw0_Num.f bt191.2.2).bind fun t202 => (some (t202 == 201))) else (none)) else (none))) else (none)) else (none))) else (none)) else (none)))))) = some r := h
  clear h
  replace H := Option.bind_eq_some_iff.mp H
  obtain ⟨⟨t181, t182, t183⟩, A10, H⟩ := H
  replace H : ((lex_Lex.f k (⟨#[97, 32, 36]⟩ : ByteArray)).bind fun bt186 => ((lex_Lex.f k (⟨#[97, 32, 34, 98]⟩ : ByteArray)).bind fun bt191 => ((templelaw0_SameTokens.f k t181 (([(⟨3, 0, (⟨#[]⟩ : ByteArray), 0, 0⟩ : S33), (⟨0, 6, (⟨#[65, 98, 95, 49]⟩ : ByteArray), 0, 0⟩ : S33), (⟨8, 10, (⟨#[]⟩ : ByteArray), 0, 0⟩ : S33), (⟨4, 16, (⟨#[]⟩ : ByteArray), 0, 0⟩ : S33), (⟨1, 18, (⟨#[97, 10, 34]⟩ : ByteArray), 0, 0⟩ : S33), (⟨2, 28, (⟨#[]⟩ : ByteArray), 97, 39⟩ : S33), (⟨2, 38, (⟨#[]⟩ : ByteArray), 98, 98⟩ : S33), (⟨6, 42, (⟨#[]⟩ : ByteArray), 0, 0⟩ : S33), (⟨5, 44, (⟨#[]⟩ : ByteArray), 0, 0⟩ : S33), (⟨7, 46, (⟨#[]⟩ : ByteArray), 0, 0⟩ : S33)] : List (S33)))).bind fun t199 => (if t199 = true then (if t182 = 0 then ((templelaw0_Num.f t183).bind fun t200 => (if t200 = 0 then (if bt186.2.1 = 2 then ((templelaw0_Num.f bt186.2.2).bind fun t201 => (if t201 = 200 then (if bt191.2.1 = 2 then ((templelaw0_Num.f bt191.2.2).bind fun t202 => (some (t202 == 201))) else (none)) else (none))) else (none)) else (none))) else (none)) else (none))))) = some r := H
  have A1 := Aside0.mk A10
  clear A10
  replace H := Option.bind_eq_some_iff.mp H
  obtain ⟨⟨t186, t187, t188⟩, A20, H⟩ := H
  replace H : ((lex_Lex.f k (⟨#[97, 32, 34, 98]⟩ : ByteArray)).bind fun bt191 => ((templelaw0_SameTokens.f k t181 (([(⟨3, 0, (⟨#[]⟩ : ByteArray), 0, 0⟩ : S33), (⟨0, 6, (⟨#[65, 98, 95, 49]⟩ : ByteArray), 0, 0⟩ : S33), (⟨8, 10, (⟨#[]⟩ : ByteArray), 0, 0⟩ : S33), (⟨4, 16, (⟨#[]⟩ : ByteArray), 0, 0⟩ : S33), (⟨1, 18, (⟨#[97, 10, 34]⟩ : ByteArray), 0, 0⟩ : S33), (⟨2, 28, (⟨#[]⟩ : ByteArray), 97, 39⟩ : S33), (⟨2, 38, (⟨#[]⟩ : ByteArray), 98, 98⟩ : S33), (⟨6, 42, (⟨#[]⟩ : ByteArray), 0, 0⟩ : S33), (⟨5, 44, (⟨#[]⟩ : ByteArray), 0, 0⟩ : S33), (⟨7, 46, (⟨#[]⟩ : ByteArray), 0, 0⟩ : S33)] : List (S33)))).bind fun t199 => (if t199 = true then (if t182 = 0 then ((templelaw0_Num.f t183).bind fun t200 => (if t200 = 0 then (if t187 = 2 then ((templelaw0_Num.f t188).bind fun t201 => (if t201 = 200 then (if bt191.2.1 = 2 then ((templelaw0_Num.f bt191.2.2).bind fun t202 => (some (t202 == 201))) else (none)) else (none))) else (none)) else (none))) else (none)) else (none)))) = some r := H
  have A2 := Aside0.mk A20
  clear A20
  replace H := Option.bind_eq_some_iff.mp H
  obtain ⟨⟨t191, t192, t193⟩, A30, H⟩ := H
  replace H : ((templelaw0_SameTokens.f k t181 (([(⟨3, 0, (⟨#[]⟩ : ByteArray), 0, 0⟩ : S33), (⟨0, 6, (⟨#[65, 98, 95, 49]⟩ : ByteArray), 0, 0⟩ : S33), (⟨8, 10, (⟨#[]⟩ : ByteArray), 0, 0⟩ : S33), (⟨4, 16, (⟨#[]⟩ : ByteArray), 0, 0⟩ : S33), (⟨1, 18, (⟨#[97, 10, 34]⟩ : ByteArray), 0, 0⟩ : S33), (⟨2, 28, (⟨#[]⟩ : ByteArray), 97, 39⟩ : S33), (⟨2, 38, (⟨#[]⟩ : ByteArray), 98, 98⟩ : S33), (⟨6, 42, (⟨#[]⟩ : ByteArray), 0, 0⟩ : S33), (⟨5, 44, (⟨#[]⟩ : ByteArray), 0, 0⟩ : S33), (⟨7, 46, (⟨#[]⟩ : ByteArray), 0, 0⟩ : S33)] : List (S33)))).bind fun t199 => (if t199 = true then (if t182 = 0 then ((templelaw0_Num.f t183).bind fun t200 => (if t200 = 0 then (if t187 = 2 then ((templelaw0_Num.f t188).bind fun t201 => (if t201 = 200 then (if t192 = 2 then ((templelaw0_Num.f t193).bind fun t202 => (some (t202 == 201))) else (none)) else (none))) else (none)) else (none))) else (none)) else (none))) = some r := H
  have A3 := Aside0.mk A30
  clear A30
  obtain ⟨y196, hy196⟩ : ∃ y_ : List (S33), y_ = (([(⟨3, 0, (⟨#[]⟩ : ByteArray), 0, 0⟩ : S33), (⟨0, 6, (⟨#[65, 98, 95, 49]⟩ : ByteArray), 0, 0⟩ : S33), (⟨8, 10, (⟨#[]⟩ : ByteArray), 0, 0⟩ : S33), (⟨4, 16, (⟨#[]⟩ : ByteArray), 0, 0⟩ : S33), (⟨1, 18, (⟨#[97, 10, 34]⟩ : ByteArray), 0, 0⟩ : S33), (⟨2, 28, (⟨#[]⟩ : ByteArray), 97, 39⟩ : S33), (⟨2, 38, (⟨#[]⟩ : ByteArray), 98, 98⟩ : S33), (⟨6, 42, (⟨#[]⟩ : ByteArray), 0, 0⟩ : S33), (⟨5, 44, (⟨#[]⟩ : ByteArray), 0, 0⟩ : S33), (⟨7, 46, (⟨#[]⟩ : ByteArray), 0, 0⟩ : S33)] : List (S33))) := ⟨_, rfl⟩
  replace H : ((templelaw0_SameTokens.f k t181 y196).bind fun t199 => (if t199 = true then (if t182 = 0 then ((templelaw0_Num.f t183).bind fun t200 => (if t200 = 0 then (if t187 = 2 then ((templelaw0_Num.f t188).bind fun t201 => (if t201 = 200 then (if t192 = 2 then ((templelaw0_Num.f t193).bind fun t202 => (some (t202 == 201))) else (none)) else (none))) else (none)) else (none))) else (none)) else (none))) = some r := by first | (rw [hy196]; with_reducible exact H) | (have H2_ := (Option.bind_some _ _).symm.trans H; rw [hy196]; with_reducible exact H2_) | (have H2_ := (Option.bind_some _ _).symm.trans H; with_reducible exact H2_) | with_reducible exact H | (rw [hy196]; exact H) | exact H
  have Ny196 := Aside0.mk hy196
  clear hy196
  replace H := Option.bind_eq_some_iff.mp H
  obtain ⟨t199, A40, H⟩ := H
  replace H : (if t199 = true then (if t182 = 0 then ((templelaw0_Num.f t183).bind fun t200 => (if t200 = 0 then (if t187 = 2 then ((templelaw0_Num.f t188).bind fun t201 => (if t201 = 200 then (if t192 = 2 then ((templelaw0_Num.f t193).bind fun t202 => (some (t202 == 201))) else (none)) else (none))) else (none)) else (none))) else (none)) else (none)) = some r := H
  have A4 := Aside0.mk A40
  clear A40
  by_cases c5 : t199 = true
  · subst c5
    have H1 : (if t182 = 0 then ((templelaw0_Num.f t183).bind fun t200 => (if t200 = 0 then (if t187 = 2 then ((templelaw0_Num.f t188).bind fun t201 => (if t201 = 200 then (if t192 = 2 then ((templelaw0_Num.f t193).bind fun t202 => (some (t202 == 201))) else (none)) else (none))) else (none)) else (none))) else (none)) = some r := by rw [if_pos rfl] at H; exact H
    clear H
    have H := H1
    clear H1
    by_cases c6 : t182 = 0
    · rw [if_pos c6] at H
      have c6b0 : (t182 == 0) = true := beq_iff_eq.mpr c6
      have c6b1 : (t182 != 0) = false := bne_eq_false_iff_eq.mpr c6
      clear c6
      replace H := Option.bind_eq_some_iff.mp H
      obtain ⟨t200, A70, H⟩ := H
      replace H : (if t200 = 0 then (if t187 = 2 then ((templelaw0_Num.f t188).bind fun t201 => (if t201 = 200 then (if t192 = 2 then ((templelaw0_Num.f t193).bind fun t202 => (some (t202 == 201))) else (none)) else (none))) else (none)) else (none)) = some r := H
      have A7 := Aside0.mk A70
      clear A70
      by_cases c8 : t200 = 0
      · rw [if_pos c8] at H
        have c8b0 : (t200 == 0) = true := beq_iff_eq.mpr c8
        have c8b1 : (t200 != 0) = false := bne_eq_false_iff_eq.mpr c8
        clear c8
        by_cases c9 : t187 = 2
        · rw [if_pos c9] at H
          have c9b0 : (t187 == 2) = true := beq_iff_eq.mpr c9
          have c9b1 : (t187 != 2) = false := bne_eq_false_iff_eq.mpr c9
          clear c9
          replace H := Option.bind_eq_some_iff.mp H
          obtain ⟨t201, A100, H⟩ := H
          replace H : (if t201 = 200 then (if t192 = 2 then ((templelaw0_Num.f t193).bind fun t202 => (some (t202 == 201))) else (none)) else (none)) = some r := H
          have A10 := Aside0.mk A100
          clear A100
          by_cases c11 : t201 = 200
          · rw [if_pos c11] at H
            have c11b0 : (t201 == 200) = true := beq_iff_eq.mpr c11
            have c11b1 : (t201 != 200) = false := bne_eq_false_iff_eq.mpr c11
            clear c11
            by_cases c12 : t192 = 2
            · rw [if_pos c12] at H
              have c12b0 : (t192 == 2) = true := beq_iff_eq.mpr c12
              have c12b1 : (t192 != 2) = false := bne_eq_false_iff_eq.mpr c12
              clear c12
              replace H := Option.bind_eq_some_iff.mp H
              obtain ⟨t202, A130, H⟩ := H
              replace H : (some (t202 == 201)) = some r := H
              have A13 := Aside0.mk A130
              clear A130
              obtain rfl := Option.some.inj H
              go_enter Try.func14, Try.ntmps14
              go_wp2_with (first | ((with_reducible refine gate_callee (f := 10) rfl ?_); refine goesL_ (some 12) rfl rfl Try.func10 (by kernel_rfl) rfl #[.string (⟨#[115, 116, 97, 114, 116, 32, 65, 98, 95, 49, 59, 32, 35, 32, 120, 10, 61, 32, 34, 97, 92, 120, 48, 97, 92, 34, 34, 32, 39, 97, 39, 46, 46, 39, 92, 39, 39, 32, 39, 98, 39, 32, 38, 32, 124, 32, 126]⟩ : ByteArray)] rfl (by (try simp only [List.map_toArray, List.map_cons, List.map_nil]); first | done | rfl | (simp only [List.length_drop, List.length_take]; rfl)) ?_; (with_reducible refine (lex_Lex.calls k (⟨#[115, 116, 97, 114, 116, 32, 65, 98, 95, 49, 59, 32, 35, 32, 120, 10, 61, 32, 34, 97, 92, 120, 48, 97, 92, 34, 34, 32, 39, 97, 39, 46, 46, 39, 92, 39, 39, 32, 39, 98, 39, 32, 38, 32, 124, 32, 126]⟩ : ByteArray) t181 t182 t183 _ A1.out).mono ?_); rintro e w14 ⟨v184, rfl, ho0, hb⟩; refine ⟨_, rfl, ?_⟩; have n0_ := Aside0.mk (Kd.R_lower ho0 (below_size (by repeat (first | (with_reducible first | exact HB.out | apply below_alloc | apply pw_below_drewN | apply below_drew1) | exact HB.out)))); have n1_ := Aside0.mk (below_step (by repeat (first | (with_reducible first | exact HB.out | apply below_alloc | apply pw_below_drewN | apply below_drew1) | exact HB.out)) hb); clear HB; have HO185 := n0_; have HB := n1_; clear n0_ n1_; (try clear hb); (try clear hb2); (try clear hk); (try clear hi); (try clear ho0)) | ((with_reducible refine gate_callee (f := 10) rfl ?_); refine goesL_ (some 17) rfl rfl Try.func10 (by kernel_rfl) rfl #[.string (⟨#[97, 32, 36]⟩ : ByteArray)] rfl (by (try simp only [List.map_toArray, List.map_cons, List.map_nil]); first | done | rfl | (simp only [List.length_drop, List.length_take]; rfl)) ?_; (with_reducible refine (lex_Lex.calls k (⟨#[97, 32, 36]⟩ : ByteArray) t186 t187 t188 _ A2.out).mono ?_); rintro e w15 ⟨v189, rfl, ho0, hb⟩; refine ⟨_, rfl, ?_⟩; have n0_ := Aside0.mk (Kd.R_elder' (by (with_reducible repeat (first | apply Kd.R_alloc | apply Kd.R_drewN | apply Kd.R_drew)); exact HO185.out) (Kd.R_base ho0) hb); have n1_ := Aside0.mk (Kd.R_lower (Kd.R_new' ho0 (Kd.R_lt (by (with_reducible repeat (first | apply Kd.R_alloc | apply Kd.R_drewN | apply Kd.R_drew)); exact HO185.out))) (below_size (by repeat (first | (with_reducible first | exact HB.out | apply below_alloc | apply pw_below_drewN | apply below_drew1) | exact HB.out)))); have n2_ := Aside0.mk (below_step (by repeat (first | (with_reducible first | exact HB.out | apply below_alloc | apply pw_below_drewN | apply below_drew1) | exact HB.out)) hb); clear HO185; clear HB; have HO185 := n0_; have HO190 := n1_; have HB := n2_; clear n0_ n1_ n2_; (try clear hb); (try clear hb2); (try clear hk); (try clear hi); (try clear ho0)) | ((with_reducible refine gate_callee (f := 10) rfl ?_); refine goesL_ (some 22) rfl rfl Try.func10 (by kernel_rfl) rfl #[.string (⟨#[97, 32, 34, 98]⟩ : ByteArray)] rfl (by (try simp only [List.map_toArray, List.map_cons, List.map_nil]); first | done | rfl | (simp only [List.length_drop, List.length_take]; rfl)) ?_; (with_reducible refine (lex_Lex.calls k (⟨#[97, 32, 34, 98]⟩ : ByteArray) t191 t192 t193 _ A3.out).mono ?_); rintro e w16 ⟨v194, rfl, ho0, hb⟩; refine ⟨_, rfl, ?_⟩; have n0_ := Aside0.mk (Kd.R_elder' (by (with_reducible repeat (first | apply Kd.R_alloc | apply Kd.R_drewN | apply Kd.R_drew)); exact HO185.out) (Kd.R_base ho0) hb); have n1_ := Aside0.mk (Kd.R_elder' (by (with_reducible repeat (first | apply Kd.R_alloc | apply Kd.R_drewN | apply Kd.R_drew)); exact HO190.out) (Kd.R_base ho0) hb); have n2_ := Aside0.mk (Kd.R_lower (Kd.R_new' (Kd.R_new' ho0 (Kd.R_lt (by (with_reducible repeat (first | apply Kd.R_alloc | apply Kd.R_drewN | apply Kd.R_drew)); exact HO185.out))) (Kd.R_lt (by (with_reducible repeat (first | apply Kd.R_alloc | apply Kd.R_drewN | apply Kd.R_drew)); exact HO190.out))) (below_size (by repeat (first | (with_reducible first | exact HB.out | apply below_alloc | apply pw_below_drewN | apply below_drew1) | exact HB.out)))); have n3_ := Aside0.mk (below_step (by repeat (first | (with_reducible first | exact HB.out | apply below_alloc | apply pw_below_drewN | apply below_drew1) | exact HB.out)) hb); clear HO185; clear HO190; clear HB; have HO185 := n0_; have HO190 := n1_; have HO195 := n2_; have HB := n3_; clear n0_ n1_ n2_ n3_; (try clear hb); (try clear hb2); (try clear hk); (try clear hi); (try clear ho0)) | ((with_reducible refine gate_dst (N := 36) rfl ?_); refine Kd.R_lit k33 _ 33 ?hg (N := 36) ?hd (xs := ([(⟨3, 0, (⟨#[]⟩ : ByteArray), 0, 0⟩ : S33), (⟨0, 6, (⟨#[65, 98, 95, 49]⟩ : ByteArray), 0, 0⟩ : S33), (⟨8, 10, (⟨#[]⟩ : ByteArray), 0, 0⟩ : S33), (⟨4, 16, (⟨#[]⟩ : ByteArray), 0, 0⟩ : S33), (⟨1, 18, (⟨#[97, 10, 34]⟩ : ByteArray), 0, 0⟩ : S33), (⟨2, 28, (⟨#[]⟩ : ByteArray), 97, 39⟩ : S33), (⟨2, 38, (⟨#[]⟩ : ByteArray), 98, 98⟩ : S33), (⟨6, 42, (⟨#[]⟩ : ByteArray), 0, 0⟩ : S33), (⟨5, 44, (⟨#[]⟩ : ByteArray), 0, 0⟩ : S33), (⟨7, 46, (⟨#[]⟩ : ByteArray), 0, 0⟩ : S33)] : List (S33))) (inner := [.int .i64 3, .int .i64 0, .string (⟨#[]⟩ : ByteArray), .int .i64 0, .int .i64 0, .int .i64 0, .int .i64 6, .string (⟨#[65, 98, 95, 49]⟩ : ByteArray), .int .i64 0, .int .i64 0, .int .i64 8, .int .i64 10, .string (⟨#[]⟩ : ByteArray), .int .i64 0, .int .i64 0, .int .i64 4, .int .i64 16, .string (⟨#[]⟩ : ByteArray), .int .i64 0, .int .i64 0, .int .i64 1, .int .i64 18, .string (⟨#[97, 10, 34]⟩ : ByteArray), .int .i64 0, .int .i64 0, .int .i64 2, .int .i64 28, .string (⟨#[]⟩ : ByteArray), .int .i64 97, .int .i64 39, .int .i64 2, .int .i64 38, .string (⟨#[]⟩ : ByteArray), .int .i64 98, .int .i64 98, .int .i64 6, .int .i64 42, .string (⟨#[]⟩ : ByteArray), .int .i64 0, .int .i64 0, .int .i64 5, .int .i64 44, .string (⟨#[]⟩ : ByteArray), .int .i64 0, .int .i64 0, .int .i64 7, .int .i64 46, .string (⟨#[]⟩ : ByteArray), .int .i64 0, .int .i64 0]) (ok := fun _ => True) (okp := fun _ => True) ?hr ?hp (fun _ hk => hk) trivial (Below.refl _ _) (Nat.le_refl _) (by simp) ?_; (case hd => rfl); (case hg => rfl); (case hr => first | (go_simp; done) | (go_simp; rfl)); (case hp => exact (Reps.c5 (show Kd.M k33 _ _ _ (⟨3, 0, (⟨#[]⟩ : ByteArray), 0, 0⟩ : S33) [.int .i64 3, .int .i64 0, .string (⟨#[]⟩ : ByteArray), .int .i64 0, .int .i64 0] from (k33_mkM _ _ _ (⟨3, 0, (⟨#[]⟩ : ByteArray), 0, 0⟩ : S33) )) (Reps.c5 (show Kd.M k33 _ _ _ (⟨0, 6, (⟨#[65, 98, 95, 49]⟩ : ByteArray), 0, 0⟩ : S33) [.int .i64 0, .int .i64 6, .string (⟨#[65, 98, 95, 49]⟩ : ByteArray), .int .i64 0, .int .i64 0] from (k33_mkM _ _ _ (⟨0, 6, (⟨#[65, 98, 95, 49]⟩ : ByteArray), 0, 0⟩ : S33) )) (Reps.c5 (show Kd.M k33 _ _ _ (⟨8, 10, (⟨#[]⟩ : ByteArray), 0, 0⟩ : S33) [.int .i64 8, .int .i64 10, .string (⟨#[]⟩ : ByteArray), .int .i64 0, .int .i64 0] from (k33_mkM _ _ _ (⟨8, 10, (⟨#[]⟩ : ByteArray), 0, 0⟩ : S33) )) (Reps.c5 (show Kd.M k33 _ _ _ (⟨4, 16, (⟨#[]⟩ : ByteArray), 0, 0⟩ : S33) [.int .i64 4, .int .i64 16, .string (⟨#[]⟩ : ByteArray), .int .i64 0, .int .i64 0] from (k33_mkM _ _ _ (⟨4, 16, (⟨#[]⟩ : ByteArray), 0, 0⟩ : S33) )) (Reps.c5 (show Kd.M k33 _ _ _ (⟨1, 18, (⟨#[97, 10, 34]⟩ : ByteArray), 0, 0⟩ : S33) [.int .i64 1, .int .i64 18, .string (⟨#[97, 10, 34]⟩ : ByteArray), .int .i64 0, .int .i64 0] from (k33_mkM _ _ _ (⟨1, 18, (⟨#[97, 10, 34]⟩ : ByteArray), 0, 0⟩ : S33) )) (Reps.c5 (show Kd.M k33 _ _ _ (⟨2, 28, (⟨#[]⟩ : ByteArray), 97, 39⟩ : S33) [.int .i64 2, .int .i64 28, .string (⟨#[]⟩ : ByteArray), .int .i64 97, .int .i64 39] from (k33_mkM _ _ _ (⟨2, 28, (⟨#[]⟩ : ByteArray), 97, 39⟩ : S33) )) (Reps.c5 (show Kd.M k33 _ _ _ (⟨2, 38, (⟨#[]⟩ : ByteArray), 98, 98⟩ : S33) [.int .i64 2, .int .i64 38, .string (⟨#[]⟩ : ByteArray), .int .i64 98, .int .i64 98] from (k33_mkM _ _ _ (⟨2, 38, (⟨#[]⟩ : ByteArray), 98, 98⟩ : S33) )) (Reps.c5 (show Kd.M k33 _ _ _ (⟨6, 42, (⟨#[]⟩ : ByteArray), 0, 0⟩ : S33) [.int .i64 6, .int .i64 42, .string (⟨#[]⟩ : ByteArray), .int .i64 0, .int .i64 0] from (k33_mkM _ _ _ (⟨6, 42, (⟨#[]⟩ : ByteArray), 0, 0⟩ : S33) )) (Reps.c5 (show Kd.M k33 _ _ _ (⟨5, 44, (⟨#[]⟩ : ByteArray), 0, 0⟩ : S33) [.int .i64 5, .int .i64 44, .string (⟨#[]⟩ : ByteArray), .int .i64 0, .int .i64 0] from (k33_mkM _ _ _ (⟨5, 44, (⟨#[]⟩ : ByteArray), 0, 0⟩ : S33) )) (Reps.c5 (show Kd.M k33 _ _ _ (⟨7, 46, (⟨#[]⟩ : ByteArray), 0, 0⟩ : S33) [.int .i64 7, .int .i64 46, .string (⟨#[]⟩ : ByteArray), .int .i64 0, .int .i64 0] from (k33_mkM _ _ _ (⟨7, 46, (⟨#[]⟩ : ByteArray), 0, 0⟩ : S33) )) (Reps.none _ _)))))))))))); intro v197 w17 ho18 hb hg_ hnew_; clear hg_ hnew_; (first | rw [← Ny196.out] at ho18 | (simp only [Int.reduceToNat] at ho18; rw [← Ny196.out] at ho18)); have n0_ := Aside0.mk (Kd.R_elder' (by (with_reducible repeat (first | apply Kd.R_alloc | apply Kd.R_drewN | apply Kd.R_drew)); exact HO185.out) (Kd.R_base ho18) hb); have n1_ := Aside0.mk (Kd.R_elder' (by (with_reducible repeat (first | apply Kd.R_alloc | apply Kd.R_drewN | apply Kd.R_drew)); exact HO190.out) (Kd.R_base ho18) hb); have n2_ := Aside0.mk (Kd.R_elder' (by (with_reducible repeat (first | apply Kd.R_alloc | apply Kd.R_drewN | apply Kd.R_drew)); exact HO195.out) (Kd.R_base ho18) hb); have n3_ := Aside0.mk (Kd.R_lower (Kd.R_new' (Kd.R_new' (Kd.R_new' ho18 (Kd.R_lt (by (with_reducible repeat (first | apply Kd.R_alloc | apply Kd.R_drewN | apply Kd.R_drew)); exact HO185.out))) (Kd.R_lt (by (with_reducible repeat (first | apply Kd.R_alloc | apply Kd.R_drewN | apply Kd.R_drew)); exact HO190.out))) (Kd.R_lt (by (with_reducible repeat (first | apply Kd.R_alloc | apply Kd.R_drewN | apply Kd.R_drew)); exact HO195.out))) (below_size (by repeat (first | (with_reducible first | exact HB.out | apply below_alloc | apply pw_below_drewN | apply below_drew1) | exact HB.out)))); have n4_ := Aside0.mk (below_step (by repeat (first | (with_reducible first | exact HB.out | apply below_alloc | apply pw_below_drewN | apply below_drew1) | exact HB.out)) hb); clear HO185; clear HO190; clear HO195; clear HB; have HO185 := n0_; have HO190 := n1_; have HO195 := n2_; have HO198 := n3_; have HB := n4_; clear n0_ n1_ n2_ n3_ n4_; clear hb ho18; obtain ⟨Ao19, co19, eo19⟩ := Kd.R_slice HO185.out; subst eo19; obtain ⟨Ao20, co20, eo20⟩ := Kd.R_slice HO198.out; subst eo20) | ((with_reducible refine gate_callee (f := 12) rfl ?_); refine goesL_ (some 39) rfl rfl Try.func12 (by kernel_rfl) rfl #[.slice Ao19 t181.length co19, .slice Ao20 y196.length co20] rfl (by (try simp only [List.map_toArray, List.map_cons, List.map_nil]); first | done | rfl | (simp only [List.length_drop, List.length_take]; rfl)) ?_; (with_reducible refine (templelaw0_SameTokens.calls k _ _ t181 _ _ y196 true _ ?side1 ?side2 ?side3 ?side4 A4.out).mono ?_); (case side1 => repeat (first | exact (Kd.R_reads' HO185.out).2.2 | (with_reducible refine Kd.C_alloc ?_ _) | (with_reducible refine Kd.C_drewN ?_ _) | (with_reducible refine Kd.C_drew ?_))); (case side2 => exact (Kd.R_reads' HO185.out).2.1); (case side3 => repeat (first | exact (Kd.R_reads' HO198.out).2.2 | (with_reducible refine Kd.C_alloc ?_ _) | (with_reducible refine Kd.C_drewN ?_ _) | (with_reducible refine Kd.C_drew ?_))); (case side4 => exact (Kd.R_reads' HO198.out).2.1); rintro e w' ⟨rfl, ⟨nd, rfl⟩⟩; refine ⟨_, rfl, ?_⟩) | (go_at_call 13; (with_reducible refine (templelaw0_Num.calls t183 t200 _ A7.out).mono ?_); rintro e w' ⟨rfl, ⟨nd, rfl⟩⟩) | (go_at_call 13; (with_reducible refine (templelaw0_Num.calls t188 t201 _ A10.out).mono ?_); rintro e w' ⟨rfl, ⟨nd, rfl⟩⟩) | (go_at_call 13; (with_reducible refine (templelaw0_Num.calls t193 t202 _ A13.out).mono ?_); rintro e w' ⟨rfl, ⟨nd, rfl⟩⟩))
              go_ret
              exact ⟨by first | rfl | (simp [errW_none, errW_some] <;> rfl) | (simp [*, errW_none, errW_some] <;> rfl), by repeat (first | (with_reducible first | exact HB.out | apply below_alloc | apply pw_below_drewN | apply below_drew1) | exact HB.out)⟩
            · rw [if_neg c12] at H
              exact absurd H (by simp)
          · rw [if_neg c11] at H
            exact absurd H (by simp)
        · rw [if_neg c9] at H
          exact absurd H (by simp)
      · rw [if_neg c8] at H
        exact absurd H (by simp)
    · rw [if_neg c6] at H
      exact absurd H (by simp)
  · replace c5 := Bool.eq_false_iff.mpr c5
    subst c5
    have H1 : (none) = some r := by rw [if_neg (show ¬ (false = true) by decide)] at H; exact H
    clear H
    have H := H1
    clear H1
    exact absurd H (by simp)

/-! ### templelaw2_LexBlanks: function 6 -/
mutual
def templelaw2_LexBlanks.j1 : Nat → ByteArray → ByteArray → Option (Bool)
  | 0, _, _ => none
  | k + 1, x0, x5 => (lex_Lex.f k x0).bind fun bt209 => (if x5.size + x0.size ≤ 9223372036854775807 then ((lex_Lex.f k (x5 ++ x0)).bind fun bt214 => ((templelaw0_Num.f bt209.2.2).bind fun t219 => (if t219 = 0 then ((templelaw0_Num.f bt214.2.2).bind fun t222 => (if t222 = 0 then (if (bt209.1.length : Int) = (bt214.1.length : Int) then (templelaw2_LexBlanks.l1 k x5 bt209.1 bt214.1 0) else (none)) else (none))) else ((templelaw0_Num.f bt214.2.2).bind fun t220 => ((templelaw0_Num.f bt209.2.2).bind fun t221 => (if t220 = t221 then (some (bt214.2.1 == (wrap64 (bt209.2.1 + (x5.size : Int))))) else (none))))))) else (none))
def templelaw2_LexBlanks.l1 : Nat → ByteArray → List (S33) → List (S33) → Int → Option (Bool)
  | 0, _, _, _, _ => none
  | k + 1, x5, x7, x10, x13 => if x13 < (x7.length : Int) then (if 0 ≤ x13 then (if x13 < (x10.length : Int) then (if (!(((rd_T33 x10 x13).f0) == ((rd_T33 x7 x13).f0)) || (!((wrap64 (((rd_T33 x10 x13).f1) - (x5.size : Int))) == ((rd_T33 x7 x13).f1)) || (!((((rd_T33 x10 x13).f2).toList) == (((rd_T33 x7 x13).f2).toList)) || (!(((rd_T33 x10 x13).f3) == ((rd_T33 x7 x13).f3)) || (!(((rd_T33 x10 x13).f4) == ((rd_T33 x7 x13).f4))))))) = true then (none) else (templelaw2_LexBlanks.l1 k x5 x7 x10 (wrap64 (x13 + 1)))) else (none)) else (none)) else (some true)
def templelaw2_LexBlanks.l0 : Nat → ByteArray → List Int → ByteArray → Int → Option (Bool)
  | 0, _, _, _, _ => none
  | k + 1, x0, x1, x5, x6 => if x6 < (x1.length : Int) then (if x6 < 12 then ((some (([(⟨#[32]⟩ : ByteArray), (⟨#[9]⟩ : ByteArray), (⟨#[10]⟩ : ByteArray), (⟨#[13]⟩ : ByteArray), (⟨#[35, 32, 39, 120, 32, 34, 32, 36, 10]⟩ : ByteArray), (⟨#[35, 10]⟩ : ByteArray)] : List ByteArray) : List ByteArray)).bind fun y204 => (if 0 ≤ x6 then (if 0 ≤ (wrap64 (Int.tmod (IntKind.u64.wrap (rd x1 x6)) 6)) then (if (wrap64 (Int.tmod (IntKind.u64.wrap (rd x1 x6)) 6)) < (y204.length : Int) then (if x5.size + (rdOf ByteArray.empty y204 (wrap64 (Int.tmod (IntKind.u64.wrap (rd x1 x6)) 6))).size ≤ 9223372036854775807 then (templelaw2_LexBlanks.l0 k x0 x1 (x5 ++ (rdOf ByteArray.empty y204 (wrap64 (Int.tmod (IntKind.u64.wrap (rd x1 x6)) 6)))) (wrap64 (x6 + 1))) else (none)) else (none)) else (none)) else (none))) else (templelaw2_LexBlanks.j1 k x0 x5)) else (templelaw2_LexBlanks.j1 k x0 x5)
end
def templelaw2_LexBlanks.f (k : Nat) (a0 : ByteArray) (l1 : List Int) : Option (Bool) := (templelaw2_awake.f k).bind fun t203 => (if t203 = true then (if (a0.size : Int) > 5000 then (some true) else (templelaw2_LexBlanks.l0 k a0 l1 (⟨#[]⟩ : ByteArray) 0)) else (none))
theorem templelaw2_LexBlanks.mono_l : ∀ k, (∀ y0 y1, LeO (templelaw2_LexBlanks.j1 k y0 y1) (templelaw2_LexBlanks.j1 (k + 1) y0 y1)) ∧ (∀ y0 y1 y2 y3, LeO (templelaw2_LexBlanks.l1 k y0 y1 y2 y3) (templelaw2_LexBlanks.l1 (k + 1) y0 y1 y2 y3)) ∧ (∀ y0 y1 y2 y3, LeO (templelaw2_LexBlanks.l0 k y0 y1 y2 y3) (templelaw2_LexBlanks.l0 (k + 1) y0 y1 y2 y3))
  | 0 => ⟨fun _ _ r h => by simp [templelaw2_LexBlanks.j1] at h, fun _ _ _ _ r h => by simp [templelaw2_LexBlanks.l1] at h, fun _ _ _ _ r h => by simp [templelaw2_LexBlanks.l0] at h⟩
  | k + 1 => by
    obtain ⟨ih0, ih1, ih2⟩ := templelaw2_LexBlanks.mono_l k
    refine ⟨?_, ?_, ?_⟩
    · intro y0 y1
      unfold templelaw2_LexBlanks.j1
      repeat' first
      | (with_reducible exact ih0 _ _)
      | (with_reducible exact ih1 _ _ _ _)
      | (with_reducible exact ih2 _ _ _ _)
      | (with_reducible exact lex_Lex.mono _ _)
      | (with_reducible exact templelaw2_awake.mono _)
      | (with_reducible exact LeO.refl _)
      | (with_reducible exact LeO.none _)
      | (with_reducible refine LeO.ite ?_ ?_)
      | (with_reducible refine LeO.bind ?_ (fun _ => ?_))
      | exact ih0 _ _
      | exact ih1 _ _ _ _
      | exact ih2 _ _ _ _
      | exact lex_Lex.mono _ _
      | exact templelaw2_awake.mono _
      | exact LeO.none _
      | refine LeO.ite ?_ ?_
      | refine LeO.bind ?_ (fun _ => ?_)
    · intro y0 y1 y2 y3
      unfold templelaw2_LexBlanks.l1
      repeat' first
      | (with_reducible exact ih0 _ _)
      | (with_reducible exact ih1 _ _ _ _)
      | (with_reducible exact ih2 _ _ _ _)
      | (with_reducible exact lex_Lex.mono _ _)
      | (with_reducible exact templelaw2_awake.mono _)
      | (with_reducible exact LeO.refl _)
      | (with_reducible exact LeO.none _)
      | (with_reducible refine LeO.ite ?_ ?_)
      | (with_reducible refine LeO.bind ?_ (fun _ => ?_))
      | exact ih0 _ _
      | exact ih1 _ _ _ _
      | exact ih2 _ _ _ _
      | exact lex_Lex.mono _ _
      | exact templelaw2_awake.mono _
      | exact LeO.none _
      | refine LeO.ite ?_ ?_
      | refine LeO.bind ?_ (fun _ => ?_)
    · intro y0 y1 y2 y3
      unfold templelaw2_LexBlanks.l0
      repeat' first
      | (with_reducible exact ih0 _ _)
      | (with_reducible exact ih1 _ _ _ _)
      | (with_reducible exact ih2 _ _ _ _)
      | (with_reducible exact lex_Lex.mono _ _)
      | (with_reducible exact templelaw2_awake.mono _)
      | (with_reducible exact LeO.refl _)
      | (with_reducible exact LeO.none _)
      | (with_reducible refine LeO.ite ?_ ?_)
      | (with_reducible refine LeO.bind ?_ (fun _ => ?_))
      | exact ih0 _ _
      | exact ih1 _ _ _ _
      | exact ih2 _ _ _ _
      | exact lex_Lex.mono _ _
      | exact templelaw2_awake.mono _
      | exact LeO.none _
      | refine LeO.ite ?_ ?_
      | refine LeO.bind ?_ (fun _ => ?_)
theorem templelaw2_LexBlanks.mono : ∀ a0 a1 k, LeO (templelaw2_LexBlanks.f k a0 a1) (templelaw2_LexBlanks.f (k + 1) a0 a1) := by
  intro a0 a1 k
  obtain ⟨ih0, ih1, ih2⟩ := templelaw2_LexBlanks.mono_l k
  unfold templelaw2_LexBlanks.f
  repeat' first
      | (with_reducible exact ih0 _ _)
      | (with_reducible exact ih1 _ _ _ _)
      | (with_reducible exact ih2 _ _ _ _)
      | (with_reducible exact lex_Lex.mono _ _)
      | (with_reducible exact templelaw2_awake.mono _)
      | (with_reducible exact LeO.refl _)
      | (with_reducible exact LeO.none _)
      | (with_reducible refine LeO.ite ?_ ?_)
      | (with_reducible refine LeO.bind ?_ (fun _ => ?_))
      | exact ih0 _ _
      | exact ih1 _ _ _ _
      | exact ih2 _ _ _ _
      | exact lex_Lex.mono _ _
      | exact templelaw2_awake.mono _
      | exact LeO.none _
      | refine LeO.ite ?_ ?_
      | refine LeO.bind ?_ (fun _ => ?_)
set_option maxHeartbeats 8000000 in
set_option maxRecDepth 100000 in
theorem templelaw2_LexBlanks.calls (k : Nat) (a0 : ByteArray) (A1 : Option Addr) (c1 : Nat) (l1 : List Int) (r : Bool) (w : World) (hr1 : Kd.C (Kd.int .i64) w A1 l1.length l1) (hc1 : l1.length ≤ c1) (h : templelaw2_LexBlanks.f k a0 l1 = some r) :
    Calls Try.prog 6 #[.string a0, .slice A1 l1.length c1] w fun e w' => e = .returned (.bool r) ∧ Below w.heap.size w w' := by
  have hu33 := Try.underlying33
  have HR1 := Aside0.mk hr1
  have HC1 := Aside0.mk hc1
  clear hr1 hc1
  have HB := Aside0.mk (Below.refl w.heap.size w)
  have H : ((templelaw2_awake.f k).bind fun t203 => (if t203 = true then (if (a0.size : Int) > 5000 then (some true) else (templelaw2_LexBlanks.l0 k a0 l1 (⟨#[]⟩ : ByteArray) 0)) else (none))) = some r := h
  clear h
  replace H := Option.bind_eq_some_iff.mp H
  obtain ⟨t203, A30, H⟩ := H
  replace H : (if t203 = true then (if (a0.size : Int) > 5000 then (some true) else (templelaw2_LexBlanks.l0 k a0 l1 (⟨#[]⟩ : ByteArray) 0)) else (none)) = some r := H
  have A3 := Aside0.mk A30
  clear A30
  by_cases c4 : t203 = true
  · subst c4
    have H1 : (if (a0.size : Int) > 5000 then (some true) else (templelaw2_LexBlanks.l0 k a0 l1 (⟨#[]⟩ : ByteArray) 0)) = some r := by rw [if_pos rfl] at H; exact H
    clear H
    have H := H1
    clear H1
    by_cases c5 : (a0.size : Int) > 5000
    · rw [if_pos c5] at H
      have c5b0 : decide (5000 < (a0.size : Int)) = true := decide_eq_true c5
      have c5b1 : decide (5000 < a0.size) = true := decide_eq_true (by omega)
      clear c5
      obtain rfl := Option.some.inj H
      go_enter Try.func6, Try.ntmps6
      go_wp2_with (first | (go_at_call 14; (with_reducible refine (templelaw2_awake.calls k  true _ A3.out).mono ?_); rintro e w6 ⟨rfl, hb⟩; have n0_ := Aside0.mk (below_step (by repeat (first | (with_reducible first | exact HB.out | apply below_alloc | apply pw_below_drewN | apply below_drew1) | exact HB.out)) hb); clear HB; have HB := n0_; clear n0_; (try clear hb); (try clear hb2); (try clear hk); (try clear hi)))
      repeat (go_quiet (first | (go_at_call 14; (with_reducible refine (templelaw2_awake.calls k  true _ A3.out).mono ?_); rintro e w6 ⟨rfl, hb⟩; have n0_ := Aside0.mk (below_step (by repeat (first | (with_reducible first | exact HB.out | apply below_alloc | apply pw_below_drewN | apply below_drew1) | exact HB.out)) hb); clear HB; have HB := n0_; clear n0_; (try clear hb); (try clear hb2); (try clear hk); (try clear hi))); try go_wp2_with (first | (go_at_call 14; (with_reducible refine (templelaw2_awake.calls k  true _ A3.out).mono ?_); rintro e w6 ⟨rfl, hb⟩; have n0_ := Aside0.mk (below_step (by repeat (first | (with_reducible first | exact HB.out | apply below_alloc | apply pw_below_drewN | apply below_drew1) | exact HB.out)) hb); clear HB; have HB := n0_; clear n0_; (try clear hb); (try clear hb2); (try clear hk); (try clear hi))))
      go_ret
      exact ⟨by first | rfl | (simp [errW_none, errW_some] <;> rfl) | (simp [*, errW_none, errW_some] <;> rfl), by repeat (first | (with_reducible first | exact HB.out | apply below_alloc | apply pw_below_drewN | apply below_drew1) | exact HB.out)⟩
    · rw [if_neg c5] at H
      have c5b0 : decide (5000 < (a0.size : Int)) = false := decide_eq_false c5
      have c5b1 : decide (5000 < a0.size) = false := decide_eq_false (by omega)
      clear c5
      have HC7 := Aside0.mk H
      clear H
      go_enter Try.func6, Try.ntmps6
      go_upto_block 0 with (first | (go_at_call 14; (with_reducible refine (templelaw2_awake.calls k  true _ A3.out).mono ?_); rintro e w8 ⟨rfl, hb⟩; have n0_ := Aside0.mk (below_step (by repeat (first | (with_reducible first | exact HB.out | apply below_alloc | apply pw_below_drewN | apply below_drew1) | exact HB.out)) hb); clear HB; have HB := n0_; clear n0_; (try clear hb); (try clear hb2); (try clear hk); (try clear hi)))
      repeat (go_quiet (first | (go_at_call 14; (with_reducible refine (templelaw2_awake.calls k  true _ A3.out).mono ?_); rintro e w8 ⟨rfl, hb⟩; have n0_ := Aside0.mk (below_step (by repeat (first | (with_reducible first | exact HB.out | apply below_alloc | apply pw_below_drewN | apply below_drew1) | exact HB.out)) hb); clear HB; have HB := n0_; clear n0_; (try clear hb); (try clear hb2); (try clear hk); (try clear hi))); go_upto_block 0 with (first | (go_at_call 14; (with_reducible refine (templelaw2_awake.calls k  true _ A3.out).mono ?_); rintro e w8 ⟨rfl, hb⟩; have n0_ := Aside0.mk (below_step (by repeat (first | (with_reducible first | exact HB.out | apply below_alloc | apply pw_below_drewN | apply below_drew1) | exact HB.out)) hb); clear HB; have HB := n0_; clear n0_; (try clear hb); (try clear hb2); (try clear hk); (try clear hi))))
      (try simp only [Act.put, List.setIfInBounds_toArray, List.set_cons_zero, List.set_cons_succ])
      go_cut [5] (fun v5 wc => ∃ (kq : Nat) (x5_6 : ByteArray), v5 = .string x5_6 ∧ Aside0 (templelaw2_LexBlanks.j1 kq a0 x5_6 = some r) ∧ Aside0 (kq ≤ k) ∧ Aside0 (Below w.heap.size w wc))
      case first =>
        have H := HC7.out
        clear HC7
        have H' := Aside0.mk H
        clear H
        go_wp2
        repeat (go_quiet (fail); try go_wp2)
        go_loopg [5, 6] k (fun kq v5 v6 w' => ∃ (x5_1 : ByteArray) (x6_1 : Int), v5 = .string x5_1 ∧ v6 = .int .i64 x6_1 ∧ Aside0 (templelaw2_LexBlanks.l0 kq a0 l1 x5_1 x6_1 = some r) ∧ Aside0 (kq ≤ k) ∧ Aside0 (Below w.heap.size w w'))
        case atStart => exact ⟨((⟨#[]⟩ : ByteArray)), (0), (by first | rfl | (simp; done) | (simp [i64_w]; done) | (simp [*]; done) | (simp [*, i64_w]; done) | (simp [*]; unfold wrap64; omega)), (by first | rfl | (simp; done) | (simp [i64_w]; done) | (simp [*]; done) | (simp [*, i64_w]; done) | (simp [*]; unfold wrap64; omega)), H', ⟨Nat.le_refl _⟩, ⟨by repeat (first | (with_reducible first | exact HB.out | apply below_alloc | apply pw_below_drewN | apply below_drew1) | exact HB.out)⟩⟩
        case round =>
          clear H'
          try clear c1
          try clear p2
          try clear c4
          try clear c5
          try clear c5b0
          try clear c5b1
          try clear c6
          obtain ⟨x5_1, x6_1, rfl, rfl, HA, HK1, HB⟩ := hrel
          cases gk with
          | zero => exact absurd HA.out (by simp [templelaw2_LexBlanks.l0])
          | succ k1 =>
            have H := HA.out
            clear HA
            simp only [templelaw2_LexBlanks.l0] at H
            by_cases c9 : x6_1 < (l1.length : Int)
            · rw [if_pos c9] at H
              have c9b0 : decide (x6_1 < (l1.length : Int)) = true := decide_eq_true c9
              clear c9
              (first | rw [c9b0] | (simp only [i64_w, i32_w]; rw [c9b0]) | skip)
              by_cases c10 : x6_1 < 12
              · rw [if_pos c10] at H
                have c10b0 : decide (x6_1 < 12) = true := decide_eq_true c10
                clear c10
                obtain ⟨y204, hy204⟩ : ∃ y_ : List ByteArray, y_ = (([(⟨#[32]⟩ : ByteArray), (⟨#[9]⟩ : ByteArray), (⟨#[10]⟩ : ByteArray), (⟨#[13]⟩ : ByteArray), (⟨#[35, 32, 39, 120, 32, 34, 32, 36, 10]⟩ : ByteArray), (⟨#[35, 10]⟩ : ByteArray)] : List ByteArray)) := ⟨_, rfl⟩
                replace H : (if 0 ≤ x6_1 then (if 0 ≤ (wrap64 (Int.tmod (IntKind.u64.wrap (rd l1 x6_1)) 6)) then (if (wrap64 (Int.tmod (IntKind.u64.wrap (rd l1 x6_1)) 6)) < (y204.length : Int) then (if x5_1.size + (rdOf ByteArray.empty y204 (wrap64 (Int.tmod (IntKind.u64.wrap (rd l1 x6_1)) 6))).size ≤ 9223372036854775807 then (templelaw2_LexBlanks.l0 k1 a0 l1 (x5_1 ++ (rdOf ByteArray.empty y204 (wrap64 (Int.tmod (IntKind.u64.wrap (rd l1 x6_1)) 6)))) (wrap64 (x6_1 + 1))) else (none)) else (none)) else (none)) else (none)) = some r := by first | (rw [hy204]; with_reducible exact H) | (have H2_ := (Option.bind_some _ _).symm.trans H; rw [hy204]; with_reducible exact H2_) | (have H2_ := (Option.bind_some _ _).symm.trans H; with_reducible exact H2_) | with_reducible exact H | (rw [hy204]; exact H) | exact H
                have Ny204 := Aside0.mk hy204
                clear hy204
                by_cases c11 : 0 ≤ x6_1
                · rw [if_pos c11] at H
                  have c11b0 : decide (0 ≤ x6_1) = true := decide_eq_true c11
                  clear c11
                  obtain ⟨ji12, hji12⟩ : ∃ j_ : Int, (wrap64 (Int.tmod (IntKind.u64.wrap (rd l1 x6_1)) 6)) = j_ := ⟨_, rfl⟩
                  replace H : (if 0 ≤ (ji12) then (if (ji12) < (y204.length : Int) then (if x5_1.size + (rdOf ByteArray.empty y204 (ji12)).size ≤ 9223372036854775807 then (templelaw2_LexBlanks.l0 k1 a0 l1 (x5_1 ++ (rdOf ByteArray.empty y204 (ji12))) (wrap64 (x6_1 + 1))) else (none)) else (none)) else (none)) = some r := by first | (rw [hji12] at H; exact H) | (simp only [hji12] at H ⊢; exact H)
                  have hji12w : (IntKind.i64.wrap (Int.tmod (IntKind.u64.wrap (rd l1 x6_1)) 6)) = ji12 := (i64_w _).trans hji12
                  by_cases c13 : 0 ≤ (ji12)
                  · rw [if_pos c13] at H
                    have c13b0 : decide (0 ≤ (ji12)) = true := decide_eq_true c13
                    clear c13
                    by_cases c14 : (ji12) < (y204.length : Int)
                    · rw [if_pos c14] at H
                      have c14b0 : decide ((ji12) < (y204.length : Int)) = true := decide_eq_true c14
                      clear c14
                      by_cases c15 : x5_1.size + (rdOf ByteArray.empty y204 (ji12)).size ≤ 9223372036854775807
                      · rw [if_pos c15] at H
                        have c15b0 := eq_true c15
                        have c15b1 : decide (x5_1.size + (rdOf ByteArray.empty y204 (ji12)).size ≤ 9223372036854775807) = true := decide_eq_true c15
                        try have c15b2 : (9223372036854775807 < x5_1.size + (rdOf ByteArray.empty y204 (ji12)).size) = False := eq_false (Nat.not_lt.2 c15)
                        have H' := Aside0.mk H
                        clear H
                        go_wp2_with (first | ((with_reducible refine gate_dst (N := 31) rfl ?_); (try (refine gate_guard (by rfl) ?_; dsimp only)); refine Kd.R_lit Kd.string _ 9 ?hg (N := 31) ?hd (xs := ([(⟨#[32]⟩ : ByteArray), (⟨#[9]⟩ : ByteArray), (⟨#[10]⟩ : ByteArray), (⟨#[13]⟩ : ByteArray), (⟨#[35, 32, 39, 120, 32, 34, 32, 36, 10]⟩ : ByteArray), (⟨#[35, 10]⟩ : ByteArray)] : List ByteArray)) (inner := [.string (⟨#[32]⟩ : ByteArray), .string (⟨#[9]⟩ : ByteArray), .string (⟨#[10]⟩ : ByteArray), .string (⟨#[13]⟩ : ByteArray), .string (⟨#[35, 32, 39, 120, 32, 34, 32, 36, 10]⟩ : ByteArray), .string (⟨#[35, 10]⟩ : ByteArray)]) (ok := fun _ => True) (okp := fun _ => True) ?hr ?hp (fun _ hk => hk) trivial (Below.refl _ _) (Nat.le_refl _) (by simp) ?_; (case hd => rfl); (case hg => rfl); (case hr => first | (go_simp; done) | (go_simp; rfl)); (case hp => exact (Reps.one (show Kd.M Kd.string _ _ _ (⟨#[32]⟩ : ByteArray) [.string (⟨#[32]⟩ : ByteArray)] from rfl) (Reps.one (show Kd.M Kd.string _ _ _ (⟨#[9]⟩ : ByteArray) [.string (⟨#[9]⟩ : ByteArray)] from rfl) (Reps.one (show Kd.M Kd.string _ _ _ (⟨#[10]⟩ : ByteArray) [.string (⟨#[10]⟩ : ByteArray)] from rfl) (Reps.one (show Kd.M Kd.string _ _ _ (⟨#[13]⟩ : ByteArray) [.string (⟨#[13]⟩ : ByteArray)] from rfl) (Reps.one (show Kd.M Kd.string _ _ _ (⟨#[35, 32, 39, 120, 32, 34, 32, 36, 10]⟩ : ByteArray) [.string (⟨#[35, 32, 39, 120, 32, 34, 32, 36, 10]⟩ : ByteArray)] from rfl) (Reps.one (show Kd.M Kd.string _ _ _ (⟨#[35, 10]⟩ : ByteArray) [.string (⟨#[35, 10]⟩ : ByteArray)] from rfl) (Reps.none _ _)))))))); intro v205 w16 ho17 hb hg_ hnew_; clear hg_ hnew_; (first | rw [← Ny204.out] at ho17 | (simp only [Int.reduceToNat] at ho17; rw [← Ny204.out] at ho17)); have n0_ := Aside0.mk (Kd.R_lower ho17 (below_size (by repeat (first | (with_reducible first | exact HB.out | apply below_alloc | apply pw_below_drewN | apply below_drew1) | exact HB.out)))); have n1_ := Aside0.mk (below_step (by repeat (first | (with_reducible first | exact HB.out | apply below_alloc | apply pw_below_drewN | apply below_drew1) | exact HB.out)) hb); clear HB; have HO206 := n0_; have HB := n1_; clear n0_ n1_; clear hb ho17; have p207 : 0 ≤ (x6_1 : Int) := of_decide_eq_true (by first | (with_reducible assumption) | assumption); have q207 : x6_1 < (l1.length : Int) := of_decide_eq_true (by first | (with_reducible assumption) | assumption); obtain ⟨ad207, e207, hx207_0⟩ := Kd.at_int HR1.out x6_1 p207 q207; cases e207; replace hx207_0 := (HB.out.cell (World.block_lt_of_cell? w _ hx207_0)).trans hx207_0; replace p207 := eq_true p207; replace q207 := eq_true q207; obtain ⟨Ao18, co18, eo18⟩ := Kd.R_slice HO206.out; subst eo18; have p208 : 0 ≤ ((ji12) : Int) := of_decide_eq_true (by first | (with_reducible assumption) | assumption); have q208 : (ji12) < (y204.length : Int) := of_decide_eq_true (by first | (with_reducible assumption) | assumption); obtain ⟨ad208, e208, hx208_0⟩ := Kd.at_string (Kd.R_reads' HO206.out).2.2 (ji12) p208 q208; cases e208; replace p208 := eq_true p208; replace q208 := eq_true q208))
                        repeat (go_quiet (first | ((with_reducible refine gate_dst (N := 31) rfl ?_); (try (refine gate_guard (by rfl) ?_; dsimp only)); refine Kd.R_lit Kd.string _ 9 ?hg (N := 31) ?hd (xs := ([(⟨#[32]⟩ : ByteArray), (⟨#[9]⟩ : ByteArray), (⟨#[10]⟩ : ByteArray), (⟨#[13]⟩ : ByteArray), (⟨#[35, 32, 39, 120, 32, 34, 32, 36, 10]⟩ : ByteArray), (⟨#[35, 10]⟩ : ByteArray)] : List ByteArray)) (inner := [.string (⟨#[32]⟩ : ByteArray), .string (⟨#[9]⟩ : ByteArray), .string (⟨#[10]⟩ : ByteArray), .string (⟨#[13]⟩ : ByteArray), .string (⟨#[35, 32, 39, 120, 32, 34, 32, 36, 10]⟩ : ByteArray), .string (⟨#[35, 10]⟩ : ByteArray)]) (ok := fun _ => True) (okp := fun _ => True) ?hr ?hp (fun _ hk => hk) trivial (Below.refl _ _) (Nat.le_refl _) (by simp) ?_; (case hd => rfl); (case hg => rfl); (case hr => first | (go_simp; done) | (go_simp; rfl)); (case hp => exact (Reps.one (show Kd.M Kd.string _ _ _ (⟨#[32]⟩ : ByteArray) [.string (⟨#[32]⟩ : ByteArray)] from rfl) (Reps.one (show Kd.M Kd.string _ _ _ (⟨#[9]⟩ : ByteArray) [.string (⟨#[9]⟩ : ByteArray)] from rfl) (Reps.one (show Kd.M Kd.string _ _ _ (⟨#[10]⟩ : ByteArray) [.string (⟨#[10]⟩ : ByteArray)] from rfl) (Reps.one (show Kd.M Kd.string _ _ _ (⟨#[13]⟩ : ByteArray) [.string (⟨#[13]⟩ : ByteArray)] from rfl) (Reps.one (show Kd.M Kd.string _ _ _ (⟨#[35, 32, 39, 120, 32, 34, 32, 36, 10]⟩ : ByteArray) [.string (⟨#[35, 32, 39, 120, 32, 34, 32, 36, 10]⟩ : ByteArray)] from rfl) (Reps.one (show Kd.M Kd.string _ _ _ (⟨#[35, 10]⟩ : ByteArray) [.string (⟨#[35, 10]⟩ : ByteArray)] from rfl) (Reps.none _ _)))))))); intro v205 w16 ho17 hb hg_ hnew_; clear hg_ hnew_; (first | rw [← Ny204.out] at ho17 | (simp only [Int.reduceToNat] at ho17; rw [← Ny204.out] at ho17)); have n0_ := Aside0.mk (Kd.R_lower ho17 (below_size (by repeat (first | (with_reducible first | exact HB.out | apply below_alloc | apply pw_below_drewN | apply below_drew1) | exact HB.out)))); have n1_ := Aside0.mk (below_step (by repeat (first | (with_reducible first | exact HB.out | apply below_alloc | apply pw_below_drewN | apply below_drew1) | exact HB.out)) hb); clear HB; have HO206 := n0_; have HB := n1_; clear n0_ n1_; clear hb ho17; have p207 : 0 ≤ (x6_1 : Int) := of_decide_eq_true (by first | (with_reducible assumption) | assumption); have q207 : x6_1 < (l1.length : Int) := of_decide_eq_true (by first | (with_reducible assumption) | assumption); obtain ⟨ad207, e207, hx207_0⟩ := Kd.at_int HR1.out x6_1 p207 q207; cases e207; replace hx207_0 := (HB.out.cell (World.block_lt_of_cell? w _ hx207_0)).trans hx207_0; replace p207 := eq_true p207; replace q207 := eq_true q207; obtain ⟨Ao18, co18, eo18⟩ := Kd.R_slice HO206.out; subst eo18; have p208 : 0 ≤ ((ji12) : Int) := of_decide_eq_true (by first | (with_reducible assumption) | assumption); have q208 : (ji12) < (y204.length : Int) := of_decide_eq_true (by first | (with_reducible assumption) | assumption); obtain ⟨ad208, e208, hx208_0⟩ := Kd.at_string (Kd.R_reads' HO206.out).2.2 (ji12) p208 q208; cases e208; replace p208 := eq_true p208; replace q208 := eq_true q208)); try go_wp2_with (first | ((with_reducible refine gate_dst (N := 31) rfl ?_); (try (refine gate_guard (by rfl) ?_; dsimp only)); refine Kd.R_lit Kd.string _ 9 ?hg (N := 31) ?hd (xs := ([(⟨#[32]⟩ : ByteArray), (⟨#[9]⟩ : ByteArray), (⟨#[10]⟩ : ByteArray), (⟨#[13]⟩ : ByteArray), (⟨#[35, 32, 39, 120, 32, 34, 32, 36, 10]⟩ : ByteArray), (⟨#[35, 10]⟩ : ByteArray)] : List ByteArray)) (inner := [.string (⟨#[32]⟩ : ByteArray), .string (⟨#[9]⟩ : ByteArray), .string (⟨#[10]⟩ : ByteArray), .string (⟨#[13]⟩ : ByteArray), .string (⟨#[35, 32, 39, 120, 32, 34, 32, 36, 10]⟩ : ByteArray), .string (⟨#[35, 10]⟩ : ByteArray)]) (ok := fun _ => True) (okp := fun _ => True) ?hr ?hp (fun _ hk => hk) trivial (Below.refl _ _) (Nat.le_refl _) (by simp) ?_; (case hd => rfl); (case hg => rfl); (case hr => first | (go_simp; done) | (go_simp; rfl)); (case hp => exact (Reps.one (show Kd.M Kd.string _ _ _ (⟨#[32]⟩ : ByteArray) [.string (⟨#[32]⟩ : ByteArray)] from rfl) (Reps.one (show Kd.M Kd.string _ _ _ (⟨#[9]⟩ : ByteArray) [.string (⟨#[9]⟩ : ByteArray)] from rfl) (Reps.one (show Kd.M Kd.string _ _ _ (⟨#[10]⟩ : ByteArray) [.string (⟨#[10]⟩ : ByteArray)] from rfl) (Reps.one (show Kd.M Kd.string _ _ _ (⟨#[13]⟩ : ByteArray) [.string (⟨#[13]⟩ : ByteArray)] from rfl) (Reps.one (show Kd.M Kd.string _ _ _ (⟨#[35, 32, 39, 120, 32, 34, 32, 36, 10]⟩ : ByteArray) [.string (⟨#[35, 32, 39, 120, 32, 34, 32, 36, 10]⟩ : ByteArray)] from rfl) (Reps.one (show Kd.M Kd.string _ _ _ (⟨#[35, 10]⟩ : ByteArray) [.string (⟨#[35, 10]⟩ : ByteArray)] from rfl) (Reps.none _ _)))))))); intro v205 w16 ho17 hb hg_ hnew_; clear hg_ hnew_; (first | rw [← Ny204.out] at ho17 | (simp only [Int.reduceToNat] at ho17; rw [← Ny204.out] at ho17)); have n0_ := Aside0.mk (Kd.R_lower ho17 (below_size (by repeat (first | (with_reducible first | exact HB.out | apply below_alloc | apply pw_below_drewN | apply below_drew1) | exact HB.out)))); have n1_ := Aside0.mk (below_step (by repeat (first | (with_reducible first | exact HB.out | apply below_alloc | apply pw_below_drewN | apply below_drew1) | exact HB.out)) hb); clear HB; have HO206 := n0_; have HB := n1_; clear n0_ n1_; clear hb ho17; have p207 : 0 ≤ (x6_1 : Int) := of_decide_eq_true (by first | (with_reducible assumption) | assumption); have q207 : x6_1 < (l1.length : Int) := of_decide_eq_true (by first | (with_reducible assumption) | assumption); obtain ⟨ad207, e207, hx207_0⟩ := Kd.at_int HR1.out x6_1 p207 q207; cases e207; replace hx207_0 := (HB.out.cell (World.block_lt_of_cell? w _ hx207_0)).trans hx207_0; replace p207 := eq_true p207; replace q207 := eq_true q207; obtain ⟨Ao18, co18, eo18⟩ := Kd.R_slice HO206.out; subst eo18; have p208 : 0 ≤ ((ji12) : Int) := of_decide_eq_true (by first | (with_reducible assumption) | assumption); have q208 : (ji12) < (y204.length : Int) := of_decide_eq_true (by first | (with_reducible assumption) | assumption); obtain ⟨ad208, e208, hx208_0⟩ := Kd.at_string (Kd.R_reads' HO206.out).2.2 (ji12) p208 q208; cases e208; replace p208 := eq_true p208; replace q208 := eq_true q208)))
                        go_roundg k1
                        case measure => have := HK1.out; omega
                        case rel => exact ⟨(x5_1 ++ (rdOf ByteArray.empty y204 (ji12))), (wrap64 (x6_1 + 1)), (by first | rfl | (simp; done) | (simp only [← hji12] <;> (first | rfl | (simp; done) | (simp [i64_w]; done))) | (simp [*]; done)), (by first | rfl | (simp; done) | (simp [i64_w]; done) | (simp [*]; done) | (simp [*, i64_w]; done) | (simp [*]; unfold wrap64; omega)), H', ⟨by have := HK1.out; omega⟩, ⟨by repeat (first | (with_reducible first | exact HB.out | apply below_alloc | apply pw_below_drewN | apply below_drew1) | exact HB.out)⟩⟩
                      · rw [if_neg c15] at H
                        exact absurd H (by simp)
                    · rw [if_neg c14] at H
                      exact absurd H (by simp)
                  · rw [if_neg c13] at H
                    exact absurd H (by simp)
                · rw [if_neg c11] at H
                  exact absurd H (by simp)
              · rw [if_neg c10] at H
                have c10b0 : decide (x6_1 < 12) = false := decide_eq_false c10
                clear c10
                have H' := Aside0.mk H
                clear H
                go_wp2
                repeat (go_quiet (fail); try go_wp2)
                go_meet
                case rel => exact ⟨_, (x5_1), (by first | rfl | (simp; done) | (simp [i64_w]; done) | (simp [*]; done) | (simp [*, i64_w]; done) | (simp [*]; unfold wrap64; omega)), H', ⟨by have := HK1.out; first | omega | exact Nat.le_refl _⟩, ⟨by repeat (first | (with_reducible first | exact HB.out | apply below_alloc | apply pw_below_drewN | apply below_drew1) | exact HB.out)⟩⟩
            · rw [if_neg c9] at H
              have c9b0 : decide (x6_1 < (l1.length : Int)) = false := decide_eq_false c9
              clear c9
              (first | rw [c9b0] | (simp only [i64_w, i32_w]; rw [c9b0]) | skip)
              have H' := Aside0.mk H
              clear H
              go_wp2
              repeat (go_quiet (fail); try go_wp2)
              go_meet
              case rel => exact ⟨_, (x5_1), (by first | rfl | (simp; done) | (simp [i64_w]; done) | (simp [*]; done) | (simp [*, i64_w]; done) | (simp [*]; unfold wrap64; omega)), H', ⟨by have := HK1.out; first | omega | exact Nat.le_refl _⟩, ⟨by repeat (first | (with_reducible first | exact HB.out | apply below_alloc | apply pw_below_drewN | apply below_drew1) | exact HB.out)⟩⟩
      case rest =>
        clear HC7
        try clear c1
        try clear p2
        try clear q2
        try clear hx2
        try clear c4
        try clear c5
        try clear c5b0
        try clear c5b1
        try clear c6
        try clear p6
        try clear c9
        try clear c9b0
        try clear c10
        try clear c10b0
        try clear c11
        try clear c11b0
        try clear c13
        try clear c13b0
        try clear c14
        try clear c14b0
        try clear c15
        try clear c15b0
        try clear c15b1
        try clear c15b2
        try clear hx207_0
        try clear hx208_0
        try clear p2
        try clear p207
        try clear p208
        try clear q207
        try clear q208
        obtain ⟨kq, x5_6, rfl, HA, HJ6, HB⟩ := hcut
        cases kq with
        | zero => exact absurd HA.out (by simp [templelaw2_LexBlanks.j1])
        | succ kj6 =>
          have H := HA.out
          clear HA
          simp only [templelaw2_LexBlanks.j1] at H
          replace H := Option.bind_eq_some_iff.mp H
          obtain ⟨⟨t209, t210, t211⟩, A190, H⟩ := H
          replace H : (if x5_6.size + a0.size ≤ 9223372036854775807 then ((lex_Lex.f kj6 (x5_6 ++ a0)).bind fun bt214 => ((templelaw0_Num.f t211).bind fun t219 => (if t219 = 0 then ((templelaw0_Num.f bt214.2.2).bind fun t222 => (if t222 = 0 then (if (t209.length : Int) = (bt214.1.length : Int) then (templelaw2_LexBlanks.l1 kj6 x5_6 t209 bt214.1 0) else (none)) else (none))) else ((templelaw0_Num.f bt214.2.2).bind fun t220 => ((templelaw0_Num.f t211).bind fun t221 => (if t220 = t221 then (some (bt214.2.1 == (wrap64 (t210 + (x5_6.size : Int))))) else (none))))))) else (none)) = some r := H
          have A19 := Aside0.mk A190
          clear A190
          by_cases c20 : x5_6.size + a0.size ≤ 9223372036854775807
          · rw [if_pos c20] at H
            have c20b0 := eq_true c20
            have c20b1 : decide (x5_6.size + a0.size ≤ 9223372036854775807) = true := decide_eq_true c20
            try have c20b2 : (9223372036854775807 < x5_6.size + a0.size) = False := eq_false (Nat.not_lt.2 c20)
            replace H := Option.bind_eq_some_iff.mp H
            obtain ⟨⟨t214, t215, t216⟩, A210, H⟩ := H
            replace H : ((templelaw0_Num.f t211).bind fun t219 => (if t219 = 0 then ((templelaw0_Num.f t216).bind fun t222 => (if t222 = 0 then (if (t209.length : Int) = (t214.length : Int) then (templelaw2_LexBlanks.l1 kj6 x5_6 t209 t214 0) else (none)) else (none))) else ((templelaw0_Num.f t216).bind fun t220 => ((templelaw0_Num.f t211).bind fun t221 => (if t220 = t221 then (some (t215 == (wrap64 (t210 + (x5_6.size : Int))))) else (none)))))) = some r := H
            have A21 := Aside0.mk A210
            clear A210
            replace H := Option.bind_eq_some_iff.mp H
            obtain ⟨t219, A220, H⟩ := H
            replace H : (if t219 = 0 then ((templelaw0_Num.f t216).bind fun t222 => (if t222 = 0 then (if (t209.length : Int) = (t214.length : Int) then (templelaw2_LexBlanks.l1 kj6 x5_6 t209 t214 0) else (none)) else (none))) else ((templelaw0_Num.f t216).bind fun t220 => ((templelaw0_Num.f t211).bind fun t221 => (if t220 = t221 then (some (t215 == (wrap64 (t210 + (x5_6.size : Int))))) else (none))))) = some r := H
            have A22 := Aside0.mk A220
            clear A220
            by_cases c23 : t219 = 0
            · rw [if_pos c23] at H
              have c23b0 : (t219 == 0) = true := beq_iff_eq.mpr c23
              have c23b1 : (t219 != 0) = false := bne_eq_false_iff_eq.mpr c23
              clear c23
              replace H := Option.bind_eq_some_iff.mp H
              obtain ⟨t222, A240, H⟩ := H
              replace H : (if t222 = 0 then (if (t209.length : Int) = (t214.length : Int) then (templelaw2_LexBlanks.l1 kj6 x5_6 t209 t214 0) else (none)) else (none)) = some r := H
              have A24 := Aside0.mk A240
              clear A240
              by_cases c25 : t222 = 0
              · rw [if_pos c25] at H
                have c25b0 : (t222 == 0) = true := beq_iff_eq.mpr c25
                have c25b1 : (t222 != 0) = false := bne_eq_false_iff_eq.mpr c25
                clear c25
                by_cases c26 : (t209.length : Int) = (t214.length : Int)
                · rw [if_pos c26] at H
                  have c26b0 : ((t209.length : Int) == (t214.length : Int)) = true := beq_iff_eq.mpr c26
                  have c26b1 : ((t209.length : Int) != (t214.length : Int)) = false := bne_eq_false_iff_eq.mpr c26
                  have c26b2 : (t209.length == t214.length) = true := by first | simpa using c26 | (simp at c26 ⊢; omega)
                  clear c26
                  have H' := Aside0.mk H
                  clear H
                  go_wp2_with (first | (go_at_call 10; (with_reducible refine (lex_Lex.calls kj6 a0 t209 t210 t211 _ A19.out).mono ?_); rintro e w27 ⟨v212, rfl, ho0, hb⟩; have n0_ := Aside0.mk (Kd.R_lower ho0 (below_size (by repeat (first | (with_reducible first | exact HB.out | apply below_alloc | apply pw_below_drewN | apply below_drew1) | exact HB.out)))); have n1_ := Aside0.mk (below_step (by repeat (first | (with_reducible first | exact HB.out | apply below_alloc | apply pw_below_drewN | apply below_drew1) | exact HB.out)) hb); clear HB; have HO213 := n0_; have HB := n1_; clear n0_ n1_; (try clear hb); (try clear hb2); (try clear hk); (try clear hi); (try clear ho0)) | (go_at_call 10; (with_reducible refine (lex_Lex.calls kj6 (x5_6 ++ a0) t214 t215 t216 _ A21.out).mono ?_); rintro e w28 ⟨v217, rfl, ho0, hb⟩; have n0_ := Aside0.mk (Kd.R_elder' (by (with_reducible repeat (first | apply Kd.R_alloc | apply Kd.R_drewN | apply Kd.R_drew)); exact HO213.out) (Kd.R_base ho0) hb); have n1_ := Aside0.mk (Kd.R_lower (Kd.R_new' ho0 (Kd.R_lt (by (with_reducible repeat (first | apply Kd.R_alloc | apply Kd.R_drewN | apply Kd.R_drew)); exact HO213.out))) (below_size (by repeat (first | (with_reducible first | exact HB.out | apply below_alloc | apply pw_below_drewN | apply below_drew1) | exact HB.out)))); have n2_ := Aside0.mk (below_step (by repeat (first | (with_reducible first | exact HB.out | apply below_alloc | apply pw_below_drewN | apply below_drew1) | exact HB.out)) hb); clear HO213; clear HB; have HO213 := n0_; have HO218 := n1_; have HB := n2_; clear n0_ n1_ n2_; (try clear hb); (try clear hb2); (try clear hk); (try clear hi); (try clear ho0)) | (go_at_call 13; (with_reducible refine (templelaw0_Num.calls t211 t219 _ A22.out).mono ?_); rintro e w' ⟨rfl, ⟨nd, rfl⟩⟩; (try first | exact ⟨rfl, _, World.drewN_drewN _ _ _⟩ | exact ⟨rfl, _, Eq.trans (World.drewN_drewN _ _ _) (congrArg (World.drewN _) (Nat.add_assoc _ _ _))⟩)) | (go_at_call 13; (with_reducible refine (templelaw0_Num.calls t216 t222 _ A24.out).mono ?_); rintro e w' ⟨rfl, ⟨nd, rfl⟩⟩; (try first | exact ⟨rfl, _, World.drewN_drewN _ _ _⟩ | exact ⟨rfl, _, Eq.trans (World.drewN_drewN _ _ _) (congrArg (World.drewN _) (Nat.add_assoc _ _ _))⟩); obtain ⟨Ao29, co29, eo29⟩ := Kd.R_slice HO213.out; subst eo29; obtain ⟨Ao30, co30, eo30⟩ := Kd.R_slice HO218.out; subst eo30))
                  repeat (go_quiet (first | (go_at_call 10; (with_reducible refine (lex_Lex.calls kj6 a0 t209 t210 t211 _ A19.out).mono ?_); rintro e w27 ⟨v212, rfl, ho0, hb⟩; have n0_ := Aside0.mk (Kd.R_lower ho0 (below_size (by repeat (first | (with_reducible first | exact HB.out | apply below_alloc | apply pw_below_drewN | apply below_drew1) | exact HB.out)))); have n1_ := Aside0.mk (below_step (by repeat (first | (with_reducible first | exact HB.out | apply below_alloc | apply pw_below_drewN | apply below_drew1) | exact HB.out)) hb); clear HB; have HO213 := n0_; have HB := n1_; clear n0_ n1_; (try clear hb); (try clear hb2); (try clear hk); (try clear hi); (try clear ho0)) | (go_at_call 10; (with_reducible refine (lex_Lex.calls kj6 (x5_6 ++ a0) t214 t215 t216 _ A21.out).mono ?_); rintro e w28 ⟨v217, rfl, ho0, hb⟩; have n0_ := Aside0.mk (Kd.R_elder' (by (with_reducible repeat (first | apply Kd.R_alloc | apply Kd.R_drewN | apply Kd.R_drew)); exact HO213.out) (Kd.R_base ho0) hb); have n1_ := Aside0.mk (Kd.R_lower (Kd.R_new' ho0 (Kd.R_lt (by (with_reducible repeat (first | apply Kd.R_alloc | apply Kd.R_drewN | apply Kd.R_drew)); exact HO213.out))) (below_size (by repeat (first | (with_reducible first | exact HB.out | apply below_alloc | apply pw_below_drewN | apply below_drew1) | exact HB.out)))); have n2_ := Aside0.mk (below_step (by repeat (first | (with_reducible first | exact HB.out | apply below_alloc | apply pw_below_drewN | apply below_drew1) | exact HB.out)) hb); clear HO213; clear HB; have HO213 := n0_; have HO218 := n1_; have HB := n2_; clear n0_ n1_ n2_; (try clear hb); (try clear hb2); (try clear hk); (try clear hi); (try clear ho0)) | (go_at_call 13; (with_reducible refine (templelaw0_Num.calls t211 t219 _ A22.out).mono ?_); rintro e w' ⟨rfl, ⟨nd, rfl⟩⟩; (try first | exact ⟨rfl, _, World.drewN_drewN _ _ _⟩ | exact ⟨rfl, _, Eq.trans (World.drewN_drewN _ _ _) (congrArg (World.drewN _) (Nat.add_assoc _ _ _))⟩)) | (go_at_call 13; (with_reducible refine (templelaw0_Num.calls t216 t222 _ A24.out).mono ?_); rintro e w' ⟨rfl, ⟨nd, rfl⟩⟩; (try first | exact ⟨rfl, _, World.drewN_drewN _ _ _⟩ | exact ⟨rfl, _, Eq.trans (World.drewN_drewN _ _ _) (congrArg (World.drewN _) (Nat.add_assoc _ _ _))⟩); obtain ⟨Ao29, co29, eo29⟩ := Kd.R_slice HO213.out; subst eo29; obtain ⟨Ao30, co30, eo30⟩ := Kd.R_slice HO218.out; subst eo30)); try go_wp2_with (first | (go_at_call 10; (with_reducible refine (lex_Lex.calls kj6 a0 t209 t210 t211 _ A19.out).mono ?_); rintro e w27 ⟨v212, rfl, ho0, hb⟩; have n0_ := Aside0.mk (Kd.R_lower ho0 (below_size (by repeat (first | (with_reducible first | exact HB.out | apply below_alloc | apply pw_below_drewN | apply below_drew1) | exact HB.out)))); have n1_ := Aside0.mk (below_step (by repeat (first | (with_reducible first | exact HB.out | apply below_alloc | apply pw_below_drewN | apply below_drew1) | exact HB.out)) hb); clear HB; have HO213 := n0_; have HB := n1_; clear n0_ n1_; (try clear hb); (try clear hb2); (try clear hk); (try clear hi); (try clear ho0)) | (go_at_call 10; (with_reducible refine (lex_Lex.calls kj6 (x5_6 ++ a0) t214 t215 t216 _ A21.out).mono ?_); rintro e w28 ⟨v217, rfl, ho0, hb⟩; have n0_ := Aside0.mk (Kd.R_elder' (by (with_reducible repeat (first | apply Kd.R_alloc | apply Kd.R_drewN | apply Kd.R_drew)); exact HO213.out) (Kd.R_base ho0) hb); have n1_ := Aside0.mk (Kd.R_lower (Kd.R_new' ho0 (Kd.R_lt (by (with_reducible repeat (first | apply Kd.R_alloc | apply Kd.R_drewN | apply Kd.R_drew)); exact HO213.out))) (below_size (by repeat (first | (with_reducible first | exact HB.out | apply below_alloc | apply pw_below_drewN | apply below_drew1) | exact HB.out)))); have n2_ := Aside0.mk (below_step (by repeat (first | (with_reducible first | exact HB.out | apply below_alloc | apply pw_below_drewN | apply below_drew1) | exact HB.out)) hb); clear HO213; clear HB; have HO213 := n0_; have HO218 := n1_; have HB := n2_; clear n0_ n1_ n2_; (try clear hb); (try clear hb2); (try clear hk); (try clear hi); (try clear ho0)) | (go_at_call 13; (with_reducible refine (templelaw0_Num.calls t211 t219 _ A22.out).mono ?_); rintro e w' ⟨rfl, ⟨nd, rfl⟩⟩; (try first | exact ⟨rfl, _, World.drewN_drewN _ _ _⟩ | exact ⟨rfl, _, Eq.trans (World.drewN_drewN _ _ _) (congrArg (World.drewN _) (Nat.add_assoc _ _ _))⟩)) | (go_at_call 13; (with_reducible refine (templelaw0_Num.calls t216 t222 _ A24.out).mono ?_); rintro e w' ⟨rfl, ⟨nd, rfl⟩⟩; (try first | exact ⟨rfl, _, World.drewN_drewN _ _ _⟩ | exact ⟨rfl, _, Eq.trans (World.drewN_drewN _ _ _) (congrArg (World.drewN _) (Nat.add_assoc _ _ _))⟩); obtain ⟨Ao29, co29, eo29⟩ := Kd.R_slice HO213.out; subst eo29; obtain ⟨Ao30, co30, eo30⟩ := Kd.R_slice HO218.out; subst eo30)))
                  go_loopg [13] kj6 (fun kq v13 w' => ∃ (x13_2 : Int), v13 = .int .i64 x13_2 ∧ Aside0 (templelaw2_LexBlanks.l1 kq x5_6 t209 t214 x13_2 = some r) ∧ Aside0 (kq ≤ kj6) ∧ Aside0 (Kd.R k33 33 w' w.heap.size (fun k_ => some k_ ≠ ((.slice Ao30 t214.length co30) : Value).ownBlock) (.slice Ao29 t209.length co29) t209) ∧ Aside0 (Kd.R k33 33 w' w.heap.size (fun k_ => some k_ ≠ ((.slice Ao29 t209.length co29) : Value).ownBlock) (.slice Ao30 t214.length co30) t214) ∧ Aside0 (Below w.heap.size w w'))
                  case atStart => exact ⟨(0), (by first | rfl | (simp; done) | (simp [i64_w]; done) | (simp [*]; done) | (simp [*, i64_w]; done) | (simp [*]; unfold wrap64; omega)), H', ⟨Nat.le_refl _⟩, ⟨by (with_reducible repeat (first | apply Kd.R_alloc | apply Kd.R_drewN | apply Kd.R_drew)); exact Kd.R_mono HO213.out (fun _ hk => hk.2)⟩, ⟨by (with_reducible repeat (first | apply Kd.R_alloc | apply Kd.R_drewN | apply Kd.R_drew)); exact Kd.R_mono HO218.out (fun _ hk => hk.2)⟩, ⟨by repeat (first | (with_reducible first | exact HB.out | apply below_alloc | apply pw_below_drewN | apply below_drew1) | exact HB.out)⟩⟩
                  case round =>
                    clear H'
                    try clear c1
                    try clear c2
                    try clear p2
                    try clear q2
                    try clear hx2
                    try clear c4
                    try clear c5
                    try clear c5b0
                    try clear c5b1
                    try clear c6
                    try clear p6
                    try clear c9
                    try clear c9b0
                    try clear c10
                    try clear c10b0
                    try clear c11
                    try clear c11b0
                    try clear c13
                    try clear c13b0
                    try clear c14
                    try clear c14b0
                    try clear c15
                    try clear c15b0
                    try clear c15b1
                    try clear c15b2
                    try clear c20
                    try clear c20b0
                    try clear c20b1
                    try clear c20b2
                    try clear p20
                    try clear q20
                    try clear hx20
                    try clear c23
                    try clear c23b0
                    try clear c23b1
                    try clear c25
                    try clear c25b0
                    try clear c25b1
                    try clear c26
                    try clear c26b0
                    try clear c26b1
                    try clear c26b2
                    try clear hx207_0
                    try clear hx208_0
                    try clear p2
                    try clear p207
                    try clear p208
                    try clear p6
                    try clear q2
                    try clear q207
                    try clear q208
                    obtain ⟨x13_2, rfl, HA, HK2, HO_7, HO_10, HB⟩ := hrel
                    cases gk with
                    | zero => exact absurd HA.out (by simp [templelaw2_LexBlanks.l1])
                    | succ k2 =>
                      have H := HA.out
                      clear HA
                      simp only [templelaw2_LexBlanks.l1] at H
                      by_cases c31 : x13_2 < (t209.length : Int)
                      · rw [if_pos c31] at H
                        have c31b0 : decide (x13_2 < (t209.length : Int)) = true := decide_eq_true c31
                        clear c31
                        by_cases c32 : 0 ≤ x13_2
                        · rw [if_pos c32] at H
                          have c32b0 : decide (0 ≤ x13_2) = true := decide_eq_true c32
                          clear c32
                          by_cases c33 : x13_2 < (t214.length : Int)
                          · rw [if_pos c33] at H
                            have c33b0 : decide (x13_2 < (t214.length : Int)) = true := decide_eq_true c33
                            clear c33
                            by_cases c34 : (!(((rd_T33 t214 x13_2).f0) == ((rd_T33 t209 x13_2).f0)) || (!((wrap64 (((rd_T33 t214 x13_2).f1) - (x5_6.size : Int))) == ((rd_T33 t209 x13_2).f1)) || (!((((rd_T33 t214 x13_2).f2).toList) == (((rd_T33 t209 x13_2).f2).toList)) || (!(((rd_T33 t214 x13_2).f3) == ((rd_T33 t209 x13_2).f3)) || (!(((rd_T33 t214 x13_2).f4) == ((rd_T33 t209 x13_2).f4))))))) = true
                            · rw [if_pos c34] at H
                              exact absurd H (by simp)
                            · rw [if_neg c34] at H
                              have c34b0 : (!(((rd_T33 t214 x13_2).f0) == ((rd_T33 t209 x13_2).f0)) || (!((wrap64 (((rd_T33 t214 x13_2).f1) - (x5_6.size : Int))) == ((rd_T33 t209 x13_2).f1)) || (!((((rd_T33 t214 x13_2).f2).toList) == (((rd_T33 t209 x13_2).f2).toList)) || (!(((rd_T33 t214 x13_2).f3) == ((rd_T33 t209 x13_2).f3)) || (!(((rd_T33 t214 x13_2).f4) == ((rd_T33 t209 x13_2).f4))))))) = false := by simpa using c34
                              clear c34
                              have H' := Aside0.mk H
                              clear H
                              have p223 : 0 ≤ (x13_2 : Int) := of_decide_eq_true (by first | (with_reducible assumption) | assumption)
                              have q223 : x13_2 < (t214.length : Int) := of_decide_eq_true (by first | (with_reducible assumption) | assumption)
                              obtain ⟨ad223, e223, hx223_0, hx223_1, hx223_2, hx223_3, hx223_4⟩ := at_T33 (Kd.R_reads' HO_10.out).2.2 x13_2 p223 q223
                              cases e223
                              replace p223 := eq_true p223
                              replace q223 := eq_true q223
                              go_wp2_with (first | ((with_reducible refine gate_dst (N := 14) rfl ?_); (try (refine gate_guard (by rfl) ?_; dsimp only)); refine box_event ?hg (N := 14) ?hd (cs := #[.int .i64 0, .int .i64 0, .string (⟨#[]⟩ : ByteArray), .int .i64 0, .int .i64 0]) (t := 33) ?hr ?_; (case hd => rfl); (case hg => rfl); (case hr => first | (go_simp; done) | (go_simp; rfl)); intro gb224 hg w35 hbox hb; have n0_ := Aside0.mk (Kd.R_below (Kd.R_elderB (by (with_reducible repeat (first | apply Kd.R_alloc | apply Kd.R_drewN | apply Kd.R_drew)); exact HO_7.out) gb224 (Nat.le_of_eq hg.symm)) hb); have n1_ := Aside0.mk (Kd.R_below (Kd.R_elderB (by (with_reducible repeat (first | apply Kd.R_alloc | apply Kd.R_drewN | apply Kd.R_drew)); exact HO_10.out) gb224 (Nat.le_of_eq hg.symm)) hb); have n2_ := Aside0.mk (below_step (by repeat (first | (with_reducible first | exact HB.out | apply below_alloc | apply pw_below_drewN | apply below_drew1) | exact HB.out)) hb); have n3_ := Aside0.mk (hbox); have n4_ := Aside0.mk ((by rw [hg]; exact (below_size (by repeat (first | (with_reducible first | exact HB.out | apply below_alloc | apply pw_below_drewN | apply below_drew1) | exact HB.out))) : w.heap.size ≤ gb224)); have n5_ := Aside0.mk ((by rw [hg]; exact (below_size (by repeat (first | (with_reducible first | exact HB.out | apply below_alloc | apply pw_below_drewN | apply below_drew1) | exact HB.out))) : w.heap.size ≤ gb224)); clear HO_7; clear HO_10; clear HB; have HO_7 := n0_; have HO_10 := n1_; have HB := n2_; have BK224 := n3_; have GW224 := n4_; have GE224 := n5_; clear n0_ n1_ n2_ n3_ n4_ n5_; clear hb hbox hg; have hcz36_0 : w35.cell? ⟨gb224, 0, none⟩ = some (.int .i64 0) := (blk_cell BK224.out 0).trans rfl; have hcz36_1 : w35.cell? ⟨gb224, 1, none⟩ = some (.int .i64 0) := (blk_cell BK224.out 1).trans rfl; have hcz36_2 : w35.cell? ⟨gb224, 2, none⟩ = some (.string (⟨#[]⟩ : ByteArray)) := (blk_cell BK224.out 2).trans rfl; have hcz36_3 : w35.cell? ⟨gb224, 3, none⟩ = some (.int .i64 0) := (blk_cell BK224.out 3).trans rfl; have hcz36_4 : w35.cell? ⟨gb224, 4, none⟩ = some (.int .i64 0) := (blk_cell BK224.out 4).trans rfl; have hcw_1 : ((((((w35.setCell ⟨gb224, 0, none⟩ (.int .i64 ((rd_T33 t214 x13_2).f0))).setCell ⟨gb224, 1, none⟩ (.int .i64 ((rd_T33 t214 x13_2).f1))).setCell ⟨gb224, 2, none⟩ (.string ((rd_T33 t214 x13_2).f2))).setCell ⟨gb224, 3, none⟩ (.int .i64 ((rd_T33 t214 x13_2).f3))).setCell ⟨gb224, 4, none⟩ (.int .i64 ((rd_T33 t214 x13_2).f4))).setCell ⟨gb224, 1, none⟩ (.int .i64 (wrap64 (((rd_T33 t214 x13_2).f1) - (x5_6.size : Int))))).cell? ⟨gb224, 1, none⟩ = some (.int .i64 (wrap64 (((rd_T33 t214 x13_2).f1) - (x5_6.size : Int)))) := (World.cell?_setCell_same _ _ _ ((World.cell?_setCell_other _ _ _ _ (by simp)).trans ((World.cell?_setCell_other _ _ _ _ (by simp)).trans ((World.cell?_setCell_other _ _ _ _ (by simp)).trans (World.cell?_setCell_same _ _ _ ((World.cell?_setCell_other _ _ _ _ (by simp)).trans hcz36_1)))))); have hfz36_0 := blk_frozen BK224.out 0; have hfz36_1 := blk_frozen BK224.out 1; have hfz36_2 := blk_frozen BK224.out 2; have hfz36_3 := blk_frozen BK224.out 3; have hfz36_4 := blk_frozen BK224.out 4; have p225 : 0 ≤ (x13_2 : Int) := of_decide_eq_true (by first | (with_reducible assumption) | assumption); have q225 : x13_2 < (t209.length : Int) := of_decide_eq_true (by first | (with_reducible assumption) | assumption); obtain ⟨ad225, e225, hx225_0, hx225_1, hx225_2, hx225_3, hx225_4⟩ := at_T33 (Kd.R_reads' HO_7.out).2.2 x13_2 p225 q225; cases e225; have hn225_0 : ad225.block ≠ gb224 := Kd.own_blk (by first | exact Kd.R_ne HO_7.out BK224.out (by decide) | (intro he_; have q_ := HO_7.out.1 _ he_.symm; first | exact q_.2 rfl | exact q_.1.2 rfl | exact q_.1.1.2 rfl)); have hn225_1 : ad225.block ≠ gb224 := Kd.own_blk (by first | exact Kd.R_ne HO_7.out BK224.out (by decide) | (intro he_; have q_ := HO_7.out.1 _ he_.symm; first | exact q_.2 rfl | exact q_.1.2 rfl | exact q_.1.1.2 rfl)); have hn225_2 : ad225.block ≠ gb224 := Kd.own_blk (by first | exact Kd.R_ne HO_7.out BK224.out (by decide) | (intro he_; have q_ := HO_7.out.1 _ he_.symm; first | exact q_.2 rfl | exact q_.1.2 rfl | exact q_.1.1.2 rfl)); have hn225_3 : ad225.block ≠ gb224 := Kd.own_blk (by first | exact Kd.R_ne HO_7.out BK224.out (by decide) | (intro he_; have q_ := HO_7.out.1 _ he_.symm; first | exact q_.2 rfl | exact q_.1.2 rfl | exact q_.1.1.2 rfl)); have hn225_4 : ad225.block ≠ gb224 := Kd.own_blk (by first | exact Kd.R_ne HO_7.out BK224.out (by decide) | (intro he_; have q_ := HO_7.out.1 _ he_.symm; first | exact q_.2 rfl | exact q_.1.2 rfl | exact q_.1.1.2 rfl)); have hn225_5 : ad225.block ≠ gb224 := Kd.own_blk (by first | exact Kd.R_ne HO_7.out BK224.out (by decide) | (intro he_; have q_ := HO_7.out.1 _ he_.symm; first | exact q_.2 rfl | exact q_.1.2 rfl | exact q_.1.1.2 rfl)); replace hx225_0 := (cell_far (p := ⟨gb224, 0, none⟩) (by first | (rw [add_block]; exact hn225_0) | (show (Addr.add _ _).block ≠ _; rw [add_block]; exact hn225_0) | exact hn225_0) (.int .i64 ((rd_T33 t214 x13_2).f0))).trans hx225_0; replace hx225_1 := (cell_far (p := ⟨gb224, 0, none⟩) (by first | (rw [add_block]; exact hn225_0) | (show (Addr.add _ _).block ≠ _; rw [add_block]; exact hn225_0) | exact hn225_0) (.int .i64 ((rd_T33 t214 x13_2).f0))).trans hx225_1; replace hx225_2 := (cell_far (p := ⟨gb224, 0, none⟩) (by first | (rw [add_block]; exact hn225_0) | (show (Addr.add _ _).block ≠ _; rw [add_block]; exact hn225_0) | exact hn225_0) (.int .i64 ((rd_T33 t214 x13_2).f0))).trans hx225_2; replace hx225_3 := (cell_far (p := ⟨gb224, 0, none⟩) (by first | (rw [add_block]; exact hn225_0) | (show (Addr.add _ _).block ≠ _; rw [add_block]; exact hn225_0) | exact hn225_0) (.int .i64 ((rd_T33 t214 x13_2).f0))).trans hx225_3; replace hx225_4 := (cell_far (p := ⟨gb224, 0, none⟩) (by first | (rw [add_block]; exact hn225_0) | (show (Addr.add _ _).block ≠ _; rw [add_block]; exact hn225_0) | exact hn225_0) (.int .i64 ((rd_T33 t214 x13_2).f0))).trans hx225_4; replace hx225_0 := (cell_far (p := ⟨gb224, 1, none⟩) (by first | (rw [add_block]; exact hn225_1) | (show (Addr.add _ _).block ≠ _; rw [add_block]; exact hn225_1) | exact hn225_1) (.int .i64 ((rd_T33 t214 x13_2).f1))).trans hx225_0; replace hx225_1 := (cell_far (p := ⟨gb224, 1, none⟩) (by first | (rw [add_block]; exact hn225_1) | (show (Addr.add _ _).block ≠ _; rw [add_block]; exact hn225_1) | exact hn225_1) (.int .i64 ((rd_T33 t214 x13_2).f1))).trans hx225_1; replace hx225_2 := (cell_far (p := ⟨gb224, 1, none⟩) (by first | (rw [add_block]; exact hn225_1) | (show (Addr.add _ _).block ≠ _; rw [add_block]; exact hn225_1) | exact hn225_1) (.int .i64 ((rd_T33 t214 x13_2).f1))).trans hx225_2; replace hx225_3 := (cell_far (p := ⟨gb224, 1, none⟩) (by first | (rw [add_block]; exact hn225_1) | (show (Addr.add _ _).block ≠ _; rw [add_block]; exact hn225_1) | exact hn225_1) (.int .i64 ((rd_T33 t214 x13_2).f1))).trans hx225_3; replace hx225_4 := (cell_far (p := ⟨gb224, 1, none⟩) (by first | (rw [add_block]; exact hn225_1) | (show (Addr.add _ _).block ≠ _; rw [add_block]; exact hn225_1) | exact hn225_1) (.int .i64 ((rd_T33 t214 x13_2).f1))).trans hx225_4; replace hx225_0 := (cell_far (p := ⟨gb224, 2, none⟩) (by first | (rw [add_block]; exact hn225_2) | (show (Addr.add _ _).block ≠ _; rw [add_block]; exact hn225_2) | exact hn225_2) (.string ((rd_T33 t214 x13_2).f2))).trans hx225_0; replace hx225_1 := (cell_far (p := ⟨gb224, 2, none⟩) (by first | (rw [add_block]; exact hn225_2) | (show (Addr.add _ _).block ≠ _; rw [add_block]; exact hn225_2) | exact hn225_2) (.string ((rd_T33 t214 x13_2).f2))).trans hx225_1; replace hx225_2 := (cell_far (p := ⟨gb224, 2, none⟩) (by first | (rw [add_block]; exact hn225_2) | (show (Addr.add _ _).block ≠ _; rw [add_block]; exact hn225_2) | exact hn225_2) (.string ((rd_T33 t214 x13_2).f2))).trans hx225_2; replace hx225_3 := (cell_far (p := ⟨gb224, 2, none⟩) (by first | (rw [add_block]; exact hn225_2) | (show (Addr.add _ _).block ≠ _; rw [add_block]; exact hn225_2) | exact hn225_2) (.string ((rd_T33 t214 x13_2).f2))).trans hx225_3; replace hx225_4 := (cell_far (p := ⟨gb224, 2, none⟩) (by first | (rw [add_block]; exact hn225_2) | (show (Addr.add _ _).block ≠ _; rw [add_block]; exact hn225_2) | exact hn225_2) (.string ((rd_T33 t214 x13_2).f2))).trans hx225_4; replace hx225_0 := (cell_far (p := ⟨gb224, 3, none⟩) (by first | (rw [add_block]; exact hn225_3) | (show (Addr.add _ _).block ≠ _; rw [add_block]; exact hn225_3) | exact hn225_3) (.int .i64 ((rd_T33 t214 x13_2).f3))).trans hx225_0; replace hx225_1 := (cell_far (p := ⟨gb224, 3, none⟩) (by first | (rw [add_block]; exact hn225_3) | (show (Addr.add _ _).block ≠ _; rw [add_block]; exact hn225_3) | exact hn225_3) (.int .i64 ((rd_T33 t214 x13_2).f3))).trans hx225_1; replace hx225_2 := (cell_far (p := ⟨gb224, 3, none⟩) (by first | (rw [add_block]; exact hn225_3) | (show (Addr.add _ _).block ≠ _; rw [add_block]; exact hn225_3) | exact hn225_3) (.int .i64 ((rd_T33 t214 x13_2).f3))).trans hx225_2; replace hx225_3 := (cell_far (p := ⟨gb224, 3, none⟩) (by first | (rw [add_block]; exact hn225_3) | (show (Addr.add _ _).block ≠ _; rw [add_block]; exact hn225_3) | exact hn225_3) (.int .i64 ((rd_T33 t214 x13_2).f3))).trans hx225_3; replace hx225_4 := (cell_far (p := ⟨gb224, 3, none⟩) (by first | (rw [add_block]; exact hn225_3) | (show (Addr.add _ _).block ≠ _; rw [add_block]; exact hn225_3) | exact hn225_3) (.int .i64 ((rd_T33 t214 x13_2).f3))).trans hx225_4; replace hx225_0 := (cell_far (p := ⟨gb224, 4, none⟩) (by first | (rw [add_block]; exact hn225_4) | (show (Addr.add _ _).block ≠ _; rw [add_block]; exact hn225_4) | exact hn225_4) (.int .i64 ((rd_T33 t214 x13_2).f4))).trans hx225_0; replace hx225_1 := (cell_far (p := ⟨gb224, 4, none⟩) (by first | (rw [add_block]; exact hn225_4) | (show (Addr.add _ _).block ≠ _; rw [add_block]; exact hn225_4) | exact hn225_4) (.int .i64 ((rd_T33 t214 x13_2).f4))).trans hx225_1; replace hx225_2 := (cell_far (p := ⟨gb224, 4, none⟩) (by first | (rw [add_block]; exact hn225_4) | (show (Addr.add _ _).block ≠ _; rw [add_block]; exact hn225_4) | exact hn225_4) (.int .i64 ((rd_T33 t214 x13_2).f4))).trans hx225_2; replace hx225_3 := (cell_far (p := ⟨gb224, 4, none⟩) (by first | (rw [add_block]; exact hn225_4) | (show (Addr.add _ _).block ≠ _; rw [add_block]; exact hn225_4) | exact hn225_4) (.int .i64 ((rd_T33 t214 x13_2).f4))).trans hx225_3; replace hx225_4 := (cell_far (p := ⟨gb224, 4, none⟩) (by first | (rw [add_block]; exact hn225_4) | (show (Addr.add _ _).block ≠ _; rw [add_block]; exact hn225_4) | exact hn225_4) (.int .i64 ((rd_T33 t214 x13_2).f4))).trans hx225_4; replace hx225_0 := (cell_far (p := ⟨gb224, 1, none⟩) (by first | (rw [add_block]; exact hn225_5) | (show (Addr.add _ _).block ≠ _; rw [add_block]; exact hn225_5) | exact hn225_5) (.int .i64 (wrap64 (((rd_T33 t214 x13_2).f1) - (x5_6.size : Int))))).trans hx225_0; replace hx225_1 := (cell_far (p := ⟨gb224, 1, none⟩) (by first | (rw [add_block]; exact hn225_5) | (show (Addr.add _ _).block ≠ _; rw [add_block]; exact hn225_5) | exact hn225_5) (.int .i64 (wrap64 (((rd_T33 t214 x13_2).f1) - (x5_6.size : Int))))).trans hx225_1; replace hx225_2 := (cell_far (p := ⟨gb224, 1, none⟩) (by first | (rw [add_block]; exact hn225_5) | (show (Addr.add _ _).block ≠ _; rw [add_block]; exact hn225_5) | exact hn225_5) (.int .i64 (wrap64 (((rd_T33 t214 x13_2).f1) - (x5_6.size : Int))))).trans hx225_2; replace hx225_3 := (cell_far (p := ⟨gb224, 1, none⟩) (by first | (rw [add_block]; exact hn225_5) | (show (Addr.add _ _).block ≠ _; rw [add_block]; exact hn225_5) | exact hn225_5) (.int .i64 (wrap64 (((rd_T33 t214 x13_2).f1) - (x5_6.size : Int))))).trans hx225_3; replace hx225_4 := (cell_far (p := ⟨gb224, 1, none⟩) (by first | (rw [add_block]; exact hn225_5) | (show (Addr.add _ _).block ≠ _; rw [add_block]; exact hn225_5) | exact hn225_5) (.int .i64 (wrap64 (((rd_T33 t214 x13_2).f1) - (x5_6.size : Int))))).trans hx225_4; clear hn225_0; clear hn225_1; clear hn225_2; clear hn225_3; clear hn225_4; clear hn225_5; replace p225 := eq_true p225; replace q225 := eq_true q225))
                              repeat (go_quiet (first | ((with_reducible refine gate_dst (N := 14) rfl ?_); (try (refine gate_guard (by rfl) ?_; dsimp only)); refine box_event ?hg (N := 14) ?hd (cs := #[.int .i64 0, .int .i64 0, .string (⟨#[]⟩ : ByteArray), .int .i64 0, .int .i64 0]) (t := 33) ?hr ?_; (case hd => rfl); (case hg => rfl); (case hr => first | (go_simp; done) | (go_simp; rfl)); intro gb224 hg w35 hbox hb; have n0_ := Aside0.mk (Kd.R_below (Kd.R_elderB (by (with_reducible repeat (first | apply Kd.R_alloc | apply Kd.R_drewN | apply Kd.R_drew)); exact HO_7.out) gb224 (Nat.le_of_eq hg.symm)) hb); have n1_ := Aside0.mk (Kd.R_below (Kd.R_elderB (by (with_reducible repeat (first | apply Kd.R_alloc | apply Kd.R_drewN | apply Kd.R_drew)); exact HO_10.out) gb224 (Nat.le_of_eq hg.symm)) hb); have n2_ := Aside0.mk (below_step (by repeat (first | (with_reducible first | exact HB.out | apply below_alloc | apply pw_below_drewN | apply below_drew1) | exact HB.out)) hb); have n3_ := Aside0.mk (hbox); have n4_ := Aside0.mk ((by rw [hg]; exact (below_size (by repeat (first | (with_reducible first | exact HB.out | apply below_alloc | apply pw_below_drewN | apply below_drew1) | exact HB.out))) : w.heap.size ≤ gb224)); have n5_ := Aside0.mk ((by rw [hg]; exact (below_size (by repeat (first | (with_reducible first | exact HB.out | apply below_alloc | apply pw_below_drewN | apply below_drew1) | exact HB.out))) : w.heap.size ≤ gb224)); clear HO_7; clear HO_10; clear HB; have HO_7 := n0_; have HO_10 := n1_; have HB := n2_; have BK224 := n3_; have GW224 := n4_; have GE224 := n5_; clear n0_ n1_ n2_ n3_ n4_ n5_; clear hb hbox hg; have hcz36_0 : w35.cell? ⟨gb224, 0, none⟩ = some (.int .i64 0) := (blk_cell BK224.out 0).trans rfl; have hcz36_1 : w35.cell? ⟨gb224, 1, none⟩ = some (.int .i64 0) := (blk_cell BK224.out 1).trans rfl; have hcz36_2 : w35.cell? ⟨gb224, 2, none⟩ = some (.string (⟨#[]⟩ : ByteArray)) := (blk_cell BK224.out 2).trans rfl; have hcz36_3 : w35.cell? ⟨gb224, 3, none⟩ = some (.int .i64 0) := (blk_cell BK224.out 3).trans rfl; have hcz36_4 : w35.cell? ⟨gb224, 4, none⟩ = some (.int .i64 0) := (blk_cell BK224.out 4).trans rfl; have hfz36_0 := blk_frozen BK224.out 0; have hfz36_1 := blk_frozen BK224.out 1; have hfz36_2 := blk_frozen BK224.out 2; have hfz36_3 := blk_frozen BK224.out 3; have hfz36_4 := blk_frozen BK224.out 4; have p225 : 0 ≤ (x13_2 : Int) := of_decide_eq_true (by first | (with_reducible assumption) | assumption); have q225 : x13_2 < (t209.length : Int) := of_decide_eq_true (by first | (with_reducible assumption) | assumption); obtain ⟨ad225, e225, hx225_0, hx225_1, hx225_2, hx225_3, hx225_4⟩ := at_T33 (Kd.R_reads' HO_7.out).2.2 x13_2 p225 q225; cases e225; have hn225_0 : ad225.block ≠ gb224 := Kd.own_blk (by first | exact Kd.R_ne HO_7.out BK224.out (by decide) | (intro he_; have q_ := HO_7.out.1 _ he_.symm; first | exact q_.2 rfl | exact q_.1.2 rfl | exact q_.1.1.2 rfl)); have hn225_1 : ad225.block ≠ gb224 := Kd.own_blk (by first | exact Kd.R_ne HO_7.out BK224.out (by decide) | (intro he_; have q_ := HO_7.out.1 _ he_.symm; first | exact q_.2 rfl | exact q_.1.2 rfl | exact q_.1.1.2 rfl)); have hn225_2 : ad225.block ≠ gb224 := Kd.own_blk (by first | exact Kd.R_ne HO_7.out BK224.out (by decide) | (intro he_; have q_ := HO_7.out.1 _ he_.symm; first | exact q_.2 rfl | exact q_.1.2 rfl | exact q_.1.1.2 rfl)); have hn225_3 : ad225.block ≠ gb224 := Kd.own_blk (by first | exact Kd.R_ne HO_7.out BK224.out (by decide) | (intro he_; have q_ := HO_7.out.1 _ he_.symm; first | exact q_.2 rfl | exact q_.1.2 rfl | exact q_.1.1.2 rfl)); have hn225_4 : ad225.block ≠ gb224 := Kd.own_blk (by first | exact Kd.R_ne HO_7.out BK224.out (by decide) | (intro he_; have q_ := HO_7.out.1 _ he_.symm; first | exact q_.2 rfl | exact q_.1.2 rfl | exact q_.1.1.2 rfl)); have hn225_5 : ad225.block ≠ gb224 := Kd.own_blk (by first | exact Kd.R_ne HO_7.out BK224.out (by decide) | (intro he_; have q_ := HO_7.out.1 _ he_.symm; first | exact q_.2 rfl | exact q_.1.2 rfl | exact q_.1.1.2 rfl)); replace hx225_0 := (cell_far (p := ⟨gb224, 0, none⟩) (by first | (rw [add_block]; exact hn225_0) | (show (Addr.add _ _).block ≠ _; rw [add_block]; exact hn225_0) | exact hn225_0) (.int .i64 ((rd_T33 t214 x13_2).f0))).trans hx225_0; replace hx225_1 := (cell_far (p := ⟨gb224, 0, none⟩) (by first | (rw [add_block]; exact hn225_0) | (show (Addr.add _ _).block ≠ _; rw [add_block]; exact hn225_0) | exact hn225_0) (.int .i64 ((rd_T33 t214 x13_2).f0))).trans hx225_1; replace hx225_2 := (cell_far (p := ⟨gb224, 0, none⟩) (by first | (rw [add_block]; exact hn225_0) | (show (Addr.add _ _).block ≠ _; rw [add_block]; exact hn225_0) | exact hn225_0) (.int .i64 ((rd_T33 t214 x13_2).f0))).trans hx225_2; replace hx225_3 := (cell_far (p := ⟨gb224, 0, none⟩) (by first | (rw [add_block]; exact hn225_0) | (show (Addr.add _ _).block ≠ _; rw [add_block]; exact hn225_0) | exact hn225_0) (.int .i64 ((rd_T33 t214 x13_2).f0))).trans hx225_3; replace hx225_4 := (cell_far (p := ⟨gb224, 0, none⟩) (by first | (rw [add_block]; exact hn225_0) | (show (Addr.add _ _).block ≠ _; rw [add_block]; exact hn225_0) | exact hn225_0) (.int .i64 ((rd_T33 t214 x13_2).f0))).trans hx225_4; replace hx225_0 := (cell_far (p := ⟨gb224, 1, none⟩) (by first | (rw [add_block]; exact hn225_1) | (show (Addr.add _ _).block ≠ _; rw [add_block]; exact hn225_1) | exact hn225_1) (.int .i64 ((rd_T33 t214 x13_2).f1))).trans hx225_0; replace hx225_1 := (cell_far (p := ⟨gb224, 1, none⟩) (by first | (rw [add_block]; exact hn225_1) | (show (Addr.add _ _).block ≠ _; rw [add_block]; exact hn225_1) | exact hn225_1) (.int .i64 ((rd_T33 t214 x13_2).f1))).trans hx225_1; replace hx225_2 := (cell_far (p := ⟨gb224, 1, none⟩) (by first | (rw [add_block]; exact hn225_1) | (show (Addr.add _ _).block ≠ _; rw [add_block]; exact hn225_1) | exact hn225_1) (.int .i64 ((rd_T33 t214 x13_2).f1))).trans hx225_2; replace hx225_3 := (cell_far (p := ⟨gb224, 1, none⟩) (by first | (rw [add_block]; exact hn225_1) | (show (Addr.add _ _).block ≠ _; rw [add_block]; exact hn225_1) | exact hn225_1) (.int .i64 ((rd_T33 t214 x13_2).f1))).trans hx225_3; replace hx225_4 := (cell_far (p := ⟨gb224, 1, none⟩) (by first | (rw [add_block]; exact hn225_1) | (show (Addr.add _ _).block ≠ _; rw [add_block]; exact hn225_1) | exact hn225_1) (.int .i64 ((rd_T33 t214 x13_2).f1))).trans hx225_4; replace hx225_0 := (cell_far (p := ⟨gb224, 2, none⟩) (by first | (rw [add_block]; exact hn225_2) | (show (Addr.add _ _).block ≠ _; rw [add_block]; exact hn225_2) | exact hn225_2) (.string ((rd_T33 t214 x13_2).f2))).trans hx225_0; replace hx225_1 := (cell_far (p := ⟨gb224, 2, none⟩) (by first | (rw [add_block]; exact hn225_2) | (show (Addr.add _ _).block ≠ _; rw [add_block]; exact hn225_2) | exact hn225_2) (.string ((rd_T33 t214 x13_2).f2))).trans hx225_1; replace hx225_2 := (cell_far (p := ⟨gb224, 2, none⟩) (by first | (rw [add_block]; exact hn225_2) | (show (Addr.add _ _).block ≠ _; rw [add_block]; exact hn225_2) | exact hn225_2) (.string ((rd_T33 t214 x13_2).f2))).trans hx225_2; replace hx225_3 := (cell_far (p := ⟨gb224, 2, none⟩) (by first | (rw [add_block]; exact hn225_2) | (show (Addr.add _ _).block ≠ _; rw [add_block]; exact hn225_2) | exact hn225_2) (.string ((rd_T33 t214 x13_2).f2))).trans hx225_3; replace hx225_4 := (cell_far (p := ⟨gb224, 2, none⟩) (by first | (rw [add_block]; exact hn225_2) | (show (Addr.add _ _).block ≠ _; rw [add_block]; exact hn225_2) | exact hn225_2) (.string ((rd_T33 t214 x13_2).f2))).trans hx225_4; replace hx225_0 := (cell_far (p := ⟨gb224, 3, none⟩) (by first | (rw [add_block]; exact hn225_3) | (show (Addr.add _ _).block ≠ _; rw [add_block]; exact hn225_3) | exact hn225_3) (.int .i64 ((rd_T33 t214 x13_2).f3))).trans hx225_0; replace hx225_1 := (cell_far (p := ⟨gb224, 3, none⟩) (by first | (rw [add_block]; exact hn225_3) | (show (Addr.add _ _).block ≠ _; rw [add_block]; exact hn225_3) | exact hn225_3) (.int .i64 ((rd_T33 t214 x13_2).f3))).trans hx225_1; replace hx225_2 := (cell_far (p := ⟨gb224, 3, none⟩) (by first | (rw [add_block]; exact hn225_3) | (show (Addr.add _ _).block ≠ _; rw [add_block]; exact hn225_3) | exact hn225_3) (.int .i64 ((rd_T33 t214 x13_2).f3))).trans hx225_2; replace hx225_3 := (cell_far (p := ⟨gb224, 3, none⟩) (by first | (rw [add_block]; exact hn225_3) | (show (Addr.add _ _).block ≠ _; rw [add_block]; exact hn225_3) | exact hn225_3) (.int .i64 ((rd_T33 t214 x13_2).f3))).trans hx225_3; replace hx225_4 := (cell_far (p := ⟨gb224, 3, none⟩) (by first | (rw [add_block]; exact hn225_3) | (show (Addr.add _ _).block ≠ _; rw [add_block]; exact hn225_3) | exact hn225_3) (.int .i64 ((rd_T33 t214 x13_2).f3))).trans hx225_4; replace hx225_0 := (cell_far (p := ⟨gb224, 4, none⟩) (by first | (rw [add_block]; exact hn225_4) | (show (Addr.add _ _).block ≠ _; rw [add_block]; exact hn225_4) | exact hn225_4) (.int .i64 ((rd_T33 t214 x13_2).f4))).trans hx225_0; replace hx225_1 := (cell_far (p := ⟨gb224, 4, none⟩) (by first | (rw [add_block]; exact hn225_4) | (show (Addr.add _ _).block ≠ _; rw [add_block]; exact hn225_4) | exact hn225_4) (.int .i64 ((rd_T33 t214 x13_2).f4))).trans hx225_1; replace hx225_2 := (cell_far (p := ⟨gb224, 4, none⟩) (by first | (rw [add_block]; exact hn225_4) | (show (Addr.add _ _).block ≠ _; rw [add_block]; exact hn225_4) | exact hn225_4) (.int .i64 ((rd_T33 t214 x13_2).f4))).trans hx225_2; replace hx225_3 := (cell_far (p := ⟨gb224, 4, none⟩) (by first | (rw [add_block]; exact hn225_4) | (show (Addr.add _ _).block ≠ _; rw [add_block]; exact hn225_4) | exact hn225_4) (.int .i64 ((rd_T33 t214 x13_2).f4))).trans hx225_3; replace hx225_4 := (cell_far (p := ⟨gb224, 4, none⟩) (by first | (rw [add_block]; exact hn225_4) | (show (Addr.add _ _).block ≠ _; rw [add_block]; exact hn225_4) | exact hn225_4) (.int .i64 ((rd_T33 t214 x13_2).f4))).trans hx225_4; replace hx225_0 := (cell_far (p := ⟨gb224, 1, none⟩) (by first | (rw [add_block]; exact hn225_5) | (show (Addr.add _ _).block ≠ _; rw [add_block]; exact hn225_5) | exact hn225_5) (.int .i64 (wrap64 (((rd_T33 t214 x13_2).f1) - (x5_6.size : Int))))).trans hx225_0; replace hx225_1 := (cell_far (p := ⟨gb224, 1, none⟩) (by first | (rw [add_block]; exact hn225_5) | (show (Addr.add _ _).block ≠ _; rw [add_block]; exact hn225_5) | exact hn225_5) (.int .i64 (wrap64 (((rd_T33 t214 x13_2).f1) - (x5_6.size : Int))))).trans hx225_1; replace hx225_2 := (cell_far (p := ⟨gb224, 1, none⟩) (by first | (rw [add_block]; exact hn225_5) | (show (Addr.add _ _).block ≠ _; rw [add_block]; exact hn225_5) | exact hn225_5) (.int .i64 (wrap64 (((rd_T33 t214 x13_2).f1) - (x5_6.size : Int))))).trans hx225_2; replace hx225_3 := (cell_far (p := ⟨gb224, 1, none⟩) (by first | (rw [add_block]; exact hn225_5) | (show (Addr.add _ _).block ≠ _; rw [add_block]; exact hn225_5) | exact hn225_5) (.int .i64 (wrap64 (((rd_T33 t214 x13_2).f1) - (x5_6.size : Int))))).trans hx225_3; replace hx225_4 := (cell_far (p := ⟨gb224, 1, none⟩) (by first | (rw [add_block]; exact hn225_5) | (show (Addr.add _ _).block ≠ _; rw [add_block]; exact hn225_5) | exact hn225_5) (.int .i64 (wrap64 (((rd_T33 t214 x13_2).f1) - (x5_6.size : Int))))).trans hx225_4; clear hn225_0; clear hn225_1; clear hn225_2; clear hn225_3; clear hn225_4; clear hn225_5; replace p225 := eq_true p225; replace q225 := eq_true q225)); try go_wp2_with (first | ((with_reducible refine gate_dst (N := 14) rfl ?_); (try (refine gate_guard (by rfl) ?_; dsimp only)); refine box_event ?hg (N := 14) ?hd (cs := #[.int .i64 0, .int .i64 0, .string (⟨#[]⟩ : ByteArray), .int .i64 0, .int .i64 0]) (t := 33) ?hr ?_; (case hd => rfl); (case hg => rfl); (case hr => first | (go_simp; done) | (go_simp; rfl)); intro gb224 hg w35 hbox hb; have n0_ := Aside0.mk (Kd.R_below (Kd.R_elderB (by (with_reducible repeat (first | apply Kd.R_alloc | apply Kd.R_drewN | apply Kd.R_drew)); exact HO_7.out) gb224 (Nat.le_of_eq hg.symm)) hb); have n1_ := Aside0.mk (Kd.R_below (Kd.R_elderB (by (with_reducible repeat (first | apply Kd.R_alloc | apply Kd.R_drewN | apply Kd.R_drew)); exact HO_10.out) gb224 (Nat.le_of_eq hg.symm)) hb); have n2_ := Aside0.mk (below_step (by repeat (first | (with_reducible first | exact HB.out | apply below_alloc | apply pw_below_drewN | apply below_drew1) | exact HB.out)) hb); have n3_ := Aside0.mk (hbox); have n4_ := Aside0.mk ((by rw [hg]; exact (below_size (by repeat (first | (with_reducible first | exact HB.out | apply below_alloc | apply pw_below_drewN | apply below_drew1) | exact HB.out))) : w.heap.size ≤ gb224)); have n5_ := Aside0.mk ((by rw [hg]; exact (below_size (by repeat (first | (with_reducible first | exact HB.out | apply below_alloc | apply pw_below_drewN | apply below_drew1) | exact HB.out))) : w.heap.size ≤ gb224)); clear HO_7; clear HO_10; clear HB; have HO_7 := n0_; have HO_10 := n1_; have HB := n2_; have BK224 := n3_; have GW224 := n4_; have GE224 := n5_; clear n0_ n1_ n2_ n3_ n4_ n5_; clear hb hbox hg; have hcz36_0 : w35.cell? ⟨gb224, 0, none⟩ = some (.int .i64 0) := (blk_cell BK224.out 0).trans rfl; have hcz36_1 : w35.cell? ⟨gb224, 1, none⟩ = some (.int .i64 0) := (blk_cell BK224.out 1).trans rfl; have hcz36_2 : w35.cell? ⟨gb224, 2, none⟩ = some (.string (⟨#[]⟩ : ByteArray)) := (blk_cell BK224.out 2).trans rfl; have hcz36_3 : w35.cell? ⟨gb224, 3, none⟩ = some (.int .i64 0) := (blk_cell BK224.out 3).trans rfl; have hcz36_4 : w35.cell? ⟨gb224, 4, none⟩ = some (.int .i64 0) := (blk_cell BK224.out 4).trans rfl; have hcw_1 : ((((((w35.setCell ⟨gb224, 0, none⟩ (.int .i64 ((rd_T33 t214 x13_2).f0))).setCell ⟨gb224, 1, none⟩ (.int .i64 ((rd_T33 t214 x13_2).f1))).setCell ⟨gb224, 2, none⟩ (.string ((rd_T33 t214 x13_2).f2))).setCell ⟨gb224, 3, none⟩ (.int .i64 ((rd_T33 t214 x13_2).f3))).setCell ⟨gb224, 4, none⟩ (.int .i64 ((rd_T33 t214 x13_2).f4))).setCell ⟨gb224, 1, none⟩ (.int .i64 (wrap64 (((rd_T33 t214 x13_2).f1) - (x5_6.size : Int))))).cell? ⟨gb224, 1, none⟩ = some (.int .i64 (wrap64 (((rd_T33 t214 x13_2).f1) - (x5_6.size : Int)))) := (World.cell?_setCell_same _ _ _ ((World.cell?_setCell_other _ _ _ _ (by simp)).trans ((World.cell?_setCell_other _ _ _ _ (by simp)).trans ((World.cell?_setCell_other _ _ _ _ (by simp)).trans (World.cell?_setCell_same _ _ _ ((World.cell?_setCell_other _ _ _ _ (by simp)).trans hcz36_1)))))); have hfz36_0 := blk_frozen BK224.out 0; have hfz36_1 := blk_frozen BK224.out 1; have hfz36_2 := blk_frozen BK224.out 2; have hfz36_3 := blk_frozen BK224.out 3; have hfz36_4 := blk_frozen BK224.out 4; have p225 : 0 ≤ (x13_2 : Int) := of_decide_eq_true (by first | (with_reducible assumption) | assumption); have q225 : x13_2 < (t209.length : Int) := of_decide_eq_true (by first | (with_reducible assumption) | assumption); obtain ⟨ad225, e225, hx225_0, hx225_1, hx225_2, hx225_3, hx225_4⟩ := at_T33 (Kd.R_reads' HO_7.out).2.2 x13_2 p225 q225; cases e225; have hn225_0 : ad225.block ≠ gb224 := Kd.own_blk (by first | exact Kd.R_ne HO_7.out BK224.out (by decide) | (intro he_; have q_ := HO_7.out.1 _ he_.symm; first | exact q_.2 rfl | exact q_.1.2 rfl | exact q_.1.1.2 rfl)); have hn225_1 : ad225.block ≠ gb224 := Kd.own_blk (by first | exact Kd.R_ne HO_7.out BK224.out (by decide) | (intro he_; have q_ := HO_7.out.1 _ he_.symm; first | exact q_.2 rfl | exact q_.1.2 rfl | exact q_.1.1.2 rfl)); have hn225_2 : ad225.block ≠ gb224 := Kd.own_blk (by first | exact Kd.R_ne HO_7.out BK224.out (by decide) | (intro he_; have q_ := HO_7.out.1 _ he_.symm; first | exact q_.2 rfl | exact q_.1.2 rfl | exact q_.1.1.2 rfl)); have hn225_3 : ad225.block ≠ gb224 := Kd.own_blk (by first | exact Kd.R_ne HO_7.out BK224.out (by decide) | (intro he_; have q_ := HO_7.out.1 _ he_.symm; first | exact q_.2 rfl | exact q_.1.2 rfl | exact q_.1.1.2 rfl)); have hn225_4 : ad225.block ≠ gb224 := Kd.own_blk (by first | exact Kd.R_ne HO_7.out BK224.out (by decide) | (intro he_; have q_ := HO_7.out.1 _ he_.symm; first | exact q_.2 rfl | exact q_.1.2 rfl | exact q_.1.1.2 rfl)); have hn225_5 : ad225.block ≠ gb224 := Kd.own_blk (by first | exact Kd.R_ne HO_7.out BK224.out (by decide) | (intro he_; have q_ := HO_7.out.1 _ he_.symm; first | exact q_.2 rfl | exact q_.1.2 rfl | exact q_.1.1.2 rfl)); replace hx225_0 := (cell_far (p := ⟨gb224, 0, none⟩) (by first | (rw [add_block]; exact hn225_0) | (show (Addr.add _ _).block ≠ _; rw [add_block]; exact hn225_0) | exact hn225_0) (.int .i64 ((rd_T33 t214 x13_2).f0))).trans hx225_0; replace hx225_1 := (cell_far (p := ⟨gb224, 0, none⟩) (by first | (rw [add_block]; exact hn225_0) | (show (Addr.add _ _).block ≠ _; rw [add_block]; exact hn225_0) | exact hn225_0) (.int .i64 ((rd_T33 t214 x13_2).f0))).trans hx225_1; replace hx225_2 := (cell_far (p := ⟨gb224, 0, none⟩) (by first | (rw [add_block]; exact hn225_0) | (show (Addr.add _ _).block ≠ _; rw [add_block]; exact hn225_0) | exact hn225_0) (.int .i64 ((rd_T33 t214 x13_2).f0))).trans hx225_2; replace hx225_3 := (cell_far (p := ⟨gb224, 0, none⟩) (by first | (rw [add_block]; exact hn225_0) | (show (Addr.add _ _).block ≠ _; rw [add_block]; exact hn225_0) | exact hn225_0) (.int .i64 ((rd_T33 t214 x13_2).f0))).trans hx225_3; replace hx225_4 := (cell_far (p := ⟨gb224, 0, none⟩) (by first | (rw [add_block]; exact hn225_0) | (show (Addr.add _ _).block ≠ _; rw [add_block]; exact hn225_0) | exact hn225_0) (.int .i64 ((rd_T33 t214 x13_2).f0))).trans hx225_4; replace hx225_0 := (cell_far (p := ⟨gb224, 1, none⟩) (by first | (rw [add_block]; exact hn225_1) | (show (Addr.add _ _).block ≠ _; rw [add_block]; exact hn225_1) | exact hn225_1) (.int .i64 ((rd_T33 t214 x13_2).f1))).trans hx225_0; replace hx225_1 := (cell_far (p := ⟨gb224, 1, none⟩) (by first | (rw [add_block]; exact hn225_1) | (show (Addr.add _ _).block ≠ _; rw [add_block]; exact hn225_1) | exact hn225_1) (.int .i64 ((rd_T33 t214 x13_2).f1))).trans hx225_1; replace hx225_2 := (cell_far (p := ⟨gb224, 1, none⟩) (by first | (rw [add_block]; exact hn225_1) | (show (Addr.add _ _).block ≠ _; rw [add_block]; exact hn225_1) | exact hn225_1) (.int .i64 ((rd_T33 t214 x13_2).f1))).trans hx225_2; replace hx225_3 := (cell_far (p := ⟨gb224, 1, none⟩) (by first | (rw [add_block]; exact hn225_1) | (show (Addr.add _ _).block ≠ _; rw [add_block]; exact hn225_1) | exact hn225_1) (.int .i64 ((rd_T33 t214 x13_2).f1))).trans hx225_3; replace hx225_4 := (cell_far (p := ⟨gb224, 1, none⟩) (by first | (rw [add_block]; exact hn225_1) | (show (Addr.add _ _).block ≠ _; rw [add_block]; exact hn225_1) | exact hn225_1) (.int .i64 ((rd_T33 t214 x13_2).f1))).trans hx225_4; replace hx225_0 := (cell_far (p := ⟨gb224, 2, none⟩) (by first | (rw [add_block]; exact hn225_2) | (show (Addr.add _ _).block ≠ _; rw [add_block]; exact hn225_2) | exact hn225_2) (.string ((rd_T33 t214 x13_2).f2))).trans hx225_0; replace hx225_1 := (cell_far (p := ⟨gb224, 2, none⟩) (by first | (rw [add_block]; exact hn225_2) | (show (Addr.add _ _).block ≠ _; rw [add_block]; exact hn225_2) | exact hn225_2) (.string ((rd_T33 t214 x13_2).f2))).trans hx225_1; replace hx225_2 := (cell_far (p := ⟨gb224, 2, none⟩) (by first | (rw [add_block]; exact hn225_2) | (show (Addr.add _ _).block ≠ _; rw [add_block]; exact hn225_2) | exact hn225_2) (.string ((rd_T33 t214 x13_2).f2))).trans hx225_2; replace hx225_3 := (cell_far (p := ⟨gb224, 2, none⟩) (by first | (rw [add_block]; exact hn225_2) | (show (Addr.add _ _).block ≠ _; rw [add_block]; exact hn225_2) | exact hn225_2) (.string ((rd_T33 t214 x13_2).f2))).trans hx225_3; replace hx225_4 := (cell_far (p := ⟨gb224, 2, none⟩) (by first | (rw [add_block]; exact hn225_2) | (show (Addr.add _ _).block ≠ _; rw [add_block]; exact hn225_2) | exact hn225_2) (.string ((rd_T33 t214 x13_2).f2))).trans hx225_4; replace hx225_0 := (cell_far (p := ⟨gb224, 3, none⟩) (by first | (rw [add_block]; exact hn225_3) | (show (Addr.add _ _).block ≠ _; rw [add_block]; exact hn225_3) | exact hn225_3) (.int .i64 ((rd_T33 t214 x13_2).f3))).trans hx225_0; replace hx225_1 := (cell_far (p := ⟨gb224, 3, none⟩) (by first | (rw [add_block]; exact hn225_3) | (show (Addr.add _ _).block ≠ _; rw [add_block]; exact hn225_3) | exact hn225_3) (.int .i64 ((rd_T33 t214 x13_2).f3))).trans hx225_1; replace hx225_2 := (cell_far (p := ⟨gb224, 3, none⟩) (by first | (rw [add_block]; exact hn225_3) | (show (Addr.add _ _).block ≠ _; rw [add_block]; exact hn225_3) | exact hn225_3) (.int .i64 ((rd_T33 t214 x13_2).f3))).trans hx225_2; replace hx225_3 := (cell_far (p := ⟨gb224, 3, none⟩) (by first | (rw [add_block]; exact hn225_3) | (show (Addr.add _ _).block ≠ _; rw [add_block]; exact hn225_3) | exact hn225_3) (.int .i64 ((rd_T33 t214 x13_2).f3))).trans hx225_3; replace hx225_4 := (cell_far (p := ⟨gb224, 3, none⟩) (by first | (rw [add_block]; exact hn225_3) | (show (Addr.add _ _).block ≠ _; rw [add_block]; exact hn225_3) | exact hn225_3) (.int .i64 ((rd_T33 t214 x13_2).f3))).trans hx225_4; replace hx225_0 := (cell_far (p := ⟨gb224, 4, none⟩) (by first | (rw [add_block]; exact hn225_4) | (show (Addr.add _ _).block ≠ _; rw [add_block]; exact hn225_4) | exact hn225_4) (.int .i64 ((rd_T33 t214 x13_2).f4))).trans hx225_0; replace hx225_1 := (cell_far (p := ⟨gb224, 4, none⟩) (by first | (rw [add_block]; exact hn225_4) | (show (Addr.add _ _).block ≠ _; rw [add_block]; exact hn225_4) | exact hn225_4) (.int .i64 ((rd_T33 t214 x13_2).f4))).trans hx225_1; replace hx225_2 := (cell_far (p := ⟨gb224, 4, none⟩) (by first | (rw [add_block]; exact hn225_4) | (show (Addr.add _ _).block ≠ _; rw [add_block]; exact hn225_4) | exact hn225_4) (.int .i64 ((rd_T33 t214 x13_2).f4))).trans hx225_2; replace hx225_3 := (cell_far (p := ⟨gb224, 4, none⟩) (by first | (rw [add_block]; exact hn225_4) | (show (Addr.add _ _).block ≠ _; rw [add_block]; exact hn225_4) | exact hn225_4) (.int .i64 ((rd_T33 t214 x13_2).f4))).trans hx225_3; replace hx225_4 := (cell_far (p := ⟨gb224, 4, none⟩) (by first | (rw [add_block]; exact hn225_4) | (show (Addr.add _ _).block ≠ _; rw [add_block]; exact hn225_4) | exact hn225_4) (.int .i64 ((rd_T33 t214 x13_2).f4))).trans hx225_4; replace hx225_0 := (cell_far (p := ⟨gb224, 1, none⟩) (by first | (rw [add_block]; exact hn225_5) | (show (Addr.add _ _).block ≠ _; rw [add_block]; exact hn225_5) | exact hn225_5) (.int .i64 (wrap64 (((rd_T33 t214 x13_2).f1) - (x5_6.size : Int))))).trans hx225_0; replace hx225_1 := (cell_far (p := ⟨gb224, 1, none⟩) (by first | (rw [add_block]; exact hn225_5) | (show (Addr.add _ _).block ≠ _; rw [add_block]; exact hn225_5) | exact hn225_5) (.int .i64 (wrap64 (((rd_T33 t214 x13_2).f1) - (x5_6.size : Int))))).trans hx225_1; replace hx225_2 := (cell_far (p := ⟨gb224, 1, none⟩) (by first | (rw [add_block]; exact hn225_5) | (show (Addr.add _ _).block ≠ _; rw [add_block]; exact hn225_5) | exact hn225_5) (.int .i64 (wrap64 (((rd_T33 t214 x13_2).f1) - (x5_6.size : Int))))).trans hx225_2; replace hx225_3 := (cell_far (p := ⟨gb224, 1, none⟩) (by first | (rw [add_block]; exact hn225_5) | (show (Addr.add _ _).block ≠ _; rw [add_block]; exact hn225_5) | exact hn225_5) (.int .i64 (wrap64 (((rd_T33 t214 x13_2).f1) - (x5_6.size : Int))))).trans hx225_3; replace hx225_4 := (cell_far (p := ⟨gb224, 1, none⟩) (by first | (rw [add_block]; exact hn225_5) | (show (Addr.add _ _).block ≠ _; rw [add_block]; exact hn225_5) | exact hn225_5) (.int .i64 (wrap64 (((rd_T33 t214 x13_2).f1) - (x5_6.size : Int))))).trans hx225_4; clear hn225_0; clear hn225_1; clear hn225_2; clear hn225_3; clear hn225_4; clear hn225_5; replace p225 := eq_true p225; replace q225 := eq_true q225)))
                              go_roundg k2
                              case measure => have := HJ6.out; have := HK2.out; omega
                              case rel => exact ⟨(wrap64 (x13_2 + 1)), (by first | rfl | (simp; done) | (simp [i64_w]; done) | (simp [*]; done) | (simp [*, i64_w]; done) | (simp [*]; unfold wrap64; omega)), H', ⟨by have := HJ6.out; have := HK2.out; omega⟩, ⟨by (with_reducible repeat (first | apply Kd.R_alloc | apply Kd.R_drewN | apply Kd.R_drew)); exact Kd.R_mono (Kd.R_far (p := ⟨gb224, 1, none⟩) (Kd.R_far (p := ⟨gb224, 4, none⟩) (Kd.R_far (p := ⟨gb224, 3, none⟩) (Kd.R_far (p := ⟨gb224, 2, none⟩) (Kd.R_far (p := ⟨gb224, 1, none⟩) (Kd.R_far (p := ⟨gb224, 0, none⟩) (Kd.R_mono HO_7.out (fun k_ hk => (⟨hk, hk.2⟩ : _ ∧ k_ ≠ gb224))) (fun _ hk => hk.2) (.int .i64 ((rd_T33 t214 x13_2).f0))) (fun _ hk => hk.2) (.int .i64 ((rd_T33 t214 x13_2).f1))) (fun _ hk => hk.2) (.string ((rd_T33 t214 x13_2).f2))) (fun _ hk => hk.2) (.int .i64 ((rd_T33 t214 x13_2).f3))) (fun _ hk => hk.2) (.int .i64 ((rd_T33 t214 x13_2).f4))) (fun _ hk => hk.2) (.int .i64 (wrap64 (((rd_T33 t214 x13_2).f1) - (x5_6.size : Int))))) (fun _ hk => hk.1.1)⟩, ⟨by (with_reducible repeat (first | apply Kd.R_alloc | apply Kd.R_drewN | apply Kd.R_drew)); exact Kd.R_mono (Kd.R_far (p := ⟨gb224, 1, none⟩) (Kd.R_far (p := ⟨gb224, 4, none⟩) (Kd.R_far (p := ⟨gb224, 3, none⟩) (Kd.R_far (p := ⟨gb224, 2, none⟩) (Kd.R_far (p := ⟨gb224, 1, none⟩) (Kd.R_far (p := ⟨gb224, 0, none⟩) (Kd.R_mono HO_10.out (fun k_ hk => (⟨hk, hk.2⟩ : _ ∧ k_ ≠ gb224))) (fun _ hk => hk.2) (.int .i64 ((rd_T33 t214 x13_2).f0))) (fun _ hk => hk.2) (.int .i64 ((rd_T33 t214 x13_2).f1))) (fun _ hk => hk.2) (.string ((rd_T33 t214 x13_2).f2))) (fun _ hk => hk.2) (.int .i64 ((rd_T33 t214 x13_2).f3))) (fun _ hk => hk.2) (.int .i64 ((rd_T33 t214 x13_2).f4))) (fun _ hk => hk.2) (.int .i64 (wrap64 (((rd_T33 t214 x13_2).f1) - (x5_6.size : Int))))) (fun _ hk => hk.1.1)⟩, ⟨by repeat (first | (with_reducible first | exact HB.out | apply below_alloc | apply pw_below_drewN | apply below_drew1 | refine below_set ?_ GE224.out) | exact HB.out)⟩⟩
                          · rw [if_neg c33] at H
                            exact absurd H (by simp)
                        · rw [if_neg c32] at H
                          exact absurd H (by simp)
                      · rw [if_neg c31] at H
                        have c31b0 : decide (x13_2 < (t209.length : Int)) = false := decide_eq_false c31
                        clear c31
                        obtain rfl := Option.some.inj H
                        go_wp2
                        repeat (go_quiet (fail); try go_wp2)
                        go_ret
                        exact ⟨by first | rfl | (simp [errW_none, errW_some] <;> rfl) | (simp [*, errW_none, errW_some] <;> rfl), by repeat (first | (with_reducible first | exact HB.out | apply below_alloc | apply pw_below_drewN | apply below_drew1) | exact HB.out)⟩
                · rw [if_neg c26] at H
                  exact absurd H (by simp)
              · rw [if_neg c25] at H
                exact absurd H (by simp)
            · rw [if_neg c23] at H
              have c23b0 : (t219 == 0) = false := beq_eq_false_iff_ne.mpr c23
              have c23b1 : (t219 != 0) = true := bne_iff_ne.mpr c23
              replace H := Option.bind_eq_some_iff.mp H
              obtain ⟨t220, A370, H⟩ := H
              replace H : ((templelaw0_Num.f t211).bind fun t221 => (if t220 = t221 then (some (t215 == (wrap64 (t210 + (x5_6.size : Int))))) else (none))) = some r := H
              have A37 := Aside0.mk A370
              clear A370
              replace H := Option.bind_eq_some_iff.mp H
              obtain ⟨t221, A380, H⟩ := H
              replace H : (if t220 = t221 then (some (t215 == (wrap64 (t210 + (x5_6.size : Int))))) else (none)) = some r := H
              have A38 := Aside0.mk A380
              have hq_ : t221 = t219 := Option.some.inj (A38.out.symm.trans A22.out)
              rw [hq_] at H
              clear A380
              by_cases c39 : t220 = t219
              · rw [if_pos c39] at H
                have c39b0 : (t220 == t219) = true := beq_iff_eq.mpr c39
                have c39b1 : (t220 != t219) = false := bne_eq_false_iff_eq.mpr c39
                clear c39
                obtain rfl := Option.some.inj H
                go_wp2_with (first | (go_at_call 10; (with_reducible refine (lex_Lex.calls kj6 a0 t209 t210 t211 _ A19.out).mono ?_); rintro e w40 ⟨v212, rfl, ho0, hb⟩; have n0_ := Aside0.mk (Kd.R_lower ho0 (below_size (by repeat (first | (with_reducible first | exact HB.out | apply below_alloc | apply pw_below_drewN | apply below_drew1) | exact HB.out)))); have n1_ := Aside0.mk (below_step (by repeat (first | (with_reducible first | exact HB.out | apply below_alloc | apply pw_below_drewN | apply below_drew1) | exact HB.out)) hb); clear HB; have HO213 := n0_; have HB := n1_; clear n0_ n1_; (try clear hb); (try clear hb2); (try clear hk); (try clear hi); (try clear ho0)) | (go_at_call 10; (with_reducible refine (lex_Lex.calls kj6 (x5_6 ++ a0) t214 t215 t216 _ A21.out).mono ?_); rintro e w41 ⟨v217, rfl, ho0, hb⟩; have n0_ := Aside0.mk (Kd.R_elder' (by (with_reducible repeat (first | apply Kd.R_alloc | apply Kd.R_drewN | apply Kd.R_drew)); exact HO213.out) (Kd.R_base ho0) hb); have n1_ := Aside0.mk (Kd.R_lower (Kd.R_new' ho0 (Kd.R_lt (by (with_reducible repeat (first | apply Kd.R_alloc | apply Kd.R_drewN | apply Kd.R_drew)); exact HO213.out))) (below_size (by repeat (first | (with_reducible first | exact HB.out | apply below_alloc | apply pw_below_drewN | apply below_drew1) | exact HB.out)))); have n2_ := Aside0.mk (below_step (by repeat (first | (with_reducible first | exact HB.out | apply below_alloc | apply pw_below_drewN | apply below_drew1) | exact HB.out)) hb); clear HO213; clear HB; have HO213 := n0_; have HO218 := n1_; have HB := n2_; clear n0_ n1_ n2_; (try clear hb); (try clear hb2); (try clear hk); (try clear hi); (try clear ho0)) | (go_at_call 13; (with_reducible refine (templelaw0_Num.calls t211 t219 _ A22.out).mono ?_); rintro e w' ⟨rfl, ⟨nd, rfl⟩⟩; (try first | exact ⟨rfl, _, World.drewN_drewN _ _ _⟩ | exact ⟨rfl, _, Eq.trans (World.drewN_drewN _ _ _) (congrArg (World.drewN _) (Nat.add_assoc _ _ _))⟩)) | (go_at_call 13; (with_reducible refine (templelaw0_Num.calls t216 t220 _ A37.out).mono ?_); rintro e w' ⟨rfl, ⟨nd, rfl⟩⟩; (try first | exact ⟨rfl, _, World.drewN_drewN _ _ _⟩ | exact ⟨rfl, _, Eq.trans (World.drewN_drewN _ _ _) (congrArg (World.drewN _) (Nat.add_assoc _ _ _))⟩)) | (go_at_call 13; (with_reducible refine (templelaw0_Num.calls t211 t219 _ A38.out).mono ?_); rintro e w' ⟨rfl, ⟨nd, rfl⟩⟩; (try first | exact ⟨rfl, _, World.drewN_drewN _ _ _⟩ | exact ⟨rfl, _, Eq.trans (World.drewN_drewN _ _ _) (congrArg (World.drewN _) (Nat.add_assoc _ _ _))⟩)))
                repeat (go_quiet (first | (go_at_call 10; (with_reducible refine (lex_Lex.calls kj6 a0 t209 t210 t211 _ A19.out).mono ?_); rintro e w40 ⟨v212, rfl, ho0, hb⟩; have n0_ := Aside0.mk (Kd.R_lower ho0 (below_size (by repeat (first | (with_reducible first | exact HB.out | apply below_alloc | apply pw_below_drewN | apply below_drew1) | exact HB.out)))); have n1_ := Aside0.mk (below_step (by repeat (first | (with_reducible first | exact HB.out | apply below_alloc | apply pw_below_drewN | apply below_drew1) | exact HB.out)) hb); clear HB; have HO213 := n0_; have HB := n1_; clear n0_ n1_; (try clear hb); (try clear hb2); (try clear hk); (try clear hi); (try clear ho0)) | (go_at_call 10; (with_reducible refine (lex_Lex.calls kj6 (x5_6 ++ a0) t214 t215 t216 _ A21.out).mono ?_); rintro e w41 ⟨v217, rfl, ho0, hb⟩; have n0_ := Aside0.mk (Kd.R_elder' (by (with_reducible repeat (first | apply Kd.R_alloc | apply Kd.R_drewN | apply Kd.R_drew)); exact HO213.out) (Kd.R_base ho0) hb); have n1_ := Aside0.mk (Kd.R_lower (Kd.R_new' ho0 (Kd.R_lt (by (with_reducible repeat (first | apply Kd.R_alloc | apply Kd.R_drewN | apply Kd.R_drew)); exact HO213.out))) (below_size (by repeat (first | (with_reducible first | exact HB.out | apply below_alloc | apply pw_below_drewN | apply below_drew1) | exact HB.out)))); have n2_ := Aside0.mk (below_step (by repeat (first | (with_reducible first | exact HB.out | apply below_alloc | apply pw_below_drewN | apply below_drew1) | exact HB.out)) hb); clear HO213; clear HB; have HO213 := n0_; have HO218 := n1_; have HB := n2_; clear n0_ n1_ n2_; (try clear hb); (try clear hb2); (try clear hk); (try clear hi); (try clear ho0)) | (go_at_call 13; (with_reducible refine (templelaw0_Num.calls t211 t219 _ A22.out).mono ?_); rintro e w' ⟨rfl, ⟨nd, rfl⟩⟩; (try first | exact ⟨rfl, _, World.drewN_drewN _ _ _⟩ | exact ⟨rfl, _, Eq.trans (World.drewN_drewN _ _ _) (congrArg (World.drewN _) (Nat.add_assoc _ _ _))⟩)) | (go_at_call 13; (with_reducible refine (templelaw0_Num.calls t216 t220 _ A37.out).mono ?_); rintro e w' ⟨rfl, ⟨nd, rfl⟩⟩; (try first | exact ⟨rfl, _, World.drewN_drewN _ _ _⟩ | exact ⟨rfl, _, Eq.trans (World.drewN_drewN _ _ _) (congrArg (World.drewN _) (Nat.add_assoc _ _ _))⟩)) | (go_at_call 13; (with_reducible refine (templelaw0_Num.calls t211 t219 _ A38.out).mono ?_); rintro e w' ⟨rfl, ⟨nd, rfl⟩⟩; (try first | exact ⟨rfl, _, World.drewN_drewN _ _ _⟩ | exact ⟨rfl, _, Eq.trans (World.drewN_drewN _ _ _) (congrArg (World.drewN _) (Nat.add_assoc _ _ _))⟩))); try go_wp2_with (first | (go_at_call 10; (with_reducible refine (lex_Lex.calls kj6 a0 t209 t210 t211 _ A19.out).mono ?_); rintro e w40 ⟨v212, rfl, ho0, hb⟩; have n0_ := Aside0.mk (Kd.R_lower ho0 (below_size (by repeat (first | (with_reducible first | exact HB.out | apply below_alloc | apply pw_below_drewN | apply below_drew1) | exact HB.out)))); have n1_ := Aside0.mk (below_step (by repeat (first | (with_reducible first | exact HB.out | apply below_alloc | apply pw_below_drewN | apply below_drew1) | exact HB.out)) hb); clear HB; have HO213 := n0_; have HB := n1_; clear n0_ n1_; (try clear hb); (try clear hb2); (try clear hk); (try clear hi); (try clear ho0)) | (go_at_call 10; (with_reducible refine (lex_Lex.calls kj6 (x5_6 ++ a0) t214 t215 t216 _ A21.out).mono ?_); rintro e w41 ⟨v217, rfl, ho0, hb⟩; have n0_ := Aside0.mk (Kd.R_elder' (by (with_reducible repeat (first | apply Kd.R_alloc | apply Kd.R_drewN | apply Kd.R_drew)); exact HO213.out) (Kd.R_base ho0) hb); have n1_ := Aside0.mk (Kd.R_lower (Kd.R_new' ho0 (Kd.R_lt (by (with_reducible repeat (first | apply Kd.R_alloc | apply Kd.R_drewN | apply Kd.R_drew)); exact HO213.out))) (below_size (by repeat (first | (with_reducible first | exact HB.out | apply below_alloc | apply pw_below_drewN | apply below_drew1) | exact HB.out)))); have n2_ := Aside0.mk (below_step (by repeat (first | (with_reducible first | exact HB.out | apply below_alloc | apply pw_below_drewN | apply below_drew1) | exact HB.out)) hb); clear HO213; clear HB; have HO213 := n0_; have HO218 := n1_; have HB := n2_; clear n0_ n1_ n2_; (try clear hb); (try clear hb2); (try clear hk); (try clear hi); (try clear ho0)) | (go_at_call 13; (with_reducible refine (templelaw0_Num.calls t211 t219 _ A22.out).mono ?_); rintro e w' ⟨rfl, ⟨nd, rfl⟩⟩; (try first | exact ⟨rfl, _, World.drewN_drewN _ _ _⟩ | exact ⟨rfl, _, Eq.trans (World.drewN_drewN _ _ _) (congrArg (World.drewN _) (Nat.add_assoc _ _ _))⟩)) | (go_at_call 13; (with_reducible refine (templelaw0_Num.calls t216 t220 _ A37.out).mono ?_); rintro e w' ⟨rfl, ⟨nd, rfl⟩⟩; (try first | exact ⟨rfl, _, World.drewN_drewN _ _ _⟩ | exact ⟨rfl, _, Eq.trans (World.drewN_drewN _ _ _) (congrArg (World.drewN _) (Nat.add_assoc _ _ _))⟩)) | (go_at_call 13; (with_reducible refine (templelaw0_Num.calls t211 t219 _ A38.out).mono ?_); rintro e w' ⟨rfl, ⟨nd, rfl⟩⟩; (try first | exact ⟨rfl, _, World.drewN_drewN _ _ _⟩ | exact ⟨rfl, _, Eq.trans (World.drewN_drewN _ _ _) (congrArg (World.drewN _) (Nat.add_assoc _ _ _))⟩))))
                go_ret
                exact ⟨by first | rfl | (simp [errW_none, errW_some] <;> rfl) | (simp [*, errW_none, errW_some] <;> rfl), by repeat (first | (with_reducible first | exact HB.out | apply below_alloc | apply pw_below_drewN | apply below_drew1) | exact HB.out)⟩
              · rw [if_neg c39] at H
                exact absurd H (by simp)
          · rw [if_neg c20] at H
            exact absurd H (by simp)
  · replace c4 := Bool.eq_false_iff.mpr c4
    subst c4
    have H1 : (none) = some r := by rw [if_neg (show ¬ (false = true) by decide)] at H; exact H
    clear H
    have H := H1
    clear H1
    exact absurd H (by simp)

/-- THE ONE PURE STATEMENT of templelaw2_LexBlanks: yours. -/
def templelaw2_LexBlanks.Pure : Prop := ∀ (a0 : ByteArray) (l1 : List Int), a0.size ≤ 140737488351232 → l1.length ≤ maxLen → l1.length * 8 ≤ 140737488351232 → (∀ x ∈ l1, (Lit.int .i64 x).wf = true) → ∃ k, templelaw2_LexBlanks.f k a0 l1 = some true
theorem templelaw2_LexBlanks.walk (P : templelaw2_LexBlanks.Pure) (a0 : ByteArray) (a1 : Option Addr) (len1 cap1 : Nat) (z1 : List Int) (w : World) (w0 : a0.size ≤ 140737488351232) (w1 : (a1 = none ∧ len1 = 0 ∧ cap1 = 0 ∧ z1 = []) ∨ ∃ x, a1 = some x ∧ len1 ≤ cap1 ∧ cap1 ≤ maxLen ∧ z1.length = cap1 ∧ (∀ i, i < z1.length → w.cell? (x.add i) = some (.int .i64 (z1.getD i 0))) ∧ ∀ n ∈ z1, (Lit.int .i64 n).wf = true) (y1 : len1 * 8 ≤ 140737488351232) :
    Calls Try.prog 6 #[.string a0, .slice a1 len1 cap1] w fun e w' => e = .returned (.bool true) ∧ Below w.heap.size w w' := by
  obtain ⟨l1, rfl, hr1, hm1, hw1, hc1⟩ := ReadsInt.ofRowC w1
  obtain ⟨k, h⟩ := P a0 l1 w0 hm1 y1 hw1
  refine (templelaw2_LexBlanks.calls k a0 _ _ l1 true w (Kd.C_of_reads (d := (0 : Int)) (h1 := fun _ => rfl) hr1) hc1 h).mono ?_
  rintro e w' ⟨rfl, hd⟩
  exact ⟨rfl, hd⟩

end Go.Proofs.Ytjjccngjcamgjaa.PLC
