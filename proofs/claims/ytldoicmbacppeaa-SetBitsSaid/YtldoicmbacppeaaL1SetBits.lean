/- SetBits, plain. -/
import Derived.Test.YtldoicmbacppeaaL1
import Derived.Test.YtldoicmbacppeaaPL1x23
namespace Go.Proofs.Ytldoicmbacppeaa.PL1
open Go.RowKit Go.Proofs.YtldoicmbacppeaaW.PrintWords Go.Proofs.YtldoicmbacppeaaW.PrintLast
set_option linter.unusedVariables false
set_option linter.unusedSimpArgs false
theorem idx_bit (p : Nat → Bool) (x : Int) (i : Nat) (h0 : 0 ≤ x) (h1 : x ≤ 255) (hi : x / 64 = i) : (Go.bits .and .u64 (shr .u64 (setW p i) (x % 64)) 1 == 1) = p x.toNat := by
  have hs : shr .u64 (setW p i) (x % 64) = setW p i / 2 ^ (x % 64).toNat := by
    show setW p i / 2 ^ min (x % 64).toNat 64 = _
    rw [Nat.min_eq_left (by omega)]
  rw [hs, byteset_Has.bit (k := (x % 64).toNat) (setW_isw p i) rfl]
  unfold setW
  rw [Int.toNat_natCast, bsum_testBit, show decide ((x % 64).toNat < 64) = true from by rw [decide_eq_true_eq]; omega, Bool.true_and]
  congr 1
  omega
theorem st_bind {α β : Type} {o : Option α} {f : α → Option β} {a : α} {r : Option β} (h : o = some a) (g : f a = r) : o.bind f = r := by
  rw [h]
  exact g
theorem st_pos {α : Type} {c : Prop} [Decidable c] {A B r : α} (h : c) (g : A = r) : (if c then A else B) = r := (if_pos h).trans g
theorem st_neg {α : Type} {c : Prop} [Decidable c] {A B r : α} (h : ¬ c) (g : B = r) : (if c then A else B) = r := (if_neg h).trans g
theorem setBits_law (p q : Nat → Bool) (c : Int) : ∃ k, templelaw1_SetBits.f k (setW p 0) (setW p 1) (setW p 2) (setW p 3) (setW q 0) (setW q 1) (setW q 2) (setW q 3) c = some true := by
  have hx : 0 ≤ c % 256 ∧ c % 256 ≤ 255 := by omega
  obtain ⟨K1, h1⟩ := awake_ev
  refine ⟨K1, ?_⟩
  have e1 := h1 K1 (Nat.le_refl _)
  dsimp only at e1
  clear h1
  unfold templelaw1_SetBits.f
  rw [i64_and255 c]
  generalize c % 256 = x at *
  have d1 : wrap64 (Int.tdiv x 64) = x / 64 := by
    rw [Int.tdiv_eq_ediv_of_nonneg hx.1]
    unfold wrap64
    omega
  have d2 : Int.tmod x 64 = x % 64 := Int.tmod_eq_emod_of_nonneg hx.1
  have d3 : 0 ≤ x % 64 := by omega
  have w1 : wrap64 (x + 256) = x + 256 := by unfold wrap64; omega
  have w2 : wrap64 (x - 256) = x - 256 := by unfold wrap64; omega
  have hp := Has_set p x hx.1 hx.2
  have hq := Has_set q x hx.1 hx.2
  have ho := Has_set (fun k => p k || q k) x hx.1 hx.2
  have ha := Has_set (fun k => p k && q k) x hx.1 hx.2
  have hm := Has_set (fun k => p k && !q k) x hx.1 hx.2
  have h1 := Has_out p (x + 256) (by omega)
  have h2 := Has_out p (x - 256) (by omega)
  have hO := Or_set p q
  have hA := And_set p q
  have hM := Minus_set p q
  have hi : x / 64 = 0 ∨ x / 64 = 1 ∨ x / 64 = 2 ∨ x / 64 = 3 := by omega
  have b0 : x / 64 = 0 → _ := fun h => idx_bit p x 0 hx.1 hx.2 h
  have b1 : x / 64 = 1 → _ := fun h => idx_bit p x 1 hx.1 hx.2 h
  have b2 : x / 64 = 2 → _ := fun h => idx_bit p x 2 hx.1 hx.2 h
  have b3 : x / 64 = 3 → _ := fun h => idx_bit p x 3 hx.1 hx.2 h
  refine st_bind e1 (st_pos rfl (st_bind hp (st_bind hq (st_bind hO (st_bind ho ?_)))))
  generalize p x.toNat = P at *
  generalize q x.toNat = Q at *
  cases P
  · cases Q
    · rcases hi with hi | hi | hi | hi
      · refine st_neg (by decide) ?_
        refine st_pos rfl ?_
        refine st_bind hA (st_bind ha ?_)
        refine st_pos rfl ?_
        refine st_bind hM (st_bind hm ?_)
        refine st_pos rfl ?_
        refine st_pos (by rw [d1, hi]) ?_
        refine st_pos (by rw [d2]; exact d3) ?_
        refine st_pos (by rw [d2, b0 hi]; rfl) ?_
        refine st_bind (by rw [w1]; exact h1) (st_neg (by decide) ?_)
        refine st_bind (by rw [w2]; exact h2) (st_neg (by decide) ?_)
        exact st_bind (Num_eq 0) rfl
      · refine st_neg (by decide) ?_
        refine st_pos rfl ?_
        refine st_bind hA (st_bind ha ?_)
        refine st_pos rfl ?_
        refine st_bind hM (st_bind hm ?_)
        refine st_pos rfl ?_
        refine st_neg (by rw [d1, hi]; decide) ?_
        refine st_pos (by rw [d1, hi]) ?_
        refine st_pos (by rw [d2]; exact d3) ?_
        refine st_pos (by rw [d2, b1 hi]; rfl) ?_
        refine st_bind (by rw [w1]; exact h1) (st_neg (by decide) ?_)
        refine st_bind (by rw [w2]; exact h2) (st_neg (by decide) ?_)
        exact st_bind (Num_eq 0) rfl
      · refine st_neg (by decide) ?_
        refine st_pos rfl ?_
        refine st_bind hA (st_bind ha ?_)
        refine st_pos rfl ?_
        refine st_bind hM (st_bind hm ?_)
        refine st_pos rfl ?_
        refine st_neg (by rw [d1, hi]; decide) ?_
        refine st_neg (by rw [d1, hi]; decide) ?_
        refine st_pos (by rw [d1, hi]) ?_
        refine st_pos (by rw [d2]; exact d3) ?_
        refine st_pos (by rw [d2, b2 hi]; rfl) ?_
        refine st_bind (by rw [w1]; exact h1) (st_neg (by decide) ?_)
        refine st_bind (by rw [w2]; exact h2) (st_neg (by decide) ?_)
        exact st_bind (Num_eq 0) rfl
      · refine st_neg (by decide) ?_
        refine st_pos rfl ?_
        refine st_bind hA (st_bind ha ?_)
        refine st_pos rfl ?_
        refine st_bind hM (st_bind hm ?_)
        refine st_pos rfl ?_
        refine st_neg (by rw [d1, hi]; decide) ?_
        refine st_neg (by rw [d1, hi]; decide) ?_
        refine st_neg (by rw [d1, hi]; decide) ?_
        refine st_pos (by rw [d1, hi]) ?_
        refine st_pos (by rw [d2]; exact d3) ?_
        refine st_pos (by rw [d2, b3 hi]; rfl) ?_
        refine st_bind (by rw [w1]; exact h1) (st_neg (by decide) ?_)
        refine st_bind (by rw [w2]; exact h2) (st_neg (by decide) ?_)
        exact st_bind (Num_eq 0) rfl
    · rcases hi with hi | hi | hi | hi
      · refine st_neg (by decide) ?_
        refine st_pos rfl ?_
        refine st_bind hA (st_bind ha ?_)
        refine st_pos rfl ?_
        refine st_bind hM (st_bind hm ?_)
        refine st_pos rfl ?_
        refine st_pos (by rw [d1, hi]) ?_
        refine st_pos (by rw [d2]; exact d3) ?_
        refine st_pos (by rw [d2, b0 hi]; rfl) ?_
        refine st_bind (by rw [w1]; exact h1) (st_neg (by decide) ?_)
        refine st_bind (by rw [w2]; exact h2) (st_neg (by decide) ?_)
        exact st_bind (Num_eq 0) rfl
      · refine st_neg (by decide) ?_
        refine st_pos rfl ?_
        refine st_bind hA (st_bind ha ?_)
        refine st_pos rfl ?_
        refine st_bind hM (st_bind hm ?_)
        refine st_pos rfl ?_
        refine st_neg (by rw [d1, hi]; decide) ?_
        refine st_pos (by rw [d1, hi]) ?_
        refine st_pos (by rw [d2]; exact d3) ?_
        refine st_pos (by rw [d2, b1 hi]; rfl) ?_
        refine st_bind (by rw [w1]; exact h1) (st_neg (by decide) ?_)
        refine st_bind (by rw [w2]; exact h2) (st_neg (by decide) ?_)
        exact st_bind (Num_eq 0) rfl
      · refine st_neg (by decide) ?_
        refine st_pos rfl ?_
        refine st_bind hA (st_bind ha ?_)
        refine st_pos rfl ?_
        refine st_bind hM (st_bind hm ?_)
        refine st_pos rfl ?_
        refine st_neg (by rw [d1, hi]; decide) ?_
        refine st_neg (by rw [d1, hi]; decide) ?_
        refine st_pos (by rw [d1, hi]) ?_
        refine st_pos (by rw [d2]; exact d3) ?_
        refine st_pos (by rw [d2, b2 hi]; rfl) ?_
        refine st_bind (by rw [w1]; exact h1) (st_neg (by decide) ?_)
        refine st_bind (by rw [w2]; exact h2) (st_neg (by decide) ?_)
        exact st_bind (Num_eq 0) rfl
      · refine st_neg (by decide) ?_
        refine st_pos rfl ?_
        refine st_bind hA (st_bind ha ?_)
        refine st_pos rfl ?_
        refine st_bind hM (st_bind hm ?_)
        refine st_pos rfl ?_
        refine st_neg (by rw [d1, hi]; decide) ?_
        refine st_neg (by rw [d1, hi]; decide) ?_
        refine st_neg (by rw [d1, hi]; decide) ?_
        refine st_pos (by rw [d1, hi]) ?_
        refine st_pos (by rw [d2]; exact d3) ?_
        refine st_pos (by rw [d2, b3 hi]; rfl) ?_
        refine st_bind (by rw [w1]; exact h1) (st_neg (by decide) ?_)
        refine st_bind (by rw [w2]; exact h2) (st_neg (by decide) ?_)
        exact st_bind (Num_eq 0) rfl
  · cases Q
    · rcases hi with hi | hi | hi | hi
      · refine st_pos rfl ?_
        refine st_pos rfl ?_
        refine st_bind hA (st_bind ha ?_)
        refine st_pos rfl ?_
        refine st_bind hM (st_bind hm ?_)
        refine st_pos rfl ?_
        refine st_pos (by rw [d1, hi]) ?_
        refine st_pos (by rw [d2]; exact d3) ?_
        refine st_pos (by rw [d2, b0 hi]; rfl) ?_
        refine st_bind (by rw [w1]; exact h1) (st_neg (by decide) ?_)
        refine st_bind (by rw [w2]; exact h2) (st_neg (by decide) ?_)
        exact st_bind (Num_eq 0) rfl
      · refine st_pos rfl ?_
        refine st_pos rfl ?_
        refine st_bind hA (st_bind ha ?_)
        refine st_pos rfl ?_
        refine st_bind hM (st_bind hm ?_)
        refine st_pos rfl ?_
        refine st_neg (by rw [d1, hi]; decide) ?_
        refine st_pos (by rw [d1, hi]) ?_
        refine st_pos (by rw [d2]; exact d3) ?_
        refine st_pos (by rw [d2, b1 hi]; rfl) ?_
        refine st_bind (by rw [w1]; exact h1) (st_neg (by decide) ?_)
        refine st_bind (by rw [w2]; exact h2) (st_neg (by decide) ?_)
        exact st_bind (Num_eq 0) rfl
      · refine st_pos rfl ?_
        refine st_pos rfl ?_
        refine st_bind hA (st_bind ha ?_)
        refine st_pos rfl ?_
        refine st_bind hM (st_bind hm ?_)
        refine st_pos rfl ?_
        refine st_neg (by rw [d1, hi]; decide) ?_
        refine st_neg (by rw [d1, hi]; decide) ?_
        refine st_pos (by rw [d1, hi]) ?_
        refine st_pos (by rw [d2]; exact d3) ?_
        refine st_pos (by rw [d2, b2 hi]; rfl) ?_
        refine st_bind (by rw [w1]; exact h1) (st_neg (by decide) ?_)
        refine st_bind (by rw [w2]; exact h2) (st_neg (by decide) ?_)
        exact st_bind (Num_eq 0) rfl
      · refine st_pos rfl ?_
        refine st_pos rfl ?_
        refine st_bind hA (st_bind ha ?_)
        refine st_pos rfl ?_
        refine st_bind hM (st_bind hm ?_)
        refine st_pos rfl ?_
        refine st_neg (by rw [d1, hi]; decide) ?_
        refine st_neg (by rw [d1, hi]; decide) ?_
        refine st_neg (by rw [d1, hi]; decide) ?_
        refine st_pos (by rw [d1, hi]) ?_
        refine st_pos (by rw [d2]; exact d3) ?_
        refine st_pos (by rw [d2, b3 hi]; rfl) ?_
        refine st_bind (by rw [w1]; exact h1) (st_neg (by decide) ?_)
        refine st_bind (by rw [w2]; exact h2) (st_neg (by decide) ?_)
        exact st_bind (Num_eq 0) rfl
    · rcases hi with hi | hi | hi | hi
      · refine st_pos rfl ?_
        refine st_pos rfl ?_
        refine st_bind hA (st_bind ha ?_)
        refine st_pos rfl ?_
        refine st_bind hM (st_bind hm ?_)
        refine st_pos rfl ?_
        refine st_pos (by rw [d1, hi]) ?_
        refine st_pos (by rw [d2]; exact d3) ?_
        refine st_pos (by rw [d2, b0 hi]; rfl) ?_
        refine st_bind (by rw [w1]; exact h1) (st_neg (by decide) ?_)
        refine st_bind (by rw [w2]; exact h2) (st_neg (by decide) ?_)
        exact st_bind (Num_eq 0) rfl
      · refine st_pos rfl ?_
        refine st_pos rfl ?_
        refine st_bind hA (st_bind ha ?_)
        refine st_pos rfl ?_
        refine st_bind hM (st_bind hm ?_)
        refine st_pos rfl ?_
        refine st_neg (by rw [d1, hi]; decide) ?_
        refine st_pos (by rw [d1, hi]) ?_
        refine st_pos (by rw [d2]; exact d3) ?_
        refine st_pos (by rw [d2, b1 hi]; rfl) ?_
        refine st_bind (by rw [w1]; exact h1) (st_neg (by decide) ?_)
        refine st_bind (by rw [w2]; exact h2) (st_neg (by decide) ?_)
        exact st_bind (Num_eq 0) rfl
      · refine st_pos rfl ?_
        refine st_pos rfl ?_
        refine st_bind hA (st_bind ha ?_)
        refine st_pos rfl ?_
        refine st_bind hM (st_bind hm ?_)
        refine st_pos rfl ?_
        refine st_neg (by rw [d1, hi]; decide) ?_
        refine st_neg (by rw [d1, hi]; decide) ?_
        refine st_pos (by rw [d1, hi]) ?_
        refine st_pos (by rw [d2]; exact d3) ?_
        refine st_pos (by rw [d2, b2 hi]; rfl) ?_
        refine st_bind (by rw [w1]; exact h1) (st_neg (by decide) ?_)
        refine st_bind (by rw [w2]; exact h2) (st_neg (by decide) ?_)
        exact st_bind (Num_eq 0) rfl
      · refine st_pos rfl ?_
        refine st_pos rfl ?_
        refine st_bind hA (st_bind ha ?_)
        refine st_pos rfl ?_
        refine st_bind hM (st_bind hm ?_)
        refine st_pos rfl ?_
        refine st_neg (by rw [d1, hi]; decide) ?_
        refine st_neg (by rw [d1, hi]; decide) ?_
        refine st_neg (by rw [d1, hi]; decide) ?_
        refine st_pos (by rw [d1, hi]) ?_
        refine st_pos (by rw [d2]; exact d3) ?_
        refine st_pos (by rw [d2, b3 hi]; rfl) ?_
        refine st_bind (by rw [w1]; exact h1) (st_neg (by decide) ?_)
        refine st_bind (by rw [w2]; exact h2) (st_neg (by decide) ?_)
        exact st_bind (Num_eq 0) rfl
end Go.Proofs.Ytldoicmbacppeaa.PL1
