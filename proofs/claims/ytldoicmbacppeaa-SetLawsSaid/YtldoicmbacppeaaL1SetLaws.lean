/- Layer 1, plain: the law SetLaws answers true. -/
import Derived.Test.YtldoicmbacppeaaL1
import Derived.Test.YtldoicmbacppeaaPL1x22
namespace Go.Proofs.Ytldoicmbacppeaa.PL1
open Go.RowKit Go.Proofs.YtldoicmbacppeaaW.PrintWords Go.Proofs.YtldoicmbacppeaaW.PrintLast
set_option linter.unusedVariables false
set_option linter.unusedSimpArgs false

set_option maxHeartbeats 1000000 in
theorem SetLaws_true (p q r : Nat → Bool) : ∃ k, templelaw1_SetLaws.f k (setW p 0) (setW p 1) (setW p 2) (setW p 3) (setW q 0) (setW q 1) (setW q 2) (setW q 3) (setW r 0) (setW r 1) (setW r 2) (setW r 3) = some true := by
  obtain ⟨k, h⟩ := awake_ev.rounds
  refine ⟨k, ?_⟩
  have hr := Range_yes 0 255 (by decide) (by decide) (by decide)
  have hc : ((cntb (rangeP 0 255) 256 : Nat) : Int) = 256 := cntb_range 0 255 (by decide) (by decide) (by decide)
  have z0 := setW_false
  have q1 : (fun k => rangeP 0 255 k && !(p k || q k)) = (fun k => (rangeP 0 255 k && !p k) && (rangeP 0 255 k && !q k)) := by
    funext k
    cases rangeP 0 255 k <;> cases p k <;> cases q k <;> rfl
  have q2 : (fun k => p k && (q k || r k)) = (fun k => (p k && q k) || (p k && r k)) := by
    funext k
    cases p k <;> cases q k <;> cases r k <;> rfl
  have q3 : (fun k => q k || p k) = (fun k => p k || q k) := by
    funext k
    cases p k <;> cases q k <;> rfl
  have q4 : (fun k => (p k || q k) || r k) = (fun k => p k || (q k || r k)) := by
    funext k
    cases p k <;> cases q k <;> cases r k <;> rfl
  have q5 : (fun k => p k && !p k) = (fun _ => false) := by
    funext k
    cases p k <;> rfl
  have q6 : (fun k => p k || p k) = p := by
    funext k
    cases p k <;> rfl
  unfold templelaw1_SetLaws.f
  simp only [h, Option.bind_some, if_true, hr, Or_set, Minus_set, And_set, Num_eq, Count_set, hc, q1, q2, q3, q4, q5, q6, z0, beq_self_eq_true, Bool.and_self]

end Go.Proofs.Ytldoicmbacppeaa.PL1
