/- Layer 12, plain: what stands under the laws FirstsHold and FollowsHold (L12Base without the document's answers; never import both). -/
import Derived.Test.YtpilkfodlhhjpaaPFMx5
import Derived.Test.YtpilkfodlhhjpaaPFMx6
import Derived.Test.YtpilkfodlhhjpaaPFMx9
namespace Go.Proofs.Ytpilkfodlhhjpaa.PFM
open Go.RowKit Go.Proofs.YtpilkfodlhhjpaaW.PrintWords Go.Proofs.YtpilkfodlhhjpaaW.PrintLast
set_option linter.unusedVariables false
theorem st_bind {α β : Type} {o : Option α} {f : α → Option β} {a : α} {r : Option β} (h : o = some a) (g : f a = r) : o.bind f = r := by
  rw [h, Option.bind_some]
  exact g
theorem st_pos {α : Type} {c : Prop} [Decidable c] {A B r : α} (h : c) (g : A = r) : (if c then A else B) = r := (if_pos h).trans g
theorem st_neg {α : Type} {c : Prop} [Decidable c] {A B r : α} (h : ¬ c) (g : B = r) : (if c then A else B) = r := (if_neg h).trans g
theorem ev_two {α : Type} {g : Nat → Option α} {r : α} (K : Nat) (h : g K = some r) (hm : ∀ k, LeO (g k) (g (k + 1))) : Ev g r := by
  refine ⟨K, fun k hk => ?_⟩
  obtain ⟨d, rfl⟩ : ∃ d, k = K + d := ⟨k - K, by omega⟩
  clear hk
  induction d with
  | zero => exact h
  | succ d ih => exact hm _ _ ih
theorem co_mixf (a b : S63) : templeref1_Mix.f 0 a.f0 a.f1 a.f2 a.f3 b.f0 b.f1 b.f2 b.f3 = some ((orS a b).f0, (orS a b).f1, (orS a b).f2, (orS a b).f3) := rfl
set_option maxRecDepth 100000 in
theorem awake12_at : templelaw12_awake.f 300 = some true := by decide +kernel
theorem awake12 : Ev (fun k => templelaw12_awake.f k) true := ev_two 300 awake12_at (fun k => templelaw12_awake.mono k)
theorem followL_in (a : Int) (ns : List ByteArray) (rs : List S55) : InW ns.length (followL a ns rs) :=
  iter_inv _ (InW ns.length) (fun s hs => (passT_chan (posW (emptyL ns rs) (firstL ns rs)) (fun _ _ t => t) (fun _ => []) (InW ns.length) rs (fun r _ c _ s h => posW_in (firstL_in ns rs).2 _ _ h) (fun r _ c _ s h => rfl) s hs).2) _ (startW_in _ _) _
end Go.Proofs.Ytpilkfodlhhjpaa.PFM
