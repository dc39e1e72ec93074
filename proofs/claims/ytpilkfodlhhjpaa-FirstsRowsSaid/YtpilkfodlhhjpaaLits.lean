import Derived.Test.YtpilkfodlhhjpaaWWords
import Derived.Test.YtpilkfodlhhjpaaWShare
import Derived.Test.YtpilkfodlhhjpaaWN
import Derived.Test.YtpilkfodlhhjpaaWApart
namespace Go.Proofs.Ytpilkfodlhhjpaa
open Go.RowKit Go.Proofs.YtpilkfodlhhjpaaW.PrintWords
set_option linter.unusedVariables false
theorem R_blk {α : Type} {d : Kd α} {e base g : Nat} {w : World} {ok okp : Nat → Prop} {cs : Array Value} {xs : List α} (hb : base ≤ g) (hg : w.heap[g]? = some (.cells cs e (0, 0))) (hr : Reps (d.M w base okp) d.sz xs cs.toList) (hok : ∀ k, okp k → ok k ∧ k ≠ g) (hgo : ok g) (hl : xs.length ≤ 9223372036854775807) :
    Kd.R d e w base ok (.slice (some ⟨g, 0, none⟩) xs.length xs.length) xs := by
  refine ⟨fun k hk => ?_, cs.toList, ⟨hr.1, .inr ⟨g, xs.length, cs, rfl, hb, hg, Nat.le_refl _, hl, ?_, ?_⟩⟩, hr.imp_ (fun _ _ hp => d.M_mono (fun k hk => ⟨(hok k hk).1, fun he => (hok k hk).2 (by injection he)⟩) hp)⟩
  · injection hk with hk
    exact hk ▸ hgo
  · rw [← Array.length_toList]
    exact hr.1
  · rw [← hr.1, List.take_length]
end Go.Proofs.Ytpilkfodlhhjpaa
