import Derived.Test.YtdjnpgigdchfkaaWWords
import Derived.Test.YtdjnpgigdchfkaaWShare
import Derived.Test.YtdjnpgigdchfkaaWN
import Derived.Test.YtdjnpgigdchfkaaWApart
namespace Go.Proofs.Ytdjnpgigdchfkaa
open Go.RowKit Go.Proofs.YtdjnpgigdchfkaaW.PrintWords
set_option linter.unusedVariables false
theorem C_lit {α : Type} {d : Kd α} {w : World} {g e : Nat} {cs : Array Value} {xs : List α} (hg : w.heap[g]? = some (.cells cs e (0, 0))) (hr : Reps (d.K w) d.sz xs cs.toList) (hl : xs.length ≤ 9223372036854775807) : Kd.C d w (some ⟨g, 0, none⟩) xs.length xs := by
  refine ⟨rfl, hl, fun _ => ⟨_, rfl, fun j p hp => ?_⟩⟩
  have hk := hr.2 j p hp
  refine ⟨_, d.K_len hk, hk, fun i u hu => ?_⟩
  have hi : i < d.sz := by
    have := (List.getElem?_eq_some_iff.1 hu).1
    rw [d.K_len hk] at this
    exact this
  rw [List.getElem?_take_of_lt hi, List.getElem?_drop] at hu
  rw [add_plain, blk_cell hg]
  simpa using hu
theorem R_blk {α : Type} {d : Kd α} {e base g : Nat} {w : World} {ok okp : Nat → Prop} {cs : Array Value} {xs : List α} (hb : base ≤ g) (hg : w.heap[g]? = some (.cells cs e (0, 0))) (hr : Reps (d.M w base okp) d.sz xs cs.toList) (hok : ∀ k, okp k → ok k ∧ k ≠ g) (hgo : ok g) (hl : xs.length ≤ 9223372036854775807) :
    Kd.R d e w base ok (.slice (some ⟨g, 0, none⟩) xs.length xs.length) xs := by
  refine ⟨fun k hk => ?_, cs.toList, ⟨hr.1, .inr ⟨g, xs.length, cs, rfl, hb, hg, Nat.le_refl _, hl, ?_, ?_⟩⟩, hr.imp_ (fun _ _ hp => d.M_mono (fun k hk => ⟨(hok k hk).1, fun he => (hok k hk).2 (by injection he)⟩) hp)⟩
  · injection hk with hk
    exact hk ▸ hgo
  · rw [← Array.length_toList]
    exact hr.1
  · rw [← hr.1, List.take_length]
end Go.Proofs.Ytdjnpgigdchfkaa
