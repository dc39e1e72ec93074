import Derived.Test.YtdjnpgigdchfkaaWWords
import Derived.Test.YtdjnpgigdchfkaaWShare
import Derived.Test.YtdjnpgigdchfkaaWN
import Derived.Test.YtdjnpgigdchfkaaWApart
namespace Go.Proofs.Ytdjnpgigdchfkaa
open Go.RowKit Go.Proofs.YtdjnpgigdchfkaaW.PrintWords
set_option linter.unusedVariables false
theorem C_lit {α : Type} {d : Kd α} {w : World} {g e : Nat} {cs : Array Value} {xs : List α} (hg : w.heap[g]? = some (.cells cs e (0, 0))) (hr : Reps (d.K w) d.sz xs cs.toList) (hl : xs.length ≤ 9223372036854775807) : Kd.C d w (some ⟨g, 0, none⟩) xs.length xs := by
  refine ⟨rfl, hl, fun _ => ⟨_, rfl, fun j p hp => ?_⟩⟩
  have hk := hr.2 j p hp
  refine ⟨_, d.K_len hk, hk, fun i u hu => ?_⟩
  have hi : i < d.sz := by
    have := (List.getElem?_eq_some_iff.1 hu).1
    rw [d.K_len hk] at this
    exact this
  rw [List.getElem?_take_of_lt hi, List.getElem?_drop] at hu
  rw [add_plain, blk_cell hg]
  simpa using hu
end Go.Proofs.Ytdjnpgigdchfkaa
