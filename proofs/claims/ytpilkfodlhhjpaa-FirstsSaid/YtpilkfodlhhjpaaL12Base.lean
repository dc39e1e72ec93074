import Derived.Test.YtpilkfodlhhjpaaL10Copy
import Derived.Test.YtpilkfodlhhjpaaPFAx16
import Derived.Test.YtpilkfodlhhjpaaPFAx15
import Derived.Test.YtpilkfodlhhjpaaPFAx20
import Derived.Test.YtpilkfodlhhjpaaPFAx17
import Derived.Test.YtpilkfodlhhjpaaPFAx17
import Derived.Test.YtpilkfodlhhjpaaPFAx17
namespace Go.Proofs.Ytpilkfodlhhjpaa.PFA
open Go.RowKit Go.Proofs.YtpilkfodlhhjpaaW.PrintWords Go.Proofs.YtpilkfodlhhjpaaW.PrintLast
set_option linter.unusedVariables false
theorem st_bind {α β : Type} {o : Option α} {f : α → Option β} {a : α} {r : Option β} (h : o = some a) (g : f a = r) : o.bind f = r := by
  rw [h, Option.bind_some]
  exact g
theorem st_pos {α : Type} {c : Prop} [Decidable c] {A B r : α} (h : c) (g : A = r) : (if c then A else B) = r := (if_pos h).trans g
theorem ev_two {α : Type} {g : Nat → Option α} {r : α} (K : Nat) (h : g K = some r) (hm : ∀ k, LeO (g k) (g (k + 1))) : Ev g r := by
  refine ⟨K, fun k hk => ?_⟩
  obtain ⟨d, rfl⟩ : ∃ d, k = K + d := ⟨k - K, by omega⟩
  clear hk
  induction d with
  | zero => exact h
  | succ d ih => exact hm _ _ ih
theorem refEmpty_ev (a : Int) (ns : List ByteArray) (rs : List S55) : Ev (fun k => templeref6_Empty.f k a ns rs) (if mayB a ns rs then (emptyL ns rs, 0) else ([], 1200)) := by
  refine Ev.bind (ref_May a ns rs) ⟨0, fun k _ => ?_⟩
  cases h : mayB a ns rs with
  | false => rw [if_neg (by decide), if_neg (by decide)]
  | true => rw [if_pos rfl, if_pos rfl, if_pos rfl]
theorem refFirst_ev (a : Int) (ns : List ByteArray) (rs : List S55) : Ev (fun k => templeref6_First.f k a ns rs) (if mayB a ns rs then (firstL ns rs, 0) else ([], 1200)) := by
  obtain ⟨K, hK⟩ := refEmpty_ev a ns rs
  refine ⟨K, fun k hk => ?_⟩
  have h2 := hK k hk
  show templeref6_First.f k a ns rs = _
  unfold templeref6_First.f
  cases h : mayB a ns rs with
  | false =>
    rw [h] at h2
    have h3 : templeref6_Empty.f k a ns rs = some ([], 1200) := h2
    rw [h3, Option.bind_some]
    rfl
  | true =>
    rw [h] at h2
    have h3 : templeref6_Empty.f k a ns rs = some (emptyL ns rs, 0) := h2
    rw [h3, Option.bind_some]
    rfl
theorem refFollow_ev (a : Int) (ns : List ByteArray) (rs : List S55) : Ev (fun k => templeref6_Follow.f k a ns rs) (if mayB a ns rs then (followL a ns rs, 0) else ([], 1200)) := by
  obtain ⟨K, hK⟩ := refEmpty_ev a ns rs
  obtain ⟨K2, hK2⟩ := refFirst_ev a ns rs
  refine ⟨K + K2, fun k hk => ?_⟩
  have h2 := hK k (by omega)
  have h4 := hK2 k (by omega)
  show templeref6_Follow.f k a ns rs = _
  unfold templeref6_Follow.f
  cases h : mayB a ns rs with
  | false =>
    rw [h] at h2
    have h3 : templeref6_Empty.f k a ns rs = some ([], 1200) := h2
    rw [h3, Option.bind_some]
    rfl
  | true =>
    rw [h] at h2 h4
    have h3 : templeref6_Empty.f k a ns rs = some (emptyL ns rs, 0) := h2
    have h5 : templeref6_First.f k a ns rs = some (firstL ns rs, 0) := h4
    rw [h3, Option.bind_some, h5]
    rfl
theorem same_loop {l0 : Nat → Int → Option Bool} {n : Nat} (hn : n < 9223372036854775807) (hend : ∀ k, l0 (k + 1) (n : Int) = some true) (hstep : ∀ k (i : Nat), i < n → l0 (k + 1) (i : Int) = l0 k (wrap64 ((i : Int) + 1))) : Ev (fun k => l0 k 0) true := by
  have h : ∀ d i : Nat, i + d = n → ∀ k, d < k → l0 k (i : Int) = some true := by
    intro d
    induction d with
    | zero =>
      intro i hi k hk
      obtain ⟨k, rfl⟩ : ∃ m, k = m + 1 := ⟨k - 1, by omega⟩
      obtain rfl : i = n := by omega
      exact hend k
    | succ d ih =>
      intro i hi k hk
      obtain ⟨k, rfl⟩ : ∃ m, k = m + 1 := ⟨k - 1, by omega⟩
      rw [hstep k i (by omega), show wrap64 ((i : Int) + 1) = ((i + 1 : Nat) : Int) from by unfold wrap64; omega]
      exact ih (i + 1) (by omega) k (by omega)
  exact ⟨n + 1, fun k hk => h n 0 (by omega) k (by omega)⟩
theorem sameBools_self (l : List Bool) (hl : l.length < 9223372036854775807) : Ev (fun k => templelaw0_SameBools.f k l l) true := by
  unfold templelaw0_SameBools.f
  rw [show (fun k => if (l.length : Int) = (l.length : Int) then templelaw0_SameBools.l0 k l l 0 else some false) = (fun k => templelaw0_SameBools.l0 k l l 0) from funext fun k => if_pos rfl]
  refine same_loop (l0 := fun k i => templelaw0_SameBools.l0 k l l i) hl (fun k => ?_) (fun k i hi => ?_)
  · simp only [templelaw0_SameBools.l0]
    rw [if_neg (by omega)]
  · simp only [templelaw0_SameBools.l0]
    rw [if_pos (by omega), if_pos (by omega), if_pos (by omega), if_neg (by simp)]
theorem sameSets_self (l : List S63) (hl : l.length < 9223372036854775807) : Ev (fun k => templelaw0_SameSets.f k l l) true := by
  unfold templelaw0_SameSets.f
  rw [show (fun k => if (l.length : Int) = (l.length : Int) then templelaw0_SameSets.l0 k l l 0 else some false) = (fun k => templelaw0_SameSets.l0 k l l 0) from funext fun k => if_pos rfl]
  refine same_loop (l0 := fun k i => templelaw0_SameSets.l0 k l l i) hl (fun k => ?_) (fun k i hi => ?_)
  · simp only [templelaw0_SameSets.l0]
    rw [if_neg (by omega)]
  · simp only [templelaw0_SameSets.l0]
    rw [if_pos (by omega), if_pos (by omega), if_pos (by omega), if_neg (by simp)]
theorem sameFollows_self (l : List S66) (hl : l.length < 9223372036854775807) : Ev (fun k => templelaw0_SameFollows.f k l l) true := by
  unfold templelaw0_SameFollows.f
  rw [show (fun k => if (l.length : Int) = (l.length : Int) then templelaw0_SameFollows.l0 k l l 0 else some false) = (fun k => templelaw0_SameFollows.l0 k l l 0) from funext fun k => if_pos rfl]
  refine same_loop (l0 := fun k i => templelaw0_SameFollows.l0 k l l i) hl (fun k => ?_) (fun k i hi => ?_)
  · simp only [templelaw0_SameFollows.l0]
    rw [if_neg (by omega)]
  · simp only [templelaw0_SameFollows.l0]
    rw [if_pos (by omega), if_pos (by omega), if_pos (by omega), if_neg (by simp)]
set_option maxRecDepth 100000 in
theorem awake12_at : templelaw12_awake.f 300 = some true := by decide +kernel
theorem awake12 : Ev (fun k => templelaw12_awake.f k) true := ev_two 300 awake12_at (fun k => templelaw12_awake.mono k)
theorem followL_in (a : Int) (ns : List ByteArray) (rs : List S55) : InW ns.length (followL a ns rs) :=
  iter_inv _ (InW ns.length) (fun s hs => (passT_chan (posW (emptyL ns rs) (firstL ns rs)) (fun _ _ t => t) (fun _ => []) (InW ns.length) rs (fun r _ c _ s h => posW_in (firstL_in ns rs).2 _ _ h) (fun r _ c _ s h => rfl) s hs).2) _ (startW_in _ _) _
end Go.Proofs.Ytpilkfodlhhjpaa.PFA
