/- Layer 4, plain: a copy of declarations says what they say (CopyRaw). -/
import Derived.Test.YtdjnpgigdchfkaaL4Made
import Derived.Test.YtdjnpgigdchfkaaPBSx1
namespace Go.Proofs.Ytdjnpgigdchfkaa.PBS
open Go.RowKit Go.Proofs.YtdjnpgigdchfkaaW.PrintWords Go.Proofs.YtdjnpgigdchfkaaW.PrintLast
set_option linter.unusedVariables false
set_option linter.unusedSimpArgs false
theorem copyRaw_l1 (l0 : List ByteArray) (l1 : List S45) (st : List ByteArray) (acc : List S45) (i : Nat) (hi : i < l1.length) (hl : l1[i].f1.length ≤ 1048576) (hc : ∀ a ∈ l1[i].f1, a.length ≤ 1048576 ∧ ∀ c ∈ a, c.f1.length ≤ 1048576) (hacc : acc.length ≤ 1048576) (R : List ByteArray × List S45)
    (hn : Ev (fun k => templelaw0_CopyRaw.l0 k (wrap64 ((i : Int) + 1)) l0 l1 st (acc ++ [l1[i]])) R) : Ev (fun k => templelaw0_CopyRaw.l1 k (i : Int) 0 l0 l1 st acc l1[i].f0 []) R := by
  have e1 := rd_def l1 i hi
  refine ev_down (l := fun k a => templelaw0_CopyRaw.l1 k (i : Int) (a : Int) l0 l1 st acc l1[i].f0 (l1[i].f1.take a)) (n := l1[i].f1.length) ?_ ?_ 0 (by omega)
  · refine Ev.step (fun k => ?_) hn
    simp only [templelaw0_CopyRaw.l1]
    rw [e1, if_pos (by omega), if_pos (by omega), if_neg (by omega), if_pos (by omega), List.take_length]
  · intro a ha ih
    have e2 := rd_alt l1[i].f1 a ha
    obtain ⟨h1, h2⟩ := hc _ (List.getElem_mem ha)
    refine Ev.step (fun k => ?_) (ev_down (l := fun k j => templelaw0_CopyRaw.l2 k (i : Int) (a : Int) (l1[i].f1[a].take j) (j : Int) l0 l1 st acc l1[i].f0 (l1[i].f1.take a)) (n := l1[i].f1[a].length) ?_ ?_ 0 (by omega))
    · simp only [templelaw0_CopyRaw.l1]
      rw [e1, if_pos (by omega), if_pos (by omega), if_pos (by omega)]
      rfl
    · refine Ev.step (fun k => ?_) ih
      simp only [templelaw0_CopyRaw.l2]
      rw [e1, e2, if_pos (by omega), if_pos (by omega), if_pos (by omega), if_pos (by omega), if_neg (by omega), List.length_take, if_pos (by omega), List.take_length, wrap_nat a (by omega), List.take_succ_eq_append_getElem ha]
    · intro j hj ih2
      have h3 := h2 _ (List.getElem_mem hj)
      refine Ev.step (fun k => ?_) ih2
      simp only [templelaw0_CopyRaw.l2]
      rw [e1, e2, if_pos (by omega), if_pos (by omega), if_pos (by omega), if_pos (by omega), if_pos (by omega), if_pos (by omega), rd_rconj _ j hj, Option.bind_some, List.nil_append, List.length_nil, if_pos (by omega), List.length_take, if_pos (by omega), wrap_nat j (by omega), List.take_succ_eq_append_getElem hj]
theorem copyRaw_ev (l0 : List ByteArray) (l1 : List S45) (h0 : l0.length ≤ 1048576) (hs : RawSmall l1) : Ev (fun k => templelaw0_CopyRaw.f k l0 l1) (l0, l1) := by
  have hd := hs.defs
  refine Ev.congr (f := fun k => templelaw0_CopyRaw.l0 k 0 l0 l1 l0 []) (fun k => ?_) ?_
  · unfold templelaw0_CopyRaw.f
    rw [Option.bind_some, List.length_nil, if_pos (by omega), List.nil_append]
  refine ev_down (l := fun k i => templelaw0_CopyRaw.l0 k (i : Int) l0 l1 l0 (l1.take i)) (n := l1.length) ?_ ?_ 0 (by omega)
  · refine Ev.step (f := fun _ => some _) (fun k => ?_) (Ev.now _)
    simp only [templelaw0_CopyRaw.l0]
    rw [if_neg (by omega), List.take_length]
  · intro i hi ih
    have hm := List.getElem_mem hi
    have hle : l1[i].f1.length ≤ 1048576 := by
      have hsum : ∀ (l : List Nat) (x : Nat), x ∈ l → x ≤ l.sum := fun l => by
        induction l with
        | nil => intro x h; cases h
        | cons y l ihl =>
          intro x h
          rw [List.sum_cons]
          rcases List.mem_cons.1 h with rfl | h
          · omega
          · have := ihl x h
            omega
      exact Nat.le_trans (hsum _ _ (List.mem_map_of_mem (f := fun d : S45 => d.f1.length) hm)) hs.rules
    refine Ev.step (fun k => ?_) (copyRaw_l1 l0 l1 l0 (l1.take i) i hi hle (fun a ha => ⟨hs.conjs _ hm a ha, fun c hc => (hs.syms _ hm a ha c hc).1⟩) (by rw [List.length_take]; omega) _ ?_)
    · simp only [templelaw0_CopyRaw.l0]
      rw [if_pos (by omega), if_pos (by omega), rd_def l1 i hi]
    · rw [wrap_nat i (by omega)]
      rw [List.take_succ_eq_append_getElem hi] at ih
      exact ih
end Go.Proofs.Ytdjnpgigdchfkaa.PBS
