import Derived.Test.YtdjnpgigdchfkaaL10
import Derived.Test.YtdjnpgigdchfkaaPBSx14
namespace Go.Proofs.Ytdjnpgigdchfkaa.PBS
open Go.RowKit Go.Proofs.YtdjnpgigdchfkaaW.PrintWords Go.Proofs.YtdjnpgigdchfkaaW.PrintLast
set_option linter.unusedVariables false
set_option linter.unusedSimpArgs false
def gramSized (nm : List ByteArray) (rs : List S51) : Prop :=
  nm.length < 8796093022208 ∧ rs.length < 4398046511104 ∧ ∀ r ∈ rs, r.f1.length < 4398046511104 ∧ ∀ c ∈ r.f1, c.f1.length < 5864062014805
theorem copy_l1 (a : Int) (nm : List ByteArray) (rs : List S51) (x0 : Int) (x1 : List ByteArray) (i : Nat) (hi : i < rs.length) (acc : List S51) (hacc : acc.length < 4398046511104) (hsz : rs[i].f1.length < 4398046511104) (hsy : ∀ c ∈ rs[i].f1, c.f1.length < 5864062014805) (R : Int × List ByteArray × (List S51))
    (hc : Ev (fun k => templelaw0_CopyGrammar.l0 k (wrap64 ((i : Int) + 1)) a nm rs x0 x1 (acc ++ [rs[i]])) R) :
    ∀ d j : Nat, j + d = rs[i].f1.length → Ev (fun k => templelaw0_CopyGrammar.l1 k (i : Int) (j : Int) a nm rs x0 x1 acc rs[i].f0 (rs[i].f1.take j)) R := by
  intro d
  induction d with
  | zero =>
    intro j hj
    obtain rfl : j = rs[i].f1.length := by omega
    refine Ev.step (fun k => ?_) hc
    simp only [templelaw0_CopyGrammar.l1]
    rw [rd_rule rs i hi, if_pos (by omega), if_pos (by omega), if_neg (by omega), if_pos hacc, List.take_length]
  | succ d ih =>
    intro j hj
    have hlt : j < rs[i].f1.length := by omega
    refine Ev.step (f := fun k => templelaw0_CopyGrammar.l1 k (i : Int) ((j + 1 : Nat) : Int) a nm rs x0 x1 acc rs[i].f0 (rs[i].f1.take (j + 1))) (fun k => ?_) (ih (j + 1) (by omega))
    have h1 := hsy _ (List.getElem_mem hlt)
    simp only [templelaw0_CopyGrammar.l1]
    rw [rd_rule rs i hi, rd_conj _ j hlt, if_pos (by omega), if_pos (by omega), if_pos (by omega), if_pos (by omega), Option.bind_some, List.length_nil, Nat.zero_add, if_pos h1, List.length_take, if_pos (by omega), wrap_nat j (by omega), List.nil_append, List.take_succ_eq_append_getElem hlt]
theorem copy_ev (a : Int) (nm : List ByteArray) (rs : List S51) (hs : gramSized nm rs) : Ev (fun k => templelaw0_CopyGrammar.f k a nm rs) (a, nm, rs) := by
  obtain ⟨h1, h2, h3⟩ := hs
  have key : ∀ d i : Nat, i + d = rs.length → Ev (fun k => templelaw0_CopyGrammar.l0 k (i : Int) a nm rs a nm (rs.take i)) (a, nm, rs) := by
    intro d
    induction d with
    | zero =>
      intro i hi
      obtain rfl : i = rs.length := by omega
      refine Ev.step (f := fun _ => some (a, nm, rs)) (fun k => ?_) (Ev.now _)
      simp only [templelaw0_CopyGrammar.l0]
      rw [if_neg (by omega), List.take_length]
    | succ d ih =>
      intro i hi
      have hlt : i < rs.length := by omega
      obtain ⟨h4, h5⟩ := h3 _ (List.getElem_mem hlt)
      refine Ev.step (f := fun k => templelaw0_CopyGrammar.l1 k (i : Int) ((0 : Nat) : Int) a nm rs a nm (rs.take i) rs[i].f0 (rs[i].f1.take 0)) (fun k => ?_) (copy_l1 a nm rs a nm i hlt _ (by rw [List.length_take]; omega) h4 h5 _ ?_ rs[i].f1.length 0 (by omega))
      · simp only [templelaw0_CopyGrammar.l0]
        rw [rd_rule rs i hlt, if_pos (by omega), if_pos (by omega)]
        rfl
      · have := ih (i + 1) (by omega)
        rw [List.take_succ_eq_append_getElem hlt] at this
        rw [wrap_nat i (by omega)]
        exact this
  refine Ev.congr (f := fun k => templelaw0_CopyGrammar.l0 k ((0 : Nat) : Int) a nm rs a nm (rs.take 0)) (fun k => ?_) (key rs.length 0 (by omega))
  unfold templelaw0_CopyGrammar.f
  rw [Option.bind_some, List.length_nil, Nat.zero_add, if_pos h1, List.nil_append]
  rfl
end Go.Proofs.Ytdjnpgigdchfkaa.PBS
