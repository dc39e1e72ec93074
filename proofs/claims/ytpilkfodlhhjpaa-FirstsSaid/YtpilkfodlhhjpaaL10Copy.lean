import Derived.Test.YtpilkfodlhhjpaaL10
import Derived.Test.YtpilkfodlhhjpaaPFAx4
import Derived.Test.YtpilkfodlhhjpaaPFAx19
import Derived.Test.YtpilkfodlhhjpaaPFAx18
import Derived.Test.YtpilkfodlhhjpaaPFAx17
import Derived.Test.YtpilkfodlhhjpaaPFAx17
namespace Go.Proofs.Ytpilkfodlhhjpaa.PFA
open Go.RowKit Go.Proofs.YtpilkfodlhhjpaaW.PrintWords Go.Proofs.YtpilkfodlhhjpaaW.PrintLast
set_option linter.unusedVariables false
set_option linter.unusedSimpArgs false
def gramSized (nm : List ByteArray) (rs : List S55) : Prop :=
  nm.length < 8796093022208 ∧ rs.length < 4398046511104 ∧ ∀ r ∈ rs, r.f1.length < 4398046511104 ∧ ∀ c ∈ r.f1, c.f1.length < 5864062014805
theorem copy_l1 (a : Int) (nm : List ByteArray) (rs : List S55) (x0 : Int) (x1 : List ByteArray) (i : Nat) (hi : i < rs.length) (acc : List S55) (hacc : acc.length < 4398046511104) (hsz : rs[i].f1.length < 4398046511104) (hsy : ∀ c ∈ rs[i].f1, c.f1.length < 5864062014805) (R : Int × List ByteArray × (List S55))
    (hc : Ev (fun k => templelaw0_CopyGrammar.l0 k (wrap64 ((i : Int) + 1)) a nm rs x0 x1 (acc ++ [rs[i]])) R) :
    ∀ d j : Nat, j + d = rs[i].f1.length → Ev (fun k => templelaw0_CopyGrammar.l1 k (i : Int) (j : Int) a nm rs x0 x1 acc rs[i].f0 (rs[i].f1.take j)) R := by
  intro d
  induction d with
  | zero =>
    intro j hj
    obtain rfl : j = rs[i].f1.length := by omega
    refine Ev.step (fun k => ?_) hc
    simp only [templelaw0_CopyGrammar.l1]
    rw [rd_rule rs i hi, if_pos (by omega), if_pos (by omega), if_neg (by omega), if_pos hacc, List.take_length]
  | succ d ih =>
    intro j hj
    have hlt : j < rs[i].f1.length := by omega
    refine Ev.step (f := fun k => templelaw0_CopyGrammar.l1 k (i : Int) ((j + 1 : Nat) : Int) a nm rs x0 x1 acc rs[i].f0 (rs[i].f1.take (j + 1))) (fun k => ?_) (ih (j + 1) (by omega))
    have h1 := hsy _ (List.getElem_mem hlt)
    simp only [templelaw0_CopyGrammar.l1]
    rw [rd_rule rs i hi, rd_conj _ j hlt, if_pos (by omega), if_pos (by omega), if_pos (by omega), if_pos (by omega), Option.bind_some, List.length_nil, Nat.zero_add, if_pos h1, List.length_take, if_pos (by omega), wrap_nat j (by omega), List.nil_append, List.take_succ_eq_append_getElem hlt]
theorem copy_ev (a : Int) (nm : List ByteArray) (rs : List S55) (hs : gramSized nm rs) : Ev (fun k => templelaw0_CopyGrammar.f k a nm rs) (a, nm, rs) := by
  obtain ⟨h1, h2, h3⟩ := hs
  have key : ∀ d i : Nat, i + d = rs.length → Ev (fun k => templelaw0_CopyGrammar.l0 k (i : Int) a nm rs a nm (rs.take i)) (a, nm, rs) := by
    intro d
    induction d with
    | zero =>
      intro i hi
      obtain rfl : i = rs.length := by omega
      refine Ev.step (f := fun _ => some (a, nm, rs)) (fun k => ?_) (Ev.now _)
      simp only [templelaw0_CopyGrammar.l0]
      rw [if_neg (by omega), List.take_length]
    | succ d ih =>
      intro i hi
      have hlt : i < rs.length := by omega
      obtain ⟨h4, h5⟩ := h3 _ (List.getElem_mem hlt)
      refine Ev.step (f := fun k => templelaw0_CopyGrammar.l1 k (i : Int) ((0 : Nat) : Int) a nm rs a nm (rs.take i) rs[i].f0 (rs[i].f1.take 0)) (fun k => ?_) (copy_l1 a nm rs a nm i hlt _ (by rw [List.length_take]; omega) h4 h5 _ ?_ rs[i].f1.length 0 (by omega))
      · simp only [templelaw0_CopyGrammar.l0]
        rw [rd_rule rs i hlt, if_pos (by omega), if_pos (by omega)]
        rfl
      · have := ih (i + 1) (by omega)
        rw [List.take_succ_eq_append_getElem hlt] at this
        rw [wrap_nat i (by omega)]
        exact this
  refine Ev.congr (f := fun k => templelaw0_CopyGrammar.l0 k ((0 : Nat) : Int) a nm rs a nm (rs.take 0)) (fun k => ?_) (key rs.length 0 (by omega))
  unfold templelaw0_CopyGrammar.f
  rw [Option.bind_some, List.length_nil, Nat.zero_add, if_pos h1, List.nil_append]
  rfl
theorem sameTexts_self (l : List ByteArray) (hl : l.length < 9223372036854775807) : Ev (fun k => templelaw0_SameTexts.f k l l) true := by
  have key : ∀ d i : Nat, i + d = l.length → Ev (fun k => templelaw0_SameTexts.l0 k l l (i : Int)) true := by
    intro d
    induction d with
    | zero =>
      intro i hi
      refine Ev.step (f := fun _ => some true) (fun k => ?_) (Ev.now _)
      simp only [templelaw0_SameTexts.l0]
      rw [if_neg (by omega)]
    | succ d ih =>
      intro i hi
      refine Ev.step (f := fun k => templelaw0_SameTexts.l0 k l l ((i + 1 : Nat) : Int)) (fun k => ?_) (ih (i + 1) (by omega))
      simp only [templelaw0_SameTexts.l0]
      rw [if_pos (by omega), if_pos (by omega), if_pos (by omega), if_pos trivial, wrap_nat i (by omega)]
  refine Ev.congr (f := fun k => templelaw0_SameTexts.l0 k l l ((0 : Nat) : Int)) (fun k => ?_) (key l.length 0 (by omega))
  unfold templelaw0_SameTexts.f
  rw [if_pos rfl]
  rfl
theorem sameSymbols_self (l : List S68) (hl : l.length < 9223372036854775807) : Ev (fun k => templelaw0_SameSymbols.f k l l) true := by
  have key : ∀ d i : Nat, i + d = l.length → Ev (fun k => templelaw0_SameSymbols.l0 k l l (i : Int)) true := by
    intro d
    induction d with
    | zero =>
      intro i hi
      refine Ev.step (f := fun _ => some true) (fun k => ?_) (Ev.now _)
      simp only [templelaw0_SameSymbols.l0]
      rw [if_neg (by omega)]
    | succ d ih =>
      intro i hi
      refine Ev.step (f := fun k => templelaw0_SameSymbols.l0 k l l ((i + 1 : Nat) : Int)) (fun k => ?_) (ih (i + 1) (by omega))
      simp only [templelaw0_SameSymbols.l0]
      rw [if_pos (by omega), if_pos (by omega), if_pos (by omega), if_neg (by simp), wrap_nat i (by omega)]
  refine Ev.congr (f := fun k => templelaw0_SameSymbols.l0 k l l ((0 : Nat) : Int)) (fun k => ?_) (key l.length 0 (by omega))
  unfold templelaw0_SameSymbols.f
  rw [if_pos rfl]
  rfl
theorem sameRule_self (x : S55) (hl : x.f1.length < 4398046511104) (hsy : ∀ c ∈ x.f1, c.f1.length < 5864062014805) : Ev (fun k => templelaw0_SameRule.f k x.f0 x.f1 x.f0 x.f1) true := by
  have key : ∀ d i : Nat, i + d = x.f1.length → Ev (fun k => templelaw0_SameRule.l0 k (i : Int) x.f0 x.f1 x.f0 x.f1) true := by
    intro d
    induction d with
    | zero =>
      intro i hi
      refine Ev.step (f := fun _ => some true) (fun k => ?_) (Ev.now _)
      simp only [templelaw0_SameRule.l0]
      rw [if_neg (by omega)]
    | succ d ih =>
      intro i hi
      have hlt : i < x.f1.length := by omega
      obtain ⟨K1, e1⟩ := sameSymbols_self x.f1[i].f1 (by have := hsy _ (List.getElem_mem hlt); omega)
      obtain ⟨K2, e2⟩ := ih (i + 1) (by omega)
      dsimp only at e1 e2
      refine ⟨K1 + K2 + 1, fun k hk => ?_⟩
      obtain ⟨k, rfl⟩ : ∃ j, k = j + 1 := ⟨k - 1, by omega⟩
      simp only [templelaw0_SameRule.l0]
      rw [if_pos (by omega), if_pos (by omega), if_pos (by omega), if_neg (by simp), rd_conj _ i hlt, e1 k (by omega), Option.bind_some, if_pos rfl, wrap_nat i (by omega), e2 k (by omega)]
  refine Ev.congr (f := fun k => templelaw0_SameRule.j0 k false x.f0 x.f1 x.f0 x.f1) (fun k => ?_) (Ev.step (f := fun k => templelaw0_SameRule.l0 k ((0 : Nat) : Int) x.f0 x.f1 x.f0 x.f1) (fun k => ?_) (key x.f1.length 0 (by omega)))
  · unfold templelaw0_SameRule.f
    rw [if_pos rfl]
    simp
  · simp only [templelaw0_SameRule.j0]
    rw [if_neg (by simp)]
    rfl
theorem sameGrammar_self (a : Int) (nm : List ByteArray) (rs : List S55) (hs : gramSized nm rs) : Ev (fun k => templelaw0_SameGrammar.f k a nm rs a nm rs) true := by
  obtain ⟨h1, h2, h3⟩ := hs
  have key : ∀ d i : Nat, i + d = rs.length → Ev (fun k => templelaw0_SameGrammar.l0 k (i : Int) a nm rs a nm rs) true := by
    intro d
    induction d with
    | zero =>
      intro i hi
      refine Ev.step (f := fun _ => some true) (fun k => ?_) (Ev.now _)
      simp only [templelaw0_SameGrammar.l0]
      rw [if_neg (by omega)]
    | succ d ih =>
      intro i hi
      have hlt : i < rs.length := by omega
      obtain ⟨h4, h5⟩ := h3 _ (List.getElem_mem hlt)
      obtain ⟨K1, e1⟩ := sameRule_self rs[i] h4 h5
      obtain ⟨K2, e2⟩ := ih (i + 1) (by omega)
      dsimp only at e1 e2
      refine ⟨K1 + K2 + 1, fun k hk => ?_⟩
      obtain ⟨k, rfl⟩ : ∃ j, k = j + 1 := ⟨k - 1, by omega⟩
      simp only [templelaw0_SameGrammar.l0]
      rw [if_pos (by omega), if_pos (by omega), if_pos (by omega), rd_rule _ i hlt, e1 k (by omega), Option.bind_some, if_pos rfl, wrap_nat i (by omega), e2 k (by omega)]
  obtain ⟨K1, e1⟩ := sameTexts_self nm (by omega)
  obtain ⟨K2, e2⟩ := key rs.length 0 (by omega)
  dsimp only at e1 e2
  refine ⟨K1 + K2 + 1, fun k hk => ?_⟩
  obtain ⟨k, rfl⟩ : ∃ j, k = j + 1 := ⟨k - 1, by omega⟩
  dsimp only
  unfold templelaw0_SameGrammar.f
  rw [if_pos rfl, e1 (k + 1) (by omega), Option.bind_some, if_pos rfl]
  simp only [templelaw0_SameGrammar.j0]
  rw [if_neg (by simp)]
  exact e2 k (by omega)
end Go.Proofs.Ytpilkfodlhhjpaa.PFA
