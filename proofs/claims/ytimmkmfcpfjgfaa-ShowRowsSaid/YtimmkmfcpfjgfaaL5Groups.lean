/- Layer 5, plain: the text of rules that stand in groups of one head each. -/
import Derived.Test.YtimmkmfcpfjgfaaL5Help
namespace Go.Proofs.Ytimmkmfcpfjgfaa.PSR
open Go.RowKit Go.Proofs.YtimmkmfcpfjgfaaW.PrintWords Go.Proofs.YtimmkmfcpfjgfaaW.PrintLast
set_option linter.unusedVariables false
section
variable (ns : List ByteArray) (grp : Nat → List S44)
/-- The first k groups. -/
def grps : Nat → List S44
  | 0 => []
  | k + 1 => grps k ++ grp k
def grpT (j : Nat) : List UInt8 := (nmAt ns (j : Int)).data.toList ++ [32, 61, 32] ++ sepT [32, 124, 32] (ruleT ns) (grp j) ++ [59, 10]
def grpsT : Nat → List UInt8
  | 0 => []
  | k + 1 => grpsT k ++ grpT ns grp k
theorem grps_split : ∀ k j, j < k → ∃ B, grps grp k = grps grp j ++ grp j ++ B
  | 0, j, h => by omega
  | k + 1, j, h => by
    by_cases e : j = k
    · subst e
      exact ⟨[], by simp [grps]⟩
    · obtain ⟨B, hB⟩ := grps_split k j (by omega)
      exact ⟨B ++ grp k, by rw [grps, hB, List.append_assoc]⟩
theorem grps_next : ∀ k j, j + 1 < k → ∃ B, grps grp k = grps grp j ++ grp j ++ grp (j + 1) ++ B := by
  intro k j h
  obtain ⟨B, hB⟩ := grps_split grp k (j + 1) h
  exact ⟨B, by rw [hB, grps]⟩
variable (hh : ∀ j, ∀ r ∈ grp j, r.f0 = (j : Int)) (hne : ∀ j, grp j ≠ [])
theorem rAt_app (A G B : List S44) (t : Nat) (h : t < G.length) : rAt (A ++ G ++ B) (A.length + t) = G[t] := by
  have hl : A.length + t < (A ++ G ++ B).length := by simp only [List.length_append]; omega
  rw [show rAt (A ++ G ++ B) (A.length + t) = (A ++ G ++ B)[A.length + t] from rd_rule _ _ hl, List.getElem_append_left (by simp only [List.length_append]; omega), List.getElem_append_right (by omega)]
  congr 1
  omega
include hh hne in
theorem rounds_grps (k : Nat) : ∀ j, j ≤ k → roundsT ns (grps grp k) (grps grp j).length = grpsT ns grp j := by
  intro j
  induction j with
  | zero => intro _; rfl
  | succ j ih =>
    intro hj
    have ih := ih (by omega)
    obtain ⟨B, hB⟩ := grps_split grp k j (by omega)
    have hg0 : 0 < (grp j).length := List.length_pos_iff.2 (hne j)
    have inner : ∀ t, t ≤ (grp j).length → roundsT ns (grps grp k) ((grps grp j).length + t) = grpsT ns grp j ++ (if t = 0 then [] else (nmAt ns (j : Int)).data.toList ++ [32, 61, 32] ++ sepT [32, 124, 32] (ruleT ns) ((grp j).take t) ++ (if t = (grp j).length then [59, 10] else [])) := by
      intro t
      induction t with
      | zero => intro _; rw [if_pos rfl, List.append_nil]; exact ih
      | succ t iht =>
        intro ht
        have iht := iht (by omega)
        have hr : rAt (grps grp k) ((grps grp j).length + t) = (grp j)[t] := by rw [hB]; exact rAt_app _ _ _ t (by omega)
        have hhd : (rAt (grps grp k) ((grps grp j).length + t)).f0 = (j : Int) := by rw [hr]; exact hh j _ (List.getElem_mem _)
        have htop : topT ns (grps grp k) ((grps grp j).length + t) = if t = 0 then (nmAt ns (j : Int)).data.toList ++ [32, 61, 32] else [32, 124, 32] := by
          unfold topT
          rw [hhd]
          by_cases h0 : t = 0
          · rw [if_pos h0]
            subst h0
            refine if_pos ?_
            cases j with
            | zero => exact .inl rfl
            | succ i =>
              refine .inr ?_
              obtain ⟨B2, hB2⟩ := grps_next grp k i (by omega)
              have hgi : 0 < (grp i).length := List.length_pos_iff.2 (hne i)
              have hl : (grps grp (i + 1)).length = (grps grp i).length + (grp i).length := by rw [grps, List.length_append]
              have hp : rAt (grps grp k) ((grps grp (i + 1)).length + 0 - 1) = (grp i)[(grp i).length - 1] := by
                rw [hB2, show (grps grp (i + 1)).length + 0 - 1 = (grps grp i).length + ((grp i).length - 1) from by omega, List.append_assoc (grps grp i ++ grp i)]
                exact rAt_app _ _ _ _ (by omega)
              rw [hp, hh i _ (List.getElem_mem _)]
              omega
          · rw [if_neg h0]
            refine if_neg ?_
            rintro (h | h)
            · omega
            · have hp : rAt (grps grp k) ((grps grp j).length + t - 1) = (grp j)[t - 1] := by
                rw [hB, show (grps grp j).length + t - 1 = (grps grp j).length + (t - 1) from by omega]
                exact rAt_app _ _ _ _ (by omega)
              rw [hp, hh j _ (List.getElem_mem _)] at h
              exact h rfl
        have hbot : botT (grps grp k) ((grps grp j).length + t) = if t + 1 = (grp j).length then [59, 10] else [] := by
          unfold botT
          rw [hhd]
          by_cases h1 : t + 1 = (grp j).length
          · rw [if_pos h1]
            refine if_pos ?_
            by_cases hk : j + 1 = k
            · refine .inl ?_
              rw [← hk, grps, List.length_append]
              omega
            · refine .inr ?_
              obtain ⟨B2, hB2⟩ := grps_next grp k j (by omega)
              have hgi : 0 < (grp (j + 1)).length := List.length_pos_iff.2 (hne (j + 1))
              have hp : rAt (grps grp k) ((grps grp j).length + t + 1) = (grp (j + 1))[0] := by
                rw [hB2, show (grps grp j).length + t + 1 = (grps grp j ++ grp j).length + 0 from by rw [List.length_append]; omega]
                exact rAt_app _ _ _ _ hgi
              rw [hp, hh (j + 1) _ (List.getElem_mem _)]
              omega
          · rw [if_neg h1]
            refine if_neg ?_
            rintro (h | h)
            · rw [hB, List.length_append, List.length_append] at h
              omega
            · have hp : rAt (grps grp k) ((grps grp j).length + t + 1) = (grp j)[t + 1] := by
                rw [hB, Nat.add_assoc]
                exact rAt_app _ _ _ _ (by omega)
              rw [hp, hh j _ (List.getElem_mem _)] at h
              exact h rfl
        rw [← Nat.add_assoc, show roundsT ns (grps grp k) ((grps grp j).length + t + 1) = roundsT ns (grps grp k) ((grps grp j).length + t) ++ topT ns (grps grp k) ((grps grp j).length + t) ++ ruleT ns (rAt (grps grp k) ((grps grp j).length + t)) ++ botT (grps grp k) ((grps grp j).length + t) from rfl, iht, htop, hbot, hr, if_neg (by omega : ¬ t + 1 = 0), sepT_take [32, 124, 32] (ruleT ns) (grp j) t (by omega)]
        by_cases h0 : t = 0
        · subst h0
          simp [sepT]
        · rw [if_neg h0, if_neg h0, if_neg (by omega : ¬ t = (grp j).length), if_pos (by omega : 0 < t)]
          simp
    have h := inner (grp j).length (Nat.le_refl _)
    rw [if_neg (by omega), if_pos rfl, List.take_length] at h
    rw [show (grps grp (j + 1)).length = (grps grp j).length + (grp j).length from by rw [grps, List.length_append], h]
    rfl
include hh hne in
theorem show_grps (st : Int) (k : Nat) : showT st ns (grps grp k) = headT st ns ++ grpsT ns grp k := by
  unfold showT
  rw [rounds_grps ns grp hh hne k k (Nat.le_refl _)]
end
end Go.Proofs.Ytimmkmfcpfjgfaa.PSR
