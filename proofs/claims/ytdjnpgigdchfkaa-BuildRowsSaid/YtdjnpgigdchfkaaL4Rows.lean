/- Layer 4, plain: BuildRows: names stand in the row of their definitions, rules in that of alternatives, texts are bytes one by one. -/
import Derived.Test.YtdjnpgigdchfkaaL4BuildP
import Derived.Test.YtdjnpgigdchfkaaL4Awake
import Derived.Test.YtdjnpgigdchfkaaPBRx6
import Derived.Test.YtdjnpgigdchfkaaOBR
namespace Go.Proofs.Ytdjnpgigdchfkaa.PBR
open Go.RowKit Go.Proofs.YtdjnpgigdchfkaaW.PrintWords Go.Proofs.YtdjnpgigdchfkaaW.PrintLast
set_option linter.unusedVariables false
theorem br_three {P : Nat → Prop} (h0 : P 0) (h1 : P 1) (h2 : P 2) : ∀ i, i < 3 → P i
  | 0, _ => h0
  | 1, _ => h1
  | 2, _ => h2
  | n + 3, h => by omega
def brM : MapP := numMi 0 brNm
theorem br_find : ∀ i, i < 3 → mfind brM (brN i) = some (i : Int) := br_three (by decide +kernel) (by decide +kernel) (by decide +kernel)
theorem br_get (i : Nat) (h : i < 3) : mget brM (brN i) = (i : Int) := by
  unfold mget
  rw [br_find i h]
  rfl
theorem brDefs_three (t : ByteArray) (K : Nat → Nat) : brDefs t K 3 = [brDef t 0 (K 0), brDef t 1 (K 1), brDef t 2 (K 2)] := rfl
theorem brDefs_names (t : ByteArray) (K : Nat → Nat) : (brDefs t K 3).map (·.f0) = brNm := by
  rw [brDefs_three]
  show [brN 0, brN 1, brN 2] = brNm
  decide +kernel
theorem br_syms (t : ByteArray) (i j : Nat) : (brIt t i j).flatMap (symsL brM) = brSeq t i j := by
  unfold brIt brSeq
  rw [List.flatMap_cons, List.flatMap_cons, List.flatMap_cons, List.flatMap_nil, List.append_nil]
  have e1 : symsL brM ⟨1, t, 0, 0⟩ = brBy t t.size := by
    unfold symsL brBy
    rw [if_neg (show ¬ (1 : Int) = 0 by decide), if_pos rfl]
  have e2 : symsL brM ⟨0, brN ((i + j) % 3), 0, 0⟩ = [⟨(((i + j) % 3 : Nat) : Int), 0, 0⟩] := by
    unfold symsL
    rw [if_pos rfl, br_get _ (Nat.mod_lt _ (by decide))]
  have e3 : symsL brM ⟨2, ⟨#[]⟩, (j : Int), 9⟩ = [⟨-1, (j : Int), 9⟩] := by
    unfold symsL
    rw [if_neg (show ¬ (2 : Int) = 0 by decide), if_neg (show ¬ (2 : Int) = 1 by decide), if_pos rfl]
  rw [e1, e2, e3]
  rfl
theorem br_alt (t : ByteArray) (i j : Nat) : altL brM i (brAlt t i j) = brRule t i j := by
  unfold altL brAlt brRule
  rw [List.map_singleton]
  unfold conjL
  rw [br_syms]
theorem br_rules (t : ByteArray) (K : Nat → Nat) : rulesL brM 0 (brDefs t K 3) = brWant t K 3 := by
  have h : ∀ i, ((brDef t i (K i)).f1).map (altL brM i) = (List.range (K i)).map (brRule t i) := by
    intro i
    unfold brDef
    rw [List.map_map]
    exact List.map_congr_left (fun j _ => br_alt t i j)
  rw [brDefs_three]
  unfold rulesL rulesL rulesL rulesL brWant brWant brWant brWant
  rw [h, h, h, List.append_nil, List.nil_append, List.append_assoc]
theorem br_bad {p : S61 → Bool} {t : ByteArray} {K : Nat → Nat} (hK : ∀ i, K i ≤ 4) (h : ∀ i j, j < 4 → ∀ x ∈ brIt t i j, p x = true) : badFrom p 0 (brDefs t K 3) = none := by
  have hd : ∀ i, badItem p (brDef t i (K i)) = none := by
    intro i
    unfold badItem brDef
    rw [List.findSome?_eq_none_iff]
    intro a ha
    obtain ⟨j, hj, rfl⟩ := List.mem_map.1 ha
    rw [List.findSome?_eq_none_iff]
    intro c hc
    obtain rfl := List.mem_singleton.1 hc
    rw [List.find?_eq_none]
    intro x hx
    have := h i j (by have := List.mem_range.1 hj; have := hK i; omega) x hx
    simp [this]
  rw [brDefs_three]
  unfold badFrom badFrom badFrom badFrom
  rw [hd, hd, hd]
theorem br_small {t : ByteArray} {K : Nat → Nat} (ht : t.size ≤ 20) (hK : ∀ i, K i ≤ 4) : RawSmall (brDefs t K 3) := by
  have mem : ∀ d ∈ brDefs t K 3, ∃ i, d = brDef t i (K i) := by
    intro d hd
    obtain ⟨i, _, rfl⟩ := List.mem_map.1 hd
    exact ⟨i, rfl⟩
  have ln : ∀ i, (brDef t i (K i)).f1.length = K i := by
    intro i
    unfold brDef
    rw [List.length_map, List.length_range]
  refine ⟨by rw [brDefs_three]; simp, ?_, ?_, ?_⟩
  · rw [brDefs_three]
    simp only [List.map_cons, List.map_nil, List.sum_cons, List.sum_nil, ln]
    have h0 := hK 0
    have h1 := hK 1
    have h2 := hK 2
    omega
  · intro d hd a ha
    obtain ⟨i, rfl⟩ := mem d hd
    obtain ⟨j, _, rfl⟩ := List.mem_map.1 ha
    simp [brAlt]
  · intro d hd a ha c hc
    obtain ⟨i, rfl⟩ := mem d hd
    obtain ⟨j, _, rfl⟩ := List.mem_map.1 ha
    obtain rfl := List.mem_singleton.1 hc
    refine ⟨by simp [brIt], fun m => ?_, fun x hx => ?_⟩
    · show ((brIt t i j).flatMap (symsL m)).length ≤ _
      unfold brIt
      rw [List.flatMap_cons, List.flatMap_cons, List.flatMap_cons, List.flatMap_nil, List.append_nil]
      have e1 : (symsL m ⟨1, t, 0, 0⟩).length = t.size := by
        unfold symsL
        rw [if_neg (show ¬ (1 : Int) = 0 by decide), if_pos rfl, List.length_map, List.length_range]
      have e2 : (symsL m ⟨0, brN ((i + j) % 3), 0, 0⟩).length = 1 := by
        unfold symsL
        rw [if_pos rfl]
        rfl
      have e3 : (symsL m ⟨2, ⟨#[]⟩, (j : Int), 9⟩).length = 1 := by
        unfold symsL
        rw [if_neg (show ¬ (2 : Int) = 0 by decide), if_neg (show ¬ (2 : Int) = 1 by decide), if_pos rfl]
        rfl
      rw [List.length_append, List.length_append, e1, e2, e3]
      omega
    · unfold brIt at hx
      have hn : ∀ p, p < 3 → (brN p).size ≤ 20 := br_three (by decide +kernel) (by decide +kernel) (by decide +kernel)
      rcases List.mem_cons.1 hx with rfl | hx
      · show t.size ≤ _
        omega
      rcases List.mem_cons.1 hx with rfl | hx
      · have := hn ((i + j) % 3) (Nat.mod_lt _ (by decide))
        show (brN ((i + j) % 3)).size ≤ _
        omega
      · obtain rfl := List.mem_singleton.1 hx
        show (0 : Nat) ≤ _
        omega
theorem br_ruleB {t : ByteArray} (ht : t.size ≤ 20) (i j : Nat) (hj : j < 4) : ruleB 3 (brRule t i j) = true := by
  unfold ruleB brRule
  simp only [List.length_singleton, List.all_cons, List.all_nil, Bool.and_true]
  rw [Bool.and_eq_true]
  refine ⟨by simp, ?_⟩
  unfold conjB
  rw [Bool.and_eq_true]
  have hl : (brBy t t.size).length = t.size := by unfold brBy; rw [List.length_map, List.length_range]
  refine ⟨by simp only [brSeq, List.length_append, hl, List.length_cons, List.length_nil, decide_eq_true_eq]; omega, ?_⟩
  rw [List.all_eq_true]
  intro x hx
  unfold brSeq at hx
  rcases List.mem_append.1 hx with hx | hx
  · obtain ⟨q, _, rfl⟩ := List.mem_map.1 hx
    have := bt_range t (q : Int)
    unfold symB
    rw [if_pos rfl, decide_eq_true_eq]
    exact ⟨this.1, Int.le_refl _, this.2⟩
  rcases List.mem_cons.1 hx with rfl | hx
  · have := Nat.mod_lt (i + j) (show 3 > 0 by decide)
    unfold symB
    rw [if_neg (by show ¬ (((i + j) % 3 : Nat) : Int) = -1; omega), decide_eq_true_eq]
    exact ⟨by show (0 : Int) ≤ ((((i + j) % 3 : Nat)) : Int); omega, by show ((((i + j) % 3 : Nat)) : Int) < 3; omega, rfl, rfl⟩
  · obtain rfl := List.mem_singleton.1 hx
    unfold symB
    rw [if_pos rfl, decide_eq_true_eq]
    exact ⟨by show (0 : Int) ≤ (j : Int); omega, by show (j : Int) ≤ 9; omega, by show (9 : Int) ≤ 255; decide⟩
theorem br_cnt {t : ByteArray} (ht : t.size ≤ 20) (i j : Nat) : cntR (brRule t i j).f1 ≤ 22 := by
  have hl : (brBy t t.size).length = t.size := by unfold brBy; rw [List.length_map, List.length_range]
  unfold cntR brRule
  simp only [List.map_cons, List.map_nil, List.sum_cons, List.sum_nil, brSeq, List.length_append, hl, List.length_cons, List.length_nil]
  omega
theorem br_run {t : ByteArray} (ht : t.size ≤ 20) (i : Nat) : ∀ (js : List Nat) (head all : Int) (rest : List S51), (∀ j ∈ js, j < 4) → ((i : Int) - 1 ≤ head ∧ head ≤ i) → (js ≠ [] ∨ head = i) → all + 22 * js.length ≤ 1024 →
    (∀ all' : Int, all' ≤ all + 22 * js.length → rulesFrom 3 i all' rest = true) → rulesFrom 3 head all (js.map (brRule t i) ++ rest) = true
  | [], head, all, rest, _, _, hne, _, hr => by
    rcases hne with hne | rfl
    · exact absurd rfl hne
    · exact hr all (by simp)
  | j :: js, head, all, rest, hj, hh, _, ha, hr => by
    rw [List.map_cons, List.cons_append]
    have hc := br_cnt ht i j
    rw [List.length_cons] at ha hr
    have e0 : (brRule t i j).f0 = (i : Int) := rfl
    unfold rulesFrom
    rw [Bool.and_eq_true, Bool.and_eq_true, decide_eq_true_eq, e0]
    refine ⟨⟨br_ruleB ht i j (hj j (List.mem_cons_self ..)), by omega, by omega, by omega⟩, ?_⟩
    exact br_run ht i js i _ rest (fun x hx => hj x (List.mem_cons_of_mem _ hx)) ⟨by omega, by omega⟩ (.inr rfl) (by omega) (fun a' h' => hr a' (by omega))
theorem br_lt (n : Nat) (h : n ≤ 4) : ∀ j ∈ List.range n, j < 4 := fun j hj => by
  have := List.mem_range.1 hj
  omega
theorem brWant_three (t : ByteArray) (K : Nat → Nat) : brWant t K 3 = (List.range (K 0)).map (brRule t 0) ++ ((List.range (K 1)).map (brRule t 1) ++ ((List.range (K 2)).map (brRule t 2) ++ [])) := by
  unfold brWant brWant brWant brWant
  rw [List.nil_append, List.append_nil, List.append_assoc]
theorem br_may {t : ByteArray} {K : Nat → Nat} (ht : t.size ≤ 20) (hK : ∀ i, 1 ≤ K i ∧ K i ≤ 4) (s : Nat) (hs : s < 3) : mayB (s : Int) brNm (brWant t K 3) = true := by
  have k0 := hK 0
  have k1 := hK 1
  have k2 := hK 2
  have ne : ∀ n, 1 ≤ n → List.range n ≠ [] := fun n h => by
    intro e
    have := congrArg List.length e
    rw [List.length_range] at this
    simp at this
    omega
  have hl : (brWant t K 3).length = K 0 + (K 1 + (K 2 + 0)) := by
    rw [brWant_three]
    simp only [List.length_append, List.length_map, List.length_range, List.length_nil]
  have hf : rulesFrom 3 (-1) 0 (brWant t K 3) = true := by
    rw [brWant_three]
    refine br_run ht 0 (List.range (K 0)) (-1) 0 _ (br_lt _ k0.2) ⟨by decide, by decide⟩ (.inl (ne _ k0.1)) (by rw [List.length_range]; omega) (fun a1 h1 => ?_)
    rw [List.length_range] at h1
    refine br_run ht 1 (List.range (K 1)) _ a1 _ (br_lt _ k1.2) ⟨by decide, by decide⟩ (.inl (ne _ k1.1)) (by rw [List.length_range]; omega) (fun a2 h2 => ?_)
    rw [List.length_range] at h2
    refine br_run ht 2 (List.range (K 2)) _ a2 _ (br_lt _ k2.2) ⟨by decide, by decide⟩ (.inl (ne _ k2.1)) (by rw [List.length_range]; omega) (fun a3 h3 => ?_)
    rfl
  have hh : ((brWant t K 3).headD z51).f0 = 0 := by
    rw [brWant_three]
    obtain ⟨n, hn⟩ : ∃ n, K 0 = n + 1 := ⟨K 0 - 1, by omega⟩
    rw [hn, List.range_succ_eq_map]
    rfl
  unfold mayB
  rw [Bool.and_eq_true, Bool.and_eq_true, Bool.and_eq_true, decide_eq_true_eq, decide_eq_true_eq]
  refine ⟨⟨⟨by decide +kernel, by omega, by show (s : Int) < 3; omega, by rw [hl]; omega, by rw [hl]; omega⟩, hf⟩, hh⟩
theorem br_build {t : ByteArray} {K : Nat → Nat} (ht : t.size ≤ 20) (hK : ∀ i, 1 ≤ K i ∧ K i ≤ 4) (s : Nat) (hs : s < 3) : buildL [brN s] (brDefs t K 3) = ((s : Int), brNm, brWant t K 3, ⟨#[]⟩, 0) := by
  have e0 : rdOf ByteArray.empty [brN s] 0 = brN s := rfl
  have hd : dup [] brNm = none := by decide +kernel
  have b1 : badFrom (askN brM) 0 (brDefs t K 3) = none := br_bad (fun i => (hK i).2) (fun i j hj x hx => by
    unfold brIt at hx
    unfold askN
    rcases List.mem_cons.1 hx with rfl | hx
    · rfl
    rcases List.mem_cons.1 hx with rfl | hx
    · have e := br_find ((i + j) % 3) (Nat.mod_lt _ (by decide))
      show (decide ((0 : Int) ≠ 0) || (mfind brM (brN ((i + j) % 3))).isSome) = true
      rw [e]
      rfl
    · obtain rfl := List.mem_singleton.1 hx
      rfl)
  have b2 : badFrom askR 0 (brDefs t K 3) = none := br_bad (fun i => (hK i).2) (fun i j hj x hx => by
    unfold brIt at hx
    unfold askR
    rcases List.mem_cons.1 hx with rfl | hx
    · rfl
    rcases List.mem_cons.1 hx with rfl | hx
    · rfl
    · obtain rfl := List.mem_singleton.1 hx
      show (decide ((2 : Int) ≠ 2) || decide ((j : Int) ≤ 9)) = true
      rw [Bool.or_eq_true, decide_eq_true_eq, decide_eq_true_eq]
      exact .inr (by omega))
  unfold buildL
  rw [brDefs_names, hd]
  dsimp only
  rw [if_neg (by simp), e0, show numMi 0 brNm = brM from rfl, br_find s hs, if_neg (by intro h; cases h), b1]
  dsimp only
  rw [b2]
  dsimp only
  rw [br_get s hs, br_rules, if_pos (br_may ht hK s hs)]
theorem rows_row (l0 : List Int) (hG : l0.length * 8 ≤ 140737488351232 ∧ ∀ y ∈ l0, (Lit.int .i64 y).wf = true) (a1 : ByteArray) (a2 : Int) : ∃ k, templelaw4_BuildRows.f k l0 a1 a2 = some true := by
  have ht := brT_le a1
  have hK : ∀ i, 1 ≤ brK l0 i ∧ brK l0 i ≤ 4 := brK_le l0
  have hs : brS a2 < 3 := by unfold brS; omega
  obtain ⟨K1, e1⟩ := awake4
  obtain ⟨K2, e2⟩ := build_ev [brN (brS a2)] (brDefs (brT a1) (brK l0) 3) (br_small ht (fun i => (hK i).2))
  rw [br_build ht hK _ hs] at e2
  dsimp only at e1 e2
  refine ⟨K1 + K2, ?_⟩
  unfold templelaw4_BuildRows.f
  rw [e1 _ (by omega), Option.bind_some, if_pos rfl, e2 _ (by omega), Option.bind_some]
  exact if_pos ⟨rfl, rfl, rfl, rfl⟩
end Go.Proofs.Ytdjnpgigdchfkaa.PBR
