/- Layer 4, plain: whose fault it is stands in the text (BuildTells). -/
import Derived.Test.YtdjnpgigdchfkaaL4Build
import Derived.Test.YtdjnpgigdchfkaaL4Awake
import Derived.Test.YtdjnpgigdchfkaaPBTx12
namespace Go.Proofs.Ytdjnpgigdchfkaa.PBT
open Go.RowKit Go.Proofs.YtdjnpgigdchfkaaW.PrintWords Go.Proofs.YtdjnpgigdchfkaaW.PrintLast
set_option linter.unusedVariables false
set_option linter.unusedSimpArgs false
/-- What the law asks of an answer, the count being told. -/
def tellsOk (l0 : List ByteArray) (l1 : List S45) (a : Int) (nm : List ByteArray) (rl : List S51) (s : ByteArray) (e : Int) : Prop :=
  (e = 0 ∧ mayB a nm rl = true ∧ s = ⟨#[]⟩ ∧ l0.length = 1 ∧ nm.length = l1.length ∧ 0 ≤ a ∧ a < (nm.length : Int) ∧ rdOf ByteArray.empty nm a = rdOf ByteArray.empty l0 0)
  ∨ (e = 401 ∧ 1 < cntB s (l1.map (·.f0))) ∨ (e = 400 ∧ l0.length ≠ 1 ∧ s = ⟨#[]⟩) ∨ (e = 402 ∧ cntB s (l1.map (·.f0)) = 0) ∨ (e = 403 ∧ cntB s (l1.map (·.f0)) = 1) ∨ (e = 404 ∧ s = ⟨#[]⟩)
theorem empty_list : (⟨#[]⟩ : ByteArray).toList = [] := by decide +kernel
theorem tells_end (l0 : List ByteArray) (l1 : List S45) (a : Int) (nm : List ByteArray) (rl : List S51) (s : ByteArray) (e : Int) (h : tellsOk l0 l1 a nm rl s e) :
    Ev (fun k => templelaw4_BuildTells.l0 k s e (cntB s (l1.map (·.f0)) : Int) (l1.length : Int) l0 l1 a nm rl) true := by
  have num : ∀ x : Int, templelaw0_Num.f x = some x := fun x => rfl
  obtain ⟨K, hK⟩ := ref_May a nm rl
  refine ⟨K + 1, fun k hk => ?_⟩
  obtain ⟨k, rfl⟩ : ∃ j, k = j + 1 := ⟨k - 1, by omega⟩
  show templelaw4_BuildTells.l0 (k + 1) s e (cntB s (l1.map (·.f0)) : Int) (l1.length : Int) l0 l1 a nm rl = some true
  simp only [templelaw4_BuildTells.l0]
  rw [if_neg (by omega), num, Option.bind_some]
  rcases h with ⟨rfl, h1, rfl, h3, h4, h5, h6, h7⟩ | ⟨rfl, h1⟩ | ⟨rfl, h1, rfl⟩ | ⟨rfl, h1⟩ | ⟨rfl, h1⟩ | ⟨rfl, rfl⟩
  · rw [if_pos rfl, show gram_May.f a nm rl = some true from congrArg some h1, Option.bind_some, if_pos rfl, show templeref1_May.f k a nm rl = some true from (hK k (by omega)).trans (congrArg some h1), Option.bind_some, if_pos rfl, if_pos empty_list, if_pos (by omega), if_pos (by omega), if_pos h5, if_pos h6, if_pos (by omega), h7]
    simp
  · rw [if_neg (by decide), if_pos rfl, decide_eq_true (by omega)]
  · rw [if_neg (by decide), if_neg (by decide), if_pos rfl, if_neg (by omega), empty_list]
    rfl
  · rw [if_neg (by decide), if_neg (by decide), if_neg (by decide), if_pos rfl, h1]
    rfl
  · rw [if_neg (by decide), if_neg (by decide), if_neg (by decide), if_neg (by decide), if_pos rfl, h1]
    rfl
  · rw [if_neg (by decide), if_neg (by decide), if_neg (by decide), if_neg (by decide), if_neg (by decide), Option.bind_some, if_pos rfl, empty_list]
    rfl
theorem tells_loop (l0 : List ByteArray) (l1 : List S45) (hl : l1.length ≤ 1048576) (a : Int) (nm : List ByteArray) (rl : List S51) (s : ByteArray) (e : Int) (h : tellsOk l0 l1 a nm rl s e) :
    Ev (fun k => templelaw4_BuildTells.l0 k s e 0 0 l0 l1 a nm rl) true := by
  refine ev_down (l := fun k j => templelaw4_BuildTells.l0 k s e (cntB s ((l1.take j).map (·.f0)) : Int) (j : Int) l0 l1 a nm rl) (n := l1.length) ?_ ?_ 0 (by omega)
  · rw [List.take_length]
    exact tells_end l0 l1 a nm rl s e h
  · intro j hj ih
    have hc : cntB s ((l1.take j).map (·.f0)) ≤ j := by
      unfold cntB
      refine Nat.le_trans List.countP_le_length ?_
      rw [List.length_map, List.length_take]
      omega
    rw [List.take_succ_eq_append_getElem hj, List.map_append, cntB_append] at ih
    refine Ev.step (fun k => ?_) ih
    simp only [templelaw4_BuildTells.l0]
    rw [if_pos (by omega), if_pos (by omega), rd_def l1 j hj, wrap_nat j (by omega)]
    by_cases q : l1[j].f0 = s
    · rw [if_pos (toList_inj.2 q), show wrap64 ((cntB s ((l1.take j).map (·.f0)) : Int) + 1) = ((cntB s ((l1.take j).map (·.f0)) + cntB s ([l1[j]].map (·.f0)) : Nat) : Int) from by
        rw [show cntB s ([l1[j]].map (·.f0)) = 1 from by simp [cntB, q]]
        unfold wrap64
        omega]
    · rw [if_neg (fun e => q (toList_inj.1 e)), show cntB s ([l1[j]].map (·.f0)) = 0 from by simp [cntB, q]]
      rfl
theorem mget_find (l : List ByteArray) (s : ByteArray) (h : mfind (numMi 0 l) s ≠ none) : ∃ (j : Nat) (hj : j < l.length), mget (numMi 0 l) s = (j : Int) ∧ l[j] = s := by
  rw [mfind_numMi] at h
  have hm : s ∈ l := (findB_mem s l 0).1 (fun e => h (by rw [if_pos e]))
  obtain ⟨j, hj, e1, e2⟩ := findB_get s l 0 hm
  refine ⟨j, hj, ?_, e2⟩
  unfold mget
  rw [mfind_numMi, if_neg ((findB_mem s l 0).2 hm), e1]
  simp
theorem find_false {p : S61 → Bool} : ∀ {l : List S45} {i j : Nat} {x : S61}, badFrom p i l = some (j, x) → p x = false
  | d :: l, i, j, x, h => by
    unfold badFrom at h
    cases hb : badItem p d with
    | some y =>
      rw [hb] at h
      injection h with h
      injection h with h1 h2
      subst h2
      unfold badItem at hb
      obtain ⟨a, _, ha⟩ := List.exists_of_findSome?_eq_some hb
      obtain ⟨c, _, hc⟩ := List.exists_of_findSome?_eq_some ha
      have := List.find?_some hc
      simpa using this
    | none =>
      rw [hb] at h
      exact find_false h
theorem build_tells (l0 : List ByteArray) (l1 : List S45) : tellsOk l0 l1 (buildL l0 l1).1 (buildL l0 l1).2.1 (buildL l0 l1).2.2.1 (buildL l0 l1).2.2.2.1 (buildL l0 l1).2.2.2.2 := by
  unfold buildL
  cases hq : dup [] (l1.map (·.f0)) with
  | some s => exact .inr (.inl ⟨rfl, by have := dup_some _ _ _ hq; rw [List.nil_append] at this; exact this⟩)
  | none =>
    dsimp only
    by_cases h1 : l0.length ≠ 1
    · rw [if_pos h1]
      exact .inr (.inr (.inl ⟨rfl, h1, rfl⟩))
    rw [if_neg h1]
    by_cases h2 : mfind (numMi 0 (l1.map (·.f0))) (rdOf ByteArray.empty l0 0) = none
    · rw [if_pos h2]
      refine .inr (.inr (.inr (.inl ⟨rfl, cntB_not (fun hm => ?_)⟩)))
      rw [mfind_numMi, if_neg ((findB_mem _ _ 0).2 hm)] at h2
      cases h2
    rw [if_neg h2]
    cases hb : badFrom (askN (numMi 0 (l1.map (·.f0)))) 0 l1 with
    | some q =>
      refine .inr (.inr (.inr (.inl ⟨rfl, cntB_not (fun hm => ?_)⟩)))
      have := find_false (j := q.1) (x := q.2) hb
      unfold askN at this
      rw [mfind_isSome, (contains_mem _ _).2 hm, Bool.or_true] at this
      cases this
    | none =>
      dsimp only
      cases hb2 : badFrom askR 0 l1 with
      | some q =>
        have hlt := badFrom_lt askR l1 0 q.1 q.2 hb2
        refine .inr (.inr (.inr (.inr (.inl ⟨rfl, ?_⟩))))
        show cntB (rd_T45 l1 (q.1 : Int)).f0 (l1.map (·.f0)) = 1
        rw [rd_def l1 q.1 (by omega)]
        have a1 := dup_nil_cnt hq l1[q.1].f0
        have a2 := cntB_mem (List.mem_map_of_mem (f := fun d : S45 => d.f0) (List.getElem_mem (show q.1 < l1.length from by omega)))
        omega
      | none =>
        dsimp only
        by_cases hm : mayB (mget (numMi 0 (l1.map (·.f0))) (rdOf ByteArray.empty l0 0)) (l1.map (·.f0)) (rulesL (numMi 0 (l1.map (·.f0))) 0 l1) = true
        · rw [if_pos hm]
          obtain ⟨j, hj, e1, e2⟩ := mget_find _ _ h2
          refine .inl ⟨rfl, hm, rfl, by omega, by simp, ?_, ?_, ?_⟩
          · show 0 ≤ mget _ _
            rw [e1]
            omega
          · show mget _ _ < ((l1.map (·.f0)).length : Int)
            rw [e1]
            omega
          · show rdOf ByteArray.empty (l1.map (·.f0)) (mget _ _) = _
            rw [e1, rd_str _ j hj, e2]
        · rw [if_neg hm]
          exact .inr (.inr (.inr (.inr (.inr ⟨rfl, rfl⟩))))
theorem tells_ev (l0 : List ByteArray) (l1 : List S45) (hs : RawSmall l1) : ∃ k, templelaw4_BuildTells.f k l0 l1 = some true := by
  obtain ⟨K1, e1⟩ := awake4
  obtain ⟨K2, e2⟩ := build_ev l0 l1 hs
  obtain ⟨K3, e3⟩ := tells_loop l0 l1 hs.defs _ _ _ _ _ (build_tells l0 l1)
  refine ⟨K1 + K2 + K3, ?_⟩
  unfold templelaw4_BuildTells.f
  rw [show templelaw4_awake.f (K1 + K2 + K3) = some true from e1 _ (by omega), Option.bind_some, if_pos rfl, show gram_Build.f (K1 + K2 + K3) l0 l1 = _ from e2 _ (by omega), Option.bind_some]
  exact e3 _ (by omega)
end Go.Proofs.Ytdjnpgigdchfkaa.PBT
