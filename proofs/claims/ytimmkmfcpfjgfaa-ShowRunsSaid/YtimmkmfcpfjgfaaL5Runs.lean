/- Layer 5, plain: bytes one by one are one text (ShowRuns). -/
import Derived.Test.YtimmkmfcpfjgfaaL5Base
import Derived.Test.YtimmkmfcpfjgfaaPS5x40
namespace Go.Proofs.Ytimmkmfcpfjgfaa.PS5
open Go.RowKit Go.Proofs.YtimmkmfcpfjgfaaW.PrintWords Go.Proofs.YtimmkmfcpfjgfaaW.PrintLast
set_option linter.unusedVariables false
theorem st_bind {α β : Type} {o : Option α} {f : α → Option β} {a : α} {r : Option β} (h : o = some a) (g : f a = r) : o.bind f = r := by
  rw [h, Option.bind_some]
  exact g
theorem st_pos {α : Type} {c : Prop} [Decidable c] {A B r : α} (h : c) (g : A = r) : (if c then A else B) = r := (if_pos h).trans g
theorem st_neg {α : Type} {c : Prop} [Decidable c] {A B r : α} (h : ¬ c) (g : B = r) : (if c then A else B) = r := (if_neg h).trans g
theorem Num_0 : templelaw0_Num.f 0 = some 0 := rfl
theorem sz1 (c : UInt8) : ByteArray.size ⟨#[c]⟩ = 1 := rfl
theorem addle {a b : Nat} (h : a ≤ 2000) (h2 : b ≤ 100) : a + b ≤ 9223372036854775807 := by omega
def symK (κ : Int) : S38 := if κ = 0 then ⟨-1, 97, 97⟩ else if κ = 1 then ⟨0, 0, 0⟩ else ⟨-1, 97, 98⟩
def txtK (κ : Int) : ByteArray := if κ = 1 then ⟨#[113]⟩ else ⟨#[39, 97, 39, 46, 46, 39, 98, 39]⟩
def stepT (κ : Int) (t : ByteArray) (run : Bool) : ByteArray :=
  if κ = 0 then (if run then t ++ ⟨#[97]⟩ else if t.toList = [] then t ++ ⟨#[34]⟩ ++ ⟨#[97]⟩ else t ++ ⟨#[32]⟩ ++ ⟨#[34]⟩ ++ ⟨#[97]⟩)
  else (if run then t ++ ⟨#[34]⟩ ++ ⟨#[32]⟩ ++ txtK κ else if t.toList = [] then t ++ txtK κ else t ++ ⟨#[32]⟩ ++ txtK κ)
theorem l0_step (k : Nat) (x0 : List Int) (xs : List S38) (t : ByteArray) (run : Bool) (i : Int) (h0 : 0 ≤ i) (hi : i < (x0.length : Int)) (h40 : i < 40) (hsz : t.size ≤ 1000) (hxs : xs.length ≤ 40) (κ : Int) (hκ : wrap64 (Int.tmod (IntKind.u64.wrap (rd x0 i)) 3) = κ) (hk : κ = 0 ∨ κ = 1 ∨ κ = 2) :
    templelaw5_ShowRuns.l0 (k + 2) x0 xs t run i = templelaw5_ShowRuns.l0 k x0 (xs ++ [symK κ]) (stepT κ t run) (decide (κ = 0)) (i + 1) := by
  have hw : wrap64 (i + 1) = i + 1 := by unfold wrap64; omega
  have s1 : t.size + 1 ≤ 9223372036854775807 := by omega
  have e34 := sz1 34
  have e32 := sz1 32
  have hx : xs.length < 5864062014805 := by omega
  rw [templelaw5_ShowRuns.l0]
  refine st_pos hi ?_
  rw [templelaw5_ShowRuns.j1]
  refine st_pos (decide_eq_true h40) (st_pos h0 (st_pos hi ?_))
  rw [hκ, hw]
  have n34 : ¬ (t ++ (⟨#[34]⟩ : ByteArray)).toList = [] := fun h => by
    have := toList_nil.1 h
    rw [ByteArray.size_append] at this
    omega
  have b34 : (t ++ (⟨#[34]⟩ : ByteArray)).size ≤ 1001 := by rw [ByteArray.size_append]; omega
  have b32 : (t ++ (⟨#[32]⟩ : ByteArray)).size ≤ 1001 := by rw [ByteArray.size_append]; omega
  have b342 : ((t ++ (⟨#[34]⟩ : ByteArray)) ++ (⟨#[32]⟩ : ByteArray)).size ≤ 1002 := by rw [ByteArray.size_append]; omega
  have b324 : ((t ++ (⟨#[32]⟩ : ByteArray)) ++ (⟨#[34]⟩ : ByteArray)).size ≤ 1002 := by rw [ByteArray.size_append]; omega
  have w11 : wrap64 ((1 : Int) - 1) = 0 := by unfold wrap64; decide
  have w21 : wrap64 ((2 : Int) - 1) = 1 := by unfold wrap64; decide
  rcases hk with rfl | rfl | rfl
  · refine st_pos rfl ?_
    cases run with
    | true => exact st_pos rfl (st_pos s1 (st_pos hx rfl))
    | false =>
      refine st_neg (by decide) ?_
      by_cases ht : t.toList = []
      · refine st_pos ht (st_pos s1 (st_pos (by omega) (st_pos hx ?_)))
        simp only [stepT, ht, if_true, Bool.false_eq_true, if_false]
        rfl
      · refine st_neg ht (st_pos s1 (st_pos (by omega) (st_pos (by omega) (st_pos hx ?_))))
        simp only [stepT, ht, if_true, Bool.false_eq_true, if_false]
        rfl
  · refine st_neg (by decide) ?_
    rw [w11]
    cases run with
    | true =>
      refine st_pos rfl (st_pos s1 (st_neg n34 (st_pos (by omega) (st_bind rfl (st_pos (by decide) (st_pos (by decide) (st_pos (addle (by omega) (by decide)) (st_bind rfl (st_pos (by decide) (st_pos hx ?_))))))))))
      rfl
    | false =>
      refine st_neg (by decide) ?_
      by_cases ht : t.toList = []
      · refine st_pos ht (st_bind rfl (st_pos (by decide) (st_pos (by decide) (st_pos (addle (by omega) (by decide)) (st_bind rfl (st_pos (by decide) (st_pos hx ?_)))))))
        simp only [stepT, ht, if_true, Bool.false_eq_true, if_false]
        rfl
      · refine st_neg ht (st_pos s1 (st_bind rfl (st_pos (by decide) (st_pos (by decide) (st_pos (addle (by omega) (by decide)) (st_bind rfl (st_pos (by decide) (st_pos hx ?_))))))))
        simp only [stepT, ht, if_true, Bool.false_eq_true, if_false]
        rfl
  · refine st_neg (by decide) ?_
    rw [w21]
    cases run with
    | true =>
      refine st_pos rfl (st_pos s1 (st_neg n34 (st_pos (by omega) (st_bind rfl (st_pos (by decide) (st_pos (by decide) (st_pos (addle (by omega) (by decide)) (st_bind rfl (st_pos (by decide) (st_pos hx ?_))))))))))
      rfl
    | false =>
      refine st_neg (by decide) ?_
      by_cases ht : t.toList = []
      · refine st_pos ht (st_bind rfl (st_pos (by decide) (st_pos (by decide) (st_pos (addle (by omega) (by decide)) (st_bind rfl (st_pos (by decide) (st_pos hx ?_)))))))
        simp only [stepT, ht, if_true, Bool.false_eq_true, if_false]
        rfl
      · refine st_neg ht (st_pos s1 (st_bind rfl (st_pos (by decide) (st_pos (by decide) (st_pos (addle (by omega) (by decide)) (st_bind rfl (st_pos (by decide) (st_pos hx ?_))))))))
        simp only [stepT, ht, if_true, Bool.false_eq_true, if_false]
        rfl
theorem dl_append (a b : ByteArray) : (a ++ b).data.toList = a.data.toList ++ b.data.toList := by rw [ByteArray.data_append, Array.toList_append]
def qn : List ByteArray := [⟨#[113]⟩]
theorem sepT_append {α : Type} (sep : List UInt8) (f : α → List UInt8) (xs : List α) (y : α) : sepT sep f (xs ++ [y]) = sepT sep f xs ++ ((if xs = [] then [] else sep) ++ f y) := by
  cases xs with
  | nil => simp [sepT]
  | cons x xs =>
    rw [List.cons_append, sepT_cons, sepT_cons, List.flatMap_append]
    simp
structure Inv (xs : List S38) (t : ByteArray) (run : Bool) : Prop where
  empty : t.toList = [] ↔ addsP qn xs = []
  stop : run = false → partsT (addsP qn xs) = t.data.toList ∧ ∀ s, (addsP qn xs).getLast? ≠ some (.single s)
  go : run = true → ∃ P0 s, addsP qn xs = P0 ++ [.single s] ∧ partsT (addsP qn xs) = t.data.toList ++ [34]
  size : t.size ≤ 11 * xs.length
theorem addP_new (P : List Part) (h : ∀ s, P.getLast? ≠ some (.single s)) : addP qn P ⟨-1, 97, 97⟩ = P ++ [.single ⟨#[97]⟩] := by
  unfold addP
  rw [if_neg (by decide), if_neg (by decide)]
  split
  · rename_i b hb
    exact absurd hb (h b)
  · rfl
theorem addP_last (P0 : List Part) (s : ByteArray) : addP qn (P0 ++ [.single s]) ⟨-1, 97, 97⟩ = P0 ++ [.single (s ++ ⟨#[97]⟩)] := by
  unfold addP
  rw [if_neg (by decide), if_neg (by decide), List.getLast?_concat]
  show (P0 ++ [Part.single s]).set ((P0 ++ [Part.single s]).length - 1) _ = _
  simp [b8]
def partK (κ : Int) : Part := if κ = 1 then .call ⟨#[113]⟩ else .span 97 98
theorem addP_other (P : List Part) (κ : Int) (h : κ = 1 ∨ κ = 2) : addP qn P (symK κ) = P ++ [partK κ] := by
  rcases h with rfl | rfl <;> rfl
theorem partK_txt (κ : Int) (h : κ = 1 ∨ κ = 2) : partT (partK κ) = (txtK κ).data.toList := by
  rcases h with rfl | rfl <;> decide
theorem txtK_size (κ : Int) : (txtK κ).size ≤ 8 ∧ 1 ≤ (txtK κ).size := by
  unfold txtK
  split <;> decide
theorem toList_ne {t : ByteArray} (h : 0 < t.size) : ¬ t.toList = [] := fun e => by
  have := toList_nil.1 e
  omega
theorem Inv.step {xs : List S38} {t : ByteArray} {run : Bool} (h : Inv xs t run) (κ : Int) (hk : κ = 0 ∨ κ = 1 ∨ κ = 2) : Inv (xs ++ [symK κ]) (stepT κ t run) (decide (κ = 0)) := by
  have ha : addsP qn (xs ++ [symK κ]) = addP qn (addsP qn xs) (symK κ) := by
    unfold addsP
    rw [List.foldl_append]
    rfl
  obtain ⟨he, hs, hg, hz⟩ := h
  have sA := sz1 97
  have sQ := sz1 34
  have sB := sz1 32
  have hlen : (xs ++ [symK κ]).length = xs.length + 1 := by simp
  rcases hk with rfl | hk
  · rw [show symK 0 = (⟨-1, 97, 97⟩ : S38) from rfl] at ha ⊢
    cases run with
    | true =>
      obtain ⟨P0, s, hP, hT⟩ := hg rfl
      rw [hP, addP_last] at ha
      rw [hP] at hT
      unfold partsT at hT
      rw [sepT_append, show partT (.single s) = [34] ++ singT s.data.toList ++ [34] from rfl] at hT
      have hT2 : sepT [32] partT P0 ++ ((if P0 = [] then [] else [32]) ++ ([34] ++ singT s.data.toList)) = t.data.toList := by
        have := hT
        simp only [← List.append_assoc] at this ⊢
        exact List.append_cancel_right this
      have e : stepT 0 t true = t ++ ⟨#[97]⟩ := rfl
      rw [e]
      refine ⟨?_, fun h => by simp at h, fun _ => ⟨P0, s ++ ⟨#[97]⟩, ha, ?_⟩, ?_⟩
      · rw [ha]
        refine ⟨fun h => absurd h (toList_ne (by rw [ByteArray.size_append]; omega)), fun h => by simp at h⟩
      · rw [ha]
        unfold partsT
        rw [sepT_append, dl_append, ← hT2, show partT (.single (s ++ ⟨#[97]⟩)) = [34] ++ singT (s ++ ⟨#[97]⟩).data.toList ++ [34] from rfl, dl_append]
        have e2 : singT (s.data.toList ++ [97]) = singT s.data.toList ++ [97] := by
          unfold singT
          rw [List.flatMap_append]
          rfl
        rw [show (⟨#[97]⟩ : ByteArray).data.toList = [97] from rfl, e2]
        simp
      · rw [ByteArray.size_append]
        simp only [List.length_append, List.length_singleton]
        omega
    | false =>
      obtain ⟨hT, hl⟩ := hs rfl
      rw [addP_new _ hl] at ha
      have e2 : partT (.single ⟨#[97]⟩) = [34, 97, 34] := by decide
      by_cases ht : t.toList = []
      · have hP := he.1 ht
        have e : stepT 0 t false = t ++ ⟨#[34]⟩ ++ ⟨#[97]⟩ := by simp only [stepT, ht, if_true, Bool.false_eq_true, if_false]
        rw [e]
        refine ⟨?_, fun h => by simp at h, fun _ => ⟨_, _, ha, ?_⟩, ?_⟩
        · rw [ha]
          refine ⟨fun h => absurd h (toList_ne (by rw [ByteArray.size_append]; omega)), fun h => by simp at h⟩
        · rw [ha]
          unfold partsT at hT ⊢
          rw [sepT_append, hT, if_pos hP, e2, dl_append, dl_append]
          simp
        · rw [ByteArray.size_append, ByteArray.size_append]
          simp only [List.length_append, List.length_singleton]
          omega
      · have hP : ¬ addsP qn xs = [] := fun h => ht (he.2 h)
        have e : stepT 0 t false = t ++ ⟨#[32]⟩ ++ ⟨#[34]⟩ ++ ⟨#[97]⟩ := by simp only [stepT, ht, if_true, Bool.false_eq_true, if_false]
        rw [e]
        refine ⟨?_, fun h => by simp at h, fun _ => ⟨_, _, ha, ?_⟩, ?_⟩
        · rw [ha]
          refine ⟨fun h => absurd h (toList_ne (by rw [ByteArray.size_append]; omega)), fun h => by simp at h⟩
        · rw [ha]
          unfold partsT at hT ⊢
          rw [sepT_append, hT, if_neg hP, e2, dl_append, dl_append, dl_append]
          simp
        · rw [ByteArray.size_append, ByteArray.size_append, ByteArray.size_append]
          simp only [List.length_append, List.length_singleton]
          omega
  · have hk0 : κ ≠ 0 := by omega
    rw [addP_other _ κ hk] at ha
    have hp := partK_txt κ hk
    obtain ⟨z1, z2⟩ := txtK_size κ
    have hlast : ∀ s, (addsP qn xs ++ [partK κ]).getLast? ≠ some (.single s) := by
      intro s
      rw [List.getLast?_concat]
      rcases hk with rfl | rfl <;> simp [partK]
    rw [show decide (κ = 0) = false from decide_eq_false hk0]
    have fin : ∀ t' : ByteArray, stepT κ t run = t' ++ txtK κ → t'.size ≤ t.size + 2 → partsT (addsP qn xs) ++ (if addsP qn xs = [] then [] else [32]) = t'.data.toList → Inv (xs ++ [symK κ]) (stepT κ t run) false := by
      intro t' e hsz hT
      rw [e]
      refine ⟨?_, fun _ => ⟨?_, ?_⟩, (fun h => by cases h), ?_⟩
      · rw [ha]
        refine ⟨fun h => absurd h (toList_ne (by rw [ByteArray.size_append]; omega)), fun h => by simp at h⟩
      · rw [ha]
        unfold partsT at hT ⊢
        rw [sepT_append, dl_append, ← hT, hp, List.append_assoc]
      · rw [ha]
        exact hlast
      · rw [ByteArray.size_append]
        simp only [List.length_append, List.length_singleton]
        omega
    cases run with
    | true =>
      obtain ⟨P0, s, hP, hT⟩ := hg rfl
      refine fin (t ++ ⟨#[34]⟩ ++ ⟨#[32]⟩) (by simp only [stepT, hk0, if_true, if_false]) (by rw [ByteArray.size_append, ByteArray.size_append]; omega) ?_
      rw [hT, if_neg (by rw [hP]; simp), dl_append, dl_append]
    | false =>
      obtain ⟨hT, hl⟩ := hs rfl
      by_cases ht : t.toList = []
      · refine fin t (by simp only [stepT, hk0, ht, if_true, Bool.false_eq_true, if_false]) (by omega) ?_
        rw [hT, if_pos (he.1 ht), List.append_nil]
      · refine fin (t ++ ⟨#[32]⟩) (by simp only [stepT, hk0, ht, if_true, Bool.false_eq_true, if_false]) (by rw [ByteArray.size_append]; omega) ?_
        rw [hT, if_neg (fun h => ht (he.2 h)), dl_append]
theorem may_q (xs : List S38) (hl : xs.length ≤ 40) (ha : xs.all (symB 1) = true) : mayB 0 qn [⟨0, [⟨true, xs⟩]⟩] = true := by
  have h1 : namesOk qn = true := by decide +kernel
  have h2 : rulesFrom 1 (-1) 0 [(⟨0, [⟨true, xs⟩]⟩ : S44)] = true := by
    have hc : conjB 1 (⟨true, xs⟩ : S41) = true := by
      unfold conjB
      rw [ha, Bool.and_true, decide_eq_true_eq]
      show xs.length ≤ 64
      omega
    have hr : ruleB 1 (⟨0, [⟨true, xs⟩]⟩ : S44) = true := by
      unfold ruleB
      simp only [List.all_cons, List.all_nil, hc, Bool.and_true, List.length_singleton]
      rfl
    have hn : cntR [(⟨true, xs⟩ : S41)] = xs.length := by simp [cntR]
    unfold rulesFrom
    rw [hr, Bool.true_and]
    unfold rulesFrom
    rw [Bool.and_eq_true]
    refine ⟨decide_eq_true ⟨(by show (-1 : Int) ≤ 0; decide), (by show (0 : Int) ≤ -1 + 1; decide), ?_⟩, (by show ((0 : Int) == 1 - 1) = true; decide)⟩
    show (0 : Int) + ((cntR [(⟨true, xs⟩ : S41)] : Nat) : Int) ≤ 1024
    rw [hn]
    omega
  unfold mayB
  rw [h1, show ((qn.length : Nat) : Int) = 1 from rfl, h2]
  rfl
theorem show_q (xs : List S38) (hl : xs.length ≤ 40) (ha : xs.all (symB 1) = true) : show_Show.f 0 [⟨#[113]⟩] [⟨0, [⟨true, xs⟩]⟩] = some (⟨([115, 116, 97, 114, 116, 32, 113, 59, 10, 113, 32, 61, 32, 126] ++ partsT (partsL qn xs) ++ [59, 10]).toArray⟩, 0) := by
  have hm := may_q xs hl ha
  have e : showT 0 qn [⟨0, [⟨true, xs⟩]⟩] = [115, 116, 97, 114, 116, 32, 113, 59, 10, 113, 32, 61, 32, 126] ++ partsT (partsL qn xs) ++ [59, 10] := by
    simp [showT, headT, roundsT, topT, botT, ruleT, sepT, conjT, negT, rAt, rd_T44, nmAt, qn]
  unfold show_Show.f
  rw [show ([⟨#[113]⟩] : List ByteArray) = qn from rfl, if_pos hm, e]
theorem tl_mk (l : List UInt8) : (⟨l.toArray⟩ : ByteArray).toList = l := by rw [ByteArray.toList_eq]
theorem j2_true (xs : List S38) (hl : xs.length ≤ 40) (ha : xs.all (symB 1) = true) (t : ByteArray) (he : t.toList = [] ↔ addsP qn xs = []) (hT : partsT (addsP qn xs) = t.data.toList) (hsz : t.size ≤ 1000) (k : Nat) : templelaw5_ShowRuns.j2 (k + 1) xs t = some true := by
  have hn := Num_0
  rw [templelaw5_ShowRuns.j2]
  by_cases ht : t.toList = []
  · refine st_pos ht (st_bind (show_q xs hl ha) (st_bind hn (st_pos rfl (st_pos (by decide) (st_pos (by decide) ?_)))))
    have e : partsL qn xs = [.single ⟨#[]⟩] := by unfold partsL; rw [if_pos (he.1 ht)]
    rw [tl_mk, e, ByteArray.toList_eq, dl_append, dl_append]
    exact congrArg some (beq_self_eq_true _)
  · have s14 : ByteArray.size ⟨#[115, 116, 97, 114, 116, 32, 113, 59, 10, 113, 32, 61, 32, 126]⟩ = 14 := rfl
    refine st_neg ht (st_bind (show_q xs hl ha) (st_bind hn (st_pos rfl (st_pos (by omega) (st_pos (by rw [ByteArray.size_append, s14]; omega) ?_)))))
    have e : partsL qn xs = addsP qn xs := by unfold partsL; rw [if_neg (fun h => ht (he.2 h))]
    rw [tl_mk, e, ByteArray.toList_eq, dl_append, dl_append, hT]
    exact congrArg some (beq_self_eq_true _)
theorem runs_loop (x0 : List Int) : ∀ d i : Nat, i + d = min x0.length 40 → ∀ xs t run, xs.length = i → xs.all (symB 1) = true → Inv xs t run → Ev (fun k => templelaw5_ShowRuns.l0 k x0 xs t run (i : Int)) true := by
  intro d
  induction d with
  | zero =>
    intro i hi xs t run hx ha h
    have hsz : t.size ≤ 440 := by have := h.size; omega
    refine ⟨3, fun k hk => ?_⟩
    obtain ⟨m, rfl⟩ : ∃ m, k = m + 3 := ⟨k - 3, by omega⟩
    have key : templelaw5_ShowRuns.j1 (m + 2) x0 xs t run (i : Int) false = some true := by
      rw [templelaw5_ShowRuns.j1]
      refine st_neg (by decide) ?_
      cases run with
      | true =>
        obtain ⟨P0, s, hP, hT⟩ := h.go rfl
        refine st_pos rfl (st_pos (by omega) ?_)
        refine j2_true xs (by omega) ha _ ?_ ?_ (by rw [ByteArray.size_append, sz1]; omega) m
        · refine ⟨fun h => absurd h (toList_ne (by rw [ByteArray.size_append, sz1]; omega)), fun h => ?_⟩
          rw [hP] at h
          simp at h
        · rw [hT, dl_append]
      | false =>
        refine st_neg (by decide) ?_
        exact j2_true xs (by omega) ha _ h.empty (h.stop rfl).1 (by omega) m
    show templelaw5_ShowRuns.l0 (m + 3) x0 xs t run (i : Int) = some true
    rw [templelaw5_ShowRuns.l0]
    by_cases hlt : (i : Int) < (x0.length : Int)
    · refine st_pos hlt ?_
      rw [show decide ((i : Int) < 40) = false from decide_eq_false (by omega)]
      exact key
    · exact st_neg hlt key
  | succ d ih =>
    intro i hi xs t run hx ha h
    have hsz : t.size ≤ 440 := by have := h.size; omega
    have hk : ∃ κ, wrap64 (Int.tmod (IntKind.u64.wrap (rd x0 (i : Int))) 3) = κ ∧ (κ = 0 ∨ κ = 1 ∨ κ = 2) := by
      refine ⟨_, rfl, ?_⟩
      have h0 : 0 ≤ IntKind.u64.wrap (rd x0 (i : Int)) := by unfold IntKind.wrap; simp [IntKind.signed, IntKind.bits]; omega
      have h1 : Int.tmod (IntKind.u64.wrap (rd x0 (i : Int))) 3 = IntKind.u64.wrap (rd x0 (i : Int)) % 3 := Int.tmod_eq_emod_of_nonneg h0
      rw [h1]
      unfold wrap64
      omega
    obtain ⟨κ, hκ, hk⟩ := hk
    have hs2 : symB 1 (symK κ) = true := by rcases hk with rfl | rfl | rfl <;> decide
    obtain ⟨K, hK⟩ := ih (i + 1) (by omega) (xs ++ [symK κ]) (stepT κ t run) (decide (κ = 0)) (by simp [hx]) (by rw [List.all_append, ha, List.all_cons, hs2]; rfl) (h.step κ hk)
    refine ⟨K + 2, fun k hk2 => ?_⟩
    obtain ⟨m, rfl⟩ : ∃ m, k = m + 2 := ⟨k - 2, by omega⟩
    show templelaw5_ShowRuns.l0 (m + 2) x0 xs t run (i : Int) = some true
    rw [l0_step m x0 xs t run (i : Int) (by omega) (by omega) (by omega) (by omega) (by omega) κ hκ hk]
    exact hK m (by omega)
theorem ShowRuns_true : templelaw5_ShowRuns.Pure := by
  intro l0 _ _ _
  have h0 : Inv [] ⟨#[]⟩ false := ⟨⟨fun _ => rfl, fun _ => toList_nil.2 rfl⟩, fun _ => ⟨rfl, fun s => by simp [addsP]⟩, fun h => (by cases h), by decide⟩
  obtain ⟨K, hK⟩ := runs_loop l0 (min l0.length 40) 0 (by omega) [] ⟨#[]⟩ false rfl rfl h0
  refine ⟨K, ?_⟩
  unfold templelaw5_ShowRuns.f
  refine st_bind awake5 (st_pos rfl ?_)
  exact hK K (Nat.le_refl _)
end Go.Proofs.Ytimmkmfcpfjgfaa.PS5
