/- The lexer against the plain tokens. -/
import Derived.Test.YtmpilejhnolafaaL2Toks2
import Derived.Test.YtmpilejhnolafaaPPJx3
import Derived.Test.YtmpilejhnolafaaPPJx3
import Derived.Test.YtmpilejhnolafaaPPJx3
namespace Go.Proofs.Ytmpilejhnolafaa.PPJ
open Go.RowKit Go.Proofs.YtmpilejhnolafaaW.PrintWords Go.Proofs.YtmpilejhnolafaaW.PrintLast
set_option linter.unusedVariables false
set_option linter.unusedSimpArgs false
theorem letter_eq (c : Int) : lex_letter.f c = some (letterI c) := by
  unfold lex_letter.f letterI
  repeat' split
  all_goals (congr 1; rw [Bool.eq_iff_iff]; simp; omega)
theorem more_eq (c : Int) : lex_more.f c = some (moreI c) := by
  unfold lex_more.f
  refine st_bind (letter_eq c) ?_
  unfold moreI digitI
  cases letterI c with
  | true => rfl
  | false =>
    refine st_neg (by simp) ?_
    rw [Bool.false_or]
    split
    · congr 1
      rw [Bool.eq_iff_iff]
      simp
      omega
    · congr 1
      rw [Bool.eq_iff_iff]
      simp
      omega
theorem ends_ev (s : ByteArray) (hs : s.size ≤ 70000) (p : Nat) (hp : p ≤ s.size) :
    match rngL ((bl s).drop p) with
    | some x => Ev (fun k => lex_scanner_ends.f k s (p : Int)) (x.1, x.2.1, true, s, at_ s x.2.2)
    | none => ∃ a b q, Ev (fun k => lex_scanner_ends.f k s (p : Int)) (a, b, false, s, q) := by
  have h1 := end_ev s hs p hp
  unfold rngL
  cases he : endL ((bl s).drop p) with
  | none =>
    rw [he] at h1
    obtain ⟨q, K, e⟩ := h1
    refine ⟨0, 0, q, K, fun k hk => ?_⟩
    have e1 := e k hk
    dsimp only at e1 ⊢
    unfold lex_scanner_ends.f
    exact st_bind e1 (st_neg (by simp) rfl)
  | some x =>
    rw [he] at h1
    dsimp only at h1 ⊢
    obtain ⟨K, e⟩ := h1
    have hsf := (endL_suf (c := x.1) (r := x.2) he).trans (drop_suf s p)
    obtain ⟨d1, d2, d3, d4⟩ := suf_drop hsf
    have pk0 := peek_eq s (ps s x.2) 0 hs d2 (by omega)
    have pk1 := peek_eq s (ps s x.2) 1 hs d2 (by omega)
    by_cases h46 : x.2.head? = some 46
    · have h46' := h46
      rw [d1] at h46'
      obtain ⟨f1, f2, f3⟩ := head_lt h46'
      have hh := (head_eq s (ps s x.2) 46 (by decide)).2 h46'
      have ht : x.2.tail = (bl s).drop (ps s x.2 + 1) := by rw [← f3, ← d1]
      by_cases h46b : x.2.tail.head? = some 46
      · rw [if_pos ⟨h46, h46b⟩]
        have h46b' := h46b
        rw [ht] at h46b'
        obtain ⟨k1, k2, k3⟩ := head_lt h46b'
        have hh2 := (head_eq s (ps s x.2 + 1) 46 (by decide)).2 h46b'
        have h2 := end_ev s hs (ps s x.2 + 1 + 1) (by omega)
        rw [ht, k3]
        have wq : wrap64 ((ps s x.2 : Int) + 2) = ((ps s x.2 + 1 + 1 : Nat) : Int) := by rw [wrap_ok _ (by omega) (by omega)]; omega
        cases h3 : endL ((bl s).drop (ps s x.2 + 1 + 1)) with
        | none =>
          rw [h3] at h2
          obtain ⟨q, K2, e2⟩ := h2
          refine ⟨x.1, 0, q, K + K2, fun k hk => ?_⟩
          have e1 := e k (by omega)
          have e3 := e2 k (by omega)
          dsimp only at e1 e3 ⊢
          unfold lex_scanner_ends.f
          refine st_bind e1 (st_pos rfl (st_bind (by dsimp only; rw [d3]; exact pk0) (st_pos hh (st_bind pk1 (st_pos hh2 (st_bind (by dsimp only; rw [wq]; exact e3) rfl))))))
        | some y =>
          rw [h3] at h2
          dsimp only [Option.map_some] at h2 ⊢
          obtain ⟨K2, e2⟩ := h2
          refine ⟨K + K2, fun k hk => ?_⟩
          have e1 := e k (by omega)
          have e3 := e2 k (by omega)
          dsimp only at e1 e3 ⊢
          unfold lex_scanner_ends.f
          refine st_bind e1 (st_pos rfl (st_bind (by dsimp only; rw [d3]; exact pk0) (st_pos hh (st_bind pk1 (st_pos hh2 (st_bind (by dsimp only; rw [wq]; exact e3) rfl))))))
      · rw [if_neg (fun q => h46b q.2)]
        have h46b' := h46b
        rw [ht] at h46b'
        have hh2 : ¬ ((bl s).drop (ps s x.2 + 1)).headD 0 = 46 := fun q => h46b' ((head_eq s (ps s x.2 + 1) 46 (by decide)).1 q)
        refine ⟨K, fun k hk => ?_⟩
        have e1 := e k (by omega)
        dsimp only at e1 ⊢
        unfold lex_scanner_ends.f
        refine st_bind e1 (st_pos rfl (st_bind (by dsimp only; rw [d3]; exact pk0) (st_pos hh (st_bind pk1 (st_neg hh2 ?_)))))
        dsimp only
        rw [d3]
    · rw [if_neg (fun q => h46 q.1)]
      have h46' := h46
      rw [d1] at h46'
      have hh : ¬ ((bl s).drop (ps s x.2 + 0)).headD 0 = 46 := fun q => h46' ((head_eq s (ps s x.2) 46 (by decide)).1 q)
      refine ⟨K, fun k hk => ?_⟩
      have e1 := e k (by omega)
      dsimp only at e1 ⊢
      unfold lex_scanner_ends.f
      refine st_bind e1 (st_pos rfl (st_bind (by dsimp only; rw [d3]; exact pk0) (st_neg hh ?_)))
      dsimp only
      rw [d3]
/-! names -/
theorem ext_str (s : ByteArray) (p m : Nat) : s.extract p (p + m) = strOfNums (((bl s).drop p).take m) := by
  apply ByteArray.ext
  apply Array.toList_inj.1
  rw [ByteArray.data_extract, Array.toList_extract]
  unfold strOfNums
  rw [bl_data, ← List.map_drop, ← List.map_take, List.map_map]
  simp only [List.extract, Nat.add_sub_cancel_left]
  rw [show ((fun n : Int => UInt8.ofNat n.toNat) ∘ fun b : UInt8 => (b.toNat : Int)) = id from by
    funext b
    simp]
  simp
theorem name_l0 (s : ByteArray) (hs : s.size ≤ 70000) (p : Nat) : ∀ (n m : Nat), s.size - (p + m) ≤ n → p + m ≤ s.size → ((bl s).drop p).takeWhile moreI = ((bl s).drop p).take m ++ ((bl s).drop (p + m)).takeWhile moreI →
    Ev (fun k => lex_scanner_name.l0 k (p : Int) s ((p + m : Nat) : Int)) (strOfNums (((bl s).drop p).takeWhile moreI), decide ((((bl s).drop p).takeWhile moreI).length ≤ 32), s, at_ s (((bl s).drop p).dropWhile moreI)) := by
  intro n
  have stop : ∀ m, p + m ≤ s.size → ((bl s).drop p).takeWhile moreI = ((bl s).drop p).take m → ∀ A B : Option (ByteArray × Bool × ByteArray × Int), A = (if 0 ≤ (p : Int) then (if (p : Int) ≤ ((p + m : Nat) : Int) then (if ((p + m : Nat) : Int) ≤ (s.size : Int) then some (s.extract (p : Int).toNat ((p + m : Nat) : Int).toNat, decide ((wrap64 (((p + m : Nat) : Int) - (p : Int))) ≤ 32), s, ((p + m : Nat) : Int)) else none) else none) else none) →
      A = some (strOfNums (((bl s).drop p).takeWhile moreI), decide ((((bl s).drop p).takeWhile moreI).length ≤ 32), s, at_ s (((bl s).drop p).dropWhile moreI)) := by
    intro m hm ht A B hA
    have hlen : (((bl s).drop p).takeWhile moreI).length = m := by rw [ht, List.length_take, bl_len]; omega
    have hdw : ((bl s).drop p).dropWhile moreI = (bl s).drop (p + m) := by
      have h := List.takeWhile_append_dropWhile (p := moreI) (l := (bl s).drop p)
      rw [ht] at h
      have h2 := List.take_append_drop m ((bl s).drop p)
      rw [List.drop_drop] at h2
      exact List.append_cancel_left (h.trans h2.symm)
    rw [hA, if_pos (by omega), if_pos (by omega), if_pos (by omega), Int.toNat_natCast, Int.toNat_natCast, ext_str, hlen, hdw, at_drop s _ hm, ht, wrap_ok _ (by omega) (by omega)]
    congr 3
    rw [Bool.eq_iff_iff]
    simp
    omega
  induction n with
  | zero =>
    intro m hn hm ht
    rw [bl_nil s (p + m) (by omega), List.takeWhile_nil, List.append_nil] at ht
    refine Ev.step (f := fun _ => some _) (fun k => ?_) (Ev.now _)
    simp only [lex_scanner_name.l0]
    refine st_neg (by omega) ?_
    exact stop m hm ht _ none rfl
  | succ n ih =>
    intro m hn hm ht
    by_cases h : p + m < s.size
    · rw [bl_cons s (p + m) h, List.takeWhile_cons] at ht
      cases hmo : moreI (bt s ((p + m : Nat) : Int)) with
      | true =>
        rw [hmo] at ht
        simp only [if_true] at ht
        have h2 := ih (m + 1) (by omega) (by omega) (by
          rw [ht]
          have : ((bl s).drop p).take (m + 1) = ((bl s).drop p).take m ++ [bt s ((p + m : Nat) : Int)] := by
            rw [List.take_succ_eq_append_getElem (by rw [bl_len]; omega)]
            congr 2
            rw [List.getElem_drop, bl_get s (p + m) h]
          rw [this, List.append_assoc]
          rfl)
        refine Ev.step (f := fun k => lex_scanner_name.l0 k (p : Int) s ((p + (m + 1) : Nat) : Int)) (fun k => ?_) h2
        simp only [lex_scanner_name.l0]
        refine st_pos (by omega) (st_pos (by omega) (st_bind (more_eq _) (st_pos hmo ?_)))
        rw [wrap_ok _ (by omega) (by omega)]
        rfl
      | false =>
        rw [hmo] at ht
        simp only [Bool.false_eq_true, if_false, List.append_nil] at ht
        refine Ev.step (f := fun _ => some _) (fun k => ?_) (Ev.now _)
        simp only [lex_scanner_name.l0]
        refine st_pos (by omega) (st_pos (by omega) (st_bind (more_eq _) (st_neg (by rw [hmo]; simp) ?_)))
        exact stop m hm ht _ none rfl
    · rw [bl_nil s (p + m) (by omega), List.takeWhile_nil, List.append_nil] at ht
      refine Ev.step (f := fun _ => some _) (fun k => ?_) (Ev.now _)
      simp only [lex_scanner_name.l0]
      refine st_neg (by omega) ?_
      exact stop m hm ht _ none rfl
theorem name_ev (s : ByteArray) (hs : s.size ≤ 70000) (p : Nat) (hp : p ≤ s.size) :
    Ev (fun k => lex_scanner_name.f k s (p : Int)) (strOfNums (((bl s).drop p).takeWhile moreI), decide ((((bl s).drop p).takeWhile moreI).length ≤ 32), s, at_ s (((bl s).drop p).dropWhile moreI)) :=
  name_l0 s hs p s.size 0 (by omega) (by omega) (by simp)
end Go.Proofs.Ytmpilejhnolafaa.PPJ
