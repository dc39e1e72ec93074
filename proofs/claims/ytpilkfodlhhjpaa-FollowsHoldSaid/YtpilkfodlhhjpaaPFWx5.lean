-- written by a program of the session's (wip/myprint.py) out of the translation
import Derived.Test.YtpilkfodlhhjpaaPFWx0
import Derived.Test.YtpilkfodlhhjpaaPFWx2
import Derived.Test.YtpilkfodlhhjpaaPFWx3
import Derived.Test.YtpilkfodlhhjpaaPFWx4
namespace Go.Proofs.Ytpilkfodlhhjpaa.PFW
open Go.RowKit Go.Proofs.YtpilkfodlhhjpaaW.PrintWords Go.Proofs.YtpilkfodlhhjpaaW.PrintLast Go.Proofs.YtpilkfodlhhjpaaW.PrintMore
attribute [local go_sem] max2_int min2_int max_two min_two max_three min_three max_four min_four   -- for this text's walks alone
set_option linter.unusedVariables false
set_option linter.unusedSimpArgs false

/-! ### gram_names: function 49 -/
theorem lex_letter_eq (c : Int) : lex_letter.f c = some (letterI c) := by
 unfold lex_letter.f letterI
 repeat' split
 all_goals (congr 1; rw [Bool.eq_iff_iff]; simp; omega)
theorem lex_more_eq (c : Int) : lex_more.f c = some (moreI c) := by
 unfold lex_more.f
 rw [lex_letter_eq, Option.bind_some]
 unfold moreI digitI
 cases letterI c
 ·rw [if_neg (by decide), Bool.false_or]
  split
  ·congr 1; rw [Bool.eq_iff_iff]; simp; omega
  ·congr 1; rw [Bool.eq_iff_iff]; simp; omega
 ·rw [if_pos rfl, Bool.true_or]
theorem lex_Name_ev (s : ByteArray) : Ev (fun k => lex_Name.f k s) (nameOk s) := by
 have loop : s.size ≤ 32 → ∀ d i : Nat, i + d = s.size → (∀ j, j < i → moreI (bt s (j : Int)) = true) → Ev (fun k => lex_Name.l0 k s (s.size : Int) (i : Int)) ((List.range s.size).all (fun i => moreI (bt s (i : Int)))) := by
  intro h32 d
  induction d with
  | zero =>
   intro i hi hall
   have e : (List.range s.size).all (fun i => moreI (bt s (i : Int))) = true := by
    rw [List.all_eq_true]
    intro j hj
    exact hall j (by have := List.mem_range.1 hj; omega)
   rw [e]
   refine Ev.step (f := fun _ => some true) (fun k => ?_) (Ev.now _)
   simp only [lex_Name.l0]
   rw [if_neg (by omega)]
  | succ d ih =>
   intro i hi hall
   by_cases hm : moreI (bt s (i : Int)) = true
   ·refine Ev.step (f := fun k => lex_Name.l0 k s (s.size : Int) ((i + 1 : Nat) : Int)) (fun k => ?_) (ih (i + 1) (by omega) (fun j hj => ?_))
    ·simp only [lex_Name.l0]
     rw [if_pos (by omega), if_pos (by omega), if_pos (by omega), lex_more_eq, Option.bind_some, if_pos hm, show wrap64 ((i : Int) + 1) = ((i + 1 : Nat) : Int) from by unfold wrap64; omega]
    ·by_cases hji : j < i
     ·exact hall j hji
     ·rwa [show j = i from by omega]
   ·have e : (List.range s.size).all (fun i => moreI (bt s (i : Int))) = false := by
     rw [List.all_eq_false]
     exact ⟨i, List.mem_range.2 (by omega), by simpa using hm⟩
    rw [e]
    refine Ev.step (f := fun _ => some false) (fun k => ?_) (Ev.now _)
    simp only [lex_Name.l0]
    rw [if_pos (by omega), if_pos (by omega), if_pos (by omega), lex_more_eq, Option.bind_some, if_neg hm]
 have bad : ∀ b : Bool, nameOk s = b → b = false → Ev (fun k => lex_Name.j0 k s true) b := by
  intro b _ hb
  subst hb
  refine Ev.step (f := fun _ => some false) (fun k => ?_) (Ev.now _)
  simp only [lex_Name.j0, if_true]
 unfold lex_Name.f
 by_cases h0 : s.size = 0
 ·simp only [toList_nil.2 h0, if_true]
  refine bad _ rfl ?_
  unfold nameOk
  rw [show decide (1 ≤ s.size ∧ s.size ≤ 32 ∧ s.toList ≠ [115, 116, 97, 114, 116]) = false from by simp; omega, Bool.false_and]
 have h0' : ¬ s.toList = [] := fun h => h0 (toList_nil.1 h)
 by_cases h1 : (s.size : Int) > 32
 ·simp only [h0', if_false, h1, if_true]
  refine bad _ rfl ?_
  unfold nameOk
  rw [show decide (1 ≤ s.size ∧ s.size ≤ 32 ∧ s.toList ≠ [115, 116, 97, 114, 116]) = false from by simp; omega, Bool.false_and]
 by_cases h2 : s.toList = [115, 116, 97, 114, 116]
 ·have e : nameOk s = false := by
   unfold nameOk
   rw [show decide (1 ≤ s.size ∧ s.size ≤ 32 ∧ s.toList ≠ [115, 116, 97, 114, 116]) = false from by simp [h2], Bool.false_and]
  refine Ev.congr (f := fun k => lex_Name.j0 k s true) (fun k => ?_) (bad _ rfl e)
  rw [if_neg h0', if_neg h1, if_pos h2]
 have e : nameOk s = (letterI (bt s 0) && (List.range s.size).all (fun i => moreI (bt s (i : Int)))) := by
  unfold nameOk
  rw [show decide (1 ≤ s.size ∧ s.size ≤ 32 ∧ s.toList ≠ [115, 116, 97, 114, 116]) = true from by simp only [decide_eq_true_eq]; exact ⟨by omega, by omega, h2⟩, Bool.true_and]
 cases hl : letterI (bt s 0) with
 | false =>
  rw [hl, Bool.false_and] at e
  refine Ev.congr (f := fun k => lex_Name.j0 k s true) (fun k => ?_) (bad _ rfl e)
  rw [if_neg h0', if_neg h1, if_neg h2, if_pos (by omega), lex_letter_eq, Option.bind_some, hl]
  rfl
 | true =>
  rw [hl, Bool.true_and] at e
  rw [e]
  refine Ev.congr (f := fun k => lex_Name.j0 k s false) (fun k => ?_) (Ev.step (f := fun k => lex_Name.l0 k s (s.size : Int) ((0 : Nat) : Int)) (fun k => ?_) (loop (by omega) s.size 0 (by omega) (fun j hj => by omega)))
  ·rw [if_neg h0', if_neg h1, if_neg h2, if_pos (by omega), lex_letter_eq, Option.bind_some, hl]
   rfl
  ·simp only [lex_Name.j0, Bool.false_eq_true, if_false]
   rfl
theorem assoc_seen (s : ByteArray) : ∀ l : List ByteArray, assoc (l.map (fun x => (x, Value.bool true))) s = if l.contains s then some (.bool true) else none
 | [] => by simp [assoc]
 | x :: l => by
  have ih := assoc_seen s l
  unfold assoc at ih ⊢
  rw [List.map_cons, List.find?_cons]
  by_cases h : (s == x) = true
  ·rw [h]; simp [List.contains_cons, h]
  ·have h' : (s == x) = false := by simpa using h
   simp only [h', List.contains_cons, Bool.false_or]
   exact ih
theorem namesFrom_take (l : List ByteArray) (i : Nat) (x : ByteArray) (hx : l[i]? = some x) : namesFrom (l.take i) (l.drop i) = (nameOk x && !(l.take i).contains x && namesFrom (l.take (i + 1)) (l.drop (i + 1))) := by
 have hi : i < l.length := (List.getElem?_eq_some_iff.1 hx).1
 have he : l[i] = x := (List.getElem?_eq_some_iff.1 hx).2
 rw [List.drop_eq_getElem_cons hi, he, List.take_succ_eq_append_getElem hi, he]
 rfl
def gram_names.f (l0 : List ByteArray) : Option (Bool) := some (namesOk l0)
set_option maxHeartbeats 8000000 in
set_option maxRecDepth 100000 in
theorem gram_names.calls (A0 : Option Addr) (c0 : Nat) (l0 : List ByteArray) (r : Bool) (w : World) (hr0 : Kd.C Kd.string w A0 l0.length l0) (hc0 : l0.length ≤ c0) (h : gram_names.f l0 = some r) :
  Calls Try.prog 49 #[.slice A0 l0.length c0] w fun e w' => e = .returned (.bool r) ∧ Below w.heap.size w w' := by
 unfold gram_names.f at h
 have Hr := Aside0.mk (Option.some.inj h)
 clear h
 unfold namesOk at Hr
 have HR := Aside0.mk hr0
 clear hr0
 obtain ⟨i0, hi, hz0, hz1, hz2⟩ := info_parts (show (Try.prog.info? 4).map (fun i => (i.zero, i.size, i.bytes)) = some (some (.bool false), 1, 1) from by kernel_rfl)
 by_cases h1 : l0.length < 1
 ·go_enter Try.func49, Try.ntmps49
  go_wp2
  go_ret
  exact ⟨by rw [← Hr.out, show decide (1 ≤ l0.length ∧ l0.length ≤ 64) = false from by simp; omega]; rfl, Below.refl _ _⟩
 by_cases h2 : 64 < l0.length
 ·go_enter Try.func49, Try.ntmps49
  go_wp2
  go_ret
  exact ⟨by rw [← Hr.out, show decide (1 ≤ l0.length ∧ l0.length ≤ 64) = false from by simp; omega]; rfl, Below.refl _ _⟩
 rw [show decide (1 ≤ l0.length ∧ l0.length ≤ 64) = true from by simp; omega, Bool.true_and] at Hr
 have hm : ∀ W : World, (Instr.makeMap 119 none).run Try.prog W = .ok (.map (some W.heap.size)) (W.alloc (.map #[] 0)) := fun W => by rfl
 have h3 : ¬ l0.length < 1 := h1
 go_enter Try.func49, Try.ntmps49
 go_wp2
 go_loopw [17] (fun v wr => ∃ i : Nat, i ≤ l0.length ∧ v = .int .i64 i ∧ Aside0 (MapIs wr w.heap.size ((l0.take i).map (fun x => (x, Value.bool true)))) ∧ Aside0 (namesFrom (l0.take i) (l0.drop i) = r) ∧ Aside0 (Below w.heap.size w wr)) (fun v _ => l0.length - (intOf v).toNat)
 case atStart => exact ⟨0, by omega, rfl, ⟨⟨#[], 0, blk_new _ _, rfl⟩⟩, ⟨by simpa using Hr.out⟩, ⟨(Below.refl _ _).alloc (Nat.le_refl _) _⟩⟩
 case round =>
  obtain ⟨i, hi', rfl, hM, hN, hb⟩ := hrel
  by_cases hlt : i < l0.length
  ·have hx : l0[i]? = some l0[i] := List.getElem?_eq_getElem hlt
   obtain ⟨ad, eA, hcell⟩ := Kd.at_string (Kd.C_below HR.out hb.out) (i : Int) (by omega) (by omega)
   have hrd : rdOf ByteArray.empty l0 (i : Int) = l0[i] := by
    unfold rdOf
    rw [Int.toNat_natCast, List.getD_eq_getElem?_getD, hx]
    rfl
   rw [hrd, Int.toNat_natCast] at hcell
   have hN2 := hN.out
   rw [namesFrom_take l0 i _ hx] at hN2
   have HN2 := Aside0.mk hN2
   clear hN2 hN hrd
   have HX := Aside0.mk hx
   clear hx
   generalize l0[i] = x at *
   obtain ⟨K, hK⟩ := (lex_Name_ev x).rounds
   have HK := Aside0.mk hK
   clear hK
   subst eA
   cases hn : nameOk x with
   | false =>
    rw [hn] at HK HN2
    have HN3 := Aside0.mk (show false = r by simpa using HN2.out)
    clear HN2 hn
    go_wp2_with (first | (go_at_call 64; refine (lex_Name.calls K x false _ HK.out).mono ?_; rintro e w1 ⟨rfl, ⟨m, rfl⟩⟩))
    go_ret
    exact ⟨by rw [← HN3.out]; rfl, pw_below_drewN hb.out m⟩
   | true =>
    rw [hn] at HK HN2
    have hl := fun m => run_lookup_str (P := Try.prog) (w := wr.drewN m) Try.underlying119 Try.underlying9 hi hz0 (show MapIs (wr.drewN m) w.heap.size _ from hM.out) x
    simp only [assoc_seen] at hl
    cases hs : (l0.take i).contains x with
    | true =>
     rw [hs] at HN2
     simp only [hs, if_true, Option.getD_some] at hl
     have HN3 := Aside0.mk (show false = r by simpa using HN2.out)
     clear HN2 hn hs
     go_wp2_with (first | (go_at_call 64; refine (lex_Name.calls K x true _ HK.out).mono ?_; rintro e w1 ⟨rfl, ⟨m, rfl⟩⟩))
     go_ret
     exact ⟨by rw [← HN3.out]; rfl, pw_below_drewN hb.out _⟩
    | false =>
     rw [hs] at HN2
     simp only [hs, Bool.false_eq_true, if_false, Option.getD_none] at hl
     have hu := fun m => run_update_str (P := Try.prog) (w := wr.drewN m) Try.underlying119 Try.underlying9 (show MapIs (wr.drewN m) w.heap.size _ from hM.out) x (.bool true) (by rw [assoc_seen, hs]; rfl)
     have HU := Aside0.mk hu
     have HN3 := Aside0.mk (show namesFrom (l0.take (i + 1)) (l0.drop (i + 1)) = r by simpa using HN2.out)
     clear HN2 hn hs hu
     go_wp2_with (first | (go_at_call 64; refine (lex_Name.calls K x true _ HK.out).mono ?_; rintro e w1 ⟨rfl, ⟨m, rfl⟩⟩; obtain ⟨w2, hw2, hM2, hB2, _⟩ := HU.out m; have HM2 := Aside0.mk hM2; have HB2 := Aside0.mk hB2; clear hM2 hB2))
     go_roundw
     case rel => exact ⟨i + 1, by omega, by go_num, ⟨by rw [show l0.take (i + 1) = l0.take i ++ [x] from by rw [List.take_add_one, HX.out]; rfl, List.map_append]; exact HM2.out⟩, HN3, ⟨(pw_below_drewN hb.out m).trans (HB2.out _ (Nat.le_refl _))⟩⟩
     case measure => simp [intOf]; omega
  ·obtain rfl : i = l0.length := by omega
   rw [List.drop_length] at hN
   go_wp2
   go_ret
   exact ⟨by rw [← hN.out]; rfl, hb.out⟩


end Go.Proofs.Ytpilkfodlhhjpaa.PFW
