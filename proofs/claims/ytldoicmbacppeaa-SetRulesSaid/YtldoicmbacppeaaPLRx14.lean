-- written by a program of the session's (wip/myprint.py) out of the translation
import Derived.Test.YtldoicmbacppeaaPLRx0
import Derived.Test.YtldoicmbacppeaaPLRx1
import Derived.Test.YtldoicmbacppeaaPLRx3
import Derived.Test.YtldoicmbacppeaaPLRx4
import Derived.Test.YtldoicmbacppeaaPLRx6
import Derived.Test.YtldoicmbacppeaaPLRx7
import Derived.Test.YtldoicmbacppeaaPLRx8
import Derived.Test.YtldoicmbacppeaaPLRx9
import Derived.Test.YtldoicmbacppeaaPLRx11
import Derived.Test.YtldoicmbacppeaaPLRx13
import Derived.Test.YtldoicmbacppeaaPLRx15
namespace Go.Proofs.Ytldoicmbacppeaa.PLR
open Go.RowKit Go.Proofs.YtldoicmbacppeaaW.PrintWords Go.Proofs.YtldoicmbacppeaaW.PrintLast Go.Proofs.YtldoicmbacppeaaW.PrintMore
attribute [local go_sem] max2_int min2_int max_two min_two max_three min_three max_four min_four   -- for this text's walks alone
set_option linter.unusedVariables false
set_option linter.unusedSimpArgs false

attribute [local go_sem high] eqA24
theorem s1 {α : Type} (l : List α) (i : Nat) (a : α) : l.toArray.setIfInBounds i a = (l.set i a).toArray := List.setIfInBounds_toArray ..
theorem s2 {α : Type} (x : α) (l : List α) (a : α) : (x :: l).set 0 a = a :: l := rfl
theorem s3 {α : Type} (x : α) (l : List α) (i : Nat) (a : α) : (x :: l).set (i + 1) a = x :: l.set i a := rfl
theorem bc {w : World} {g : Nat} {t : TypeId} {cs : Array Value} {v : Value} (h : Aside0 (w.heap[g]? = some (.cells cs t (0, 0)))) (i : Nat) (e : cs[i]? = some v) : w.cell? ⟨g, i, none⟩ = some v := (blk_cell h.out i).trans e
theorem kb {w w1 : World} {g : Nat} {o : Obj} (h : Aside0 (w.heap[g]? = some o)) (hb : Below w.heap.size w w1) : Aside0 (w1.heap[g]? = some o) := ⟨blk_below h.out hb⟩
theorem kn {w : World} {g k : Nat} {o : Obj} (hg : k = w.heap.size) (h : Aside0 (w.heap[g]? = some o)) : Aside0 (g ≠ k) := ⟨by rw [hg]; exact Nat.ne_of_lt (blk_lt h.out)⟩
theorem km {w : World} {g k : Nat} {o : Obj} (hg : k = w.heap.size) (h : Aside0 (w.heap[g]? = some o)) : Aside0 (k ≠ g) := ⟨by rw [hg]; exact Nat.ne_of_gt (blk_lt h.out)⟩
theorem ks {w0 w w1 : World} (h : Aside0 (Below w0.heap.size w0 w)) (hb : Below w.heap.size w w1) : Aside0 (Below w0.heap.size w0 w1) := ⟨below_step h.out hb⟩
theorem kl {w0 w : World} {k : Nat} (hg : k = w.heap.size) (h : Aside0 (Below w0.heap.size w0 w)) : Aside0 (w0.heap.size ≤ k) := ⟨by rw [hg]; exact below_size h.out⟩
set_option maxHeartbeats 8000000 in
set_option maxRecDepth 100000 in
theorem templelaw1_SetRules.calls (k : Nat) (a0_0 : Int) (a0_1 : Int) (a0_2 : Int) (a0_3 : Int) (a1_0 : Int) (a1_1 : Int) (a1_2 : Int) (a1_3 : Int) (r : Bool) (w : World) (h : templelaw1_SetRules.f k a0_0 a0_1 a0_2 a0_3 a1_0 a1_1 a1_2 a1_3 = some r) :
  Calls Try.prog 4 #[.agg #[.int .u64 a0_0, .int .u64 a0_1, .int .u64 a0_2, .int .u64 a0_3], .agg #[.int .u64 a1_0, .int .u64 a1_1, .int .u64 a1_2, .int .u64 a1_3]] w fun e w' => e = .returned (.bool r) ∧ Below w.heap.size w w' := by
 have hu24 := Try.underlying24
 have HB := Aside0.mk (Below.refl w.heap.size w)
 have H : ((templelaw1_awake.f k).bind fun t165 => (if t165 = true then ((byteset_Or.f a0_0 a0_1 a0_2 a0_3 a1_0 a1_1 a1_2 a1_3).bind fun bt166 => ((byteset_And.f a0_0 a0_1 a0_2 a0_3 a1_0 a1_1 a1_2 a1_3).bind fun bt170 => ((byteset_Count.f bt166.1 bt166.2.1 bt166.2.2.1 bt166.2.2.2).bind fun t176 => ((byteset_Count.f bt170.1 bt170.2.1 bt170.2.2.1 bt170.2.2.2).bind fun t177 => ((byteset_Count.f a0_0 a0_1 a0_2 a0_3).bind fun t178 => ((byteset_Count.f a1_0 a1_1 a1_2 a1_3).bind fun t179 => (if (wrap64 (t176 + t177)) = (wrap64 (t178 + t179)) then ((byteset_Minus.f bt166.1 bt166.2.1 bt166.2.2.1 bt166.2.2.2 a1_0 a1_1 a1_2 a1_3).bind fun bt180 => ((byteset_Minus.f a0_0 a0_1 a0_2 a0_3 a1_0 a1_1 a1_2 a1_3).bind fun bt184 => (if (!(bt180.1 == bt184.1) || (!(bt180.2.1 == bt184.2.1) || (!(bt180.2.2.1 == bt184.2.2.1) || (!(bt180.2.2.2 == bt184.2.2.2))))) = true then (none) else ((byteset_Minus.f a0_0 a0_1 a0_2 a0_3 a1_0 a1_1 a1_2 a1_3).bind fun bt188 => ((byteset_Or.f bt170.1 bt170.2.1 bt170.2.2.1 bt170.2.2.2 bt188.1 bt188.2.1 bt188.2.2.1 bt188.2.2.2).bind fun bt192 => (if (!(bt192.1 == a0_0) || (!(bt192.2.1 == a0_1) || (!(bt192.2.2.1 == a0_2) || (!(bt192.2.2.2 == a0_3))))) = true then (none) else ((byteset_Minus.f a0_0 a0_1 a0_2 a0_3 a1_0 a1_1 a1_2 a1_3).bind fun bt196 => ((byteset_And.f bt196.1 bt196.2.1 bt196.2.2.1 bt196.2.2.2 a1_0 a1_1 a1_2 a1_3).bind fun bt200 => (if (!(bt200.1 == 0) || (!(bt200.2.1 == 0) || (!(bt200.2.2.1 == 0) || (!(bt200.2.2.2 == 0))))) = true then (none) else ((byteset_Ranges.f k a0_0 a0_1 a0_2 a0_3).bind fun t205 => (templelaw1_SetRules.l0 k t205 0 a0_0 a0_1 a0_2 a0_3 0 0 0 0))))))))))) else (none)))))))) else (none))) = some r := h
 clear h
 replace H := Option.bind_eq_some_iff.mp H
 obtain ⟨t165, A30, H⟩ := H
 try dsimp only at H
 have A3 := Aside0.mk A30
 clear A30
 by_cases c4 : t165 = true
 ·subst c4
  have H1 := H
  rw [if_pos rfl] at H1
  clear H
  have H := H1
  clear H1
  replace H := Option.bind_eq_some_iff.mp H
  obtain ⟨⟨t166, t167, t168, t169⟩, A50, H⟩ := H
  try dsimp only at H
  have A5 := Aside0.mk A50
  clear A50
  replace H := Option.bind_eq_some_iff.mp H
  obtain ⟨⟨t170, t171, t172, t173⟩, A60, H⟩ := H
  try dsimp only at H
  have A6 := Aside0.mk A60
  clear A60
  replace H := Option.bind_eq_some_iff.mp H
  obtain ⟨t176, A70, H⟩ := H
  try dsimp only at H
  have A7 := Aside0.mk A70
  clear A70
  replace H := Option.bind_eq_some_iff.mp H
  obtain ⟨t177, A80, H⟩ := H
  try dsimp only at H
  have A8 := Aside0.mk A80
  clear A80
  replace H := Option.bind_eq_some_iff.mp H
  obtain ⟨t178, A90, H⟩ := H
  try dsimp only at H
  have A9 := Aside0.mk A90
  clear A90
  replace H := Option.bind_eq_some_iff.mp H
  obtain ⟨t179, A100, H⟩ := H
  try dsimp only at H
  have A10 := Aside0.mk A100
  clear A100
  by_cases c11 : (wrap64 (t176 + t177)) = (wrap64 (t178 + t179))
  ·rw [if_pos c11] at H
   have c11b0 : ((wrap64 (t176 + t177)) == (wrap64 (t178 + t179))) = true := beq_iff_eq.mpr c11
   have c11b1 : ((wrap64 (t176 + t177)) != (wrap64 (t178 + t179))) = false := bne_eq_false_iff_eq.mpr c11
   clear c11
   replace H := Option.bind_eq_some_iff.mp H
   obtain ⟨⟨t180, t181, t182, t183⟩, A120, H⟩ := H
   try dsimp only at H
   have A12 := Aside0.mk A120
   clear A120
   replace H := Option.bind_eq_some_iff.mp H
   obtain ⟨⟨t184, t185, t186, t187⟩, A130, H⟩ := H
   try dsimp only at H
   have A13 := Aside0.mk A130
   clear A130
   by_cases c14 : (!(t180 == t184) || (!(t181 == t185) || (!(t182 == t186) || (!(t183 == t187))))) = true
   ·rw [if_pos c14] at H
    exact absurd H (by simp)
   ·rw [if_neg c14] at H
    have c14b0 : (!(t180 == t184) || (!(t181 == t185) || (!(t182 == t186) || (!(t183 == t187))))) = false := by simpa using c14
    clear c14
    replace H := Option.bind_eq_some_iff.mp H
    obtain ⟨⟨t188, t189, t190, t191⟩, A150, H⟩ := H
    try dsimp only at H
    have A15 := Aside0.mk A150
    clear A150
    replace H := Option.bind_eq_some_iff.mp H
    obtain ⟨⟨t192, t193, t194, t195⟩, A160, H⟩ := H
    try dsimp only at H
    have A16 := Aside0.mk A160
    clear A160
    by_cases c17 : (!(t192 == a0_0) || (!(t193 == a0_1) || (!(t194 == a0_2) || (!(t195 == a0_3))))) = true
    ·rw [if_pos c17] at H
     exact absurd H (by simp)
    ·rw [if_neg c17] at H
     have c17b0 : (!(t192 == a0_0) || (!(t193 == a0_1) || (!(t194 == a0_2) || (!(t195 == a0_3))))) = false := by simpa using c17
     clear c17
     replace H := Option.bind_eq_some_iff.mp H
     obtain ⟨⟨t196, t197, t198, t199⟩, A180, H⟩ := H
     try dsimp only at H
     have A18 := Aside0.mk A180
     clear A180
     replace H := Option.bind_eq_some_iff.mp H
     obtain ⟨⟨t200, t201, t202, t203⟩, A190, H⟩ := H
     replace H : (if (!(t200 == 0) || (!(t201 == 0) || (!(t202 == 0) || (!(t203 == 0))))) = true then (none) else ((byteset_Ranges.f k a0_0 a0_1 a0_2 a0_3).bind fun t205 => (templelaw1_SetRules.l0 k t205 0 a0_0 a0_1 a0_2 a0_3 0 0 0 0))) = some r := H
     have A19 := Aside0.mk A190
     clear A190
     by_cases c20 : (!(t200 == 0) || (!(t201 == 0) || (!(t202 == 0) || (!(t203 == 0))))) = true
     ·rw [if_pos c20] at H
      exact absurd H (by simp)
     ·rw [if_neg c20] at H
      have c20b0 : (!(t200 == 0) || (!(t201 == 0) || (!(t202 == 0) || (!(t203 == 0))))) = false := by simpa using c20
      clear c20
      replace H := Option.bind_eq_some_iff.mp H
      obtain ⟨t205, A210, H⟩ := H
      replace H : (templelaw1_SetRules.l0 k t205 0 a0_0 a0_1 a0_2 a0_3 0 0 0 0) = some r := H
      have A21 := Aside0.mk A210
      clear A210
      have H' := Aside0.mk H
      clear H
      go_enter Try.func4, Try.ntmps4
      try go_wp2_with (first | ((with_reducible refine gate_dst (N := 2) rfl ?_); refine box_event ?hg (N := 2) ?hd (cs := #[.int .u64 a0_0, .int .u64 a0_1, .int .u64 a0_2, .int .u64 a0_3]) (t := 24) ?hr ?_; (case hd => rfl); (case hg => rfl); (case hr => first | (go_simp; done) | (go_simp; rfl)); intro gb163 hg w22 hbox hb; have n0_ := Aside0.mk (below_step (by repeat (first | (with_reducible first | exact HB.out | apply below_alloc | apply pw_below_drewN | apply below_drew1) | exact HB.out)) hb); have n1_ := Aside0.mk (hbox); have n2_ := Aside0.mk ((by rw [hg]; exact (below_size (by repeat (first | (with_reducible first | exact HB.out | apply below_alloc | apply pw_below_drewN | apply below_drew1) | exact HB.out))) : w.heap.size ≤ gb163)); have n3_ := Aside0.mk ((by rw [hg]; exact (below_size (by repeat (first | (with_reducible first | exact HB.out | apply below_alloc | apply pw_below_drewN | apply below_drew1) | exact HB.out))) : w.heap.size ≤ gb163)); clear HB; have HB := n0_; have BK163 := n1_; have GW163 := n2_; have GE163 := n3_; clear n0_ n1_ n2_ n3_; clear hb hbox hg) | ((with_reducible refine gate_dst (N := 3) rfl ?_); refine box_event ?hg (N := 3) ?hd (cs := #[.int .u64 a1_0, .int .u64 a1_1, .int .u64 a1_2, .int .u64 a1_3]) (t := 24) ?hr ?_; (case hd => rfl); (case hg => rfl); (case hr => first | (go_simp; done) | (go_simp; rfl)); intro gb164 hg w23 hbox hb; have n0_ := Aside0.mk (blk_below (g := gb163) (o := .cells #[.int .u64 a0_0, .int .u64 a0_1, .int .u64 a0_2, .int .u64 a0_3] 24 (0, 0)) (by (with_reducible repeat (first | refine blk_drewN ?_ _ | refine blk_drew ?_ | refine blk_alloc ?_ _)); exact BK163.out) hb); have n1_ := Aside0.mk (below_step (by repeat (first | (with_reducible first | exact HB.out | apply below_alloc | apply pw_below_drewN | apply below_drew1 | refine below_set ?_ GE163.out) | exact HB.out)) hb); have n2_ := Aside0.mk (hbox); have n3_ := Aside0.mk ((by rw [hg]; exact (below_size (by repeat (first | (with_reducible first | exact HB.out | apply below_alloc | apply pw_below_drewN | apply below_drew1 | refine below_set ?_ GE163.out) | exact HB.out))) : w.heap.size ≤ gb164)); have n4_ := Aside0.mk ((by rw [hg]; exact (below_size (by repeat (first | (with_reducible first | exact HB.out | apply below_alloc | apply pw_below_drewN | apply below_drew1 | refine below_set ?_ GE163.out) | exact HB.out))) : w.heap.size ≤ gb164)); have n5_ := Aside0.mk ((by rw [hg]; exact Nat.ne_of_lt (blk_lt (g := gb163) (o := .cells #[.int .u64 a0_0, .int .u64 a0_1, .int .u64 a0_2, .int .u64 a0_3] 24 (0, 0)) (by (with_reducible repeat (first | refine blk_drewN ?_ _ | refine blk_drew ?_ | refine blk_alloc ?_ _)); exact BK163.out)) : gb163 ≠ gb164)); have n6_ := Aside0.mk ((by rw [hg]; exact Nat.ne_of_gt (blk_lt (g := gb163) (o := .cells #[.int .u64 a0_0, .int .u64 a0_1, .int .u64 a0_2, .int .u64 a0_3] 24 (0, 0)) (by (with_reducible repeat (first | refine blk_drewN ?_ _ | refine blk_drew ?_ | refine blk_alloc ?_ _)); exact BK163.out)) : gb164 ≠ gb163)); clear BK163; clear HB; have BK163 := n0_; have HB := n1_; have BK164 := n2_; have GW164 := n3_; have GE164 := n4_; have NB163_164 := n5_; have NB164_163 := n6_; clear n0_ n1_ n2_ n3_ n4_ n5_ n6_; clear hb hbox hg) | ((with_reducible refine gate_callee (f := 24) rfl ?_); refine goesL_ (some 12) rfl rfl Try.func24 (by kernel_rfl) rfl #[] rfl (by (try simp only [List.map_toArray, List.map_cons, List.map_nil]); first | done | rfl | (simp only [List.length_drop, List.length_take]; rfl)) ?_; (with_reducible refine (templelaw1_awake.calls k  true _ A3.out).mono ?_); rintro e w24 ⟨rfl, hb⟩; refine ⟨_, rfl, ?_⟩; have n0_ := Aside0.mk (blk_below (g := gb163) (o := .cells #[.int .u64 a0_0, .int .u64 a0_1, .int .u64 a0_2, .int .u64 a0_3] 24 (0, 0)) (by (with_reducible repeat (first | refine blk_drewN ?_ _ | refine blk_drew ?_ | refine blk_alloc ?_ _)); exact BK163.out) hb); have n1_ := Aside0.mk (blk_below (g := gb164) (o := .cells #[.int .u64 a1_0, .int .u64 a1_1, .int .u64 a1_2, .int .u64 a1_3] 24 (0, 0)) (by (with_reducible repeat (first | refine blk_drewN ?_ _ | refine blk_drew ?_ | refine blk_alloc ?_ _)); exact BK164.out) hb); have n2_ := Aside0.mk (below_step (by repeat (first | (with_reducible first | exact HB.out | apply below_alloc | apply pw_below_drewN | apply below_drew1 | refine below_set ?_ GE163.out | refine below_set ?_ GE164.out) | exact HB.out)) hb); clear BK163; clear BK164; clear HB; have BK163 := n0_; have BK164 := n1_; have HB := n2_; clear n0_ n1_ n2_; (try clear hb)))
      have n0_ := Aside0.mk (blk_drew BK163.out)
      have n1_ := Aside0.mk (blk_drew BK164.out)
      have n2_ := Aside0.mk (below_drew1 HB.out)
      clear BK163 BK164 HB
      have BK163 := n0_
      have BK164 := n1_
      have HB := n2_
      clear n0_ n1_ n2_
      refine start_ (n := 10) (S := fun w' => w'.cell? ⟨gb163, 0, none⟩ = some (.int .u64 a0_0) ∧ w'.cell? ⟨gb163, 1, none⟩ = some (.int .u64 a0_1) ∧ w'.cell? ⟨gb163, 2, none⟩ = some (.int .u64 a0_2) ∧ w'.cell? ⟨gb163, 3, none⟩ = some (.int .u64 a0_3) ∧ w'.cell? ⟨gb164, 0, none⟩ = some (.int .u64 a1_0) ∧ w'.cell? ⟨gb164, 1, none⟩ = some (.int .u64 a1_1) ∧ w'.cell? ⟨gb164, 2, none⟩ = some (.int .u64 a1_2) ∧ w'.cell? ⟨gb164, 3, none⟩ = some (.int .u64 a1_3)) (ds := []) #[false, false, false, false, false, false, false, false, false, false] (by kernel_rfl) rfl rfl ⟨bc BK163 0 rfl, bc BK163 1 rfl, bc BK163 2 rfl, bc BK163 3 rfl, bc BK164 0 rfl, bc BK164 1 rfl, bc BK164 2 rfl, bc BK164 3 rfl⟩ (fun hHeld => ?_); refine with_tabW templelaw1_SetRules.tab3 templelaw1_SetRules.bits3 (fun HT_ HW_ => ?_)
      generalize w24.drew = w25 at BK163 BK164 HB hHeld ⊢
      refine take_ (i := 0) (N := some 14) (v := ?_) (a' := ?_) #[true, false, false, false, false, false, false, false, false, false] rfl rfl (take_ofW HT_.out HW_.out (by kernel_rfl)) (fun _ _ _ h => h) (Or.inl ⟨by rfl, ?_⟩) hHeld ?_ ?_
      rotate_left
      ·rintro w' ⟨s0, s1, s2, s3, s4, s5, s6, s7⟩
       go_simp
       with_reducible rfl
      rotate_left
      ·simp only [Act.put, s1, s2, s3, i64_w, i32_w]
       rfl
      refine take_ (i := 1) (N := some 15) (v := ?_) (a' := ?_) #[true, true, false, false, false, false, false, false, false, false] rfl rfl (take_ofW HT_.out HW_.out (by kernel_rfl)) (fun _ _ _ h => h) (Or.inl ⟨by rfl, ?_⟩) hHeld ?_ ?_
      rotate_left
      ·rintro w' ⟨s0, s1, s2, s3, s4, s5, s6, s7⟩
       go_simp
       with_reducible rfl
      rotate_left
      ·simp only [Act.put, s1, s2, s3, i64_w, i32_w]
       rfl
      refine take_ (i := 3) (N := some 17) (v := ?_) (a' := ?_) #[true, true, false, true, false, false, false, false, false, false] rfl rfl (take_ofW HT_.out HW_.out (by kernel_rfl)) (fun _ _ _ h => h) (Or.inl ⟨by rfl, ?_⟩) hHeld ?_ ?_
      rotate_left
      ·rintro w' ⟨s0, s1, s2, s3, s4, s5, s6, s7⟩
       go_simp
       with_reducible rfl
      rotate_left
      ·simp only [Act.put, s1, s2, s3, i64_w, i32_w]
       rfl
      refine take_ (i := 4) (N := some 18) (v := ?_) (a' := ?_) #[true, true, false, true, true, false, false, false, false, false] rfl rfl (take_ofW HT_.out HW_.out (by kernel_rfl)) (fun _ _ _ h => h) (Or.inl ⟨by rfl, ?_⟩) hHeld ?_ ?_
      rotate_left
      ·rintro w' ⟨s0, s1, s2, s3, s4, s5, s6, s7⟩
       go_simp
       with_reducible rfl
      rotate_left
      ·simp only [Act.put, s1, s2, s3, i64_w, i32_w]
       rfl
      refine join_ (σ := Nat × Nat) 2 #[true, true, true, true, true, true, true, true, false, false] (fun s_ => [(16, .agg #[.int .u64 t166, .int .u64 t167, .int .u64 t168, .int .u64 t169]), (19, .agg #[.int .u64 t170, .int .u64 t171, .int .u64 t172, .int .u64 t173]), (5, .pointer (some ⟨s_.1, 0, none⟩)), (6, .pointer (some ⟨s_.2, 0, none⟩))]) (fun s_ w' => (w'.cell? ⟨gb163, 0, none⟩ = some (.int .u64 a0_0) ∧ w'.cell? ⟨gb163, 1, none⟩ = some (.int .u64 a0_1) ∧ w'.cell? ⟨gb163, 2, none⟩ = some (.int .u64 a0_2) ∧ w'.cell? ⟨gb163, 3, none⟩ = some (.int .u64 a0_3) ∧ w'.cell? ⟨gb164, 0, none⟩ = some (.int .u64 a1_0) ∧ w'.cell? ⟨gb164, 1, none⟩ = some (.int .u64 a1_1) ∧ w'.cell? ⟨gb164, 2, none⟩ = some (.int .u64 a1_2) ∧ w'.cell? ⟨gb164, 3, none⟩ = some (.int .u64 a1_3)) ∧ (w'.heap[gb163]? = some (.cells #[.int .u64 a0_0, .int .u64 a0_1, .int .u64 a0_2, .int .u64 a0_3] 24 (0, 0))) ∧ (w'.heap[gb164]? = some (.cells #[.int .u64 a1_0, .int .u64 a1_1, .int .u64 a1_2, .int .u64 a1_3] 24 (0, 0))) ∧ (w'.heap[s_.1]? = some (.cells #[.int .u64 0, .int .u64 0, .int .u64 0, .int .u64 0] 24 (0, 0))) ∧ (w'.heap[s_.2]? = some (.cells #[.int .u64 0, .int .u64 0, .int .u64 0, .int .u64 0] 24 (0, 0))) ∧ (w.heap.size ≤ s_.1) ∧ (w.heap.size ≤ s_.1) ∧ (gb163 ≠ s_.1) ∧ (s_.1 ≠ gb163) ∧ (gb164 ≠ s_.1) ∧ (s_.1 ≠ gb164) ∧ (s_.2 ≠ s_.1) ∧ (s_.1 ≠ s_.2) ∧ (w.heap.size ≤ s_.2) ∧ (w.heap.size ≤ s_.2) ∧ (gb163 ≠ s_.2) ∧ (s_.2 ≠ gb163) ∧ (gb164 ≠ s_.2) ∧ (s_.2 ≠ gb164) ∧ (Below w.heap.size w w')) ?_ ?_
      rotate_left
      ·intro hJ2_5_6_7
       refine join_ (σ := Nat) 3 #[true, true, true, true, true, true, true, false, false, false] (fun s_ => [(16, .agg #[.int .u64 t166, .int .u64 t167, .int .u64 t168, .int .u64 t169]), (19, .agg #[.int .u64 t170, .int .u64 t171, .int .u64 t172, .int .u64 t173]), (5, .pointer (some ⟨s_, 0, none⟩))]) (fun s_ w' => (w'.cell? ⟨gb163, 0, none⟩ = some (.int .u64 a0_0) ∧ w'.cell? ⟨gb163, 1, none⟩ = some (.int .u64 a0_1) ∧ w'.cell? ⟨gb163, 2, none⟩ = some (.int .u64 a0_2) ∧ w'.cell? ⟨gb163, 3, none⟩ = some (.int .u64 a0_3) ∧ w'.cell? ⟨gb164, 0, none⟩ = some (.int .u64 a1_0) ∧ w'.cell? ⟨gb164, 1, none⟩ = some (.int .u64 a1_1) ∧ w'.cell? ⟨gb164, 2, none⟩ = some (.int .u64 a1_2) ∧ w'.cell? ⟨gb164, 3, none⟩ = some (.int .u64 a1_3)) ∧ (w'.heap[gb163]? = some (.cells #[.int .u64 a0_0, .int .u64 a0_1, .int .u64 a0_2, .int .u64 a0_3] 24 (0, 0))) ∧ (w'.heap[gb164]? = some (.cells #[.int .u64 a1_0, .int .u64 a1_1, .int .u64 a1_2, .int .u64 a1_3] 24 (0, 0))) ∧ (w'.heap[s_]? = some (.cells #[.int .u64 0, .int .u64 0, .int .u64 0, .int .u64 0] 24 (0, 0))) ∧ (w.heap.size ≤ s_) ∧ (w.heap.size ≤ s_) ∧ (gb163 ≠ s_) ∧ (s_ ≠ gb163) ∧ (gb164 ≠ s_) ∧ (s_ ≠ gb164) ∧ (Below w.heap.size w w')) ?_ ?_
       rotate_left
       ·intro hJ2_5_6
        refine join_ (σ := Nat) 3 #[true, true, true, true, true, true, false, true, false, false] (fun s_ => [(16, .agg #[.int .u64 t166, .int .u64 t167, .int .u64 t168, .int .u64 t169]), (19, .agg #[.int .u64 t170, .int .u64 t171, .int .u64 t172, .int .u64 t173]), (6, .pointer (some ⟨s_, 0, none⟩))]) (fun s_ w' => (w'.cell? ⟨gb163, 0, none⟩ = some (.int .u64 a0_0) ∧ w'.cell? ⟨gb163, 1, none⟩ = some (.int .u64 a0_1) ∧ w'.cell? ⟨gb163, 2, none⟩ = some (.int .u64 a0_2) ∧ w'.cell? ⟨gb163, 3, none⟩ = some (.int .u64 a0_3) ∧ w'.cell? ⟨gb164, 0, none⟩ = some (.int .u64 a1_0) ∧ w'.cell? ⟨gb164, 1, none⟩ = some (.int .u64 a1_1) ∧ w'.cell? ⟨gb164, 2, none⟩ = some (.int .u64 a1_2) ∧ w'.cell? ⟨gb164, 3, none⟩ = some (.int .u64 a1_3)) ∧ (w'.heap[gb163]? = some (.cells #[.int .u64 a0_0, .int .u64 a0_1, .int .u64 a0_2, .int .u64 a0_3] 24 (0, 0))) ∧ (w'.heap[gb164]? = some (.cells #[.int .u64 a1_0, .int .u64 a1_1, .int .u64 a1_2, .int .u64 a1_3] 24 (0, 0))) ∧ (w'.heap[s_]? = some (.cells #[.int .u64 0, .int .u64 0, .int .u64 0, .int .u64 0] 24 (0, 0))) ∧ (w.heap.size ≤ s_) ∧ (w.heap.size ≤ s_) ∧ (gb163 ≠ s_) ∧ (s_ ≠ gb163) ∧ (gb164 ≠ s_) ∧ (s_ ≠ gb164) ∧ (Below w.heap.size w w')) ?_ ?_
        rotate_left
        ·intro hJ2_5_7
         refine join_ (σ := Nat × Nat) 3 #[true, true, true, true, true, false, true, true, false, false] (fun s_ => [(16, .agg #[.int .u64 t166, .int .u64 t167, .int .u64 t168, .int .u64 t169]), (5, .pointer (some ⟨s_.1, 0, none⟩)), (6, .pointer (some ⟨s_.2, 0, none⟩))]) (fun s_ w' => (w'.cell? ⟨gb163, 0, none⟩ = some (.int .u64 a0_0) ∧ w'.cell? ⟨gb163, 1, none⟩ = some (.int .u64 a0_1) ∧ w'.cell? ⟨gb163, 2, none⟩ = some (.int .u64 a0_2) ∧ w'.cell? ⟨gb163, 3, none⟩ = some (.int .u64 a0_3) ∧ w'.cell? ⟨gb164, 0, none⟩ = some (.int .u64 a1_0) ∧ w'.cell? ⟨gb164, 1, none⟩ = some (.int .u64 a1_1) ∧ w'.cell? ⟨gb164, 2, none⟩ = some (.int .u64 a1_2) ∧ w'.cell? ⟨gb164, 3, none⟩ = some (.int .u64 a1_3)) ∧ (w'.heap[gb163]? = some (.cells #[.int .u64 a0_0, .int .u64 a0_1, .int .u64 a0_2, .int .u64 a0_3] 24 (0, 0))) ∧ (w'.heap[gb164]? = some (.cells #[.int .u64 a1_0, .int .u64 a1_1, .int .u64 a1_2, .int .u64 a1_3] 24 (0, 0))) ∧ (w'.heap[s_.1]? = some (.cells #[.int .u64 0, .int .u64 0, .int .u64 0, .int .u64 0] 24 (0, 0))) ∧ (w'.heap[s_.2]? = some (.cells #[.int .u64 0, .int .u64 0, .int .u64 0, .int .u64 0] 24 (0, 0))) ∧ (w.heap.size ≤ s_.1) ∧ (w.heap.size ≤ s_.1) ∧ (gb163 ≠ s_.1) ∧ (s_.1 ≠ gb163) ∧ (gb164 ≠ s_.1) ∧ (s_.1 ≠ gb164) ∧ (s_.2 ≠ s_.1) ∧ (s_.1 ≠ s_.2) ∧ (w.heap.size ≤ s_.2) ∧ (w.heap.size ≤ s_.2) ∧ (gb163 ≠ s_.2) ∧ (s_.2 ≠ gb163) ∧ (gb164 ≠ s_.2) ∧ (s_.2 ≠ gb164) ∧ (Below w.heap.size w w')) ?_ ?_
         rotate_left
         ·intro hJ2_6_7
          refine join_ (σ := Unit) 4 #[true, true, true, true, true, true, false, false, false, false] (fun s_ => [(16, .agg #[.int .u64 t166, .int .u64 t167, .int .u64 t168, .int .u64 t169]), (19, .agg #[.int .u64 t170, .int .u64 t171, .int .u64 t172, .int .u64 t173])]) (fun s_ w' => (w'.cell? ⟨gb163, 0, none⟩ = some (.int .u64 a0_0) ∧ w'.cell? ⟨gb163, 1, none⟩ = some (.int .u64 a0_1) ∧ w'.cell? ⟨gb163, 2, none⟩ = some (.int .u64 a0_2) ∧ w'.cell? ⟨gb163, 3, none⟩ = some (.int .u64 a0_3) ∧ w'.cell? ⟨gb164, 0, none⟩ = some (.int .u64 a1_0) ∧ w'.cell? ⟨gb164, 1, none⟩ = some (.int .u64 a1_1) ∧ w'.cell? ⟨gb164, 2, none⟩ = some (.int .u64 a1_2) ∧ w'.cell? ⟨gb164, 3, none⟩ = some (.int .u64 a1_3)) ∧ (w'.heap[gb163]? = some (.cells #[.int .u64 a0_0, .int .u64 a0_1, .int .u64 a0_2, .int .u64 a0_3] 24 (0, 0))) ∧ (w'.heap[gb164]? = some (.cells #[.int .u64 a1_0, .int .u64 a1_1, .int .u64 a1_2, .int .u64 a1_3] 24 (0, 0))) ∧ (Below w.heap.size w w')) ?_ ?_
          rotate_left
          ·intro hJ2_5
           refine join_ (σ := Nat) 4 #[true, true, true, true, true, false, true, false, false, false] (fun s_ => [(16, .agg #[.int .u64 t166, .int .u64 t167, .int .u64 t168, .int .u64 t169]), (5, .pointer (some ⟨s_, 0, none⟩))]) (fun s_ w' => (w'.cell? ⟨gb163, 0, none⟩ = some (.int .u64 a0_0) ∧ w'.cell? ⟨gb163, 1, none⟩ = some (.int .u64 a0_1) ∧ w'.cell? ⟨gb163, 2, none⟩ = some (.int .u64 a0_2) ∧ w'.cell? ⟨gb163, 3, none⟩ = some (.int .u64 a0_3) ∧ w'.cell? ⟨gb164, 0, none⟩ = some (.int .u64 a1_0) ∧ w'.cell? ⟨gb164, 1, none⟩ = some (.int .u64 a1_1) ∧ w'.cell? ⟨gb164, 2, none⟩ = some (.int .u64 a1_2) ∧ w'.cell? ⟨gb164, 3, none⟩ = some (.int .u64 a1_3)) ∧ (w'.heap[gb163]? = some (.cells #[.int .u64 a0_0, .int .u64 a0_1, .int .u64 a0_2, .int .u64 a0_3] 24 (0, 0))) ∧ (w'.heap[gb164]? = some (.cells #[.int .u64 a1_0, .int .u64 a1_1, .int .u64 a1_2, .int .u64 a1_3] 24 (0, 0))) ∧ (w'.heap[s_]? = some (.cells #[.int .u64 0, .int .u64 0, .int .u64 0, .int .u64 0] 24 (0, 0))) ∧ (w.heap.size ≤ s_) ∧ (w.heap.size ≤ s_) ∧ (gb163 ≠ s_) ∧ (s_ ≠ gb163) ∧ (gb164 ≠ s_) ∧ (s_ ≠ gb164) ∧ (Below w.heap.size w w')) ?_ ?_
           rotate_left
           ·intro hJ2_6
            refine join_ (σ := Nat) 4 #[true, true, true, true, true, false, false, true, false, false] (fun s_ => [(16, .agg #[.int .u64 t166, .int .u64 t167, .int .u64 t168, .int .u64 t169]), (6, .pointer (some ⟨s_, 0, none⟩))]) (fun s_ w' => (w'.cell? ⟨gb163, 0, none⟩ = some (.int .u64 a0_0) ∧ w'.cell? ⟨gb163, 1, none⟩ = some (.int .u64 a0_1) ∧ w'.cell? ⟨gb163, 2, none⟩ = some (.int .u64 a0_2) ∧ w'.cell? ⟨gb163, 3, none⟩ = some (.int .u64 a0_3) ∧ w'.cell? ⟨gb164, 0, none⟩ = some (.int .u64 a1_0) ∧ w'.cell? ⟨gb164, 1, none⟩ = some (.int .u64 a1_1) ∧ w'.cell? ⟨gb164, 2, none⟩ = some (.int .u64 a1_2) ∧ w'.cell? ⟨gb164, 3, none⟩ = some (.int .u64 a1_3)) ∧ (w'.heap[gb163]? = some (.cells #[.int .u64 a0_0, .int .u64 a0_1, .int .u64 a0_2, .int .u64 a0_3] 24 (0, 0))) ∧ (w'.heap[gb164]? = some (.cells #[.int .u64 a1_0, .int .u64 a1_1, .int .u64 a1_2, .int .u64 a1_3] 24 (0, 0))) ∧ (w'.heap[s_]? = some (.cells #[.int .u64 0, .int .u64 0, .int .u64 0, .int .u64 0] 24 (0, 0))) ∧ (w.heap.size ≤ s_) ∧ (w.heap.size ≤ s_) ∧ (gb163 ≠ s_) ∧ (s_ ≠ gb163) ∧ (gb164 ≠ s_) ∧ (s_ ≠ gb164) ∧ (Below w.heap.size w w')) ?_ ?_
            rotate_left
            ·intro hJ2_7
             refine join_ (σ := Nat × Nat) 4 #[true, true, false, true, true, false, true, true, false, false] (fun s_ => [(5, .pointer (some ⟨s_.1, 0, none⟩)), (6, .pointer (some ⟨s_.2, 0, none⟩))]) (fun s_ w' => (w'.cell? ⟨gb163, 0, none⟩ = some (.int .u64 a0_0) ∧ w'.cell? ⟨gb163, 1, none⟩ = some (.int .u64 a0_1) ∧ w'.cell? ⟨gb163, 2, none⟩ = some (.int .u64 a0_2) ∧ w'.cell? ⟨gb163, 3, none⟩ = some (.int .u64 a0_3) ∧ w'.cell? ⟨gb164, 0, none⟩ = some (.int .u64 a1_0) ∧ w'.cell? ⟨gb164, 1, none⟩ = some (.int .u64 a1_1) ∧ w'.cell? ⟨gb164, 2, none⟩ = some (.int .u64 a1_2) ∧ w'.cell? ⟨gb164, 3, none⟩ = some (.int .u64 a1_3)) ∧ (w'.heap[gb163]? = some (.cells #[.int .u64 a0_0, .int .u64 a0_1, .int .u64 a0_2, .int .u64 a0_3] 24 (0, 0))) ∧ (w'.heap[gb164]? = some (.cells #[.int .u64 a1_0, .int .u64 a1_1, .int .u64 a1_2, .int .u64 a1_3] 24 (0, 0))) ∧ (w'.heap[s_.1]? = some (.cells #[.int .u64 0, .int .u64 0, .int .u64 0, .int .u64 0] 24 (0, 0))) ∧ (w'.heap[s_.2]? = some (.cells #[.int .u64 0, .int .u64 0, .int .u64 0, .int .u64 0] 24 (0, 0))) ∧ (w.heap.size ≤ s_.1) ∧ (w.heap.size ≤ s_.1) ∧ (gb163 ≠ s_.1) ∧ (s_.1 ≠ gb163) ∧ (gb164 ≠ s_.1) ∧ (s_.1 ≠ gb164) ∧ (s_.2 ≠ s_.1) ∧ (s_.1 ≠ s_.2) ∧ (w.heap.size ≤ s_.2) ∧ (w.heap.size ≤ s_.2) ∧ (gb163 ≠ s_.2) ∧ (s_.2 ≠ gb163) ∧ (gb164 ≠ s_.2) ∧ (s_.2 ≠ gb164) ∧ (Below w.heap.size w w')) ?_ ?_
             rotate_left
             ·intro hJ6_7
              refine join_ (σ := Unit) 5 #[true, true, true, true, true, false, false, false, false, false] (fun s_ => [(16, .agg #[.int .u64 t166, .int .u64 t167, .int .u64 t168, .int .u64 t169])]) (fun s_ w' => (w'.cell? ⟨gb163, 0, none⟩ = some (.int .u64 a0_0) ∧ w'.cell? ⟨gb163, 1, none⟩ = some (.int .u64 a0_1) ∧ w'.cell? ⟨gb163, 2, none⟩ = some (.int .u64 a0_2) ∧ w'.cell? ⟨gb163, 3, none⟩ = some (.int .u64 a0_3) ∧ w'.cell? ⟨gb164, 0, none⟩ = some (.int .u64 a1_0) ∧ w'.cell? ⟨gb164, 1, none⟩ = some (.int .u64 a1_1) ∧ w'.cell? ⟨gb164, 2, none⟩ = some (.int .u64 a1_2) ∧ w'.cell? ⟨gb164, 3, none⟩ = some (.int .u64 a1_3)) ∧ (w'.heap[gb163]? = some (.cells #[.int .u64 a0_0, .int .u64 a0_1, .int .u64 a0_2, .int .u64 a0_3] 24 (0, 0))) ∧ (w'.heap[gb164]? = some (.cells #[.int .u64 a1_0, .int .u64 a1_1, .int .u64 a1_2, .int .u64 a1_3] 24 (0, 0))) ∧ (Below w.heap.size w w')) ?_ ?_
              rotate_left
              ·intro hJ2
               refine join_ (σ := Nat) 5 #[true, true, false, true, true, false, true, false, false, false] (fun s_ => [(5, .pointer (some ⟨s_, 0, none⟩))]) (fun s_ w' => (w'.cell? ⟨gb163, 0, none⟩ = some (.int .u64 a0_0) ∧ w'.cell? ⟨gb163, 1, none⟩ = some (.int .u64 a0_1) ∧ w'.cell? ⟨gb163, 2, none⟩ = some (.int .u64 a0_2) ∧ w'.cell? ⟨gb163, 3, none⟩ = some (.int .u64 a0_3) ∧ w'.cell? ⟨gb164, 0, none⟩ = some (.int .u64 a1_0) ∧ w'.cell? ⟨gb164, 1, none⟩ = some (.int .u64 a1_1) ∧ w'.cell? ⟨gb164, 2, none⟩ = some (.int .u64 a1_2) ∧ w'.cell? ⟨gb164, 3, none⟩ = some (.int .u64 a1_3)) ∧ (w'.heap[gb163]? = some (.cells #[.int .u64 a0_0, .int .u64 a0_1, .int .u64 a0_2, .int .u64 a0_3] 24 (0, 0))) ∧ (w'.heap[gb164]? = some (.cells #[.int .u64 a1_0, .int .u64 a1_1, .int .u64 a1_2, .int .u64 a1_3] 24 (0, 0))) ∧ (w'.heap[s_]? = some (.cells #[.int .u64 0, .int .u64 0, .int .u64 0, .int .u64 0] 24 (0, 0))) ∧ (w.heap.size ≤ s_) ∧ (w.heap.size ≤ s_) ∧ (gb163 ≠ s_) ∧ (s_ ≠ gb163) ∧ (gb164 ≠ s_) ∧ (s_ ≠ gb164) ∧ (Below w.heap.size w w')) ?_ ?_
               rotate_left
               ·intro hJ6
                refine join_ (σ := Nat) 5 #[true, true, false, true, true, false, false, true, false, false] (fun s_ => [(6, .pointer (some ⟨s_, 0, none⟩))]) (fun s_ w' => (w'.cell? ⟨gb163, 0, none⟩ = some (.int .u64 a0_0) ∧ w'.cell? ⟨gb163, 1, none⟩ = some (.int .u64 a0_1) ∧ w'.cell? ⟨gb163, 2, none⟩ = some (.int .u64 a0_2) ∧ w'.cell? ⟨gb163, 3, none⟩ = some (.int .u64 a0_3) ∧ w'.cell? ⟨gb164, 0, none⟩ = some (.int .u64 a1_0) ∧ w'.cell? ⟨gb164, 1, none⟩ = some (.int .u64 a1_1) ∧ w'.cell? ⟨gb164, 2, none⟩ = some (.int .u64 a1_2) ∧ w'.cell? ⟨gb164, 3, none⟩ = some (.int .u64 a1_3)) ∧ (w'.heap[gb163]? = some (.cells #[.int .u64 a0_0, .int .u64 a0_1, .int .u64 a0_2, .int .u64 a0_3] 24 (0, 0))) ∧ (w'.heap[gb164]? = some (.cells #[.int .u64 a1_0, .int .u64 a1_1, .int .u64 a1_2, .int .u64 a1_3] 24 (0, 0))) ∧ (w'.heap[s_]? = some (.cells #[.int .u64 0, .int .u64 0, .int .u64 0, .int .u64 0] 24 (0, 0))) ∧ (w.heap.size ≤ s_) ∧ (w.heap.size ≤ s_) ∧ (gb163 ≠ s_) ∧ (s_ ≠ gb163) ∧ (gb164 ≠ s_) ∧ (s_ ≠ gb164) ∧ (Below w.heap.size w w')) ?_ ?_
                rotate_left
                ·intro hJ7
                 refine three_ (i := 2) (j := 6) (k := 7) (Ni := some 16) (Nj := some 5) (Nk := some 6) #[true, true, true, true, true, false, false, false, false, false] #[true, true, false, true, true, false, true, false, false, false] #[true, true, false, true, true, false, false, true, false, false] rfl rfl rfl rfl rfl rfl (three_of HT_.out (by kernel_rfl)) (by decide) (by decide) (by decide) (fun K hK => ?_) (fun K hK => ?_) (fun K hK => ?_)
                 ·skip
                  refine goes_ Try.func15 (by kernel_rfl) rfl #[.agg #[.int .u64 a0_0, .int .u64 a0_1, .int .u64 a0_2, .int .u64 a0_3], .agg #[.int .u64 a1_0, .int .u64 a1_1, .int .u64 a1_2, .int .u64 a1_3]] (by rfl) rfl rfl (by (try simp only [List.map_toArray, List.map_cons, List.map_nil]); first | done | rfl | (simp only [List.length_drop, List.length_take]; rfl)) ?_
                  with_reducible refine (byteset_Or.calls a0_0 a0_1 a0_2 a0_3 a1_0 a1_1 a1_2 a1_3 t166 t167 t168 t169 _ A5.out).mono ?_
                  rintro e w26 ⟨rfl, hb⟩
                  refine ⟨_, rfl, ?_⟩
                  have n0_ := kb BK163 hb
                  have n1_ := kb BK164 hb
                  have n2_ := ks HB hb
                  clear BK163 BK164 HB
                  have BK163 := n0_
                  have BK164 := n1_
                  have HB := n2_
                  clear n0_ n1_ n2_
                  (try clear hb)
                  refine hK.out _ _ ⟨bc BK163 0 rfl, bc BK163 1 rfl, bc BK163 2 rfl, bc BK163 3 rfl, bc BK164 0 rfl, bc BK164 1 rfl, bc BK164 2 rfl, bc BK164 3 rfl⟩ (fun hHeld => ?_)
                  clear hK K
                  refine norm_ (a' := ?_) ?_ ?_
                  rotate_left
                  ·show Act.put _ (some 16) _ = _
                   simp only [Act.put, s1, s2, s3, i64_w, i32_w]
                   rfl
                  exact norm_ (by first | (simp only [putAll, Act.put, s1, s2, s3]; done) | (simp only [putAll, Act.put, s1, s2, s3]; rfl)) (hJ2 () _ ⟨hHeld, BK163.out, BK164.out, HB.out⟩)
                 ·skip
                  refine box_step ?hg (N := 5) ?hd (cs := #[.int .u64 0, .int .u64 0, .int .u64 0, .int .u64 0]) (t := 24) ?hr ?_; (case hd => rfl); (case hg => rfl); (case hr => first | (go_simp; done) | (go_simp; rfl))
                  intro gb174 hg w26 hbox hb
                  have n0_ := kb BK163 hb
                  have n1_ := kb BK164 hb
                  have n2_ := ks HB hb
                  have n3_ := Aside0.mk (hbox)
                  have n4_ := kl hg HB
                  have n5_ := kl hg HB
                  have n6_ := kn hg BK163
                  have n7_ := km hg BK163
                  have n8_ := kn hg BK164
                  have n9_ := km hg BK164
                  clear BK163 BK164 HB
                  have BK163 := n0_
                  have BK164 := n1_
                  have HB := n2_
                  have BK174 := n3_
                  have GW174 := n4_
                  have GE174 := n5_
                  have NB163_174 := n6_
                  have NB174_163 := n7_
                  have NB164_174 := n8_
                  have NB174_164 := n9_
                  clear n0_ n1_ n2_ n3_ n4_ n5_ n6_ n7_ n8_ n9_ hb hbox hg
                  refine hK.out _ _ ⟨bc BK163 0 rfl, bc BK163 1 rfl, bc BK163 2 rfl, bc BK163 3 rfl, bc BK164 0 rfl, bc BK164 1 rfl, bc BK164 2 rfl, bc BK164 3 rfl⟩ (fun hHeld => ?_)
                  clear hK K
                  refine norm_ (a' := ?_) ?_ ?_
                  rotate_left
                  ·show Act.put _ (some 5) _ = _
                   simp only [Act.put, s1, s2, s3, i64_w, i32_w]
                   rfl
                  exact norm_ (by first | (simp only [putAll, Act.put, s1, s2, s3]; done) | (simp only [putAll, Act.put, s1, s2, s3]; rfl)) (hJ6 (gb174) _ ⟨hHeld, BK163.out, BK164.out, BK174.out, GW174.out, GE174.out, NB163_174.out, NB174_163.out, NB164_174.out, NB174_164.out, HB.out⟩)
                 ·skip
                  refine box_step ?hg (N := 6) ?hd (cs := #[.int .u64 0, .int .u64 0, .int .u64 0, .int .u64 0]) (t := 24) ?hr ?_; (case hd => rfl); (case hg => rfl); (case hr => first | (go_simp; done) | (go_simp; rfl))
                  intro gb175 hg w26 hbox hb
                  have n0_ := kb BK163 hb
                  have n1_ := kb BK164 hb
                  have n2_ := ks HB hb
                  have n3_ := Aside0.mk (hbox)
                  have n4_ := kl hg HB
                  have n5_ := kl hg HB
                  have n6_ := kn hg BK163
                  have n7_ := km hg BK163
                  have n8_ := kn hg BK164
                  have n9_ := km hg BK164
                  clear BK163 BK164 HB
                  have BK163 := n0_
                  have BK164 := n1_
                  have HB := n2_
                  have BK175 := n3_
                  have GW175 := n4_
                  have GE175 := n5_
                  have NB163_175 := n6_
                  have NB175_163 := n7_
                  have NB164_175 := n8_
                  have NB175_164 := n9_
                  clear n0_ n1_ n2_ n3_ n4_ n5_ n6_ n7_ n8_ n9_ hb hbox hg
                  refine hK.out _ _ ⟨bc BK163 0 rfl, bc BK163 1 rfl, bc BK163 2 rfl, bc BK163 3 rfl, bc BK164 0 rfl, bc BK164 1 rfl, bc BK164 2 rfl, bc BK164 3 rfl⟩ (fun hHeld => ?_)
                  clear hK K
                  refine norm_ (a' := ?_) ?_ ?_
                  rotate_left
                  ·show Act.put _ (some 6) _ = _
                   simp only [Act.put, s1, s2, s3, i64_w, i32_w]
                   rfl
                  exact norm_ (by first | (simp only [putAll, Act.put, s1, s2, s3]; done) | (simp only [putAll, Act.put, s1, s2, s3]; rfl)) (hJ7 (gb175) _ ⟨hHeld, BK163.out, BK164.out, BK175.out, GW175.out, GE175.out, NB163_175.out, NB175_163.out, NB164_175.out, NB175_164.out, HB.out⟩)
                ·skip
                 rintro gb175 w27 ⟨hS_, h0_, h1_, h2_, h3_, h4_, h5_, h6_, h7_, h8_, h9_⟩
                 have n0_ : Aside0 (w27.heap[gb163]? = some (.cells #[.int .u64 a0_0, .int .u64 a0_1, .int .u64 a0_2, .int .u64 a0_3] 24 (0, 0))) := ⟨h0_⟩
                 have n1_ : Aside0 (w27.heap[gb164]? = some (.cells #[.int .u64 a1_0, .int .u64 a1_1, .int .u64 a1_2, .int .u64 a1_3] 24 (0, 0))) := ⟨h1_⟩
                 have n2_ : Aside0 (w27.heap[gb175]? = some (.cells #[.int .u64 0, .int .u64 0, .int .u64 0, .int .u64 0] 24 (0, 0))) := ⟨h2_⟩
                 have n3_ : Aside0 (w.heap.size ≤ gb175) := ⟨h3_⟩
                 have n4_ : Aside0 (w.heap.size ≤ gb175) := ⟨h4_⟩
                 have n5_ : Aside0 (gb163 ≠ gb175) := ⟨h5_⟩
                 have n6_ : Aside0 (gb175 ≠ gb163) := ⟨h6_⟩
                 have n7_ : Aside0 (gb164 ≠ gb175) := ⟨h7_⟩
                 have n8_ : Aside0 (gb175 ≠ gb164) := ⟨h8_⟩
                 have n9_ : Aside0 (Below w.heap.size w w27) := ⟨h9_⟩
                 clear BK163 BK164 HB h0_ h1_ h2_ h3_ h4_ h5_ h6_ h7_ h8_ h9_
                 have BK163 := n0_
                 have BK164 := n1_
                 have BK175 := n2_
                 have GW175 := n3_
                 have GE175 := n4_
                 have NB163_175 := n5_
                 have NB175_163 := n6_
                 have NB164_175 := n7_
                 have NB175_164 := n8_
                 have HB := n9_
                 clear n0_ n1_ n2_ n3_ n4_ n5_ n6_ n7_ n8_ n9_
                 have hHeld : w27.cell? ⟨gb163, 0, none⟩ = some (.int .u64 a0_0) ∧ w27.cell? ⟨gb163, 1, none⟩ = some (.int .u64 a0_1) ∧ w27.cell? ⟨gb163, 2, none⟩ = some (.int .u64 a0_2) ∧ w27.cell? ⟨gb163, 3, none⟩ = some (.int .u64 a0_3) ∧ w27.cell? ⟨gb164, 0, none⟩ = some (.int .u64 a1_0) ∧ w27.cell? ⟨gb164, 1, none⟩ = some (.int .u64 a1_1) ∧ w27.cell? ⟨gb164, 2, none⟩ = some (.int .u64 a1_2) ∧ w27.cell? ⟨gb164, 3, none⟩ = some (.int .u64 a1_3) := hS_
                 refine norm_ (a' := ?_) ?_ ?_
                 rotate_left
                 ·simp only [putAll, Act.put, s1, s2, s3]
                  rfl
                 refine two_ (i := 2) (j := 6) (Ni := some 16) (Nj := some 5) #[true, true, true, true, true, false, false, true, false, false] #[true, true, false, true, true, false, true, true, false, false] rfl rfl rfl rfl (two_of HT_.out (by kernel_rfl)) (by decide) (by decide) (fun K hK => ?_) (fun K hK => ?_)
                 ·skip
                  refine goes_ Try.func15 (by kernel_rfl) rfl #[.agg #[.int .u64 a0_0, .int .u64 a0_1, .int .u64 a0_2, .int .u64 a0_3], .agg #[.int .u64 a1_0, .int .u64 a1_1, .int .u64 a1_2, .int .u64 a1_3]] (by rfl) rfl rfl (by (try simp only [List.map_toArray, List.map_cons, List.map_nil]); first | done | rfl | (simp only [List.length_drop, List.length_take]; rfl)) ?_
                  with_reducible refine (byteset_Or.calls a0_0 a0_1 a0_2 a0_3 a1_0 a1_1 a1_2 a1_3 t166 t167 t168 t169 _ A5.out).mono ?_
                  rintro e w28 ⟨rfl, hb⟩
                  refine ⟨_, rfl, ?_⟩
                  have n0_ := kb BK163 hb
                  have n1_ := kb BK164 hb
                  have n2_ := kb BK175 hb
                  have n3_ := ks HB hb
                  clear BK163 BK164 BK175 HB
                  have BK163 := n0_
                  have BK164 := n1_
                  have BK175 := n2_
                  have HB := n3_
                  clear n0_ n1_ n2_ n3_
                  (try clear hb)
                  refine hK.out _ _ ⟨bc BK163 0 rfl, bc BK163 1 rfl, bc BK163 2 rfl, bc BK163 3 rfl, bc BK164 0 rfl, bc BK164 1 rfl, bc BK164 2 rfl, bc BK164 3 rfl⟩ (fun hHeld => ?_)
                  clear hK K
                  refine norm_ (a' := ?_) ?_ ?_
                  rotate_left
                  ·show Act.put _ (some 16) _ = _
                   simp only [Act.put, s1, s2, s3, i64_w, i32_w]
                   rfl
                  exact norm_ (by first | (simp only [putAll, Act.put, s1, s2, s3]; done) | (simp only [putAll, Act.put, s1, s2, s3]; rfl)) (hJ2_7 (gb175) _ ⟨hHeld, BK163.out, BK164.out, BK175.out, GW175.out, GE175.out, NB163_175.out, NB175_163.out, NB164_175.out, NB175_164.out, HB.out⟩)
                 ·skip
                  refine box_step ?hg (N := 5) ?hd (cs := #[.int .u64 0, .int .u64 0, .int .u64 0, .int .u64 0]) (t := 24) ?hr ?_; (case hd => rfl); (case hg => rfl); (case hr => first | (go_simp; done) | (go_simp; rfl))
                  intro gb174 hg w28 hbox hb
                  have n0_ := kb BK163 hb
                  have n1_ := kb BK164 hb
                  have n2_ := kb BK175 hb
                  have n3_ := ks HB hb
                  have n4_ := Aside0.mk (hbox)
                  have n5_ := kl hg HB
                  have n6_ := kl hg HB
                  have n7_ := kn hg BK163
                  have n8_ := km hg BK163
                  have n9_ := kn hg BK164
                  have n10_ := km hg BK164
                  have n11_ := kn hg BK175
                  have n12_ := km hg BK175
                  clear BK163 BK164 BK175 HB
                  have BK163 := n0_
                  have BK164 := n1_
                  have BK175 := n2_
                  have HB := n3_
                  have BK174 := n4_
                  have GW174 := n5_
                  have GE174 := n6_
                  have NB163_174 := n7_
                  have NB174_163 := n8_
                  have NB164_174 := n9_
                  have NB174_164 := n10_
                  have NB175_174 := n11_
                  have NB174_175 := n12_
                  clear n0_ n1_ n2_ n3_ n4_ n5_ n6_ n7_ n8_ n9_ n10_ n11_ n12_ hb hbox hg
                  refine hK.out _ _ ⟨bc BK163 0 rfl, bc BK163 1 rfl, bc BK163 2 rfl, bc BK163 3 rfl, bc BK164 0 rfl, bc BK164 1 rfl, bc BK164 2 rfl, bc BK164 3 rfl⟩ (fun hHeld => ?_)
                  clear hK K
                  refine norm_ (a' := ?_) ?_ ?_
                  rotate_left
                  ·show Act.put _ (some 5) _ = _
                   simp only [Act.put, s1, s2, s3, i64_w, i32_w]
                   rfl
                  exact norm_ (by first | (simp only [putAll, Act.put, s1, s2, s3]; done) | (simp only [putAll, Act.put, s1, s2, s3]; rfl)) (hJ6_7 (gb174, gb175) _ ⟨hHeld, BK163.out, BK164.out, BK174.out, BK175.out, GW174.out, GE174.out, NB163_174.out, NB174_163.out, NB164_174.out, NB174_164.out, NB175_174.out, NB174_175.out, GW175.out, GE175.out, NB163_175.out, NB175_163.out, NB164_175.out, NB175_164.out, HB.out⟩)
               ·skip
                rintro gb174 w27 ⟨hS_, h0_, h1_, h2_, h3_, h4_, h5_, h6_, h7_, h8_, h9_⟩
                have n0_ : Aside0 (w27.heap[gb163]? = some (.cells #[.int .u64 a0_0, .int .u64 a0_1, .int .u64 a0_2, .int .u64 a0_3] 24 (0, 0))) := ⟨h0_⟩
                have n1_ : Aside0 (w27.heap[gb164]? = some (.cells #[.int .u64 a1_0, .int .u64 a1_1, .int .u64 a1_2, .int .u64 a1_3] 24 (0, 0))) := ⟨h1_⟩
                have n2_ : Aside0 (w27.heap[gb174]? = some (.cells #[.int .u64 0, .int .u64 0, .int .u64 0, .int .u64 0] 24 (0, 0))) := ⟨h2_⟩
                have n3_ : Aside0 (w.heap.size ≤ gb174) := ⟨h3_⟩
                have n4_ : Aside0 (w.heap.size ≤ gb174) := ⟨h4_⟩
                have n5_ : Aside0 (gb163 ≠ gb174) := ⟨h5_⟩
                have n6_ : Aside0 (gb174 ≠ gb163) := ⟨h6_⟩
                have n7_ : Aside0 (gb164 ≠ gb174) := ⟨h7_⟩
                have n8_ : Aside0 (gb174 ≠ gb164) := ⟨h8_⟩
                have n9_ : Aside0 (Below w.heap.size w w27) := ⟨h9_⟩
                clear BK163 BK164 HB h0_ h1_ h2_ h3_ h4_ h5_ h6_ h7_ h8_ h9_
                have BK163 := n0_
                have BK164 := n1_
                have BK174 := n2_
                have GW174 := n3_
                have GE174 := n4_
                have NB163_174 := n5_
                have NB174_163 := n6_
                have NB164_174 := n7_
                have NB174_164 := n8_
                have HB := n9_
                clear n0_ n1_ n2_ n3_ n4_ n5_ n6_ n7_ n8_ n9_
                have hHeld : w27.cell? ⟨gb163, 0, none⟩ = some (.int .u64 a0_0) ∧ w27.cell? ⟨gb163, 1, none⟩ = some (.int .u64 a0_1) ∧ w27.cell? ⟨gb163, 2, none⟩ = some (.int .u64 a0_2) ∧ w27.cell? ⟨gb163, 3, none⟩ = some (.int .u64 a0_3) ∧ w27.cell? ⟨gb164, 0, none⟩ = some (.int .u64 a1_0) ∧ w27.cell? ⟨gb164, 1, none⟩ = some (.int .u64 a1_1) ∧ w27.cell? ⟨gb164, 2, none⟩ = some (.int .u64 a1_2) ∧ w27.cell? ⟨gb164, 3, none⟩ = some (.int .u64 a1_3) := hS_
                refine norm_ (a' := ?_) ?_ ?_
                rotate_left
                ·simp only [putAll, Act.put, s1, s2, s3]
                 rfl
                refine two_ (i := 2) (j := 7) (Ni := some 16) (Nj := some 6) #[true, true, true, true, true, false, true, false, false, false] #[true, true, false, true, true, false, true, true, false, false] rfl rfl rfl rfl (two_of HT_.out (by kernel_rfl)) (by decide) (by decide) (fun K hK => ?_) (fun K hK => ?_)
                ·skip
                 refine goes_ Try.func15 (by kernel_rfl) rfl #[.agg #[.int .u64 a0_0, .int .u64 a0_1, .int .u64 a0_2, .int .u64 a0_3], .agg #[.int .u64 a1_0, .int .u64 a1_1, .int .u64 a1_2, .int .u64 a1_3]] (by rfl) rfl rfl (by (try simp only [List.map_toArray, List.map_cons, List.map_nil]); first | done | rfl | (simp only [List.length_drop, List.length_take]; rfl)) ?_
                 with_reducible refine (byteset_Or.calls a0_0 a0_1 a0_2 a0_3 a1_0 a1_1 a1_2 a1_3 t166 t167 t168 t169 _ A5.out).mono ?_
                 rintro e w28 ⟨rfl, hb⟩
                 refine ⟨_, rfl, ?_⟩
                 have n0_ := kb BK163 hb
                 have n1_ := kb BK164 hb
                 have n2_ := kb BK174 hb
                 have n3_ := ks HB hb
                 clear BK163 BK164 BK174 HB
                 have BK163 := n0_
                 have BK164 := n1_
                 have BK174 := n2_
                 have HB := n3_
                 clear n0_ n1_ n2_ n3_
                 (try clear hb)
                 refine hK.out _ _ ⟨bc BK163 0 rfl, bc BK163 1 rfl, bc BK163 2 rfl, bc BK163 3 rfl, bc BK164 0 rfl, bc BK164 1 rfl, bc BK164 2 rfl, bc BK164 3 rfl⟩ (fun hHeld => ?_)
                 clear hK K
                 refine norm_ (a' := ?_) ?_ ?_
                 rotate_left
                 ·show Act.put _ (some 16) _ = _
                  simp only [Act.put, s1, s2, s3, i64_w, i32_w]
                  rfl
                 exact norm_ (by first | (simp only [putAll, Act.put, s1, s2, s3]; done) | (simp only [putAll, Act.put, s1, s2, s3]; rfl)) (hJ2_6 (gb174) _ ⟨hHeld, BK163.out, BK164.out, BK174.out, GW174.out, GE174.out, NB163_174.out, NB174_163.out, NB164_174.out, NB174_164.out, HB.out⟩)
                ·skip
                 refine box_step ?hg (N := 6) ?hd (cs := #[.int .u64 0, .int .u64 0, .int .u64 0, .int .u64 0]) (t := 24) ?hr ?_; (case hd => rfl); (case hg => rfl); (case hr => first | (go_simp; done) | (go_simp; rfl))
                 intro gb175 hg w28 hbox hb
                 have n0_ := kb BK163 hb
                 have n1_ := kb BK164 hb
                 have n2_ := kb BK174 hb
                 have n3_ := ks HB hb
                 have n4_ := Aside0.mk (hbox)
                 have n5_ := kl hg HB
                 have n6_ := kl hg HB
                 have n7_ := kn hg BK163
                 have n8_ := km hg BK163
                 have n9_ := kn hg BK164
                 have n10_ := km hg BK164
                 have n11_ := kn hg BK174
                 have n12_ := km hg BK174
                 clear BK163 BK164 BK174 HB
                 have BK163 := n0_
                 have BK164 := n1_
                 have BK174 := n2_
                 have HB := n3_
                 have BK175 := n4_
                 have GW175 := n5_
                 have GE175 := n6_
                 have NB163_175 := n7_
                 have NB175_163 := n8_
                 have NB164_175 := n9_
                 have NB175_164 := n10_
                 have NB174_175 := n11_
                 have NB175_174 := n12_
                 clear n0_ n1_ n2_ n3_ n4_ n5_ n6_ n7_ n8_ n9_ n10_ n11_ n12_ hb hbox hg
                 refine hK.out _ _ ⟨bc BK163 0 rfl, bc BK163 1 rfl, bc BK163 2 rfl, bc BK163 3 rfl, bc BK164 0 rfl, bc BK164 1 rfl, bc BK164 2 rfl, bc BK164 3 rfl⟩ (fun hHeld => ?_)
                 clear hK K
                 refine norm_ (a' := ?_) ?_ ?_
                 rotate_left
                 ·show Act.put _ (some 6) _ = _
                  simp only [Act.put, s1, s2, s3, i64_w, i32_w]
                  rfl
                 exact norm_ (by first | (simp only [putAll, Act.put, s1, s2, s3]; done) | (simp only [putAll, Act.put, s1, s2, s3]; rfl)) (hJ6_7 (gb174, gb175) _ ⟨hHeld, BK163.out, BK164.out, BK174.out, BK175.out, GW174.out, GE174.out, NB163_174.out, NB174_163.out, NB164_174.out, NB174_164.out, NB175_174.out, NB174_175.out, GW175.out, GE175.out, NB163_175.out, NB175_163.out, NB164_175.out, NB175_164.out, HB.out⟩)
              ·skip
               rintro _ w27 ⟨hS_, h0_, h1_, h2_⟩
               have n0_ : Aside0 (w27.heap[gb163]? = some (.cells #[.int .u64 a0_0, .int .u64 a0_1, .int .u64 a0_2, .int .u64 a0_3] 24 (0, 0))) := ⟨h0_⟩
               have n1_ : Aside0 (w27.heap[gb164]? = some (.cells #[.int .u64 a1_0, .int .u64 a1_1, .int .u64 a1_2, .int .u64 a1_3] 24 (0, 0))) := ⟨h1_⟩
               have n2_ : Aside0 (Below w.heap.size w w27) := ⟨h2_⟩
               clear BK163 BK164 HB h0_ h1_ h2_
               have BK163 := n0_
               have BK164 := n1_
               have HB := n2_
               clear n0_ n1_ n2_
               have hHeld : w27.cell? ⟨gb163, 0, none⟩ = some (.int .u64 a0_0) ∧ w27.cell? ⟨gb163, 1, none⟩ = some (.int .u64 a0_1) ∧ w27.cell? ⟨gb163, 2, none⟩ = some (.int .u64 a0_2) ∧ w27.cell? ⟨gb163, 3, none⟩ = some (.int .u64 a0_3) ∧ w27.cell? ⟨gb164, 0, none⟩ = some (.int .u64 a1_0) ∧ w27.cell? ⟨gb164, 1, none⟩ = some (.int .u64 a1_1) ∧ w27.cell? ⟨gb164, 2, none⟩ = some (.int .u64 a1_2) ∧ w27.cell? ⟨gb164, 3, none⟩ = some (.int .u64 a1_3) := hS_
               refine norm_ (a' := ?_) ?_ ?_
               rotate_left
               ·simp only [putAll, Act.put, s1, s2, s3]
                rfl
               refine three_ (i := 5) (j := 6) (k := 7) (Ni := some 19) (Nj := some 5) (Nk := some 6) #[true, true, true, true, true, true, false, false, false, false] #[true, true, true, true, true, false, true, false, false, false] #[true, true, true, true, true, false, false, true, false, false] rfl rfl rfl rfl rfl rfl (three_of HT_.out (by kernel_rfl)) (by decide) (by decide) (by decide) (fun K hK => ?_) (fun K hK => ?_) (fun K hK => ?_)
               ·skip
                refine goes_ Try.func17 (by kernel_rfl) rfl #[.agg #[.int .u64 a0_0, .int .u64 a0_1, .int .u64 a0_2, .int .u64 a0_3], .agg #[.int .u64 a1_0, .int .u64 a1_1, .int .u64 a1_2, .int .u64 a1_3]] (by rfl) rfl rfl (by (try simp only [List.map_toArray, List.map_cons, List.map_nil]); first | done | rfl | (simp only [List.length_drop, List.length_take]; rfl)) ?_
                with_reducible refine (byteset_And.calls a0_0 a0_1 a0_2 a0_3 a1_0 a1_1 a1_2 a1_3 t170 t171 t172 t173 _ A6.out).mono ?_
                rintro e w28 ⟨rfl, hb⟩
                refine ⟨_, rfl, ?_⟩
                have n0_ := kb BK163 hb
                have n1_ := kb BK164 hb
                have n2_ := ks HB hb
                clear BK163 BK164 HB
                have BK163 := n0_
                have BK164 := n1_
                have HB := n2_
                clear n0_ n1_ n2_
                (try clear hb)
                refine hK.out _ _ ⟨bc BK163 0 rfl, bc BK163 1 rfl, bc BK163 2 rfl, bc BK163 3 rfl, bc BK164 0 rfl, bc BK164 1 rfl, bc BK164 2 rfl, bc BK164 3 rfl⟩ (fun hHeld => ?_)
                clear hK K
                refine norm_ (a' := ?_) ?_ ?_
                rotate_left
                ·show Act.put _ (some 19) _ = _
                 simp only [Act.put, s1, s2, s3, i64_w, i32_w]
                 rfl
                exact norm_ (by first | (simp only [putAll, Act.put, s1, s2, s3]; done) | (simp only [putAll, Act.put, s1, s2, s3]; rfl)) (hJ2_5 () _ ⟨hHeld, BK163.out, BK164.out, HB.out⟩)
               ·skip
                refine box_step ?hg (N := 5) ?hd (cs := #[.int .u64 0, .int .u64 0, .int .u64 0, .int .u64 0]) (t := 24) ?hr ?_; (case hd => rfl); (case hg => rfl); (case hr => first | (go_simp; done) | (go_simp; rfl))
                intro gb174 hg w28 hbox hb
                have n0_ := kb BK163 hb
                have n1_ := kb BK164 hb
                have n2_ := ks HB hb
                have n3_ := Aside0.mk (hbox)
                have n4_ := kl hg HB
                have n5_ := kl hg HB
                have n6_ := kn hg BK163
                have n7_ := km hg BK163
                have n8_ := kn hg BK164
                have n9_ := km hg BK164
                clear BK163 BK164 HB
                have BK163 := n0_
                have BK164 := n1_
                have HB := n2_
                have BK174 := n3_
                have GW174 := n4_
                have GE174 := n5_
                have NB163_174 := n6_
                have NB174_163 := n7_
                have NB164_174 := n8_
                have NB174_164 := n9_
                clear n0_ n1_ n2_ n3_ n4_ n5_ n6_ n7_ n8_ n9_ hb hbox hg
                refine hK.out _ _ ⟨bc BK163 0 rfl, bc BK163 1 rfl, bc BK163 2 rfl, bc BK163 3 rfl, bc BK164 0 rfl, bc BK164 1 rfl, bc BK164 2 rfl, bc BK164 3 rfl⟩ (fun hHeld => ?_)
                clear hK K
                refine norm_ (a' := ?_) ?_ ?_
                rotate_left
                ·show Act.put _ (some 5) _ = _
                 simp only [Act.put, s1, s2, s3, i64_w, i32_w]
                 rfl
                exact norm_ (by first | (simp only [putAll, Act.put, s1, s2, s3]; done) | (simp only [putAll, Act.put, s1, s2, s3]; rfl)) (hJ2_6 (gb174) _ ⟨hHeld, BK163.out, BK164.out, BK174.out, GW174.out, GE174.out, NB163_174.out, NB174_163.out, NB164_174.out, NB174_164.out, HB.out⟩)
               ·skip
                refine box_step ?hg (N := 6) ?hd (cs := #[.int .u64 0, .int .u64 0, .int .u64 0, .int .u64 0]) (t := 24) ?hr ?_; (case hd => rfl); (case hg => rfl); (case hr => first | (go_simp; done) | (go_simp; rfl))
                intro gb175 hg w28 hbox hb
                have n0_ := kb BK163 hb
                have n1_ := kb BK164 hb
                have n2_ := ks HB hb
                have n3_ := Aside0.mk (hbox)
                have n4_ := kl hg HB
                have n5_ := kl hg HB
                have n6_ := kn hg BK163
                have n7_ := km hg BK163
                have n8_ := kn hg BK164
                have n9_ := km hg BK164
                clear BK163 BK164 HB
                have BK163 := n0_
                have BK164 := n1_
                have HB := n2_
                have BK175 := n3_
                have GW175 := n4_
                have GE175 := n5_
                have NB163_175 := n6_
                have NB175_163 := n7_
                have NB164_175 := n8_
                have NB175_164 := n9_
                clear n0_ n1_ n2_ n3_ n4_ n5_ n6_ n7_ n8_ n9_ hb hbox hg
                refine hK.out _ _ ⟨bc BK163 0 rfl, bc BK163 1 rfl, bc BK163 2 rfl, bc BK163 3 rfl, bc BK164 0 rfl, bc BK164 1 rfl, bc BK164 2 rfl, bc BK164 3 rfl⟩ (fun hHeld => ?_)
                clear hK K
                refine norm_ (a' := ?_) ?_ ?_
                rotate_left
                ·show Act.put _ (some 6) _ = _
                 simp only [Act.put, s1, s2, s3, i64_w, i32_w]
                 rfl
                exact norm_ (by first | (simp only [putAll, Act.put, s1, s2, s3]; done) | (simp only [putAll, Act.put, s1, s2, s3]; rfl)) (hJ2_7 (gb175) _ ⟨hHeld, BK163.out, BK164.out, BK175.out, GW175.out, GE175.out, NB163_175.out, NB175_163.out, NB164_175.out, NB175_164.out, HB.out⟩)
             ·skip
              rintro ⟨gb174, gb175⟩ w28 ⟨hS_, h0_, h1_, h2_, h3_, h4_, h5_, h6_, h7_, h8_, h9_, h10_, h11_, h12_, h13_, h14_, h15_, h16_, h17_, h18_⟩
              have n0_ : Aside0 (w28.heap[gb163]? = some (.cells #[.int .u64 a0_0, .int .u64 a0_1, .int .u64 a0_2, .int .u64 a0_3] 24 (0, 0))) := ⟨h0_⟩
              have n1_ : Aside0 (w28.heap[gb164]? = some (.cells #[.int .u64 a1_0, .int .u64 a1_1, .int .u64 a1_2, .int .u64 a1_3] 24 (0, 0))) := ⟨h1_⟩
              have n2_ : Aside0 (w28.heap[gb174]? = some (.cells #[.int .u64 0, .int .u64 0, .int .u64 0, .int .u64 0] 24 (0, 0))) := ⟨h2_⟩
              have n3_ : Aside0 (w28.heap[gb175]? = some (.cells #[.int .u64 0, .int .u64 0, .int .u64 0, .int .u64 0] 24 (0, 0))) := ⟨h3_⟩
              have n4_ : Aside0 (w.heap.size ≤ gb174) := ⟨h4_⟩
              have n5_ : Aside0 (w.heap.size ≤ gb174) := ⟨h5_⟩
              have n6_ : Aside0 (gb163 ≠ gb174) := ⟨h6_⟩
              have n7_ : Aside0 (gb174 ≠ gb163) := ⟨h7_⟩
              have n8_ : Aside0 (gb164 ≠ gb174) := ⟨h8_⟩
              have n9_ : Aside0 (gb174 ≠ gb164) := ⟨h9_⟩
              have n10_ : Aside0 (gb175 ≠ gb174) := ⟨h10_⟩
              have n11_ : Aside0 (gb174 ≠ gb175) := ⟨h11_⟩
              have n12_ : Aside0 (w.heap.size ≤ gb175) := ⟨h12_⟩
              have n13_ : Aside0 (w.heap.size ≤ gb175) := ⟨h13_⟩
              have n14_ : Aside0 (gb163 ≠ gb175) := ⟨h14_⟩
              have n15_ : Aside0 (gb175 ≠ gb163) := ⟨h15_⟩
              have n16_ : Aside0 (gb164 ≠ gb175) := ⟨h16_⟩
              have n17_ : Aside0 (gb175 ≠ gb164) := ⟨h17_⟩
              have n18_ : Aside0 (Below w.heap.size w w28) := ⟨h18_⟩
              clear BK163 BK164 HB h0_ h1_ h2_ h3_ h4_ h5_ h6_ h7_ h8_ h9_ h10_ h11_ h12_ h13_ h14_ h15_ h16_ h17_ h18_
              have BK163 := n0_
              have BK164 := n1_
              have BK174 := n2_
              have BK175 := n3_
              have GW174 := n4_
              have GE174 := n5_
              have NB163_174 := n6_
              have NB174_163 := n7_
              have NB164_174 := n8_
              have NB174_164 := n9_
              have NB175_174 := n10_
              have NB174_175 := n11_
              have GW175 := n12_
              have GE175 := n13_
              have NB163_175 := n14_
              have NB175_163 := n15_
              have NB164_175 := n16_
              have NB175_164 := n17_
              have HB := n18_
              clear n0_ n1_ n2_ n3_ n4_ n5_ n6_ n7_ n8_ n9_ n10_ n11_ n12_ n13_ n14_ n15_ n16_ n17_ n18_
              have hHeld : w28.cell? ⟨gb163, 0, none⟩ = some (.int .u64 a0_0) ∧ w28.cell? ⟨gb163, 1, none⟩ = some (.int .u64 a0_1) ∧ w28.cell? ⟨gb163, 2, none⟩ = some (.int .u64 a0_2) ∧ w28.cell? ⟨gb163, 3, none⟩ = some (.int .u64 a0_3) ∧ w28.cell? ⟨gb164, 0, none⟩ = some (.int .u64 a1_0) ∧ w28.cell? ⟨gb164, 1, none⟩ = some (.int .u64 a1_1) ∧ w28.cell? ⟨gb164, 2, none⟩ = some (.int .u64 a1_2) ∧ w28.cell? ⟨gb164, 3, none⟩ = some (.int .u64 a1_3) := hS_
              refine norm_ (a' := ?_) ?_ ?_
              rotate_left
              ·simp only [putAll, Act.put, s1, s2, s3]
               rfl
              refine one_ (i := 2) (N := some 16) #[true, true, true, true, true, false, true, true, false, false] rfl rfl (one_of HT_.out (by kernel_rfl)) (by decide) (fun K hK => ?_)
              refine goes_ Try.func15 (by kernel_rfl) rfl #[.agg #[.int .u64 a0_0, .int .u64 a0_1, .int .u64 a0_2, .int .u64 a0_3], .agg #[.int .u64 a1_0, .int .u64 a1_1, .int .u64 a1_2, .int .u64 a1_3]] (by rfl) rfl rfl (by (try simp only [List.map_toArray, List.map_cons, List.map_nil]); first | done | rfl | (simp only [List.length_drop, List.length_take]; rfl)) ?_
              with_reducible refine (byteset_Or.calls a0_0 a0_1 a0_2 a0_3 a1_0 a1_1 a1_2 a1_3 t166 t167 t168 t169 _ A5.out).mono ?_
              rintro e w29 ⟨rfl, hb⟩
              refine ⟨_, rfl, ?_⟩
              have n0_ := kb BK163 hb
              have n1_ := kb BK164 hb
              have n2_ := kb BK174 hb
              have n3_ := kb BK175 hb
              have n4_ := ks HB hb
              clear BK163 BK164 BK174 BK175 HB
              have BK163 := n0_
              have BK164 := n1_
              have BK174 := n2_
              have BK175 := n3_
              have HB := n4_
              clear n0_ n1_ n2_ n3_ n4_
              (try clear hb)
              refine hK.out _ _ ⟨bc BK163 0 rfl, bc BK163 1 rfl, bc BK163 2 rfl, bc BK163 3 rfl, bc BK164 0 rfl, bc BK164 1 rfl, bc BK164 2 rfl, bc BK164 3 rfl⟩ (fun hHeld => ?_)
              clear hK K
              refine norm_ (a' := ?_) ?_ ?_
              rotate_left
              ·show Act.put _ (some 16) _ = _
               simp only [Act.put, s1, s2, s3, i64_w, i32_w]
               rfl
              exact norm_ (by first | (simp only [putAll, Act.put, s1, s2, s3]; done) | (simp only [putAll, Act.put, s1, s2, s3]; rfl)) (hJ2_6_7 (gb174, gb175) _ ⟨hHeld, BK163.out, BK164.out, BK174.out, BK175.out, GW174.out, GE174.out, NB163_174.out, NB174_163.out, NB164_174.out, NB174_164.out, NB175_174.out, NB174_175.out, GW175.out, GE175.out, NB163_175.out, NB175_163.out, NB164_175.out, NB175_164.out, HB.out⟩)
            ·skip
             rintro gb175 w28 ⟨hS_, h0_, h1_, h2_, h3_, h4_, h5_, h6_, h7_, h8_, h9_⟩
             have n0_ : Aside0 (w28.heap[gb163]? = some (.cells #[.int .u64 a0_0, .int .u64 a0_1, .int .u64 a0_2, .int .u64 a0_3] 24 (0, 0))) := ⟨h0_⟩
             have n1_ : Aside0 (w28.heap[gb164]? = some (.cells #[.int .u64 a1_0, .int .u64 a1_1, .int .u64 a1_2, .int .u64 a1_3] 24 (0, 0))) := ⟨h1_⟩
             have n2_ : Aside0 (w28.heap[gb175]? = some (.cells #[.int .u64 0, .int .u64 0, .int .u64 0, .int .u64 0] 24 (0, 0))) := ⟨h2_⟩
             have n3_ : Aside0 (w.heap.size ≤ gb175) := ⟨h3_⟩
             have n4_ : Aside0 (w.heap.size ≤ gb175) := ⟨h4_⟩
             have n5_ : Aside0 (gb163 ≠ gb175) := ⟨h5_⟩
             have n6_ : Aside0 (gb175 ≠ gb163) := ⟨h6_⟩
             have n7_ : Aside0 (gb164 ≠ gb175) := ⟨h7_⟩
             have n8_ : Aside0 (gb175 ≠ gb164) := ⟨h8_⟩
             have n9_ : Aside0 (Below w.heap.size w w28) := ⟨h9_⟩
             clear BK163 BK164 HB h0_ h1_ h2_ h3_ h4_ h5_ h6_ h7_ h8_ h9_
             have BK163 := n0_
             have BK164 := n1_
             have BK175 := n2_
             have GW175 := n3_
             have GE175 := n4_
             have NB163_175 := n5_
             have NB175_163 := n6_
             have NB164_175 := n7_
             have NB175_164 := n8_
             have HB := n9_
             clear n0_ n1_ n2_ n3_ n4_ n5_ n6_ n7_ n8_ n9_
             have hHeld : w28.cell? ⟨gb163, 0, none⟩ = some (.int .u64 a0_0) ∧ w28.cell? ⟨gb163, 1, none⟩ = some (.int .u64 a0_1) ∧ w28.cell? ⟨gb163, 2, none⟩ = some (.int .u64 a0_2) ∧ w28.cell? ⟨gb163, 3, none⟩ = some (.int .u64 a0_3) ∧ w28.cell? ⟨gb164, 0, none⟩ = some (.int .u64 a1_0) ∧ w28.cell? ⟨gb164, 1, none⟩ = some (.int .u64 a1_1) ∧ w28.cell? ⟨gb164, 2, none⟩ = some (.int .u64 a1_2) ∧ w28.cell? ⟨gb164, 3, none⟩ = some (.int .u64 a1_3) := hS_
             refine norm_ (a' := ?_) ?_ ?_
             rotate_left
             ·simp only [putAll, Act.put, s1, s2, s3]
              rfl
             refine two_ (i := 5) (j := 6) (Ni := some 19) (Nj := some 5) #[true, true, true, true, true, true, false, true, false, false] #[true, true, true, true, true, false, true, true, false, false] rfl rfl rfl rfl (two_of HT_.out (by kernel_rfl)) (by decide) (by decide) (fun K hK => ?_) (fun K hK => ?_)
             ·skip
              refine goes_ Try.func17 (by kernel_rfl) rfl #[.agg #[.int .u64 a0_0, .int .u64 a0_1, .int .u64 a0_2, .int .u64 a0_3], .agg #[.int .u64 a1_0, .int .u64 a1_1, .int .u64 a1_2, .int .u64 a1_3]] (by rfl) rfl rfl (by (try simp only [List.map_toArray, List.map_cons, List.map_nil]); first | done | rfl | (simp only [List.length_drop, List.length_take]; rfl)) ?_
              with_reducible refine (byteset_And.calls a0_0 a0_1 a0_2 a0_3 a1_0 a1_1 a1_2 a1_3 t170 t171 t172 t173 _ A6.out).mono ?_
              rintro e w29 ⟨rfl, hb⟩
              refine ⟨_, rfl, ?_⟩
              have n0_ := kb BK163 hb
              have n1_ := kb BK164 hb
              have n2_ := kb BK175 hb
              have n3_ := ks HB hb
              clear BK163 BK164 BK175 HB
              have BK163 := n0_
              have BK164 := n1_
              have BK175 := n2_
              have HB := n3_
              clear n0_ n1_ n2_ n3_
              (try clear hb)
              refine hK.out _ _ ⟨bc BK163 0 rfl, bc BK163 1 rfl, bc BK163 2 rfl, bc BK163 3 rfl, bc BK164 0 rfl, bc BK164 1 rfl, bc BK164 2 rfl, bc BK164 3 rfl⟩ (fun hHeld => ?_)
              clear hK K
              refine norm_ (a' := ?_) ?_ ?_
              rotate_left
              ·show Act.put _ (some 19) _ = _
               simp only [Act.put, s1, s2, s3, i64_w, i32_w]
               rfl
              exact norm_ (by first | (simp only [putAll, Act.put, s1, s2, s3]; done) | (simp only [putAll, Act.put, s1, s2, s3]; rfl)) (hJ2_5_7 (gb175) _ ⟨hHeld, BK163.out, BK164.out, BK175.out, GW175.out, GE175.out, NB163_175.out, NB175_163.out, NB164_175.out, NB175_164.out, HB.out⟩)
             ·skip
              refine box_step ?hg (N := 5) ?hd (cs := #[.int .u64 0, .int .u64 0, .int .u64 0, .int .u64 0]) (t := 24) ?hr ?_; (case hd => rfl); (case hg => rfl); (case hr => first | (go_simp; done) | (go_simp; rfl))
              intro gb174 hg w29 hbox hb
              have n0_ := kb BK163 hb
              have n1_ := kb BK164 hb
              have n2_ := kb BK175 hb
              have n3_ := ks HB hb
              have n4_ := Aside0.mk (hbox)
              have n5_ := kl hg HB
              have n6_ := kl hg HB
              have n7_ := kn hg BK163
              have n8_ := km hg BK163
              have n9_ := kn hg BK164
              have n10_ := km hg BK164
              have n11_ := kn hg BK175
              have n12_ := km hg BK175
              clear BK163 BK164 BK175 HB
              have BK163 := n0_
              have BK164 := n1_
              have BK175 := n2_
              have HB := n3_
              have BK174 := n4_
              have GW174 := n5_
              have GE174 := n6_
              have NB163_174 := n7_
              have NB174_163 := n8_
              have NB164_174 := n9_
              have NB174_164 := n10_
              have NB175_174 := n11_
              have NB174_175 := n12_
              clear n0_ n1_ n2_ n3_ n4_ n5_ n6_ n7_ n8_ n9_ n10_ n11_ n12_ hb hbox hg
              refine hK.out _ _ ⟨bc BK163 0 rfl, bc BK163 1 rfl, bc BK163 2 rfl, bc BK163 3 rfl, bc BK164 0 rfl, bc BK164 1 rfl, bc BK164 2 rfl, bc BK164 3 rfl⟩ (fun hHeld => ?_)
              clear hK K
              refine norm_ (a' := ?_) ?_ ?_
              rotate_left
              ·show Act.put _ (some 5) _ = _
               simp only [Act.put, s1, s2, s3, i64_w, i32_w]
               rfl
              exact norm_ (by first | (simp only [putAll, Act.put, s1, s2, s3]; done) | (simp only [putAll, Act.put, s1, s2, s3]; rfl)) (hJ2_6_7 (gb174, gb175) _ ⟨hHeld, BK163.out, BK164.out, BK174.out, BK175.out, GW174.out, GE174.out, NB163_174.out, NB174_163.out, NB164_174.out, NB174_164.out, NB175_174.out, NB174_175.out, GW175.out, GE175.out, NB163_175.out, NB175_163.out, NB164_175.out, NB175_164.out, HB.out⟩)
           ·skip
            rintro gb174 w28 ⟨hS_, h0_, h1_, h2_, h3_, h4_, h5_, h6_, h7_, h8_, h9_⟩
            have n0_ : Aside0 (w28.heap[gb163]? = some (.cells #[.int .u64 a0_0, .int .u64 a0_1, .int .u64 a0_2, .int .u64 a0_3] 24 (0, 0))) := ⟨h0_⟩
            have n1_ : Aside0 (w28.heap[gb164]? = some (.cells #[.int .u64 a1_0, .int .u64 a1_1, .int .u64 a1_2, .int .u64 a1_3] 24 (0, 0))) := ⟨h1_⟩
            have n2_ : Aside0 (w28.heap[gb174]? = some (.cells #[.int .u64 0, .int .u64 0, .int .u64 0, .int .u64 0] 24 (0, 0))) := ⟨h2_⟩
            have n3_ : Aside0 (w.heap.size ≤ gb174) := ⟨h3_⟩
            have n4_ : Aside0 (w.heap.size ≤ gb174) := ⟨h4_⟩
            have n5_ : Aside0 (gb163 ≠ gb174) := ⟨h5_⟩
            have n6_ : Aside0 (gb174 ≠ gb163) := ⟨h6_⟩
            have n7_ : Aside0 (gb164 ≠ gb174) := ⟨h7_⟩
            have n8_ : Aside0 (gb174 ≠ gb164) := ⟨h8_⟩
            have n9_ : Aside0 (Below w.heap.size w w28) := ⟨h9_⟩
            clear BK163 BK164 HB h0_ h1_ h2_ h3_ h4_ h5_ h6_ h7_ h8_ h9_
            have BK163 := n0_
            have BK164 := n1_
            have BK174 := n2_
            have GW174 := n3_
            have GE174 := n4_
            have NB163_174 := n5_
            have NB174_163 := n6_
            have NB164_174 := n7_
            have NB174_164 := n8_
            have HB := n9_
            clear n0_ n1_ n2_ n3_ n4_ n5_ n6_ n7_ n8_ n9_
            have hHeld : w28.cell? ⟨gb163, 0, none⟩ = some (.int .u64 a0_0) ∧ w28.cell? ⟨gb163, 1, none⟩ = some (.int .u64 a0_1) ∧ w28.cell? ⟨gb163, 2, none⟩ = some (.int .u64 a0_2) ∧ w28.cell? ⟨gb163, 3, none⟩ = some (.int .u64 a0_3) ∧ w28.cell? ⟨gb164, 0, none⟩ = some (.int .u64 a1_0) ∧ w28.cell? ⟨gb164, 1, none⟩ = some (.int .u64 a1_1) ∧ w28.cell? ⟨gb164, 2, none⟩ = some (.int .u64 a1_2) ∧ w28.cell? ⟨gb164, 3, none⟩ = some (.int .u64 a1_3) := hS_
            refine norm_ (a' := ?_) ?_ ?_
            rotate_left
            ·simp only [putAll, Act.put, s1, s2, s3]
             rfl
            refine two_ (i := 5) (j := 7) (Ni := some 19) (Nj := some 6) #[true, true, true, true, true, true, true, false, false, false] #[true, true, true, true, true, false, true, true, false, false] rfl rfl rfl rfl (two_of HT_.out (by kernel_rfl)) (by decide) (by decide) (fun K hK => ?_) (fun K hK => ?_)
            ·skip
             refine goes_ Try.func17 (by kernel_rfl) rfl #[.agg #[.int .u64 a0_0, .int .u64 a0_1, .int .u64 a0_2, .int .u64 a0_3], .agg #[.int .u64 a1_0, .int .u64 a1_1, .int .u64 a1_2, .int .u64 a1_3]] (by rfl) rfl rfl (by (try simp only [List.map_toArray, List.map_cons, List.map_nil]); first | done | rfl | (simp only [List.length_drop, List.length_take]; rfl)) ?_
             with_reducible refine (byteset_And.calls a0_0 a0_1 a0_2 a0_3 a1_0 a1_1 a1_2 a1_3 t170 t171 t172 t173 _ A6.out).mono ?_
             rintro e w29 ⟨rfl, hb⟩
             refine ⟨_, rfl, ?_⟩
             have n0_ := kb BK163 hb
             have n1_ := kb BK164 hb
             have n2_ := kb BK174 hb
             have n3_ := ks HB hb
             clear BK163 BK164 BK174 HB
             have BK163 := n0_
             have BK164 := n1_
             have BK174 := n2_
             have HB := n3_
             clear n0_ n1_ n2_ n3_
             (try clear hb)
             refine hK.out _ _ ⟨bc BK163 0 rfl, bc BK163 1 rfl, bc BK163 2 rfl, bc BK163 3 rfl, bc BK164 0 rfl, bc BK164 1 rfl, bc BK164 2 rfl, bc BK164 3 rfl⟩ (fun hHeld => ?_)
             clear hK K
             refine norm_ (a' := ?_) ?_ ?_
             rotate_left
             ·show Act.put _ (some 19) _ = _
              simp only [Act.put, s1, s2, s3, i64_w, i32_w]
              rfl
             exact norm_ (by first | (simp only [putAll, Act.put, s1, s2, s3]; done) | (simp only [putAll, Act.put, s1, s2, s3]; rfl)) (hJ2_5_6 (gb174) _ ⟨hHeld, BK163.out, BK164.out, BK174.out, GW174.out, GE174.out, NB163_174.out, NB174_163.out, NB164_174.out, NB174_164.out, HB.out⟩)
            ·skip
             refine box_step ?hg (N := 6) ?hd (cs := #[.int .u64 0, .int .u64 0, .int .u64 0, .int .u64 0]) (t := 24) ?hr ?_; (case hd => rfl); (case hg => rfl); (case hr => first | (go_simp; done) | (go_simp; rfl))
             intro gb175 hg w29 hbox hb
             have n0_ := kb BK163 hb
             have n1_ := kb BK164 hb
             have n2_ := kb BK174 hb
             have n3_ := ks HB hb
             have n4_ := Aside0.mk (hbox)
             have n5_ := kl hg HB
             have n6_ := kl hg HB
             have n7_ := kn hg BK163
             have n8_ := km hg BK163
             have n9_ := kn hg BK164
             have n10_ := km hg BK164
             have n11_ := kn hg BK174
             have n12_ := km hg BK174
             clear BK163 BK164 BK174 HB
             have BK163 := n0_
             have BK164 := n1_
             have BK174 := n2_
             have HB := n3_
             have BK175 := n4_
             have GW175 := n5_
             have GE175 := n6_
             have NB163_175 := n7_
             have NB175_163 := n8_
             have NB164_175 := n9_
             have NB175_164 := n10_
             have NB174_175 := n11_
             have NB175_174 := n12_
             clear n0_ n1_ n2_ n3_ n4_ n5_ n6_ n7_ n8_ n9_ n10_ n11_ n12_ hb hbox hg
             refine hK.out _ _ ⟨bc BK163 0 rfl, bc BK163 1 rfl, bc BK163 2 rfl, bc BK163 3 rfl, bc BK164 0 rfl, bc BK164 1 rfl, bc BK164 2 rfl, bc BK164 3 rfl⟩ (fun hHeld => ?_)
             clear hK K
             refine norm_ (a' := ?_) ?_ ?_
             rotate_left
             ·show Act.put _ (some 6) _ = _
              simp only [Act.put, s1, s2, s3, i64_w, i32_w]
              rfl
             exact norm_ (by first | (simp only [putAll, Act.put, s1, s2, s3]; done) | (simp only [putAll, Act.put, s1, s2, s3]; rfl)) (hJ2_6_7 (gb174, gb175) _ ⟨hHeld, BK163.out, BK164.out, BK174.out, BK175.out, GW174.out, GE174.out, NB163_174.out, NB174_163.out, NB164_174.out, NB174_164.out, NB175_174.out, NB174_175.out, GW175.out, GE175.out, NB163_175.out, NB175_163.out, NB164_175.out, NB175_164.out, HB.out⟩)
          ·skip
           rintro _ w28 ⟨hS_, h0_, h1_, h2_⟩
           have n0_ : Aside0 (w28.heap[gb163]? = some (.cells #[.int .u64 a0_0, .int .u64 a0_1, .int .u64 a0_2, .int .u64 a0_3] 24 (0, 0))) := ⟨h0_⟩
           have n1_ : Aside0 (w28.heap[gb164]? = some (.cells #[.int .u64 a1_0, .int .u64 a1_1, .int .u64 a1_2, .int .u64 a1_3] 24 (0, 0))) := ⟨h1_⟩
           have n2_ : Aside0 (Below w.heap.size w w28) := ⟨h2_⟩
           clear BK163 BK164 HB h0_ h1_ h2_
           have BK163 := n0_
           have BK164 := n1_
           have HB := n2_
           clear n0_ n1_ n2_
           have hHeld : w28.cell? ⟨gb163, 0, none⟩ = some (.int .u64 a0_0) ∧ w28.cell? ⟨gb163, 1, none⟩ = some (.int .u64 a0_1) ∧ w28.cell? ⟨gb163, 2, none⟩ = some (.int .u64 a0_2) ∧ w28.cell? ⟨gb163, 3, none⟩ = some (.int .u64 a0_3) ∧ w28.cell? ⟨gb164, 0, none⟩ = some (.int .u64 a1_0) ∧ w28.cell? ⟨gb164, 1, none⟩ = some (.int .u64 a1_1) ∧ w28.cell? ⟨gb164, 2, none⟩ = some (.int .u64 a1_2) ∧ w28.cell? ⟨gb164, 3, none⟩ = some (.int .u64 a1_3) := hS_
           refine norm_ (a' := ?_) ?_ ?_
           rotate_left
           ·simp only [putAll, Act.put, s1, s2, s3]
            rfl
           refine two_ (i := 6) (j := 7) (Ni := some 5) (Nj := some 6) #[true, true, true, true, true, true, true, false, false, false] #[true, true, true, true, true, true, false, true, false, false] rfl rfl rfl rfl (two_of HT_.out (by kernel_rfl)) (by decide) (by decide) (fun K hK => ?_) (fun K hK => ?_)
           ·skip
            refine box_step ?hg (N := 5) ?hd (cs := #[.int .u64 0, .int .u64 0, .int .u64 0, .int .u64 0]) (t := 24) ?hr ?_; (case hd => rfl); (case hg => rfl); (case hr => first | (go_simp; done) | (go_simp; rfl))
            intro gb174 hg w29 hbox hb
            have n0_ := kb BK163 hb
            have n1_ := kb BK164 hb
            have n2_ := ks HB hb
            have n3_ := Aside0.mk (hbox)
            have n4_ := kl hg HB
            have n5_ := kl hg HB
            have n6_ := kn hg BK163
            have n7_ := km hg BK163
            have n8_ := kn hg BK164
            have n9_ := km hg BK164
            clear BK163 BK164 HB
            have BK163 := n0_
            have BK164 := n1_
            have HB := n2_
            have BK174 := n3_
            have GW174 := n4_
            have GE174 := n5_
            have NB163_174 := n6_
            have NB174_163 := n7_
            have NB164_174 := n8_
            have NB174_164 := n9_
            clear n0_ n1_ n2_ n3_ n4_ n5_ n6_ n7_ n8_ n9_ hb hbox hg
            refine hK.out _ _ ⟨bc BK163 0 rfl, bc BK163 1 rfl, bc BK163 2 rfl, bc BK163 3 rfl, bc BK164 0 rfl, bc BK164 1 rfl, bc BK164 2 rfl, bc BK164 3 rfl⟩ (fun hHeld => ?_)
            clear hK K
            refine norm_ (a' := ?_) ?_ ?_
            rotate_left
            ·show Act.put _ (some 5) _ = _
             simp only [Act.put, s1, s2, s3, i64_w, i32_w]
             rfl
            exact norm_ (by first | (simp only [putAll, Act.put, s1, s2, s3]; done) | (simp only [putAll, Act.put, s1, s2, s3]; rfl)) (hJ2_5_6 (gb174) _ ⟨hHeld, BK163.out, BK164.out, BK174.out, GW174.out, GE174.out, NB163_174.out, NB174_163.out, NB164_174.out, NB174_164.out, HB.out⟩)
           ·skip
            refine box_step ?hg (N := 6) ?hd (cs := #[.int .u64 0, .int .u64 0, .int .u64 0, .int .u64 0]) (t := 24) ?hr ?_; (case hd => rfl); (case hg => rfl); (case hr => first | (go_simp; done) | (go_simp; rfl))
            intro gb175 hg w29 hbox hb
            have n0_ := kb BK163 hb
            have n1_ := kb BK164 hb
            have n2_ := ks HB hb
            have n3_ := Aside0.mk (hbox)
            have n4_ := kl hg HB
            have n5_ := kl hg HB
            have n6_ := kn hg BK163
            have n7_ := km hg BK163
            have n8_ := kn hg BK164
            have n9_ := km hg BK164
            clear BK163 BK164 HB
            have BK163 := n0_
            have BK164 := n1_
            have HB := n2_
            have BK175 := n3_
            have GW175 := n4_
            have GE175 := n5_
            have NB163_175 := n6_
            have NB175_163 := n7_
            have NB164_175 := n8_
            have NB175_164 := n9_
            clear n0_ n1_ n2_ n3_ n4_ n5_ n6_ n7_ n8_ n9_ hb hbox hg
            refine hK.out _ _ ⟨bc BK163 0 rfl, bc BK163 1 rfl, bc BK163 2 rfl, bc BK163 3 rfl, bc BK164 0 rfl, bc BK164 1 rfl, bc BK164 2 rfl, bc BK164 3 rfl⟩ (fun hHeld => ?_)
            clear hK K
            refine norm_ (a' := ?_) ?_ ?_
            rotate_left
            ·show Act.put _ (some 6) _ = _
             simp only [Act.put, s1, s2, s3, i64_w, i32_w]
             rfl
            exact norm_ (by first | (simp only [putAll, Act.put, s1, s2, s3]; done) | (simp only [putAll, Act.put, s1, s2, s3]; rfl)) (hJ2_5_7 (gb175) _ ⟨hHeld, BK163.out, BK164.out, BK175.out, GW175.out, GE175.out, NB163_175.out, NB175_163.out, NB164_175.out, NB175_164.out, HB.out⟩)
         ·skip
          rintro ⟨gb174, gb175⟩ w29 ⟨hS_, h0_, h1_, h2_, h3_, h4_, h5_, h6_, h7_, h8_, h9_, h10_, h11_, h12_, h13_, h14_, h15_, h16_, h17_, h18_⟩
          have n0_ : Aside0 (w29.heap[gb163]? = some (.cells #[.int .u64 a0_0, .int .u64 a0_1, .int .u64 a0_2, .int .u64 a0_3] 24 (0, 0))) := ⟨h0_⟩
          have n1_ : Aside0 (w29.heap[gb164]? = some (.cells #[.int .u64 a1_0, .int .u64 a1_1, .int .u64 a1_2, .int .u64 a1_3] 24 (0, 0))) := ⟨h1_⟩
          have n2_ : Aside0 (w29.heap[gb174]? = some (.cells #[.int .u64 0, .int .u64 0, .int .u64 0, .int .u64 0] 24 (0, 0))) := ⟨h2_⟩
          have n3_ : Aside0 (w29.heap[gb175]? = some (.cells #[.int .u64 0, .int .u64 0, .int .u64 0, .int .u64 0] 24 (0, 0))) := ⟨h3_⟩
          have n4_ : Aside0 (w.heap.size ≤ gb174) := ⟨h4_⟩
          have n5_ : Aside0 (w.heap.size ≤ gb174) := ⟨h5_⟩
          have n6_ : Aside0 (gb163 ≠ gb174) := ⟨h6_⟩
          have n7_ : Aside0 (gb174 ≠ gb163) := ⟨h7_⟩
          have n8_ : Aside0 (gb164 ≠ gb174) := ⟨h8_⟩
          have n9_ : Aside0 (gb174 ≠ gb164) := ⟨h9_⟩
          have n10_ : Aside0 (gb175 ≠ gb174) := ⟨h10_⟩
          have n11_ : Aside0 (gb174 ≠ gb175) := ⟨h11_⟩
          have n12_ : Aside0 (w.heap.size ≤ gb175) := ⟨h12_⟩
          have n13_ : Aside0 (w.heap.size ≤ gb175) := ⟨h13_⟩
          have n14_ : Aside0 (gb163 ≠ gb175) := ⟨h14_⟩
          have n15_ : Aside0 (gb175 ≠ gb163) := ⟨h15_⟩
          have n16_ : Aside0 (gb164 ≠ gb175) := ⟨h16_⟩
          have n17_ : Aside0 (gb175 ≠ gb164) := ⟨h17_⟩
          have n18_ : Aside0 (Below w.heap.size w w29) := ⟨h18_⟩
          clear BK163 BK164 HB h0_ h1_ h2_ h3_ h4_ h5_ h6_ h7_ h8_ h9_ h10_ h11_ h12_ h13_ h14_ h15_ h16_ h17_ h18_
          have BK163 := n0_
          have BK164 := n1_
          have BK174 := n2_
          have BK175 := n3_
          have GW174 := n4_
          have GE174 := n5_
          have NB163_174 := n6_
          have NB174_163 := n7_
          have NB164_174 := n8_
          have NB174_164 := n9_
          have NB175_174 := n10_
          have NB174_175 := n11_
          have GW175 := n12_
          have GE175 := n13_
          have NB163_175 := n14_
          have NB175_163 := n15_
          have NB164_175 := n16_
          have NB175_164 := n17_
          have HB := n18_
          clear n0_ n1_ n2_ n3_ n4_ n5_ n6_ n7_ n8_ n9_ n10_ n11_ n12_ n13_ n14_ n15_ n16_ n17_ n18_
          have hHeld : w29.cell? ⟨gb163, 0, none⟩ = some (.int .u64 a0_0) ∧ w29.cell? ⟨gb163, 1, none⟩ = some (.int .u64 a0_1) ∧ w29.cell? ⟨gb163, 2, none⟩ = some (.int .u64 a0_2) ∧ w29.cell? ⟨gb163, 3, none⟩ = some (.int .u64 a0_3) ∧ w29.cell? ⟨gb164, 0, none⟩ = some (.int .u64 a1_0) ∧ w29.cell? ⟨gb164, 1, none⟩ = some (.int .u64 a1_1) ∧ w29.cell? ⟨gb164, 2, none⟩ = some (.int .u64 a1_2) ∧ w29.cell? ⟨gb164, 3, none⟩ = some (.int .u64 a1_3) := hS_
          refine norm_ (a' := ?_) ?_ ?_
          rotate_left
          ·simp only [putAll, Act.put, s1, s2, s3]
           rfl
          refine one_ (i := 5) (N := some 19) #[true, true, true, true, true, true, true, true, false, false] rfl rfl (one_of HT_.out (by kernel_rfl)) (by decide) (fun K hK => ?_)
          refine goes_ Try.func17 (by kernel_rfl) rfl #[.agg #[.int .u64 a0_0, .int .u64 a0_1, .int .u64 a0_2, .int .u64 a0_3], .agg #[.int .u64 a1_0, .int .u64 a1_1, .int .u64 a1_2, .int .u64 a1_3]] (by rfl) rfl rfl (by (try simp only [List.map_toArray, List.map_cons, List.map_nil]); first | done | rfl | (simp only [List.length_drop, List.length_take]; rfl)) ?_
          with_reducible refine (byteset_And.calls a0_0 a0_1 a0_2 a0_3 a1_0 a1_1 a1_2 a1_3 t170 t171 t172 t173 _ A6.out).mono ?_
          rintro e w30 ⟨rfl, hb⟩
          refine ⟨_, rfl, ?_⟩
          have n0_ := kb BK163 hb
          have n1_ := kb BK164 hb
          have n2_ := kb BK174 hb
          have n3_ := kb BK175 hb
          have n4_ := ks HB hb
          clear BK163 BK164 BK174 BK175 HB
          have BK163 := n0_
          have BK164 := n1_
          have BK174 := n2_
          have BK175 := n3_
          have HB := n4_
          clear n0_ n1_ n2_ n3_ n4_
          (try clear hb)
          refine hK.out _ _ ⟨bc BK163 0 rfl, bc BK163 1 rfl, bc BK163 2 rfl, bc BK163 3 rfl, bc BK164 0 rfl, bc BK164 1 rfl, bc BK164 2 rfl, bc BK164 3 rfl⟩ (fun hHeld => ?_)
          clear hK K
          refine norm_ (a' := ?_) ?_ ?_
          rotate_left
          ·show Act.put _ (some 19) _ = _
           simp only [Act.put, s1, s2, s3, i64_w, i32_w]
           rfl
          exact norm_ (by first | (simp only [putAll, Act.put, s1, s2, s3]; done) | (simp only [putAll, Act.put, s1, s2, s3]; rfl)) (hJ2_5_6_7 (gb174, gb175) _ ⟨hHeld, BK163.out, BK164.out, BK174.out, BK175.out, GW174.out, GE174.out, NB163_174.out, NB174_163.out, NB164_174.out, NB174_164.out, NB175_174.out, NB174_175.out, GW175.out, GE175.out, NB163_175.out, NB175_163.out, NB164_175.out, NB175_164.out, HB.out⟩)
        ·skip
         rintro gb175 w29 ⟨hS_, h0_, h1_, h2_, h3_, h4_, h5_, h6_, h7_, h8_, h9_⟩
         have n0_ : Aside0 (w29.heap[gb163]? = some (.cells #[.int .u64 a0_0, .int .u64 a0_1, .int .u64 a0_2, .int .u64 a0_3] 24 (0, 0))) := ⟨h0_⟩
         have n1_ : Aside0 (w29.heap[gb164]? = some (.cells #[.int .u64 a1_0, .int .u64 a1_1, .int .u64 a1_2, .int .u64 a1_3] 24 (0, 0))) := ⟨h1_⟩
         have n2_ : Aside0 (w29.heap[gb175]? = some (.cells #[.int .u64 0, .int .u64 0, .int .u64 0, .int .u64 0] 24 (0, 0))) := ⟨h2_⟩
         have n3_ : Aside0 (w.heap.size ≤ gb175) := ⟨h3_⟩
         have n4_ : Aside0 (w.heap.size ≤ gb175) := ⟨h4_⟩
         have n5_ : Aside0 (gb163 ≠ gb175) := ⟨h5_⟩
         have n6_ : Aside0 (gb175 ≠ gb163) := ⟨h6_⟩
         have n7_ : Aside0 (gb164 ≠ gb175) := ⟨h7_⟩
         have n8_ : Aside0 (gb175 ≠ gb164) := ⟨h8_⟩
         have n9_ : Aside0 (Below w.heap.size w w29) := ⟨h9_⟩
         clear BK163 BK164 HB h0_ h1_ h2_ h3_ h4_ h5_ h6_ h7_ h8_ h9_
         have BK163 := n0_
         have BK164 := n1_
         have BK175 := n2_
         have GW175 := n3_
         have GE175 := n4_
         have NB163_175 := n5_
         have NB175_163 := n6_
         have NB164_175 := n7_
         have NB175_164 := n8_
         have HB := n9_
         clear n0_ n1_ n2_ n3_ n4_ n5_ n6_ n7_ n8_ n9_
         have hHeld : w29.cell? ⟨gb163, 0, none⟩ = some (.int .u64 a0_0) ∧ w29.cell? ⟨gb163, 1, none⟩ = some (.int .u64 a0_1) ∧ w29.cell? ⟨gb163, 2, none⟩ = some (.int .u64 a0_2) ∧ w29.cell? ⟨gb163, 3, none⟩ = some (.int .u64 a0_3) ∧ w29.cell? ⟨gb164, 0, none⟩ = some (.int .u64 a1_0) ∧ w29.cell? ⟨gb164, 1, none⟩ = some (.int .u64 a1_1) ∧ w29.cell? ⟨gb164, 2, none⟩ = some (.int .u64 a1_2) ∧ w29.cell? ⟨gb164, 3, none⟩ = some (.int .u64 a1_3) := hS_
         refine norm_ (a' := ?_) ?_ ?_
         rotate_left
         ·simp only [putAll, Act.put, s1, s2, s3]
          rfl
         refine one_ (i := 6) (N := some 5) #[true, true, true, true, true, true, true, true, false, false] rfl rfl (one_of HT_.out (by kernel_rfl)) (by decide) (fun K hK => ?_)
         refine box_step ?hg (N := 5) ?hd (cs := #[.int .u64 0, .int .u64 0, .int .u64 0, .int .u64 0]) (t := 24) ?hr ?_; (case hd => rfl); (case hg => rfl); (case hr => first | (go_simp; done) | (go_simp; rfl))
         intro gb174 hg w30 hbox hb
         have n0_ := kb BK163 hb
         have n1_ := kb BK164 hb
         have n2_ := kb BK175 hb
         have n3_ := ks HB hb
         have n4_ := Aside0.mk (hbox)
         have n5_ := kl hg HB
         have n6_ := kl hg HB
         have n7_ := kn hg BK163
         have n8_ := km hg BK163
         have n9_ := kn hg BK164
         have n10_ := km hg BK164
         have n11_ := kn hg BK175
         have n12_ := km hg BK175
         clear BK163 BK164 BK175 HB
         have BK163 := n0_
         have BK164 := n1_
         have BK175 := n2_
         have HB := n3_
         have BK174 := n4_
         have GW174 := n5_
         have GE174 := n6_
         have NB163_174 := n7_
         have NB174_163 := n8_
         have NB164_174 := n9_
         have NB174_164 := n10_
         have NB175_174 := n11_
         have NB174_175 := n12_
         clear n0_ n1_ n2_ n3_ n4_ n5_ n6_ n7_ n8_ n9_ n10_ n11_ n12_ hb hbox hg
         refine hK.out _ _ ⟨bc BK163 0 rfl, bc BK163 1 rfl, bc BK163 2 rfl, bc BK163 3 rfl, bc BK164 0 rfl, bc BK164 1 rfl, bc BK164 2 rfl, bc BK164 3 rfl⟩ (fun hHeld => ?_)
         clear hK K
         refine norm_ (a' := ?_) ?_ ?_
         rotate_left
         ·show Act.put _ (some 5) _ = _
          simp only [Act.put, s1, s2, s3, i64_w, i32_w]
          rfl
         exact norm_ (by first | (simp only [putAll, Act.put, s1, s2, s3]; done) | (simp only [putAll, Act.put, s1, s2, s3]; rfl)) (hJ2_5_6_7 (gb174, gb175) _ ⟨hHeld, BK163.out, BK164.out, BK174.out, BK175.out, GW174.out, GE174.out, NB163_174.out, NB174_163.out, NB164_174.out, NB174_164.out, NB175_174.out, NB174_175.out, GW175.out, GE175.out, NB163_175.out, NB175_163.out, NB164_175.out, NB175_164.out, HB.out⟩)
       ·skip
        rintro gb174 w29 ⟨hS_, h0_, h1_, h2_, h3_, h4_, h5_, h6_, h7_, h8_, h9_⟩
        have n0_ : Aside0 (w29.heap[gb163]? = some (.cells #[.int .u64 a0_0, .int .u64 a0_1, .int .u64 a0_2, .int .u64 a0_3] 24 (0, 0))) := ⟨h0_⟩
        have n1_ : Aside0 (w29.heap[gb164]? = some (.cells #[.int .u64 a1_0, .int .u64 a1_1, .int .u64 a1_2, .int .u64 a1_3] 24 (0, 0))) := ⟨h1_⟩
        have n2_ : Aside0 (w29.heap[gb174]? = some (.cells #[.int .u64 0, .int .u64 0, .int .u64 0, .int .u64 0] 24 (0, 0))) := ⟨h2_⟩
        have n3_ : Aside0 (w.heap.size ≤ gb174) := ⟨h3_⟩
        have n4_ : Aside0 (w.heap.size ≤ gb174) := ⟨h4_⟩
        have n5_ : Aside0 (gb163 ≠ gb174) := ⟨h5_⟩
        have n6_ : Aside0 (gb174 ≠ gb163) := ⟨h6_⟩
        have n7_ : Aside0 (gb164 ≠ gb174) := ⟨h7_⟩
        have n8_ : Aside0 (gb174 ≠ gb164) := ⟨h8_⟩
        have n9_ : Aside0 (Below w.heap.size w w29) := ⟨h9_⟩
        clear BK163 BK164 HB h0_ h1_ h2_ h3_ h4_ h5_ h6_ h7_ h8_ h9_
        have BK163 := n0_
        have BK164 := n1_
        have BK174 := n2_
        have GW174 := n3_
        have GE174 := n4_
        have NB163_174 := n5_
        have NB174_163 := n6_
        have NB164_174 := n7_
        have NB174_164 := n8_
        have HB := n9_
        clear n0_ n1_ n2_ n3_ n4_ n5_ n6_ n7_ n8_ n9_
        have hHeld : w29.cell? ⟨gb163, 0, none⟩ = some (.int .u64 a0_0) ∧ w29.cell? ⟨gb163, 1, none⟩ = some (.int .u64 a0_1) ∧ w29.cell? ⟨gb163, 2, none⟩ = some (.int .u64 a0_2) ∧ w29.cell? ⟨gb163, 3, none⟩ = some (.int .u64 a0_3) ∧ w29.cell? ⟨gb164, 0, none⟩ = some (.int .u64 a1_0) ∧ w29.cell? ⟨gb164, 1, none⟩ = some (.int .u64 a1_1) ∧ w29.cell? ⟨gb164, 2, none⟩ = some (.int .u64 a1_2) ∧ w29.cell? ⟨gb164, 3, none⟩ = some (.int .u64 a1_3) := hS_
        refine norm_ (a' := ?_) ?_ ?_
        rotate_left
        ·simp only [putAll, Act.put, s1, s2, s3]
         rfl
        refine one_ (i := 7) (N := some 6) #[true, true, true, true, true, true, true, true, false, false] rfl rfl (one_of HT_.out (by kernel_rfl)) (by decide) (fun K hK => ?_)
        refine box_step ?hg (N := 6) ?hd (cs := #[.int .u64 0, .int .u64 0, .int .u64 0, .int .u64 0]) (t := 24) ?hr ?_; (case hd => rfl); (case hg => rfl); (case hr => first | (go_simp; done) | (go_simp; rfl))
        intro gb175 hg w30 hbox hb
        have n0_ := kb BK163 hb
        have n1_ := kb BK164 hb
        have n2_ := kb BK174 hb
        have n3_ := ks HB hb
        have n4_ := Aside0.mk (hbox)
        have n5_ := kl hg HB
        have n6_ := kl hg HB
        have n7_ := kn hg BK163
        have n8_ := km hg BK163
        have n9_ := kn hg BK164
        have n10_ := km hg BK164
        have n11_ := kn hg BK174
        have n12_ := km hg BK174
        clear BK163 BK164 BK174 HB
        have BK163 := n0_
        have BK164 := n1_
        have BK174 := n2_
        have HB := n3_
        have BK175 := n4_
        have GW175 := n5_
        have GE175 := n6_
        have NB163_175 := n7_
        have NB175_163 := n8_
        have NB164_175 := n9_
        have NB175_164 := n10_
        have NB174_175 := n11_
        have NB175_174 := n12_
        clear n0_ n1_ n2_ n3_ n4_ n5_ n6_ n7_ n8_ n9_ n10_ n11_ n12_ hb hbox hg
        refine hK.out _ _ ⟨bc BK163 0 rfl, bc BK163 1 rfl, bc BK163 2 rfl, bc BK163 3 rfl, bc BK164 0 rfl, bc BK164 1 rfl, bc BK164 2 rfl, bc BK164 3 rfl⟩ (fun hHeld => ?_)
        clear hK K
        refine norm_ (a' := ?_) ?_ ?_
        rotate_left
        ·show Act.put _ (some 6) _ = _
         simp only [Act.put, s1, s2, s3, i64_w, i32_w]
         rfl
        exact norm_ (by first | (simp only [putAll, Act.put, s1, s2, s3]; done) | (simp only [putAll, Act.put, s1, s2, s3]; rfl)) (hJ2_5_6_7 (gb174, gb175) _ ⟨hHeld, BK163.out, BK164.out, BK174.out, BK175.out, GW174.out, GE174.out, NB163_174.out, NB174_163.out, NB164_174.out, NB174_164.out, NB175_174.out, NB174_175.out, GW175.out, GE175.out, NB163_175.out, NB175_163.out, NB164_175.out, NB175_164.out, HB.out⟩)
      rintro ⟨gb174, gb175⟩ w30 ⟨hS_, h0_, h1_, h2_, h3_, h4_, h5_, h6_, h7_, h8_, h9_, h10_, h11_, h12_, h13_, h14_, h15_, h16_, h17_, h18_⟩
      have n0_ : Aside0 (w30.heap[gb163]? = some (.cells #[.int .u64 a0_0, .int .u64 a0_1, .int .u64 a0_2, .int .u64 a0_3] 24 (0, 0))) := ⟨h0_⟩
      have n1_ : Aside0 (w30.heap[gb164]? = some (.cells #[.int .u64 a1_0, .int .u64 a1_1, .int .u64 a1_2, .int .u64 a1_3] 24 (0, 0))) := ⟨h1_⟩
      have n2_ : Aside0 (w30.heap[gb174]? = some (.cells #[.int .u64 0, .int .u64 0, .int .u64 0, .int .u64 0] 24 (0, 0))) := ⟨h2_⟩
      have n3_ : Aside0 (w30.heap[gb175]? = some (.cells #[.int .u64 0, .int .u64 0, .int .u64 0, .int .u64 0] 24 (0, 0))) := ⟨h3_⟩
      have n4_ : Aside0 (w.heap.size ≤ gb174) := ⟨h4_⟩
      have n5_ : Aside0 (w.heap.size ≤ gb174) := ⟨h5_⟩
      have n6_ : Aside0 (gb163 ≠ gb174) := ⟨h6_⟩
      have n7_ : Aside0 (gb174 ≠ gb163) := ⟨h7_⟩
      have n8_ : Aside0 (gb164 ≠ gb174) := ⟨h8_⟩
      have n9_ : Aside0 (gb174 ≠ gb164) := ⟨h9_⟩
      have n10_ : Aside0 (gb175 ≠ gb174) := ⟨h10_⟩
      have n11_ : Aside0 (gb174 ≠ gb175) := ⟨h11_⟩
      have n12_ : Aside0 (w.heap.size ≤ gb175) := ⟨h12_⟩
      have n13_ : Aside0 (w.heap.size ≤ gb175) := ⟨h13_⟩
      have n14_ : Aside0 (gb163 ≠ gb175) := ⟨h14_⟩
      have n15_ : Aside0 (gb175 ≠ gb163) := ⟨h15_⟩
      have n16_ : Aside0 (gb164 ≠ gb175) := ⟨h16_⟩
      have n17_ : Aside0 (gb175 ≠ gb164) := ⟨h17_⟩
      have n18_ : Aside0 (Below w.heap.size w w30) := ⟨h18_⟩
      clear BK163 BK164 HB h0_ h1_ h2_ h3_ h4_ h5_ h6_ h7_ h8_ h9_ h10_ h11_ h12_ h13_ h14_ h15_ h16_ h17_ h18_
      have BK163 := n0_
      have BK164 := n1_
      have BK174 := n2_
      have BK175 := n3_
      have GW174 := n4_
      have GE174 := n5_
      have NB163_174 := n6_
      have NB174_163 := n7_
      have NB164_174 := n8_
      have NB174_164 := n9_
      have NB175_174 := n10_
      have NB174_175 := n11_
      have GW175 := n12_
      have GE175 := n13_
      have NB163_175 := n14_
      have NB175_163 := n15_
      have NB164_175 := n16_
      have NB175_164 := n17_
      have HB := n18_
      clear n0_ n1_ n2_ n3_ n4_ n5_ n6_ n7_ n8_ n9_ n10_ n11_ n12_ n13_ n14_ n15_ n16_ n17_ n18_
      have hHeld : w30.cell? ⟨gb163, 0, none⟩ = some (.int .u64 a0_0) ∧ w30.cell? ⟨gb163, 1, none⟩ = some (.int .u64 a0_1) ∧ w30.cell? ⟨gb163, 2, none⟩ = some (.int .u64 a0_2) ∧ w30.cell? ⟨gb163, 3, none⟩ = some (.int .u64 a0_3) ∧ w30.cell? ⟨gb164, 0, none⟩ = some (.int .u64 a1_0) ∧ w30.cell? ⟨gb164, 1, none⟩ = some (.int .u64 a1_1) ∧ w30.cell? ⟨gb164, 2, none⟩ = some (.int .u64 a1_2) ∧ w30.cell? ⟨gb164, 3, none⟩ = some (.int .u64 a1_3) := hS_
      refine norm_ (a' := ?_) ?_ ?_
      rotate_left
      ·simp only [putAll, Act.put, s1, s2, s3]
       rfl
      refine one_ (i := 8) (N := none) #[true, true, true, true, true, true, true, true, true, false] rfl rfl (one_of HT_.out (by kernel_rfl)) (by decide) (fun K hK => ?_)
      have hs31 : w30.cell? ⟨gb174, 0, none⟩ = some (.int .u64 0) := bc BK174 0 rfl
      have hfs31 := blk_frozen BK174.out 0
      have hns31_0 := NB163_174.out
      have hns31_1 := NB164_174.out
      have hns31_3 := NB175_174.out
      have hms31_0 := NB174_163.out
      have hms31_1 := NB174_164.out
      have hms31_3 := NB174_175.out
      have hs32 : w30.cell? ⟨gb174, 1, none⟩ = some (.int .u64 0) := bc BK174 1 rfl
      have hfs32 := blk_frozen BK174.out 1
      have hns32_0 := NB163_174.out
      have hns32_1 := NB164_174.out
      have hns32_3 := NB175_174.out
      have hms32_0 := NB174_163.out
      have hms32_1 := NB174_164.out
      have hms32_3 := NB174_175.out
      have hs33 : w30.cell? ⟨gb174, 2, none⟩ = some (.int .u64 0) := bc BK174 2 rfl
      have hfs33 := blk_frozen BK174.out 2
      have hns33_0 := NB163_174.out
      have hns33_1 := NB164_174.out
      have hns33_3 := NB175_174.out
      have hms33_0 := NB174_163.out
      have hms33_1 := NB174_164.out
      have hms33_3 := NB174_175.out
      have hs34 : w30.cell? ⟨gb174, 3, none⟩ = some (.int .u64 0) := bc BK174 3 rfl
      have hfs34 := blk_frozen BK174.out 3
      have hns34_0 := NB163_174.out
      have hns34_1 := NB164_174.out
      have hns34_3 := NB175_174.out
      have hms34_0 := NB174_163.out
      have hms34_1 := NB174_164.out
      have hms34_3 := NB174_175.out
      refine skip_ (w1 := ?_) (by rfl) rfl ?_ ?_
      rotate_left
      ·go_simp
       rfl
      refine hK.out _ _ ⟨((cell_far (p := ⟨gb174, _, none⟩) NB163_174.out _).trans (((cell_far (p := ⟨gb174, _, none⟩) NB163_174.out _).trans (((cell_far (p := ⟨gb174, _, none⟩) NB163_174.out _).trans (((cell_far (p := ⟨gb174, _, none⟩) NB163_174.out _).trans (hHeld.1)))))))), ((cell_far (p := ⟨gb174, _, none⟩) NB163_174.out _).trans (((cell_far (p := ⟨gb174, _, none⟩) NB163_174.out _).trans (((cell_far (p := ⟨gb174, _, none⟩) NB163_174.out _).trans (((cell_far (p := ⟨gb174, _, none⟩) NB163_174.out _).trans (hHeld.2.1)))))))), ((cell_far (p := ⟨gb174, _, none⟩) NB163_174.out _).trans (((cell_far (p := ⟨gb174, _, none⟩) NB163_174.out _).trans (((cell_far (p := ⟨gb174, _, none⟩) NB163_174.out _).trans (((cell_far (p := ⟨gb174, _, none⟩) NB163_174.out _).trans (hHeld.2.2.1)))))))), ((cell_far (p := ⟨gb174, _, none⟩) NB163_174.out _).trans (((cell_far (p := ⟨gb174, _, none⟩) NB163_174.out _).trans (((cell_far (p := ⟨gb174, _, none⟩) NB163_174.out _).trans (((cell_far (p := ⟨gb174, _, none⟩) NB163_174.out _).trans (hHeld.2.2.2.1)))))))), ((cell_far (p := ⟨gb174, _, none⟩) NB164_174.out _).trans (((cell_far (p := ⟨gb174, _, none⟩) NB164_174.out _).trans (((cell_far (p := ⟨gb174, _, none⟩) NB164_174.out _).trans (((cell_far (p := ⟨gb174, _, none⟩) NB164_174.out _).trans (hHeld.2.2.2.2.1)))))))), ((cell_far (p := ⟨gb174, _, none⟩) NB164_174.out _).trans (((cell_far (p := ⟨gb174, _, none⟩) NB164_174.out _).trans (((cell_far (p := ⟨gb174, _, none⟩) NB164_174.out _).trans (((cell_far (p := ⟨gb174, _, none⟩) NB164_174.out _).trans (hHeld.2.2.2.2.2.1)))))))), ((cell_far (p := ⟨gb174, _, none⟩) NB164_174.out _).trans (((cell_far (p := ⟨gb174, _, none⟩) NB164_174.out _).trans (((cell_far (p := ⟨gb174, _, none⟩) NB164_174.out _).trans (((cell_far (p := ⟨gb174, _, none⟩) NB164_174.out _).trans (hHeld.2.2.2.2.2.2.1)))))))), ((cell_far (p := ⟨gb174, _, none⟩) NB164_174.out _).trans (((cell_far (p := ⟨gb174, _, none⟩) NB164_174.out _).trans (((cell_far (p := ⟨gb174, _, none⟩) NB164_174.out _).trans (((cell_far (p := ⟨gb174, _, none⟩) NB164_174.out _).trans (hHeld.2.2.2.2.2.2.2))))))))⟩ (fun hHeld => ?_)
      clear hK K
      refine one_ (i := 9) (N := none) #[true, true, true, true, true, true, true, true, true, true] rfl rfl (one_of HT_.out (by kernel_rfl)) (by decide) (fun K hK => ?_)
      have hs35 : w30.cell? ⟨gb175, 0, none⟩ = some (.int .u64 0) := bc BK175 0 rfl
      have hfs35 := blk_frozen BK175.out 0
      have hns35_0 := NB163_175.out
      have hns35_1 := NB164_175.out
      have hns35_2 := NB174_175.out
      have hms35_0 := NB175_163.out
      have hms35_1 := NB175_164.out
      have hms35_2 := NB175_174.out
      have hs36 : w30.cell? ⟨gb175, 1, none⟩ = some (.int .u64 0) := bc BK175 1 rfl
      have hfs36 := blk_frozen BK175.out 1
      have hns36_0 := NB163_175.out
      have hns36_1 := NB164_175.out
      have hns36_2 := NB174_175.out
      have hms36_0 := NB175_163.out
      have hms36_1 := NB175_164.out
      have hms36_2 := NB175_174.out
      have hs37 : w30.cell? ⟨gb175, 2, none⟩ = some (.int .u64 0) := bc BK175 2 rfl
      have hfs37 := blk_frozen BK175.out 2
      have hns37_0 := NB163_175.out
      have hns37_1 := NB164_175.out
      have hns37_2 := NB174_175.out
      have hms37_0 := NB175_163.out
      have hms37_1 := NB175_164.out
      have hms37_2 := NB175_174.out
      have hs38 : w30.cell? ⟨gb175, 3, none⟩ = some (.int .u64 0) := bc BK175 3 rfl
      have hfs38 := blk_frozen BK175.out 3
      have hns38_0 := NB163_175.out
      have hns38_1 := NB164_175.out
      have hns38_2 := NB174_175.out
      have hms38_0 := NB175_163.out
      have hms38_1 := NB175_164.out
      have hms38_2 := NB175_174.out
      refine skip_ (w1 := ?_) (by rfl) rfl ?_ ?_
      rotate_left
      ·go_simp
       rfl
      refine hK.out _ _ ⟨((cell_far (p := ⟨gb175, _, none⟩) NB163_175.out _).trans (((cell_far (p := ⟨gb175, _, none⟩) NB163_175.out _).trans (((cell_far (p := ⟨gb175, _, none⟩) NB163_175.out _).trans (((cell_far (p := ⟨gb175, _, none⟩) NB163_175.out _).trans (hHeld.1)))))))), ((cell_far (p := ⟨gb175, _, none⟩) NB163_175.out _).trans (((cell_far (p := ⟨gb175, _, none⟩) NB163_175.out _).trans (((cell_far (p := ⟨gb175, _, none⟩) NB163_175.out _).trans (((cell_far (p := ⟨gb175, _, none⟩) NB163_175.out _).trans (hHeld.2.1)))))))), ((cell_far (p := ⟨gb175, _, none⟩) NB163_175.out _).trans (((cell_far (p := ⟨gb175, _, none⟩) NB163_175.out _).trans (((cell_far (p := ⟨gb175, _, none⟩) NB163_175.out _).trans (((cell_far (p := ⟨gb175, _, none⟩) NB163_175.out _).trans (hHeld.2.2.1)))))))), ((cell_far (p := ⟨gb175, _, none⟩) NB163_175.out _).trans (((cell_far (p := ⟨gb175, _, none⟩) NB163_175.out _).trans (((cell_far (p := ⟨gb175, _, none⟩) NB163_175.out _).trans (((cell_far (p := ⟨gb175, _, none⟩) NB163_175.out _).trans (hHeld.2.2.2.1)))))))), ((cell_far (p := ⟨gb175, _, none⟩) NB164_175.out _).trans (((cell_far (p := ⟨gb175, _, none⟩) NB164_175.out _).trans (((cell_far (p := ⟨gb175, _, none⟩) NB164_175.out _).trans (((cell_far (p := ⟨gb175, _, none⟩) NB164_175.out _).trans (hHeld.2.2.2.2.1)))))))), ((cell_far (p := ⟨gb175, _, none⟩) NB164_175.out _).trans (((cell_far (p := ⟨gb175, _, none⟩) NB164_175.out _).trans (((cell_far (p := ⟨gb175, _, none⟩) NB164_175.out _).trans (((cell_far (p := ⟨gb175, _, none⟩) NB164_175.out _).trans (hHeld.2.2.2.2.2.1)))))))), ((cell_far (p := ⟨gb175, _, none⟩) NB164_175.out _).trans (((cell_far (p := ⟨gb175, _, none⟩) NB164_175.out _).trans (((cell_far (p := ⟨gb175, _, none⟩) NB164_175.out _).trans (((cell_far (p := ⟨gb175, _, none⟩) NB164_175.out _).trans (hHeld.2.2.2.2.2.2.1)))))))), ((cell_far (p := ⟨gb175, _, none⟩) NB164_175.out _).trans (((cell_far (p := ⟨gb175, _, none⟩) NB164_175.out _).trans (((cell_far (p := ⟨gb175, _, none⟩) NB164_175.out _).trans (((cell_far (p := ⟨gb175, _, none⟩) NB164_175.out _).trans (hHeld.2.2.2.2.2.2.2))))))))⟩ (fun hHeld => ?_)
      clear hK K
      refine done_ (done_of HT_.out (by kernel_rfl)) ?_
      try go_wp2
      have n0_ : Aside0 (((((((((w30.setCell ⟨gb174, 0, none⟩ (.int .u64 t166)).setCell ⟨gb174, 1, none⟩ (.int .u64 t167)).setCell ⟨gb174, 2, none⟩ (.int .u64 t168)).setCell ⟨gb174, 3, none⟩ (.int .u64 t169)).setCell ⟨gb175, 0, none⟩ (.int .u64 t170)).setCell ⟨gb175, 1, none⟩ (.int .u64 t171)).setCell ⟨gb175, 2, none⟩ (.int .u64 t172)).setCell ⟨gb175, 3, none⟩ (.int .u64 t173)).heap[gb163]? = some (.cells #[.int .u64 a0_0, .int .u64 a0_1, .int .u64 a0_2, .int .u64 a0_3] 24 (0, 0))) := ⟨by refine blk_far ?_ NB163_175.out _; refine blk_far ?_ NB163_175.out _; refine blk_far ?_ NB163_175.out _; refine blk_far ?_ NB163_175.out _; refine blk_far ?_ NB163_174.out _; refine blk_far ?_ NB163_174.out _; refine blk_far ?_ NB163_174.out _; refine blk_far ?_ NB163_174.out _; exact BK163.out⟩
      have n1_ : Aside0 (((((((((w30.setCell ⟨gb174, 0, none⟩ (.int .u64 t166)).setCell ⟨gb174, 1, none⟩ (.int .u64 t167)).setCell ⟨gb174, 2, none⟩ (.int .u64 t168)).setCell ⟨gb174, 3, none⟩ (.int .u64 t169)).setCell ⟨gb175, 0, none⟩ (.int .u64 t170)).setCell ⟨gb175, 1, none⟩ (.int .u64 t171)).setCell ⟨gb175, 2, none⟩ (.int .u64 t172)).setCell ⟨gb175, 3, none⟩ (.int .u64 t173)).heap[gb164]? = some (.cells #[.int .u64 a1_0, .int .u64 a1_1, .int .u64 a1_2, .int .u64 a1_3] 24 (0, 0))) := ⟨by refine blk_far ?_ NB164_175.out _; refine blk_far ?_ NB164_175.out _; refine blk_far ?_ NB164_175.out _; refine blk_far ?_ NB164_175.out _; refine blk_far ?_ NB164_174.out _; refine blk_far ?_ NB164_174.out _; refine blk_far ?_ NB164_174.out _; refine blk_far ?_ NB164_174.out _; exact BK164.out⟩
      have n2_ : Aside0 (((((((((w30.setCell ⟨gb174, 0, none⟩ (.int .u64 t166)).setCell ⟨gb174, 1, none⟩ (.int .u64 t167)).setCell ⟨gb174, 2, none⟩ (.int .u64 t168)).setCell ⟨gb174, 3, none⟩ (.int .u64 t169)).setCell ⟨gb175, 0, none⟩ (.int .u64 t170)).setCell ⟨gb175, 1, none⟩ (.int .u64 t171)).setCell ⟨gb175, 2, none⟩ (.int .u64 t172)).setCell ⟨gb175, 3, none⟩ (.int .u64 t173)).heap[gb174]? = some (.cells #[.int .u64 t166, .int .u64 t167, .int .u64 t168, .int .u64 t169] 24 (0, 0))) := ⟨by refine blk_far ?_ NB174_175.out _; refine blk_far ?_ NB174_175.out _; refine blk_far ?_ NB174_175.out _; refine blk_far ?_ NB174_175.out _; refine blk_put (cs := #[.int .u64 t166, .int .u64 t167, .int .u64 t168, .int .u64 0]) ?_ 3 _ rfl; refine blk_put (cs := #[.int .u64 t166, .int .u64 t167, .int .u64 0, .int .u64 0]) ?_ 2 _ rfl; refine blk_put (cs := #[.int .u64 t166, .int .u64 0, .int .u64 0, .int .u64 0]) ?_ 1 _ rfl; refine blk_put (cs := #[.int .u64 0, .int .u64 0, .int .u64 0, .int .u64 0]) ?_ 0 _ rfl; exact BK174.out⟩
      have n3_ : Aside0 (((((((((w30.setCell ⟨gb174, 0, none⟩ (.int .u64 t166)).setCell ⟨gb174, 1, none⟩ (.int .u64 t167)).setCell ⟨gb174, 2, none⟩ (.int .u64 t168)).setCell ⟨gb174, 3, none⟩ (.int .u64 t169)).setCell ⟨gb175, 0, none⟩ (.int .u64 t170)).setCell ⟨gb175, 1, none⟩ (.int .u64 t171)).setCell ⟨gb175, 2, none⟩ (.int .u64 t172)).setCell ⟨gb175, 3, none⟩ (.int .u64 t173)).heap[gb175]? = some (.cells #[.int .u64 t170, .int .u64 t171, .int .u64 t172, .int .u64 t173] 24 (0, 0))) := ⟨by refine blk_put (cs := #[.int .u64 t170, .int .u64 t171, .int .u64 t172, .int .u64 0]) ?_ 3 _ rfl; refine blk_put (cs := #[.int .u64 t170, .int .u64 t171, .int .u64 0, .int .u64 0]) ?_ 2 _ rfl; refine blk_put (cs := #[.int .u64 t170, .int .u64 0, .int .u64 0, .int .u64 0]) ?_ 1 _ rfl; refine blk_put (cs := #[.int .u64 0, .int .u64 0, .int .u64 0, .int .u64 0]) ?_ 0 _ rfl; refine blk_far ?_ NB175_174.out _; refine blk_far ?_ NB175_174.out _; refine blk_far ?_ NB175_174.out _; refine blk_far ?_ NB175_174.out _; exact BK175.out⟩
      have n4_ : Aside0 (Below w.heap.size w ((((((((w30.setCell ⟨gb174, 0, none⟩ (.int .u64 t166)).setCell ⟨gb174, 1, none⟩ (.int .u64 t167)).setCell ⟨gb174, 2, none⟩ (.int .u64 t168)).setCell ⟨gb174, 3, none⟩ (.int .u64 t169)).setCell ⟨gb175, 0, none⟩ (.int .u64 t170)).setCell ⟨gb175, 1, none⟩ (.int .u64 t171)).setCell ⟨gb175, 2, none⟩ (.int .u64 t172)).setCell ⟨gb175, 3, none⟩ (.int .u64 t173))) := ⟨by repeat (first | (with_reducible first | exact HB.out | apply below_alloc | apply pw_below_drewN | apply below_drew1 | refine below_set ?_ GE163.out | refine below_set ?_ GE164.out | refine below_set ?_ GE174.out | refine below_set ?_ GE175.out) | exact HB.out)⟩
      (try clear BK163)
      (try clear BK164)
      (try clear BK174)
      (try clear BK175)
      (try clear HB)
      generalize ((((((((w30.setCell ⟨gb174, 0, none⟩ (.int .u64 t166)).setCell ⟨gb174, 1, none⟩ (.int .u64 t167)).setCell ⟨gb174, 2, none⟩ (.int .u64 t168)).setCell ⟨gb174, 3, none⟩ (.int .u64 t169)).setCell ⟨gb175, 0, none⟩ (.int .u64 t170)).setCell ⟨gb175, 1, none⟩ (.int .u64 t171)).setCell ⟨gb175, 2, none⟩ (.int .u64 t172)).setCell ⟨gb175, 3, none⟩ (.int .u64 t173)) = w39 at n0_ n1_ n2_ n3_ n4_ ⊢
      have BK163 := n0_
      have BK164 := n1_
      have BK174 := n2_
      have BK175 := n3_
      have HB := n4_
      clear n0_ n1_ n2_ n3_ n4_
      have n0_ := Aside0.mk (blk_drew BK163.out)
      have n1_ := Aside0.mk (blk_drew BK164.out)
      have n2_ := Aside0.mk (blk_drew BK174.out)
      have n3_ := Aside0.mk (blk_drew BK175.out)
      have n4_ := Aside0.mk (below_drew1 HB.out)
      clear BK163 BK164 BK174 BK175 HB
      have BK163 := n0_
      have BK164 := n1_
      have BK174 := n2_
      have BK175 := n3_
      have HB := n4_
      clear n0_ n1_ n2_ n3_ n4_
      refine start_ (n := 38) (S := fun w' => w'.cell? ⟨gb174, 0, none⟩ = some (.int .u64 t166) ∧ w'.cell? ⟨gb174, 1, none⟩ = some (.int .u64 t167) ∧ w'.cell? ⟨gb174, 2, none⟩ = some (.int .u64 t168) ∧ w'.cell? ⟨gb174, 3, none⟩ = some (.int .u64 t169) ∧ w'.cell? ⟨gb175, 0, none⟩ = some (.int .u64 t170) ∧ w'.cell? ⟨gb175, 1, none⟩ = some (.int .u64 t171) ∧ w'.cell? ⟨gb175, 2, none⟩ = some (.int .u64 t172) ∧ w'.cell? ⟨gb175, 3, none⟩ = some (.int .u64 t173) ∧ w'.cell? ⟨gb163, 0, none⟩ = some (.int .u64 a0_0) ∧ w'.cell? ⟨gb163, 1, none⟩ = some (.int .u64 a0_1) ∧ w'.cell? ⟨gb163, 2, none⟩ = some (.int .u64 a0_2) ∧ w'.cell? ⟨gb163, 3, none⟩ = some (.int .u64 a0_3) ∧ w'.cell? ⟨gb164, 0, none⟩ = some (.int .u64 a1_0) ∧ w'.cell? ⟨gb164, 1, none⟩ = some (.int .u64 a1_1) ∧ w'.cell? ⟨gb164, 2, none⟩ = some (.int .u64 a1_2) ∧ w'.cell? ⟨gb164, 3, none⟩ = some (.int .u64 a1_3)) (ds := []) #[false, false, false, false, false, false, false, false, false, false, false, false, false, false, false, false, false, false, false, false, false, false, false, false, false, false, false, false, false, false, false, false, false, false, false, false, false, false] (by kernel_rfl) rfl rfl ⟨bc BK174 0 rfl, bc BK174 1 rfl, bc BK174 2 rfl, bc BK174 3 rfl, bc BK175 0 rfl, bc BK175 1 rfl, bc BK175 2 rfl, bc BK175 3 rfl, bc BK163 0 rfl, bc BK163 1 rfl, bc BK163 2 rfl, bc BK163 3 rfl, bc BK164 0 rfl, bc BK164 1 rfl, bc BK164 2 rfl, bc BK164 3 rfl⟩ (fun hHeld => ?_); refine with_tabW templelaw1_SetRules.tab4 templelaw1_SetRules.bits4 (fun HT_ HW_ => ?_)
      generalize w39.drew = w40 at BK163 BK164 BK174 BK175 HB hHeld ⊢
      refine take_ (i := 0) (N := some 20) (v := ?_) (a' := ?_) #[true, false, false, false, false, false, false, false, false, false, false, false, false, false, false, false, false, false, false, false, false, false, false, false, false, false, false, false, false, false, false, false, false, false, false, false, false, false] rfl rfl (take_ofW HT_.out HW_.out (by kernel_rfl)) (fun _ _ _ h => h) (Or.inl ⟨by rfl, ?_⟩) hHeld ?_ ?_
      rotate_left
      ·rintro w' ⟨s0, s1, s2, s3, s4, s5, s6, s7, s8, s9, s10, s11, s12, s13, s14, s15⟩
       go_simp
       with_reducible rfl
      rotate_left
      ·simp only [Act.put, s1, s2, s3, i64_w, i32_w]
       rfl
      refine take_ (i := 2) (N := some 22) (v := ?_) (a' := ?_) #[true, false, true, false, false, false, false, false, false, false, false, false, false, false, false, false, false, false, false, false, false, false, false, false, false, false, false, false, false, false, false, false, false, false, false, false, false, false] rfl rfl (take_ofW HT_.out HW_.out (by kernel_rfl)) (fun _ _ _ h => h) (Or.inl ⟨by rfl, ?_⟩) hHeld ?_ ?_
      rotate_left
      ·rintro w' ⟨s0, s1, s2, s3, s4, s5, s6, s7, s8, s9, s10, s11, s12, s13, s14, s15⟩
       go_simp
       with_reducible rfl
      rotate_left
      ·simp only [Act.put, s1, s2, s3, i64_w, i32_w]
       rfl
      refine take_ (i := 5) (N := some 25) (v := ?_) (a' := ?_) #[true, false, true, false, false, true, false, false, false, false, false, false, false, false, false, false, false, false, false, false, false, false, false, false, false, false, false, false, false, false, false, false, false, false, false, false, false, false] rfl rfl (take_ofW HT_.out HW_.out (by kernel_rfl)) (fun _ _ _ h => h) (Or.inl ⟨by rfl, ?_⟩) hHeld ?_ ?_
      rotate_left
      ·rintro w' ⟨s0, s1, s2, s3, s4, s5, s6, s7, s8, s9, s10, s11, s12, s13, s14, s15⟩
       go_simp
       with_reducible rfl
      rotate_left
      ·simp only [Act.put, s1, s2, s3, i64_w, i32_w]
       rfl
      refine take_ (i := 7) (N := some 27) (v := ?_) (a' := ?_) #[true, false, true, false, false, true, false, true, false, false, false, false, false, false, false, false, false, false, false, false, false, false, false, false, false, false, false, false, false, false, false, false, false, false, false, false, false, false] rfl rfl (take_ofW HT_.out HW_.out (by kernel_rfl)) (fun _ _ _ h => h) (Or.inl ⟨by rfl, ?_⟩) hHeld ?_ ?_
      rotate_left
      ·rintro w' ⟨s0, s1, s2, s3, s4, s5, s6, s7, s8, s9, s10, s11, s12, s13, s14, s15⟩
       go_simp
       with_reducible rfl
      rotate_left
      ·simp only [Act.put, s1, s2, s3, i64_w, i32_w]
       rfl
      refine one_ (i := 1) (N := some 21) #[true, true, true, false, false, true, false, true, false, false, false, false, false, false, false, false, false, false, false, false, false, false, false, false, false, false, false, false, false, false, false, false, false, false, false, false, false, false] rfl rfl (one_of HT_.out (by kernel_rfl)) (by decide) (fun K hK => ?_)
      refine goes_ Try.func19 (by kernel_rfl) rfl #[.agg #[.int .u64 t166, .int .u64 t167, .int .u64 t168, .int .u64 t169]] (by rfl) rfl rfl (by (try simp only [List.map_toArray, List.map_cons, List.map_nil]); first | done | rfl | (simp only [List.length_drop, List.length_take]; rfl)) ?_
      with_reducible refine (byteset_Count.calls t166 t167 t168 t169 t176 _ A7.out).mono ?_
      rintro e w41 ⟨rfl, hb⟩
      refine ⟨_, rfl, ?_⟩
      have n0_ := kb BK163 hb
      have n1_ := kb BK164 hb
      have n2_ := kb BK174 hb
      have n3_ := kb BK175 hb
      have n4_ := ks HB hb
      clear BK163 BK164 BK174 BK175 HB
      have BK163 := n0_
      have BK164 := n1_
      have BK174 := n2_
      have BK175 := n3_
      have HB := n4_
      clear n0_ n1_ n2_ n3_ n4_
      (try clear hb)
      refine hK.out _ _ ⟨bc BK174 0 rfl, bc BK174 1 rfl, bc BK174 2 rfl, bc BK174 3 rfl, bc BK175 0 rfl, bc BK175 1 rfl, bc BK175 2 rfl, bc BK175 3 rfl, bc BK163 0 rfl, bc BK163 1 rfl, bc BK163 2 rfl, bc BK163 3 rfl, bc BK164 0 rfl, bc BK164 1 rfl, bc BK164 2 rfl, bc BK164 3 rfl⟩ (fun hHeld => ?_)
      clear hK K
      refine norm_ (a' := ?_) ?_ ?_
      rotate_left
      ·show Act.put _ (some 21) _ = _
       simp only [Act.put, s1, s2, s3, i64_w, i32_w]
       rfl
      refine one_ (i := 3) (N := some 23) #[true, true, true, true, false, true, false, true, false, false, false, false, false, false, false, false, false, false, false, false, false, false, false, false, false, false, false, false, false, false, false, false, false, false, false, false, false, false] rfl rfl (one_of HT_.out (by kernel_rfl)) (by decide) (fun K hK => ?_)
      refine goes_ Try.func19 (by kernel_rfl) rfl #[.agg #[.int .u64 t170, .int .u64 t171, .int .u64 t172, .int .u64 t173]] (by rfl) rfl rfl (by (try simp only [List.map_toArray, List.map_cons, List.map_nil]); first | done | rfl | (simp only [List.length_drop, List.length_take]; rfl)) ?_
      with_reducible refine (byteset_Count.calls t170 t171 t172 t173 t177 _ A8.out).mono ?_
      rintro e w42 ⟨rfl, hb⟩
      refine ⟨_, rfl, ?_⟩
      have n0_ := kb BK163 hb
      have n1_ := kb BK164 hb
      have n2_ := kb BK174 hb
      have n3_ := kb BK175 hb
      have n4_ := ks HB hb
      clear BK163 BK164 BK174 BK175 HB
      have BK163 := n0_
      have BK164 := n1_
      have BK174 := n2_
      have BK175 := n3_
      have HB := n4_
      clear n0_ n1_ n2_ n3_ n4_
      (try clear hb)
      refine hK.out _ _ ⟨bc BK174 0 rfl, bc BK174 1 rfl, bc BK174 2 rfl, bc BK174 3 rfl, bc BK175 0 rfl, bc BK175 1 rfl, bc BK175 2 rfl, bc BK175 3 rfl, bc BK163 0 rfl, bc BK163 1 rfl, bc BK163 2 rfl, bc BK163 3 rfl, bc BK164 0 rfl, bc BK164 1 rfl, bc BK164 2 rfl, bc BK164 3 rfl⟩ (fun hHeld => ?_)
      clear hK K
      refine norm_ (a' := ?_) ?_ ?_
      rotate_left
      ·show Act.put _ (some 23) _ = _
       simp only [Act.put, s1, s2, s3, i64_w, i32_w]
       rfl
      refine pure_ (i := 4) (N := some 24) (v := ?_) (a' := ?_) #[true, true, true, true, true, true, false, true, false, false, false, false, false, false, false, false, false, false, false, false, false, false, false, false, false, false, false, false, false, false, false, false, false, false, false, false, false, false] rfl rfl (any_of HT_.out (by kernel_rfl)) (fun _ _ _ h => h) (Or.inl ⟨by rfl, ?_⟩) ?_ ?_
      rotate_left
      ·intro w'
       go_simp
       with_reducible rfl
      rotate_left
      ·simp only [Act.put, s1, s2, s3, i64_w, i32_w]
       rfl
      refine one_ (i := 6) (N := some 26) #[true, true, true, true, true, true, true, true, false, false, false, false, false, false, false, false, false, false, false, false, false, false, false, false, false, false, false, false, false, false, false, false, false, false, false, false, false, false] rfl rfl (one_of HT_.out (by kernel_rfl)) (by decide) (fun K hK => ?_)
      refine goes_ Try.func19 (by kernel_rfl) rfl #[.agg #[.int .u64 a0_0, .int .u64 a0_1, .int .u64 a0_2, .int .u64 a0_3]] (by rfl) rfl rfl (by (try simp only [List.map_toArray, List.map_cons, List.map_nil]); first | done | rfl | (simp only [List.length_drop, List.length_take]; rfl)) ?_
      with_reducible refine (byteset_Count.calls a0_0 a0_1 a0_2 a0_3 t178 _ A9.out).mono ?_
      rintro e w43 ⟨rfl, hb⟩
      refine ⟨_, rfl, ?_⟩
      have n0_ := kb BK163 hb
      have n1_ := kb BK164 hb
      have n2_ := kb BK174 hb
      have n3_ := kb BK175 hb
      have n4_ := ks HB hb
      clear BK163 BK164 BK174 BK175 HB
      have BK163 := n0_
      have BK164 := n1_
      have BK174 := n2_
      have BK175 := n3_
      have HB := n4_
      clear n0_ n1_ n2_ n3_ n4_
      (try clear hb)
      refine hK.out _ _ ⟨bc BK174 0 rfl, bc BK174 1 rfl, bc BK174 2 rfl, bc BK174 3 rfl, bc BK175 0 rfl, bc BK175 1 rfl, bc BK175 2 rfl, bc BK175 3 rfl, bc BK163 0 rfl, bc BK163 1 rfl, bc BK163 2 rfl, bc BK163 3 rfl, bc BK164 0 rfl, bc BK164 1 rfl, bc BK164 2 rfl, bc BK164 3 rfl⟩ (fun hHeld => ?_)
      clear hK K
      refine norm_ (a' := ?_) ?_ ?_
      rotate_left
      ·show Act.put _ (some 26) _ = _
       simp only [Act.put, s1, s2, s3, i64_w, i32_w]
       rfl
      refine one_ (i := 8) (N := some 28) #[true, true, true, true, true, true, true, true, true, false, false, false, false, false, false, false, false, false, false, false, false, false, false, false, false, false, false, false, false, false, false, false, false, false, false, false, false, false] rfl rfl (one_of HT_.out (by kernel_rfl)) (by decide) (fun K hK => ?_)
      refine goes_ Try.func19 (by kernel_rfl) rfl #[.agg #[.int .u64 a1_0, .int .u64 a1_1, .int .u64 a1_2, .int .u64 a1_3]] (by rfl) rfl rfl (by (try simp only [List.map_toArray, List.map_cons, List.map_nil]); first | done | rfl | (simp only [List.length_drop, List.length_take]; rfl)) ?_
      with_reducible refine (byteset_Count.calls a1_0 a1_1 a1_2 a1_3 t179 _ A10.out).mono ?_
      rintro e w44 ⟨rfl, hb⟩
      refine ⟨_, rfl, ?_⟩
      have n0_ := kb BK163 hb
      have n1_ := kb BK164 hb
      have n2_ := kb BK174 hb
      have n3_ := kb BK175 hb
      have n4_ := ks HB hb
      clear BK163 BK164 BK174 BK175 HB
      have BK163 := n0_
      have BK164 := n1_
      have BK174 := n2_
      have BK175 := n3_
      have HB := n4_
      clear n0_ n1_ n2_ n3_ n4_
      (try clear hb)
      refine hK.out _ _ ⟨bc BK174 0 rfl, bc BK174 1 rfl, bc BK174 2 rfl, bc BK174 3 rfl, bc BK175 0 rfl, bc BK175 1 rfl, bc BK175 2 rfl, bc BK175 3 rfl, bc BK163 0 rfl, bc BK163 1 rfl, bc BK163 2 rfl, bc BK163 3 rfl, bc BK164 0 rfl, bc BK164 1 rfl, bc BK164 2 rfl, bc BK164 3 rfl⟩ (fun hHeld => ?_)
      clear hK K
      refine norm_ (a' := ?_) ?_ ?_
      rotate_left
      ·show Act.put _ (some 28) _ = _
       simp only [Act.put, s1, s2, s3, i64_w, i32_w]
       rfl
      refine pure_ (i := 9) (N := some 29) (v := ?_) (a' := ?_) #[true, true, true, true, true, true, true, true, true, true, false, false, false, false, false, false, false, false, false, false, false, false, false, false, false, false, false, false, false, false, false, false, false, false, false, false, false, false] rfl rfl (any_of HT_.out (by kernel_rfl)) (fun _ _ _ h => h) (Or.inl ⟨by rfl, ?_⟩) ?_ ?_
      rotate_left
      ·intro w'
       go_simp
       with_reducible rfl
      rotate_left
      ·simp only [Act.put, s1, s2, s3, i64_w, i32_w]
       rfl
      refine pure_ (i := 10) (N := some 30) (v := ?_) (a' := ?_) #[true, true, true, true, true, true, true, true, true, true, true, false, false, false, false, false, false, false, false, false, false, false, false, false, false, false, false, false, false, false, false, false, false, false, false, false, false, false] rfl rfl (any_of HT_.out (by kernel_rfl)) (fun _ _ _ h => h) (Or.inl ⟨by rfl, ?_⟩) ?_ ?_
      rotate_left
      ·intro w'
       go_simp
       with_reducible rfl
      rotate_left
      ·simp only [Act.put, s1, s2, s3, i64_w, i32_w]
       rfl
      refine pure_ (i := 11) (N := some 31) (v := ?_) (a' := ?_) #[true, true, true, true, true, true, true, true, true, true, true, true, false, false, false, false, false, false, false, false, false, false, false, false, false, false, false, false, false, false, false, false, false, false, false, false, false, false] rfl rfl (any_of HT_.out (by kernel_rfl)) (fun _ _ _ h => h) (Or.inl ⟨by rfl, ?_⟩) ?_ ?_
      rotate_left
      ·intro w'
       go_simp
       with_reducible rfl
      rotate_left
      ·simp only [Act.put, s1, s2, s3, i64_w, i32_w]
       rfl
      refine take_ (i := 12) (N := some 32) (v := ?_) (a' := ?_) #[true, true, true, true, true, true, true, true, true, true, true, true, true, false, false, false, false, false, false, false, false, false, false, false, false, false, false, false, false, false, false, false, false, false, false, false, false, false] rfl rfl (take_ofW HT_.out HW_.out (by kernel_rfl)) (fun _ _ _ h => h) (Or.inl ⟨by rfl, ?_⟩) hHeld ?_ ?_
      rotate_left
      ·rintro w' ⟨s0, s1, s2, s3, s4, s5, s6, s7, s8, s9, s10, s11, s12, s13, s14, s15⟩
       go_simp
       with_reducible rfl
      rotate_left
      ·simp only [Act.put, s1, s2, s3, i64_w, i32_w]
       rfl
      refine take_ (i := 13) (N := some 33) (v := ?_) (a' := ?_) #[true, true, true, true, true, true, true, true, true, true, true, true, true, true, false, false, false, false, false, false, false, false, false, false, false, false, false, false, false, false, false, false, false, false, false, false, false, false] rfl rfl (take_ofW HT_.out HW_.out (by kernel_rfl)) (fun _ _ _ h => h) (Or.inl ⟨by rfl, ?_⟩) hHeld ?_ ?_
      rotate_left
      ·rintro w' ⟨s0, s1, s2, s3, s4, s5, s6, s7, s8, s9, s10, s11, s12, s13, s14, s15⟩
       go_simp
       with_reducible rfl
      rotate_left
      ·simp only [Act.put, s1, s2, s3, i64_w, i32_w]
       rfl
      refine take_ (i := 15) (N := some 35) (v := ?_) (a' := ?_) #[true, true, true, true, true, true, true, true, true, true, true, true, true, true, false, true, false, false, false, false, false, false, false, false, false, false, false, false, false, false, false, false, false, false, false, false, false, false] rfl rfl (take_ofW HT_.out HW_.out (by kernel_rfl)) (fun _ _ _ h => h) (Or.inl ⟨by rfl, ?_⟩) hHeld ?_ ?_
      rotate_left
      ·rintro w' ⟨s0, s1, s2, s3, s4, s5, s6, s7, s8, s9, s10, s11, s12, s13, s14, s15⟩
       go_simp
       with_reducible rfl
      rotate_left
      ·simp only [Act.put, s1, s2, s3, i64_w, i32_w]
       rfl
      refine take_ (i := 16) (N := some 36) (v := ?_) (a' := ?_) #[true, true, true, true, true, true, true, true, true, true, true, true, true, true, false, true, true, false, false, false, false, false, false, false, false, false, false, false, false, false, false, false, false, false, false, false, false, false] rfl rfl (take_ofW HT_.out HW_.out (by kernel_rfl)) (fun _ _ _ h => h) (Or.inl ⟨by rfl, ?_⟩) hHeld ?_ ?_
      rotate_left
      ·rintro w' ⟨s0, s1, s2, s3, s4, s5, s6, s7, s8, s9, s10, s11, s12, s13, s14, s15⟩
       go_simp
       with_reducible rfl
      rotate_left
      ·simp only [Act.put, s1, s2, s3, i64_w, i32_w]
       rfl
      refine one_ (i := 14) (N := some 34) #[true, true, true, true, true, true, true, true, true, true, true, true, true, true, true, true, true, false, false, false, false, false, false, false, false, false, false, false, false, false, false, false, false, false, false, false, false, false] rfl rfl (one_of HT_.out (by kernel_rfl)) (by decide) (fun K hK => ?_)
      refine goes_ Try.func18 (by kernel_rfl) rfl #[.agg #[.int .u64 t166, .int .u64 t167, .int .u64 t168, .int .u64 t169], .agg #[.int .u64 a1_0, .int .u64 a1_1, .int .u64 a1_2, .int .u64 a1_3]] (by rfl) rfl rfl (by (try simp only [List.map_toArray, List.map_cons, List.map_nil]); first | done | rfl | (simp only [List.length_drop, List.length_take]; rfl)) ?_
      with_reducible refine (byteset_Minus.calls t166 t167 t168 t169 a1_0 a1_1 a1_2 a1_3 t180 t181 t182 t183 _ A12.out).mono ?_
      rintro e w45 ⟨rfl, hb⟩
      refine ⟨_, rfl, ?_⟩
      have n0_ := kb BK163 hb
      have n1_ := kb BK164 hb
      have n2_ := kb BK174 hb
      have n3_ := kb BK175 hb
      have n4_ := ks HB hb
      clear BK163 BK164 BK174 BK175 HB
      have BK163 := n0_
      have BK164 := n1_
      have BK174 := n2_
      have BK175 := n3_
      have HB := n4_
      clear n0_ n1_ n2_ n3_ n4_
      (try clear hb)
      refine hK.out _ _ ⟨bc BK174 0 rfl, bc BK174 1 rfl, bc BK174 2 rfl, bc BK174 3 rfl, bc BK175 0 rfl, bc BK175 1 rfl, bc BK175 2 rfl, bc BK175 3 rfl, bc BK163 0 rfl, bc BK163 1 rfl, bc BK163 2 rfl, bc BK163 3 rfl, bc BK164 0 rfl, bc BK164 1 rfl, bc BK164 2 rfl, bc BK164 3 rfl⟩ (fun hHeld => ?_)
      clear hK K
      refine norm_ (a' := ?_) ?_ ?_
      rotate_left
      ·show Act.put _ (some 34) _ = _
       simp only [Act.put, s1, s2, s3, i64_w, i32_w]
       rfl
      refine one_ (i := 17) (N := some 37) #[true, true, true, true, true, true, true, true, true, true, true, true, true, true, true, true, true, true, false, false, false, false, false, false, false, false, false, false, false, false, false, false, false, false, false, false, false, false] rfl rfl (one_of HT_.out (by kernel_rfl)) (by decide) (fun K hK => ?_)
      refine goes_ Try.func18 (by kernel_rfl) rfl #[.agg #[.int .u64 a0_0, .int .u64 a0_1, .int .u64 a0_2, .int .u64 a0_3], .agg #[.int .u64 a1_0, .int .u64 a1_1, .int .u64 a1_2, .int .u64 a1_3]] (by rfl) rfl rfl (by (try simp only [List.map_toArray, List.map_cons, List.map_nil]); first | done | rfl | (simp only [List.length_drop, List.length_take]; rfl)) ?_
      with_reducible refine (byteset_Minus.calls a0_0 a0_1 a0_2 a0_3 a1_0 a1_1 a1_2 a1_3 t184 t185 t186 t187 _ A13.out).mono ?_
      rintro e w46 ⟨rfl, hb⟩
      refine ⟨_, rfl, ?_⟩
      have n0_ := kb BK163 hb
      have n1_ := kb BK164 hb
      have n2_ := kb BK174 hb
      have n3_ := kb BK175 hb
      have n4_ := ks HB hb
      clear BK163 BK164 BK174 BK175 HB
      have BK163 := n0_
      have BK164 := n1_
      have BK174 := n2_
      have BK175 := n3_
      have HB := n4_
      clear n0_ n1_ n2_ n3_ n4_
      (try clear hb)
      refine hK.out _ _ ⟨bc BK174 0 rfl, bc BK174 1 rfl, bc BK174 2 rfl, bc BK174 3 rfl, bc BK175 0 rfl, bc BK175 1 rfl, bc BK175 2 rfl, bc BK175 3 rfl, bc BK163 0 rfl, bc BK163 1 rfl, bc BK163 2 rfl, bc BK163 3 rfl, bc BK164 0 rfl, bc BK164 1 rfl, bc BK164 2 rfl, bc BK164 3 rfl⟩ (fun hHeld => ?_)
      clear hK K
      refine norm_ (a' := ?_) ?_ ?_
      rotate_left
      ·show Act.put _ (some 37) _ = _
       simp only [Act.put, s1, s2, s3, i64_w, i32_w]
       rfl
      refine pure_ (i := 18) (N := some 38) (v := ?_) (a' := ?_) #[true, true, true, true, true, true, true, true, true, true, true, true, true, true, true, true, true, true, true, false, false, false, false, false, false, false, false, false, false, false, false, false, false, false, false, false, false, false] rfl rfl (any_of HT_.out (by kernel_rfl)) (fun _ _ _ h => h) (Or.inl ⟨by rfl, ?_⟩) ?_ ?_
      rotate_left
      ·intro w'
       go_simp
       with_reducible rfl
      rotate_left
      ·simp only [Act.put, s1, s2, s3, i64_w, i32_w]
       rfl
      refine pure_ (i := 19) (N := some 39) (v := ?_) (a' := ?_) #[true, true, true, true, true, true, true, true, true, true, true, true, true, true, true, true, true, true, true, true, false, false, false, false, false, false, false, false, false, false, false, false, false, false, false, false, false, false] rfl rfl (any_of HT_.out (by kernel_rfl)) (fun _ _ _ h => h) (Or.inl ⟨by rfl, ?_⟩) ?_ ?_
      rotate_left
      ·intro w'
       go_simp
       with_reducible rfl
      rotate_left
      ·simp only [Act.put, s1, s2, s3, i64_w, i32_w]
       rfl
      refine pure_ (i := 20) (N := some 40) (v := ?_) (a' := ?_) #[true, true, true, true, true, true, true, true, true, true, true, true, true, true, true, true, true, true, true, true, true, false, false, false, false, false, false, false, false, false, false, false, false, false, false, false, false, false] rfl rfl (any_of HT_.out (by kernel_rfl)) (fun _ _ _ h => h) (Or.inl ⟨by rfl, ?_⟩) ?_ ?_
      rotate_left
      ·intro w'
       go_simp
       with_reducible rfl
      rotate_left
      ·simp only [Act.put, s1, s2, s3, i64_w, i32_w]
       rfl
      refine take_ (i := 21) (N := some 41) (v := ?_) (a' := ?_) #[true, true, true, true, true, true, true, true, true, true, true, true, true, true, true, true, true, true, true, true, true, true, false, false, false, false, false, false, false, false, false, false, false, false, false, false, false, false] rfl rfl (take_ofW HT_.out HW_.out (by kernel_rfl)) (fun _ _ _ h => h) (Or.inl ⟨by rfl, ?_⟩) hHeld ?_ ?_
      rotate_left
      ·rintro w' ⟨s0, s1, s2, s3, s4, s5, s6, s7, s8, s9, s10, s11, s12, s13, s14, s15⟩
       go_simp
       with_reducible rfl
      rotate_left
      ·simp only [Act.put, s1, s2, s3, i64_w, i32_w]
       rfl
      refine take_ (i := 22) (N := some 42) (v := ?_) (a' := ?_) #[true, true, true, true, true, true, true, true, true, true, true, true, true, true, true, true, true, true, true, true, true, true, true, false, false, false, false, false, false, false, false, false, false, false, false, false, false, false] rfl rfl (take_ofW HT_.out HW_.out (by kernel_rfl)) (fun _ _ _ h => h) (Or.inl ⟨by rfl, ?_⟩) hHeld ?_ ?_
      rotate_left
      ·rintro w' ⟨s0, s1, s2, s3, s4, s5, s6, s7, s8, s9, s10, s11, s12, s13, s14, s15⟩
       go_simp
       with_reducible rfl
      rotate_left
      ·simp only [Act.put, s1, s2, s3, i64_w, i32_w]
       rfl
      refine take_ (i := 23) (N := some 43) (v := ?_) (a' := ?_) #[true, true, true, true, true, true, true, true, true, true, true, true, true, true, true, true, true, true, true, true, true, true, true, true, false, false, false, false, false, false, false, false, false, false, false, false, false, false] rfl rfl (take_ofW HT_.out HW_.out (by kernel_rfl)) (fun _ _ _ h => h) (Or.inl ⟨by rfl, ?_⟩) hHeld ?_ ?_
      rotate_left
      ·rintro w' ⟨s0, s1, s2, s3, s4, s5, s6, s7, s8, s9, s10, s11, s12, s13, s14, s15⟩
       go_simp
       with_reducible rfl
      rotate_left
      ·simp only [Act.put, s1, s2, s3, i64_w, i32_w]
       rfl
      refine take_ (i := 26) (N := some 46) (v := ?_) (a' := ?_) #[true, true, true, true, true, true, true, true, true, true, true, true, true, true, true, true, true, true, true, true, true, true, true, true, false, false, true, false, false, false, false, false, false, false, false, false, false, false] rfl rfl (take_ofW HT_.out HW_.out (by kernel_rfl)) (fun _ _ _ h => h) (Or.inl ⟨by rfl, ?_⟩) hHeld ?_ ?_
      rotate_left
      ·rintro w' ⟨s0, s1, s2, s3, s4, s5, s6, s7, s8, s9, s10, s11, s12, s13, s14, s15⟩
       go_simp
       with_reducible rfl
      rotate_left
      ·simp only [Act.put, s1, s2, s3, i64_w, i32_w]
       rfl
      refine one_ (i := 24) (N := some 44) #[true, true, true, true, true, true, true, true, true, true, true, true, true, true, true, true, true, true, true, true, true, true, true, true, true, false, true, false, false, false, false, false, false, false, false, false, false, false] rfl rfl (one_of HT_.out (by kernel_rfl)) (by decide) (fun K hK => ?_)
      refine goes_ Try.func18 (by kernel_rfl) rfl #[.agg #[.int .u64 a0_0, .int .u64 a0_1, .int .u64 a0_2, .int .u64 a0_3], .agg #[.int .u64 a1_0, .int .u64 a1_1, .int .u64 a1_2, .int .u64 a1_3]] (by rfl) rfl rfl (by (try simp only [List.map_toArray, List.map_cons, List.map_nil]); first | done | rfl | (simp only [List.length_drop, List.length_take]; rfl)) ?_
      with_reducible refine (byteset_Minus.calls a0_0 a0_1 a0_2 a0_3 a1_0 a1_1 a1_2 a1_3 t188 t189 t190 t191 _ A15.out).mono ?_
      rintro e w47 ⟨rfl, hb⟩
      refine ⟨_, rfl, ?_⟩
      have n0_ := kb BK163 hb
      have n1_ := kb BK164 hb
      have n2_ := kb BK174 hb
      have n3_ := kb BK175 hb
      have n4_ := ks HB hb
      clear BK163 BK164 BK174 BK175 HB
      have BK163 := n0_
      have BK164 := n1_
      have BK174 := n2_
      have BK175 := n3_
      have HB := n4_
      clear n0_ n1_ n2_ n3_ n4_
      (try clear hb)
      refine hK.out _ _ ⟨bc BK174 0 rfl, bc BK174 1 rfl, bc BK174 2 rfl, bc BK174 3 rfl, bc BK175 0 rfl, bc BK175 1 rfl, bc BK175 2 rfl, bc BK175 3 rfl, bc BK163 0 rfl, bc BK163 1 rfl, bc BK163 2 rfl, bc BK163 3 rfl, bc BK164 0 rfl, bc BK164 1 rfl, bc BK164 2 rfl, bc BK164 3 rfl⟩ (fun hHeld => ?_)
      clear hK K
      refine norm_ (a' := ?_) ?_ ?_
      rotate_left
      ·show Act.put _ (some 44) _ = _
       simp only [Act.put, s1, s2, s3, i64_w, i32_w]
       rfl
      refine one_ (i := 25) (N := some 45) #[true, true, true, true, true, true, true, true, true, true, true, true, true, true, true, true, true, true, true, true, true, true, true, true, true, true, true, false, false, false, false, false, false, false, false, false, false, false] rfl rfl (one_of HT_.out (by kernel_rfl)) (by decide) (fun K hK => ?_)
      refine goes_ Try.func15 (by kernel_rfl) rfl #[.agg #[.int .u64 t170, .int .u64 t171, .int .u64 t172, .int .u64 t173], .agg #[.int .u64 t188, .int .u64 t189, .int .u64 t190, .int .u64 t191]] (by rfl) rfl rfl (by (try simp only [List.map_toArray, List.map_cons, List.map_nil]); first | done | rfl | (simp only [List.length_drop, List.length_take]; rfl)) ?_
      with_reducible refine (byteset_Or.calls t170 t171 t172 t173 t188 t189 t190 t191 t192 t193 t194 t195 _ A16.out).mono ?_
      rintro e w48 ⟨rfl, hb⟩
      refine ⟨_, rfl, ?_⟩
      have n0_ := kb BK163 hb
      have n1_ := kb BK164 hb
      have n2_ := kb BK174 hb
      have n3_ := kb BK175 hb
      have n4_ := ks HB hb
      clear BK163 BK164 BK174 BK175 HB
      have BK163 := n0_
      have BK164 := n1_
      have BK174 := n2_
      have BK175 := n3_
      have HB := n4_
      clear n0_ n1_ n2_ n3_ n4_
      (try clear hb)
      refine hK.out _ _ ⟨bc BK174 0 rfl, bc BK174 1 rfl, bc BK174 2 rfl, bc BK174 3 rfl, bc BK175 0 rfl, bc BK175 1 rfl, bc BK175 2 rfl, bc BK175 3 rfl, bc BK163 0 rfl, bc BK163 1 rfl, bc BK163 2 rfl, bc BK163 3 rfl, bc BK164 0 rfl, bc BK164 1 rfl, bc BK164 2 rfl, bc BK164 3 rfl⟩ (fun hHeld => ?_)
      clear hK K
      refine norm_ (a' := ?_) ?_ ?_
      rotate_left
      ·show Act.put _ (some 45) _ = _
       simp only [Act.put, s1, s2, s3, i64_w, i32_w]
       rfl
      refine pure_ (i := 27) (N := some 47) (v := ?_) (a' := ?_) #[true, true, true, true, true, true, true, true, true, true, true, true, true, true, true, true, true, true, true, true, true, true, true, true, true, true, true, true, false, false, false, false, false, false, false, false, false, false] rfl rfl (any_of HT_.out (by kernel_rfl)) (fun _ _ _ h => h) (Or.inl ⟨by rfl, ?_⟩) ?_ ?_
      rotate_left
      ·intro w'
       go_simp
       with_reducible rfl
      rotate_left
      ·simp only [Act.put, s1, s2, s3, i64_w, i32_w]
       rfl
      refine pure_ (i := 28) (N := some 48) (v := ?_) (a' := ?_) #[true, true, true, true, true, true, true, true, true, true, true, true, true, true, true, true, true, true, true, true, true, true, true, true, true, true, true, true, true, false, false, false, false, false, false, false, false, false] rfl rfl (any_of HT_.out (by kernel_rfl)) (fun _ _ _ h => h) (Or.inl ⟨by rfl, ?_⟩) ?_ ?_
      rotate_left
      ·intro w'
       go_simp
       with_reducible rfl
      rotate_left
      ·simp only [Act.put, s1, s2, s3, i64_w, i32_w]
       rfl
      refine pure_ (i := 29) (N := some 49) (v := ?_) (a' := ?_) #[true, true, true, true, true, true, true, true, true, true, true, true, true, true, true, true, true, true, true, true, true, true, true, true, true, true, true, true, true, true, false, false, false, false, false, false, false, false] rfl rfl (any_of HT_.out (by kernel_rfl)) (fun _ _ _ h => h) (Or.inl ⟨by rfl, ?_⟩) ?_ ?_
      rotate_left
      ·intro w'
       go_simp
       with_reducible rfl
      rotate_left
      ·simp only [Act.put, s1, s2, s3, i64_w, i32_w]
       rfl
      refine pure_ (i := 35) (N := some 55) (v := ?_) (a' := ?_) #[true, true, true, true, true, true, true, true, true, true, true, true, true, true, true, true, true, true, true, true, true, true, true, true, true, true, true, true, true, true, false, false, false, false, false, true, false, false] rfl rfl (any_of HT_.out (by kernel_rfl)) (fun _ _ _ h => h) (Or.inl ⟨by rfl, ?_⟩) ?_ ?_
      rotate_left
      ·intro w'
       go_simp
       with_reducible rfl
      rotate_left
      ·simp only [Act.put, s1, s2, s3, i64_w, i32_w]
       rfl
      refine take_ (i := 30) (N := some 50) (v := ?_) (a' := ?_) #[true, true, true, true, true, true, true, true, true, true, true, true, true, true, true, true, true, true, true, true, true, true, true, true, true, true, true, true, true, true, true, false, false, false, false, true, false, false] rfl rfl (take_ofW HT_.out HW_.out (by kernel_rfl)) (fun _ _ _ h => h) (Or.inl ⟨by rfl, ?_⟩) hHeld ?_ ?_
      rotate_left
      ·rintro w' ⟨s0, s1, s2, s3, s4, s5, s6, s7, s8, s9, s10, s11, s12, s13, s14, s15⟩
       go_simp
       with_reducible rfl
      rotate_left
      ·simp only [Act.put, s1, s2, s3, i64_w, i32_w]
       rfl
      refine take_ (i := 31) (N := some 51) (v := ?_) (a' := ?_) #[true, true, true, true, true, true, true, true, true, true, true, true, true, true, true, true, true, true, true, true, true, true, true, true, true, true, true, true, true, true, true, true, false, false, false, true, false, false] rfl rfl (take_ofW HT_.out HW_.out (by kernel_rfl)) (fun _ _ _ h => h) (Or.inl ⟨by rfl, ?_⟩) hHeld ?_ ?_
      rotate_left
      ·rintro w' ⟨s0, s1, s2, s3, s4, s5, s6, s7, s8, s9, s10, s11, s12, s13, s14, s15⟩
       go_simp
       with_reducible rfl
      rotate_left
      ·simp only [Act.put, s1, s2, s3, i64_w, i32_w]
       rfl
      refine take_ (i := 33) (N := some 53) (v := ?_) (a' := ?_) #[true, true, true, true, true, true, true, true, true, true, true, true, true, true, true, true, true, true, true, true, true, true, true, true, true, true, true, true, true, true, true, true, false, true, false, true, false, false] rfl rfl (take_ofW HT_.out HW_.out (by kernel_rfl)) (fun _ _ _ h => h) (Or.inl ⟨by rfl, ?_⟩) hHeld ?_ ?_
      rotate_left
      ·rintro w' ⟨s0, s1, s2, s3, s4, s5, s6, s7, s8, s9, s10, s11, s12, s13, s14, s15⟩
       go_simp
       with_reducible rfl
      rotate_left
      ·simp only [Act.put, s1, s2, s3, i64_w, i32_w]
       rfl
      refine one_ (i := 32) (N := some 52) #[true, true, true, true, true, true, true, true, true, true, true, true, true, true, true, true, true, true, true, true, true, true, true, true, true, true, true, true, true, true, true, true, true, true, false, true, false, false] rfl rfl (one_of HT_.out (by kernel_rfl)) (by decide) (fun K hK => ?_)
      refine goes_ Try.func18 (by kernel_rfl) rfl #[.agg #[.int .u64 a0_0, .int .u64 a0_1, .int .u64 a0_2, .int .u64 a0_3], .agg #[.int .u64 a1_0, .int .u64 a1_1, .int .u64 a1_2, .int .u64 a1_3]] (by rfl) rfl rfl (by (try simp only [List.map_toArray, List.map_cons, List.map_nil]); first | done | rfl | (simp only [List.length_drop, List.length_take]; rfl)) ?_
      with_reducible refine (byteset_Minus.calls a0_0 a0_1 a0_2 a0_3 a1_0 a1_1 a1_2 a1_3 t196 t197 t198 t199 _ A18.out).mono ?_
      rintro e w49 ⟨rfl, hb⟩
      refine ⟨_, rfl, ?_⟩
      have n0_ := kb BK163 hb
      have n1_ := kb BK164 hb
      have n2_ := kb BK174 hb
      have n3_ := kb BK175 hb
      have n4_ := ks HB hb
      clear BK163 BK164 BK174 BK175 HB
      have BK163 := n0_
      have BK164 := n1_
      have BK174 := n2_
      have BK175 := n3_
      have HB := n4_
      clear n0_ n1_ n2_ n3_ n4_
      (try clear hb)
      refine hK.out _ _ ⟨bc BK174 0 rfl, bc BK174 1 rfl, bc BK174 2 rfl, bc BK174 3 rfl, bc BK175 0 rfl, bc BK175 1 rfl, bc BK175 2 rfl, bc BK175 3 rfl, bc BK163 0 rfl, bc BK163 1 rfl, bc BK163 2 rfl, bc BK163 3 rfl, bc BK164 0 rfl, bc BK164 1 rfl, bc BK164 2 rfl, bc BK164 3 rfl⟩ (fun hHeld => ?_)
      clear hK K
      refine norm_ (a' := ?_) ?_ ?_
      rotate_left
      ·show Act.put _ (some 52) _ = _
       simp only [Act.put, s1, s2, s3, i64_w, i32_w]
       rfl
      refine one_ (i := 34) (N := some 54) #[true, true, true, true, true, true, true, true, true, true, true, true, true, true, true, true, true, true, true, true, true, true, true, true, true, true, true, true, true, true, true, true, true, true, true, true, false, false] rfl rfl (one_of HT_.out (by kernel_rfl)) (by decide) (fun K hK => ?_)
      refine goes_ Try.func17 (by kernel_rfl) rfl #[.agg #[.int .u64 t196, .int .u64 t197, .int .u64 t198, .int .u64 t199], .agg #[.int .u64 a1_0, .int .u64 a1_1, .int .u64 a1_2, .int .u64 a1_3]] (by rfl) rfl rfl (by (try simp only [List.map_toArray, List.map_cons, List.map_nil]); first | done | rfl | (simp only [List.length_drop, List.length_take]; rfl)) ?_
      with_reducible refine (byteset_And.calls t196 t197 t198 t199 a1_0 a1_1 a1_2 a1_3 t200 t201 t202 t203 _ A19.out).mono ?_
      rintro e w50 ⟨rfl, hb⟩
      refine ⟨_, rfl, ?_⟩
      have n0_ := kb BK163 hb
      have n1_ := kb BK164 hb
      have n2_ := kb BK174 hb
      have n3_ := kb BK175 hb
      have n4_ := ks HB hb
      clear BK163 BK164 BK174 BK175 HB
      have BK163 := n0_
      have BK164 := n1_
      have BK174 := n2_
      have BK175 := n3_
      have HB := n4_
      clear n0_ n1_ n2_ n3_ n4_
      (try clear hb)
      refine hK.out _ _ ⟨bc BK174 0 rfl, bc BK174 1 rfl, bc BK174 2 rfl, bc BK174 3 rfl, bc BK175 0 rfl, bc BK175 1 rfl, bc BK175 2 rfl, bc BK175 3 rfl, bc BK163 0 rfl, bc BK163 1 rfl, bc BK163 2 rfl, bc BK163 3 rfl, bc BK164 0 rfl, bc BK164 1 rfl, bc BK164 2 rfl, bc BK164 3 rfl⟩ (fun hHeld => ?_)
      clear hK K
      refine norm_ (a' := ?_) ?_ ?_
      rotate_left
      ·show Act.put _ (some 54) _ = _
       simp only [Act.put, s1, s2, s3, i64_w, i32_w]
       rfl
      refine pure_ (i := 36) (N := some 56) (v := ?_) (a' := ?_) #[true, true, true, true, true, true, true, true, true, true, true, true, true, true, true, true, true, true, true, true, true, true, true, true, true, true, true, true, true, true, true, true, true, true, true, true, true, false] rfl rfl (any_of HT_.out (by kernel_rfl)) (fun _ _ _ h => h) (Or.inl ⟨by rfl, ?_⟩) ?_ ?_
      rotate_left
      ·intro w'
       go_simp
       with_reducible rfl
      rotate_left
      ·simp only [Act.put, s1, s2, s3, i64_w, i32_w]
       rfl
      refine pure_ (i := 37) (N := some 57) (v := ?_) (a' := ?_) #[true, true, true, true, true, true, true, true, true, true, true, true, true, true, true, true, true, true, true, true, true, true, true, true, true, true, true, true, true, true, true, true, true, true, true, true, true, true] rfl rfl (any_of HT_.out (by kernel_rfl)) (fun _ _ _ h => h) (Or.inl ⟨by rfl, ?_⟩) ?_ ?_
      rotate_left
      ·intro w'
       go_simp
       with_reducible rfl
      rotate_left
      ·simp only [Act.put, s1, s2, s3, i64_w, i32_w]
       rfl
      refine done_ (done_of HT_.out (by kernel_rfl)) ?_
      try go_wp2_with (first | ((with_reducible refine gate_dst (N := 7) rfl ?_); refine box_event ?hg (N := 7) ?hd (cs := #[.int .u64 0, .int .u64 0, .int .u64 0, .int .u64 0]) (t := 24) ?hr ?_; (case hd => rfl); (case hg => rfl); (case hr => first | (go_simp; done) | (go_simp; rfl)); intro gb204 hg w51 hbox hb; have n0_ := Aside0.mk (blk_below (g := gb163) (o := .cells #[.int .u64 a0_0, .int .u64 a0_1, .int .u64 a0_2, .int .u64 a0_3] 24 (0, 0)) (by (with_reducible repeat (first | refine blk_drewN ?_ _ | refine blk_drew ?_ | refine blk_alloc ?_ _)); exact BK163.out) hb); have n1_ := Aside0.mk (blk_below (g := gb164) (o := .cells #[.int .u64 a1_0, .int .u64 a1_1, .int .u64 a1_2, .int .u64 a1_3] 24 (0, 0)) (by (with_reducible repeat (first | refine blk_drewN ?_ _ | refine blk_drew ?_ | refine blk_alloc ?_ _)); exact BK164.out) hb); have n2_ := Aside0.mk (blk_below (g := gb174) (o := .cells #[.int .u64 t166, .int .u64 t167, .int .u64 t168, .int .u64 t169] 24 (0, 0)) (by (with_reducible repeat (first | refine blk_drewN ?_ _ | refine blk_drew ?_ | refine blk_alloc ?_ _)); exact BK174.out) hb); have n3_ := Aside0.mk (blk_below (g := gb175) (o := .cells #[.int .u64 t170, .int .u64 t171, .int .u64 t172, .int .u64 t173] 24 (0, 0)) (by (with_reducible repeat (first | refine blk_drewN ?_ _ | refine blk_drew ?_ | refine blk_alloc ?_ _)); exact BK175.out) hb); have n4_ := Aside0.mk (below_step (by repeat (first | (with_reducible first | exact HB.out | apply below_alloc | apply pw_below_drewN | apply below_drew1 | refine below_set ?_ GE163.out | refine below_set ?_ GE164.out | refine below_set ?_ GE174.out | refine below_set ?_ GE175.out) | exact HB.out)) hb); have n5_ := Aside0.mk (hbox); have n6_ := Aside0.mk ((by rw [hg]; exact (below_size (by repeat (first | (with_reducible first | exact HB.out | apply below_alloc | apply pw_below_drewN | apply below_drew1 | refine below_set ?_ GE163.out | refine below_set ?_ GE164.out | refine below_set ?_ GE174.out | refine below_set ?_ GE175.out) | exact HB.out))) : w.heap.size ≤ gb204)); have n7_ := Aside0.mk ((by rw [hg]; exact (below_size (by repeat (first | (with_reducible first | exact HB.out | apply below_alloc | apply pw_below_drewN | apply below_drew1 | refine below_set ?_ GE163.out | refine below_set ?_ GE164.out | refine below_set ?_ GE174.out | refine below_set ?_ GE175.out) | exact HB.out))) : w.heap.size ≤ gb204)); have n8_ := Aside0.mk ((by rw [hg]; exact Nat.ne_of_lt (blk_lt (g := gb163) (o := .cells #[.int .u64 a0_0, .int .u64 a0_1, .int .u64 a0_2, .int .u64 a0_3] 24 (0, 0)) (by (with_reducible repeat (first | refine blk_drewN ?_ _ | refine blk_drew ?_ | refine blk_alloc ?_ _)); exact BK163.out)) : gb163 ≠ gb204)); have n9_ := Aside0.mk ((by rw [hg]; exact Nat.ne_of_gt (blk_lt (g := gb163) (o := .cells #[.int .u64 a0_0, .int .u64 a0_1, .int .u64 a0_2, .int .u64 a0_3] 24 (0, 0)) (by (with_reducible repeat (first | refine blk_drewN ?_ _ | refine blk_drew ?_ | refine blk_alloc ?_ _)); exact BK163.out)) : gb204 ≠ gb163)); have n10_ := Aside0.mk ((by rw [hg]; exact Nat.ne_of_lt (blk_lt (g := gb164) (o := .cells #[.int .u64 a1_0, .int .u64 a1_1, .int .u64 a1_2, .int .u64 a1_3] 24 (0, 0)) (by (with_reducible repeat (first | refine blk_drewN ?_ _ | refine blk_drew ?_ | refine blk_alloc ?_ _)); exact BK164.out)) : gb164 ≠ gb204)); have n11_ := Aside0.mk ((by rw [hg]; exact Nat.ne_of_gt (blk_lt (g := gb164) (o := .cells #[.int .u64 a1_0, .int .u64 a1_1, .int .u64 a1_2, .int .u64 a1_3] 24 (0, 0)) (by (with_reducible repeat (first | refine blk_drewN ?_ _ | refine blk_drew ?_ | refine blk_alloc ?_ _)); exact BK164.out)) : gb204 ≠ gb164)); have n12_ := Aside0.mk ((by rw [hg]; exact Nat.ne_of_lt (blk_lt (g := gb174) (o := .cells #[.int .u64 t166, .int .u64 t167, .int .u64 t168, .int .u64 t169] 24 (0, 0)) (by (with_reducible repeat (first | refine blk_drewN ?_ _ | refine blk_drew ?_ | refine blk_alloc ?_ _)); exact BK174.out)) : gb174 ≠ gb204)); have n13_ := Aside0.mk ((by rw [hg]; exact Nat.ne_of_gt (blk_lt (g := gb174) (o := .cells #[.int .u64 t166, .int .u64 t167, .int .u64 t168, .int .u64 t169] 24 (0, 0)) (by (with_reducible repeat (first | refine blk_drewN ?_ _ | refine blk_drew ?_ | refine blk_alloc ?_ _)); exact BK174.out)) : gb204 ≠ gb174)); have n14_ := Aside0.mk ((by rw [hg]; exact Nat.ne_of_lt (blk_lt (g := gb175) (o := .cells #[.int .u64 t170, .int .u64 t171, .int .u64 t172, .int .u64 t173] 24 (0, 0)) (by (with_reducible repeat (first | refine blk_drewN ?_ _ | refine blk_drew ?_ | refine blk_alloc ?_ _)); exact BK175.out)) : gb175 ≠ gb204)); have n15_ := Aside0.mk ((by rw [hg]; exact Nat.ne_of_gt (blk_lt (g := gb175) (o := .cells #[.int .u64 t170, .int .u64 t171, .int .u64 t172, .int .u64 t173] 24 (0, 0)) (by (with_reducible repeat (first | refine blk_drewN ?_ _ | refine blk_drew ?_ | refine blk_alloc ?_ _)); exact BK175.out)) : gb204 ≠ gb175)); clear BK163; clear BK164; clear BK174; clear BK175; clear HB; have BK163 := n0_; have BK164 := n1_; have BK174 := n2_; have BK175 := n3_; have HB := n4_; have BK204 := n5_; have GW204 := n6_; have GE204 := n7_; have NB163_204 := n8_; have NB204_163 := n9_; have NB164_204 := n10_; have NB204_164 := n11_; have NB174_204 := n12_; have NB204_174 := n13_; have NB175_204 := n14_; have NB204_175 := n15_; clear n0_ n1_ n2_ n3_ n4_ n5_ n6_ n7_ n8_ n9_ n10_ n11_ n12_ n13_ n14_ n15_; clear hb hbox hg; have hnb52 := NB163_164.out; have hnc52 := NB164_163.out; have hnb53 := NB163_174.out; have hnc53 := NB174_163.out; have hnb54 := NB163_175.out; have hnc54 := NB175_163.out; have hnb55 := NB163_204.out; have hnc55 := NB204_163.out; have hcz56_0 : w51.cell? ⟨gb163, 0, none⟩ = some (.int .u64 a0_0) := bc BK163 0 rfl; have hcz56_1 : w51.cell? ⟨gb163, 1, none⟩ = some (.int .u64 a0_1) := bc BK163 1 rfl; have hcz56_2 : w51.cell? ⟨gb163, 2, none⟩ = some (.int .u64 a0_2) := bc BK163 2 rfl; have hcz56_3 : w51.cell? ⟨gb163, 3, none⟩ = some (.int .u64 a0_3) := bc BK163 3 rfl; have hfz56_0 := blk_frozen BK163.out 0; have hfz56_1 := blk_frozen BK163.out 1; have hfz56_2 := blk_frozen BK163.out 2; have hfz56_3 := blk_frozen BK163.out 3) | ((with_reducible refine gate_callee (f := 22) rfl ?_); refine goesL_ (some 59) rfl rfl Try.func22 (by kernel_rfl) rfl #[.agg #[.int .u64 a0_0, .int .u64 a0_1, .int .u64 a0_2, .int .u64 a0_3]] rfl (by (try simp only [List.map_toArray, List.map_cons, List.map_nil]); first | done | rfl | (simp only [List.length_drop, List.length_take]; rfl)) ?_; (with_reducible refine (byteset_Ranges.calls k a0_0 a0_1 a0_2 a0_3 t205 _ A21.out).mono ?_); rintro e w57 ⟨v206, rfl, ho0, hb⟩; refine ⟨_, rfl, ?_⟩; have n0_ := Aside0.mk (Kd.R_lower ho0 (below_size (by repeat (first | (with_reducible first | exact HB.out | apply below_alloc | apply pw_below_drewN | apply below_drew1 | refine below_set ?_ GE163.out | refine below_set ?_ GE164.out | refine below_set ?_ GE174.out | refine below_set ?_ GE175.out | refine below_set ?_ GE204.out) | exact HB.out)))); have n1_ := Aside0.mk (blk_below (g := gb163) (o := .cells #[.int .u64 a0_0, .int .u64 a0_1, .int .u64 a0_2, .int .u64 a0_3] 24 (0, 0)) (by (with_reducible repeat (first | refine blk_drewN ?_ _ | refine blk_drew ?_ | refine blk_alloc ?_ _)); exact BK163.out) hb); have n2_ := Aside0.mk (blk_below (g := gb164) (o := .cells #[.int .u64 a1_0, .int .u64 a1_1, .int .u64 a1_2, .int .u64 a1_3] 24 (0, 0)) (by (with_reducible repeat (first | refine blk_drewN ?_ _ | refine blk_drew ?_ | refine blk_alloc ?_ _)); exact BK164.out) hb); have n3_ := Aside0.mk (blk_below (g := gb174) (o := .cells #[.int .u64 t166, .int .u64 t167, .int .u64 t168, .int .u64 t169] 24 (0, 0)) (by (with_reducible repeat (first | refine blk_drewN ?_ _ | refine blk_drew ?_ | refine blk_alloc ?_ _)); exact BK174.out) hb); have n4_ := Aside0.mk (blk_below (g := gb175) (o := .cells #[.int .u64 t170, .int .u64 t171, .int .u64 t172, .int .u64 t173] 24 (0, 0)) (by (with_reducible repeat (first | refine blk_drewN ?_ _ | refine blk_drew ?_ | refine blk_alloc ?_ _)); exact BK175.out) hb); have n5_ := Aside0.mk (blk_below (g := gb204) (o := .cells #[.int .u64 0, .int .u64 0, .int .u64 0, .int .u64 0] 24 (0, 0)) (by (with_reducible repeat (first | refine blk_drewN ?_ _ | refine blk_drew ?_ | refine blk_alloc ?_ _)); exact BK204.out) hb); have n6_ := Aside0.mk (below_step (by repeat (first | (with_reducible first | exact HB.out | apply below_alloc | apply pw_below_drewN | apply below_drew1 | refine below_set ?_ GE163.out | refine below_set ?_ GE164.out | refine below_set ?_ GE174.out | refine below_set ?_ GE175.out | refine below_set ?_ GE204.out) | exact HB.out)) hb); clear BK163; clear BK164; clear BK174; clear BK175; clear BK204; clear HB; have HO207 := n0_; have BK163 := n1_; have BK164 := n2_; have BK174 := n3_; have BK175 := n4_; have BK204 := n5_; have HB := n6_; clear n0_ n1_ n2_ n3_ n4_ n5_ n6_; (try clear hb); (try clear ho0)))
      go_loopg [9] k (fun kq v9 w' => ∃ (x9_1 : Int) (x205000_1 : Int) (x205001_1 : Int) (x205002_1 : Int) (x205003_1 : Int), v9 = .int .i64 x9_1 ∧ Aside0 (templelaw1_SetRules.l0 kq t205 x9_1 a0_0 a0_1 a0_2 a0_3 x205000_1 x205001_1 x205002_1 x205003_1 = some r) ∧ Aside0 (kq ≤ k) ∧ Aside0 (Kd.R k40 40 w' w.heap.size (fun _ => True) v206 t205) ∧ Aside0 (w'.heap[gb163]? = some (.cells #[.int .u64 a0_0, .int .u64 a0_1, .int .u64 a0_2, .int .u64 a0_3] 24 (0, 0))) ∧ Aside0 (w'.heap[gb164]? = some (.cells #[.int .u64 a1_0, .int .u64 a1_1, .int .u64 a1_2, .int .u64 a1_3] 24 (0, 0))) ∧ Aside0 (w'.heap[gb174]? = some (.cells #[.int .u64 t166, .int .u64 t167, .int .u64 t168, .int .u64 t169] 24 (0, 0))) ∧ Aside0 (w'.heap[gb175]? = some (.cells #[.int .u64 t170, .int .u64 t171, .int .u64 t172, .int .u64 t173] 24 (0, 0))) ∧ Aside0 (w'.heap[gb204]? = some (.cells #[.int .u64 x205000_1, .int .u64 x205001_1, .int .u64 x205002_1, .int .u64 x205003_1] 24 (0, 0))) ∧ Aside0 (Below w.heap.size w w'))
      case atStart => exact ⟨(0), (0), (0), (0), (0), (by first | rfl | (simp; done) | (simp [i64_w]; done) | (simp [*]; done) | (simp [*, i64_w]; done) | (simp [*]; unfold wrap64; omega)), H', ⟨Nat.le_refl _⟩, ⟨by (with_reducible repeat (first | apply Kd.R_alloc | apply Kd.R_drewN | apply Kd.R_drew)); exact HO207.out⟩, ⟨by (with_reducible repeat (first | refine blk_drewN ?_ _ | refine blk_drew ?_ | refine blk_alloc ?_ _)); exact BK163.out⟩, ⟨by (with_reducible repeat (first | refine blk_drewN ?_ _ | refine blk_drew ?_ | refine blk_alloc ?_ _)); exact BK164.out⟩, ⟨by (with_reducible repeat (first | refine blk_drewN ?_ _ | refine blk_drew ?_ | refine blk_alloc ?_ _)); exact BK174.out⟩, ⟨by (with_reducible repeat (first | refine blk_drewN ?_ _ | refine blk_drew ?_ | refine blk_alloc ?_ _)); exact BK175.out⟩, ⟨by (with_reducible repeat (first | refine blk_drewN ?_ _ | refine blk_drew ?_ | refine blk_alloc ?_ _)); exact BK204.out⟩, ⟨by repeat (first | (with_reducible first | exact HB.out | apply below_alloc | apply pw_below_drewN | apply below_drew1 | refine below_set ?_ GE163.out | refine below_set ?_ GE164.out | refine below_set ?_ GE174.out | refine below_set ?_ GE175.out | refine below_set ?_ GE204.out) | exact HB.out)⟩⟩
      case round =>
       clear H'
       try clear c1
       try clear c2
       try clear p2
       try clear c5
       try clear c15
       try clear c17
       try clear c18
       try clear c19
       try clear c22
       try clear c52
       try clear c53
       try clear c54
       try clear c55
       try clear hcz56_0
       try clear hcz56_1
       try clear hcz56_2
       try clear hcz56_3
       try clear hfz56_0
       try clear hfz56_1
       try clear hfz56_2
       try clear hfz56_3
       obtain ⟨x9_1, x205000_1, x205001_1, x205002_1, x205003_1, rfl, HA, HK1, HO_8, BK163, BK164, BK174, BK175, BK204, HB⟩ := hrel
       cases gk with
       | zero => exact absurd HA.out (by simp [templelaw1_SetRules.l0])
       | succ k1 =>
        have H := HA.out
        clear HA
        simp only [templelaw1_SetRules.l0] at H
        by_cases c58 : x9_1 < (t205.length : Int)
        ·rw [if_pos c58] at H
         have c58b0 : decide (x9_1 < (t205.length : Int)) = true := decide_eq_true c58
         clear c58
         by_cases c59 : 0 ≤ x9_1
         ·rw [if_pos c59] at H
          have c59b0 : decide (0 ≤ x9_1) = true := decide_eq_true c59
          clear c59
          replace H := Option.bind_eq_some_iff.mp H
          obtain ⟨⟨t210, t211, t212, t213, t214⟩, A600, H⟩ := H
          try dsimp only at H
          have A60 := Aside0.mk A600
          clear A600
          replace H := Option.bind_eq_some_iff.mp H
          obtain ⟨t216, A610, H⟩ := H
          try dsimp only at H
          have A61 := Aside0.mk A610
          clear A610
          by_cases c62 : t216 = 0
          ·rw [if_pos c62] at H
           have c62b0 : (t216 == 0) = true := beq_iff_eq.mpr c62
           have c62b1 : (t216 != 0) = false := bne_eq_false_iff_eq.mpr c62
           clear c62
           by_cases c63 : x9_1 > 0
           ·rw [if_pos c63] at H
            have c63b0 : decide (0 < x9_1) = true := decide_eq_true c63
            clear c63
            obtain ⟨ji64, hji64⟩ : ∃ j_ : Int, (wrap64 (x9_1 - 1)) = j_ := ⟨_, rfl⟩
            replace H : (if 0 ≤ (ji64) then (if (ji64) < (t205.length : Int) then (if ((rd_T40 t205 x9_1).f0) ≤ (wrap64 (((rd_T40 t205 (ji64)).f1) + 1)) then (none) else ((byteset_Or.f x205000_1 x205001_1 x205002_1 x205003_1 t210 t211 t212 t213).bind fun bt219 => (templelaw1_SetRules.l0 k1 t205 (wrap64 (x9_1 + 1)) a0_0 a0_1 a0_2 a0_3 bt219.1 bt219.2.1 bt219.2.2.1 bt219.2.2.2))) else (none)) else (none)) = some r := by first | (rw [hji64] at H; exact H) | (simp only [hji64] at H ⊢; exact H)
            (try rw [hji64] at A60)
            (try rw [hji64] at A61)
            have hji64w : (IntKind.i64.wrap (x9_1 - 1)) = ji64 := (i64_w _).trans hji64
            by_cases c65 : 0 ≤ (ji64)
            ·rw [if_pos c65] at H
             have c65b0 : decide (0 ≤ (ji64)) = true := decide_eq_true c65
             clear c65
             by_cases c66 : (ji64) < (t205.length : Int)
             ·rw [if_pos c66] at H
              have c66b0 : decide ((ji64) < (t205.length : Int)) = true := decide_eq_true c66
              clear c66
              by_cases c67 : ((rd_T40 t205 x9_1).f0) ≤ (wrap64 (((rd_T40 t205 (ji64)).f1) + 1))
              ·rw [if_pos c67] at H
               exact absurd H (by simp)
              ·rw [if_neg c67] at H
               have c67b0 : decide (((rd_T40 t205 x9_1).f0) ≤ (wrap64 (((rd_T40 t205 (ji64)).f1) + 1))) = false := decide_eq_false c67
               clear c67
               replace H := Option.bind_eq_some_iff.mp H
               obtain ⟨⟨t219, t220, t221, t222⟩, A680, H⟩ := H
               replace H : (templelaw1_SetRules.l0 k1 t205 (wrap64 (x9_1 + 1)) a0_0 a0_1 a0_2 a0_3 t219 t220 t221 t222) = some r := H
               have A68 := Aside0.mk A680
               clear A680
               have H' := Aside0.mk H
               clear H
               obtain ⟨Ao69, co69, eo69⟩ := Kd.R_slice HO_8.out
               subst eo69
               try go_wp2
               have n0_ := Aside0.mk (Kd.R_drew HO_8.out)
               have n1_ := Aside0.mk (blk_drew BK163.out)
               have n2_ := Aside0.mk (blk_drew BK164.out)
               have n3_ := Aside0.mk (blk_drew BK174.out)
               have n4_ := Aside0.mk (blk_drew BK175.out)
               have n5_ := Aside0.mk (blk_drew BK204.out)
               have n6_ := Aside0.mk (below_drew1 HB.out)
               clear HO_8 BK163 BK164 BK174 BK175 BK204 HB
               have HO_8 := n0_
               have BK163 := n1_
               have BK164 := n2_
               have BK174 := n3_
               have BK175 := n4_
               have BK204 := n5_
               have HB := n6_
               clear n0_ n1_ n2_ n3_ n4_ n5_ n6_
               have p208 : 0 ≤ (x9_1 : Int) := of_decide_eq_true (by first | (with_reducible assumption) | assumption)
               have q208 : x9_1 < (t205.length : Int) := of_decide_eq_true (by first | (with_reducible assumption) | assumption)
               obtain ⟨ad208, e208, hx208_0, hx208_1⟩ := at_T40 (Kd.R_reads' HO_8.out).2.2 x9_1 p208 q208
               cases e208
               replace p208 := eq_true p208
               replace q208 := eq_true q208
               have p209 : 0 ≤ (x9_1 : Int) := of_decide_eq_true (by first | (with_reducible assumption) | assumption)
               have q209 : x9_1 < (t205.length : Int) := of_decide_eq_true (by first | (with_reducible assumption) | assumption)
               obtain ⟨ad209, e209, hx209_0, hx209_1⟩ := at_T40 (Kd.R_reads' HO_8.out).2.2 x9_1 p209 q209
               obtain rfl : ad208 = ad209 := (by injection e209)
               replace p209 := eq_true p209
               replace q209 := eq_true q209
               refine start_ (n := 17) (S := fun w' => w'.cell? (ad208.add ((x9_1).toNat * 2)) = some (.int .i64 ((rd_T40 t205 x9_1).f0)) ∧ w'.cell? ⟨(ad208.add ((x9_1).toNat * 2)).block, (ad208.add ((x9_1).toNat * 2)).off + 1, none⟩ = some (.int .i64 ((rd_T40 t205 x9_1).f1)) ∧ w'.cell? (ad208.add ((x9_1).toNat * 2)) = some (.int .i64 ((rd_T40 t205 x9_1).f0)) ∧ w'.cell? ⟨(ad208.add ((x9_1).toNat * 2)).block, (ad208.add ((x9_1).toNat * 2)).off + 1, none⟩ = some (.int .i64 ((rd_T40 t205 x9_1).f1))) (ds := []) #[false, false, false, false, false, false, false, false, false, false, false, false, false, false, false, false, false] (by kernel_rfl) rfl rfl ⟨hx208_0, hx208_1, hx209_0, hx209_1⟩ (fun hHeld => ?_); refine with_tabW templelaw1_SetRules.tab11 templelaw1_SetRules.bits11 (fun HT_ HW_ => ?_)
               generalize wr.drew = w70 at HO_8 BK163 BK164 BK174 BK175 BK204 HB hx208_0 hx208_1 hx209_0 hx209_1 hHeld ⊢
               refine pure_ (i := 0) (N := some 67) (v := ?_) (a' := ?_) #[true, false, false, false, false, false, false, false, false, false, false, false, false, false, false, false, false] rfl rfl (any_of HT_.out (by kernel_rfl)) (fun _ _ _ h => h) (Or.inl ⟨by rfl, ?_⟩) ?_ ?_
               rotate_left
               ·intro w'
                go_simp
                with_reducible rfl
               rotate_left
               ·simp only [Act.put, s1, s2, s3, i64_w, i32_w]
                rfl
               refine pure_ (i := 1) (N := some 68) (v := ?_) (a' := ?_) #[true, true, false, false, false, false, false, false, false, false, false, false, false, false, false, false, false] rfl rfl (any_of HT_.out (by kernel_rfl)) (fun _ _ _ h => h) (Or.inl ⟨by rfl, ?_⟩) ?_ ?_
               rotate_left
               ·intro w'
                go_simp
                with_reducible rfl
               rotate_left
               ·simp only [Act.put, s1, s2, s3, i64_w, i32_w]
                rfl
               refine pure_ (i := 2) (N := some 69) (v := ?_) (a' := ?_) #[true, true, true, false, false, false, false, false, false, false, false, false, false, false, false, false, false] rfl rfl (any_of HT_.out (by kernel_rfl)) (fun _ _ _ h => h) (Or.inl ⟨by rfl, ?_⟩) ?_ ?_
               rotate_left
               ·intro w'
                go_simp
                with_reducible rfl
               rotate_left
               ·simp only [Act.put, s1, s2, s3, i64_w, i32_w]
                rfl
               refine pure_ (i := 3) (N := some 70) (v := ?_) (a' := ?_) #[true, true, true, true, false, false, false, false, false, false, false, false, false, false, false, false, false] rfl rfl (any_of HT_.out (by kernel_rfl)) (fun _ _ _ h => h) (Or.inl ⟨by rfl, ?_⟩) ?_ ?_
               rotate_left
               ·intro w'
                go_simp
                with_reducible rfl
               rotate_left
               ·simp only [Act.put, s1, s2, s3, i64_w, i32_w]
                rfl
               refine pure_ (i := 5) (N := some 72) (v := ?_) (a' := ?_) #[true, true, true, true, false, true, false, false, false, false, false, false, false, false, false, false, false] rfl rfl (any_of HT_.out (by kernel_rfl)) (fun _ _ _ h => h) (Or.inl ⟨by rfl, ?_⟩) ?_ ?_
               rotate_left
               ·intro w'
                go_simp
                with_reducible rfl
               rotate_left
               ·simp only [Act.put, s1, s2, s3, i64_w, i32_w]
                rfl
               refine pure_ (i := 6) (N := some 73) (v := ?_) (a' := ?_) #[true, true, true, true, false, true, true, false, false, false, false, false, false, false, false, false, false] rfl rfl (any_of HT_.out (by kernel_rfl)) (fun _ _ _ h => h) (Or.inl ⟨by rfl, ?_⟩) ?_ ?_
               rotate_left
               ·intro w'
                go_simp
                with_reducible rfl
               rotate_left
               ·simp only [Act.put, s1, s2, s3, i64_w, i32_w]
                rfl
               refine pure_ (i := 7) (N := some 74) (v := ?_) (a' := ?_) #[true, true, true, true, false, true, true, true, false, false, false, false, false, false, false, false, false] rfl rfl (any_of HT_.out (by kernel_rfl)) (fun _ _ _ h => h) (Or.inl ⟨by rfl, ?_⟩) ?_ ?_
               rotate_left
               ·intro w'
                go_simp
                with_reducible rfl
               rotate_left
               ·simp only [Act.put, s1, s2, s3, i64_w, i32_w]
                rfl
               refine pure_ (i := 8) (N := some 75) (v := ?_) (a' := ?_) #[true, true, true, true, false, true, true, true, true, false, false, false, false, false, false, false, false] rfl rfl (any_of HT_.out (by kernel_rfl)) (fun _ _ _ h => h) (Or.inl ⟨by rfl, ?_⟩) ?_ ?_
               rotate_left
               ·intro w'
                go_simp
                with_reducible rfl
               rotate_left
               ·simp only [Act.put, s1, s2, s3, i64_w, i32_w]
                rfl
               refine take_ (i := 4) (N := some 71) (v := ?_) (a' := ?_) #[true, true, true, true, true, true, true, true, true, false, false, false, false, false, false, false, false] rfl rfl (take_ofW HT_.out HW_.out (by kernel_rfl)) (fun _ _ _ h => h) (Or.inl ⟨by rfl, ?_⟩) hHeld ?_ ?_
               rotate_left
               ·rintro w' ⟨s0, s1, s2, s3⟩
                go_simp
                with_reducible rfl
               rotate_left
               ·simp only [Act.put, s1, s2, s3, i64_w, i32_w]
                rfl
               refine take_ (i := 9) (N := some 76) (v := ?_) (a' := ?_) #[true, true, true, true, true, true, true, true, true, true, false, false, false, false, false, false, false] rfl rfl (take_ofW HT_.out HW_.out (by kernel_rfl)) (fun _ _ _ h => h) (Or.inl ⟨by rfl, ?_⟩) hHeld ?_ ?_
               rotate_left
               ·rintro w' ⟨s0, s1, s2, s3⟩
                go_simp
                with_reducible rfl
               rotate_left
               ·simp only [Act.put, s1, s2, s3, i64_w, i32_w]
                rfl
               refine join_ (σ := Nat) 2 #[true, true, true, true, true, true, true, true, true, true, true, true, true, true, true, false, false] (fun s_ => [(77, .tuple #[.agg #[.int .u64 t210, .int .u64 t211, .int .u64 t212, .int .u64 t213], .int .i64 t214]), (10, .pointer (some ⟨s_, 0, none⟩)), (66, .tuple #[.agg #[.int .u64 t210, .int .u64 t211, .int .u64 t212, .int .u64 t213], .int .i64 t214]), (78, .agg #[.int .u64 t210, .int .u64 t211, .int .u64 t212, .int .u64 t213]), (79, .int .i64 t214)]) (fun s_ w' => (w'.cell? (ad208.add ((x9_1).toNat * 2)) = some (.int .i64 ((rd_T40 t205 x9_1).f0)) ∧ w'.cell? ⟨(ad208.add ((x9_1).toNat * 2)).block, (ad208.add ((x9_1).toNat * 2)).off + 1, none⟩ = some (.int .i64 ((rd_T40 t205 x9_1).f1)) ∧ w'.cell? (ad208.add ((x9_1).toNat * 2)) = some (.int .i64 ((rd_T40 t205 x9_1).f0)) ∧ w'.cell? ⟨(ad208.add ((x9_1).toNat * 2)).block, (ad208.add ((x9_1).toNat * 2)).off + 1, none⟩ = some (.int .i64 ((rd_T40 t205 x9_1).f1))) ∧ (Kd.R k40 40 w' w.heap.size (fun _ => True) (.slice (some ad208) t205.length co69) t205) ∧ (w'.heap[gb163]? = some (.cells #[.int .u64 a0_0, .int .u64 a0_1, .int .u64 a0_2, .int .u64 a0_3] 24 (0, 0))) ∧ (w'.heap[gb164]? = some (.cells #[.int .u64 a1_0, .int .u64 a1_1, .int .u64 a1_2, .int .u64 a1_3] 24 (0, 0))) ∧ (w'.heap[gb174]? = some (.cells #[.int .u64 t166, .int .u64 t167, .int .u64 t168, .int .u64 t169] 24 (0, 0))) ∧ (w'.heap[gb175]? = some (.cells #[.int .u64 t170, .int .u64 t171, .int .u64 t172, .int .u64 t173] 24 (0, 0))) ∧ (w'.heap[gb204]? = some (.cells #[.int .u64 x205000_1, .int .u64 x205001_1, .int .u64 x205002_1, .int .u64 x205003_1] 24 (0, 0))) ∧ (w'.heap[s_]? = some (.cells #[.int .u64 0, .int .u64 0, .int .u64 0, .int .u64 0] 24 (0, 0))) ∧ (w.heap.size ≤ s_) ∧ (w.heap.size ≤ s_) ∧ (gb163 ≠ s_) ∧ (s_ ≠ gb163) ∧ (gb164 ≠ s_) ∧ (s_ ≠ gb164) ∧ (gb174 ≠ s_) ∧ (s_ ≠ gb174) ∧ (gb175 ≠ s_) ∧ (s_ ≠ gb175) ∧ (gb204 ≠ s_) ∧ (s_ ≠ gb204) ∧ (Below w.heap.size w w')) ?_ ?_
               rotate_left
               ·intro hCont
                refine two_ (i := 10) (j := 14) (Ni := some 77) (Nj := some 10) #[true, true, true, true, true, true, true, true, true, true, true, false, false, false, false, false, false] #[true, true, true, true, true, true, true, true, true, true, false, false, false, false, true, false, false] rfl rfl rfl rfl (two_of HT_.out (by kernel_rfl)) (by decide) (by decide) (fun K hK => ?_) (fun K hK => ?_)
                ·skip
                 refine goes_ Try.func10 (by kernel_rfl) rfl #[.int .i64 ((rd_T40 t205 x9_1).f0), .int .i64 ((rd_T40 t205 x9_1).f1)] (by rfl) rfl rfl (by (try simp only [List.map_toArray, List.map_cons, List.map_nil]); first | done | rfl | (simp only [List.length_drop, List.length_take]; rfl)) ?_
                 with_reducible refine (byteset_Range.calls ((rd_T40 t205 x9_1).f0) ((rd_T40 t205 x9_1).f1) t210 t211 t212 t213 t214 _ A60.out).mono ?_
                 rintro e w71 ⟨rfl, hb⟩
                 have HS0_ := (hb.cell (World.block_lt_of_cell? _ _ (hHeld.1))).trans (hHeld.1)
                 have HS1_ := (hb.cell (World.block_lt_of_cell? _ _ (hHeld.2.1))).trans (hHeld.2.1)
                 have HS2_ := (hb.cell (World.block_lt_of_cell? _ _ (hHeld.2.2.1))).trans (hHeld.2.2.1)
                 have HS3_ := (hb.cell (World.block_lt_of_cell? _ _ (hHeld.2.2.2))).trans (hHeld.2.2.2)
                 refine ⟨_, rfl, ?_⟩
                 have n0_ := Aside0.mk (Kd.R_below (by (with_reducible repeat (first | apply Kd.R_alloc | apply Kd.R_drewN | apply Kd.R_drew)); exact HO_8.out) hb)
                 have n1_ := kb BK163 hb
                 have n2_ := kb BK164 hb
                 have n3_ := kb BK174 hb
                 have n4_ := kb BK175 hb
                 have n5_ := kb BK204 hb
                 have n6_ := ks HB hb
                 clear HO_8 BK163 BK164 BK174 BK175 BK204 HB
                 have HO_8 := n0_
                 have BK163 := n1_
                 have BK164 := n2_
                 have BK174 := n3_
                 have BK175 := n4_
                 have BK204 := n5_
                 have HB := n6_
                 clear n0_ n1_ n2_ n3_ n4_ n5_ n6_
                 (try clear hb)
                 refine hK.out _ _ ⟨HS0_, HS1_, HS2_, HS3_⟩ (fun hHeld => ?_)
                 clear hK K
                 refine norm_ (a' := ?_) ?_ ?_
                 rotate_left
                 ·show Act.put _ (some 77) _ = _
                  simp only [Act.put, s1, s2, s3, i64_w, i32_w]
                  rfl
                 refine pure_ (i := 11) (N := some 66) (v := ?_) (a' := ?_) #[true, true, true, true, true, true, true, true, true, true, true, true, false, false, false, false, false] rfl rfl (any_of HT_.out (by kernel_rfl)) (fun _ _ _ h => h) (Or.inl ⟨by rfl, ?_⟩) ?_ ?_
                 rotate_left
                 ·intro w'
                  go_simp
                  with_reducible rfl
                 rotate_left
                 ·simp only [Act.put, s1, s2, s3, i64_w, i32_w]
                  rfl
                 refine pure_ (i := 12) (N := some 78) (v := ?_) (a' := ?_) #[true, true, true, true, true, true, true, true, true, true, true, true, true, false, false, false, false] rfl rfl (any_of HT_.out (by kernel_rfl)) (fun _ _ _ h => h) (Or.inl ⟨by rfl, ?_⟩) ?_ ?_
                 rotate_left
                 ·intro w'
                  go_simp
                  with_reducible rfl
                 rotate_left
                 ·simp only [Act.put, s1, s2, s3, i64_w, i32_w]
                  rfl
                 refine pure_ (i := 13) (N := some 79) (v := ?_) (a' := ?_) #[true, true, true, true, true, true, true, true, true, true, true, true, true, true, false, false, false] rfl rfl (any_of HT_.out (by kernel_rfl)) (fun _ _ _ h => h) (Or.inl ⟨by rfl, ?_⟩) ?_ ?_
                 rotate_left
                 ·intro w'
                  go_simp
                  with_reducible rfl
                 rotate_left
                 ·simp only [Act.put, s1, s2, s3, i64_w, i32_w]
                  rfl
                 refine one_ (i := 14) (N := some 10) #[true, true, true, true, true, true, true, true, true, true, true, true, true, true, true, false, false] rfl rfl (one_of HT_.out (by kernel_rfl)) (by decide) (fun K hK => ?_)
                 refine box_step ?hg (N := 10) ?hd (cs := #[.int .u64 0, .int .u64 0, .int .u64 0, .int .u64 0]) (t := 24) ?hr ?_; (case hd => rfl); (case hg => rfl); (case hr => first | (go_simp; done) | (go_simp; rfl))
                 intro gb215 hg w72 hbox hb
                 have HS0_ := (hb.cell (World.block_lt_of_cell? _ _ (hHeld.1))).trans (hHeld.1)
                 have HS1_ := (hb.cell (World.block_lt_of_cell? _ _ (hHeld.2.1))).trans (hHeld.2.1)
                 have HS2_ := (hb.cell (World.block_lt_of_cell? _ _ (hHeld.2.2.1))).trans (hHeld.2.2.1)
                 have HS3_ := (hb.cell (World.block_lt_of_cell? _ _ (hHeld.2.2.2))).trans (hHeld.2.2.2)
                 have n0_ := Aside0.mk (Kd.R_below (by (with_reducible repeat (first | apply Kd.R_alloc | apply Kd.R_drewN | apply Kd.R_drew)); exact HO_8.out) hb)
                 have n1_ := kb BK163 hb
                 have n2_ := kb BK164 hb
                 have n3_ := kb BK174 hb
                 have n4_ := kb BK175 hb
                 have n5_ := kb BK204 hb
                 have n6_ := ks HB hb
                 have n7_ := Aside0.mk (hbox)
                 have n8_ := kl hg HB
                 have n9_ := kl hg HB
                 have n10_ := kn hg BK163
                 have n11_ := km hg BK163
                 have n12_ := kn hg BK164
                 have n13_ := km hg BK164
                 have n14_ := kn hg BK174
                 have n15_ := km hg BK174
                 have n16_ := kn hg BK175
                 have n17_ := km hg BK175
                 have n18_ := kn hg BK204
                 have n19_ := km hg BK204
                 clear HO_8 BK163 BK164 BK174 BK175 BK204 HB
                 have HO_8 := n0_
                 have BK163 := n1_
                 have BK164 := n2_
                 have BK174 := n3_
                 have BK175 := n4_
                 have BK204 := n5_
                 have HB := n6_
                 have BK215 := n7_
                 have GW215 := n8_
                 have GE215 := n9_
                 have NB163_215 := n10_
                 have NB215_163 := n11_
                 have NB164_215 := n12_
                 have NB215_164 := n13_
                 have NB174_215 := n14_
                 have NB215_174 := n15_
                 have NB175_215 := n16_
                 have NB215_175 := n17_
                 have NB204_215 := n18_
                 have NB215_204 := n19_
                 clear n0_ n1_ n2_ n3_ n4_ n5_ n6_ n7_ n8_ n9_ n10_ n11_ n12_ n13_ n14_ n15_ n16_ n17_ n18_ n19_ hb hbox hg
                 refine hK.out _ _ ⟨HS0_, HS1_, HS2_, HS3_⟩ (fun hHeld => ?_)
                 clear hK K
                 refine norm_ (a' := ?_) ?_ ?_
                 rotate_left
                 ·show Act.put _ (some 10) _ = _
                  simp only [Act.put, s1, s2, s3, i64_w, i32_w]
                  rfl
                 exact norm_ (by simp only [putAll, Act.put, s1, s2, s3]) (hCont (gb215) _ ⟨hHeld, (by (with_reducible repeat (first | apply Kd.R_alloc | apply Kd.R_drewN | apply Kd.R_drew)); exact HO_8.out), BK163.out, BK164.out, BK174.out, BK175.out, BK204.out, BK215.out, GW215.out, GE215.out, NB163_215.out, NB215_163.out, NB164_215.out, NB215_164.out, NB174_215.out, NB215_174.out, NB175_215.out, NB215_175.out, NB204_215.out, NB215_204.out, HB.out⟩)
                ·skip
                 refine box_step ?hg (N := 10) ?hd (cs := #[.int .u64 0, .int .u64 0, .int .u64 0, .int .u64 0]) (t := 24) ?hr ?_; (case hd => rfl); (case hg => rfl); (case hr => first | (go_simp; done) | (go_simp; rfl))
                 intro gb215 hg w71 hbox hb
                 have HS0_ := (hb.cell (World.block_lt_of_cell? _ _ (hHeld.1))).trans (hHeld.1)
                 have HS1_ := (hb.cell (World.block_lt_of_cell? _ _ (hHeld.2.1))).trans (hHeld.2.1)
                 have HS2_ := (hb.cell (World.block_lt_of_cell? _ _ (hHeld.2.2.1))).trans (hHeld.2.2.1)
                 have HS3_ := (hb.cell (World.block_lt_of_cell? _ _ (hHeld.2.2.2))).trans (hHeld.2.2.2)
                 have n0_ := Aside0.mk (Kd.R_below (by (with_reducible repeat (first | apply Kd.R_alloc | apply Kd.R_drewN | apply Kd.R_drew)); exact HO_8.out) hb)
                 have n1_ := kb BK163 hb
                 have n2_ := kb BK164 hb
                 have n3_ := kb BK174 hb
                 have n4_ := kb BK175 hb
                 have n5_ := kb BK204 hb
                 have n6_ := ks HB hb
                 have n7_ := Aside0.mk (hbox)
                 have n8_ := kl hg HB
                 have n9_ := kl hg HB
                 have n10_ := kn hg BK163
                 have n11_ := km hg BK163
                 have n12_ := kn hg BK164
                 have n13_ := km hg BK164
                 have n14_ := kn hg BK174
                 have n15_ := km hg BK174
                 have n16_ := kn hg BK175
                 have n17_ := km hg BK175
                 have n18_ := kn hg BK204
                 have n19_ := km hg BK204
                 clear HO_8 BK163 BK164 BK174 BK175 BK204 HB
                 have HO_8 := n0_
                 have BK163 := n1_
                 have BK164 := n2_
                 have BK174 := n3_
                 have BK175 := n4_
                 have BK204 := n5_
                 have HB := n6_
                 have BK215 := n7_
                 have GW215 := n8_
                 have GE215 := n9_
                 have NB163_215 := n10_
                 have NB215_163 := n11_
                 have NB164_215 := n12_
                 have NB215_164 := n13_
                 have NB174_215 := n14_
                 have NB215_174 := n15_
                 have NB175_215 := n16_
                 have NB215_175 := n17_
                 have NB204_215 := n18_
                 have NB215_204 := n19_
                 clear n0_ n1_ n2_ n3_ n4_ n5_ n6_ n7_ n8_ n9_ n10_ n11_ n12_ n13_ n14_ n15_ n16_ n17_ n18_ n19_ hb hbox hg
                 refine hK.out _ _ ⟨HS0_, HS1_, HS2_, HS3_⟩ (fun hHeld => ?_)
                 clear hK K
                 refine norm_ (a' := ?_) ?_ ?_
                 rotate_left
                 ·show Act.put _ (some 10) _ = _
                  simp only [Act.put, s1, s2, s3, i64_w, i32_w]
                  rfl
                 refine one_ (i := 10) (N := some 77) #[true, true, true, true, true, true, true, true, true, true, true, false, false, false, true, false, false] rfl rfl (one_of HT_.out (by kernel_rfl)) (by decide) (fun K hK => ?_)
                 refine goes_ Try.func10 (by kernel_rfl) rfl #[.int .i64 ((rd_T40 t205 x9_1).f0), .int .i64 ((rd_T40 t205 x9_1).f1)] (by rfl) rfl rfl (by (try simp only [List.map_toArray, List.map_cons, List.map_nil]); first | done | rfl | (simp only [List.length_drop, List.length_take]; rfl)) ?_
                 with_reducible refine (byteset_Range.calls ((rd_T40 t205 x9_1).f0) ((rd_T40 t205 x9_1).f1) t210 t211 t212 t213 t214 _ A60.out).mono ?_
                 rintro e w72 ⟨rfl, hb⟩
                 have HS0_ := (hb.cell (World.block_lt_of_cell? _ _ (hHeld.1))).trans (hHeld.1)
                 have HS1_ := (hb.cell (World.block_lt_of_cell? _ _ (hHeld.2.1))).trans (hHeld.2.1)
                 have HS2_ := (hb.cell (World.block_lt_of_cell? _ _ (hHeld.2.2.1))).trans (hHeld.2.2.1)
                 have HS3_ := (hb.cell (World.block_lt_of_cell? _ _ (hHeld.2.2.2))).trans (hHeld.2.2.2)
                 refine ⟨_, rfl, ?_⟩
                 have n0_ := Aside0.mk (Kd.R_below (by (with_reducible repeat (first | apply Kd.R_alloc | apply Kd.R_drewN | apply Kd.R_drew)); exact HO_8.out) hb)
                 have n1_ := kb BK163 hb
                 have n2_ := kb BK164 hb
                 have n3_ := kb BK174 hb
                 have n4_ := kb BK175 hb
                 have n5_ := kb BK204 hb
                 have n6_ := kb BK215 hb
                 have n7_ := ks HB hb
                 clear HO_8 BK163 BK164 BK174 BK175 BK204 BK215 HB
                 have HO_8 := n0_
                 have BK163 := n1_
                 have BK164 := n2_
                 have BK174 := n3_
                 have BK175 := n4_
                 have BK204 := n5_
                 have BK215 := n6_
                 have HB := n7_
                 clear n0_ n1_ n2_ n3_ n4_ n5_ n6_ n7_
                 (try clear hb)
                 refine hK.out _ _ ⟨HS0_, HS1_, HS2_, HS3_⟩ (fun hHeld => ?_)
                 clear hK K
                 refine norm_ (a' := ?_) ?_ ?_
                 rotate_left
                 ·show Act.put _ (some 77) _ = _
                  simp only [Act.put, s1, s2, s3, i64_w, i32_w]
                  rfl
                 refine pure_ (i := 11) (N := some 66) (v := ?_) (a' := ?_) #[true, true, true, true, true, true, true, true, true, true, true, true, false, false, true, false, false] rfl rfl (any_of HT_.out (by kernel_rfl)) (fun _ _ _ h => h) (Or.inl ⟨by rfl, ?_⟩) ?_ ?_
                 rotate_left
                 ·intro w'
                  go_simp
                  with_reducible rfl
                 rotate_left
                 ·simp only [Act.put, s1, s2, s3, i64_w, i32_w]
                  rfl
                 refine pure_ (i := 12) (N := some 78) (v := ?_) (a' := ?_) #[true, true, true, true, true, true, true, true, true, true, true, true, true, false, true, false, false] rfl rfl (any_of HT_.out (by kernel_rfl)) (fun _ _ _ h => h) (Or.inl ⟨by rfl, ?_⟩) ?_ ?_
                 rotate_left
                 ·intro w'
                  go_simp
                  with_reducible rfl
                 rotate_left
                 ·simp only [Act.put, s1, s2, s3, i64_w, i32_w]
                  rfl
                 refine pure_ (i := 13) (N := some 79) (v := ?_) (a' := ?_) #[true, true, true, true, true, true, true, true, true, true, true, true, true, true, true, false, false] rfl rfl (any_of HT_.out (by kernel_rfl)) (fun _ _ _ h => h) (Or.inl ⟨by rfl, ?_⟩) ?_ ?_
                 rotate_left
                 ·intro w'
                  go_simp
                  with_reducible rfl
                 rotate_left
                 ·simp only [Act.put, s1, s2, s3, i64_w, i32_w]
                  rfl
                 exact norm_ (by simp only [putAll, Act.put, s1, s2, s3]) (hCont (gb215) _ ⟨hHeld, (by (with_reducible repeat (first | apply Kd.R_alloc | apply Kd.R_drewN | apply Kd.R_drew)); exact HO_8.out), BK163.out, BK164.out, BK174.out, BK175.out, BK204.out, BK215.out, GW215.out, GE215.out, NB163_215.out, NB215_163.out, NB164_215.out, NB215_164.out, NB174_215.out, NB215_174.out, NB175_215.out, NB215_175.out, NB204_215.out, NB215_204.out, HB.out⟩)
               rintro gb215 w73 ⟨hS_, h0_, h1_, h2_, h3_, h4_, h5_, h6_, h7_, h8_, h9_, h10_, h11_, h12_, h13_, h14_, h15_, h16_, h17_, h18_, h19_⟩
               have n0_ : Aside0 (Kd.R k40 40 w73 w.heap.size (fun _ => True) (.slice (some ad208) t205.length co69) t205) := ⟨h0_⟩
               have n1_ : Aside0 (w73.heap[gb163]? = some (.cells #[.int .u64 a0_0, .int .u64 a0_1, .int .u64 a0_2, .int .u64 a0_3] 24 (0, 0))) := ⟨h1_⟩
               have n2_ : Aside0 (w73.heap[gb164]? = some (.cells #[.int .u64 a1_0, .int .u64 a1_1, .int .u64 a1_2, .int .u64 a1_3] 24 (0, 0))) := ⟨h2_⟩
               have n3_ : Aside0 (w73.heap[gb174]? = some (.cells #[.int .u64 t166, .int .u64 t167, .int .u64 t168, .int .u64 t169] 24 (0, 0))) := ⟨h3_⟩
               have n4_ : Aside0 (w73.heap[gb175]? = some (.cells #[.int .u64 t170, .int .u64 t171, .int .u64 t172, .int .u64 t173] 24 (0, 0))) := ⟨h4_⟩
               have n5_ : Aside0 (w73.heap[gb204]? = some (.cells #[.int .u64 x205000_1, .int .u64 x205001_1, .int .u64 x205002_1, .int .u64 x205003_1] 24 (0, 0))) := ⟨h5_⟩
               have n6_ : Aside0 (w73.heap[gb215]? = some (.cells #[.int .u64 0, .int .u64 0, .int .u64 0, .int .u64 0] 24 (0, 0))) := ⟨h6_⟩
               have n7_ : Aside0 (w.heap.size ≤ gb215) := ⟨h7_⟩
               have n8_ : Aside0 (w.heap.size ≤ gb215) := ⟨h8_⟩
               have n9_ : Aside0 (gb163 ≠ gb215) := ⟨h9_⟩
               have n10_ : Aside0 (gb215 ≠ gb163) := ⟨h10_⟩
               have n11_ : Aside0 (gb164 ≠ gb215) := ⟨h11_⟩
               have n12_ : Aside0 (gb215 ≠ gb164) := ⟨h12_⟩
               have n13_ : Aside0 (gb174 ≠ gb215) := ⟨h13_⟩
               have n14_ : Aside0 (gb215 ≠ gb174) := ⟨h14_⟩
               have n15_ : Aside0 (gb175 ≠ gb215) := ⟨h15_⟩
               have n16_ : Aside0 (gb215 ≠ gb175) := ⟨h16_⟩
               have n17_ : Aside0 (gb204 ≠ gb215) := ⟨h17_⟩
               have n18_ : Aside0 (gb215 ≠ gb204) := ⟨h18_⟩
               have n19_ : Aside0 (Below w.heap.size w w73) := ⟨h19_⟩
               clear HO_8 BK163 BK164 BK174 BK175 BK204 HB h0_ h1_ h2_ h3_ h4_ h5_ h6_ h7_ h8_ h9_ h10_ h11_ h12_ h13_ h14_ h15_ h16_ h17_ h18_ h19_
               have HO_8 := n0_
               have BK163 := n1_
               have BK164 := n2_
               have BK174 := n3_
               have BK175 := n4_
               have BK204 := n5_
               have BK215 := n6_
               have GW215 := n7_
               have GE215 := n8_
               have NB163_215 := n9_
               have NB215_163 := n10_
               have NB164_215 := n11_
               have NB215_164 := n12_
               have NB174_215 := n13_
               have NB215_174 := n14_
               have NB175_215 := n15_
               have NB215_175 := n16_
               have NB204_215 := n17_
               have NB215_204 := n18_
               have HB := n19_
               clear n0_ n1_ n2_ n3_ n4_ n5_ n6_ n7_ n8_ n9_ n10_ n11_ n12_ n13_ n14_ n15_ n16_ n17_ n18_ n19_
               have hHeld : w73.cell? (ad208.add ((x9_1).toNat * 2)) = some (.int .i64 ((rd_T40 t205 x9_1).f0)) ∧ w73.cell? ⟨(ad208.add ((x9_1).toNat * 2)).block, (ad208.add ((x9_1).toNat * 2)).off + 1, none⟩ = some (.int .i64 ((rd_T40 t205 x9_1).f1)) ∧ w73.cell? (ad208.add ((x9_1).toNat * 2)) = some (.int .i64 ((rd_T40 t205 x9_1).f0)) ∧ w73.cell? ⟨(ad208.add ((x9_1).toNat * 2)).block, (ad208.add ((x9_1).toNat * 2)).off + 1, none⟩ = some (.int .i64 ((rd_T40 t205 x9_1).f1)) := hS_
               refine norm_ (a' := ?_) ?_ ?_
               rotate_left
               ·simp only [putAll, Act.put, s1, s2, s3]
                rfl
               refine one_ (i := 15) (N := none) #[true, true, true, true, true, true, true, true, true, true, true, true, true, true, true, true, false] rfl rfl (one_of HT_.out (by kernel_rfl)) (by decide) (fun K hK => ?_)
               have hs74 : w73.cell? ⟨gb215, 0, none⟩ = some (.int .u64 0) := bc BK215 0 rfl
               have hfs74 := blk_frozen BK215.out 0
               have hns74_0 := NB163_215.out
               have hns74_1 := NB164_215.out
               have hns74_2 := NB174_215.out
               have hns74_3 := NB175_215.out
               have hns74_4 := NB204_215.out
               have hms74_0 := NB215_163.out
               have hms74_1 := NB215_164.out
               have hms74_2 := NB215_174.out
               have hms74_3 := NB215_175.out
               have hms74_4 := NB215_204.out
               have hs75 : w73.cell? ⟨gb215, 1, none⟩ = some (.int .u64 0) := bc BK215 1 rfl
               have hfs75 := blk_frozen BK215.out 1
               have hns75_0 := NB163_215.out
               have hns75_1 := NB164_215.out
               have hns75_2 := NB174_215.out
               have hns75_3 := NB175_215.out
               have hns75_4 := NB204_215.out
               have hms75_0 := NB215_163.out
               have hms75_1 := NB215_164.out
               have hms75_2 := NB215_174.out
               have hms75_3 := NB215_175.out
               have hms75_4 := NB215_204.out
               have hs76 : w73.cell? ⟨gb215, 2, none⟩ = some (.int .u64 0) := bc BK215 2 rfl
               have hfs76 := blk_frozen BK215.out 2
               have hns76_0 := NB163_215.out
               have hns76_1 := NB164_215.out
               have hns76_2 := NB174_215.out
               have hns76_3 := NB175_215.out
               have hns76_4 := NB204_215.out
               have hms76_0 := NB215_163.out
               have hms76_1 := NB215_164.out
               have hms76_2 := NB215_174.out
               have hms76_3 := NB215_175.out
               have hms76_4 := NB215_204.out
               have hs77 : w73.cell? ⟨gb215, 3, none⟩ = some (.int .u64 0) := bc BK215 3 rfl
               have hfs77 := blk_frozen BK215.out 3
               have hns77_0 := NB163_215.out
               have hns77_1 := NB164_215.out
               have hns77_2 := NB174_215.out
               have hns77_3 := NB175_215.out
               have hns77_4 := NB204_215.out
               have hms77_0 := NB215_163.out
               have hms77_1 := NB215_164.out
               have hms77_2 := NB215_174.out
               have hms77_3 := NB215_175.out
               have hms77_4 := NB215_204.out
               refine skip_ (w1 := ?_) (by rfl) rfl ?_ ?_
               rotate_left
               ·go_simp
                rfl
               refine hK.out _ _ ⟨((cell_far (p := ⟨gb215, _, none⟩) (by first | exact Kd.own_blk (Kd.R_ne HO_8.out BK215.out (by decide)) | (rw [add_block]; exact Kd.own_blk (Kd.R_ne HO_8.out BK215.out (by decide))) | (show (Addr.add _ _).block ≠ _; rw [add_block]; exact Kd.own_blk (Kd.R_ne HO_8.out BK215.out (by decide))) | (dsimp only; exact Kd.own_blk (Kd.R_ne HO_8.out BK215.out (by decide)))) _).trans (((cell_far (p := ⟨gb215, _, none⟩) (by first | exact Kd.own_blk (Kd.R_ne HO_8.out BK215.out (by decide)) | (rw [add_block]; exact Kd.own_blk (Kd.R_ne HO_8.out BK215.out (by decide))) | (show (Addr.add _ _).block ≠ _; rw [add_block]; exact Kd.own_blk (Kd.R_ne HO_8.out BK215.out (by decide))) | (dsimp only; exact Kd.own_blk (Kd.R_ne HO_8.out BK215.out (by decide)))) _).trans (((cell_far (p := ⟨gb215, _, none⟩) (by first | exact Kd.own_blk (Kd.R_ne HO_8.out BK215.out (by decide)) | (rw [add_block]; exact Kd.own_blk (Kd.R_ne HO_8.out BK215.out (by decide))) | (show (Addr.add _ _).block ≠ _; rw [add_block]; exact Kd.own_blk (Kd.R_ne HO_8.out BK215.out (by decide))) | (dsimp only; exact Kd.own_blk (Kd.R_ne HO_8.out BK215.out (by decide)))) _).trans (((cell_far (p := ⟨gb215, _, none⟩) (by first | exact Kd.own_blk (Kd.R_ne HO_8.out BK215.out (by decide)) | (rw [add_block]; exact Kd.own_blk (Kd.R_ne HO_8.out BK215.out (by decide))) | (show (Addr.add _ _).block ≠ _; rw [add_block]; exact Kd.own_blk (Kd.R_ne HO_8.out BK215.out (by decide))) | (dsimp only; exact Kd.own_blk (Kd.R_ne HO_8.out BK215.out (by decide)))) _).trans (hHeld.1)))))))), ((cell_far (p := ⟨gb215, _, none⟩) (by first | exact Kd.own_blk (Kd.R_ne HO_8.out BK215.out (by decide)) | (rw [add_block]; exact Kd.own_blk (Kd.R_ne HO_8.out BK215.out (by decide))) | (show (Addr.add _ _).block ≠ _; rw [add_block]; exact Kd.own_blk (Kd.R_ne HO_8.out BK215.out (by decide))) | (dsimp only; exact Kd.own_blk (Kd.R_ne HO_8.out BK215.out (by decide)))) _).trans (((cell_far (p := ⟨gb215, _, none⟩) (by first | exact Kd.own_blk (Kd.R_ne HO_8.out BK215.out (by decide)) | (rw [add_block]; exact Kd.own_blk (Kd.R_ne HO_8.out BK215.out (by decide))) | (show (Addr.add _ _).block ≠ _; rw [add_block]; exact Kd.own_blk (Kd.R_ne HO_8.out BK215.out (by decide))) | (dsimp only; exact Kd.own_blk (Kd.R_ne HO_8.out BK215.out (by decide)))) _).trans (((cell_far (p := ⟨gb215, _, none⟩) (by first | exact Kd.own_blk (Kd.R_ne HO_8.out BK215.out (by decide)) | (rw [add_block]; exact Kd.own_blk (Kd.R_ne HO_8.out BK215.out (by decide))) | (show (Addr.add _ _).block ≠ _; rw [add_block]; exact Kd.own_blk (Kd.R_ne HO_8.out BK215.out (by decide))) | (dsimp only; exact Kd.own_blk (Kd.R_ne HO_8.out BK215.out (by decide)))) _).trans (((cell_far (p := ⟨gb215, _, none⟩) (by first | exact Kd.own_blk (Kd.R_ne HO_8.out BK215.out (by decide)) | (rw [add_block]; exact Kd.own_blk (Kd.R_ne HO_8.out BK215.out (by decide))) | (show (Addr.add _ _).block ≠ _; rw [add_block]; exact Kd.own_blk (Kd.R_ne HO_8.out BK215.out (by decide))) | (dsimp only; exact Kd.own_blk (Kd.R_ne HO_8.out BK215.out (by decide)))) _).trans (hHeld.2.1)))))))), ((cell_far (p := ⟨gb215, _, none⟩) (by first | exact Kd.own_blk (Kd.R_ne HO_8.out BK215.out (by decide)) | (rw [add_block]; exact Kd.own_blk (Kd.R_ne HO_8.out BK215.out (by decide))) | (show (Addr.add _ _).block ≠ _; rw [add_block]; exact Kd.own_blk (Kd.R_ne HO_8.out BK215.out (by decide))) | (dsimp only; exact Kd.own_blk (Kd.R_ne HO_8.out BK215.out (by decide)))) _).trans (((cell_far (p := ⟨gb215, _, none⟩) (by first | exact Kd.own_blk (Kd.R_ne HO_8.out BK215.out (by decide)) | (rw [add_block]; exact Kd.own_blk (Kd.R_ne HO_8.out BK215.out (by decide))) | (show (Addr.add _ _).block ≠ _; rw [add_block]; exact Kd.own_blk (Kd.R_ne HO_8.out BK215.out (by decide))) | (dsimp only; exact Kd.own_blk (Kd.R_ne HO_8.out BK215.out (by decide)))) _).trans (((cell_far (p := ⟨gb215, _, none⟩) (by first | exact Kd.own_blk (Kd.R_ne HO_8.out BK215.out (by decide)) | (rw [add_block]; exact Kd.own_blk (Kd.R_ne HO_8.out BK215.out (by decide))) | (show (Addr.add _ _).block ≠ _; rw [add_block]; exact Kd.own_blk (Kd.R_ne HO_8.out BK215.out (by decide))) | (dsimp only; exact Kd.own_blk (Kd.R_ne HO_8.out BK215.out (by decide)))) _).trans (((cell_far (p := ⟨gb215, _, none⟩) (by first | exact Kd.own_blk (Kd.R_ne HO_8.out BK215.out (by decide)) | (rw [add_block]; exact Kd.own_blk (Kd.R_ne HO_8.out BK215.out (by decide))) | (show (Addr.add _ _).block ≠ _; rw [add_block]; exact Kd.own_blk (Kd.R_ne HO_8.out BK215.out (by decide))) | (dsimp only; exact Kd.own_blk (Kd.R_ne HO_8.out BK215.out (by decide)))) _).trans (hHeld.2.2.1)))))))), ((cell_far (p := ⟨gb215, _, none⟩) (by first | exact Kd.own_blk (Kd.R_ne HO_8.out BK215.out (by decide)) | (rw [add_block]; exact Kd.own_blk (Kd.R_ne HO_8.out BK215.out (by decide))) | (show (Addr.add _ _).block ≠ _; rw [add_block]; exact Kd.own_blk (Kd.R_ne HO_8.out BK215.out (by decide))) | (dsimp only; exact Kd.own_blk (Kd.R_ne HO_8.out BK215.out (by decide)))) _).trans (((cell_far (p := ⟨gb215, _, none⟩) (by first | exact Kd.own_blk (Kd.R_ne HO_8.out BK215.out (by decide)) | (rw [add_block]; exact Kd.own_blk (Kd.R_ne HO_8.out BK215.out (by decide))) | (show (Addr.add _ _).block ≠ _; rw [add_block]; exact Kd.own_blk (Kd.R_ne HO_8.out BK215.out (by decide))) | (dsimp only; exact Kd.own_blk (Kd.R_ne HO_8.out BK215.out (by decide)))) _).trans (((cell_far (p := ⟨gb215, _, none⟩) (by first | exact Kd.own_blk (Kd.R_ne HO_8.out BK215.out (by decide)) | (rw [add_block]; exact Kd.own_blk (Kd.R_ne HO_8.out BK215.out (by decide))) | (show (Addr.add _ _).block ≠ _; rw [add_block]; exact Kd.own_blk (Kd.R_ne HO_8.out BK215.out (by decide))) | (dsimp only; exact Kd.own_blk (Kd.R_ne HO_8.out BK215.out (by decide)))) _).trans (((cell_far (p := ⟨gb215, _, none⟩) (by first | exact Kd.own_blk (Kd.R_ne HO_8.out BK215.out (by decide)) | (rw [add_block]; exact Kd.own_blk (Kd.R_ne HO_8.out BK215.out (by decide))) | (show (Addr.add _ _).block ≠ _; rw [add_block]; exact Kd.own_blk (Kd.R_ne HO_8.out BK215.out (by decide))) | (dsimp only; exact Kd.own_blk (Kd.R_ne HO_8.out BK215.out (by decide)))) _).trans (hHeld.2.2.2))))))))⟩ (fun hHeld => ?_)
               clear hK K
               refine pure_ (i := 16) (N := some 11) (v := ?_) (a' := ?_) #[true, true, true, true, true, true, true, true, true, true, true, true, true, true, true, true, true] rfl rfl (any_of HT_.out (by kernel_rfl)) (fun _ _ _ h => h) (Or.inl ⟨by rfl, ?_⟩) ?_ ?_
               rotate_left
               ·intro w'
                go_simp
                with_reducible rfl
               rotate_left
               ·simp only [Act.put, s1, s2, s3, i64_w, i32_w]
                rfl
               refine done_ (done_of HT_.out (by kernel_rfl)) ?_
               try go_wp2
               have n0_ : Aside0 (Kd.R k40 40 ((((w73.setCell ⟨gb215, 0, none⟩ (.int .u64 t210)).setCell ⟨gb215, 1, none⟩ (.int .u64 t211)).setCell ⟨gb215, 2, none⟩ (.int .u64 t212)).setCell ⟨gb215, 3, none⟩ (.int .u64 t213)) w.heap.size (fun _ => True) (.slice (some ad208) t205.length co69) t205) := ⟨by (with_reducible repeat (first | apply Kd.R_alloc | apply Kd.R_drewN | apply Kd.R_drew)); exact Kd.R_mono (Kd.R_far (p := ⟨gb215, 3, none⟩) (Kd.R_far (p := ⟨gb215, 2, none⟩) (Kd.R_far (p := ⟨gb215, 1, none⟩) (Kd.R_far (p := ⟨gb215, 0, none⟩) (Kd.R_types HO_8.out BK215.out (by decide)) (fun _ hk => hk.2) (.int .u64 t210)) (fun _ hk => hk.2) (.int .u64 t211)) (fun _ hk => hk.2) (.int .u64 t212)) (fun _ hk => hk.2) (.int .u64 t213)) (fun _ hk => trivial)⟩
               have n1_ : Aside0 (((((w73.setCell ⟨gb215, 0, none⟩ (.int .u64 t210)).setCell ⟨gb215, 1, none⟩ (.int .u64 t211)).setCell ⟨gb215, 2, none⟩ (.int .u64 t212)).setCell ⟨gb215, 3, none⟩ (.int .u64 t213)).heap[gb163]? = some (.cells #[.int .u64 a0_0, .int .u64 a0_1, .int .u64 a0_2, .int .u64 a0_3] 24 (0, 0))) := ⟨by refine blk_far ?_ NB163_215.out _; refine blk_far ?_ NB163_215.out _; refine blk_far ?_ NB163_215.out _; refine blk_far ?_ NB163_215.out _; exact BK163.out⟩
               have n2_ : Aside0 (((((w73.setCell ⟨gb215, 0, none⟩ (.int .u64 t210)).setCell ⟨gb215, 1, none⟩ (.int .u64 t211)).setCell ⟨gb215, 2, none⟩ (.int .u64 t212)).setCell ⟨gb215, 3, none⟩ (.int .u64 t213)).heap[gb164]? = some (.cells #[.int .u64 a1_0, .int .u64 a1_1, .int .u64 a1_2, .int .u64 a1_3] 24 (0, 0))) := ⟨by refine blk_far ?_ NB164_215.out _; refine blk_far ?_ NB164_215.out _; refine blk_far ?_ NB164_215.out _; refine blk_far ?_ NB164_215.out _; exact BK164.out⟩
               have n3_ : Aside0 (((((w73.setCell ⟨gb215, 0, none⟩ (.int .u64 t210)).setCell ⟨gb215, 1, none⟩ (.int .u64 t211)).setCell ⟨gb215, 2, none⟩ (.int .u64 t212)).setCell ⟨gb215, 3, none⟩ (.int .u64 t213)).heap[gb174]? = some (.cells #[.int .u64 t166, .int .u64 t167, .int .u64 t168, .int .u64 t169] 24 (0, 0))) := ⟨by refine blk_far ?_ NB174_215.out _; refine blk_far ?_ NB174_215.out _; refine blk_far ?_ NB174_215.out _; refine blk_far ?_ NB174_215.out _; exact BK174.out⟩
               have n4_ : Aside0 (((((w73.setCell ⟨gb215, 0, none⟩ (.int .u64 t210)).setCell ⟨gb215, 1, none⟩ (.int .u64 t211)).setCell ⟨gb215, 2, none⟩ (.int .u64 t212)).setCell ⟨gb215, 3, none⟩ (.int .u64 t213)).heap[gb175]? = some (.cells #[.int .u64 t170, .int .u64 t171, .int .u64 t172, .int .u64 t173] 24 (0, 0))) := ⟨by refine blk_far ?_ NB175_215.out _; refine blk_far ?_ NB175_215.out _; refine blk_far ?_ NB175_215.out _; refine blk_far ?_ NB175_215.out _; exact BK175.out⟩
               have n5_ : Aside0 (((((w73.setCell ⟨gb215, 0, none⟩ (.int .u64 t210)).setCell ⟨gb215, 1, none⟩ (.int .u64 t211)).setCell ⟨gb215, 2, none⟩ (.int .u64 t212)).setCell ⟨gb215, 3, none⟩ (.int .u64 t213)).heap[gb204]? = some (.cells #[.int .u64 x205000_1, .int .u64 x205001_1, .int .u64 x205002_1, .int .u64 x205003_1] 24 (0, 0))) := ⟨by refine blk_far ?_ NB204_215.out _; refine blk_far ?_ NB204_215.out _; refine blk_far ?_ NB204_215.out _; refine blk_far ?_ NB204_215.out _; exact BK204.out⟩
               have n6_ : Aside0 (((((w73.setCell ⟨gb215, 0, none⟩ (.int .u64 t210)).setCell ⟨gb215, 1, none⟩ (.int .u64 t211)).setCell ⟨gb215, 2, none⟩ (.int .u64 t212)).setCell ⟨gb215, 3, none⟩ (.int .u64 t213)).heap[gb215]? = some (.cells #[.int .u64 t210, .int .u64 t211, .int .u64 t212, .int .u64 t213] 24 (0, 0))) := ⟨by refine blk_put (cs := #[.int .u64 t210, .int .u64 t211, .int .u64 t212, .int .u64 0]) ?_ 3 _ rfl; refine blk_put (cs := #[.int .u64 t210, .int .u64 t211, .int .u64 0, .int .u64 0]) ?_ 2 _ rfl; refine blk_put (cs := #[.int .u64 t210, .int .u64 0, .int .u64 0, .int .u64 0]) ?_ 1 _ rfl; refine blk_put (cs := #[.int .u64 0, .int .u64 0, .int .u64 0, .int .u64 0]) ?_ 0 _ rfl; exact BK215.out⟩
               have n7_ : Aside0 (Below w.heap.size w ((((w73.setCell ⟨gb215, 0, none⟩ (.int .u64 t210)).setCell ⟨gb215, 1, none⟩ (.int .u64 t211)).setCell ⟨gb215, 2, none⟩ (.int .u64 t212)).setCell ⟨gb215, 3, none⟩ (.int .u64 t213))) := ⟨by repeat (first | (with_reducible first | exact HB.out | apply below_alloc | apply pw_below_drewN | apply below_drew1 | refine below_set ?_ GE163.out | refine below_set ?_ GE164.out | refine below_set ?_ GE174.out | refine below_set ?_ GE175.out | refine below_set ?_ GE204.out | refine below_set ?_ GE215.out) | exact HB.out)⟩
               (try clear HO_8)
               (try clear BK163)
               (try clear BK164)
               (try clear BK174)
               (try clear BK175)
               (try clear BK204)
               (try clear BK215)
               (try clear HB)
               generalize ((((w73.setCell ⟨gb215, 0, none⟩ (.int .u64 t210)).setCell ⟨gb215, 1, none⟩ (.int .u64 t211)).setCell ⟨gb215, 2, none⟩ (.int .u64 t212)).setCell ⟨gb215, 3, none⟩ (.int .u64 t213)) = w78 at n0_ n1_ n2_ n3_ n4_ n5_ n6_ n7_ ⊢
               have HO_8 := n0_
               have BK163 := n1_
               have BK164 := n2_
               have BK174 := n3_
               have BK175 := n4_
               have BK204 := n5_
               have BK215 := n6_
               have HB := n7_
               clear n0_ n1_ n2_ n3_ n4_ n5_ n6_ n7_
               have n0_ := Aside0.mk (Kd.R_drew HO_8.out)
               have n1_ := Aside0.mk (blk_drew BK163.out)
               have n2_ := Aside0.mk (blk_drew BK164.out)
               have n3_ := Aside0.mk (blk_drew BK174.out)
               have n4_ := Aside0.mk (blk_drew BK175.out)
               have n5_ := Aside0.mk (blk_drew BK204.out)
               have n6_ := Aside0.mk (blk_drew BK215.out)
               have n7_ := Aside0.mk (below_drew1 HB.out)
               clear HO_8 BK163 BK164 BK174 BK175 BK204 BK215 HB
               have HO_8 := n0_
               have BK163 := n1_
               have BK164 := n2_
               have BK174 := n3_
               have BK175 := n4_
               have BK204 := n5_
               have BK215 := n6_
               have HB := n7_
               clear n0_ n1_ n2_ n3_ n4_ n5_ n6_ n7_
               have p217 : 0 ≤ (x9_1 : Int) := of_decide_eq_true (by first | (with_reducible assumption) | assumption)
               have q217 : x9_1 < (t205.length : Int) := of_decide_eq_true (by first | (with_reducible assumption) | assumption)
               obtain ⟨ad217, e217, hx217_0, hx217_1⟩ := at_T40 (Kd.R_reads' HO_8.out).2.2 x9_1 p217 q217
               obtain rfl : ad208 = ad217 := (by injection e217)
               replace p217 := eq_true p217
               replace q217 := eq_true q217
               have p218 : 0 ≤ ((ji64) : Int) := of_decide_eq_true (by first | (with_reducible assumption) | assumption)
               have q218 : (ji64) < (t205.length : Int) := of_decide_eq_true (by first | (with_reducible assumption) | assumption)
               obtain ⟨ad218, e218, hx218_0, hx218_1⟩ := at_T40 (Kd.R_reads' HO_8.out).2.2 (ji64) p218 q218
               obtain rfl : ad208 = ad218 := (by injection e218)
               replace p218 := eq_true p218
               replace q218 := eq_true q218
               refine start_ (n := 22) (S := fun w' => w'.cell? (ad208.add ((x9_1).toNat * 2)) = some (.int .i64 ((rd_T40 t205 x9_1).f0)) ∧ w'.cell? ⟨(ad208.add ((x9_1).toNat * 2)).block, (ad208.add ((x9_1).toNat * 2)).off + 1, none⟩ = some (.int .i64 ((rd_T40 t205 x9_1).f1)) ∧ w'.cell? (ad208.add (((ji64)).toNat * 2)) = some (.int .i64 ((rd_T40 t205 (ji64)).f0)) ∧ w'.cell? ⟨(ad208.add (((ji64)).toNat * 2)).block, (ad208.add (((ji64)).toNat * 2)).off + 1, none⟩ = some (.int .i64 ((rd_T40 t205 (ji64)).f1))) (ds := []) #[false, false, false, false, false, false, false, false, false, false, false, false, false, false, false, false, false, false, false, false, false, false] (by kernel_rfl) rfl rfl ⟨hx217_0, hx217_1, hx218_0, hx218_1⟩ (fun hHeld => ?_); refine with_tabW templelaw1_SetRules.tab12 templelaw1_SetRules.bits12 (fun HT_ HW_ => ?_)
               generalize w78.drew = w79 at HO_8 BK163 BK164 BK174 BK175 BK204 BK215 HB hx217_0 hx217_1 hx218_0 hx218_1 hHeld ⊢
               refine pure_ (i := 0) (N := some 80) (v := ?_) (a' := ?_) #[true, false, false, false, false, false, false, false, false, false, false, false, false, false, false, false, false, false, false, false, false, false] rfl rfl (any_of HT_.out (by kernel_rfl)) (fun _ _ _ h => h) (Or.inl ⟨by rfl, ?_⟩) ?_ ?_
               rotate_left
               ·intro w'
                go_simp
                with_reducible rfl
               rotate_left
               ·simp only [Act.put, s1, s2, s3, i64_w, i32_w]
                rfl
               refine one_ (i := 1) (N := some 81) #[true, true, false, false, false, false, false, false, false, false, false, false, false, false, false, false, false, false, false, false, false, false] rfl rfl (one_of HT_.out (by kernel_rfl)) (by decide) (fun K hK => ?_)
               refine goes_ Try.func12 (by kernel_rfl) rfl #[.int .i64 t214] (by rfl) rfl rfl (by (try simp only [List.map_toArray, List.map_cons, List.map_nil]); first | done | rfl | (simp only [List.length_drop, List.length_take]; rfl)) ?_
               with_reducible refine (templelaw0_Num.calls t214 t216 _ A61.out).mono ?_
               rintro e w' ⟨rfl, ⟨nd, rfl⟩⟩
               refine ⟨_, rfl, ?_⟩
               refine hK.out _ _ ⟨hHeld.1, hHeld.2.1, hHeld.2.2.1, hHeld.2.2.2⟩ (fun hHeld => ?_)
               clear hK K
               refine norm_ (a' := ?_) ?_ ?_
               rotate_left
               ·show Act.put _ (some 81) _ = _
                simp only [Act.put, s1, s2, s3, i64_w, i32_w]
                rfl
               refine pure_ (i := 2) (N := some 82) (v := ?_) (a' := ?_) #[true, true, true, false, false, false, false, false, false, false, false, false, false, false, false, false, false, false, false, false, false, false] rfl rfl (any_of HT_.out (by kernel_rfl)) (fun _ _ _ h => h) (Or.inl ⟨by rfl, ?_⟩) ?_ ?_
               rotate_left
               ·intro w'
                go_simp
                with_reducible rfl
               rotate_left
               ·simp only [Act.put, s1, s2, s3, i64_w, i32_w]
                rfl
               refine pure_ (i := 3) (N := some 83) (v := ?_) (a' := ?_) #[true, true, true, true, false, false, false, false, false, false, false, false, false, false, false, false, false, false, false, false, false, false] rfl rfl (any_of HT_.out (by kernel_rfl)) (fun _ _ _ h => h) (Or.inl ⟨by rfl, ?_⟩) ?_ ?_
               rotate_left
               ·intro w'
                go_simp
                with_reducible rfl
               rotate_left
               ·simp only [Act.put, s1, s2, s3, i64_w, i32_w]
                rfl
               refine pure_ (i := 4) (N := some 84) (v := ?_) (a' := ?_) #[true, true, true, true, true, false, false, false, false, false, false, false, false, false, false, false, false, false, false, false, false, false] rfl rfl (any_of HT_.out (by kernel_rfl)) (fun _ _ _ h => h) (Or.inl ⟨by rfl, ?_⟩) ?_ ?_
               rotate_left
               ·intro w'
                go_simp
                with_reducible rfl
               rotate_left
               ·simp only [Act.put, s1, s2, s3, i64_w, i32_w]
                rfl
               refine pure_ (i := 5) (N := some 85) (v := ?_) (a' := ?_) #[true, true, true, true, true, true, false, false, false, false, false, false, false, false, false, false, false, false, false, false, false, false] rfl rfl (any_of HT_.out (by kernel_rfl)) (fun _ _ _ h => h) (Or.inl ⟨by rfl, ?_⟩) ?_ ?_
               rotate_left
               ·intro w'
                go_simp
                with_reducible rfl
               rotate_left
               ·simp only [Act.put, s1, s2, s3, i64_w, i32_w]
                rfl
               refine pure_ (i := 6) (N := some 86) (v := ?_) (a' := ?_) #[true, true, true, true, true, true, true, false, false, false, false, false, false, false, false, false, false, false, false, false, false, false] rfl rfl (any_of HT_.out (by kernel_rfl)) (fun _ _ _ h => h) (Or.inl ⟨by rfl, ?_⟩) ?_ ?_
               rotate_left
               ·intro w'
                go_simp
                with_reducible rfl
               rotate_left
               ·simp only [Act.put, s1, s2, s3, i64_w, i32_w]
                rfl
               refine pure_ (i := 7) (N := some 87) (v := ?_) (a' := ?_) #[true, true, true, true, true, true, true, true, false, false, false, false, false, false, false, false, false, false, false, false, false, false] rfl rfl (any_of HT_.out (by kernel_rfl)) (fun _ _ _ h => h) (Or.inl ⟨by rfl, ?_⟩) ?_ ?_
               rotate_left
               ·intro w'
                go_simp
                with_reducible rfl
               rotate_left
               ·simp only [Act.put, s1, s2, s3, i64_w, i32_w]
                rfl
               refine pure_ (i := 8) (N := some 88) (v := ?_) (a' := ?_) #[true, true, true, true, true, true, true, true, true, false, false, false, false, false, false, false, false, false, false, false, false, false] rfl rfl (any_of HT_.out (by kernel_rfl)) (fun _ _ _ h => h) (Or.inl ⟨by rfl, ?_⟩) ?_ ?_
               rotate_left
               ·intro w'
                go_simp
                with_reducible rfl
               rotate_left
               ·simp only [Act.put, s1, s2, s3, i64_w, i32_w]
                rfl
               refine pure_ (i := 9) (N := some 89) (v := ?_) (a' := ?_) #[true, true, true, true, true, true, true, true, true, true, false, false, false, false, false, false, false, false, false, false, false, false] rfl rfl (any_of HT_.out (by kernel_rfl)) (fun _ _ _ h => h) (Or.inl ⟨by rfl, ?_⟩) ?_ ?_
               rotate_left
               ·intro w'
                go_simp
                with_reducible rfl
               rotate_left
               ·simp only [Act.put, s1, s2, s3, i64_w, i32_w]
                rfl
               refine pure_ (i := 10) (N := some 90) (v := ?_) (a' := ?_) #[true, true, true, true, true, true, true, true, true, true, true, false, false, false, false, false, false, false, false, false, false, false] rfl rfl (any_of HT_.out (by kernel_rfl)) (fun _ _ _ h => h) (Or.inl ⟨by rfl, ?_⟩) ?_ ?_
               rotate_left
               ·intro w'
                go_simp
                with_reducible rfl
               rotate_left
               ·simp only [Act.put, s1, s2, s3, i64_w, i32_w]
                rfl
               refine pure_ (i := 12) (N := some 92) (v := ?_) (a' := ?_) #[true, true, true, true, true, true, true, true, true, true, true, false, true, false, false, false, false, false, false, false, false, false] rfl rfl (any_of HT_.out (by kernel_rfl)) (fun _ _ _ h => h) (Or.inl ⟨by rfl, ?_⟩) ?_ ?_
               rotate_left
               ·intro w'
                go_simp
                with_reducible rfl
               rotate_left
               ·simp only [Act.put, s1, s2, s3, i64_w, i32_w]
                rfl
               refine pure_ (i := 13) (N := some 93) (v := ?_) (a' := ?_) #[true, true, true, true, true, true, true, true, true, true, true, false, true, true, false, false, false, false, false, false, false, false] rfl rfl (any_of HT_.out (by kernel_rfl)) (fun _ _ _ h => h) (Or.inl ⟨by rfl, ?_⟩) ?_ ?_
               rotate_left
               ·intro w'
                go_simp
                with_reducible rfl
               rotate_left
               ·simp only [Act.put, s1, s2, s3, i64_w, i32_w]
                rfl
               refine pure_ (i := 14) (N := some 94) (v := ?_) (a' := ?_) #[true, true, true, true, true, true, true, true, true, true, true, false, true, true, true, false, false, false, false, false, false, false] rfl rfl (any_of HT_.out (by kernel_rfl)) (fun _ _ _ h => h) (Or.inl ⟨by rfl, ?_⟩) ?_ ?_
               rotate_left
               ·intro w'
                go_simp
                with_reducible rfl
               rotate_left
               ·simp only [Act.put, s1, s2, s3, i64_w, i32_w]
                rfl
               refine pure_ (i := 15) (N := some 95) (v := ?_) (a' := ?_) #[true, true, true, true, true, true, true, true, true, true, true, false, true, true, true, true, false, false, false, false, false, false] rfl rfl (any_of HT_.out (by kernel_rfl)) (fun _ _ _ h => h) (Or.inl ⟨by rfl, ?_⟩) ?_ ?_
               rotate_left
               ·intro w'
                go_simp
                with_reducible rfl
               rotate_left
               ·simp only [Act.put, s1, s2, s3, i64_w, i32_w]
                rfl
               refine pure_ (i := 16) (N := some 96) (v := ?_) (a' := ?_) #[true, true, true, true, true, true, true, true, true, true, true, false, true, true, true, true, true, false, false, false, false, false] rfl rfl (any_of HT_.out (by kernel_rfl)) (fun _ _ _ h => h) (Or.inl ⟨by rfl, ?_⟩) ?_ ?_
               rotate_left
               ·intro w'
                go_simp
                with_reducible rfl
               rotate_left
               ·simp only [Act.put, s1, s2, s3, i64_w, i32_w]
                rfl
               refine take_ (i := 11) (N := some 91) (v := ?_) (a' := ?_) #[true, true, true, true, true, true, true, true, true, true, true, true, true, true, true, true, true, false, false, false, false, false] rfl rfl (take_ofW HT_.out HW_.out (by kernel_rfl)) (fun _ _ _ h => h) (Or.inl ⟨by rfl, ?_⟩) hHeld ?_ ?_
               rotate_left
               ·rintro w' ⟨s0, s1, s2, s3⟩
                go_simp
                with_reducible rfl
               rotate_left
               ·simp only [Act.put, s1, s2, s3, i64_w, i32_w]
                rfl
               refine take_ (i := 17) (N := some 97) (v := ?_) (a' := ?_) #[true, true, true, true, true, true, true, true, true, true, true, true, true, true, true, true, true, true, false, false, false, false] rfl rfl (take_ofW HT_.out HW_.out (by kernel_rfl)) (fun _ _ _ h => h) (Or.inl ⟨by rfl, ?_⟩) hHeld ?_ ?_
               rotate_left
               ·rintro w' ⟨s0, s1, s2, s3⟩
                go_simp
                with_reducible rfl
               rotate_left
               ·simp only [Act.put, s1, s2, s3, i64_w, i32_w]
                rfl
               refine pure_ (i := 18) (N := some 98) (v := ?_) (a' := ?_) #[true, true, true, true, true, true, true, true, true, true, true, true, true, true, true, true, true, true, true, false, false, false] rfl rfl (any_of HT_.out (by kernel_rfl)) (fun _ _ _ h => h) (Or.inl ⟨by rfl, ?_⟩) ?_ ?_
               rotate_left
               ·intro w'
                go_simp
                with_reducible rfl
               rotate_left
               ·simp only [Act.put, s1, s2, s3, i64_w, i32_w]
                rfl
               refine pure_ (i := 19) (N := some 99) (v := ?_) (a' := ?_) #[true, true, true, true, true, true, true, true, true, true, true, true, true, true, true, true, true, true, true, true, false, false] rfl rfl (any_of HT_.out (by kernel_rfl)) (fun _ _ _ h => h) (Or.inl ⟨by rfl, ?_⟩) ?_ ?_
               rotate_left
               ·intro w'
                go_simp
                with_reducible rfl
               rotate_left
               ·simp only [Act.put, s1, s2, s3, i64_w, i32_w]
                rfl
               refine pure_ (i := 20) (N := some 100) (v := ?_) (a' := ?_) #[true, true, true, true, true, true, true, true, true, true, true, true, true, true, true, true, true, true, true, true, true, false] rfl rfl (any_of HT_.out (by kernel_rfl)) (fun _ _ _ h => h) (Or.inl ⟨by rfl, ?_⟩) ?_ ?_
               rotate_left
               ·intro w'
                go_simp
                with_reducible rfl
               rotate_left
               ·simp only [Act.put, s1, s2, s3, i64_w, i32_w]
                rfl
               refine pure_ (i := 21) (N := some 101) (v := ?_) (a' := ?_) #[true, true, true, true, true, true, true, true, true, true, true, true, true, true, true, true, true, true, true, true, true, true] rfl rfl (any_of HT_.out (by kernel_rfl)) (fun _ _ _ h => h) (Or.inl ⟨by rfl, ?_⟩) ?_ ?_
               rotate_left
               ·intro w'
                go_simp
                with_reducible rfl
               rotate_left
               ·simp only [Act.put, s1, s2, s3, i64_w, i32_w]
                rfl
               refine done_ (done_of HT_.out (by kernel_rfl)) ?_
               have hnb80 := NB204_163.out
               have hnc80 := NB163_204.out
               have hnb81 := NB204_164.out
               have hnc81 := NB164_204.out
               have hnb82 := NB204_174.out
               have hnc82 := NB174_204.out
               have hnb83 := NB204_175.out
               have hnc83 := NB175_204.out
               have hnb84 := NB204_215.out
               have hnc84 := NB215_204.out
               have hcz85_0 : w79.cell? ⟨gb204, 0, none⟩ = some (.int .u64 x205000_1) := bc BK204 0 rfl
               have hcz85_1 : w79.cell? ⟨gb204, 1, none⟩ = some (.int .u64 x205001_1) := bc BK204 1 rfl
               have hcz85_2 : w79.cell? ⟨gb204, 2, none⟩ = some (.int .u64 x205002_1) := bc BK204 2 rfl
               have hcz85_3 : w79.cell? ⟨gb204, 3, none⟩ = some (.int .u64 x205003_1) := bc BK204 3 rfl
               have hfz85_0 := blk_frozen BK204.out 0
               have hfz85_1 := blk_frozen BK204.out 1
               have hfz85_2 := blk_frozen BK204.out 2
               have hfz85_3 := blk_frozen BK204.out 3
               have hnb86 := NB215_163.out
               have hnc86 := NB163_215.out
               have hnb87 := NB215_164.out
               have hnc87 := NB164_215.out
               have hnb88 := NB215_174.out
               have hnc88 := NB174_215.out
               have hnb89 := NB215_175.out
               have hnc89 := NB175_215.out
               have hcz90_0 : w79.cell? ⟨gb215, 0, none⟩ = some (.int .u64 t210) := bc BK215 0 rfl
               have hcz90_1 : w79.cell? ⟨gb215, 1, none⟩ = some (.int .u64 t211) := bc BK215 1 rfl
               have hcz90_2 : w79.cell? ⟨gb215, 2, none⟩ = some (.int .u64 t212) := bc BK215 2 rfl
               have hcz90_3 : w79.cell? ⟨gb215, 3, none⟩ = some (.int .u64 t213) := bc BK215 3 rfl
               have hfz90_0 := blk_frozen BK215.out 0
               have hfz90_1 := blk_frozen BK215.out 1
               have hfz90_2 := blk_frozen BK215.out 2
               have hfz90_3 := blk_frozen BK215.out 3
               try go_wp2_with (first | ((with_reducible refine gate_callee (f := 15) rfl ?_); refine goesL_ (some 104) rfl rfl Try.func15 (by kernel_rfl) rfl #[.agg #[.int .u64 x205000_1, .int .u64 x205001_1, .int .u64 x205002_1, .int .u64 x205003_1], .agg #[.int .u64 t210, .int .u64 t211, .int .u64 t212, .int .u64 t213]] rfl (by (try simp only [List.map_toArray, List.map_cons, List.map_nil]); first | done | rfl | (simp only [List.length_drop, List.length_take]; rfl)) ?_; (with_reducible refine (byteset_Or.calls x205000_1 x205001_1 x205002_1 x205003_1 t210 t211 t212 t213 t219 t220 t221 t222 _ A68.out).mono ?_); rintro e w91 ⟨rfl, hb⟩; refine ⟨_, rfl, ?_⟩; have n0_ := Aside0.mk (Kd.R_below (by (with_reducible repeat (first | apply Kd.R_alloc | apply Kd.R_drewN | apply Kd.R_drew)); exact HO_8.out) hb); have n1_ := Aside0.mk (blk_below (g := gb163) (o := .cells #[.int .u64 a0_0, .int .u64 a0_1, .int .u64 a0_2, .int .u64 a0_3] 24 (0, 0)) (by (with_reducible repeat (first | refine blk_drewN ?_ _ | refine blk_drew ?_ | refine blk_alloc ?_ _)); exact BK163.out) hb); have n2_ := Aside0.mk (blk_below (g := gb164) (o := .cells #[.int .u64 a1_0, .int .u64 a1_1, .int .u64 a1_2, .int .u64 a1_3] 24 (0, 0)) (by (with_reducible repeat (first | refine blk_drewN ?_ _ | refine blk_drew ?_ | refine blk_alloc ?_ _)); exact BK164.out) hb); have n3_ := Aside0.mk (blk_below (g := gb174) (o := .cells #[.int .u64 t166, .int .u64 t167, .int .u64 t168, .int .u64 t169] 24 (0, 0)) (by (with_reducible repeat (first | refine blk_drewN ?_ _ | refine blk_drew ?_ | refine blk_alloc ?_ _)); exact BK174.out) hb); have n4_ := Aside0.mk (blk_below (g := gb175) (o := .cells #[.int .u64 t170, .int .u64 t171, .int .u64 t172, .int .u64 t173] 24 (0, 0)) (by (with_reducible repeat (first | refine blk_drewN ?_ _ | refine blk_drew ?_ | refine blk_alloc ?_ _)); exact BK175.out) hb); have n5_ := Aside0.mk (blk_below (g := gb204) (o := .cells #[.int .u64 x205000_1, .int .u64 x205001_1, .int .u64 x205002_1, .int .u64 x205003_1] 24 (0, 0)) (by (with_reducible repeat (first | refine blk_drewN ?_ _ | refine blk_drew ?_ | refine blk_alloc ?_ _)); exact BK204.out) hb); have n6_ := Aside0.mk (blk_below (g := gb215) (o := .cells #[.int .u64 t210, .int .u64 t211, .int .u64 t212, .int .u64 t213] 24 (0, 0)) (by (with_reducible repeat (first | refine blk_drewN ?_ _ | refine blk_drew ?_ | refine blk_alloc ?_ _)); exact BK215.out) hb); have n7_ := Aside0.mk (below_step (by repeat (first | (with_reducible first | exact HB.out | apply below_alloc | apply pw_below_drewN | apply below_drew1 | refine below_set ?_ GE163.out | refine below_set ?_ GE164.out | refine below_set ?_ GE174.out | refine below_set ?_ GE175.out | refine below_set ?_ GE204.out | refine below_set ?_ GE215.out) | exact HB.out)) hb); clear HO_8; clear BK163; clear BK164; clear BK174; clear BK175; clear BK204; clear BK215; clear HB; have HO_8 := n0_; have BK163 := n1_; have BK164 := n2_; have BK174 := n3_; have BK175 := n4_; have BK204 := n5_; have BK215 := n6_; have HB := n7_; clear n0_ n1_ n2_ n3_ n4_ n5_ n6_ n7_; (try clear hb); have hcz92_0 : w91.cell? ⟨gb204, 0, none⟩ = some (.int .u64 x205000_1) := bc BK204 0 rfl; have hcz92_1 : w91.cell? ⟨gb204, 1, none⟩ = some (.int .u64 x205001_1) := bc BK204 1 rfl; have hcz92_2 : w91.cell? ⟨gb204, 2, none⟩ = some (.int .u64 x205002_1) := bc BK204 2 rfl; have hcz92_3 : w91.cell? ⟨gb204, 3, none⟩ = some (.int .u64 x205003_1) := bc BK204 3 rfl; have hfz92_0 := blk_frozen BK204.out 0; have hfz92_1 := blk_frozen BK204.out 1; have hfz92_2 := blk_frozen BK204.out 2; have hfz92_3 := blk_frozen BK204.out 3))
               go_roundg k1
               case measure => have := HK1.out; omega
               case rel => exact ⟨(wrap64 (x9_1 + 1)), (t219), (t220), (t221), (t222), (by first | rfl | (simp; done) | (simp [i64_w]; done) | (simp [*]; done) | (simp [*, i64_w]; done) | (simp [*]; unfold wrap64; omega)), H', ⟨by have := HK1.out; omega⟩, ⟨by (with_reducible repeat (first | apply Kd.R_alloc | apply Kd.R_drewN | apply Kd.R_drew)); exact Kd.R_mono (Kd.R_far (p := ⟨gb204, 3, none⟩) (Kd.R_far (p := ⟨gb204, 2, none⟩) (Kd.R_far (p := ⟨gb204, 1, none⟩) (Kd.R_far (p := ⟨gb204, 0, none⟩) (Kd.R_types HO_8.out BK204.out (by decide)) (fun _ hk => hk.2) (.int .u64 t219)) (fun _ hk => hk.2) (.int .u64 t220)) (fun _ hk => hk.2) (.int .u64 t221)) (fun _ hk => hk.2) (.int .u64 t222)) (fun _ hk => trivial)⟩, ⟨by (with_reducible repeat (first | refine blk_drewN ?_ _ | refine blk_drew ?_ | refine blk_alloc ?_ _)); refine blk_far ?_ NB163_204.out _; (with_reducible repeat (first | refine blk_drewN ?_ _ | refine blk_drew ?_ | refine blk_alloc ?_ _)); refine blk_far ?_ NB163_204.out _; (with_reducible repeat (first | refine blk_drewN ?_ _ | refine blk_drew ?_ | refine blk_alloc ?_ _)); refine blk_far ?_ NB163_204.out _; (with_reducible repeat (first | refine blk_drewN ?_ _ | refine blk_drew ?_ | refine blk_alloc ?_ _)); refine blk_far ?_ NB163_204.out _; (with_reducible repeat (first | refine blk_drewN ?_ _ | refine blk_drew ?_ | refine blk_alloc ?_ _)); exact BK163.out⟩, ⟨by (with_reducible repeat (first | refine blk_drewN ?_ _ | refine blk_drew ?_ | refine blk_alloc ?_ _)); refine blk_far ?_ NB164_204.out _; (with_reducible repeat (first | refine blk_drewN ?_ _ | refine blk_drew ?_ | refine blk_alloc ?_ _)); refine blk_far ?_ NB164_204.out _; (with_reducible repeat (first | refine blk_drewN ?_ _ | refine blk_drew ?_ | refine blk_alloc ?_ _)); refine blk_far ?_ NB164_204.out _; (with_reducible repeat (first | refine blk_drewN ?_ _ | refine blk_drew ?_ | refine blk_alloc ?_ _)); refine blk_far ?_ NB164_204.out _; (with_reducible repeat (first | refine blk_drewN ?_ _ | refine blk_drew ?_ | refine blk_alloc ?_ _)); exact BK164.out⟩, ⟨by (with_reducible repeat (first | refine blk_drewN ?_ _ | refine blk_drew ?_ | refine blk_alloc ?_ _)); refine blk_far ?_ NB174_204.out _; (with_reducible repeat (first | refine blk_drewN ?_ _ | refine blk_drew ?_ | refine blk_alloc ?_ _)); refine blk_far ?_ NB174_204.out _; (with_reducible repeat (first | refine blk_drewN ?_ _ | refine blk_drew ?_ | refine blk_alloc ?_ _)); refine blk_far ?_ NB174_204.out _; (with_reducible repeat (first | refine blk_drewN ?_ _ | refine blk_drew ?_ | refine blk_alloc ?_ _)); refine blk_far ?_ NB174_204.out _; (with_reducible repeat (first | refine blk_drewN ?_ _ | refine blk_drew ?_ | refine blk_alloc ?_ _)); exact BK174.out⟩, ⟨by (with_reducible repeat (first | refine blk_drewN ?_ _ | refine blk_drew ?_ | refine blk_alloc ?_ _)); refine blk_far ?_ NB175_204.out _; (with_reducible repeat (first | refine blk_drewN ?_ _ | refine blk_drew ?_ | refine blk_alloc ?_ _)); refine blk_far ?_ NB175_204.out _; (with_reducible repeat (first | refine blk_drewN ?_ _ | refine blk_drew ?_ | refine blk_alloc ?_ _)); refine blk_far ?_ NB175_204.out _; (with_reducible repeat (first | refine blk_drewN ?_ _ | refine blk_drew ?_ | refine blk_alloc ?_ _)); refine blk_far ?_ NB175_204.out _; (with_reducible repeat (first | refine blk_drewN ?_ _ | refine blk_drew ?_ | refine blk_alloc ?_ _)); exact BK175.out⟩, ⟨by (with_reducible repeat (first | refine blk_drewN ?_ _ | refine blk_drew ?_ | refine blk_alloc ?_ _)); refine blk_put (cs := #[.int .u64 t219, .int .u64 t220, .int .u64 t221, .int .u64 x205003_1]) ?_ 3 _ rfl; (with_reducible repeat (first | refine blk_drewN ?_ _ | refine blk_drew ?_ | refine blk_alloc ?_ _)); refine blk_put (cs := #[.int .u64 t219, .int .u64 t220, .int .u64 x205002_1, .int .u64 x205003_1]) ?_ 2 _ rfl; (with_reducible repeat (first | refine blk_drewN ?_ _ | refine blk_drew ?_ | refine blk_alloc ?_ _)); refine blk_put (cs := #[.int .u64 t219, .int .u64 x205001_1, .int .u64 x205002_1, .int .u64 x205003_1]) ?_ 1 _ rfl; (with_reducible repeat (first | refine blk_drewN ?_ _ | refine blk_drew ?_ | refine blk_alloc ?_ _)); refine blk_put (cs := #[.int .u64 x205000_1, .int .u64 x205001_1, .int .u64 x205002_1, .int .u64 x205003_1]) ?_ 0 _ rfl; (with_reducible repeat (first | refine blk_drewN ?_ _ | refine blk_drew ?_ | refine blk_alloc ?_ _)); exact BK204.out⟩, ⟨by repeat (first | (with_reducible first | exact HB.out | apply below_alloc | apply pw_below_drewN | apply below_drew1 | refine below_set ?_ GE163.out | refine below_set ?_ GE164.out | refine below_set ?_ GE174.out | refine below_set ?_ GE175.out | refine below_set ?_ GE204.out | refine below_set ?_ GE215.out) | exact HB.out)⟩⟩
             ·rw [if_neg c66] at H
              exact absurd H (by simp)
            ·rw [if_neg c65] at H
             exact absurd H (by simp)
           ·rw [if_neg c63] at H
            have c63b0 : decide (0 < x9_1) = false := decide_eq_false c63
            clear c63
            replace H := Option.bind_eq_some_iff.mp H
            obtain ⟨⟨t223, t224, t225, t226⟩, A930, H⟩ := H
            replace H : (templelaw1_SetRules.l0 k1 t205 (wrap64 (x9_1 + 1)) a0_0 a0_1 a0_2 a0_3 t223 t224 t225 t226) = some r := H
            have A93 := Aside0.mk A930
            clear A930
            have H' := Aside0.mk H
            clear H
            obtain ⟨Ao94, co94, eo94⟩ := Kd.R_slice HO_8.out
            subst eo94
            try go_wp2
            have n0_ := Aside0.mk (Kd.R_drew HO_8.out)
            have n1_ := Aside0.mk (blk_drew BK163.out)
            have n2_ := Aside0.mk (blk_drew BK164.out)
            have n3_ := Aside0.mk (blk_drew BK174.out)
            have n4_ := Aside0.mk (blk_drew BK175.out)
            have n5_ := Aside0.mk (blk_drew BK204.out)
            have n6_ := Aside0.mk (below_drew1 HB.out)
            clear HO_8 BK163 BK164 BK174 BK175 BK204 HB
            have HO_8 := n0_
            have BK163 := n1_
            have BK164 := n2_
            have BK174 := n3_
            have BK175 := n4_
            have BK204 := n5_
            have HB := n6_
            clear n0_ n1_ n2_ n3_ n4_ n5_ n6_
            have p208 : 0 ≤ (x9_1 : Int) := of_decide_eq_true (by first | (with_reducible assumption) | assumption)
            have q208 : x9_1 < (t205.length : Int) := of_decide_eq_true (by first | (with_reducible assumption) | assumption)
            obtain ⟨ad208, e208, hx208_0, hx208_1⟩ := at_T40 (Kd.R_reads' HO_8.out).2.2 x9_1 p208 q208
            cases e208
            replace p208 := eq_true p208
            replace q208 := eq_true q208
            have p209 : 0 ≤ (x9_1 : Int) := of_decide_eq_true (by first | (with_reducible assumption) | assumption)
            have q209 : x9_1 < (t205.length : Int) := of_decide_eq_true (by first | (with_reducible assumption) | assumption)
            obtain ⟨ad209, e209, hx209_0, hx209_1⟩ := at_T40 (Kd.R_reads' HO_8.out).2.2 x9_1 p209 q209
            obtain rfl : ad208 = ad209 := (by injection e209)
            replace p209 := eq_true p209
            replace q209 := eq_true q209
            refine start_ (n := 17) (S := fun w' => w'.cell? (ad208.add ((x9_1).toNat * 2)) = some (.int .i64 ((rd_T40 t205 x9_1).f0)) ∧ w'.cell? ⟨(ad208.add ((x9_1).toNat * 2)).block, (ad208.add ((x9_1).toNat * 2)).off + 1, none⟩ = some (.int .i64 ((rd_T40 t205 x9_1).f1)) ∧ w'.cell? (ad208.add ((x9_1).toNat * 2)) = some (.int .i64 ((rd_T40 t205 x9_1).f0)) ∧ w'.cell? ⟨(ad208.add ((x9_1).toNat * 2)).block, (ad208.add ((x9_1).toNat * 2)).off + 1, none⟩ = some (.int .i64 ((rd_T40 t205 x9_1).f1))) (ds := []) #[false, false, false, false, false, false, false, false, false, false, false, false, false, false, false, false, false] (by kernel_rfl) rfl rfl ⟨hx208_0, hx208_1, hx209_0, hx209_1⟩ (fun hHeld => ?_); refine with_tabW templelaw1_SetRules.tab11 templelaw1_SetRules.bits11 (fun HT_ HW_ => ?_)
            generalize wr.drew = w95 at HO_8 BK163 BK164 BK174 BK175 BK204 HB hx208_0 hx208_1 hx209_0 hx209_1 hHeld ⊢
            refine pure_ (i := 0) (N := some 67) (v := ?_) (a' := ?_) #[true, false, false, false, false, false, false, false, false, false, false, false, false, false, false, false, false] rfl rfl (any_of HT_.out (by kernel_rfl)) (fun _ _ _ h => h) (Or.inl ⟨by rfl, ?_⟩) ?_ ?_
            rotate_left
            ·intro w'
             go_simp
             with_reducible rfl
            rotate_left
            ·simp only [Act.put, s1, s2, s3, i64_w, i32_w]
             rfl
            refine pure_ (i := 1) (N := some 68) (v := ?_) (a' := ?_) #[true, true, false, false, false, false, false, false, false, false, false, false, false, false, false, false, false] rfl rfl (any_of HT_.out (by kernel_rfl)) (fun _ _ _ h => h) (Or.inl ⟨by rfl, ?_⟩) ?_ ?_
            rotate_left
            ·intro w'
             go_simp
             with_reducible rfl
            rotate_left
            ·simp only [Act.put, s1, s2, s3, i64_w, i32_w]
             rfl
            refine pure_ (i := 2) (N := some 69) (v := ?_) (a' := ?_) #[true, true, true, false, false, false, false, false, false, false, false, false, false, false, false, false, false] rfl rfl (any_of HT_.out (by kernel_rfl)) (fun _ _ _ h => h) (Or.inl ⟨by rfl, ?_⟩) ?_ ?_
            rotate_left
            ·intro w'
             go_simp
             with_reducible rfl
            rotate_left
            ·simp only [Act.put, s1, s2, s3, i64_w, i32_w]
             rfl
            refine pure_ (i := 3) (N := some 70) (v := ?_) (a' := ?_) #[true, true, true, true, false, false, false, false, false, false, false, false, false, false, false, false, false] rfl rfl (any_of HT_.out (by kernel_rfl)) (fun _ _ _ h => h) (Or.inl ⟨by rfl, ?_⟩) ?_ ?_
            rotate_left
            ·intro w'
             go_simp
             with_reducible rfl
            rotate_left
            ·simp only [Act.put, s1, s2, s3, i64_w, i32_w]
             rfl
            refine pure_ (i := 5) (N := some 72) (v := ?_) (a' := ?_) #[true, true, true, true, false, true, false, false, false, false, false, false, false, false, false, false, false] rfl rfl (any_of HT_.out (by kernel_rfl)) (fun _ _ _ h => h) (Or.inl ⟨by rfl, ?_⟩) ?_ ?_
            rotate_left
            ·intro w'
             go_simp
             with_reducible rfl
            rotate_left
            ·simp only [Act.put, s1, s2, s3, i64_w, i32_w]
             rfl
            refine pure_ (i := 6) (N := some 73) (v := ?_) (a' := ?_) #[true, true, true, true, false, true, true, false, false, false, false, false, false, false, false, false, false] rfl rfl (any_of HT_.out (by kernel_rfl)) (fun _ _ _ h => h) (Or.inl ⟨by rfl, ?_⟩) ?_ ?_
            rotate_left
            ·intro w'
             go_simp
             with_reducible rfl
            rotate_left
            ·simp only [Act.put, s1, s2, s3, i64_w, i32_w]
             rfl
            refine pure_ (i := 7) (N := some 74) (v := ?_) (a' := ?_) #[true, true, true, true, false, true, true, true, false, false, false, false, false, false, false, false, false] rfl rfl (any_of HT_.out (by kernel_rfl)) (fun _ _ _ h => h) (Or.inl ⟨by rfl, ?_⟩) ?_ ?_
            rotate_left
            ·intro w'
             go_simp
             with_reducible rfl
            rotate_left
            ·simp only [Act.put, s1, s2, s3, i64_w, i32_w]
             rfl
            refine pure_ (i := 8) (N := some 75) (v := ?_) (a' := ?_) #[true, true, true, true, false, true, true, true, true, false, false, false, false, false, false, false, false] rfl rfl (any_of HT_.out (by kernel_rfl)) (fun _ _ _ h => h) (Or.inl ⟨by rfl, ?_⟩) ?_ ?_
            rotate_left
            ·intro w'
             go_simp
             with_reducible rfl
            rotate_left
            ·simp only [Act.put, s1, s2, s3, i64_w, i32_w]
             rfl
            refine take_ (i := 4) (N := some 71) (v := ?_) (a' := ?_) #[true, true, true, true, true, true, true, true, true, false, false, false, false, false, false, false, false] rfl rfl (take_ofW HT_.out HW_.out (by kernel_rfl)) (fun _ _ _ h => h) (Or.inl ⟨by rfl, ?_⟩) hHeld ?_ ?_
            rotate_left
            ·rintro w' ⟨s0, s1, s2, s3⟩
             go_simp
             with_reducible rfl
            rotate_left
            ·simp only [Act.put, s1, s2, s3, i64_w, i32_w]
             rfl
            refine take_ (i := 9) (N := some 76) (v := ?_) (a' := ?_) #[true, true, true, true, true, true, true, true, true, true, false, false, false, false, false, false, false] rfl rfl (take_ofW HT_.out HW_.out (by kernel_rfl)) (fun _ _ _ h => h) (Or.inl ⟨by rfl, ?_⟩) hHeld ?_ ?_
            rotate_left
            ·rintro w' ⟨s0, s1, s2, s3⟩
             go_simp
             with_reducible rfl
            rotate_left
            ·simp only [Act.put, s1, s2, s3, i64_w, i32_w]
             rfl
            refine join_ (σ := Nat) 2 #[true, true, true, true, true, true, true, true, true, true, true, true, true, true, true, false, false] (fun s_ => [(77, .tuple #[.agg #[.int .u64 t210, .int .u64 t211, .int .u64 t212, .int .u64 t213], .int .i64 t214]), (10, .pointer (some ⟨s_, 0, none⟩)), (66, .tuple #[.agg #[.int .u64 t210, .int .u64 t211, .int .u64 t212, .int .u64 t213], .int .i64 t214]), (78, .agg #[.int .u64 t210, .int .u64 t211, .int .u64 t212, .int .u64 t213]), (79, .int .i64 t214)]) (fun s_ w' => (w'.cell? (ad208.add ((x9_1).toNat * 2)) = some (.int .i64 ((rd_T40 t205 x9_1).f0)) ∧ w'.cell? ⟨(ad208.add ((x9_1).toNat * 2)).block, (ad208.add ((x9_1).toNat * 2)).off + 1, none⟩ = some (.int .i64 ((rd_T40 t205 x9_1).f1)) ∧ w'.cell? (ad208.add ((x9_1).toNat * 2)) = some (.int .i64 ((rd_T40 t205 x9_1).f0)) ∧ w'.cell? ⟨(ad208.add ((x9_1).toNat * 2)).block, (ad208.add ((x9_1).toNat * 2)).off + 1, none⟩ = some (.int .i64 ((rd_T40 t205 x9_1).f1))) ∧ (Kd.R k40 40 w' w.heap.size (fun _ => True) (.slice (some ad208) t205.length co94) t205) ∧ (w'.heap[gb163]? = some (.cells #[.int .u64 a0_0, .int .u64 a0_1, .int .u64 a0_2, .int .u64 a0_3] 24 (0, 0))) ∧ (w'.heap[gb164]? = some (.cells #[.int .u64 a1_0, .int .u64 a1_1, .int .u64 a1_2, .int .u64 a1_3] 24 (0, 0))) ∧ (w'.heap[gb174]? = some (.cells #[.int .u64 t166, .int .u64 t167, .int .u64 t168, .int .u64 t169] 24 (0, 0))) ∧ (w'.heap[gb175]? = some (.cells #[.int .u64 t170, .int .u64 t171, .int .u64 t172, .int .u64 t173] 24 (0, 0))) ∧ (w'.heap[gb204]? = some (.cells #[.int .u64 x205000_1, .int .u64 x205001_1, .int .u64 x205002_1, .int .u64 x205003_1] 24 (0, 0))) ∧ (w'.heap[s_]? = some (.cells #[.int .u64 0, .int .u64 0, .int .u64 0, .int .u64 0] 24 (0, 0))) ∧ (w.heap.size ≤ s_) ∧ (w.heap.size ≤ s_) ∧ (gb163 ≠ s_) ∧ (s_ ≠ gb163) ∧ (gb164 ≠ s_) ∧ (s_ ≠ gb164) ∧ (gb174 ≠ s_) ∧ (s_ ≠ gb174) ∧ (gb175 ≠ s_) ∧ (s_ ≠ gb175) ∧ (gb204 ≠ s_) ∧ (s_ ≠ gb204) ∧ (Below w.heap.size w w')) ?_ ?_
            rotate_left
            ·intro hCont
             refine two_ (i := 10) (j := 14) (Ni := some 77) (Nj := some 10) #[true, true, true, true, true, true, true, true, true, true, true, false, false, false, false, false, false] #[true, true, true, true, true, true, true, true, true, true, false, false, false, false, true, false, false] rfl rfl rfl rfl (two_of HT_.out (by kernel_rfl)) (by decide) (by decide) (fun K hK => ?_) (fun K hK => ?_)
             ·skip
              refine goes_ Try.func10 (by kernel_rfl) rfl #[.int .i64 ((rd_T40 t205 x9_1).f0), .int .i64 ((rd_T40 t205 x9_1).f1)] (by rfl) rfl rfl (by (try simp only [List.map_toArray, List.map_cons, List.map_nil]); first | done | rfl | (simp only [List.length_drop, List.length_take]; rfl)) ?_
              with_reducible refine (byteset_Range.calls ((rd_T40 t205 x9_1).f0) ((rd_T40 t205 x9_1).f1) t210 t211 t212 t213 t214 _ A60.out).mono ?_
              rintro e w96 ⟨rfl, hb⟩
              have HS0_ := (hb.cell (World.block_lt_of_cell? _ _ (hHeld.1))).trans (hHeld.1)
              have HS1_ := (hb.cell (World.block_lt_of_cell? _ _ (hHeld.2.1))).trans (hHeld.2.1)
              have HS2_ := (hb.cell (World.block_lt_of_cell? _ _ (hHeld.2.2.1))).trans (hHeld.2.2.1)
              have HS3_ := (hb.cell (World.block_lt_of_cell? _ _ (hHeld.2.2.2))).trans (hHeld.2.2.2)
              refine ⟨_, rfl, ?_⟩
              have n0_ := Aside0.mk (Kd.R_below (by (with_reducible repeat (first | apply Kd.R_alloc | apply Kd.R_drewN | apply Kd.R_drew)); exact HO_8.out) hb)
              have n1_ := kb BK163 hb
              have n2_ := kb BK164 hb
              have n3_ := kb BK174 hb
              have n4_ := kb BK175 hb
              have n5_ := kb BK204 hb
              have n6_ := ks HB hb
              clear HO_8 BK163 BK164 BK174 BK175 BK204 HB
              have HO_8 := n0_
              have BK163 := n1_
              have BK164 := n2_
              have BK174 := n3_
              have BK175 := n4_
              have BK204 := n5_
              have HB := n6_
              clear n0_ n1_ n2_ n3_ n4_ n5_ n6_
              (try clear hb)
              refine hK.out _ _ ⟨HS0_, HS1_, HS2_, HS3_⟩ (fun hHeld => ?_)
              clear hK K
              refine norm_ (a' := ?_) ?_ ?_
              rotate_left
              ·show Act.put _ (some 77) _ = _
               simp only [Act.put, s1, s2, s3, i64_w, i32_w]
               rfl
              refine pure_ (i := 11) (N := some 66) (v := ?_) (a' := ?_) #[true, true, true, true, true, true, true, true, true, true, true, true, false, false, false, false, false] rfl rfl (any_of HT_.out (by kernel_rfl)) (fun _ _ _ h => h) (Or.inl ⟨by rfl, ?_⟩) ?_ ?_
              rotate_left
              ·intro w'
               go_simp
               with_reducible rfl
              rotate_left
              ·simp only [Act.put, s1, s2, s3, i64_w, i32_w]
               rfl
              refine pure_ (i := 12) (N := some 78) (v := ?_) (a' := ?_) #[true, true, true, true, true, true, true, true, true, true, true, true, true, false, false, false, false] rfl rfl (any_of HT_.out (by kernel_rfl)) (fun _ _ _ h => h) (Or.inl ⟨by rfl, ?_⟩) ?_ ?_
              rotate_left
              ·intro w'
               go_simp
               with_reducible rfl
              rotate_left
              ·simp only [Act.put, s1, s2, s3, i64_w, i32_w]
               rfl
              refine pure_ (i := 13) (N := some 79) (v := ?_) (a' := ?_) #[true, true, true, true, true, true, true, true, true, true, true, true, true, true, false, false, false] rfl rfl (any_of HT_.out (by kernel_rfl)) (fun _ _ _ h => h) (Or.inl ⟨by rfl, ?_⟩) ?_ ?_
              rotate_left
              ·intro w'
               go_simp
               with_reducible rfl
              rotate_left
              ·simp only [Act.put, s1, s2, s3, i64_w, i32_w]
               rfl
              refine one_ (i := 14) (N := some 10) #[true, true, true, true, true, true, true, true, true, true, true, true, true, true, true, false, false] rfl rfl (one_of HT_.out (by kernel_rfl)) (by decide) (fun K hK => ?_)
              refine box_step ?hg (N := 10) ?hd (cs := #[.int .u64 0, .int .u64 0, .int .u64 0, .int .u64 0]) (t := 24) ?hr ?_; (case hd => rfl); (case hg => rfl); (case hr => first | (go_simp; done) | (go_simp; rfl))
              intro gb215 hg w97 hbox hb
              have HS0_ := (hb.cell (World.block_lt_of_cell? _ _ (hHeld.1))).trans (hHeld.1)
              have HS1_ := (hb.cell (World.block_lt_of_cell? _ _ (hHeld.2.1))).trans (hHeld.2.1)
              have HS2_ := (hb.cell (World.block_lt_of_cell? _ _ (hHeld.2.2.1))).trans (hHeld.2.2.1)
              have HS3_ := (hb.cell (World.block_lt_of_cell? _ _ (hHeld.2.2.2))).trans (hHeld.2.2.2)
              have n0_ := Aside0.mk (Kd.R_below (by (with_reducible repeat (first | apply Kd.R_alloc | apply Kd.R_drewN | apply Kd.R_drew)); exact HO_8.out) hb)
              have n1_ := kb BK163 hb
              have n2_ := kb BK164 hb
              have n3_ := kb BK174 hb
              have n4_ := kb BK175 hb
              have n5_ := kb BK204 hb
              have n6_ := ks HB hb
              have n7_ := Aside0.mk (hbox)
              have n8_ := kl hg HB
              have n9_ := kl hg HB
              have n10_ := kn hg BK163
              have n11_ := km hg BK163
              have n12_ := kn hg BK164
              have n13_ := km hg BK164
              have n14_ := kn hg BK174
              have n15_ := km hg BK174
              have n16_ := kn hg BK175
              have n17_ := km hg BK175
              have n18_ := kn hg BK204
              have n19_ := km hg BK204
              clear HO_8 BK163 BK164 BK174 BK175 BK204 HB
              have HO_8 := n0_
              have BK163 := n1_
              have BK164 := n2_
              have BK174 := n3_
              have BK175 := n4_
              have BK204 := n5_
              have HB := n6_
              have BK215 := n7_
              have GW215 := n8_
              have GE215 := n9_
              have NB163_215 := n10_
              have NB215_163 := n11_
              have NB164_215 := n12_
              have NB215_164 := n13_
              have NB174_215 := n14_
              have NB215_174 := n15_
              have NB175_215 := n16_
              have NB215_175 := n17_
              have NB204_215 := n18_
              have NB215_204 := n19_
              clear n0_ n1_ n2_ n3_ n4_ n5_ n6_ n7_ n8_ n9_ n10_ n11_ n12_ n13_ n14_ n15_ n16_ n17_ n18_ n19_ hb hbox hg
              refine hK.out _ _ ⟨HS0_, HS1_, HS2_, HS3_⟩ (fun hHeld => ?_)
              clear hK K
              refine norm_ (a' := ?_) ?_ ?_
              rotate_left
              ·show Act.put _ (some 10) _ = _
               simp only [Act.put, s1, s2, s3, i64_w, i32_w]
               rfl
              exact norm_ (by simp only [putAll, Act.put, s1, s2, s3]) (hCont (gb215) _ ⟨hHeld, (by (with_reducible repeat (first | apply Kd.R_alloc | apply Kd.R_drewN | apply Kd.R_drew)); exact HO_8.out), BK163.out, BK164.out, BK174.out, BK175.out, BK204.out, BK215.out, GW215.out, GE215.out, NB163_215.out, NB215_163.out, NB164_215.out, NB215_164.out, NB174_215.out, NB215_174.out, NB175_215.out, NB215_175.out, NB204_215.out, NB215_204.out, HB.out⟩)
             ·skip
              refine box_step ?hg (N := 10) ?hd (cs := #[.int .u64 0, .int .u64 0, .int .u64 0, .int .u64 0]) (t := 24) ?hr ?_; (case hd => rfl); (case hg => rfl); (case hr => first | (go_simp; done) | (go_simp; rfl))
              intro gb215 hg w96 hbox hb
              have HS0_ := (hb.cell (World.block_lt_of_cell? _ _ (hHeld.1))).trans (hHeld.1)
              have HS1_ := (hb.cell (World.block_lt_of_cell? _ _ (hHeld.2.1))).trans (hHeld.2.1)
              have HS2_ := (hb.cell (World.block_lt_of_cell? _ _ (hHeld.2.2.1))).trans (hHeld.2.2.1)
              have HS3_ := (hb.cell (World.block_lt_of_cell? _ _ (hHeld.2.2.2))).trans (hHeld.2.2.2)
              have n0_ := Aside0.mk (Kd.R_below (by (with_reducible repeat (first | apply Kd.R_alloc | apply Kd.R_drewN | apply Kd.R_drew)); exact HO_8.out) hb)
              have n1_ := kb BK163 hb
              have n2_ := kb BK164 hb
              have n3_ := kb BK174 hb
              have n4_ := kb BK175 hb
              have n5_ := kb BK204 hb
              have n6_ := ks HB hb
              have n7_ := Aside0.mk (hbox)
              have n8_ := kl hg HB
              have n9_ := kl hg HB
              have n10_ := kn hg BK163
              have n11_ := km hg BK163
              have n12_ := kn hg BK164
              have n13_ := km hg BK164
              have n14_ := kn hg BK174
              have n15_ := km hg BK174
              have n16_ := kn hg BK175
              have n17_ := km hg BK175
              have n18_ := kn hg BK204
              have n19_ := km hg BK204
              clear HO_8 BK163 BK164 BK174 BK175 BK204 HB
              have HO_8 := n0_
              have BK163 := n1_
              have BK164 := n2_
              have BK174 := n3_
              have BK175 := n4_
              have BK204 := n5_
              have HB := n6_
              have BK215 := n7_
              have GW215 := n8_
              have GE215 := n9_
              have NB163_215 := n10_
              have NB215_163 := n11_
              have NB164_215 := n12_
              have NB215_164 := n13_
              have NB174_215 := n14_
              have NB215_174 := n15_
              have NB175_215 := n16_
              have NB215_175 := n17_
              have NB204_215 := n18_
              have NB215_204 := n19_
              clear n0_ n1_ n2_ n3_ n4_ n5_ n6_ n7_ n8_ n9_ n10_ n11_ n12_ n13_ n14_ n15_ n16_ n17_ n18_ n19_ hb hbox hg
              refine hK.out _ _ ⟨HS0_, HS1_, HS2_, HS3_⟩ (fun hHeld => ?_)
              clear hK K
              refine norm_ (a' := ?_) ?_ ?_
              rotate_left
              ·show Act.put _ (some 10) _ = _
               simp only [Act.put, s1, s2, s3, i64_w, i32_w]
               rfl
              refine one_ (i := 10) (N := some 77) #[true, true, true, true, true, true, true, true, true, true, true, false, false, false, true, false, false] rfl rfl (one_of HT_.out (by kernel_rfl)) (by decide) (fun K hK => ?_)
              refine goes_ Try.func10 (by kernel_rfl) rfl #[.int .i64 ((rd_T40 t205 x9_1).f0), .int .i64 ((rd_T40 t205 x9_1).f1)] (by rfl) rfl rfl (by (try simp only [List.map_toArray, List.map_cons, List.map_nil]); first | done | rfl | (simp only [List.length_drop, List.length_take]; rfl)) ?_
              with_reducible refine (byteset_Range.calls ((rd_T40 t205 x9_1).f0) ((rd_T40 t205 x9_1).f1) t210 t211 t212 t213 t214 _ A60.out).mono ?_
              rintro e w97 ⟨rfl, hb⟩
              have HS0_ := (hb.cell (World.block_lt_of_cell? _ _ (hHeld.1))).trans (hHeld.1)
              have HS1_ := (hb.cell (World.block_lt_of_cell? _ _ (hHeld.2.1))).trans (hHeld.2.1)
              have HS2_ := (hb.cell (World.block_lt_of_cell? _ _ (hHeld.2.2.1))).trans (hHeld.2.2.1)
              have HS3_ := (hb.cell (World.block_lt_of_cell? _ _ (hHeld.2.2.2))).trans (hHeld.2.2.2)
              refine ⟨_, rfl, ?_⟩
              have n0_ := Aside0.mk (Kd.R_below (by (with_reducible repeat (first | apply Kd.R_alloc | apply Kd.R_drewN | apply Kd.R_drew)); exact HO_8.out) hb)
              have n1_ := kb BK163 hb
              have n2_ := kb BK164 hb
              have n3_ := kb BK174 hb
              have n4_ := kb BK175 hb
              have n5_ := kb BK204 hb
              have n6_ := kb BK215 hb
              have n7_ := ks HB hb
              clear HO_8 BK163 BK164 BK174 BK175 BK204 BK215 HB
              have HO_8 := n0_
              have BK163 := n1_
              have BK164 := n2_
              have BK174 := n3_
              have BK175 := n4_
              have BK204 := n5_
              have BK215 := n6_
              have HB := n7_
              clear n0_ n1_ n2_ n3_ n4_ n5_ n6_ n7_
              (try clear hb)
              refine hK.out _ _ ⟨HS0_, HS1_, HS2_, HS3_⟩ (fun hHeld => ?_)
              clear hK K
              refine norm_ (a' := ?_) ?_ ?_
              rotate_left
              ·show Act.put _ (some 77) _ = _
               simp only [Act.put, s1, s2, s3, i64_w, i32_w]
               rfl
              refine pure_ (i := 11) (N := some 66) (v := ?_) (a' := ?_) #[true, true, true, true, true, true, true, true, true, true, true, true, false, false, true, false, false] rfl rfl (any_of HT_.out (by kernel_rfl)) (fun _ _ _ h => h) (Or.inl ⟨by rfl, ?_⟩) ?_ ?_
              rotate_left
              ·intro w'
               go_simp
               with_reducible rfl
              rotate_left
              ·simp only [Act.put, s1, s2, s3, i64_w, i32_w]
               rfl
              refine pure_ (i := 12) (N := some 78) (v := ?_) (a' := ?_) #[true, true, true, true, true, true, true, true, true, true, true, true, true, false, true, false, false] rfl rfl (any_of HT_.out (by kernel_rfl)) (fun _ _ _ h => h) (Or.inl ⟨by rfl, ?_⟩) ?_ ?_
              rotate_left
              ·intro w'
               go_simp
               with_reducible rfl
              rotate_left
              ·simp only [Act.put, s1, s2, s3, i64_w, i32_w]
               rfl
              refine pure_ (i := 13) (N := some 79) (v := ?_) (a' := ?_) #[true, true, true, true, true, true, true, true, true, true, true, true, true, true, true, false, false] rfl rfl (any_of HT_.out (by kernel_rfl)) (fun _ _ _ h => h) (Or.inl ⟨by rfl, ?_⟩) ?_ ?_
              rotate_left
              ·intro w'
               go_simp
               with_reducible rfl
              rotate_left
              ·simp only [Act.put, s1, s2, s3, i64_w, i32_w]
               rfl
              exact norm_ (by simp only [putAll, Act.put, s1, s2, s3]) (hCont (gb215) _ ⟨hHeld, (by (with_reducible repeat (first | apply Kd.R_alloc | apply Kd.R_drewN | apply Kd.R_drew)); exact HO_8.out), BK163.out, BK164.out, BK174.out, BK175.out, BK204.out, BK215.out, GW215.out, GE215.out, NB163_215.out, NB215_163.out, NB164_215.out, NB215_164.out, NB174_215.out, NB215_174.out, NB175_215.out, NB215_175.out, NB204_215.out, NB215_204.out, HB.out⟩)
            rintro gb215 w98 ⟨hS_, h0_, h1_, h2_, h3_, h4_, h5_, h6_, h7_, h8_, h9_, h10_, h11_, h12_, h13_, h14_, h15_, h16_, h17_, h18_, h19_⟩
            have n0_ : Aside0 (Kd.R k40 40 w98 w.heap.size (fun _ => True) (.slice (some ad208) t205.length co94) t205) := ⟨h0_⟩
            have n1_ : Aside0 (w98.heap[gb163]? = some (.cells #[.int .u64 a0_0, .int .u64 a0_1, .int .u64 a0_2, .int .u64 a0_3] 24 (0, 0))) := ⟨h1_⟩
            have n2_ : Aside0 (w98.heap[gb164]? = some (.cells #[.int .u64 a1_0, .int .u64 a1_1, .int .u64 a1_2, .int .u64 a1_3] 24 (0, 0))) := ⟨h2_⟩
            have n3_ : Aside0 (w98.heap[gb174]? = some (.cells #[.int .u64 t166, .int .u64 t167, .int .u64 t168, .int .u64 t169] 24 (0, 0))) := ⟨h3_⟩
            have n4_ : Aside0 (w98.heap[gb175]? = some (.cells #[.int .u64 t170, .int .u64 t171, .int .u64 t172, .int .u64 t173] 24 (0, 0))) := ⟨h4_⟩
            have n5_ : Aside0 (w98.heap[gb204]? = some (.cells #[.int .u64 x205000_1, .int .u64 x205001_1, .int .u64 x205002_1, .int .u64 x205003_1] 24 (0, 0))) := ⟨h5_⟩
            have n6_ : Aside0 (w98.heap[gb215]? = some (.cells #[.int .u64 0, .int .u64 0, .int .u64 0, .int .u64 0] 24 (0, 0))) := ⟨h6_⟩
            have n7_ : Aside0 (w.heap.size ≤ gb215) := ⟨h7_⟩
            have n8_ : Aside0 (w.heap.size ≤ gb215) := ⟨h8_⟩
            have n9_ : Aside0 (gb163 ≠ gb215) := ⟨h9_⟩
            have n10_ : Aside0 (gb215 ≠ gb163) := ⟨h10_⟩
            have n11_ : Aside0 (gb164 ≠ gb215) := ⟨h11_⟩
            have n12_ : Aside0 (gb215 ≠ gb164) := ⟨h12_⟩
            have n13_ : Aside0 (gb174 ≠ gb215) := ⟨h13_⟩
            have n14_ : Aside0 (gb215 ≠ gb174) := ⟨h14_⟩
            have n15_ : Aside0 (gb175 ≠ gb215) := ⟨h15_⟩
            have n16_ : Aside0 (gb215 ≠ gb175) := ⟨h16_⟩
            have n17_ : Aside0 (gb204 ≠ gb215) := ⟨h17_⟩
            have n18_ : Aside0 (gb215 ≠ gb204) := ⟨h18_⟩
            have n19_ : Aside0 (Below w.heap.size w w98) := ⟨h19_⟩
            clear HO_8 BK163 BK164 BK174 BK175 BK204 HB h0_ h1_ h2_ h3_ h4_ h5_ h6_ h7_ h8_ h9_ h10_ h11_ h12_ h13_ h14_ h15_ h16_ h17_ h18_ h19_
            have HO_8 := n0_
            have BK163 := n1_
            have BK164 := n2_
            have BK174 := n3_
            have BK175 := n4_
            have BK204 := n5_
            have BK215 := n6_
            have GW215 := n7_
            have GE215 := n8_
            have NB163_215 := n9_
            have NB215_163 := n10_
            have NB164_215 := n11_
            have NB215_164 := n12_
            have NB174_215 := n13_
            have NB215_174 := n14_
            have NB175_215 := n15_
            have NB215_175 := n16_
            have NB204_215 := n17_
            have NB215_204 := n18_
            have HB := n19_
            clear n0_ n1_ n2_ n3_ n4_ n5_ n6_ n7_ n8_ n9_ n10_ n11_ n12_ n13_ n14_ n15_ n16_ n17_ n18_ n19_
            have hHeld : w98.cell? (ad208.add ((x9_1).toNat * 2)) = some (.int .i64 ((rd_T40 t205 x9_1).f0)) ∧ w98.cell? ⟨(ad208.add ((x9_1).toNat * 2)).block, (ad208.add ((x9_1).toNat * 2)).off + 1, none⟩ = some (.int .i64 ((rd_T40 t205 x9_1).f1)) ∧ w98.cell? (ad208.add ((x9_1).toNat * 2)) = some (.int .i64 ((rd_T40 t205 x9_1).f0)) ∧ w98.cell? ⟨(ad208.add ((x9_1).toNat * 2)).block, (ad208.add ((x9_1).toNat * 2)).off + 1, none⟩ = some (.int .i64 ((rd_T40 t205 x9_1).f1)) := hS_
            refine norm_ (a' := ?_) ?_ ?_
            rotate_left
            ·simp only [putAll, Act.put, s1, s2, s3]
             rfl
            refine one_ (i := 15) (N := none) #[true, true, true, true, true, true, true, true, true, true, true, true, true, true, true, true, false] rfl rfl (one_of HT_.out (by kernel_rfl)) (by decide) (fun K hK => ?_)
            have hs99 : w98.cell? ⟨gb215, 0, none⟩ = some (.int .u64 0) := bc BK215 0 rfl
            have hfs99 := blk_frozen BK215.out 0
            have hns99_0 := NB163_215.out
            have hns99_1 := NB164_215.out
            have hns99_2 := NB174_215.out
            have hns99_3 := NB175_215.out
            have hns99_4 := NB204_215.out
            have hms99_0 := NB215_163.out
            have hms99_1 := NB215_164.out
            have hms99_2 := NB215_174.out
            have hms99_3 := NB215_175.out
            have hms99_4 := NB215_204.out
            have hs100 : w98.cell? ⟨gb215, 1, none⟩ = some (.int .u64 0) := bc BK215 1 rfl
            have hfs100 := blk_frozen BK215.out 1
            have hns100_0 := NB163_215.out
            have hns100_1 := NB164_215.out
            have hns100_2 := NB174_215.out
            have hns100_3 := NB175_215.out
            have hns100_4 := NB204_215.out
            have hms100_0 := NB215_163.out
            have hms100_1 := NB215_164.out
            have hms100_2 := NB215_174.out
            have hms100_3 := NB215_175.out
            have hms100_4 := NB215_204.out
            have hs101 : w98.cell? ⟨gb215, 2, none⟩ = some (.int .u64 0) := bc BK215 2 rfl
            have hfs101 := blk_frozen BK215.out 2
            have hns101_0 := NB163_215.out
            have hns101_1 := NB164_215.out
            have hns101_2 := NB174_215.out
            have hns101_3 := NB175_215.out
            have hns101_4 := NB204_215.out
            have hms101_0 := NB215_163.out
            have hms101_1 := NB215_164.out
            have hms101_2 := NB215_174.out
            have hms101_3 := NB215_175.out
            have hms101_4 := NB215_204.out
            have hs102 : w98.cell? ⟨gb215, 3, none⟩ = some (.int .u64 0) := bc BK215 3 rfl
            have hfs102 := blk_frozen BK215.out 3
            have hns102_0 := NB163_215.out
            have hns102_1 := NB164_215.out
            have hns102_2 := NB174_215.out
            have hns102_3 := NB175_215.out
            have hns102_4 := NB204_215.out
            have hms102_0 := NB215_163.out
            have hms102_1 := NB215_164.out
            have hms102_2 := NB215_174.out
            have hms102_3 := NB215_175.out
            have hms102_4 := NB215_204.out
            refine skip_ (w1 := ?_) (by rfl) rfl ?_ ?_
            rotate_left
            ·go_simp
             rfl
            refine hK.out _ _ ⟨((cell_far (p := ⟨gb215, _, none⟩) (by first | exact Kd.own_blk (Kd.R_ne HO_8.out BK215.out (by decide)) | (rw [add_block]; exact Kd.own_blk (Kd.R_ne HO_8.out BK215.out (by decide))) | (show (Addr.add _ _).block ≠ _; rw [add_block]; exact Kd.own_blk (Kd.R_ne HO_8.out BK215.out (by decide))) | (dsimp only; exact Kd.own_blk (Kd.R_ne HO_8.out BK215.out (by decide)))) _).trans (((cell_far (p := ⟨gb215, _, none⟩) (by first | exact Kd.own_blk (Kd.R_ne HO_8.out BK215.out (by decide)) | (rw [add_block]; exact Kd.own_blk (Kd.R_ne HO_8.out BK215.out (by decide))) | (show (Addr.add _ _).block ≠ _; rw [add_block]; exact Kd.own_blk (Kd.R_ne HO_8.out BK215.out (by decide))) | (dsimp only; exact Kd.own_blk (Kd.R_ne HO_8.out BK215.out (by decide)))) _).trans (((cell_far (p := ⟨gb215, _, none⟩) (by first | exact Kd.own_blk (Kd.R_ne HO_8.out BK215.out (by decide)) | (rw [add_block]; exact Kd.own_blk (Kd.R_ne HO_8.out BK215.out (by decide))) | (show (Addr.add _ _).block ≠ _; rw [add_block]; exact Kd.own_blk (Kd.R_ne HO_8.out BK215.out (by decide))) | (dsimp only; exact Kd.own_blk (Kd.R_ne HO_8.out BK215.out (by decide)))) _).trans (((cell_far (p := ⟨gb215, _, none⟩) (by first | exact Kd.own_blk (Kd.R_ne HO_8.out BK215.out (by decide)) | (rw [add_block]; exact Kd.own_blk (Kd.R_ne HO_8.out BK215.out (by decide))) | (show (Addr.add _ _).block ≠ _; rw [add_block]; exact Kd.own_blk (Kd.R_ne HO_8.out BK215.out (by decide))) | (dsimp only; exact Kd.own_blk (Kd.R_ne HO_8.out BK215.out (by decide)))) _).trans (hHeld.1)))))))), ((cell_far (p := ⟨gb215, _, none⟩) (by first | exact Kd.own_blk (Kd.R_ne HO_8.out BK215.out (by decide)) | (rw [add_block]; exact Kd.own_blk (Kd.R_ne HO_8.out BK215.out (by decide))) | (show (Addr.add _ _).block ≠ _; rw [add_block]; exact Kd.own_blk (Kd.R_ne HO_8.out BK215.out (by decide))) | (dsimp only; exact Kd.own_blk (Kd.R_ne HO_8.out BK215.out (by decide)))) _).trans (((cell_far (p := ⟨gb215, _, none⟩) (by first | exact Kd.own_blk (Kd.R_ne HO_8.out BK215.out (by decide)) | (rw [add_block]; exact Kd.own_blk (Kd.R_ne HO_8.out BK215.out (by decide))) | (show (Addr.add _ _).block ≠ _; rw [add_block]; exact Kd.own_blk (Kd.R_ne HO_8.out BK215.out (by decide))) | (dsimp only; exact Kd.own_blk (Kd.R_ne HO_8.out BK215.out (by decide)))) _).trans (((cell_far (p := ⟨gb215, _, none⟩) (by first | exact Kd.own_blk (Kd.R_ne HO_8.out BK215.out (by decide)) | (rw [add_block]; exact Kd.own_blk (Kd.R_ne HO_8.out BK215.out (by decide))) | (show (Addr.add _ _).block ≠ _; rw [add_block]; exact Kd.own_blk (Kd.R_ne HO_8.out BK215.out (by decide))) | (dsimp only; exact Kd.own_blk (Kd.R_ne HO_8.out BK215.out (by decide)))) _).trans (((cell_far (p := ⟨gb215, _, none⟩) (by first | exact Kd.own_blk (Kd.R_ne HO_8.out BK215.out (by decide)) | (rw [add_block]; exact Kd.own_blk (Kd.R_ne HO_8.out BK215.out (by decide))) | (show (Addr.add _ _).block ≠ _; rw [add_block]; exact Kd.own_blk (Kd.R_ne HO_8.out BK215.out (by decide))) | (dsimp only; exact Kd.own_blk (Kd.R_ne HO_8.out BK215.out (by decide)))) _).trans (hHeld.2.1)))))))), ((cell_far (p := ⟨gb215, _, none⟩) (by first | exact Kd.own_blk (Kd.R_ne HO_8.out BK215.out (by decide)) | (rw [add_block]; exact Kd.own_blk (Kd.R_ne HO_8.out BK215.out (by decide))) | (show (Addr.add _ _).block ≠ _; rw [add_block]; exact Kd.own_blk (Kd.R_ne HO_8.out BK215.out (by decide))) | (dsimp only; exact Kd.own_blk (Kd.R_ne HO_8.out BK215.out (by decide)))) _).trans (((cell_far (p := ⟨gb215, _, none⟩) (by first | exact Kd.own_blk (Kd.R_ne HO_8.out BK215.out (by decide)) | (rw [add_block]; exact Kd.own_blk (Kd.R_ne HO_8.out BK215.out (by decide))) | (show (Addr.add _ _).block ≠ _; rw [add_block]; exact Kd.own_blk (Kd.R_ne HO_8.out BK215.out (by decide))) | (dsimp only; exact Kd.own_blk (Kd.R_ne HO_8.out BK215.out (by decide)))) _).trans (((cell_far (p := ⟨gb215, _, none⟩) (by first | exact Kd.own_blk (Kd.R_ne HO_8.out BK215.out (by decide)) | (rw [add_block]; exact Kd.own_blk (Kd.R_ne HO_8.out BK215.out (by decide))) | (show (Addr.add _ _).block ≠ _; rw [add_block]; exact Kd.own_blk (Kd.R_ne HO_8.out BK215.out (by decide))) | (dsimp only; exact Kd.own_blk (Kd.R_ne HO_8.out BK215.out (by decide)))) _).trans (((cell_far (p := ⟨gb215, _, none⟩) (by first | exact Kd.own_blk (Kd.R_ne HO_8.out BK215.out (by decide)) | (rw [add_block]; exact Kd.own_blk (Kd.R_ne HO_8.out BK215.out (by decide))) | (show (Addr.add _ _).block ≠ _; rw [add_block]; exact Kd.own_blk (Kd.R_ne HO_8.out BK215.out (by decide))) | (dsimp only; exact Kd.own_blk (Kd.R_ne HO_8.out BK215.out (by decide)))) _).trans (hHeld.2.2.1)))))))), ((cell_far (p := ⟨gb215, _, none⟩) (by first | exact Kd.own_blk (Kd.R_ne HO_8.out BK215.out (by decide)) | (rw [add_block]; exact Kd.own_blk (Kd.R_ne HO_8.out BK215.out (by decide))) | (show (Addr.add _ _).block ≠ _; rw [add_block]; exact Kd.own_blk (Kd.R_ne HO_8.out BK215.out (by decide))) | (dsimp only; exact Kd.own_blk (Kd.R_ne HO_8.out BK215.out (by decide)))) _).trans (((cell_far (p := ⟨gb215, _, none⟩) (by first | exact Kd.own_blk (Kd.R_ne HO_8.out BK215.out (by decide)) | (rw [add_block]; exact Kd.own_blk (Kd.R_ne HO_8.out BK215.out (by decide))) | (show (Addr.add _ _).block ≠ _; rw [add_block]; exact Kd.own_blk (Kd.R_ne HO_8.out BK215.out (by decide))) | (dsimp only; exact Kd.own_blk (Kd.R_ne HO_8.out BK215.out (by decide)))) _).trans (((cell_far (p := ⟨gb215, _, none⟩) (by first | exact Kd.own_blk (Kd.R_ne HO_8.out BK215.out (by decide)) | (rw [add_block]; exact Kd.own_blk (Kd.R_ne HO_8.out BK215.out (by decide))) | (show (Addr.add _ _).block ≠ _; rw [add_block]; exact Kd.own_blk (Kd.R_ne HO_8.out BK215.out (by decide))) | (dsimp only; exact Kd.own_blk (Kd.R_ne HO_8.out BK215.out (by decide)))) _).trans (((cell_far (p := ⟨gb215, _, none⟩) (by first | exact Kd.own_blk (Kd.R_ne HO_8.out BK215.out (by decide)) | (rw [add_block]; exact Kd.own_blk (Kd.R_ne HO_8.out BK215.out (by decide))) | (show (Addr.add _ _).block ≠ _; rw [add_block]; exact Kd.own_blk (Kd.R_ne HO_8.out BK215.out (by decide))) | (dsimp only; exact Kd.own_blk (Kd.R_ne HO_8.out BK215.out (by decide)))) _).trans (hHeld.2.2.2))))))))⟩ (fun hHeld => ?_)
            clear hK K
            refine pure_ (i := 16) (N := some 11) (v := ?_) (a' := ?_) #[true, true, true, true, true, true, true, true, true, true, true, true, true, true, true, true, true] rfl rfl (any_of HT_.out (by kernel_rfl)) (fun _ _ _ h => h) (Or.inl ⟨by rfl, ?_⟩) ?_ ?_
            rotate_left
            ·intro w'
             go_simp
             with_reducible rfl
            rotate_left
            ·simp only [Act.put, s1, s2, s3, i64_w, i32_w]
             rfl
            refine done_ (done_of HT_.out (by kernel_rfl)) ?_
            try go_wp2
            have n0_ : Aside0 (Kd.R k40 40 ((((w98.setCell ⟨gb215, 0, none⟩ (.int .u64 t210)).setCell ⟨gb215, 1, none⟩ (.int .u64 t211)).setCell ⟨gb215, 2, none⟩ (.int .u64 t212)).setCell ⟨gb215, 3, none⟩ (.int .u64 t213)) w.heap.size (fun _ => True) (.slice (some ad208) t205.length co94) t205) := ⟨by (with_reducible repeat (first | apply Kd.R_alloc | apply Kd.R_drewN | apply Kd.R_drew)); exact Kd.R_mono (Kd.R_far (p := ⟨gb215, 3, none⟩) (Kd.R_far (p := ⟨gb215, 2, none⟩) (Kd.R_far (p := ⟨gb215, 1, none⟩) (Kd.R_far (p := ⟨gb215, 0, none⟩) (Kd.R_types HO_8.out BK215.out (by decide)) (fun _ hk => hk.2) (.int .u64 t210)) (fun _ hk => hk.2) (.int .u64 t211)) (fun _ hk => hk.2) (.int .u64 t212)) (fun _ hk => hk.2) (.int .u64 t213)) (fun _ hk => trivial)⟩
            have n1_ : Aside0 (((((w98.setCell ⟨gb215, 0, none⟩ (.int .u64 t210)).setCell ⟨gb215, 1, none⟩ (.int .u64 t211)).setCell ⟨gb215, 2, none⟩ (.int .u64 t212)).setCell ⟨gb215, 3, none⟩ (.int .u64 t213)).heap[gb163]? = some (.cells #[.int .u64 a0_0, .int .u64 a0_1, .int .u64 a0_2, .int .u64 a0_3] 24 (0, 0))) := ⟨by refine blk_far ?_ NB163_215.out _; refine blk_far ?_ NB163_215.out _; refine blk_far ?_ NB163_215.out _; refine blk_far ?_ NB163_215.out _; exact BK163.out⟩
            have n2_ : Aside0 (((((w98.setCell ⟨gb215, 0, none⟩ (.int .u64 t210)).setCell ⟨gb215, 1, none⟩ (.int .u64 t211)).setCell ⟨gb215, 2, none⟩ (.int .u64 t212)).setCell ⟨gb215, 3, none⟩ (.int .u64 t213)).heap[gb164]? = some (.cells #[.int .u64 a1_0, .int .u64 a1_1, .int .u64 a1_2, .int .u64 a1_3] 24 (0, 0))) := ⟨by refine blk_far ?_ NB164_215.out _; refine blk_far ?_ NB164_215.out _; refine blk_far ?_ NB164_215.out _; refine blk_far ?_ NB164_215.out _; exact BK164.out⟩
            have n3_ : Aside0 (((((w98.setCell ⟨gb215, 0, none⟩ (.int .u64 t210)).setCell ⟨gb215, 1, none⟩ (.int .u64 t211)).setCell ⟨gb215, 2, none⟩ (.int .u64 t212)).setCell ⟨gb215, 3, none⟩ (.int .u64 t213)).heap[gb174]? = some (.cells #[.int .u64 t166, .int .u64 t167, .int .u64 t168, .int .u64 t169] 24 (0, 0))) := ⟨by refine blk_far ?_ NB174_215.out _; refine blk_far ?_ NB174_215.out _; refine blk_far ?_ NB174_215.out _; refine blk_far ?_ NB174_215.out _; exact BK174.out⟩
            have n4_ : Aside0 (((((w98.setCell ⟨gb215, 0, none⟩ (.int .u64 t210)).setCell ⟨gb215, 1, none⟩ (.int .u64 t211)).setCell ⟨gb215, 2, none⟩ (.int .u64 t212)).setCell ⟨gb215, 3, none⟩ (.int .u64 t213)).heap[gb175]? = some (.cells #[.int .u64 t170, .int .u64 t171, .int .u64 t172, .int .u64 t173] 24 (0, 0))) := ⟨by refine blk_far ?_ NB175_215.out _; refine blk_far ?_ NB175_215.out _; refine blk_far ?_ NB175_215.out _; refine blk_far ?_ NB175_215.out _; exact BK175.out⟩
            have n5_ : Aside0 (((((w98.setCell ⟨gb215, 0, none⟩ (.int .u64 t210)).setCell ⟨gb215, 1, none⟩ (.int .u64 t211)).setCell ⟨gb215, 2, none⟩ (.int .u64 t212)).setCell ⟨gb215, 3, none⟩ (.int .u64 t213)).heap[gb204]? = some (.cells #[.int .u64 x205000_1, .int .u64 x205001_1, .int .u64 x205002_1, .int .u64 x205003_1] 24 (0, 0))) := ⟨by refine blk_far ?_ NB204_215.out _; refine blk_far ?_ NB204_215.out _; refine blk_far ?_ NB204_215.out _; refine blk_far ?_ NB204_215.out _; exact BK204.out⟩
            have n6_ : Aside0 (((((w98.setCell ⟨gb215, 0, none⟩ (.int .u64 t210)).setCell ⟨gb215, 1, none⟩ (.int .u64 t211)).setCell ⟨gb215, 2, none⟩ (.int .u64 t212)).setCell ⟨gb215, 3, none⟩ (.int .u64 t213)).heap[gb215]? = some (.cells #[.int .u64 t210, .int .u64 t211, .int .u64 t212, .int .u64 t213] 24 (0, 0))) := ⟨by refine blk_put (cs := #[.int .u64 t210, .int .u64 t211, .int .u64 t212, .int .u64 0]) ?_ 3 _ rfl; refine blk_put (cs := #[.int .u64 t210, .int .u64 t211, .int .u64 0, .int .u64 0]) ?_ 2 _ rfl; refine blk_put (cs := #[.int .u64 t210, .int .u64 0, .int .u64 0, .int .u64 0]) ?_ 1 _ rfl; refine blk_put (cs := #[.int .u64 0, .int .u64 0, .int .u64 0, .int .u64 0]) ?_ 0 _ rfl; exact BK215.out⟩
            have n7_ : Aside0 (Below w.heap.size w ((((w98.setCell ⟨gb215, 0, none⟩ (.int .u64 t210)).setCell ⟨gb215, 1, none⟩ (.int .u64 t211)).setCell ⟨gb215, 2, none⟩ (.int .u64 t212)).setCell ⟨gb215, 3, none⟩ (.int .u64 t213))) := ⟨by repeat (first | (with_reducible first | exact HB.out | apply below_alloc | apply pw_below_drewN | apply below_drew1 | refine below_set ?_ GE163.out | refine below_set ?_ GE164.out | refine below_set ?_ GE174.out | refine below_set ?_ GE175.out | refine below_set ?_ GE204.out | refine below_set ?_ GE215.out) | exact HB.out)⟩
            (try clear HO_8)
            (try clear BK163)
            (try clear BK164)
            (try clear BK174)
            (try clear BK175)
            (try clear BK204)
            (try clear BK215)
            (try clear HB)
            generalize ((((w98.setCell ⟨gb215, 0, none⟩ (.int .u64 t210)).setCell ⟨gb215, 1, none⟩ (.int .u64 t211)).setCell ⟨gb215, 2, none⟩ (.int .u64 t212)).setCell ⟨gb215, 3, none⟩ (.int .u64 t213)) = w103 at n0_ n1_ n2_ n3_ n4_ n5_ n6_ n7_ ⊢
            have HO_8 := n0_
            have BK163 := n1_
            have BK164 := n2_
            have BK174 := n3_
            have BK175 := n4_
            have BK204 := n5_
            have BK215 := n6_
            have HB := n7_
            clear n0_ n1_ n2_ n3_ n4_ n5_ n6_ n7_
            have n0_ := Aside0.mk (Kd.R_drew HO_8.out)
            have n1_ := Aside0.mk (blk_drew BK163.out)
            have n2_ := Aside0.mk (blk_drew BK164.out)
            have n3_ := Aside0.mk (blk_drew BK174.out)
            have n4_ := Aside0.mk (blk_drew BK175.out)
            have n5_ := Aside0.mk (blk_drew BK204.out)
            have n6_ := Aside0.mk (blk_drew BK215.out)
            have n7_ := Aside0.mk (below_drew1 HB.out)
            clear HO_8 BK163 BK164 BK174 BK175 BK204 BK215 HB
            have HO_8 := n0_
            have BK163 := n1_
            have BK164 := n2_
            have BK174 := n3_
            have BK175 := n4_
            have BK204 := n5_
            have BK215 := n6_
            have HB := n7_
            clear n0_ n1_ n2_ n3_ n4_ n5_ n6_ n7_
            refine start_ (n := 22) (S := fun w' => True) (ds := []) #[false, false, false, false, false, false, false, false, false, false, false, false, false, false, false, false, false, false, false, false, false, false] (by kernel_rfl) rfl rfl trivial (fun hHeld => ?_); refine with_tabW templelaw1_SetRules.tab12 templelaw1_SetRules.bits12 (fun HT_ HW_ => ?_)
            generalize w103.drew = w104 at HO_8 BK163 BK164 BK174 BK175 BK204 BK215 HB hHeld ⊢
            refine pure_ (i := 0) (N := some 80) (v := ?_) (a' := ?_) #[true, false, false, false, false, false, false, false, false, false, false, false, false, false, false, false, false, false, false, false, false, false] rfl rfl (any_of HT_.out (by kernel_rfl)) (fun _ _ _ h => h) (Or.inl ⟨by rfl, ?_⟩) ?_ ?_
            rotate_left
            ·intro w'
             go_simp
             with_reducible rfl
            rotate_left
            ·simp only [Act.put, s1, s2, s3, i64_w, i32_w]
             rfl
            refine one_ (i := 1) (N := some 81) #[true, true, false, false, false, false, false, false, false, false, false, false, false, false, false, false, false, false, false, false, false, false] rfl rfl (one_of HT_.out (by kernel_rfl)) (by decide) (fun K hK => ?_)
            refine goes_ Try.func12 (by kernel_rfl) rfl #[.int .i64 t214] (by rfl) rfl rfl (by (try simp only [List.map_toArray, List.map_cons, List.map_nil]); first | done | rfl | (simp only [List.length_drop, List.length_take]; rfl)) ?_
            with_reducible refine (templelaw0_Num.calls t214 t216 _ A61.out).mono ?_
            rintro e w' ⟨rfl, ⟨nd, rfl⟩⟩
            refine ⟨_, rfl, ?_⟩
            refine hK.out _ _ trivial (fun hHeld => ?_)
            clear hK K
            refine norm_ (a' := ?_) ?_ ?_
            rotate_left
            ·show Act.put _ (some 81) _ = _
             simp only [Act.put, s1, s2, s3, i64_w, i32_w]
             rfl
            refine pure_ (i := 2) (N := some 82) (v := ?_) (a' := ?_) #[true, true, true, false, false, false, false, false, false, false, false, false, false, false, false, false, false, false, false, false, false, false] rfl rfl (any_of HT_.out (by kernel_rfl)) (fun _ _ _ h => h) (Or.inl ⟨by rfl, ?_⟩) ?_ ?_
            rotate_left
            ·intro w'
             go_simp
             with_reducible rfl
            rotate_left
            ·simp only [Act.put, s1, s2, s3, i64_w, i32_w]
             rfl
            refine pure_ (i := 3) (N := some 83) (v := ?_) (a' := ?_) #[true, true, true, true, false, false, false, false, false, false, false, false, false, false, false, false, false, false, false, false, false, false] rfl rfl (any_of HT_.out (by kernel_rfl)) (fun _ _ _ h => h) (Or.inl ⟨by rfl, ?_⟩) ?_ ?_
            rotate_left
            ·intro w'
             go_simp
             with_reducible rfl
            rotate_left
            ·simp only [Act.put, s1, s2, s3, i64_w, i32_w]
             rfl
            refine pure_ (i := 4) (N := some 84) (v := ?_) (a' := ?_) #[true, true, true, true, true, false, false, false, false, false, false, false, false, false, false, false, false, false, false, false, false, false] rfl rfl (any_of HT_.out (by kernel_rfl)) (fun _ _ _ h => h) (Or.inl ⟨by rfl, ?_⟩) ?_ ?_
            rotate_left
            ·intro w'
             go_simp
             with_reducible rfl
            rotate_left
            ·simp only [Act.put, s1, s2, s3, i64_w, i32_w]
             rfl
            refine pure_ (i := 5) (N := some 85) (v := ?_) (a' := ?_) #[true, true, true, true, true, true, false, false, false, false, false, false, false, false, false, false, false, false, false, false, false, false] rfl rfl (any_of HT_.out (by kernel_rfl)) (fun _ _ _ h => h) (Or.inl ⟨by rfl, ?_⟩) ?_ ?_
            rotate_left
            ·intro w'
             go_simp
             with_reducible rfl
            rotate_left
            ·simp only [Act.put, s1, s2, s3, i64_w, i32_w]
             rfl
            refine pure_ (i := 6) (N := some 86) (v := ?_) (a' := ?_) #[true, true, true, true, true, true, true, false, false, false, false, false, false, false, false, false, false, false, false, false, false, false] rfl rfl (any_of HT_.out (by kernel_rfl)) (fun _ _ _ h => h) (Or.inl ⟨by rfl, ?_⟩) ?_ ?_
            rotate_left
            ·intro w'
             go_simp
             with_reducible rfl
            rotate_left
            ·simp only [Act.put, s1, s2, s3, i64_w, i32_w]
             rfl
            refine pure_ (i := 7) (N := some 87) (v := undef) (a' := ?_) #[true, true, true, true, true, true, true, true, false, false, false, false, false, false, false, false, false, false, false, false, false, false] rfl rfl (any_of HT_.out (by kernel_rfl)) (fun _ _ _ h => h) (Or.inr ⟨by rfl, rfl⟩) ?_ ?_
            rotate_left
            ·simp only [Act.put, s1, s2, s3, i64_w, i32_w]
             rfl
            refine pure_ (i := 8) (N := some 88) (v := undef) (a' := ?_) #[true, true, true, true, true, true, true, true, true, false, false, false, false, false, false, false, false, false, false, false, false, false] rfl rfl (any_of HT_.out (by kernel_rfl)) (fun _ _ _ h => h) (Or.inr ⟨by rfl, rfl⟩) ?_ ?_
            rotate_left
            ·simp only [Act.put, s1, s2, s3, i64_w, i32_w]
             rfl
            refine pure_ (i := 9) (N := some 89) (v := undef) (a' := ?_) #[true, true, true, true, true, true, true, true, true, true, false, false, false, false, false, false, false, false, false, false, false, false] rfl rfl (any_of HT_.out (by kernel_rfl)) (fun _ _ _ h => h) (Or.inr ⟨by rfl, rfl⟩) ?_ ?_
            rotate_left
            ·simp only [Act.put, s1, s2, s3, i64_w, i32_w]
             rfl
            refine pure_ (i := 10) (N := some 90) (v := undef) (a' := ?_) #[true, true, true, true, true, true, true, true, true, true, true, false, false, false, false, false, false, false, false, false, false, false] rfl rfl (any_of HT_.out (by kernel_rfl)) (fun _ _ _ h => h) (Or.inr ⟨by rfl, rfl⟩) ?_ ?_
            rotate_left
            ·simp only [Act.put, s1, s2, s3, i64_w, i32_w]
             rfl
            refine pure_ (i := 11) (N := some 91) (v := undef) (a' := ?_) #[true, true, true, true, true, true, true, true, true, true, true, true, false, false, false, false, false, false, false, false, false, false] rfl rfl (any_of HT_.out (by kernel_rfl)) (fun _ _ _ h => h) (Or.inr ⟨by rfl, rfl⟩) ?_ ?_
            rotate_left
            ·simp only [Act.put, s1, s2, s3, i64_w, i32_w]
             rfl
            refine pure_ (i := 12) (N := some 92) (v := undef) (a' := ?_) #[true, true, true, true, true, true, true, true, true, true, true, true, true, false, false, false, false, false, false, false, false, false] rfl rfl (any_of HT_.out (by kernel_rfl)) (fun _ _ _ h => h) (Or.inr ⟨by rfl, rfl⟩) ?_ ?_
            rotate_left
            ·simp only [Act.put, s1, s2, s3, i64_w, i32_w]
             rfl
            refine pure_ (i := 13) (N := some 93) (v := undef) (a' := ?_) #[true, true, true, true, true, true, true, true, true, true, true, true, true, true, false, false, false, false, false, false, false, false] rfl rfl (any_of HT_.out (by kernel_rfl)) (fun _ _ _ h => h) (Or.inr ⟨by rfl, rfl⟩) ?_ ?_
            rotate_left
            ·simp only [Act.put, s1, s2, s3, i64_w, i32_w]
             rfl
            refine pure_ (i := 14) (N := some 94) (v := undef) (a' := ?_) #[true, true, true, true, true, true, true, true, true, true, true, true, true, true, true, false, false, false, false, false, false, false] rfl rfl (any_of HT_.out (by kernel_rfl)) (fun _ _ _ h => h) (Or.inr ⟨by rfl, rfl⟩) ?_ ?_
            rotate_left
            ·simp only [Act.put, s1, s2, s3, i64_w, i32_w]
             rfl
            refine pure_ (i := 15) (N := some 95) (v := undef) (a' := ?_) #[true, true, true, true, true, true, true, true, true, true, true, true, true, true, true, true, false, false, false, false, false, false] rfl rfl (any_of HT_.out (by kernel_rfl)) (fun _ _ _ h => h) (Or.inr ⟨by rfl, rfl⟩) ?_ ?_
            rotate_left
            ·simp only [Act.put, s1, s2, s3, i64_w, i32_w]
             rfl
            refine pure_ (i := 16) (N := some 96) (v := undef) (a' := ?_) #[true, true, true, true, true, true, true, true, true, true, true, true, true, true, true, true, true, false, false, false, false, false] rfl rfl (any_of HT_.out (by kernel_rfl)) (fun _ _ _ h => h) (Or.inr ⟨by rfl, rfl⟩) ?_ ?_
            rotate_left
            ·simp only [Act.put, s1, s2, s3, i64_w, i32_w]
             rfl
            refine pure_ (i := 17) (N := some 97) (v := undef) (a' := ?_) #[true, true, true, true, true, true, true, true, true, true, true, true, true, true, true, true, true, true, false, false, false, false] rfl rfl (any_of HT_.out (by kernel_rfl)) (fun _ _ _ h => h) (Or.inr ⟨by rfl, rfl⟩) ?_ ?_
            rotate_left
            ·simp only [Act.put, s1, s2, s3, i64_w, i32_w]
             rfl
            refine pure_ (i := 18) (N := some 98) (v := undef) (a' := ?_) #[true, true, true, true, true, true, true, true, true, true, true, true, true, true, true, true, true, true, true, false, false, false] rfl rfl (any_of HT_.out (by kernel_rfl)) (fun _ _ _ h => h) (Or.inr ⟨by rfl, rfl⟩) ?_ ?_
            rotate_left
            ·simp only [Act.put, s1, s2, s3, i64_w, i32_w]
             rfl
            refine pure_ (i := 19) (N := some 99) (v := undef) (a' := ?_) #[true, true, true, true, true, true, true, true, true, true, true, true, true, true, true, true, true, true, true, true, false, false] rfl rfl (any_of HT_.out (by kernel_rfl)) (fun _ _ _ h => h) (Or.inr ⟨by rfl, rfl⟩) ?_ ?_
            rotate_left
            ·simp only [Act.put, s1, s2, s3, i64_w, i32_w]
             rfl
            refine pure_ (i := 20) (N := some 100) (v := ?_) (a' := ?_) #[true, true, true, true, true, true, true, true, true, true, true, true, true, true, true, true, true, true, true, true, true, false] rfl rfl (any_of HT_.out (by kernel_rfl)) (fun _ _ _ h => h) (Or.inl ⟨by rfl, ?_⟩) ?_ ?_
            rotate_left
            ·intro w'
             go_simp
             with_reducible rfl
            rotate_left
            ·simp only [Act.put, s1, s2, s3, i64_w, i32_w]
             rfl
            refine pure_ (i := 21) (N := some 101) (v := ?_) (a' := ?_) #[true, true, true, true, true, true, true, true, true, true, true, true, true, true, true, true, true, true, true, true, true, true] rfl rfl (any_of HT_.out (by kernel_rfl)) (fun _ _ _ h => h) (Or.inl ⟨by rfl, ?_⟩) ?_ ?_
            rotate_left
            ·intro w'
             go_simp
             with_reducible rfl
            rotate_left
            ·simp only [Act.put, s1, s2, s3, i64_w, i32_w]
             rfl
            refine done_ (done_of HT_.out (by kernel_rfl)) ?_
            have hnb105 := NB204_163.out
            have hnc105 := NB163_204.out
            have hnb106 := NB204_164.out
            have hnc106 := NB164_204.out
            have hnb107 := NB204_174.out
            have hnc107 := NB174_204.out
            have hnb108 := NB204_175.out
            have hnc108 := NB175_204.out
            have hnb109 := NB204_215.out
            have hnc109 := NB215_204.out
            have hcz110_0 : w104.cell? ⟨gb204, 0, none⟩ = some (.int .u64 x205000_1) := bc BK204 0 rfl
            have hcz110_1 : w104.cell? ⟨gb204, 1, none⟩ = some (.int .u64 x205001_1) := bc BK204 1 rfl
            have hcz110_2 : w104.cell? ⟨gb204, 2, none⟩ = some (.int .u64 x205002_1) := bc BK204 2 rfl
            have hcz110_3 : w104.cell? ⟨gb204, 3, none⟩ = some (.int .u64 x205003_1) := bc BK204 3 rfl
            have hfz110_0 := blk_frozen BK204.out 0
            have hfz110_1 := blk_frozen BK204.out 1
            have hfz110_2 := blk_frozen BK204.out 2
            have hfz110_3 := blk_frozen BK204.out 3
            have hnb111 := NB215_163.out
            have hnc111 := NB163_215.out
            have hnb112 := NB215_164.out
            have hnc112 := NB164_215.out
            have hnb113 := NB215_174.out
            have hnc113 := NB174_215.out
            have hnb114 := NB215_175.out
            have hnc114 := NB175_215.out
            have hcz115_0 : w104.cell? ⟨gb215, 0, none⟩ = some (.int .u64 t210) := bc BK215 0 rfl
            have hcz115_1 : w104.cell? ⟨gb215, 1, none⟩ = some (.int .u64 t211) := bc BK215 1 rfl
            have hcz115_2 : w104.cell? ⟨gb215, 2, none⟩ = some (.int .u64 t212) := bc BK215 2 rfl
            have hcz115_3 : w104.cell? ⟨gb215, 3, none⟩ = some (.int .u64 t213) := bc BK215 3 rfl
            have hfz115_0 := blk_frozen BK215.out 0
            have hfz115_1 := blk_frozen BK215.out 1
            have hfz115_2 := blk_frozen BK215.out 2
            have hfz115_3 := blk_frozen BK215.out 3
            try go_wp2_with (first | ((with_reducible refine gate_callee (f := 15) rfl ?_); refine goesL_ (some 104) rfl rfl Try.func15 (by kernel_rfl) rfl #[.agg #[.int .u64 x205000_1, .int .u64 x205001_1, .int .u64 x205002_1, .int .u64 x205003_1], .agg #[.int .u64 t210, .int .u64 t211, .int .u64 t212, .int .u64 t213]] rfl (by (try simp only [List.map_toArray, List.map_cons, List.map_nil]); first | done | rfl | (simp only [List.length_drop, List.length_take]; rfl)) ?_; (with_reducible refine (byteset_Or.calls x205000_1 x205001_1 x205002_1 x205003_1 t210 t211 t212 t213 t223 t224 t225 t226 _ A93.out).mono ?_); rintro e w116 ⟨rfl, hb⟩; refine ⟨_, rfl, ?_⟩; have n0_ := Aside0.mk (Kd.R_below (by (with_reducible repeat (first | apply Kd.R_alloc | apply Kd.R_drewN | apply Kd.R_drew)); exact HO_8.out) hb); have n1_ := Aside0.mk (blk_below (g := gb163) (o := .cells #[.int .u64 a0_0, .int .u64 a0_1, .int .u64 a0_2, .int .u64 a0_3] 24 (0, 0)) (by (with_reducible repeat (first | refine blk_drewN ?_ _ | refine blk_drew ?_ | refine blk_alloc ?_ _)); exact BK163.out) hb); have n2_ := Aside0.mk (blk_below (g := gb164) (o := .cells #[.int .u64 a1_0, .int .u64 a1_1, .int .u64 a1_2, .int .u64 a1_3] 24 (0, 0)) (by (with_reducible repeat (first | refine blk_drewN ?_ _ | refine blk_drew ?_ | refine blk_alloc ?_ _)); exact BK164.out) hb); have n3_ := Aside0.mk (blk_below (g := gb174) (o := .cells #[.int .u64 t166, .int .u64 t167, .int .u64 t168, .int .u64 t169] 24 (0, 0)) (by (with_reducible repeat (first | refine blk_drewN ?_ _ | refine blk_drew ?_ | refine blk_alloc ?_ _)); exact BK174.out) hb); have n4_ := Aside0.mk (blk_below (g := gb175) (o := .cells #[.int .u64 t170, .int .u64 t171, .int .u64 t172, .int .u64 t173] 24 (0, 0)) (by (with_reducible repeat (first | refine blk_drewN ?_ _ | refine blk_drew ?_ | refine blk_alloc ?_ _)); exact BK175.out) hb); have n5_ := Aside0.mk (blk_below (g := gb204) (o := .cells #[.int .u64 x205000_1, .int .u64 x205001_1, .int .u64 x205002_1, .int .u64 x205003_1] 24 (0, 0)) (by (with_reducible repeat (first | refine blk_drewN ?_ _ | refine blk_drew ?_ | refine blk_alloc ?_ _)); exact BK204.out) hb); have n6_ := Aside0.mk (blk_below (g := gb215) (o := .cells #[.int .u64 t210, .int .u64 t211, .int .u64 t212, .int .u64 t213] 24 (0, 0)) (by (with_reducible repeat (first | refine blk_drewN ?_ _ | refine blk_drew ?_ | refine blk_alloc ?_ _)); exact BK215.out) hb); have n7_ := Aside0.mk (below_step (by repeat (first | (with_reducible first | exact HB.out | apply below_alloc | apply pw_below_drewN | apply below_drew1 | refine below_set ?_ GE163.out | refine below_set ?_ GE164.out | refine below_set ?_ GE174.out | refine below_set ?_ GE175.out | refine below_set ?_ GE204.out | refine below_set ?_ GE215.out) | exact HB.out)) hb); clear HO_8; clear BK163; clear BK164; clear BK174; clear BK175; clear BK204; clear BK215; clear HB; have HO_8 := n0_; have BK163 := n1_; have BK164 := n2_; have BK174 := n3_; have BK175 := n4_; have BK204 := n5_; have BK215 := n6_; have HB := n7_; clear n0_ n1_ n2_ n3_ n4_ n5_ n6_ n7_; (try clear hb); have hcz117_0 : w116.cell? ⟨gb204, 0, none⟩ = some (.int .u64 x205000_1) := bc BK204 0 rfl; have hcz117_1 : w116.cell? ⟨gb204, 1, none⟩ = some (.int .u64 x205001_1) := bc BK204 1 rfl; have hcz117_2 : w116.cell? ⟨gb204, 2, none⟩ = some (.int .u64 x205002_1) := bc BK204 2 rfl; have hcz117_3 : w116.cell? ⟨gb204, 3, none⟩ = some (.int .u64 x205003_1) := bc BK204 3 rfl; have hfz117_0 := blk_frozen BK204.out 0; have hfz117_1 := blk_frozen BK204.out 1; have hfz117_2 := blk_frozen BK204.out 2; have hfz117_3 := blk_frozen BK204.out 3))
            go_roundg k1
            case measure => have := HK1.out; omega
            case rel => exact ⟨(wrap64 (x9_1 + 1)), (t223), (t224), (t225), (t226), (by first | rfl | (simp; done) | (simp [i64_w]; done) | (simp [*]; done) | (simp [*, i64_w]; done) | (simp [*]; unfold wrap64; omega)), H', ⟨by have := HK1.out; omega⟩, ⟨by (with_reducible repeat (first | apply Kd.R_alloc | apply Kd.R_drewN | apply Kd.R_drew)); exact Kd.R_mono (Kd.R_far (p := ⟨gb204, 3, none⟩) (Kd.R_far (p := ⟨gb204, 2, none⟩) (Kd.R_far (p := ⟨gb204, 1, none⟩) (Kd.R_far (p := ⟨gb204, 0, none⟩) (Kd.R_types HO_8.out BK204.out (by decide)) (fun _ hk => hk.2) (.int .u64 t223)) (fun _ hk => hk.2) (.int .u64 t224)) (fun _ hk => hk.2) (.int .u64 t225)) (fun _ hk => hk.2) (.int .u64 t226)) (fun _ hk => trivial)⟩, ⟨by (with_reducible repeat (first | refine blk_drewN ?_ _ | refine blk_drew ?_ | refine blk_alloc ?_ _)); refine blk_far ?_ NB163_204.out _; (with_reducible repeat (first | refine blk_drewN ?_ _ | refine blk_drew ?_ | refine blk_alloc ?_ _)); refine blk_far ?_ NB163_204.out _; (with_reducible repeat (first | refine blk_drewN ?_ _ | refine blk_drew ?_ | refine blk_alloc ?_ _)); refine blk_far ?_ NB163_204.out _; (with_reducible repeat (first | refine blk_drewN ?_ _ | refine blk_drew ?_ | refine blk_alloc ?_ _)); refine blk_far ?_ NB163_204.out _; (with_reducible repeat (first | refine blk_drewN ?_ _ | refine blk_drew ?_ | refine blk_alloc ?_ _)); exact BK163.out⟩, ⟨by (with_reducible repeat (first | refine blk_drewN ?_ _ | refine blk_drew ?_ | refine blk_alloc ?_ _)); refine blk_far ?_ NB164_204.out _; (with_reducible repeat (first | refine blk_drewN ?_ _ | refine blk_drew ?_ | refine blk_alloc ?_ _)); refine blk_far ?_ NB164_204.out _; (with_reducible repeat (first | refine blk_drewN ?_ _ | refine blk_drew ?_ | refine blk_alloc ?_ _)); refine blk_far ?_ NB164_204.out _; (with_reducible repeat (first | refine blk_drewN ?_ _ | refine blk_drew ?_ | refine blk_alloc ?_ _)); refine blk_far ?_ NB164_204.out _; (with_reducible repeat (first | refine blk_drewN ?_ _ | refine blk_drew ?_ | refine blk_alloc ?_ _)); exact BK164.out⟩, ⟨by (with_reducible repeat (first | refine blk_drewN ?_ _ | refine blk_drew ?_ | refine blk_alloc ?_ _)); refine blk_far ?_ NB174_204.out _; (with_reducible repeat (first | refine blk_drewN ?_ _ | refine blk_drew ?_ | refine blk_alloc ?_ _)); refine blk_far ?_ NB174_204.out _; (with_reducible repeat (first | refine blk_drewN ?_ _ | refine blk_drew ?_ | refine blk_alloc ?_ _)); refine blk_far ?_ NB174_204.out _; (with_reducible repeat (first | refine blk_drewN ?_ _ | refine blk_drew ?_ | refine blk_alloc ?_ _)); refine blk_far ?_ NB174_204.out _; (with_reducible repeat (first | refine blk_drewN ?_ _ | refine blk_drew ?_ | refine blk_alloc ?_ _)); exact BK174.out⟩, ⟨by (with_reducible repeat (first | refine blk_drewN ?_ _ | refine blk_drew ?_ | refine blk_alloc ?_ _)); refine blk_far ?_ NB175_204.out _; (with_reducible repeat (first | refine blk_drewN ?_ _ | refine blk_drew ?_ | refine blk_alloc ?_ _)); refine blk_far ?_ NB175_204.out _; (with_reducible repeat (first | refine blk_drewN ?_ _ | refine blk_drew ?_ | refine blk_alloc ?_ _)); refine blk_far ?_ NB175_204.out _; (with_reducible repeat (first | refine blk_drewN ?_ _ | refine blk_drew ?_ | refine blk_alloc ?_ _)); refine blk_far ?_ NB175_204.out _; (with_reducible repeat (first | refine blk_drewN ?_ _ | refine blk_drew ?_ | refine blk_alloc ?_ _)); exact BK175.out⟩, ⟨by (with_reducible repeat (first | refine blk_drewN ?_ _ | refine blk_drew ?_ | refine blk_alloc ?_ _)); refine blk_put (cs := #[.int .u64 t223, .int .u64 t224, .int .u64 t225, .int .u64 x205003_1]) ?_ 3 _ rfl; (with_reducible repeat (first | refine blk_drewN ?_ _ | refine blk_drew ?_ | refine blk_alloc ?_ _)); refine blk_put (cs := #[.int .u64 t223, .int .u64 t224, .int .u64 x205002_1, .int .u64 x205003_1]) ?_ 2 _ rfl; (with_reducible repeat (first | refine blk_drewN ?_ _ | refine blk_drew ?_ | refine blk_alloc ?_ _)); refine blk_put (cs := #[.int .u64 t223, .int .u64 x205001_1, .int .u64 x205002_1, .int .u64 x205003_1]) ?_ 1 _ rfl; (with_reducible repeat (first | refine blk_drewN ?_ _ | refine blk_drew ?_ | refine blk_alloc ?_ _)); refine blk_put (cs := #[.int .u64 x205000_1, .int .u64 x205001_1, .int .u64 x205002_1, .int .u64 x205003_1]) ?_ 0 _ rfl; (with_reducible repeat (first | refine blk_drewN ?_ _ | refine blk_drew ?_ | refine blk_alloc ?_ _)); exact BK204.out⟩, ⟨by repeat (first | (with_reducible first | exact HB.out | apply below_alloc | apply pw_below_drewN | apply below_drew1 | refine below_set ?_ GE163.out | refine below_set ?_ GE164.out | refine below_set ?_ GE174.out | refine below_set ?_ GE175.out | refine below_set ?_ GE204.out | refine below_set ?_ GE215.out) | exact HB.out)⟩⟩
          ·rw [if_neg c62] at H
           exact absurd H (by simp)
         ·rw [if_neg c59] at H
          exact absurd H (by simp)
        ·rw [if_neg c58] at H
         have c58b0 : decide (x9_1 < (t205.length : Int)) = false := decide_eq_false c58
         clear c58
         obtain rfl := Option.some.inj H
         obtain ⟨Ao118, co118, eo118⟩ := Kd.R_slice HO_8.out
         subst eo118
         have hnb119 := NB204_163.out
         have hnc119 := NB163_204.out
         have hnb120 := NB204_164.out
         have hnc120 := NB164_204.out
         have hnb121 := NB204_174.out
         have hnc121 := NB174_204.out
         have hnb122 := NB204_175.out
         have hnc122 := NB175_204.out
         have hcz123_0 : wr.cell? ⟨gb204, 0, none⟩ = some (.int .u64 x205000_1) := bc BK204 0 rfl
         have hcz123_1 : wr.cell? ⟨gb204, 1, none⟩ = some (.int .u64 x205001_1) := bc BK204 1 rfl
         have hcz123_2 : wr.cell? ⟨gb204, 2, none⟩ = some (.int .u64 x205002_1) := bc BK204 2 rfl
         have hcz123_3 : wr.cell? ⟨gb204, 3, none⟩ = some (.int .u64 x205003_1) := bc BK204 3 rfl
         have hfz123_0 := blk_frozen BK204.out 0
         have hfz123_1 := blk_frozen BK204.out 1
         have hfz123_2 := blk_frozen BK204.out 2
         have hfz123_3 := blk_frozen BK204.out 3
         have hnb124 := NB163_164.out
         have hnc124 := NB164_163.out
         have hnb125 := NB163_174.out
         have hnc125 := NB174_163.out
         have hnb126 := NB163_175.out
         have hnc126 := NB175_163.out
         have hcz127_0 : wr.cell? ⟨gb163, 0, none⟩ = some (.int .u64 a0_0) := bc BK163 0 rfl
         have hcz127_1 : wr.cell? ⟨gb163, 1, none⟩ = some (.int .u64 a0_1) := bc BK163 1 rfl
         have hcz127_2 : wr.cell? ⟨gb163, 2, none⟩ = some (.int .u64 a0_2) := bc BK163 2 rfl
         have hcz127_3 : wr.cell? ⟨gb163, 3, none⟩ = some (.int .u64 a0_3) := bc BK163 3 rfl
         have hfz127_0 := blk_frozen BK163.out 0
         have hfz127_1 := blk_frozen BK163.out 1
         have hfz127_2 := blk_frozen BK163.out 2
         have hfz127_3 := blk_frozen BK163.out 3
         go_wp2
         go_ret
         exact ⟨by first | rfl | (simp [errW_none, errW_some] <;> rfl) | (simp [*, errW_none, errW_some] <;> rfl), by repeat (first | (with_reducible first | exact HB.out | apply below_alloc | apply pw_below_drewN | apply below_drew1 | refine below_set ?_ GE163.out | refine below_set ?_ GE164.out | refine below_set ?_ GE174.out | refine below_set ?_ GE175.out | refine below_set ?_ GE204.out) | exact HB.out)⟩
  ·rw [if_neg c11] at H
   exact absurd H (by simp)
 ·replace c4 := Bool.eq_false_iff.mpr c4
  subst c4
  have H1 : (none) = some r := by rw [if_neg (show ¬ (false = true) by decide)] at H; exact H
  clear H
  have H := H1
  clear H1
  exact absurd H (by simp)

end Go.Proofs.Ytldoicmbacppeaa.PLR
