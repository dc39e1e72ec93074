-- written by a program of the session's (wip/myprint.py) out of the translation
import Derived.Test.YtdjnpgigdchfkaaPBSx0
namespace Go.Proofs.Ytdjnpgigdchfkaa.PBS
open Go.RowKit Go.Proofs.YtdjnpgigdchfkaaW.PrintWords Go.Proofs.YtdjnpgigdchfkaaW.PrintLast Go.Proofs.YtdjnpgigdchfkaaW.PrintMore
attribute [local go_sem] max2_int min2_int max_two min_two max_three min_three max_four min_four   -- for this text's walks alone
set_option linter.unusedVariables false
set_option linter.unusedSimpArgs false

/-! ### templelaw0_SpoilTexts: function 39 -/
def templelaw0_SpoilTexts.l0 : Nat → List ByteArray → Int → Option (List ByteArray)
 | 0, _, _ => none
 | k + 1, x0, x2 => if x2 < (x0.length : Int) then (if 0 ≤ x2 then (if 1 + (rdOf ByteArray.empty x0 x2).size ≤ 9223372036854775807 then (templelaw0_SpoilTexts.l0 k (x0.set (x2 : Int).toNat ((⟨#[126]⟩ : ByteArray) ++ (rdOf ByteArray.empty x0 x2))) (wrap64 (x2 + 1))) else (none)) else (none)) else (some x0)
def templelaw0_SpoilTexts.f (k : Nat) (l0 : List ByteArray) : Option (List ByteArray) := templelaw0_SpoilTexts.l0 k l0 0
theorem templelaw0_SpoilTexts.mono_l : ∀ k, (∀ y0 y1, LeO (templelaw0_SpoilTexts.l0 k y0 y1) (templelaw0_SpoilTexts.l0 (k + 1) y0 y1))
 | 0 => fun _ _ r h => by simp [templelaw0_SpoilTexts.l0] at h
 | k + 1 => by
  have ih0 := templelaw0_SpoilTexts.mono_l k
  ·intro y0 y1
   unfold templelaw0_SpoilTexts.l0
   repeat' first
   | (with_reducible exact ih0 _ _)
   | (with_reducible exact LeO.refl _)
   | (with_reducible exact LeO.none _)
   | (with_reducible refine LeO.ite ?_ ?_)
   | (with_reducible refine LeO.bind ?_ (fun _ => ?_))
   | exact ih0 _ _
   | exact LeO.none _
   | refine LeO.ite ?_ ?_
   | refine LeO.bind ?_ (fun _ => ?_)
theorem templelaw0_SpoilTexts.mono : ∀ a0 k, LeO (templelaw0_SpoilTexts.f k a0) (templelaw0_SpoilTexts.f (k + 1) a0) := by
 intro a0 k
 have ih0 := templelaw0_SpoilTexts.mono_l k
 unfold templelaw0_SpoilTexts.f
 repeat' first
   | (with_reducible exact ih0 _ _)
   | (with_reducible exact LeO.refl _)
   | (with_reducible exact LeO.none _)
   | (with_reducible refine LeO.ite ?_ ?_)
   | (with_reducible refine LeO.bind ?_ (fun _ => ?_))
   | exact ih0 _ _
   | exact LeO.none _
   | refine LeO.ite ?_ ?_
   | refine LeO.bind ?_ (fun _ => ?_)
set_option maxHeartbeats 8000000 in
set_option maxRecDepth 100000 in
theorem templelaw0_SpoilTexts.calls (k : Nat) (P0_ : Nat → Prop) (u9000_ : Value) (l0 : List ByteArray) (r : List ByteArray) (w0 w : World) (hB : Below w0.heap.size w0 w) (ho0 : Kd.R Kd.string 9 w w0.heap.size P0_ u9000_ l0) (h : templelaw0_SpoilTexts.f k l0 = some r) :
  Calls Try.prog 39 #[u9000_] w fun e w' => e = .returned (.tuple #[]) ∧ Kd.R Kd.string 9 w' w0.heap.size (fun k_ => (P0_ k_ ∨ w.heap.size ≤ k_)) u9000_ r ∧ Below w0.heap.size w0 w' ∧ Kept w w' (fun k_ => P0_ k_) := by
 have HO0 := Aside0.mk (show Kd.R Kd.string 9 w w0.heap.size (fun k_ => (P0_ k_ ∨ w.heap.size ≤ k_)) u9000_ l0 from Kd.R_mono ho0 (fun k_ hk => (.inl hk)))
 have HK := Aside0.mk (Kept.refl w (fun k_ => P0_ k_))
 have HW0 := Aside0.mk hB.size
 have HB := Aside0.mk hB; clear hB
 have H : (templelaw0_SpoilTexts.l0 k l0 0) = some r := h
 clear h; have H' := Aside0.mk H; clear H
 go_enter Try.func39, Try.ntmps39
 go_wp2
 go_loopg [2] k (fun kq v2 w' => ∃ (x0_1 : List ByteArray) (x2_1 : Int), v2 = .int .i64 x2_1 ∧ Aside0 (templelaw0_SpoilTexts.l0 kq x0_1 x2_1 = some r) ∧ Aside0 (kq ≤ k) ∧ Aside0 (Kd.R Kd.string 9 w' w0.heap.size (fun k_ => (P0_ k_ ∨ w.heap.size ≤ k_)) u9000_ x0_1) ∧ Aside0 (Kept w w' (fun k_ => P0_ k_)) ∧ Aside0 (Below w0.heap.size w0 w'))
 case atStart => exact ⟨(l0), (0), zz0, H', ⟨Nat.le_refl _⟩, ⟨zzr HO0.out⟩, ⟨by repeat (first | (with_reducible first | exact HK.out | apply Kept.alloc | apply Kept.drewN | apply Kept.drew) | exact HK.out)⟩, ⟨zzq⟩⟩
 case round =>
  clear H'; obtain ⟨x0_1, x2_1, rfl, HA, HK1, HO_0, HK, HB⟩ := hrel
  cases gk with
  | zero => exact absurd HA.out (by simp [templelaw0_SpoilTexts.l0])
  | succ k1 =>
   have H := HA.out; clear HA
   simp only [templelaw0_SpoilTexts.l0] at H
   by_cases c2 : x2_1 < (x0_1.length : Int)
   ·rw [if_pos c2] at H; have c2b0 : decide (x2_1 < (x0_1.length : Int)) = true := decide_eq_true c2; clear c2
    by_cases c3 : 0 ≤ x2_1
    ·rw [if_pos c3] at H; have c3b0 : decide (0 ≤ x2_1) = true := decide_eq_true c3; clear c3
     by_cases c4 : 1 + (rdOf ByteArray.empty x0_1 x2_1).size ≤ 9223372036854775807
     ·rw [if_pos c4] at H
      have c4b0 := eq_true c4
      have c4b1 : decide (1 + (rdOf ByteArray.empty x0_1 x2_1).size ≤ 9223372036854775807) = true := decide_eq_true c4
      try have c4b2 : (9223372036854775807 < 1 + (rdOf ByteArray.empty x0_1 x2_1).size) = False := eq_false (Nat.not_lt.2 c4)
      obtain ⟨y314, hy314⟩ : ∃ y_ : List ByteArray, y_ = (x0_1.set (x2_1 : Int).toNat ((⟨#[126]⟩ : ByteArray) ++ (rdOf ByteArray.empty x0_1 x2_1))) := ⟨_, rfl⟩
      replace H : (templelaw0_SpoilTexts.l0 k1 y314 (wrap64 (x2_1 + 1))) = some r := by first | (rw [hy314]; with_reducible exact H) | (have H2_ := (Option.bind_some _ _).symm.trans H; rw [hy314]; with_reducible exact H2_) | (have H2_ := (Option.bind_some _ _).symm.trans H; with_reducible exact H2_) | with_reducible exact H | (rw [hy314]; exact H) | exact H
      have Ny314 := Aside0.mk hy314; clear hy314; have H' := Aside0.mk H; clear H; obtain ⟨Ao6, co6, eo6⟩ := Kd.R_slice HO_0.out; subst eo6
      have p313 : 0 ≤ (x2_1 : Int) := of_decide_eq_true zz1
      have q313 : x2_1 < (x0_1.length : Int) := of_decide_eq_true zz1
      obtain ⟨ad313, e313, hx313_0⟩ := Kd.at_string (Kd.R_reads' HO_0.out).2.2 x2_1 p313 q313; cases e313; replace p313 := eq_true p313; replace q313 := eq_true q313
      have p5 : 0 ≤ (x2_1 : Int) := of_decide_eq_true zz1
      have q5 : (x2_1 : Int) < ((x0_1.length : Int) : Int) := of_decide_eq_true zz1
      obtain ⟨go5, co5, eo5, gb5, gl5, cl5, HG5⟩ := Kd.R_form HO_0.out (by omega)
      (first | cases eo5 | (injection eo5 with ea_ en_ ec_; (first | subst ea_ | (injection ea_ with ea_; subst ea_)); subst ec_; clear en_))
      have GB5 := Aside0.mk gb5; have GG5 := Aside0.mk HG5; clear gb5 gl5 HG5
      have HMgo5 := Aside0.mk (show (P0_ go5 ∨ w.heap.size ≤ go5) from (HO_0.out.1 _ rfl))
      (first | simp only [add_plain] at hx313_0 | skip)
      obtain ⟨hx5_0, hf5_0⟩ := Kd.R_celln (⟨#[]⟩ : ByteArray) HO_0.out (x2_1 : Int) p5 q5; replace p5 := eq_true p5; replace q5 := eq_true q5
      have HP7 := Kd.R_putg HO_0.out (x2_1 : Int) ((⟨#[126]⟩ : ByteArray) ++ (rdOf ByteArray.empty x0_1 x2_1))
      go_wp2_with (first | ((with_reducible refine gate_store (t := 9) (p := 16) rfl ?_); refine store_event (t := 9) (p := 16) (v := ?vo_w8) (w1 := (wr.setCell ⟨go5, (x2_1 : Int).toNat, none⟩ (.string ((⟨#[126]⟩ : ByteArray) ++ (rdOf ByteArray.empty x0_1 x2_1))))) ?hg ?ho ?hn ?hr ?_; (case ho => rfl); (case hg => rfl); (case hn => rfl); (case hr => first | (go_simp; done) | (go_simp; rfl)); intro w8 hw; have hg : wr.grownBy w8 (some go5) := (by rw [hw]; exact HP7.2); have hp_ : Kd.R Kd.string 9 w8 w0.heap.size (fun k_ => (P0_ k_ ∨ w.heap.size ≤ k_)) (.slice (some ⟨go5, 0, none⟩) x0_1.length co6) y314 := (by rw [hw, Ny314.out]; exact HP7.1); clear HP7; have n0_ := Aside0.mk (hp_); have n1_ := Aside0.mk ((by rw [hw]; exact below_set (HB.out) GB5.out : Below w0.heap.size w0 w8)); have n2_ := Aside0.mk (Kept.of_grown (S := (fun k_ => P0_ k_)) hg (by repeat (first | (with_reducible first | exact HK.out | apply Kept.alloc | apply Kept.drewN | apply Kept.drew) | exact HK.out)) (fun k_ e_ => (HO_0.out.1 k_ e_))); clear HO_0; clear HB; clear HK; have HO_0 := n0_; have HB := n1_; have HK := n2_; clear n0_ n1_ n2_; clear hg hw hp_))
      go_roundg k1
      case measure => have := HK1.out; omega
      case rel => exact ⟨(y314), (wrap64 (x2_1 + 1)), zz0, H', ⟨by have := HK1.out; omega⟩, ⟨zzr HO_0.out⟩, ⟨by repeat (first | (with_reducible first | exact HK.out | apply Kept.alloc | apply Kept.drewN | apply Kept.drew) | exact HK.out)⟩, ⟨zzq⟩⟩
     ·rw [if_neg c4] at H
      exact absurd H (by simp)
    ·rw [if_neg c3] at H
     exact absurd H (by simp)
   ·rw [if_neg c2] at H; have c2b0 : decide (x2_1 < (x0_1.length : Int)) = false := decide_eq_false c2; clear c2; obtain rfl := Option.some.inj H; obtain ⟨Ao9, co9, eo9⟩ := Kd.R_slice HO_0.out; subst eo9; go_wp2
    first | go_end0 | ((try simp only [Exit.inBlock, Exit.then]); refine bodyPost_ret (results_none rfl _ _ _) rfl ?_)
    exact ⟨by first | rfl | (simp [errW_none, errW_some] <;> rfl) | (simp [*, errW_none, errW_some] <;> rfl), zzr HO_0.out, zzq, by repeat (first | (with_reducible first | exact HK.out | apply Kept.alloc | apply Kept.drewN | apply Kept.drew) | exact HK.out)⟩

/-! ### templelaw0_SpoilSymbols: function 40 -/
def templelaw0_SpoilSymbols.l0 : Nat → List (S56) → Int → Option ((List (S56)))
 | 0, _, _ => none
 | k + 1, x0, x2 => if x2 < (x0.length : Int) then (if 0 ≤ x2 then (templelaw0_SpoilSymbols.l0 k (x0.set (x2 : Int).toNat (⟨Go.bits .xor .i64 ((rd_T56 x0 x2).f0) 90, (rd_T56 x0 x2).f1, (rd_T56 x0 x2).f2⟩ : S56)) (wrap64 (x2 + 1))) else (none)) else (some x0)
def templelaw0_SpoilSymbols.f (k : Nat) (l0 : List (S56)) : Option ((List (S56))) := templelaw0_SpoilSymbols.l0 k l0 0
theorem templelaw0_SpoilSymbols.mono_l : ∀ k, (∀ y0 y1, LeO (templelaw0_SpoilSymbols.l0 k y0 y1) (templelaw0_SpoilSymbols.l0 (k + 1) y0 y1))
 | 0 => fun _ _ r h => by simp [templelaw0_SpoilSymbols.l0] at h
 | k + 1 => by
  have ih0 := templelaw0_SpoilSymbols.mono_l k
  ·intro y0 y1
   unfold templelaw0_SpoilSymbols.l0
   repeat' first
   | (with_reducible exact ih0 _ _)
   | (with_reducible exact LeO.refl _)
   | (with_reducible exact LeO.none _)
   | (with_reducible refine LeO.ite ?_ ?_)
   | (with_reducible refine LeO.bind ?_ (fun _ => ?_))
   | exact ih0 _ _
   | exact LeO.none _
   | refine LeO.ite ?_ ?_
   | refine LeO.bind ?_ (fun _ => ?_)
theorem templelaw0_SpoilSymbols.mono : ∀ a0 k, LeO (templelaw0_SpoilSymbols.f k a0) (templelaw0_SpoilSymbols.f (k + 1) a0) := by
 intro a0 k
 have ih0 := templelaw0_SpoilSymbols.mono_l k
 unfold templelaw0_SpoilSymbols.f
 repeat' first
   | (with_reducible exact ih0 _ _)
   | (with_reducible exact LeO.refl _)
   | (with_reducible exact LeO.none _)
   | (with_reducible refine LeO.ite ?_ ?_)
   | (with_reducible refine LeO.bind ?_ (fun _ => ?_))
   | exact ih0 _ _
   | exact LeO.none _
   | refine LeO.ite ?_ ?_
   | refine LeO.bind ?_ (fun _ => ?_)
set_option maxHeartbeats 8000000 in
set_option maxRecDepth 100000 in
theorem templelaw0_SpoilSymbols.calls (k : Nat) (P0_ : Nat → Prop) (u9000_ : Value) (l0 : List (S56)) (r : List (S56)) (w0 w : World) (hB : Below w0.heap.size w0 w) (ho0 : Kd.R k56 56 w w0.heap.size P0_ u9000_ l0) (h : templelaw0_SpoilSymbols.f k l0 = some r) :
  Calls Try.prog 40 #[u9000_] w fun e w' => e = .returned (.tuple #[]) ∧ Kd.R k56 56 w' w0.heap.size (fun k_ => (P0_ k_ ∨ w.heap.size ≤ k_)) u9000_ r ∧ Below w0.heap.size w0 w' ∧ Kept w w' (fun k_ => P0_ k_) := by
 have HO0 := Aside0.mk (show Kd.R k56 56 w w0.heap.size (fun k_ => (P0_ k_ ∨ w.heap.size ≤ k_)) u9000_ l0 from Kd.R_mono ho0 (fun k_ hk => (.inl hk)))
 have HK := Aside0.mk (Kept.refl w (fun k_ => P0_ k_))
 have HW0 := Aside0.mk hB.size
 have HB := Aside0.mk hB; clear hB
 have H : (templelaw0_SpoilSymbols.l0 k l0 0) = some r := h
 clear h; have H' := Aside0.mk H; clear H
 go_enter Try.func40, Try.ntmps40
 go_wp2
 go_loopg [2] k (fun kq v2 w' => ∃ (x0_1 : List (S56)) (x2_1 : Int), v2 = .int .i64 x2_1 ∧ Aside0 (templelaw0_SpoilSymbols.l0 kq x0_1 x2_1 = some r) ∧ Aside0 (kq ≤ k) ∧ Aside0 (Kd.R k56 56 w' w0.heap.size (fun k_ => (P0_ k_ ∨ w.heap.size ≤ k_)) u9000_ x0_1) ∧ Aside0 (Kept w w' (fun k_ => P0_ k_)) ∧ Aside0 (Below w0.heap.size w0 w'))
 case atStart => exact ⟨(l0), (0), zz0, H', ⟨Nat.le_refl _⟩, ⟨zzr HO0.out⟩, ⟨by repeat (first | (with_reducible first | exact HK.out | apply Kept.alloc | apply Kept.drewN | apply Kept.drew) | exact HK.out)⟩, ⟨zzq⟩⟩
 case round =>
  clear H'; obtain ⟨x0_1, x2_1, rfl, HA, HK1, HO_0, HK, HB⟩ := hrel
  cases gk with
  | zero => exact absurd HA.out (by simp [templelaw0_SpoilSymbols.l0])
  | succ k1 =>
   have H := HA.out; clear HA
   simp only [templelaw0_SpoilSymbols.l0] at H
   by_cases c2 : x2_1 < (x0_1.length : Int)
   ·rw [if_pos c2] at H; have c2b0 : decide (x2_1 < (x0_1.length : Int)) = true := decide_eq_true c2; clear c2
    by_cases c3 : 0 ≤ x2_1
    ·rw [if_pos c3] at H; have c3b0 : decide (0 ≤ x2_1) = true := decide_eq_true c3; clear c3; obtain ⟨y316, hy316⟩ : ∃ y_ : List (S56), y_ = (x0_1.set (x2_1 : Int).toNat (⟨Go.bits .xor .i64 ((rd_T56 x0_1 x2_1).f0) 90, (rd_T56 x0_1 x2_1).f1, (rd_T56 x0_1 x2_1).f2⟩ : S56)) := ⟨_, rfl⟩
     replace H : (templelaw0_SpoilSymbols.l0 k1 y316 (wrap64 (x2_1 + 1))) = some r := by first | (rw [hy316]; with_reducible exact H) | (have H2_ := (Option.bind_some _ _).symm.trans H; rw [hy316]; with_reducible exact H2_) | (have H2_ := (Option.bind_some _ _).symm.trans H; with_reducible exact H2_) | with_reducible exact H | (rw [hy316]; exact H) | exact H
     have Ny316 := Aside0.mk hy316; clear hy316; have H' := Aside0.mk H; clear H; obtain ⟨Ao5, co5, eo5⟩ := Kd.R_slice HO_0.out; subst eo5
     have p315 : 0 ≤ (x2_1 : Int) := of_decide_eq_true zz1
     have q315 : x2_1 < (x0_1.length : Int) := of_decide_eq_true zz1
     obtain ⟨ad315, e315, hx315_0, hx315_1, hx315_2⟩ := at_T56 (Kd.R_reads' HO_0.out).2.2 x2_1 p315 q315; cases e315; replace p315 := eq_true p315; replace q315 := eq_true q315
     have p4 : 0 ≤ (x2_1 : Int) := of_decide_eq_true zz1
     have q4 : (x2_1 : Int) < ((x0_1.length : Int) : Int) := of_decide_eq_true zz1
     obtain ⟨go4, co4, eo4, gb4, gl4, cl4, HG4⟩ := Kd.R_form HO_0.out (by omega)
     (first | cases eo4 | (injection eo4 with ea_ en_ ec_; (first | subst ea_ | (injection ea_ with ea_; subst ea_)); subst ec_; clear en_))
     have GB4 := Aside0.mk gb4; have GG4 := Aside0.mk HG4; clear gb4 gl4 HG4
     have HMgo4 := Aside0.mk (show (P0_ go4 ∨ w.heap.size ≤ go4) from (HO_0.out.1 _ rfl))
     (first | simp only [add_plain] at hx315_0 | skip)
     (first | simp only [add_plain] at hx315_1 | skip)
     (first | simp only [add_plain] at hx315_2 | skip)
     obtain ⟨ce4, hcl4, hM4, hcc4, hfr4⟩ := Kd.R_elem HO_0.out z56 (x2_1 : Int) p4 q4; obtain rfl := k56_openM hM4
     have hx4_0 : wr.cell? ⟨go4, (x2_1 : Int).toNat * 3, none⟩ = some (.int .i64 ((rd_T56 x0_1 x2_1).f0)) := hcc4 0 _ rfl
     have hx4_1 : wr.cell? ⟨go4, (x2_1 : Int).toNat * 3 + 1, none⟩ = some (.int .i64 ((rd_T56 x0_1 x2_1).f1)) := hcc4 1 _ rfl
     have hx4_2 : wr.cell? ⟨go4, (x2_1 : Int).toNat * 3 + 2, none⟩ = some (.int .i64 ((rd_T56 x0_1 x2_1).f2)) := hcc4 2 _ rfl
     have hf4_0 : wr.frozen? ⟨go4, (x2_1 : Int).toNat * 3, none⟩ = false := hfr4 0
     have hf4_1 : wr.frozen? ⟨go4, (x2_1 : Int).toNat * 3 + 1, none⟩ = false := hfr4 1
     have hf4_2 : wr.frozen? ⟨go4, (x2_1 : Int).toNat * 3 + 2, none⟩ = false := hfr4 2
     clear hcl4 hcc4 hfr4 hM4; replace p4 := eq_true p4; replace q4 := eq_true q4
     have HX6 := Aside0.mk (show Kd.R k56 56 wr w0.heap.size (fun k_ => (P0_ k_ ∨ w.heap.size ≤ k_)) (.slice (some ⟨go4, 0, none⟩) x0_1.length co5) x0_1 from (zzr HO_0.out))
     obtain ⟨ce6, hcl6, hM6, hcc6, hfr6⟩ := Kd.R_elem HX6.out z56 (x2_1 : Int) (of_decide_eq_true zz1) (by have h_ : (x2_1 : Int) < ((x0_1.length : Int) : Int) := of_decide_eq_true zz1; first | exact h_ | (have e_ := (Kd.R_reads' HO_0.out).1; omega) | simpa using h_); obtain rfl := k56_openM hM6
     have HP6 := Kd.R_seg HX6.out (x2_1 : Int) (of_decide_eq_true zz1) (by have h_ : (x2_1 : Int) < ((x0_1.length : Int) : Int) := of_decide_eq_true zz1; first | exact h_ | (have e_ := (Kd.R_reads' HO_0.out).1; omega) | simpa using h_) (seg := [.int .i64 (Go.bits .xor .i64 ((rd_T56 x0_1 x2_1).f0) 90)]) (j := 0) hcl6 hcc6 (show 1 ≤ 3 from by decide) (x' := (⟨Go.bits .xor .i64 ((rd_T56 x0_1 x2_1).f0) 90, (rd_T56 x0_1 x2_1).f1, (rd_T56 x0_1 x2_1).f2⟩ : S56)) (k56_mkM _ _ _ (⟨Go.bits .xor .i64 ((rd_T56 x0_1 x2_1).f0) 90, (rd_T56 x0_1 x2_1).f1, (rd_T56 x0_1 x2_1).f2⟩ : S56) ) (fun _ hk => hk)
     have hx6_0 := hcc6 0 _ rfl
     (try simp only [show (k56).sz = 3 from rfl, Nat.mul_one, Nat.add_zero] at hx6_0)
     have hf6_0 := hfr6 0
     (try simp only [show (k56).sz = 3 from rfl, Nat.mul_one, Nat.add_zero] at hf6_0)
     clear hcl6 hcc6 hfr6 hM6
     go_wp2_with (first | ((with_reducible refine gate_store (t := 3) (p := 18) rfl ?_); refine store_event (t := 3) (p := 18) (v := ?vo_w7) (w1 := (wr.setCell ⟨go4, (x2_1 : Int).toNat * 3, none⟩ (.int .i64 (Go.bits .xor .i64 ((rd_T56 x0_1 x2_1).f0) 90)))) ?hg ?ho ?hn ?hr ?_; (case ho => rfl); (case hg => rfl); (case hn => rfl); (case hr => first | (go_simp; done) | (go_simp; rfl)); intro w7 hw; have hg : wr.grownBy w7 (some go4) := (by rw [hw]; exact HP6.2); have hp_ : Kd.R k56 56 w7 w0.heap.size (fun k_ => (P0_ k_ ∨ w.heap.size ≤ k_)) (.slice (some ⟨go4, 0, none⟩) x0_1.length co5) y316 := (by rw [hw, Ny316.out]; exact HP6.1); clear HP6; have n0_ := Aside0.mk (hp_); have n1_ := Aside0.mk ((by rw [hw]; exact below_set (HB.out) GB4.out : Below w0.heap.size w0 w7)); have n2_ := Aside0.mk (Kept.of_grown (S := (fun k_ => P0_ k_)) hg (by repeat (first | (with_reducible first | exact HK.out | apply Kept.alloc | apply Kept.drewN | apply Kept.drew) | exact HK.out)) (fun k_ e_ => (HO_0.out.1 k_ e_))); clear HO_0; clear HB; clear HK; have HO_0 := n0_; have HB := n1_; have HK := n2_; clear n0_ n1_ n2_; clear hg hw hp_))
     go_roundg k1
     case measure => have := HK1.out; omega
     case rel => exact ⟨(y316), (wrap64 (x2_1 + 1)), zz0, H', ⟨by have := HK1.out; omega⟩, ⟨zzr HO_0.out⟩, ⟨by repeat (first | (with_reducible first | exact HK.out | apply Kept.alloc | apply Kept.drewN | apply Kept.drew) | exact HK.out)⟩, ⟨zzq⟩⟩
    ·rw [if_neg c3] at H
     exact absurd H (by simp)
   ·rw [if_neg c2] at H; have c2b0 : decide (x2_1 < (x0_1.length : Int)) = false := decide_eq_false c2; clear c2; obtain rfl := Option.some.inj H; obtain ⟨Ao8, co8, eo8⟩ := Kd.R_slice HO_0.out; subst eo8; go_wp2
    first | go_end0 | ((try simp only [Exit.inBlock, Exit.then]); refine bodyPost_ret (results_none rfl _ _ _) rfl ?_)
    exact ⟨by first | rfl | (simp [errW_none, errW_some] <;> rfl) | (simp [*, errW_none, errW_some] <;> rfl), zzr HO_0.out, zzq, by repeat (first | (with_reducible first | exact HK.out | apply Kept.alloc | apply Kept.drewN | apply Kept.drew) | exact HK.out)⟩

/-! ### templelaw0_SpoilGrammar: function 19 -/
def spg9.T9 : Bool × List (List Nat × List Nat) := (true, [([], []), ([0], [0]), ([], []), ([1, 2], [1, 2]), ([3], [3]), ([4], [4]), ([], []), ([], []), ([7], [7]), ([], []), ([8, 9], [8, 9]), ([10], [10]), ([11], [11]), ([], []), ([12, 13], [12, 13]), ([14], [14]), ([15], [15]), ([16], [16]), ([5, 6, 0, 1, 2, 3, 4, 5, 6, 7, 8, 9, 10, 11, 12, 13, 14, 15, 16, 17], [5, 6]), ([18, 0, 1, 2, 3, 4, 5, 6, 7, 8, 9, 10, 11, 12, 13, 14, 15, 16, 17], [18]), ([19, 17, 0, 1, 2, 3, 4, 5, 6, 7, 8, 9, 10, 11, 12, 13, 14, 15, 16, 17], [17, 19])])
def spg9.B9 : List Nat := [0, 1, 0, 7, 15, 31, 0, 0, 128, 0, 896, 1920, 3968, 0, 16256, 32640, 65408, 130944, 262143, 524287, 1048575]
theorem spg9.tab9 : rtab .any (opsOf Try.f19 9) = spg9.T9 := by kernel_rfl
theorem spg9.bits9 : waitsOk spg9.T9.2 spg9.B9 = true := by kernel_rfl
def spg10.T10 : Bool × List (List Nat × List Nat) := (true, [([], []), ([0], [0]), ([], []), ([], []), ([3], [3]), ([], []), ([4, 5], [4, 5]), ([6], [6]), ([7], [7]), ([8], [8]), ([1, 2, 0, 1, 2, 3, 4, 5, 6, 7, 8, 9], [1, 2]), ([10, 0, 1, 2, 3, 4, 5, 6, 7, 8, 9], [10]), ([11, 9, 0, 1, 2, 3, 4, 5, 6, 7, 8, 9], [9, 11])])
def spg10.B10 : List Nat := [0, 1, 0, 0, 8, 0, 56, 120, 248, 504, 1023, 2047, 4095]
theorem spg10.tab10 : rtab .any (opsOf Try.f19 10) = spg10.T10 := by kernel_rfl
theorem spg10.bits10 : waitsOk spg10.T10.2 spg10.B10 = true := by kernel_rfl
theorem spoil_texts {lo hi : Nat} (w : World) (v : Value) (xs : List ByteArray) (h : Kd.R Kd.string 9 w lo (fun k => k < hi) v xs) (hz : ∀ x ∈ xs, x.size ≤ 1000000) :
  Calls Try.prog 39 #[v] w fun e w' => e = .returned (.tuple #[]) ∧ Sim lo hi w w' := by
 obtain ⟨A, c, rfl⟩ := Kd.R_slice h
 have H := Aside0.mk h
 have hmax := (Kd.R_reads' h).2.2.2.1
 have HZ := Aside0.mk hz
 clear h hz
 go_enter Try.func39, Try.ntmps39
 go_wp2
 go_loopw [2] (fun v wr => ∃ i : Nat, i ≤ xs.length ∧ v = .int .i64 i ∧ Aside0 (Sim lo hi w wr) ∧ Aside0 (∀ (g j : Nat) (hj : j < xs.length), A = some ⟨g, 0, none⟩ → i ≤ j → wr.cell? ⟨g, j, none⟩ = some (.string xs[j]))) (fun v _ => xs.length - (intOf v).toNat)
 case atStart =>
  refine ⟨0, by omega, rfl, ⟨Sim.refl _ _ _⟩, ⟨fun g j hj hA _ => ?_⟩⟩
  obtain ⟨g', cap, cells, cs, he, _, _, hg, hl, hm, _, hc⟩ := R_at H.out j hj
  injection he with he
  rw [hA] at he
  injection he with he
  injection he with he
  subst he
  have hm : cs = [.string xs[j]] := hm
  have := hc 0 (.string xs[j]) (by rw [hm]; rfl)
  rw [show Kd.string.sz = 1 from rfl, Nat.mul_one, Nat.add_zero] at this
  rw [blk_cell hg]
  exact this
 case round =>
  obtain ⟨i, hi', rfl, hS, hX⟩ := hrel
  by_cases hlt : i < xs.length
  ·obtain ⟨g, cap, cells, cs, he, hlo, hgl, hg, hl, hm, _, hc⟩ := R_at H.out i hlt
   injection he with he _ he2
   subst he he2
   have hhi : g < hi := H.out.1 g rfl
   have hm : cs = [.string xs[i]] := hm
   have hu := hc 0 (.string xs[i]) (by rw [hm]; rfl)
   rw [show Kd.string.sz = 1 from rfl, Nat.mul_one, Nat.add_zero] at hu
   have kx := hX.out g i hlt rfl (Nat.le_refl _)
   have kf := hS.out.frozen hg i
   have hsz := HZ.out xs[i] (List.getElem_mem hlt)
   have b1 : (9223372036854775807 < 1 + xs[i].size) = False := eq_false (by omega)
   have b2 : 1 + xs[i].size ≤ 9223372036854775807 := by omega
   have b3 : ((⟨#[126]⟩ : ByteArray).size + xs[i].size) ≤ 9223372036854775807 := by show 1 + xs[i].size ≤ _; omega
   have HS2 := Aside0.mk (hS.out.store (v := .string (⟨#[126]⟩ ++ xs[i])) hg hlo hhi hu kx (.inr (.inr (.inr ⟨_, _, rfl, rfl⟩))))
   have HX2 : Aside0 (∀ (g' j : Nat) (hj : j < xs.length), some (⟨g, 0, none⟩ : Addr) = some ⟨g', 0, none⟩ → i + 1 ≤ j → (wr.setCell ⟨g, i, none⟩ (.string (⟨#[126]⟩ ++ xs[i]))).cell? ⟨g', j, none⟩ = some (.string xs[j])) := ⟨fun g' j hj hA hij => by
    refine (World.cell?_setCell_other wr ⟨g, i, none⟩ ⟨g', j, none⟩ _ ?_).trans (hX.out g' j hj hA (by omega))
    intro he
    injection he with _ he
    omega⟩
   clear hm hc hu hl hg hlo hhi hgl hsz hX hS
   go_wp2
   go_roundw
   case rel => exact ⟨i + 1, by omega, by go_num, HS2, HX2⟩
   case measure => simp [intOf]; omega
  ·obtain rfl : i = xs.length := by omega
   go_wp2
   go_end0
   exact ⟨rfl, hS.out⟩
theorem spoil_symbols {lo hi : Nat} (w wr0 : World) (v : Value) (xs : List S56) (h : Kd.R k56 56 w lo (fun k => k < hi) v xs) (hs : Sim lo hi w wr0) :
  Calls Try.prog 40 #[v] wr0 fun e w' => e = .returned (.tuple #[]) ∧ Sim lo hi w w' := by
 obtain ⟨A, c, rfl⟩ := Kd.R_slice h
 have H := Aside0.mk h
 have hmax := (Kd.R_reads' h).2.2.2.1
 have HS := Aside0.mk hs
 clear h hs
 go_enter Try.func40, Try.ntmps40
 go_wp2
 go_loopw [2] (fun v wr => ∃ i : Nat, i ≤ xs.length ∧ v = .int .i64 i ∧ Aside0 (Sim lo hi w wr)) (fun v _ => xs.length - (intOf v).toNat)
 case atStart => exact ⟨0, by omega, rfl, HS⟩
 case round =>
  obtain ⟨i, hi', rfl, hS⟩ := hrel
  clear HS
  by_cases hlt : i < xs.length
  ·obtain ⟨g, cap, cells, cs, he, hlo, hgl, hg, hl, hm, _, hc⟩ := R_at H.out i hlt
   injection he with he _ he2
   subst he he2
   have hhi : g < hi := H.out.1 g rfl
   have hm := k56_open (k56.K_of_M hm)
   have hu := hc 0 (.int .i64 xs[i].f0) (by rw [hm]; rfl)
   rw [show k56.sz = 3 from rfl, Nat.add_zero] at hu
   obtain ⟨u, ku, su⟩ := hS.out.cell hg hu
   obtain ⟨n9, rfl⟩ := su.int
   have kf := hS.out.frozen hg (i * 3)
   have HS2 := fun m => Aside0.mk (hS.out.store (v := .int .i64 m) hg hlo hhi hu ku (.inr (.inl ⟨_, _, _, rfl, rfl⟩)))
   clear hm hc hu hl hg hlo hhi hgl hS su
   go_wp2
   go_roundw
   case rel => exact ⟨i + 1, by omega, by go_num, HS2 _⟩
   case measure => simp [intOf]; omega
  ·obtain rfl : i = xs.length := by omega
   go_wp2
   go_end0
   exact ⟨rfl, hS.out⟩
set_option maxHeartbeats 8000000 in
set_option maxRecDepth 100000 in
theorem templelaw0_SpoilGrammar.spoils {lo hi : Nat} (w : World) (a : Int) (A1 : Option Addr) (c1 : Nat) (l1 : List ByteArray) (A2 : Option Addr) (c2 : Nat) (l2 : List S51) (h1 : Kd.R Kd.string 9 w lo (fun k => k < hi) (.slice A1 l1.length c1) l1) (h2 : Kd.R k51 51 w lo (fun k => k < hi) (.slice A2 l2.length c2) l2) (hhi : hi ≤ w.heap.size) (hlo : lo ≤ w.heap.size) (hz : ∀ x ∈ l1, x.size ≤ 1000000) :
  Calls Try.prog 19 #[.agg #[.int .i64 a, .slice A1 l1.length c1, .slice A2 l2.length c2]] w fun e w' => e = .returned (.tuple #[]) ∧ Sim lo hi w w' := by
 have H1 := Aside0.mk (Kd.R_alloc h1 (.cells #[.int .i64 a, .slice A1 l1.length c1, .slice A2 l2.length c2] 28))
 have H2 := Aside0.mk (Kd.R_alloc h2 (.cells #[.int .i64 a, .slice A1 l1.length c1, .slice A2 l2.length c2] 28))
 have hmax := (Kd.R_reads' h2).2.2.2.1
 have HB := blk_new w (.cells #[.int .i64 a, .slice A1 l1.length c1, .slice A2 l2.length c2] 28)
 have HS := Aside0.mk (Sim.of_below (lo := lo) (hi := hi) (below_alloc (Below.refl w.heap.size w) (.cells #[.int .i64 a, .slice A1 l1.length c1, .slice A2 l2.length c2] 28)) hlo)
 have hgb : hi ≤ w.heap.size ∧ w.heap.size < (w.alloc (.cells #[.int .i64 a, .slice A1 l1.length c1, .slice A2 l2.length c2] 28)).heap.size := ⟨hhi, by simp⟩
 have HBB := Aside0.mk (And.intro hgb HB)
 have HZ := Aside0.mk hz
 clear h1 h2 hz HB hgb
 go_enter Try.func19, Try.ntmps19
 go_wp2_with (first | (go_at_call 39; (with_reducible refine (spoil_texts _ _ l1 H1.out HZ.out).mono ?_); rintro e w1 ⟨rfl, hs1⟩; have HS1 := Aside0.mk hs1; clear hs1))
 clear H1 HZ hhi hlo
 generalize w.alloc (.cells #[.int .i64 a, .slice A1 l1.length c1, .slice A2 l2.length c2] 28) = wb at *
 generalize w.heap.size = gb at *
 have past : ∀ w', Sim lo hi wb w' → w'.cell? ⟨gb, 2, none⟩ = some (.slice A2 l2.length c2) := fun w' h => (blk_cell ((h.past gb HBB.out.1.1 HBB.out.1.2).trans HBB.out.2) 2).trans rfl
 go_loopw [2] (fun v wr => ∃ i : Nat, i ≤ l2.length ∧ v = .int .i64 i ∧ Aside0 (Sim lo hi wb wr)) (fun v _ => l2.length - (intOf v).toNat)
 case atStart => exact ⟨0, by omega, rfl, HS1⟩
 case round =>
  obtain ⟨i, hi', rfl, hS⟩ := hrel
  clear HS1
  have kb := past _ hS.out
  by_cases hlt : i < l2.length
  case neg =>
   obtain rfl : i = l2.length := by omega
   go_wp2
   go_end0
   exact ⟨rfl, HS.out.trans hS.out⟩
  obtain ⟨gR, cap, cells, cs, he, hlo1, hgl, hg, hl, hm, _, hc⟩ := R_at H2.out i hlt
  injection he with he _ he2
  subst he he2
  have hhi1 : gR < hi := H2.out.1 gR rfl
  obtain ⟨v1, e1, r1⟩ := k51_openM hm
  obtain ⟨A3, c3, rfl⟩ := Kd.R_slice r1
  rw [show k51.sz = 2 from rfl] at hc
  have hu0 := hc 0 (.int .i64 l2[i].f0) (by rw [e1]; rfl)
  have hu1 := hc 1 (.slice A3 l2[i].f1.length c3) (by rw [e1]; rfl)
  rw [Nat.add_zero] at hu0
  have hmax1 := (Kd.R_reads' r1).2.2.2.1
  have R1 := Aside0.mk r1
  have pastr : ∀ w', Sim lo hi wb w' → w'.cell? ⟨gR, i * 2 + 1, none⟩ = some (.slice A3 l2[i].f1.length c3) := fun w' h => by
   obtain ⟨u, k1, k2⟩ := h.cell hg hu1
   rw [k1, k2.slice]
  have stR := fun (w' : World) (h : Sim lo hi wb w') (m : Int) (x : Value) (hx : w'.cell? ⟨gR, i * 2, none⟩ = some x) => h.store (v := .int .i64 m) hg hlo1 hhi1 hu0 hx (.inr (.inl ⟨_, _, _, rfl, rfl⟩))
  have getR : ∀ w', Sim lo hi wb w' → ∃ n9, w'.cell? ⟨gR, i * 2, none⟩ = some (.int .i64 n9) := fun w' h => by
   obtain ⟨u, k1, k2⟩ := h.cell hg hu0
   obtain ⟨n9, rfl⟩ := k2.int
   exact ⟨n9, k1⟩
  have frzR : ∀ w', Sim lo hi wb w' → w'.frozen? ⟨gR, i * 2, none⟩ = false := fun w' h => h.frozen hg _
  clear hm e1 r1 hc hu0 hu1 hl hg hgl hlo1 hhi1
  have kr := pastr _ hS.out
  go_wp2
  go_loopw [3] (fun v wr => ∃ j : Nat, j ≤ l2[i].f1.length ∧ v = .int .i64 j ∧ Aside0 (Sim lo hi wb wr)) (fun v _ => l2[i].f1.length - (intOf v).toNat)
  case atStart => exact ⟨0, by omega, rfl, hS⟩
  case round =>
   obtain ⟨j, hj', rfl, hS3⟩ := hrel
   clear kb kr hS
   have hS := hS3
   clear hS3
   have kb := past _ hS.out
   have kr := pastr _ hS.out
   by_cases hlj : j < l2[i].f1.length
   case neg =>
    obtain rfl : j = l2[i].f1.length := by omega
    obtain ⟨n9, kh⟩ := getR _ hS.out
    have kf := frzR _ hS.out
    go_upto_region 10 with (fail)
    refine start_ (n := 13) (S := fun w' => w'.cell? ⟨gb, 2, none⟩ = some (.slice (some ⟨gR, 0, none⟩) l2.length c2) ∧ w'.cell? ⟨gR, i * 2, none⟩ = some (.int .i64 n9)) (ds := [12]) #[false, false, false, false, false, false, false, false, false, false, false, false, false] (by kernel_rfl) rfl rfl ⟨kb, kh⟩ (fun hHeld => ?_)
    refine with_tabW spg10.tab10 spg10.bits10 (fun HT_ HW_ => ?_)
    refine pure_ (i := 0) (N := some 56) (v := ?_) (a' := ?_) (bs 13 1) rfl rfl (any_of HT_.out (by kernel_rfl)) (fun _ _ _ h => h) (Or.inl ⟨by rfl, ?_⟩) ?_ ?_
    rotate_left
    ·intro w'
     go_simp
     with_reducible rfl
    rotate_left
    ·simp only [Act.put, s1, s2, s3, i64_w, i32_w]
     rfl
    refine pure_ (i := 2) (N := some 58) (v := ?_) (a' := ?_) (bs 13 5) rfl rfl (any_of HT_.out (by kernel_rfl)) (fun _ _ _ h => h) (Or.inl ⟨by rfl, ?_⟩) ?_ ?_
    rotate_left
    ·intro w'
     go_simp
     with_reducible rfl
    rotate_left
    ·simp only [Act.put, s1, s2, s3, i64_w, i32_w]
     rfl
    refine pure_ (i := 3) (N := some 59) (v := ?_) (a' := ?_) (bs 13 13) rfl rfl (any_of HT_.out (by kernel_rfl)) (fun _ _ _ h => h) (Or.inl ⟨by rfl, ?_⟩) ?_ ?_
    rotate_left
    ·intro w'
     go_simp
     with_reducible rfl
    rotate_left
    ·simp only [Act.put, s1, s2, s3, i64_w, i32_w]
     rfl
    refine pure_ (i := 5) (N := some 61) (v := ?_) (a' := ?_) (bs 13 45) rfl rfl (any_of HT_.out (by kernel_rfl)) (fun _ _ _ h => h) (Or.inl ⟨by rfl, ?_⟩) ?_ ?_
    rotate_left
    ·intro w'
     go_simp
     with_reducible rfl
    rotate_left
    ·simp only [Act.put, s1, s2, s3, i64_w, i32_w]
     rfl
    refine take_ (i := 1) (N := some 57) (v := ?_) (a' := ?_) (bs 13 47) rfl rfl (take_ofW HT_.out HW_.out (by kernel_rfl)) (fun _ _ _ h => h) (Or.inl ⟨by rfl, ?_⟩) hHeld ?_ ?_
    rotate_left
    ·rintro w' ⟨s0, s1⟩
     go_simp
     with_reducible rfl
    rotate_left
    ·simp only [Act.put, s1, s2, s3, i64_w, i32_w]
     rfl
    refine take_ (i := 4) (N := some 60) (v := ?_) (a' := ?_) (bs 13 63) rfl rfl (take_ofW HT_.out HW_.out (by kernel_rfl)) (fun _ _ _ h => h) (Or.inl ⟨by rfl, ?_⟩) hHeld ?_ ?_
    rotate_left
    ·rintro w' ⟨s0, s1⟩
     go_simp
     with_reducible rfl
    rotate_left
    ·simp only [Act.put, s1, s2, s3, i64_w, i32_w]
     rfl
    refine pure_ (i := 6) (N := some 62) (v := ?_) (a' := ?_) (bs 13 127) rfl rfl (any_of HT_.out (by kernel_rfl)) (fun _ _ _ h => h) (Or.inl ⟨by rfl, ?_⟩) ?_ ?_
    rotate_left
    ·intro w'
     go_simp
     with_reducible rfl
    rotate_left
    ·simp only [Act.put, s1, s2, s3, i64_w, i32_w]
     rfl
    refine pure_ (i := 7) (N := some 63) (v := ?_) (a' := ?_) (bs 13 255) rfl rfl (any_of HT_.out (by kernel_rfl)) (fun _ _ _ h => h) (Or.inl ⟨by rfl, ?_⟩) ?_ ?_
    rotate_left
    ·intro w'
     go_simp
     with_reducible rfl
    rotate_left
    ·simp only [Act.put, s1, s2, s3, i64_w, i32_w]
     rfl
    refine take_ (i := 8) (N := some 64) (v := ?_) (a' := ?_) (bs 13 511) rfl rfl (take_ofW HT_.out HW_.out (by kernel_rfl)) (fun _ _ _ h => h) (Or.inl ⟨by rfl, ?_⟩) hHeld ?_ ?_
    rotate_left
    ·rintro w' ⟨s0, s1⟩
     go_simp
     with_reducible rfl
    rotate_left
    ·simp only [Act.put, s1, s2, s3, i64_w, i32_w]
     rfl
    refine pure_ (i := 9) (N := some 65) (v := ?_) (a' := ?_) (bs 13 1023) rfl rfl (any_of HT_.out (by kernel_rfl)) (fun _ _ _ h => h) (Or.inl ⟨by rfl, ?_⟩) ?_ ?_
    rotate_left
    ·intro w'
     go_simp
     with_reducible rfl
    rotate_left
    ·simp only [Act.put, s1, s2, s3, i64_w, i32_w]
     rfl
    refine pure_ (i := 10) (N := some 66) (v := ?_) (a' := ?_) (bs 13 2047) rfl rfl (any_of HT_.out (by kernel_rfl)) (fun _ _ _ h => h) (Or.inl ⟨by rfl, ?_⟩) ?_ ?_
    rotate_left
    ·intro w'
     go_simp
     with_reducible rfl
    rotate_left
    ·simp only [Act.put, s1, s2, s3, i64_w, i32_w]
     rfl
    refine pure_ (i := 11) (N := some 67) (v := ?_) (a' := ?_) (bs 13 4095) rfl rfl (any_of HT_.out (by kernel_rfl)) (fun _ _ _ h => h) (Or.inl ⟨by rfl, ?_⟩) ?_ ?_
    rotate_left
    ·intro w'
     go_simp
     with_reducible rfl
    rotate_left
    ·simp only [Act.put, s1, s2, s3, i64_w, i32_w]
     rfl
    refine last_ (i := 12) (N := none) (bs 13 8191) rfl rfl (one_of HT_.out (by kernel_rfl)) (by decide) (fun K hK => ?_)
    have q0 := hHeld.2
    refine skip_ (w1 := ?_) (by rfl) rfl ?_ ?_
    rotate_left
    ·go_simp
     rfl
    refine hK.out _ _ ?_
    clear hK K
    refine done_ (done_of HT_.out (by kernel_rfl)) ?_
    have HSn := Aside0.mk (stR _ hS.out (Go.bits BinOp.xor IntKind.i64 n9 90) _ kh).drew
    clear hS HT_ HW_ hHeld q0 kb kr kh kf
    go_wp2
    go_roundw
    case rel => exact ⟨i + 1, by omega, by go_num, HSn⟩
    case measure => simp [intOf]; omega
   obtain ⟨gC, cap3, cells3, cs3, he3, hlo3, hgl3, hg3, hl3, hm3, _, hc3⟩ := R_at R1.out j hlj
   injection he3 with he3 _ he4
   subst he3 he4
   have hhi3 : gC < hi := R1.out.1 gC rfl
   obtain ⟨v2, e2, r2⟩ := k54_openM hm3
   obtain ⟨A4, c4, rfl⟩ := Kd.R_slice r2
   rw [show k54.sz = 2 from rfl] at hc3
   have hu0 := hc3 0 (.bool l2[i].f1[j].f0) (by rw [e2]; rfl)
   have hu1 := hc3 1 (.slice A4 l2[i].f1[j].f1.length c4) (by rw [e2]; rfl)
   rw [Nat.add_zero] at hu0
   have R2 := Aside0.mk r2
   have ks : ∀ w', Sim lo hi wb w' → w'.cell? ⟨gC, j * 2 + 1, none⟩ = some (.slice A4 l2[i].f1[j].f1.length c4) := fun w' h => by
    obtain ⟨u, k1, k2⟩ := h.cell hg3 hu1
    rw [k1, k2.slice]
   have stC := fun (w' : World) (h : Sim lo hi wb w') (m : Bool) (x : Value) (hx : w'.cell? ⟨gC, j * 2, none⟩ = some x) => h.store (v := .bool m) hg3 hlo3 hhi3 hu0 hx (.inr (.inr (.inl ⟨_, _, rfl, rfl⟩)))
   have getC : ∀ w', Sim lo hi wb w' → ∃ b9, w'.cell? ⟨gC, j * 2, none⟩ = some (.bool b9) := fun w' h => by
    obtain ⟨u, k1, k2⟩ := h.cell hg3 hu0
    obtain ⟨b9, rfl⟩ := k2.bool
    exact ⟨b9, k1⟩
   have frzC : ∀ w', Sim lo hi wb w' → w'.frozen? ⟨gC, j * 2, none⟩ = false := fun w' h => h.frozen hg3 _
   clear hm3 e2 r2 hc3 hu0 hu1 hl3 hg3 hgl3 hlo3 hhi3
   have ks1 := ks _ hS.out
   go_upto_region 9 with (first | (go_at_call 40; (with_reducible refine (spoil_symbols wb _ _ _ R2.out hS.out).mono ?_); rintro e w3 ⟨rfl, hs3⟩; have HS3 := Aside0.mk hs3; clear hs3))
   clear ks1 kb kr
   have kb := past _ HS3.out
   have kr := pastr _ HS3.out
   obtain ⟨b9, kc⟩ := getC _ HS3.out
   have kf := frzC _ HS3.out
   refine start_ (n := 21) (S := fun w' => w'.cell? ⟨gb, 2, none⟩ = some (.slice (some ⟨gR, 0, none⟩) l2.length c2) ∧ w'.cell? ⟨gR, i * 2 + 1, none⟩ = some (.slice (some ⟨gC, 0, none⟩) l2[i].f1.length c3) ∧ w'.cell? ⟨gC, j * 2, none⟩ = some (.bool b9)) (ds := [20]) #[false, false, false, false, false, false, false, false, false, false, false, false, false, false, false, false, false, false, false, false, false] (by kernel_rfl) rfl rfl ⟨kb, kr, kc⟩ (fun hHeld => ?_)
   refine with_tabW spg9.tab9 spg9.bits9 (fun HT_ HW_ => ?_)
   refine pure_ (i := 0) (N := some 36) (v := ?_) (a' := ?_) (bs 21 1) rfl rfl (any_of HT_.out (by kernel_rfl)) (fun _ _ _ h => h) (Or.inl ⟨by rfl, ?_⟩) ?_ ?_
   rotate_left
   ·intro w'
    go_simp
    with_reducible rfl
   rotate_left
   ·simp only [Act.put, s1, s2, s3, i64_w, i32_w]
    rfl
   refine pure_ (i := 2) (N := some 38) (v := ?_) (a' := ?_) (bs 21 5) rfl rfl (any_of HT_.out (by kernel_rfl)) (fun _ _ _ h => h) (Or.inl ⟨by rfl, ?_⟩) ?_ ?_
   rotate_left
   ·intro w'
    go_simp
    with_reducible rfl
   rotate_left
   ·simp only [Act.put, s1, s2, s3, i64_w, i32_w]
    rfl
   refine pure_ (i := 6) (N := some 42) (v := ?_) (a' := ?_) (bs 21 69) rfl rfl (any_of HT_.out (by kernel_rfl)) (fun _ _ _ h => h) (Or.inl ⟨by rfl, ?_⟩) ?_ ?_
   rotate_left
   ·intro w'
    go_simp
    with_reducible rfl
   rotate_left
   ·simp only [Act.put, s1, s2, s3, i64_w, i32_w]
    rfl
   refine pure_ (i := 7) (N := some 43) (v := ?_) (a' := ?_) (bs 21 197) rfl rfl (any_of HT_.out (by kernel_rfl)) (fun _ _ _ h => h) (Or.inl ⟨by rfl, ?_⟩) ?_ ?_
   rotate_left
   ·intro w'
    go_simp
    with_reducible rfl
   rotate_left
   ·simp only [Act.put, s1, s2, s3, i64_w, i32_w]
    rfl
   refine pure_ (i := 9) (N := some 45) (v := ?_) (a' := ?_) (bs 21 709) rfl rfl (any_of HT_.out (by kernel_rfl)) (fun _ _ _ h => h) (Or.inl ⟨by rfl, ?_⟩) ?_ ?_
   rotate_left
   ·intro w'
    go_simp
    with_reducible rfl
   rotate_left
   ·simp only [Act.put, s1, s2, s3, i64_w, i32_w]
    rfl
   refine pure_ (i := 13) (N := some 49) (v := ?_) (a' := ?_) (bs 21 8901) rfl rfl (any_of HT_.out (by kernel_rfl)) (fun _ _ _ h => h) (Or.inl ⟨by rfl, ?_⟩) ?_ ?_
   rotate_left
   ·intro w'
    go_simp
    with_reducible rfl
   rotate_left
   ·simp only [Act.put, s1, s2, s3, i64_w, i32_w]
    rfl
   refine take_ (i := 1) (N := some 37) (v := ?_) (a' := ?_) (bs 21 8903) rfl rfl (take_ofW HT_.out HW_.out (by kernel_rfl)) (fun _ _ _ h => h) (Or.inl ⟨by rfl, ?_⟩) hHeld ?_ ?_
   rotate_left
   ·rintro w' ⟨s0, s1, s2⟩
    go_simp
    with_reducible rfl
   rotate_left
   ·simp only [Act.put, s1, s2, s3, i64_w, i32_w]
    rfl
   refine pure_ (i := 3) (N := some 39) (v := ?_) (a' := ?_) (bs 21 8911) rfl rfl (any_of HT_.out (by kernel_rfl)) (fun _ _ _ h => h) (Or.inl ⟨by rfl, ?_⟩) ?_ ?_
   rotate_left
   ·intro w'
    go_simp
    with_reducible rfl
   rotate_left
   ·simp only [Act.put, s1, s2, s3, i64_w, i32_w]
    rfl
   refine pure_ (i := 4) (N := some 40) (v := ?_) (a' := ?_) (bs 21 8927) rfl rfl (any_of HT_.out (by kernel_rfl)) (fun _ _ _ h => h) (Or.inl ⟨by rfl, ?_⟩) ?_ ?_
   rotate_left
   ·intro w'
    go_simp
    with_reducible rfl
   rotate_left
   ·simp only [Act.put, s1, s2, s3, i64_w, i32_w]
    rfl
   refine take_ (i := 5) (N := some 41) (v := ?_) (a' := ?_) (bs 21 8959) rfl rfl (take_ofW HT_.out HW_.out (by kernel_rfl)) (fun _ _ _ h => h) (Or.inl ⟨by rfl, ?_⟩) hHeld ?_ ?_
   rotate_left
   ·rintro w' ⟨s0, s1, s2⟩
    go_simp
    with_reducible rfl
   rotate_left
   ·simp only [Act.put, s1, s2, s3, i64_w, i32_w]
    rfl
   refine take_ (i := 8) (N := some 44) (v := ?_) (a' := ?_) (bs 21 9215) rfl rfl (take_ofW HT_.out HW_.out (by kernel_rfl)) (fun _ _ _ h => h) (Or.inl ⟨by rfl, ?_⟩) hHeld ?_ ?_
   rotate_left
   ·rintro w' ⟨s0, s1, s2⟩
    go_simp
    with_reducible rfl
   rotate_left
   ·simp only [Act.put, s1, s2, s3, i64_w, i32_w]
    rfl
   refine pure_ (i := 10) (N := some 46) (v := ?_) (a' := ?_) (bs 21 10239) rfl rfl (any_of HT_.out (by kernel_rfl)) (fun _ _ _ h => h) (Or.inl ⟨by rfl, ?_⟩) ?_ ?_
   rotate_left
   ·intro w'
    go_simp
    with_reducible rfl
   rotate_left
   ·simp only [Act.put, s1, s2, s3, i64_w, i32_w]
    rfl
   refine pure_ (i := 11) (N := some 47) (v := ?_) (a' := ?_) (bs 21 12287) rfl rfl (any_of HT_.out (by kernel_rfl)) (fun _ _ _ h => h) (Or.inl ⟨by rfl, ?_⟩) ?_ ?_
   rotate_left
   ·intro w'
    go_simp
    with_reducible rfl
   rotate_left
   ·simp only [Act.put, s1, s2, s3, i64_w, i32_w]
    rfl
   refine take_ (i := 12) (N := some 48) (v := ?_) (a' := ?_) (bs 21 16383) rfl rfl (take_ofW HT_.out HW_.out (by kernel_rfl)) (fun _ _ _ h => h) (Or.inl ⟨by rfl, ?_⟩) hHeld ?_ ?_
   rotate_left
   ·rintro w' ⟨s0, s1, s2⟩
    go_simp
    with_reducible rfl
   rotate_left
   ·simp only [Act.put, s1, s2, s3, i64_w, i32_w]
    rfl
   refine pure_ (i := 14) (N := some 50) (v := ?_) (a' := ?_) (bs 21 32767) rfl rfl (any_of HT_.out (by kernel_rfl)) (fun _ _ _ h => h) (Or.inl ⟨by rfl, ?_⟩) ?_ ?_
   rotate_left
   ·intro w'
    go_simp
    with_reducible rfl
   rotate_left
   ·simp only [Act.put, s1, s2, s3, i64_w, i32_w]
    rfl
   refine pure_ (i := 15) (N := some 51) (v := ?_) (a' := ?_) (bs 21 65535) rfl rfl (any_of HT_.out (by kernel_rfl)) (fun _ _ _ h => h) (Or.inl ⟨by rfl, ?_⟩) ?_ ?_
   rotate_left
   ·intro w'
    go_simp
    with_reducible rfl
   rotate_left
   ·simp only [Act.put, s1, s2, s3, i64_w, i32_w]
    rfl
   refine take_ (i := 16) (N := some 52) (v := ?_) (a' := ?_) (bs 21 131071) rfl rfl (take_ofW HT_.out HW_.out (by kernel_rfl)) (fun _ _ _ h => h) (Or.inl ⟨by rfl, ?_⟩) hHeld ?_ ?_
   rotate_left
   ·rintro w' ⟨s0, s1, s2⟩
    go_simp
    with_reducible rfl
   rotate_left
   ·simp only [Act.put, s1, s2, s3, i64_w, i32_w]
    rfl
   refine pure_ (i := 17) (N := some 53) (v := ?_) (a' := ?_) (bs 21 262143) rfl rfl (any_of HT_.out (by kernel_rfl)) (fun _ _ _ h => h) (Or.inl ⟨by rfl, ?_⟩) ?_ ?_
   rotate_left
   ·intro w'
    go_simp
    with_reducible rfl
   rotate_left
   ·simp only [Act.put, s1, s2, s3, i64_w, i32_w]
    rfl
   refine pure_ (i := 18) (N := some 54) (v := ?_) (a' := ?_) (bs 21 524287) rfl rfl (any_of HT_.out (by kernel_rfl)) (fun _ _ _ h => h) (Or.inl ⟨by rfl, ?_⟩) ?_ ?_
   rotate_left
   ·intro w'
    go_simp
    with_reducible rfl
   rotate_left
   ·simp only [Act.put, s1, s2, s3, i64_w, i32_w]
    rfl
   refine pure_ (i := 19) (N := some 55) (v := ?_) (a' := ?_) (bs 21 1048575) rfl rfl (any_of HT_.out (by kernel_rfl)) (fun _ _ _ h => h) (Or.inl ⟨by rfl, ?_⟩) ?_ ?_
   rotate_left
   ·intro w'
    go_simp
    with_reducible rfl
   rotate_left
   ·simp only [Act.put, s1, s2, s3, i64_w, i32_w]
    rfl
   refine last_ (i := 20) (N := none) (bs 21 2097151) rfl rfl (one_of HT_.out (by kernel_rfl)) (by decide) (fun K hK => ?_)
   have q0 := hHeld.2.2
   refine skip_ (w1 := ?_) (by rfl) rfl ?_ ?_
   rotate_left
   ·go_simp
    rfl
   refine hK.out _ _ ?_
   clear hK K
   refine done_ (done_of HT_.out (by kernel_rfl)) ?_
   have HSn := Aside0.mk (stC _ HS3.out (!b9) _ kc).drew
   clear HS3 HT_ HW_ hHeld q0 kb kr kc kf hS
   go_wp2
   go_roundw
   case rel => exact ⟨j + 1, by omega, by go_num, HSn⟩
   case measure => simp [intOf]; omega


end Go.Proofs.Ytdjnpgigdchfkaa.PBS
