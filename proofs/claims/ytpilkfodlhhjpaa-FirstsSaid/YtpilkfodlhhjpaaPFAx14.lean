-- written by a program of the session's (wip/myprint.py) out of the translation
import Derived.Test.YtpilkfodlhhjpaaPFAx0
import Derived.Test.YtpilkfodlhhjpaaPFAx6
import Derived.Test.YtpilkfodlhhjpaaPFAx10
import Derived.Test.YtpilkfodlhhjpaaPFAx11
import Derived.Test.YtpilkfodlhhjpaaPFAx12
import Derived.Test.YtpilkfodlhhjpaaPFAx13
namespace Go.Proofs.Ytpilkfodlhhjpaa.PFA
open Go.RowKit Go.Proofs.YtpilkfodlhhjpaaW.PrintWords Go.Proofs.YtpilkfodlhhjpaaW.PrintLast Go.Proofs.YtpilkfodlhhjpaaW.PrintMore
attribute [local go_sem] max2_int min2_int max_two min_two max_three min_three max_four min_four   -- for this text's walks alone
set_option linter.unusedVariables false
set_option linter.unusedSimpArgs false

/-! ### templeref6_First: function 13 -/
theorem fe_mix (a b : S63) (w : World) : Calls Try.prog 26 #[.int .i64 0, .agg #[.int .u64 a.f0, .int .u64 a.f1, .int .u64 a.f2, .int .u64 a.f3], .agg #[.int .u64 b.f0, .int .u64 b.f1, .int .u64 b.f2, .int .u64 b.f3]] w fun e w' => e = .returned (.agg #[.int .u64 (orS a b).f0, .int .u64 (orS a b).f1, .int .u64 (orS a b).f2, .int .u64 (orS a b).f3]) ∧ Below w.heap.size w w' :=
 templeref1_Mix.calls 0 _ _ _ _ _ _ _ _ _ _ _ _ w rfl
theorem fe_mixf (a b : S63) : templeref1_Mix.f 0 a.f0 a.f1 a.f2 a.f3 b.f0 b.f1 b.f2 b.f3 = some ((orS a b).f0, (orS a b).f1, (orS a b).f2, (orS a b).f3) := rfl
theorem fe_rbegL (q : List S68) (e : List Bool) (fs : List S63) (hok : ∀ s ∈ q, SymF e.length s) (hef : fs.length = e.length) (hl : q.length ≤ 64) : ∀ (d i : Nat) (out : S63) (k : Nat), i + d = q.length → d < k →
  templeref6_begins.l0 k q e fs (i : Int) out.f0 out.f1 out.f2 out.f3 = some ((begA e fs out (q.drop i)).f0, (begA e fs out (q.drop i)).f1, (begA e fs out (q.drop i)).f2, (begA e fs out (q.drop i)).f3) := by
 intro d
 induction d with
 | zero =>
  intro i out k hi hk
  obtain ⟨k, rfl⟩ : ∃ m, k = m + 1 := ⟨k - 1, by omega⟩
  simp only [templeref6_begins.l0]
  rw [if_neg (by omega), List.drop_eq_nil_of_le (by omega)]
  rfl
 | succ d ih =>
  intro i out k hi hk
  obtain ⟨k, rfl⟩ : ∃ m, k = m + 1 := ⟨k - 1, by omega⟩
  have hlt : i < q.length := by omega
  simp only [templeref6_begins.l0]
  rw [if_pos (by omega), if_pos (by omega), fe_rdsym _ _ hlt, List.drop_eq_getElem_cons hlt]
  have hx := hok _ (List.getElem_mem hlt)
  generalize q[i] = x at *
  unfold begA
  rcases hx with hx | hx
  ·have hn : x.f0 < 0 := by omega
   rw [if_pos hn, if_pos hn]
   have hr : templeref1_Range.f x.f1 x.f2 = some ((rangeS x.f1 x.f2).f0, (rangeS x.f1 x.f2).f1, (rangeS x.f1 x.f2).f2, (rangeS x.f1 x.f2).f3, 0) := by
    unfold templeref1_Range.f
    rw [if_pos ⟨hx.2.1, hx.2.2.2, hx.2.2.1⟩]
    rfl
   rw [hr, Option.bind_some, fe_mixf, Option.bind_some]
  ·have hn : ¬ x.f0 < 0 := by omega
   rw [if_neg hn, if_neg hn, if_pos hx.1, if_pos (by rw [hef]; exact hx.2), fe_mixf, Option.bind_some, if_pos hx.2]
   show (if e.getD x.f0.toNat false = true then _ else _) = _
   by_cases he : e.getD x.f0.toNat false = true
   ·rw [if_pos he, if_pos he]
    have hw : wrap64 ((i : Int) + 1) = ((i + 1 : Nat) : Int) := by unfold wrap64; omega
    rw [hw]
    exact ih (i + 1) _ k (by omega) (by omega)
   ·rw [if_neg he, if_neg he]
    rfl
theorem fe_rbegins (q : List S68) (A : Option Addr) (c : Nat) (e : List Bool) (Ae : Option Addr) (ce : Nat) (fs : List S63) (Af : Option Addr) (cf : Nat) (w : World) (hq : Kd.C k68 w A q.length q) (hc : q.length ≤ c) (he : Kd.C Kd.bool w Ae e.length e) (hce : e.length ≤ ce) (hf : Kd.C k63 w Af fs.length fs) (hcf : fs.length ≤ cf) (hok : ∀ s ∈ q, SymF e.length s) (hef : fs.length = e.length) (hl : q.length ≤ 64) :
  Calls Try.prog 37 #[.slice A q.length c, .slice Ae e.length ce, .slice Af fs.length cf] w fun e' w' => e' = .returned (.agg #[.int .u64 (begA e fs z63 q).f0, .int .u64 (begA e fs z63 q).f1, .int .u64 (begA e fs z63 q).f2, .int .u64 (begA e fs z63 q).f3]) ∧ Below w.heap.size w w' :=
 templeref6_begins.calls (q.length + 1) A c q Ae ce e Af cf fs _ _ _ _ w hq hc he hce hf hcf (fe_rbegL q e fs hok hef hl q.length 0 z63 (q.length + 1) (by omega) (by omega))
def templeref6_First.f (k : Nat) (a0_0 : Int) (l0_1 : List ByteArray) (l0_2 : List (S55)) : Option (List S63 × Int) := (templeref6_Empty.f k a0_0 l0_1 l0_2).bind fun b => if b.2 = 0 then (if mayB a0_0 l0_1 l0_2 = true then some (firstL l0_1 l0_2, 0) else none) else some ([], b.2)
theorem templeref6_First.mono : ∀ a0 a1 a2 k, LeO (templeref6_First.f k a0 a1 a2) (templeref6_First.f (k + 1) a0 a1 a2) := fun a0 a1 a2 k => LeO.bind (templeref6_Empty.mono _ _ _ _) (fun _ => LeO.refl _)
theorem rEmpty_cases {k : Nat} {a : Int} {ns : List ByteArray} {rs : List S55} {b : List Bool × Int} (h : templeref6_Empty.f k a ns rs = some b) : (b = ([], 1200)) ∨ (mayB a ns rs = true ∧ b = (emptyL ns rs, 0)) := by
 unfold templeref6_Empty.f at h
 obtain ⟨c, _, h⟩ := Option.bind_eq_some_iff.mp h
 cases c with
 | false =>
  rw [if_neg (by decide)] at h
  exact .inl (Option.some.inj h).symm
 | true =>
  rw [if_pos rfl] at h
  by_cases hm : mayB a ns rs = true
  ·rw [if_pos hm] at h
   exact .inr ⟨hm, (Option.some.inj h).symm⟩
  ·rw [if_neg hm] at h; cases h
def templeref6_First.T15 : Bool × List (List Nat × List Nat) := (true, [([], []), ([], []), ([], []), ([], []), ([2, 3], [2, 3]), ([4], [4]), ([], []), ([6], [6]), ([], []), ([7, 8], [7, 8]), ([9], [9]), ([10], [10]), ([], []), ([11, 12], [11, 12]), ([13], [13]), ([14], [14]), ([], []), ([], []), ([15, 16, 17], [15, 16, 17]), ([5, 18, 18], [5, 18]), ([0, 1, 0, 1, 2, 3, 4, 5, 6, 7, 8, 9, 10, 11, 12, 13, 14, 15, 16, 17, 18, 19], [0, 1]), ([20, 19, 19, 0, 1, 2, 3, 4, 5, 6, 7, 8, 9, 10, 11, 12, 13, 14, 15, 16, 17, 18, 19], [19, 20])])
def templeref6_First.B15 : List Nat := [0, 0, 0, 0, 12, 28, 0, 64, 0, 448, 960, 1984, 0, 8128, 16320, 32704, 0, 0, 262080, 524284, 1048575, 2097151]
theorem templeref6_First.tab15 : rtab .any (opsOf Try.f13 15) = templeref6_First.T15 := by kernel_rfl
theorem templeref6_First.bits15 : waitsOk templeref6_First.T15.2 templeref6_First.B15 = true := by kernel_rfl
set_option maxHeartbeats 8000000 in
set_option maxRecDepth 100000 in
theorem templeref6_First.calls (k : Nat) (a0_0 : Int) (A0_1 : Option Addr) (c0_1 : Nat) (l0_1 : List ByteArray) (A0_2 : Option Addr) (c0_2 : Nat) (l0_2 : List (S55)) (r1 : List (S63)) (r2 : Int) (w : World) (hr0_1 : Kd.C Kd.string w A0_1 l0_1.length l0_1) (hc0_1 : l0_1.length ≤ c0_1) (hr0_2 : Kd.C k55 w A0_2 l0_2.length l0_2) (hc0_2 : l0_2.length ≤ c0_2) (h : templeref6_First.f k a0_0 l0_1 l0_2 = some (r1, r2)) :
  Calls Try.prog 13 #[.agg #[.int .i64 a0_0, .slice A0_1 l0_1.length c0_1, .slice A0_2 l0_2.length c0_2]] w fun e w' => ∃ v0_ : Value, e = .returned (.tuple #[v0_, .int .i64 r2]) ∧ Kd.R k63 63 w' w.heap.size (fun _ => True) v0_ r1 ∧ Below w.heap.size w w' := by
 unfold templeref6_First.f at h
 obtain ⟨b, hem, h⟩ := Option.bind_eq_some_iff.mp h
 have H1 := Aside0.mk hr0_1
 have H2 := Aside0.mk hr0_2
 clear hr0_1 hr0_2
 rcases rEmpty_cases hem with rfl | ⟨hm, rfl⟩
 ·have HEM := Aside0.mk hem
  clear hem
  rw [if_neg (by decide)] at h
  obtain ⟨rfl, rfl⟩ := Prod.mk.inj (Option.some.inj h)
  clear h
  go_enter Try.func13, Try.ntmps13
  go_wp2_with (go_at_call 11; refine (templeref6_Empty.calls _ _ _ _ _ _ _ _ _ _ _ (Kd.C_alloc H1.out _) hc0_1 (Kd.C_alloc H2.out _) hc0_2 HEM.out).mono ?_; rintro e w1 ⟨v, rfl, hv, hb1⟩; obtain ⟨Av, cv, rfl⟩ := Kd.R_slice hv; have HB1 := Aside0.mk hb1; clear hb1 hv)
  go_ret2
  exact ⟨_, rfl, Kd.R_nil _ _ _ _ _, ((Below.refl _ _).alloc (Nat.le_refl _) _).trans (HB1.out.mono (by simp))⟩
 ·have HEM := Aside0.mk hem
  clear hem
  rw [if_pos rfl, if_pos hm] at h
  obtain ⟨rfl, rfl⟩ := Prod.mk.inj (Option.some.inj h)
  have F := may_facts hm
  have HF := Aside0.mk F
  obtain ⟨n1, n2, s0, s1, _, r2, _, _, _, _, _⟩ := F
  clear h hm
  have HEL := Aside0.mk (emptyL_len l0_1 l0_2)
  have HFL : Aside0 (firstL l0_1 l0_2 = iterT (passT (stepF (emptyL l0_1 l0_2)) l0_2) (l0_1.length + 1) (startF l0_1.length)) := ⟨rfl⟩
  obtain ⟨E, HEQ⟩ : ∃ E, Aside0 (emptyL l0_1 l0_2 = E) := ⟨_, ⟨rfl⟩⟩
  rw [HEQ.out] at HEL HEM HFL
  have hmk := fe_make33 l0_1.length n2
  have hin : ∀ m, InF l0_1.length (iterT (passT (stepF E) l0_2) m (startF l0_1.length)) := iter_inv _ (InF l0_1.length) (fun s hs => (passT_chan (stepF E) (fun _ _ t => t) (fun _ => []) (InF l0_1.length) l0_2 (fun r _ c _ s h => inF_step h) (fun r _ c _ s h => rfl) s hs).2) _ (startF_in _)
  have HIN := Aside0.mk hin
  clear hin
  go_enter Try.func13, Try.ntmps13
  go_wp2_with (first
   | (go_at_call 11; refine (templeref6_Empty.calls _ _ _ _ _ _ _ _ _ _ _ (Kd.C_alloc H1.out _) hc0_1 (Kd.C_alloc H2.out _) hc0_2 HEM.out).mono ?_; rintro e w1 ⟨v, rfl, hv, hb1⟩; obtain ⟨Ae, ce, rfl⟩ := Kd.R_slice hv; rw [HEL.out] at hv; have HV := Aside0.mk hv; have HB1 := Aside0.mk hb1; have HG : Aside0 (w1.heap[w.heap.size]? = some (.cells #[.int .i64 a0_0, .slice A0_1 l0_1.length c0_1, .slice A0_2 l0_2.length c0_2] 25 (0, 0))) := ⟨blk_below (blk_new _ _) hb1⟩; have k1 : w1.cell? ⟨w.heap.size, 1, none⟩ = some (.slice A0_1 l0_1.length c0_1) := (blk_cell HG.out 1).trans rfl; have hz := hb1.size; simp at hz; have lt1 : w.heap.size < w1.heap.size := hz; rw [HEL.out]; clear hb1 hv))
  have hne : w.heap.size ≠ w1.heap.size := Nat.ne_of_lt lt1
  have HW0 : Aside0 (Below w.heap.size w (w1.alloc (.cells (rowV encS (startF l0_1.length)) 63 (0, 0)))) := ⟨(((Below.refl _ _).alloc (Nat.le_refl _) _).trans (HB1.out.mono (by simp))).alloc (by omega) _⟩
  have HG0 := Aside0.mk (blk_alloc HG.out (.cells (rowV encS (startF l0_1.length)) 63 (0, 0)))
  have HD0 := Aside0.mk (blk_new w1 (.cells (rowV encS (startF l0_1.length)) 63 (0, 0)))
  have HV0 : Aside0 (Kd.R Kd.bool 4 (w1.alloc (.cells (rowV encS (startF l0_1.length)) 63 (0, 0))) w.heap.size (fun k => k ≠ w1.heap.size) (.slice Ae l0_1.length ce) E) := ⟨Kd.R_alloc (Kd.R_mono (Kd.R_elderB (Kd.R_lower HV.out (by simp)) w1.heap.size (Nat.le_refl _)) (fun k hk => hk.2)) _⟩
  clear HB1 HG HV k1
  obtain ⟨W0, hW0⟩ : ∃ W0, W0 = w1.alloc (.cells (rowV encS (startF l0_1.length)) 63 (0, 0)) := ⟨_, rfl⟩
  rw [← hW0] at HW0 HG0 HD0 HV0
  go_loopw [7] (fun v wr => ∃ m : Nat, m ≤ l0_1.length + 1 ∧ v = .int .i64 m ∧ Aside0 (KeepBut W0 wr w1.heap.size none) ∧ Aside0 (wr.heap[w1.heap.size]? = some (.cells (rowV encS (iterT (passT (stepF E) l0_2) m (startF l0_1.length))) 63 (0, 0))) ∧ Aside0 (Below w.heap.size w wr)) (fun v _ => l0_1.length + 1 - (intOf v).toNat)
  case atStart => exact ⟨0, by omega, rfl, ⟨by rw [← hW0]; exact KeepBut.refl _ _ _⟩, ⟨by rw [← hW0]; exact HD0.out⟩, ⟨by rw [← hW0]; exact HW0.out⟩⟩
  clear hW0
  case round =>
   obtain ⟨m, hm, rfl, HK, HD, HB⟩ := hrel
   have g1 : wr.cell? ⟨w.heap.size, 1, none⟩ = some (.slice A0_1 l0_1.length c0_1) := (blk_cell (HK.out.blk HG0.out hne (by simp)) 1).trans rfl
   by_cases hmn : m ≤ l0_1.length
   ·obtain ⟨wo, rfl⟩ : ∃ wo : World, wo = wr := ⟨_, rfl⟩
    have hs0 := HIN.out m
    obtain ⟨s, HS⟩ : ∃ s, Aside0 (iterT (passT (stepF E) l0_2) m (startF l0_1.length) = s) := ⟨_, ⟨rfl⟩⟩
    rw [HS.out] at hs0 HD
    have HS0 := Aside0.mk hs0
    clear hs0
    go_wp2
    go_loopw [8] (fun v wi => ∃ i : Nat, i ≤ l0_2.length ∧ v = .int .i64 i ∧ Aside0 (KeepBut W0 wi w1.heap.size none) ∧ Aside0 (wi.heap[w1.heap.size]? = some (.cells (rowV encS (passT (stepF E) (l0_2.take i) s)) 63 (0, 0))) ∧ Aside0 (InF l0_1.length (passT (stepF E) (l0_2.take i) s)) ∧ Aside0 (Below w.heap.size w wi)) (fun v _ => l0_2.length - (intOf v).toNat)
    case atStart => exact ⟨0, by omega, rfl, HK, HD, HS0, HB⟩
    case round =>
     clear g1 HK HD HB
     obtain ⟨i, hi, rfl, HK, HD, HI, HB⟩ := hrel
     have g2 : wr.cell? ⟨w.heap.size, 2, none⟩ = some (.slice A0_2 l0_2.length c0_2) := (blk_cell (HK.out.blk HG0.out hne (by simp)) 2).trans rfl
     by_cases hlt : i < l0_2.length
     ·obtain ⟨ad, A1, c1, eA, q0, q1, hc1, hC1⟩ := at_T55 H2.out (i : Int) (by omega) (by omega)
      rw [fe_rdrule _ _ hlt] at q0 q1 hc1 hC1
      rw [Int.toNat_natCast] at q0 q1
      have Q1 := Aside0.mk q1
      replace q0 := pw_cell_below HB.out q0
      clear q1
      subst eA
      have HX := Aside0.mk (fe_passT_take (stepF E) l0_2 i hlt s)
      have hmem := List.getElem_mem hlt
      generalize l0_2[i] = x at *
      have HC1 := Aside0.mk hC1
      have hxl := HF.out.cj x hmem
      have hx0 := HF.out.hd0 x hmem
      have hx1 := HF.out.hd1 x hmem
      have HME := Aside0.mk hmem
      clear hC1 hmem
      obtain ⟨s2, HS2⟩ : ∃ s2, Aside0 (passT (stepF E) (l0_2.take i) s = s2) := ⟨_, ⟨rfl⟩⟩
      rw [HS2.out] at HD HX HI
      obtain ⟨wp, rfl⟩ : ∃ wp : World, wp = wr := ⟨_, rfl⟩
      go_wp2
      go_loopw [10] (fun v wj => ∃ j : Nat, j ≤ x.f1.length ∧ v = .int .i64 j ∧ Aside0 (KeepBut W0 wj w1.heap.size none) ∧ Aside0 (wj.heap[w1.heap.size]? = some (.cells (rowV encS (passC (stepF E) x.f0 (x.f1.take j) s2)) 63 (0, 0))) ∧ Aside0 (InF l0_1.length (passC (stepF E) x.f0 (x.f1.take j) s2)) ∧ Aside0 (Below w.heap.size w wj)) (fun v _ => x.f1.length - (intOf v).toNat)
      case atStart => exact ⟨0, by omega, rfl, HK, HD, HI, HB⟩
      case round =>
       clear g2 HK HD HB HI q0
       obtain ⟨j, hj, rfl, HK, HD, HI, HB⟩ := hrel
       have GB := Aside0.mk (HK.out.blk HG0.out hne (by simp))
       have g2 : wr.cell? ⟨w.heap.size, 2, none⟩ = some (.slice (some ad) l0_2.length c0_2) := (blk_cell GB.out 2).trans rfl
       have q1 := pw_cell_below HB.out Q1.out
       by_cases hjl : j < x.f1.length
       ·obtain ⟨ad2, A2, c2, eA2, p0, p1, hc2, hC2⟩ := at_T58 HC1.out (j : Int) (by omega) (by omega)
        rw [fe_rdconj _ _ hjl] at p0 p1 hc2 hC2
        rw [Int.toNat_natCast] at p0 p1
        have P1 := Aside0.mk p1
        clear p0 p1
        subst eA2
        have HY := Aside0.mk (fe_passC_take (stepF E) x.f0 x.f1 j hjl s2)
        have hmem := List.getElem_mem hjl
        generalize x.f1[j] = y at *
        have HC2 := Aside0.mk hC2
        have HMY := Aside0.mk hmem
        clear hC2 hmem
        obtain ⟨s3, HS3⟩ : ∃ s3, Aside0 (passC (stepF E) x.f0 (x.f1.take j) s2 = s3) := ⟨_, ⟨rfl⟩⟩
        rw [HS3.out] at HD HY HI
        have HI2 := Aside0.mk (inF_step (e := E) (h := x.f0) (q := y.f1) HI.out)
        have hdn : x.f0.toNat < s3.length := by rw [HI.out.1]; omega
        have hrow : ∀ j, j < 4 → wr.cell? ⟨w1.heap.size, x.f0.toNat * 4 + j, none⟩ = (encS s3[x.f0.toNat])[j]? := fun j hj => (blk_cell HD.out (x.f0.toNat * 4 + j)).trans (rowV_get encS_len s3 x.f0.toNat j hdn hj)
        have hgd : s3.getD x.f0.toNat z63 = s3[x.f0.toNat] := by rw [List.getD_eq_getElem?_getD, List.getElem?_eq_getElem hdn]; rfl
        have hst : stepF E x.f0 y.f1 s3 = s3.set x.f0.toNat (orS s3[x.f0.toNat] (begA E s3 z63 y.f1)) := by unfold stepF; rw [hgd]
        generalize s3[x.f0.toNat] = o at *
        have D0 := Aside0.mk (hrow 0 (by omega))
        have D1 := Aside0.mk (hrow 1 (by omega))
        have D2 := Aside0.mk (hrow 2 (by omega))
        have D3 := Aside0.mk (hrow 3 (by omega))
        have HST := Aside0.mk hst
        have HDN := Aside0.mk hdn
        obtain ⟨g, HGG⟩ : ∃ g, Aside0 (begA E s3 z63 y.f1 = g) := ⟨_, ⟨rfl⟩⟩
        have hql := HF.out.sq x HME.out y HMY.out
        have hce : E.length ≤ ce := by
         obtain ⟨A', c', he, hle, _⟩ := Kd.R_reads HV0.out
         rw [HEL.out] at he
         injection he with _ _ h3
         rw [h3]
         exact hle
        have hcall : ∀ W : World, W = wr.drew → Calls Try.prog 37 #[.slice A2 y.f1.length c2, .slice Ae l0_1.length ce, .slice (some ⟨w1.heap.size, 0, none⟩) l0_1.length l0_1.length] W fun e' w' => e' = .returned (.agg #[.int .u64 g.f0, .int .u64 g.f1, .int .u64 g.f2, .int .u64 g.f3]) ∧ Below W.heap.size W w' := by
         rintro _ rfl
         obtain ⟨A', c', he, hle, hCE⟩ := Kd.R_reads (Kd.R_keep HV0.out HK.out (fun k hk => hk))
         rw [HEL.out] at he
         injection he with h1 h2 h3
         subst h1
         have h := fe_rbegins y.f1 A2 c2 E Ae ce s3 (some ⟨w1.heap.size, 0, none⟩) s3.length wr.drew (Kd.C_below HC2.out HB.out.drew) hc2 (Kd.C_drew hCE) hce (rowV_C encS_len (d := k63) (fun w x => k63_mk w x) rfl (blk_drew HD.out) (by rw [HI.out.1]; omega)) (Nat.le_refl _) (fun z hz => by rw [HEL.out]; exact symF_of (HF.out.sy x HME.out y HMY.out z hz)) (by rw [HI.out.1, HEL.out]) hql
         rw [HEL.out, HI.out.1, HGG.out] at h
         exact h
        have HCALL := Aside0.mk hcall
        have q0 : Aside0 (wr.cell? ⟨(ad.add (i * 2)).block, (ad.add (i * 2)).off + 1, none⟩ = some (.slice (some ad2) x.f1.length c1)) := ⟨q1⟩
        clear hrow hgd hst hdn hcall hce
        have p1 := pw_cell_below HB.out P1.out
        go_wp2
        clear p1 q1 g2
        refine start_ (n := 22) (S := fun w' => w'.cell? ⟨w1.heap.size, x.f0.toNat * 4, none⟩ = some (.int .u64 o.f0) ∧ w'.cell? ⟨w1.heap.size, x.f0.toNat * 4 + 1, none⟩ = some (.int .u64 o.f1) ∧ w'.cell? ⟨w1.heap.size, x.f0.toNat * 4 + 2, none⟩ = some (.int .u64 o.f2) ∧ w'.cell? ⟨w1.heap.size, x.f0.toNat * 4 + 3, none⟩ = some (.int .u64 o.f3) ∧ w'.cell? ⟨w.heap.size, 2, none⟩ = some (.slice (some ad) l0_2.length c0_2) ∧ w'.cell? ⟨(ad.add (i * 2)).block, (ad.add (i * 2)).off + 1, none⟩ = some (.slice (some ad2) x.f1.length c1) ∧ w'.cell? ⟨(ad2.add (j * 2)).block, (ad2.add (j * 2)).off + 1, none⟩ = some (.slice A2 y.f1.length c2)) (ds := [21]) #[false, false, false, false, false, false, false, false, false, false, false, false, false, false, false, false, false, false, false, false, false, false] (by kernel_rfl) rfl rfl ⟨D0.out, D1.out, D2.out, D3.out, (blk_cell (blk_drew GB.out) 2).trans rfl, pw_cell_below HB.out.drew Q1.out, pw_cell_below HB.out.drew P1.out⟩ (fun hHeld => ?_)
        refine with_tabW templeref6_First.tab15 templeref6_First.bits15 (fun HT_ HW_ => ?_)
        refine pure_ (i := 0) (N := some 54) (v := ?_) (a' := ?_) #[true, false, false, false, false, false, false, false, false, false, false, false, false, false, false, false, false, false, false, false, false, false] rfl rfl (any_of HT_.out (by kernel_rfl)) (fun _ _ _ h => h) (Or.inl ⟨by rfl, ?_⟩) ?_ ?_
        rotate_left
        ·intro w'
         go_simp
         with_reducible rfl
        rotate_left
        ·simp only [Act.put, PFA.s1, PFA.s2, PFA.s3, i64_w, i32_w]
         rfl
        refine pure_ (i := 1) (N := some 55) (v := ?_) (a' := ?_) #[true, true, false, false, false, false, false, false, false, false, false, false, false, false, false, false, false, false, false, false, false, false] rfl rfl (any_of HT_.out (by kernel_rfl)) (fun _ _ _ h => h) (Or.inl ⟨by rfl, ?_⟩) ?_ ?_
        rotate_left
        ·intro w'
         go_simp
         with_reducible rfl
        rotate_left
        ·simp only [Act.put, PFA.s1, PFA.s2, PFA.s3, i64_w, i32_w]
         rfl
        refine pure_ (i := 2) (N := some 56) (v := ?_) (a' := ?_) #[true, true, true, false, false, false, false, false, false, false, false, false, false, false, false, false, false, false, false, false, false, false] rfl rfl (any_of HT_.out (by kernel_rfl)) (fun _ _ _ h => h) (Or.inl ⟨by rfl, ?_⟩) ?_ ?_
        rotate_left
        ·intro w'
         go_simp
         with_reducible rfl
        rotate_left
        ·simp only [Act.put, PFA.s1, PFA.s2, PFA.s3, i64_w, i32_w]
         rfl
        refine pure_ (i := 3) (N := some 57) (v := ?_) (a' := ?_) #[true, true, true, true, false, false, false, false, false, false, false, false, false, false, false, false, false, false, false, false, false, false] rfl rfl (any_of HT_.out (by kernel_rfl)) (fun _ _ _ h => h) (Or.inl ⟨by rfl, ?_⟩) ?_ ?_
        rotate_left
        ·intro w'
         go_simp
         with_reducible rfl
        rotate_left
        ·simp only [Act.put, PFA.s1, PFA.s2, PFA.s3, i64_w, i32_w]
         rfl
        refine pure_ (i := 4) (N := some 58) (v := ?_) (a' := ?_) #[true, true, true, true, true, false, false, false, false, false, false, false, false, false, false, false, false, false, false, false, false, false] rfl rfl (any_of HT_.out (by kernel_rfl)) (fun _ _ _ h => h) (Or.inl ⟨by rfl, ?_⟩) ?_ ?_
        rotate_left
        ·intro w'
         go_simp
         with_reducible rfl
        rotate_left
        ·simp only [Act.put, PFA.s1, PFA.s2, PFA.s3, i64_w, i32_w]
         rfl
        refine pure_ (i := 6) (N := some 60) (v := ?_) (a' := ?_) #[true, true, true, true, true, false, true, false, false, false, false, false, false, false, false, false, false, false, false, false, false, false] rfl rfl (any_of HT_.out (by kernel_rfl)) (fun _ _ _ h => h) (Or.inl ⟨by rfl, ?_⟩) ?_ ?_
        rotate_left
        ·intro w'
         go_simp
         with_reducible rfl
        rotate_left
        ·simp only [Act.put, PFA.s1, PFA.s2, PFA.s3, i64_w, i32_w]
         rfl
        refine pure_ (i := 8) (N := some 62) (v := ?_) (a' := ?_) #[true, true, true, true, true, false, true, false, true, false, false, false, false, false, false, false, false, false, false, false, false, false] rfl rfl (any_of HT_.out (by kernel_rfl)) (fun _ _ _ h => h) (Or.inl ⟨by rfl, ?_⟩) ?_ ?_
        rotate_left
        ·intro w'
         go_simp
         with_reducible rfl
        rotate_left
        ·simp only [Act.put, PFA.s1, PFA.s2, PFA.s3, i64_w, i32_w]
         rfl
        refine pure_ (i := 12) (N := some 66) (v := ?_) (a' := ?_) #[true, true, true, true, true, false, true, false, true, false, false, false, true, false, false, false, false, false, false, false, false, false] rfl rfl (any_of HT_.out (by kernel_rfl)) (fun _ _ _ h => h) (Or.inl ⟨by rfl, ?_⟩) ?_ ?_
        rotate_left
        ·intro w'
         go_simp
         with_reducible rfl
        rotate_left
        ·simp only [Act.put, PFA.s1, PFA.s2, PFA.s3, i64_w, i32_w]
         rfl
        refine pure_ (i := 16) (N := some 70) (v := ?_) (a' := ?_) #[true, true, true, true, true, false, true, false, true, false, false, false, true, false, false, false, true, false, false, false, false, false] rfl rfl (any_of HT_.out (by kernel_rfl)) (fun _ _ _ h => h) (Or.inl ⟨by rfl, ?_⟩) ?_ ?_
        rotate_left
        ·intro w'
         go_simp
         with_reducible rfl
        rotate_left
        ·simp only [Act.put, PFA.s1, PFA.s2, PFA.s3, i64_w, i32_w]
         rfl
        refine pure_ (i := 17) (N := some 71) (v := ?_) (a' := ?_) #[true, true, true, true, true, false, true, false, true, false, false, false, true, false, false, false, true, true, false, false, false, false] rfl rfl (any_of HT_.out (by kernel_rfl)) (fun _ _ _ h => h) (Or.inl ⟨by rfl, ?_⟩) ?_ ?_
        rotate_left
        ·intro w'
         go_simp
         with_reducible rfl
        rotate_left
        ·simp only [Act.put, PFA.s1, PFA.s2, PFA.s3, i64_w, i32_w]
         rfl
        refine take_ (i := 5) (N := some 59) (v := ?_) (a' := ?_) #[true, true, true, true, true, true, true, false, true, false, false, false, true, false, false, false, true, true, false, false, false, false] rfl rfl (take_ofW HT_.out HW_.out (by kernel_rfl)) (fun _ _ _ h => h) (Or.inl ⟨by rfl, ?_⟩) hHeld ?_ ?_
        rotate_left
        ·rintro w' ⟨s0, s1, s2, s3, s4, s5, s6⟩
         go_simp
         with_reducible rfl
        rotate_left
        ·simp only [Act.put, PFA.s1, PFA.s2, PFA.s3, i64_w, i32_w]
         rfl
        refine take_ (i := 7) (N := some 61) (v := ?_) (a' := ?_) #[true, true, true, true, true, true, true, true, true, false, false, false, true, false, false, false, true, true, false, false, false, false] rfl rfl (take_ofW HT_.out HW_.out (by kernel_rfl)) (fun _ _ _ h => h) (Or.inl ⟨by rfl, ?_⟩) hHeld ?_ ?_
        rotate_left
        ·rintro w' ⟨s0, s1, s2, s3, s4, s5, s6⟩
         go_simp
         with_reducible rfl
        rotate_left
        ·simp only [Act.put, PFA.s1, PFA.s2, PFA.s3, i64_w, i32_w]
         rfl
        refine pure_ (i := 9) (N := some 63) (v := ?_) (a' := ?_) #[true, true, true, true, true, true, true, true, true, true, false, false, true, false, false, false, true, true, false, false, false, false] rfl rfl (any_of HT_.out (by kernel_rfl)) (fun _ _ _ h => h) (Or.inl ⟨by rfl, ?_⟩) ?_ ?_
        rotate_left
        ·intro w'
         go_simp
         with_reducible rfl
        rotate_left
        ·simp only [Act.put, PFA.s1, PFA.s2, PFA.s3, i64_w, i32_w]
         rfl
        refine pure_ (i := 10) (N := some 64) (v := ?_) (a' := ?_) #[true, true, true, true, true, true, true, true, true, true, true, false, true, false, false, false, true, true, false, false, false, false] rfl rfl (any_of HT_.out (by kernel_rfl)) (fun _ _ _ h => h) (Or.inl ⟨by rfl, ?_⟩) ?_ ?_
        rotate_left
        ·intro w'
         go_simp
         with_reducible rfl
        rotate_left
        ·simp only [Act.put, PFA.s1, PFA.s2, PFA.s3, i64_w, i32_w]
         rfl
        refine take_ (i := 11) (N := some 65) (v := ?_) (a' := ?_) #[true, true, true, true, true, true, true, true, true, true, true, true, true, false, false, false, true, true, false, false, false, false] rfl rfl (take_ofW HT_.out HW_.out (by kernel_rfl)) (fun _ _ _ h => h) (Or.inl ⟨by rfl, ?_⟩) hHeld ?_ ?_
        rotate_left
        ·rintro w' ⟨s0, s1, s2, s3, s4, s5, s6⟩
         go_simp
         with_reducible rfl
        rotate_left
        ·simp only [Act.put, PFA.s1, PFA.s2, PFA.s3, i64_w, i32_w]
         rfl
        refine pure_ (i := 13) (N := some 67) (v := ?_) (a' := ?_) #[true, true, true, true, true, true, true, true, true, true, true, true, true, true, false, false, true, true, false, false, false, false] rfl rfl (any_of HT_.out (by kernel_rfl)) (fun _ _ _ h => h) (Or.inl ⟨by rfl, ?_⟩) ?_ ?_
        rotate_left
        ·intro w'
         go_simp
         with_reducible rfl
        rotate_left
        ·simp only [Act.put, PFA.s1, PFA.s2, PFA.s3, i64_w, i32_w]
         rfl
        refine pure_ (i := 14) (N := some 68) (v := ?_) (a' := ?_) #[true, true, true, true, true, true, true, true, true, true, true, true, true, true, true, false, true, true, false, false, false, false] rfl rfl (any_of HT_.out (by kernel_rfl)) (fun _ _ _ h => h) (Or.inl ⟨by rfl, ?_⟩) ?_ ?_
        rotate_left
        ·intro w'
         go_simp
         with_reducible rfl
        rotate_left
        ·simp only [Act.put, PFA.s1, PFA.s2, PFA.s3, i64_w, i32_w]
         rfl
        refine take_ (i := 15) (N := some 69) (v := ?_) (a' := ?_) #[true, true, true, true, true, true, true, true, true, true, true, true, true, true, true, true, true, true, false, false, false, false] rfl rfl (take_ofW HT_.out HW_.out (by kernel_rfl)) (fun _ _ _ h => h) (Or.inl ⟨by rfl, ?_⟩) hHeld ?_ ?_
        rotate_left
        ·rintro w' ⟨s0, s1, s2, s3, s4, s5, s6⟩
         go_simp
         with_reducible rfl
        rotate_left
        ·simp only [Act.put, PFA.s1, PFA.s2, PFA.s3, i64_w, i32_w]
         rfl
        refine one_ (i := 18) (N := some 72) #[true, true, true, true, true, true, true, true, true, true, true, true, true, true, true, true, true, true, true, false, false, false] rfl rfl (one_of HT_.out (by kernel_rfl)) (by decide) (fun K hK => ?_)
        refine goes_ Try.func37 (by kernel_rfl) rfl #[.slice A2 y.f1.length c2, .slice Ae l0_1.length ce, .slice (some ⟨w1.heap.size, 0, none⟩) l0_1.length l0_1.length] (by rfl) rfl rfl (by (try simp only [List.map_toArray, List.map_cons, List.map_nil]); first | done | rfl) ?_
        refine (HCALL.out _ rfl).mono ?_
        rintro e1 w2 ⟨rfl, hb1⟩
        have HB1 := Aside0.mk hb1
        clear hb1
        refine ⟨_, rfl, ?_⟩
        refine hK.out _ _ ⟨pw_cell_below HB1.out (D0.out), pw_cell_below HB1.out (D1.out), pw_cell_below HB1.out (D2.out), pw_cell_below HB1.out (D3.out), pw_cell_below HB1.out ((blk_cell (blk_drew GB.out) 2).trans rfl), pw_cell_below HB1.out (pw_cell_below HB.out.drew Q1.out), pw_cell_below HB1.out (pw_cell_below HB.out.drew P1.out)⟩ (fun hHeld => ?_)
        clear hK K
        refine norm_ (a' := ?_) ?_ ?_
        rotate_left
        ·show Act.put _ (some 72) _ = _
         simp only [Act.put, PFA.s1, PFA.s2, PFA.s3, i64_w, i32_w]
         rfl
        refine one_ (i := 19) (N := some 73) #[true, true, true, true, true, true, true, true, true, true, true, true, true, true, true, true, true, true, true, true, false, false] rfl rfl (one_of HT_.out (by kernel_rfl)) (by decide) (fun K hK => ?_)
        refine goes_ Try.func26 (by kernel_rfl) rfl #[.int .i64 0, .agg #[.int .u64 o.f0, .int .u64 o.f1, .int .u64 o.f2, .int .u64 o.f3], .agg #[.int .u64 g.f0, .int .u64 g.f1, .int .u64 g.f2, .int .u64 g.f3]] (by rfl) rfl rfl (by (try simp only [List.map_toArray, List.map_cons, List.map_nil]); first | done | rfl) ?_
        refine (fe_mix o g _).mono ?_
        rintro e2 w3 ⟨rfl, hb2⟩
        have HB2 := Aside0.mk hb2
        clear hb2
        refine ⟨_, rfl, ?_⟩
        refine hK.out _ _ ⟨pw_cell_below HB2.out (pw_cell_below HB1.out (D0.out)), pw_cell_below HB2.out (pw_cell_below HB1.out (D1.out)), pw_cell_below HB2.out (pw_cell_below HB1.out (D2.out)), pw_cell_below HB2.out (pw_cell_below HB1.out (D3.out)), pw_cell_below HB2.out (pw_cell_below HB1.out ((blk_cell (blk_drew GB.out) 2).trans rfl)), pw_cell_below HB2.out (pw_cell_below HB1.out (pw_cell_below HB.out.drew Q1.out)), pw_cell_below HB2.out (pw_cell_below HB1.out (pw_cell_below HB.out.drew P1.out))⟩ (fun hHeld => ?_)
        clear hK K
        refine norm_ (a' := ?_) ?_ ?_
        rotate_left
        ·show Act.put _ (some 73) _ = _
         simp only [Act.put, PFA.s1, PFA.s2, PFA.s3, i64_w, i32_w]
         rfl
        refine pure_ (i := 20) (N := some 74) (v := ?_) (a' := ?_) #[true, true, true, true, true, true, true, true, true, true, true, true, true, true, true, true, true, true, true, true, true, false] rfl rfl (any_of HT_.out (by kernel_rfl)) (fun _ _ _ h => h) (Or.inl ⟨by rfl, ?_⟩) ?_ ?_
        rotate_left
        ·intro w'
         go_simp
         with_reducible rfl
        rotate_left
        ·simp only [Act.put, PFA.s1, PFA.s2, PFA.s3, i64_w, i32_w]
         rfl
        refine last_ (i := 21) (N := none) #[true, true, true, true, true, true, true, true, true, true, true, true, true, true, true, true, true, true, true, true, true, true] rfl rfl (one_of HT_.out (by kernel_rfl)) (by decide) (fun K hK => ?_)
        have M := Aside0.mk (blk_below (blk_below (blk_drew HD.out) HB1.out) HB2.out)
        have m0 : w3.cell? ⟨w1.heap.size, x.f0.toNat * 4, none⟩ = some (.int .u64 o.f0) := pw_cell_below HB2.out (pw_cell_below HB1.out D0.out)
        have m1 : w3.cell? ⟨w1.heap.size, x.f0.toNat * 4 + 1, none⟩ = some (.int .u64 o.f1) := pw_cell_below HB2.out (pw_cell_below HB1.out D1.out)
        have m2 : w3.cell? ⟨w1.heap.size, x.f0.toNat * 4 + 2, none⟩ = some (.int .u64 o.f2) := pw_cell_below HB2.out (pw_cell_below HB1.out D2.out)
        have m3 : w3.cell? ⟨w1.heap.size, x.f0.toNat * 4 + 3, none⟩ = some (.int .u64 o.f3) := pw_cell_below HB2.out (pw_cell_below HB1.out D3.out)
        have v0 := blk_frozen M.out (x.f0.toNat * 4)
        have v1 := blk_frozen M.out (x.f0.toNat * 4 + 1)
        have v2 := blk_frozen M.out (x.f0.toNat * 4 + 2)
        have v3 := blk_frozen M.out (x.f0.toNat * 4 + 3)
        refine skip_ (w1 := ?_) (by rfl) rfl ?_ ?_
        rotate_left
        ·go_simp
         rfl
        refine hK.out _ _ ?_
        clear hK K
        refine done_ (done_of HT_.out (by kernel_rfl)) ?_
        have C3 : Aside0 (Below wr.heap.size wr w3) := ⟨(((Below.refl _ wr).drew).trans (HB1.out.mono (Nat.le_refl _))).trans (HB2.out.mono HB1.out.size)⟩
        clear m0 m1 m2 m3 v0 v1 v2 v3
        have HG3 : Aside0 (stepF E x.f0 y.f1 s3 = s3.set x.f0.toNat (orS o g)) := ⟨by rw [HST.out, HGG.out]⟩
        go_wp2
        go_roundw
        case rel =>
         refine ⟨j + 1, by omega, by go_num, ?_, ?_, ⟨by rw [HY.out]; exact HI2.out⟩, ?_⟩
         ·exact ⟨((((HK.out.trans (KeepBut.of_below C3.out w1.heap.size none) (.inl rfl)).set_ _ _).set_ _ _).set_ _ _).set_ _ _⟩
         ·exact ⟨by rw [HY.out, HG3.out, ← encS_set _ _ _ HDN.out]; exact blk_put (blk_put (blk_put (blk_put M.out _ _ rfl) _ _ rfl) _ _ rfl) _ _ rfl⟩
         ·exact ⟨((((HB.out.trans (C3.out.mono HB.out.size)).setCell (p := ⟨w1.heap.size, _, none⟩) (Nat.le_of_lt lt1) _).setCell (p := ⟨w1.heap.size, _, none⟩) (Nat.le_of_lt lt1) _).setCell (p := ⟨w1.heap.size, _, none⟩) (Nat.le_of_lt lt1) _).setCell (p := ⟨w1.heap.size, _, none⟩) (Nat.le_of_lt lt1) _⟩
        case measure => simp [intOf]; omega
       ·obtain rfl : j = x.f1.length := by omega
        rw [List.take_length] at HD HI
        go_wp2
        go_roundw
        case rel => exact ⟨i + 1, by omega, by go_num, HK, ⟨by rw [HX.out]; exact HD.out⟩, ⟨by rw [HX.out]; exact HI.out⟩, HB⟩
        case measure => simp [intOf]; omega
     ·obtain rfl : i = l0_2.length := by omega
      rw [List.take_length] at HD HI
      go_wp2
      go_roundw
      case rel => exact ⟨m + 1, by omega, by go_num, HK, ⟨by rw [iterT, HS.out]; exact HD.out⟩, HB⟩
      case measure => simp [intOf]; omega
   ·obtain rfl : m = l0_1.length + 1 := by omega
    have hl := (HIN.out (l0_1.length + 1)).1
    go_wp2
    go_ret2
    refine ⟨_, rfl, ?_, HB.out⟩
    rw [HFL.out]
    have hr := rowV_R encS_len (d := k63) (fun w b ok x => k63_mkM w b ok x) rfl (e := 63) (base := w.heap.size) (ok := fun _ => True) HD.out (by rw [hl]; unfold maxLen; omega) (by omega) trivial
    rw [hl] at hr
    exact hr


end Go.Proofs.Ytpilkfodlhhjpaa.PFA
