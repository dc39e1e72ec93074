-- written by a program of the session's (wip/myprint.py) out of the translation
import Derived.Test.YtpilkfodlhhjpaaPFAx0
import Derived.Test.YtpilkfodlhhjpaaPFAx6
import Derived.Test.YtpilkfodlhhjpaaPFAx10
import Derived.Test.YtpilkfodlhhjpaaPFAx11
import Derived.Test.YtpilkfodlhhjpaaPFAx14
import Derived.Test.YtpilkfodlhhjpaaPFAx15
namespace Go.Proofs.Ytpilkfodlhhjpaa.PFA
open Go.RowKit Go.Proofs.YtpilkfodlhhjpaaW.PrintWords Go.Proofs.YtpilkfodlhhjpaaW.PrintLast Go.Proofs.YtpilkfodlhhjpaaW.PrintMore
attribute [local go_sem] max2_int min2_int max_two min_two max_three min_three max_four min_four   -- for this text's walks alone
set_option linter.unusedVariables false
set_option linter.unusedSimpArgs false

/-! ### templeref6_Follow: function 15 -/
def templeref6_Follow.f (k : Nat) (a0_0 : Int) (l0_1 : List ByteArray) (l0_2 : List (S55)) : Option (List S66 × Int) := (templeref6_Empty.f k a0_0 l0_1 l0_2).bind fun b => if b.2 = 0 then ((templeref6_First.f k a0_0 l0_1 l0_2).bind fun _ => (if mayB a0_0 l0_1 l0_2 = true then some (followL a0_0 l0_1 l0_2, 0) else none)) else some ([], b.2)
theorem templeref6_Follow.mono : ∀ a0 a1 a2 k, LeO (templeref6_Follow.f k a0 a1 a2) (templeref6_Follow.f (k + 1) a0 a1 a2) := fun a0 a1 a2 k => LeO.bind (templeref6_Empty.mono _ _ _ _) (fun _ => LeO.ite (LeO.bind (templeref6_First.mono _ _ _ _) (fun _ => LeO.refl _)) (LeO.refl _))
theorem rFirst_cases {k : Nat} {a : Int} {ns : List ByteArray} {rs : List S55} {b : List S63 × Int} (hm : mayB a ns rs = true) (he : templeref6_Empty.f k a ns rs = some (emptyL ns rs, 0)) (h : templeref6_First.f k a ns rs = some b) : b = (firstL ns rs, 0) := by
 unfold templeref6_First.f at h
 rw [he, Option.bind_some, if_pos rfl, if_pos hm] at h
 exact (Option.some.inj h).symm
def templeref6_Follow.T23 : Bool × List (List Nat × List Nat) := (true, [([], []), ([0], [0]), ([], []), ([], []), ([3], [3]), ([2, 4], [2, 4]), ([], []), ([], []), ([5, 6, 7], [5, 6, 7]), ([1, 8, 8], [1, 8]), ([0, 1, 2, 3, 4, 5, 6, 7, 8, 9], []), ([10, 9, 9, 0, 1, 2, 3, 4, 5, 6, 7, 8, 9], [9, 10])])
def templeref6_Follow.B23 : List Nat := [0, 1, 0, 0, 8, 28, 0, 0, 252, 511, 1023, 2047]
theorem templeref6_Follow.tab23 : rtab .any (opsOf Try.f15 23) = templeref6_Follow.T23 := by kernel_rfl
theorem templeref6_Follow.bits23 : waitsOk templeref6_Follow.T23.2 templeref6_Follow.B23 = true := by kernel_rfl
def templeref6_Follow.T25 : Bool × List (List Nat × List Nat) := (true, [([], []), ([0], [0]), ([], []), ([], []), ([2, 3], [2, 3]), ([4], [4]), ([5], [5]), ([1, 6], [1, 6]), ([0, 1, 2, 3, 4, 5, 6, 7], []), ([8, 7, 7, 0, 1, 2, 3, 4, 5, 6, 7], [7, 8])])
def templeref6_Follow.B25 : List Nat := [0, 1, 0, 0, 12, 28, 60, 127, 255, 511]
theorem templeref6_Follow.tab25 : rtab .any (opsOf Try.f15 25) = templeref6_Follow.T25 := by kernel_rfl
theorem templeref6_Follow.bits25 : waitsOk templeref6_Follow.T25.2 templeref6_Follow.B25 = true := by kernel_rfl
def templeref6_Follow.T27 : Bool × List (List Nat × List Nat) := (true, [([], []), ([], []), ([], []), ([1, 2], [1, 2]), ([3], [3]), ([4], [4]), ([], []), ([0, 5, 0, 1, 2, 3, 4, 5, 6], [0, 5]), ([7, 6, 0, 1, 2, 3, 4, 5, 6], [6, 7])])
def templeref6_Follow.B27 : List Nat := [0, 0, 0, 6, 14, 30, 0, 127, 255]
theorem templeref6_Follow.tab27 : rtab .any (opsOf Try.f15 27) = templeref6_Follow.T27 := by kernel_rfl
theorem templeref6_Follow.bits27 : waitsOk templeref6_Follow.T27.2 templeref6_Follow.B27 = true := by kernel_rfl
set_option maxHeartbeats 8000000 in
set_option maxRecDepth 100000 in
theorem templeref6_Follow.calls (k : Nat) (a0_0 : Int) (A0_1 : Option Addr) (c0_1 : Nat) (l0_1 : List ByteArray) (A0_2 : Option Addr) (c0_2 : Nat) (l0_2 : List (S55)) (r1 : List (S66)) (r2 : Int) (w : World) (hr0_1 : Kd.C Kd.string w A0_1 l0_1.length l0_1) (hc0_1 : l0_1.length ≤ c0_1) (hr0_2 : Kd.C k55 w A0_2 l0_2.length l0_2) (hc0_2 : l0_2.length ≤ c0_2) (h : templeref6_Follow.f k a0_0 l0_1 l0_2 = some (r1, r2)) :
  Calls Try.prog 15 #[.agg #[.int .i64 a0_0, .slice A0_1 l0_1.length c0_1, .slice A0_2 l0_2.length c0_2]] w fun e w' => ∃ v0_ : Value, e = .returned (.tuple #[v0_, .int .i64 r2]) ∧ Kd.R k66 66 w' w.heap.size (fun _ => True) v0_ r1 ∧ Below w.heap.size w w' := by
 unfold templeref6_Follow.f at h
 obtain ⟨b, hem, h⟩ := Option.bind_eq_some_iff.mp h
 have H1 := Aside0.mk hr0_1
 have H2 := Aside0.mk hr0_2
 clear hr0_1 hr0_2
 rcases rEmpty_cases hem with rfl | ⟨hm, rfl⟩
 ·have HEM := Aside0.mk hem
  clear hem
  rw [if_neg (by decide)] at h
  obtain ⟨rfl, rfl⟩ := Prod.mk.inj (Option.some.inj h)
  clear h
  go_enter Try.func15, Try.ntmps15
  go_wp2_with (go_at_call 11; refine (templeref6_Empty.calls _ _ _ _ _ _ _ _ _ _ _ (Kd.C_alloc H1.out _) hc0_1 (Kd.C_alloc H2.out _) hc0_2 HEM.out).mono ?_; rintro e w1 ⟨v, rfl, hv, hb1⟩; obtain ⟨Av, cv, rfl⟩ := Kd.R_slice hv; have HB1 := Aside0.mk hb1; clear hb1 hv)
  go_ret2
  exact ⟨_, rfl, Kd.R_nil _ _ _ _ _, ((Below.refl _ _).alloc (Nat.le_refl _) _).trans (HB1.out.mono (by simp))⟩
 ·rw [if_pos rfl] at h
  obtain ⟨b, hfi, h⟩ := Option.bind_eq_some_iff.mp h
  obtain rfl := rFirst_cases hm hem hfi
  have HEM := Aside0.mk hem
  have HFM := Aside0.mk hfi
  clear hem hfi
  rw [if_pos hm] at h
  obtain ⟨rfl, rfl⟩ := Prod.mk.inj (Option.some.inj h)
  have F := may_facts hm
  have HF := Aside0.mk F
  obtain ⟨n1, n2, s0, s1, _, r2, _, _, _, _, _⟩ := F
  clear h hm
  have HEL := Aside0.mk (emptyL_len l0_1 l0_2)
  have HFI := Aside0.mk (firstL_in l0_1 l0_2)
  have HFL : Aside0 (followL a0_0 l0_1 l0_2 = iterT (passT (posW (emptyL l0_1 l0_2) (firstL l0_1 l0_2)) l0_2) (l0_1.length + 1) (startW l0_1.length a0_0)) := ⟨rfl⟩
  obtain ⟨E, HEQ⟩ : ∃ E, Aside0 (emptyL l0_1 l0_2 = E) := ⟨_, ⟨rfl⟩⟩
  obtain ⟨F, HFQ⟩ : ∃ F, Aside0 (firstL l0_1 l0_2 = F) := ⟨_, ⟨rfl⟩⟩
  rw [HEQ.out] at HEL HEM HFL
  rw [HFQ.out] at HFI HFM HFL
  have hmk := fe_make38 l0_1.length n2
  have hin : ∀ m, InW l0_1.length (iterT (passT (posW E F) l0_2) m (startW l0_1.length a0_0)) := iter_inv _ (InW l0_1.length) (fun s hs => (passT_chan (posW E F) (fun _ _ t => t) (fun _ => []) (InW l0_1.length) l0_2 (fun r _ c _ s h => posW_in HFI.out.2 _ _ h) (fun r _ c _ s h => rfl) s hs).2) _ (startW_in _ _)
  have HIN := Aside0.mk hin
  clear hin
  have hrep : a0_0.toNat < (List.replicate l0_1.length z66).length := by rw [List.length_replicate]; omega
  have HREP := Aside0.mk hrep
  have HROW := Aside0.mk (startW_row l0_1.length a0_0 (by rwa [List.length_replicate] at hrep))
  clear hrep
  go_enter Try.func15, Try.ntmps15
  go_wp2_with (first
   | (go_at_call 11; refine (templeref6_Empty.calls _ _ _ _ _ _ _ _ _ _ _ (Kd.C_alloc H1.out _) hc0_1 (Kd.C_alloc H2.out _) hc0_2 HEM.out).mono ?_; rintro e w1 ⟨v, rfl, hv, hb1⟩; obtain ⟨Ae, ce, rfl⟩ := Kd.R_slice hv; rw [HEL.out] at hv; have HV := Aside0.mk hv; have HB1 := Aside0.mk hb1; have HG : Aside0 (w1.heap[w.heap.size]? = some (.cells #[.int .i64 a0_0, .slice A0_1 l0_1.length c0_1, .slice A0_2 l0_2.length c0_2] 25 (0, 0))) := ⟨blk_below (blk_new _ _) hb1⟩; have k0 : w1.cell? ⟨w.heap.size, 0, none⟩ = some (.int .i64 a0_0) := (blk_cell HG.out 0).trans rfl; have k1 : w1.cell? ⟨w.heap.size, 1, none⟩ = some (.slice A0_1 l0_1.length c0_1) := (blk_cell HG.out 1).trans rfl; have k2 : w1.cell? ⟨w.heap.size, 2, none⟩ = some (.slice A0_2 l0_2.length c0_2) := (blk_cell HG.out 2).trans rfl; have hz := hb1.size; simp at hz; have lt1 : w.heap.size < w1.heap.size := hz; have HW1 : Aside0 (Below w.heap.size w w1) := ⟨((Below.refl _ _).alloc (Nat.le_refl _) _).trans (hb1.mono (by simp))⟩; rw [HEL.out]; clear hb1 hv))
  refine (templeref6_First.calls _ _ _ _ _ _ _ _ _ _ _ (Kd.C_below H1.out HW1.out) hc0_1 (Kd.C_below H2.out HW1.out) hc0_2 HFM.out).mono ?_
  rintro e w2 ⟨v, rfl, hv, hb2⟩
  obtain ⟨Af, cf, rfl⟩ := Kd.R_slice hv
  rw [HFI.out.1] at hv
  have HV2 := Aside0.mk hv
  have HV1 := Aside0.mk (Kd.R_below HV.out hb2)
  have HG2 := Aside0.mk (blk_below HG.out hb2)
  have j0 : w2.cell? ⟨w.heap.size, 0, none⟩ = some (.int .i64 a0_0) := (blk_cell HG2.out 0).trans rfl
  have j1 : w2.cell? ⟨w.heap.size, 1, none⟩ = some (.slice A0_1 l0_1.length c0_1) := (blk_cell HG2.out 1).trans rfl
  have hz2 := hb2.size
  have lt2 : w.heap.size < w2.heap.size := Nat.lt_of_lt_of_le lt1 hz2
  have HW2 : Aside0 (Below w.heap.size w w2) := ⟨HW1.out.trans (hb2.mono (Nat.le_of_lt lt1))⟩
  have DD : Aside0 ((w2.alloc (.cells (rowV encW (List.replicate l0_1.length z66)) 66 (0, 0))).heap[w2.heap.size]? = some (.cells (rowV encW (List.replicate l0_1.length z66)) 66 (0, 0))) := ⟨blk_new _ _⟩
  have kc := (rowW_cells DD.out a0_0.toNat HREP.out).2.2.2.2
  rw [getD_rep] at kc
  have kg : (w2.alloc (.cells (rowV encW (List.replicate l0_1.length z66)) 66 (0, 0))).cell? ⟨w.heap.size, 0, none⟩ = some (.int .i64 a0_0) := (blk_cell (blk_alloc HG2.out _) 0).trans rfl
  have kf := blk_frozen DD.out (a0_0.toNat * 5 + 4)
  rw [HFI.out.1]
  clear hb2 hv k0 k1 k2
  go_wp2
  rw [HROW.out]
  have hne : w.heap.size ≠ w2.heap.size := Nat.ne_of_lt lt2
  have HW0 : Aside0 (Below w.heap.size w (w2.alloc (.cells (rowV encW (startW l0_1.length a0_0)) 66 (0, 0)))) := ⟨HW2.out.alloc (Nat.le_of_lt lt2) _⟩
  have HG0 := Aside0.mk (blk_alloc HG2.out (.cells (rowV encW (startW l0_1.length a0_0)) 66 (0, 0)))
  have HD0 := Aside0.mk (blk_new w2 (.cells (rowV encW (startW l0_1.length a0_0)) 66 (0, 0)))
  have HVE : Aside0 (Kd.R Kd.bool 4 (w2.alloc (.cells (rowV encW (startW l0_1.length a0_0)) 66 (0, 0))) w.heap.size (fun k => k ≠ w2.heap.size) (.slice Ae l0_1.length ce) E) := ⟨Kd.R_alloc (Kd.R_mono (Kd.R_elderB (Kd.R_lower HV1.out (by simp)) w2.heap.size (Nat.le_refl _)) (fun k hk => hk.2)) _⟩
  have HVF : Aside0 (Kd.R k63 63 (w2.alloc (.cells (rowV encW (startW l0_1.length a0_0)) 66 (0, 0))) w.heap.size (fun k => k ≠ w2.heap.size) (.slice Af l0_1.length cf) F) := ⟨Kd.R_alloc (Kd.R_mono (Kd.R_elderB (Kd.R_lower HV2.out (Nat.le_of_lt lt1)) w2.heap.size (Nat.le_refl _)) (fun k hk => hk.2)) _⟩
  clear HB1 HG HV HV1 HV2 HG2 DD kc kg kf j0 j1 HW2 HW1
  obtain ⟨W0, hW0⟩ : ∃ W0, W0 = (w2.alloc (.cells (rowV encW (startW l0_1.length a0_0)) 66 (0, 0))) := ⟨_, rfl⟩
  rw [← hW0] at HW0 HG0 HD0 HVE HVF
  have hce : E.length ≤ ce := by
   obtain ⟨A', c', he, hle, _⟩ := Kd.R_reads HVE.out
   rw [HEL.out] at he
   injection he with _ _ h3
   rw [h3]
   exact hle
  have hcf : F.length ≤ cf := by
   obtain ⟨A', c', he, hle, _⟩ := Kd.R_reads HVF.out
   rw [HFI.out.1] at he
   injection he with _ _ h3
   rw [h3]
   exact hle
  have HCE := Aside0.mk hce
  have HCF := Aside0.mk hcf
  clear hce hcf
  have RDE : Aside0 (∀ W, KeepBut W0 W w2.heap.size none → Kd.C Kd.bool W Ae E.length E) := ⟨by
   intro W hK
   obtain ⟨A', c', hee, _, hC⟩ := Kd.R_reads (Kd.R_keep HVE.out hK (fun k hk => hk))
   rw [HEL.out] at hee
   injection hee with h1 h2 h3
   subst h1
   exact hC⟩
  have RDF : Aside0 (∀ W, KeepBut W0 W w2.heap.size none → Kd.C k63 W Af F.length F) := ⟨by
   intro W hK
   obtain ⟨A', c', hee, _, hC⟩ := Kd.R_reads (Kd.R_keep HVF.out hK (fun k hk => hk))
   rw [HFI.out.1] at hee
   injection hee with h1 h2 h3
   subst h1
   exact hC⟩
  go_loopw [9] (fun v wr => ∃ m : Nat, m ≤ l0_1.length + 1 ∧ v = .int .i64 m ∧ Aside0 (KeepBut W0 wr w2.heap.size none) ∧ Aside0 (wr.heap[w2.heap.size]? = some (.cells (rowV encW (iterT (passT (posW E F) l0_2) m (startW l0_1.length a0_0))) 66 (0, 0))) ∧ Aside0 (Below w.heap.size w wr)) (fun v _ => l0_1.length + 1 - (intOf v).toNat)
  case atStart => exact ⟨0, by omega, rfl, ⟨by rw [← hW0]; exact KeepBut.refl _ _ _⟩, ⟨by rw [← hW0]; exact HD0.out⟩, ⟨by rw [← hW0]; exact HW0.out⟩⟩
  clear hW0
  case round =>
   obtain ⟨m, hm, rfl, HK, HD, HB⟩ := hrel
   have g1 : wr.cell? ⟨w.heap.size, 1, none⟩ = some (.slice A0_1 l0_1.length c0_1) := (blk_cell (HK.out.blk HG0.out hne (by simp)) 1).trans rfl
   by_cases hmn : m ≤ l0_1.length
   ·obtain ⟨wo, rfl⟩ : ∃ wo : World, wo = wr := ⟨_, rfl⟩
    have hs0 := HIN.out m
    obtain ⟨s, HS⟩ : ∃ s, Aside0 (iterT (passT (posW E F) l0_2) m (startW l0_1.length a0_0) = s) := ⟨_, ⟨rfl⟩⟩
    rw [HS.out] at hs0 HD
    have HS0 := Aside0.mk hs0
    clear hs0
    go_wp2
    go_loopw [10] (fun v wi => ∃ i : Nat, i ≤ l0_2.length ∧ v = .int .i64 i ∧ Aside0 (KeepBut W0 wi w2.heap.size none) ∧ Aside0 (wi.heap[w2.heap.size]? = some (.cells (rowV encW (passT (posW E F) (l0_2.take i) s)) 66 (0, 0))) ∧ Aside0 (InW l0_1.length (passT (posW E F) (l0_2.take i) s)) ∧ Aside0 (Below w.heap.size w wi)) (fun v _ => l0_2.length - (intOf v).toNat)
    case atStart => exact ⟨0, by omega, rfl, HK, HD, HS0, HB⟩
    case round =>
     clear g1 HK HD HB
     obtain ⟨i, hi, rfl, HK, HD, HI, HB⟩ := hrel
     have g2 : wr.cell? ⟨w.heap.size, 2, none⟩ = some (.slice A0_2 l0_2.length c0_2) := (blk_cell (HK.out.blk HG0.out hne (by simp)) 2).trans rfl
     by_cases hlt : i < l0_2.length
     ·obtain ⟨ad, A1, c1, eA, q0, q1, hc1, hC1⟩ := at_T55 H2.out (i : Int) (by omega) (by omega)
      rw [fe_rdrule _ _ hlt] at q0 q1 hc1 hC1
      rw [Int.toNat_natCast] at q0 q1
      have Q1 := Aside0.mk q1
      replace q0 := pw_cell_below HB.out q0
      clear q1
      subst eA
      have HX := Aside0.mk (fe_passT_take (posW E F) l0_2 i hlt s)
      have hmem := List.getElem_mem hlt
      generalize l0_2[i] = x at *
      have HC1 := Aside0.mk hC1
      have hxl := HF.out.cj x hmem
      have hx0 := HF.out.hd0 x hmem
      have hx1 := HF.out.hd1 x hmem
      have HME := Aside0.mk hmem
      clear hC1 hmem
      obtain ⟨s2, HS2⟩ : ∃ s2, Aside0 (passT (posW E F) (l0_2.take i) s = s2) := ⟨_, ⟨rfl⟩⟩
      rw [HS2.out] at HD HX HI
      obtain ⟨wp, rfl⟩ : ∃ wp : World, wp = wr := ⟨_, rfl⟩
      go_wp2
      go_loopw [12] (fun v wj => ∃ j : Nat, j ≤ x.f1.length ∧ v = .int .i64 j ∧ Aside0 (KeepBut W0 wj w2.heap.size none) ∧ Aside0 (wj.heap[w2.heap.size]? = some (.cells (rowV encW (passC (posW E F) x.f0 (x.f1.take j) s2)) 66 (0, 0))) ∧ Aside0 (InW l0_1.length (passC (posW E F) x.f0 (x.f1.take j) s2)) ∧ Aside0 (Below w.heap.size w wj)) (fun v _ => x.f1.length - (intOf v).toNat)
      case atStart => exact ⟨0, by omega, rfl, HK, HD, HI, HB⟩
      case round =>
       clear g2 HK HD HB HI q0
       obtain ⟨j, hj, rfl, HK, HD, HI, HB⟩ := hrel
       have g2 : wr.cell? ⟨w.heap.size, 2, none⟩ = some (.slice (some ad) l0_2.length c0_2) := (blk_cell (HK.out.blk HG0.out hne (by simp)) 2).trans rfl
       have q1 := pw_cell_below HB.out Q1.out
       by_cases hjl : j < x.f1.length
       ·obtain ⟨ad2, A2, c2, eA2, p0, p1, hc2, hC2⟩ := at_T58 HC1.out (j : Int) (by omega) (by omega)
        rw [fe_rdconj _ _ hjl] at p0 p1 hc2 hC2
        rw [Int.toNat_natCast] at p0 p1
        replace p1 := pw_cell_below HB.out p1
        clear p0
        subst eA2
        have HY := Aside0.mk (fe_passC_take (posW E F) x.f0 x.f1 j hjl s2)
        have hmem := List.getElem_mem hjl
        generalize x.f1[j] = yy at *
        have HSY := Aside0.mk (HF.out.sy x HME.out yy hmem)
        have hql := HF.out.sq x HME.out yy hmem
        have HQ0 := Aside0.mk hC2
        obtain ⟨q, HQE⟩ : ∃ q, Aside0 (yy.f1 = q) := ⟨_, ⟨rfl⟩⟩
        rw [HQE.out] at p1 hc2 HY HSY hql HQ0
        clear hC2 hmem HQE
        obtain ⟨s3, HS3⟩ : ∃ s3, Aside0 (passC (posW E F) x.f0 (x.f1.take j) s2 = s3) := ⟨_, ⟨rfl⟩⟩
        rw [HS3.out] at HD HY HI
        obtain ⟨r, HR⟩ : ∃ r, Aside0 (posW E F x.f0 q s3 = r) := ⟨_, ⟨rfl⟩⟩
        rw [HR.out] at HY
        obtain ⟨wq, rfl⟩ : ∃ wq : World, wq = wr := ⟨_, rfl⟩
        go_wp2
        go_loopw [14] (fun v wk => ∃ (k : Nat) (cur : List S66), k ≤ q.length ∧ v = .int .i64 k ∧ Aside0 (posW E F x.f0 (q.drop k) cur = r) ∧ Aside0 (KeepBut W0 wk w2.heap.size none) ∧ Aside0 (wk.heap[w2.heap.size]? = some (.cells (rowV encW cur) 66 (0, 0))) ∧ Aside0 (InW l0_1.length cur) ∧ Aside0 (Below w.heap.size w wk)) (fun v _ => q.length - (intOf v).toNat)
        case atStart => exact ⟨0, s3, by omega, rfl, HR, HK, HD, HI, HB⟩
        case round =>
         clear g2 q1 p1 HK HD HB HI
         obtain ⟨k, cur, hk, rfl, HA, HK, HD, HC, HB⟩ := hrel
         by_cases hkl : k < q.length
         ·obtain ⟨aq, eAq, s0', s1', s2'⟩ := at_T68 HQ0.out (k : Int) (by omega) (by omega)
          rw [fe_rdsym _ _ hkl] at s0' s1' s2'
          rw [Int.toNat_natCast] at s0' s1' s2'
          have SZ := Aside0.mk s0'
          replace s0' := pw_cell_below HB.out s0'
          clear s1' s2'
          subst eAq
          have hz := symF_of (HSY.out _ (List.getElem_mem hkl))
          have hA2 := HA.out
          rw [List.drop_eq_getElem_cons hkl] at hA2
          unfold posW at hA2
          have HA2 := Aside0.mk hA2
          clear hA2
          have hw1 : IntKind.i64.wrap ((k : Int) + 1) = (k : Int) + 1 := IntWalk.i64_in _ (by omega)
          generalize q[k] = z at *
          rcases hz with hz | hz
          ·have hneg : z.f0 < 0 := by omega
           have HA3 := HA2.out
           rw [if_pos hneg] at HA3
           have HA4 := Aside0.mk HA3
           clear HA2 HA3 hw1
           go_wp2
           go_roundw
           case rel => exact ⟨k + 1, cur, by omega, by go_num, HA4, HK, HD, HC, HB⟩
           case measure => simp [intOf]; omega
          ·obtain ⟨hz0, hz1⟩ := hz
           have hneg : ¬ z.f0 < 0 := by omega
           have HA3 := HA2.out
           rw [if_neg hneg] at HA3
           have HA4 := Aside0.mk HA3
           clear HA2 HA3
           have hjl2 : z.f0.toNat < cur.length := by rw [HC.out.1]; omega
           have hdl : x.f0.toNat < cur.length := by rw [HC.out.1]; omega
           obtain ⟨y0, y1, y2, y3, y4⟩ := rowW_cells HD.out z.f0.toNat hjl2
           obtain ⟨h0, h1, h2, h3, h4⟩ := rowW_cells HD.out x.f0.toNat hdl
           have HJL := Aside0.mk hjl2
           have HONE : Aside0 (oneW E F x.f0 z (q.drop (k + 1)) cur = cur.set z.f0.toNat (newF E F (cur.getD x.f0.toNat z66) (q.drop (k + 1)) (cur.getD z.f0.toNat z66))) := ⟨by unfold oneW; rw [if_neg hneg]⟩
           have HINN := Aside0.mk (oneW_in (e := E) (h := x.f0) (x := z) (q := q.drop (k + 1)) HFI.out.2 HC.out)
           clear hjl2 hdl
           obtain ⟨y, HYQ⟩ : ∃ y, Aside0 (cur.getD z.f0.toNat z66 = y) := ⟨_, ⟨rfl⟩⟩
           obtain ⟨hh, HZ⟩ : ∃ hh, Aside0 (cur.getD x.f0.toNat z66 = hh) := ⟨_, ⟨rfl⟩⟩
           rw [HYQ.out] at y0 y1 y2 y3 y4 HA4 HONE
           rw [HZ.out] at h0 h1 h2 h3 h4 HA4 HONE
           obtain ⟨A3, HA5⟩ : ∃ A3, Aside0 ((if c2 = k + 1 then (some aq) else (some aq : Option Addr).map (·.add ((k + 1) * 3))) = A3) := ⟨_, ⟨rfl⟩⟩
           have hcut : ∀ W : World, (Instr.slice 56 (.slice (some aq) q.length c2) (some (.int .i64 ((k : Int) + 1))) none none).run Try.prog W = .ok (.slice A3 (q.drop (k + 1)).length (c2 - (k + 1))) W := by
            intro W
            obtain ⟨i68, hi68, hz0, hz1, hz2⟩ := info_parts fe_info68
            have h := cut_from (P := Try.prog) 56 68 .i64 Try.underlying56 hi68 3 hz1 (some aq) q.length c2 ((k : Int) + 1) (by omega) (by omega) W
            rw [show ((k : Int) + 1).toNat = k + 1 from by omega, HA5.out] at h
            rw [List.length_drop]
            exact h
           have HQ2 : Aside0 (∀ W, Below w.heap.size w W → Kd.C k68 W A3 (q.drop (k + 1)).length (q.drop (k + 1))) := ⟨fun W hW => by rw [← HA5.out]; exact Kd.C_drop (Kd.C_below HQ0.out hW) (by omega) hc2⟩
           have HOK2 : Aside0 (∀ x ∈ q.drop (k + 1), SymF E.length x) := ⟨fun x hx => by rw [HEL.out]; exact symF_of (HSY.out x (List.mem_of_mem_drop hx))⟩
           have hl2 : (q.drop (k + 1)).length ≤ 64 := by rw [List.length_drop]; omega
           have hlc : (q.drop (k + 1)).length ≤ c2 - (k + 1) := by rw [List.length_drop]; omega
           generalize hq2 : q.drop (k + 1) = q2 at *
           have HQD := Aside0.mk hq2
           clear hq2
           have lw := blk_lt HD.out
           have hz2 : z.f0 < (l0_1.length : Int) := hz1
           have Y0 := Aside0.mk y0
           have Y1 := Aside0.mk y1
           have Y2 := Aside0.mk y2
           have Y3 := Aside0.mk y3
           have Y4 := Aside0.mk y4
           have H0_ := Aside0.mk h0
           have H1_ := Aside0.mk h1
           have H2_ := Aside0.mk h2
           have H3_ := Aside0.mk h3
           have H4_ := Aside0.mk h4
           have DB : Aside0 ((wr.alloc (.cells #[.int .u64 y.f0.f0, .int .u64 y.f0.f1, .int .u64 y.f0.f2, .int .u64 y.f0.f3, .bool y.f1] 66 (0, 0))).drew.heap[wr.heap.size]? = some (.cells #[.int .u64 y.f0.f0, .int .u64 y.f0.f1, .int .u64 y.f0.f2, .int .u64 y.f0.f3, .bool y.f1] 66 (0, 0))) := ⟨blk_drew (blk_new wr (.cells #[.int .u64 y.f0.f0, .int .u64 y.f0.f1, .int .u64 y.f0.f2, .int .u64 y.f0.f3, .bool y.f1] 66 (0, 0)))⟩
           have B0 : Aside0 (Below wr.heap.size wr (wr.alloc (.cells #[.int .u64 y.f0.f0, .int .u64 y.f0.f1, .int .u64 y.f0.f2, .int .u64 y.f0.f3, .bool y.f1] 66 (0, 0))).drew) := ⟨((Below.refl _ wr).alloc (Nat.le_refl _) _).drew⟩
           have KW : Aside0 (∀ W, Below wr.heap.size wr W → KeepBut W0 W w2.heap.size none) := ⟨fun W hW => HK.out.trans (KeepBut.of_below hW w2.heap.size none) (.inl rfl)⟩
           have BW : Aside0 (∀ W, Below wr.heap.size wr W → Below w.heap.size w W) := ⟨fun W hW => HB.out.trans (hW.mono HB.out.size)⟩
           obtain ⟨g1, HG1⟩ : ∃ g1, Aside0 (begA E F z63 q2 = g1) := ⟨_, ⟨rfl⟩⟩
           have HCALL : Aside0 (∀ W, Below wr.heap.size wr W → Calls Try.prog 37 #[.slice A3 q2.length (c2 - (k + 1)), .slice Ae l0_1.length ce, .slice Af l0_1.length cf] W fun e' w' => e' = .returned (.agg #[.int .u64 g1.f0, .int .u64 g1.f1, .int .u64 g1.f2, .int .u64 g1.f3]) ∧ Below W.heap.size W w') := ⟨by
            intro W hW
            have h := fe_rbegins q2 A3 (c2 - (k + 1)) E Ae ce F Af cf W (HQ2.out W (BW.out W hW)) hlc (RDE.out W (KW.out W hW)) HCE.out (RDF.out W (KW.out W hW)) HCF.out HOK2.out (HFI.out.1.trans HEL.out.symm) hl2
            rw [HEL.out, HFI.out.1, HG1.out] at h
            exact h⟩
           obtain ⟨rn, HN⟩ : ∃ rn, Aside0 (nothB E q2 = rn) := ⟨_, ⟨rfl⟩⟩
           have HALL : Aside0 (∀ W, Below wr.heap.size wr W → Calls Try.prog 33 #[.slice A3 q2.length (c2 - (k + 1)), .slice Ae l0_1.length ce] W fun e' w' => e' = .returned (.bool rn) ∧ W = w') := ⟨by
            intro W hW
            have h := fe_allEmpty q2 A3 (c2 - (k + 1)) E Ae ce W (HQ2.out W (BW.out W hW)) (RDE.out W (KW.out W hW)) (fun x hx => by rcases HOK2.out x hx with h | h <;> omega) hl2
            rw [HEL.out, HN.out] at h
            exact h⟩
           clear h0 h1 h2 h3 h4
           go_wp2
           clear y0 y1 y2 y3 y4 s0'
           refine start_ (n := 12) (S := fun w' => w'.cell? ⟨wr.heap.size, 0, none⟩ = some (.int .u64 y.f0.f0) ∧ w'.cell? ⟨wr.heap.size, 1, none⟩ = some (.int .u64 y.f0.f1) ∧ w'.cell? ⟨wr.heap.size, 2, none⟩ = some (.int .u64 y.f0.f2) ∧ w'.cell? ⟨wr.heap.size, 3, none⟩ = some (.int .u64 y.f0.f3)) (ds := [11]) #[false, false, false, false, false, false, false, false, false, false, false, false] (by kernel_rfl) rfl rfl ⟨(blk_cell DB.out 0).trans rfl, (blk_cell DB.out 1).trans rfl, (blk_cell DB.out 2).trans rfl, (blk_cell DB.out 3).trans rfl⟩ (fun hHeld => ?_)
           refine with_tabW templeref6_Follow.tab23 templeref6_Follow.bits23 (fun HT_ HW_ => ?_)
           refine pure_ (i := 0) (N := some 99) (v := ?_) (a' := ?_) #[true, false, false, false, false, false, false, false, false, false, false, false] rfl rfl (any_of HT_.out (by kernel_rfl)) (fun _ _ _ h => h) (Or.inl ⟨by rfl, ?_⟩) ?_ ?_
           rotate_left
           ·intro w'
            go_simp
            with_reducible rfl
           rotate_left
           ·simp only [Act.put, PFA.s1, PFA.s2, PFA.s3, i64_w, i32_w]
            rfl
           refine pure_ (i := 2) (N := some 101) (v := ?_) (a' := ?_) #[true, false, true, false, false, false, false, false, false, false, false, false] rfl rfl (any_of HT_.out (by kernel_rfl)) (fun _ _ _ h => h) (Or.inl ⟨by rfl, ?_⟩) ?_ ?_
           rotate_left
           ·intro w'
            go_simp
            with_reducible rfl
           rotate_left
           ·simp only [Act.put, PFA.s1, PFA.s2, PFA.s3, i64_w, i32_w]
            rfl
           refine pure_ (i := 3) (N := some 102) (v := ?_) (a' := ?_) #[true, false, true, true, false, false, false, false, false, false, false, false] rfl rfl (any_of HT_.out (by kernel_rfl)) (fun _ _ _ h => h) (Or.inl ⟨by rfl, ?_⟩) ?_ ?_
           rotate_left
           ·intro w'
            go_simp
            with_reducible rfl
           rotate_left
           ·simp only [Act.put, PFA.s1, PFA.s2, PFA.s3, i64_w, i32_w]
            rfl
           refine pure_ (i := 4) (N := some 103) (v := ?_) (a' := ?_) #[true, false, true, true, true, false, false, false, false, false, false, false] rfl rfl (any_of HT_.out (by kernel_rfl)) (fun _ _ _ h => h) (Or.inl ⟨by rfl, ?_⟩) ?_ ?_
           rotate_left
           ·intro w'
            go_simp
            with_reducible rfl
           rotate_left
           ·simp only [Act.put, PFA.s1, PFA.s2, PFA.s3, i64_w, i32_w]
            rfl
           refine pure_ (i := 5) (N := some 104) (v := ?_) (a' := ?_) #[true, false, true, true, true, true, false, false, false, false, false, false] rfl rfl (any_of HT_.out (by kernel_rfl)) (fun _ _ _ h => h) (Or.inl ⟨by rfl, ?_⟩) ?_ ?_
           rotate_left
           ·intro w'
            go_simp
            with_reducible rfl
           rotate_left
           ·simp only [Act.put, PFA.s1, PFA.s2, PFA.s3, i64_w, i32_w]
            rfl
           refine pure_ (i := 6) (N := some 105) (v := ?_) (a' := ?_) #[true, false, true, true, true, true, true, false, false, false, false, false] rfl rfl (any_of HT_.out (by kernel_rfl)) (fun _ _ _ h => h) (Or.inl ⟨by rfl, ?_⟩) ?_ ?_
           rotate_left
           ·intro w'
            go_simp
            with_reducible rfl
           rotate_left
           ·simp only [Act.put, PFA.s1, PFA.s2, PFA.s3, i64_w, i32_w]
            rfl
           refine pure_ (i := 7) (N := some 106) (v := ?_) (a' := ?_) #[true, false, true, true, true, true, true, true, false, false, false, false] rfl rfl (any_of HT_.out (by kernel_rfl)) (fun _ _ _ h => h) (Or.inl ⟨by rfl, ?_⟩) ?_ ?_
           rotate_left
           ·intro w'
            go_simp
            with_reducible rfl
           rotate_left
           ·simp only [Act.put, PFA.s1, PFA.s2, PFA.s3, i64_w, i32_w]
            rfl
           refine take_ (i := 1) (N := some 100) (v := ?_) (a' := ?_) #[true, true, true, true, true, true, true, true, false, false, false, false] rfl rfl (take_ofW HT_.out HW_.out (by kernel_rfl)) (fun _ _ _ h => h) (Or.inl ⟨by rfl, ?_⟩) hHeld ?_ ?_
           rotate_left
           ·rintro w' ⟨s0, s1, s2, s3⟩
            go_simp
            with_reducible rfl
           rotate_left
           ·simp only [Act.put, PFA.s1, PFA.s2, PFA.s3, i64_w, i32_w]
            rfl
           refine one_ (i := 8) (N := some 107) #[true, true, true, true, true, true, true, true, true, false, false, false] rfl rfl (one_of HT_.out (by kernel_rfl)) (by decide) (fun K hK => ?_)
           refine goes_ Try.func37 (by kernel_rfl) rfl #[.slice A3 q2.length (c2 - (k + 1)), .slice Ae l0_1.length ce, .slice Af l0_1.length cf] (by rfl) rfl rfl (by (try simp only [List.map_toArray, List.map_cons, List.map_nil]); first | done | rfl) ?_
           refine (HCALL.out _ B0.out).mono ?_
           rintro e3 w3 ⟨rfl, hb1⟩
           have HB1 := Aside0.mk hb1
           clear hb1
           refine ⟨_, rfl, ?_⟩
           refine hK.out _ _ ⟨pw_cell_below HB1.out ((blk_cell DB.out 0).trans rfl), pw_cell_below HB1.out ((blk_cell DB.out 1).trans rfl), pw_cell_below HB1.out ((blk_cell DB.out 2).trans rfl), pw_cell_below HB1.out ((blk_cell DB.out 3).trans rfl)⟩ (fun hHeld => ?_)
           clear hK K
           refine norm_ (a' := ?_) ?_ ?_
           rotate_left
           ·show Act.put _ (some 107) _ = _
            simp only [Act.put, PFA.s1, PFA.s2, PFA.s3, i64_w, i32_w]
            rfl
           refine one_ (i := 9) (N := some 108) #[true, true, true, true, true, true, true, true, true, true, false, false] rfl rfl (one_of HT_.out (by kernel_rfl)) (by decide) (fun K hK => ?_)
           refine goes_ Try.func26 (by kernel_rfl) rfl #[.int .i64 0, .agg #[.int .u64 y.f0.f0, .int .u64 y.f0.f1, .int .u64 y.f0.f2, .int .u64 y.f0.f3], .agg #[.int .u64 g1.f0, .int .u64 g1.f1, .int .u64 g1.f2, .int .u64 g1.f3]] (by rfl) rfl rfl (by (try simp only [List.map_toArray, List.map_cons, List.map_nil]); first | done | rfl) ?_
           refine (fe_mix y.f0 g1 _).mono ?_
           rintro e4 w4 ⟨rfl, hb2⟩
           have HB2 := Aside0.mk hb2
           clear hb2
           refine ⟨_, rfl, ?_⟩
           refine hK.out _ _ ⟨pw_cell_below HB2.out (pw_cell_below HB1.out ((blk_cell DB.out 0).trans rfl)), pw_cell_below HB2.out (pw_cell_below HB1.out ((blk_cell DB.out 1).trans rfl)), pw_cell_below HB2.out (pw_cell_below HB1.out ((blk_cell DB.out 2).trans rfl)), pw_cell_below HB2.out (pw_cell_below HB1.out ((blk_cell DB.out 3).trans rfl))⟩ (fun hHeld => ?_)
           clear hK K
           refine norm_ (a' := ?_) ?_ ?_
           rotate_left
           ·show Act.put _ (some 108) _ = _
            simp only [Act.put, PFA.s1, PFA.s2, PFA.s3, i64_w, i32_w]
            rfl
           refine pure_ (i := 10) (N := some 109) (v := ?_) (a' := ?_) #[true, true, true, true, true, true, true, true, true, true, true, false] rfl rfl (any_of HT_.out (by kernel_rfl)) (fun _ _ _ h => h) (Or.inl ⟨by rfl, ?_⟩) ?_ ?_
           rotate_left
           ·intro w'
            go_simp
            with_reducible rfl
           rotate_left
           ·simp only [Act.put, PFA.s1, PFA.s2, PFA.s3, i64_w, i32_w]
            rfl
           refine last_ (i := 11) (N := none) #[true, true, true, true, true, true, true, true, true, true, true, true] rfl rfl (one_of HT_.out (by kernel_rfl)) (by decide) (fun K hK => ?_)
           have M := Aside0.mk (blk_below (blk_below DB.out HB1.out) HB2.out)
           have m0 : w4.cell? ⟨wr.heap.size, 0, none⟩ = some (.int .u64 y.f0.f0) := (blk_cell M.out 0).trans rfl
           have m1 : w4.cell? ⟨wr.heap.size, 1, none⟩ = some (.int .u64 y.f0.f1) := (blk_cell M.out 1).trans rfl
           have m2 : w4.cell? ⟨wr.heap.size, 2, none⟩ = some (.int .u64 y.f0.f2) := (blk_cell M.out 2).trans rfl
           have m3 : w4.cell? ⟨wr.heap.size, 3, none⟩ = some (.int .u64 y.f0.f3) := (blk_cell M.out 3).trans rfl
           have v0 := blk_frozen M.out 0
           have v1 := blk_frozen M.out 1
           have v2 := blk_frozen M.out 2
           have v3 := blk_frozen M.out 3
           refine skip_ (w1 := ?_) (by rfl) rfl ?_ ?_
           rotate_left
           ·go_simp
            rfl
           refine hK.out _ _ ?_
           clear hK K
           refine done_ (done_of HT_.out (by kernel_rfl)) ?_
           have B12 : Aside0 (Below wr.heap.size wr w4) := ⟨(B0.out.trans (HB1.out.mono B0.out.size)).trans (HB2.out.mono (Nat.le_trans B0.out.size HB1.out.size))⟩
           have C7 : Aside0 (Below wr.heap.size wr ((((w4.setCell ⟨wr.heap.size, 0, none⟩ (.int .u64 (orS y.f0 g1).f0)).setCell ⟨wr.heap.size, 1, none⟩ (.int .u64 (orS y.f0 g1).f1)).setCell ⟨wr.heap.size, 2, none⟩ (.int .u64 (orS y.f0 g1).f2)).setCell ⟨wr.heap.size, 3, none⟩ (.int .u64 (orS y.f0 g1).f3))) := ⟨(((B12.out.setCell (p := ⟨wr.heap.size, _, none⟩) (Nat.le_refl _) _).setCell (p := ⟨wr.heap.size, _, none⟩) (Nat.le_refl _) _).setCell (p := ⟨wr.heap.size, _, none⟩) (Nat.le_refl _) _).setCell (p := ⟨wr.heap.size, _, none⟩) (Nat.le_refl _) _⟩
           have P11 : Aside0 (((((w4.setCell ⟨wr.heap.size, 0, none⟩ (.int .u64 (orS y.f0 g1).f0)).setCell ⟨wr.heap.size, 1, none⟩ (.int .u64 (orS y.f0 g1).f1)).setCell ⟨wr.heap.size, 2, none⟩ (.int .u64 (orS y.f0 g1).f2)).setCell ⟨wr.heap.size, 3, none⟩ (.int .u64 (orS y.f0 g1).f3)).heap[wr.heap.size]? = some (.cells #[.int .u64 (orS y.f0 g1).f0, .int .u64 (orS y.f0 g1).f1, .int .u64 (orS y.f0 g1).f2, .int .u64 (orS y.f0 g1).f3, .bool y.f1] 66 (0, 0))) := ⟨blk_put (blk_put (blk_put (blk_put M.out 0 _ rfl) 1 _ rfl) 2 _ rfl) 3 _ rfl⟩
           clear m0 m1 m2 m3 v0 v1 v2 v3 M B12 DB HB1 HB2
           generalize ((((w4.setCell ⟨wr.heap.size, 0, none⟩ (.int .u64 (orS y.f0 g1).f0)).setCell ⟨wr.heap.size, 1, none⟩ (.int .u64 (orS y.f0 g1).f1)).setCell ⟨wr.heap.size, 2, none⟩ (.int .u64 (orS y.f0 g1).f2)).setCell ⟨wr.heap.size, 3, none⟩ (.int .u64 (orS y.f0 g1).f3)) = W7 at *
           cases rn with
           | false =>
            go_wp2_with (go_at_call 33; refine (HALL.out _ C7.out).mono ?_; rintro e5 w5 ⟨rfl, rfl⟩)
            obtain ⟨f, HFE⟩ : ∃ f : S66, Aside0 ((⟨(orS y.f0 g1), y.f1⟩ : S66) = f) := ⟨_, ⟨rfl⟩⟩
            have HNF : Aside0 (newF E F hh q2 y = f) := ⟨by unfold newF; rw [if_neg (by rw [HN.out]; decide), HG1.out]; exact HFE.out⟩
            have N11 : Aside0 (W7.heap[wr.heap.size]? = some (.cells #[.int .u64 f.f0.f0, .int .u64 f.f0.f1, .int .u64 f.f0.f2, .int .u64 f.f0.f3, .bool f.f1] 66 (0, 0))) := ⟨by rw [← HFE.out]; exact P11.out⟩
            have C9 := Aside0.mk C7.out
            clear P11 C7
            generalize W7 = W9 at *
            have HA6 : Aside0 (posW E F x.f0 q2 (cur.set z.f0.toNat f) = r) := ⟨by rw [← HNF.out]; exact HA4.out⟩
            have HIN2 : Aside0 (InW l0_1.length (cur.set z.f0.toNat f)) := ⟨by rw [← HNF.out, ← HONE.out]; exact HINN.out⟩
            refine start_ (n := 9) (S := fun w' => w'.cell? (aq.add (k * 3)) = some (.int .i64 z.f0) ∧ w'.cell? ⟨wr.heap.size, 0, none⟩ = some (.int .u64 f.f0.f0) ∧ w'.cell? ⟨wr.heap.size, 1, none⟩ = some (.int .u64 f.f0.f1) ∧ w'.cell? ⟨wr.heap.size, 2, none⟩ = some (.int .u64 f.f0.f2) ∧ w'.cell? ⟨wr.heap.size, 3, none⟩ = some (.int .u64 f.f0.f3) ∧ w'.cell? ⟨wr.heap.size, 4, none⟩ = some (.bool f.f1)) (ds := [8]) #[false, false, false, false, false, false, false, false, false] (by kernel_rfl) rfl rfl ⟨pw_cell_below (BW.out _ C9.out.drew) SZ.out, (blk_cell (blk_drew N11.out) 0).trans rfl, (blk_cell (blk_drew N11.out) 1).trans rfl, (blk_cell (blk_drew N11.out) 2).trans rfl, (blk_cell (blk_drew N11.out) 3).trans rfl, (blk_cell (blk_drew N11.out) 4).trans rfl⟩ (fun hHeld => ?_)
            refine with_tabW templeref6_Follow.tab27 templeref6_Follow.bits27 (fun HT_ HW_ => ?_)
            refine pure_ (i := 0) (N := some 135) (v := ?_) (a' := ?_) #[true, false, false, false, false, false, false, false, false] rfl rfl (any_of HT_.out (by kernel_rfl)) (fun _ _ _ h => h) (Or.inl ⟨by rfl, ?_⟩) ?_ ?_
            rotate_left
            ·intro w'
             go_simp
             with_reducible rfl
            rotate_left
            ·simp only [Act.put, PFA.s1, PFA.s2, PFA.s3, i64_w, i32_w]
             rfl
            refine pure_ (i := 1) (N := some 136) (v := ?_) (a' := ?_) #[true, true, false, false, false, false, false, false, false] rfl rfl (any_of HT_.out (by kernel_rfl)) (fun _ _ _ h => h) (Or.inl ⟨by rfl, ?_⟩) ?_ ?_
            rotate_left
            ·intro w'
             go_simp
             with_reducible rfl
            rotate_left
            ·simp only [Act.put, PFA.s1, PFA.s2, PFA.s3, i64_w, i32_w]
             rfl
            refine pure_ (i := 2) (N := some 137) (v := ?_) (a' := ?_) #[true, true, true, false, false, false, false, false, false] rfl rfl (any_of HT_.out (by kernel_rfl)) (fun _ _ _ h => h) (Or.inl ⟨by rfl, ?_⟩) ?_ ?_
            rotate_left
            ·intro w'
             go_simp
             with_reducible rfl
            rotate_left
            ·simp only [Act.put, PFA.s1, PFA.s2, PFA.s3, i64_w, i32_w]
             rfl
            refine pure_ (i := 3) (N := some 138) (v := ?_) (a' := ?_) #[true, true, true, true, false, false, false, false, false] rfl rfl (any_of HT_.out (by kernel_rfl)) (fun _ _ _ h => h) (Or.inl ⟨by rfl, ?_⟩) ?_ ?_
            rotate_left
            ·intro w'
             go_simp
             with_reducible rfl
            rotate_left
            ·simp only [Act.put, PFA.s1, PFA.s2, PFA.s3, i64_w, i32_w]
             rfl
            refine pure_ (i := 4) (N := some 139) (v := ?_) (a' := ?_) #[true, true, true, true, true, false, false, false, false] rfl rfl (any_of HT_.out (by kernel_rfl)) (fun _ _ _ h => h) (Or.inl ⟨by rfl, ?_⟩) ?_ ?_
            rotate_left
            ·intro w'
             go_simp
             with_reducible rfl
            rotate_left
            ·simp only [Act.put, PFA.s1, PFA.s2, PFA.s3, i64_w, i32_w]
             rfl
            refine take_ (i := 5) (N := some 140) (v := ?_) (a' := ?_) #[true, true, true, true, true, true, false, false, false] rfl rfl (take_ofW HT_.out HW_.out (by kernel_rfl)) (fun _ _ _ h => h) (Or.inl ⟨by rfl, ?_⟩) hHeld ?_ ?_
            rotate_left
            ·rintro w' ⟨s0, s1, s2, s3, s4, s5⟩
             go_simp
             with_reducible rfl
            rotate_left
            ·simp only [Act.put, PFA.s1, PFA.s2, PFA.s3, i64_w, i32_w]
             rfl
            refine take_ (i := 6) (N := some 141) (v := ?_) (a' := ?_) #[true, true, true, true, true, true, true, false, false] rfl rfl (take_ofW HT_.out HW_.out (by kernel_rfl)) (fun _ _ _ h => h) (Or.inl ⟨by rfl, ?_⟩) hHeld ?_ ?_
            rotate_left
            ·rintro w' ⟨s0, s1, s2, s3, s4, s5⟩
             go_simp
             with_reducible rfl
            rotate_left
            ·simp only [Act.put, PFA.s1, PFA.s2, PFA.s3, i64_w, i32_w]
             rfl
            refine pure_ (i := 7) (N := some 142) (v := ?_) (a' := ?_) #[true, true, true, true, true, true, true, true, false] rfl rfl (any_of HT_.out (by kernel_rfl)) (fun _ _ _ h => h) (Or.inl ⟨by rfl, ?_⟩) ?_ ?_
            rotate_left
            ·intro w'
             go_simp
             with_reducible rfl
            rotate_left
            ·simp only [Act.put, PFA.s1, PFA.s2, PFA.s3, i64_w, i32_w]
             rfl
            refine last_ (i := 8) (N := none) #[true, true, true, true, true, true, true, true, true] rfl rfl (one_of HT_.out (by kernel_rfl)) (by decide) (fun K hK => ?_)
            have E9 := Aside0.mk (blk_below HD.out C9.out)
            have t0_ := pw_cell_below C9.out Y0.out
            have t1_ := pw_cell_below C9.out Y1.out
            have t2_ := pw_cell_below C9.out Y2.out
            have t3_ := pw_cell_below C9.out Y3.out
            have t4_ := pw_cell_below C9.out Y4.out
            have v0_ := blk_frozen E9.out (z.f0.toNat * 5)
            have v1_ := blk_frozen E9.out (z.f0.toNat * 5 + 1)
            have v2_ := blk_frozen E9.out (z.f0.toNat * 5 + 2)
            have v3_ := blk_frozen E9.out (z.f0.toNat * 5 + 3)
            have v4_ := blk_frozen E9.out (z.f0.toNat * 5 + 4)
            have t0 := pw_cell_below C9.out.drew Y0.out
            have t1 := pw_cell_below C9.out.drew Y1.out
            have t2 := pw_cell_below C9.out.drew Y2.out
            have t3 := pw_cell_below C9.out.drew Y3.out
            have t4 := pw_cell_below C9.out.drew Y4.out
            have v0 := blk_frozen (blk_drew E9.out) (z.f0.toNat * 5)
            have v1 := blk_frozen (blk_drew E9.out) (z.f0.toNat * 5 + 1)
            have v2 := blk_frozen (blk_drew E9.out) (z.f0.toNat * 5 + 2)
            have v3 := blk_frozen (blk_drew E9.out) (z.f0.toNat * 5 + 3)
            have v4 := blk_frozen (blk_drew E9.out) (z.f0.toNat * 5 + 4)
            refine skip_ (w1 := ?_) (by rfl) rfl ?_ ?_
            rotate_left
            ·go_simp
             rfl
            refine hK.out _ _ ?_
            clear hK K
            refine done_ (done_of HT_.out (by kernel_rfl)) ?_
            go_wp2
            go_roundw
            case rel =>
             refine ⟨k + 1, cur.set z.f0.toNat f, by omega, by go_num, ⟨by rw [HQD.out]; exact HA6.out⟩, ?_, ?_, HIN2, ?_⟩
             ·exact ⟨keep_drew ((((((KW.out _ C9.out).set_ _ _).set_ _ _).set_ _ _).set_ _ _).set_ _ _)⟩
             ·exact ⟨blk_drew (by rw [← encW_set _ _ _ HJL.out]; exact blk_put (blk_put (blk_put (blk_put (blk_put E9.out _ _ rfl) _ _ rfl) _ _ rfl) _ _ rfl) _ _ rfl)⟩
             ·exact ⟨((((((BW.out _ C9.out).setCell (p := ⟨w2.heap.size, _, none⟩) (Nat.le_of_lt lt2) _).setCell (p := ⟨w2.heap.size, _, none⟩) (Nat.le_of_lt lt2) _).setCell (p := ⟨w2.heap.size, _, none⟩) (Nat.le_of_lt lt2) _).setCell (p := ⟨w2.heap.size, _, none⟩) (Nat.le_of_lt lt2) _).setCell (p := ⟨w2.heap.size, _, none⟩) (Nat.le_of_lt lt2) _).drew⟩
            case measure => simp [intOf]; omega
           | true =>
            obtain ⟨yf, HYF⟩ : ∃ yf, Aside0 (y.f1 = yf) := ⟨_, ⟨rfl⟩⟩
            rw [HYF.out] at P11
            go_wp2_with (go_at_call 33; refine (HALL.out _ C7.out).mono ?_; rintro e5 w5 ⟨rfl, rfl⟩)
            refine start_ (n := 10) (S := fun w' => w'.cell? ⟨wr.heap.size, 0, none⟩ = some (.int .u64 (orS y.f0 g1).f0) ∧ w'.cell? ⟨wr.heap.size, 1, none⟩ = some (.int .u64 (orS y.f0 g1).f1) ∧ w'.cell? ⟨wr.heap.size, 2, none⟩ = some (.int .u64 (orS y.f0 g1).f2) ∧ w'.cell? ⟨wr.heap.size, 3, none⟩ = some (.int .u64 (orS y.f0 g1).f3) ∧ w'.cell? ⟨w2.heap.size, x.f0.toNat * 5, none⟩ = some (.int .u64 hh.f0.f0) ∧ w'.cell? ⟨w2.heap.size, x.f0.toNat * 5 + 1, none⟩ = some (.int .u64 hh.f0.f1) ∧ w'.cell? ⟨w2.heap.size, x.f0.toNat * 5 + 2, none⟩ = some (.int .u64 hh.f0.f2) ∧ w'.cell? ⟨w2.heap.size, x.f0.toNat * 5 + 3, none⟩ = some (.int .u64 hh.f0.f3)) (ds := [9]) #[false, false, false, false, false, false, false, false, false, false] (by kernel_rfl) rfl rfl ⟨(blk_cell (blk_drew P11.out) 0).trans rfl, (blk_cell (blk_drew P11.out) 1).trans rfl, (blk_cell (blk_drew P11.out) 2).trans rfl, (blk_cell (blk_drew P11.out) 3).trans rfl, pw_cell_below C7.out.drew H0_.out, pw_cell_below C7.out.drew H1_.out, pw_cell_below C7.out.drew H2_.out, pw_cell_below C7.out.drew H3_.out⟩ (fun hHeld => ?_)
            refine with_tabW templeref6_Follow.tab25 templeref6_Follow.bits25 (fun HT_ HW_ => ?_)
            refine pure_ (i := 0) (N := some 116) (v := ?_) (a' := ?_) #[true, false, false, false, false, false, false, false, false, false] rfl rfl (any_of HT_.out (by kernel_rfl)) (fun _ _ _ h => h) (Or.inl ⟨by rfl, ?_⟩) ?_ ?_
            rotate_left
            ·intro w'
             go_simp
             with_reducible rfl
            rotate_left
            ·simp only [Act.put, PFA.s1, PFA.s2, PFA.s3, i64_w, i32_w]
             rfl
            refine pure_ (i := 2) (N := some 118) (v := ?_) (a' := ?_) #[true, false, true, false, false, false, false, false, false, false] rfl rfl (any_of HT_.out (by kernel_rfl)) (fun _ _ _ h => h) (Or.inl ⟨by rfl, ?_⟩) ?_ ?_
            rotate_left
            ·intro w'
             go_simp
             with_reducible rfl
            rotate_left
            ·simp only [Act.put, PFA.s1, PFA.s2, PFA.s3, i64_w, i32_w]
             rfl
            refine pure_ (i := 3) (N := some 119) (v := ?_) (a' := ?_) #[true, false, true, true, false, false, false, false, false, false] rfl rfl (any_of HT_.out (by kernel_rfl)) (fun _ _ _ h => h) (Or.inl ⟨by rfl, ?_⟩) ?_ ?_
            rotate_left
            ·intro w'
             go_simp
             with_reducible rfl
            rotate_left
            ·simp only [Act.put, PFA.s1, PFA.s2, PFA.s3, i64_w, i32_w]
             rfl
            refine pure_ (i := 4) (N := some 120) (v := ?_) (a' := ?_) #[true, false, true, true, true, false, false, false, false, false] rfl rfl (any_of HT_.out (by kernel_rfl)) (fun _ _ _ h => h) (Or.inl ⟨by rfl, ?_⟩) ?_ ?_
            rotate_left
            ·intro w'
             go_simp
             with_reducible rfl
            rotate_left
            ·simp only [Act.put, PFA.s1, PFA.s2, PFA.s3, i64_w, i32_w]
             rfl
            refine pure_ (i := 5) (N := some 121) (v := ?_) (a' := ?_) #[true, false, true, true, true, true, false, false, false, false] rfl rfl (any_of HT_.out (by kernel_rfl)) (fun _ _ _ h => h) (Or.inl ⟨by rfl, ?_⟩) ?_ ?_
            rotate_left
            ·intro w'
             go_simp
             with_reducible rfl
            rotate_left
            ·simp only [Act.put, PFA.s1, PFA.s2, PFA.s3, i64_w, i32_w]
             rfl
            refine take_ (i := 1) (N := some 117) (v := ?_) (a' := ?_) #[true, true, true, true, true, true, false, false, false, false] rfl rfl (take_ofW HT_.out HW_.out (by kernel_rfl)) (fun _ _ _ h => h) (Or.inl ⟨by rfl, ?_⟩) hHeld ?_ ?_
            rotate_left
            ·rintro w' ⟨s0, s1, s2, s3, s4, s5, s6, s7⟩
             go_simp
             with_reducible rfl
            rotate_left
            ·simp only [Act.put, PFA.s1, PFA.s2, PFA.s3, i64_w, i32_w]
             rfl
            refine take_ (i := 6) (N := some 122) (v := ?_) (a' := ?_) #[true, true, true, true, true, true, true, false, false, false] rfl rfl (take_ofW HT_.out HW_.out (by kernel_rfl)) (fun _ _ _ h => h) (Or.inl ⟨by rfl, ?_⟩) hHeld ?_ ?_
            rotate_left
            ·rintro w' ⟨s0, s1, s2, s3, s4, s5, s6, s7⟩
             go_simp
             with_reducible rfl
            rotate_left
            ·simp only [Act.put, PFA.s1, PFA.s2, PFA.s3, i64_w, i32_w]
             rfl
            refine one_ (i := 7) (N := some 123) #[true, true, true, true, true, true, true, true, false, false] rfl rfl (one_of HT_.out (by kernel_rfl)) (by decide) (fun K hK => ?_)
            refine goes_ Try.func26 (by kernel_rfl) rfl #[.int .i64 0, .agg #[.int .u64 (orS y.f0 g1).f0, .int .u64 (orS y.f0 g1).f1, .int .u64 (orS y.f0 g1).f2, .int .u64 (orS y.f0 g1).f3], .agg #[.int .u64 hh.f0.f0, .int .u64 hh.f0.f1, .int .u64 hh.f0.f2, .int .u64 hh.f0.f3]] (by rfl) rfl rfl (by (try simp only [List.map_toArray, List.map_cons, List.map_nil]); first | done | rfl) ?_
            refine (fe_mix (orS y.f0 g1) hh.f0 _).mono ?_
            rintro e6 w6 ⟨rfl, hb4⟩
            have HB4 := Aside0.mk hb4
            clear hb4
            refine ⟨_, rfl, ?_⟩
            refine hK.out _ _ ⟨pw_cell_below HB4.out ((blk_cell (blk_drew P11.out) 0).trans rfl), pw_cell_below HB4.out ((blk_cell (blk_drew P11.out) 1).trans rfl), pw_cell_below HB4.out ((blk_cell (blk_drew P11.out) 2).trans rfl), pw_cell_below HB4.out ((blk_cell (blk_drew P11.out) 3).trans rfl), pw_cell_below HB4.out (pw_cell_below C7.out.drew H0_.out), pw_cell_below HB4.out (pw_cell_below C7.out.drew H1_.out), pw_cell_below HB4.out (pw_cell_below C7.out.drew H2_.out), pw_cell_below HB4.out (pw_cell_below C7.out.drew H3_.out)⟩ (fun hHeld => ?_)
            clear hK K
            refine norm_ (a' := ?_) ?_ ?_
            rotate_left
            ·show Act.put _ (some 123) _ = _
             simp only [Act.put, PFA.s1, PFA.s2, PFA.s3, i64_w, i32_w]
             rfl
            refine pure_ (i := 8) (N := some 124) (v := ?_) (a' := ?_) #[true, true, true, true, true, true, true, true, true, false] rfl rfl (any_of HT_.out (by kernel_rfl)) (fun _ _ _ h => h) (Or.inl ⟨by rfl, ?_⟩) ?_ ?_
            rotate_left
            ·intro w'
             go_simp
             with_reducible rfl
            rotate_left
            ·simp only [Act.put, PFA.s1, PFA.s2, PFA.s3, i64_w, i32_w]
             rfl
            refine last_ (i := 9) (N := none) #[true, true, true, true, true, true, true, true, true, true] rfl rfl (one_of HT_.out (by kernel_rfl)) (by decide) (fun K hK => ?_)
            have M := Aside0.mk (blk_below (blk_drew P11.out) HB4.out)
            have m0 : w6.cell? ⟨wr.heap.size, 0, none⟩ = some (.int .u64 (orS y.f0 g1).f0) := (blk_cell M.out 0).trans rfl
            have m1 : w6.cell? ⟨wr.heap.size, 1, none⟩ = some (.int .u64 (orS y.f0 g1).f1) := (blk_cell M.out 1).trans rfl
            have m2 : w6.cell? ⟨wr.heap.size, 2, none⟩ = some (.int .u64 (orS y.f0 g1).f2) := (blk_cell M.out 2).trans rfl
            have m3 : w6.cell? ⟨wr.heap.size, 3, none⟩ = some (.int .u64 (orS y.f0 g1).f3) := (blk_cell M.out 3).trans rfl
            have v0 := blk_frozen M.out 0
            have v1 := blk_frozen M.out 1
            have v2 := blk_frozen M.out 2
            have v3 := blk_frozen M.out 3
            refine skip_ (w1 := ?_) (by rfl) rfl ?_ ?_
            rotate_left
            ·go_simp
             rfl
            refine hK.out _ _ ?_
            clear hK K
            refine done_ (done_of HT_.out (by kernel_rfl)) ?_
            have C8 : Aside0 (Below wr.heap.size wr ((((w6.setCell ⟨wr.heap.size, 0, none⟩ (.int .u64 (orS (orS y.f0 g1) hh.f0).f0)).setCell ⟨wr.heap.size, 1, none⟩ (.int .u64 (orS (orS y.f0 g1) hh.f0).f1)).setCell ⟨wr.heap.size, 2, none⟩ (.int .u64 (orS (orS y.f0 g1) hh.f0).f2)).setCell ⟨wr.heap.size, 3, none⟩ (.int .u64 (orS (orS y.f0 g1) hh.f0).f3))) := ⟨((((C7.out.drew.trans (HB4.out.mono C7.out.size)).setCell (p := ⟨wr.heap.size, _, none⟩) (Nat.le_refl _) _).setCell (p := ⟨wr.heap.size, _, none⟩) (Nat.le_refl _) _).setCell (p := ⟨wr.heap.size, _, none⟩) (Nat.le_refl _) _).setCell (p := ⟨wr.heap.size, _, none⟩) (Nat.le_refl _) _⟩
            have P12 : Aside0 (((((w6.setCell ⟨wr.heap.size, 0, none⟩ (.int .u64 (orS (orS y.f0 g1) hh.f0).f0)).setCell ⟨wr.heap.size, 1, none⟩ (.int .u64 (orS (orS y.f0 g1) hh.f0).f1)).setCell ⟨wr.heap.size, 2, none⟩ (.int .u64 (orS (orS y.f0 g1) hh.f0).f2)).setCell ⟨wr.heap.size, 3, none⟩ (.int .u64 (orS (orS y.f0 g1) hh.f0).f3)).heap[wr.heap.size]? = some (.cells #[.int .u64 (orS (orS y.f0 g1) hh.f0).f0, .int .u64 (orS (orS y.f0 g1) hh.f0).f1, .int .u64 (orS (orS y.f0 g1) hh.f0).f2, .int .u64 (orS (orS y.f0 g1) hh.f0).f3, .bool yf] 66 (0, 0))) := ⟨blk_put (blk_put (blk_put (blk_put M.out 0 _ rfl) 1 _ rfl) 2 _ rfl) 3 _ rfl⟩
            clear m0 m1 m2 m3 v0 v1 v2 v3 M HB4 P11 C7
            generalize ((((w6.setCell ⟨wr.heap.size, 0, none⟩ (.int .u64 (orS (orS y.f0 g1) hh.f0).f0)).setCell ⟨wr.heap.size, 1, none⟩ (.int .u64 (orS (orS y.f0 g1) hh.f0).f1)).setCell ⟨wr.heap.size, 2, none⟩ (.int .u64 (orS (orS y.f0 g1) hh.f0).f2)).setCell ⟨wr.heap.size, 3, none⟩ (.int .u64 (orS (orS y.f0 g1) hh.f0).f3)) = W8 at *
            have u4 : W8.cell? ⟨wr.heap.size, 4, none⟩ = some (.bool yf) := (blk_cell P12.out 4).trans rfl
            have uf := blk_frozen P12.out 4
            have uh := pw_cell_below C8.out H4_.out
            cases yf with
            | false =>
             go_wp2
             clear u4 uf uh
             have C9 : Aside0 (Below wr.heap.size wr (W8.setCell ⟨wr.heap.size, 4, none⟩ (.bool hh.f1))) := ⟨C8.out.setCell (p := ⟨wr.heap.size, _, none⟩) (Nat.le_refl _) _⟩
             obtain ⟨f, HFE⟩ : ∃ f : S66, Aside0 ((⟨(orS (orS y.f0 g1) hh.f0), hh.f1⟩ : S66) = f) := ⟨_, ⟨rfl⟩⟩
             have HNF : Aside0 (newF E F hh q2 y = f) := ⟨by unfold newF; rw [if_pos HN.out, HG1.out, HYF.out]; exact HFE.out⟩
             have N11 : Aside0 ((W8.setCell ⟨wr.heap.size, 4, none⟩ (.bool hh.f1)).heap[wr.heap.size]? = some (.cells #[.int .u64 f.f0.f0, .int .u64 f.f0.f1, .int .u64 f.f0.f2, .int .u64 f.f0.f3, .bool f.f1] 66 (0, 0))) := ⟨by rw [← HFE.out]; exact blk_put P12.out 4 _ rfl⟩
             clear C8 P12
             generalize (W8.setCell ⟨wr.heap.size, 4, none⟩ (.bool hh.f1)) = W9 at *
             have HA6 : Aside0 (posW E F x.f0 q2 (cur.set z.f0.toNat f) = r) := ⟨by rw [← HNF.out]; exact HA4.out⟩
             have HIN2 : Aside0 (InW l0_1.length (cur.set z.f0.toNat f)) := ⟨by rw [← HNF.out, ← HONE.out]; exact HINN.out⟩
             refine start_ (n := 9) (S := fun w' => w'.cell? (aq.add (k * 3)) = some (.int .i64 z.f0) ∧ w'.cell? ⟨wr.heap.size, 0, none⟩ = some (.int .u64 f.f0.f0) ∧ w'.cell? ⟨wr.heap.size, 1, none⟩ = some (.int .u64 f.f0.f1) ∧ w'.cell? ⟨wr.heap.size, 2, none⟩ = some (.int .u64 f.f0.f2) ∧ w'.cell? ⟨wr.heap.size, 3, none⟩ = some (.int .u64 f.f0.f3) ∧ w'.cell? ⟨wr.heap.size, 4, none⟩ = some (.bool f.f1)) (ds := [8]) #[false, false, false, false, false, false, false, false, false] (by kernel_rfl) rfl rfl ⟨pw_cell_below (BW.out _ C9.out.drew) SZ.out, (blk_cell (blk_drew N11.out) 0).trans rfl, (blk_cell (blk_drew N11.out) 1).trans rfl, (blk_cell (blk_drew N11.out) 2).trans rfl, (blk_cell (blk_drew N11.out) 3).trans rfl, (blk_cell (blk_drew N11.out) 4).trans rfl⟩ (fun hHeld => ?_)
             refine with_tabW templeref6_Follow.tab27 templeref6_Follow.bits27 (fun HT_ HW_ => ?_)
             refine pure_ (i := 0) (N := some 135) (v := ?_) (a' := ?_) #[true, false, false, false, false, false, false, false, false] rfl rfl (any_of HT_.out (by kernel_rfl)) (fun _ _ _ h => h) (Or.inl ⟨by rfl, ?_⟩) ?_ ?_
             rotate_left
             ·intro w'
              go_simp
              with_reducible rfl
             rotate_left
             ·simp only [Act.put, PFA.s1, PFA.s2, PFA.s3, i64_w, i32_w]
              rfl
             refine pure_ (i := 1) (N := some 136) (v := ?_) (a' := ?_) #[true, true, false, false, false, false, false, false, false] rfl rfl (any_of HT_.out (by kernel_rfl)) (fun _ _ _ h => h) (Or.inl ⟨by rfl, ?_⟩) ?_ ?_
             rotate_left
             ·intro w'
              go_simp
              with_reducible rfl
             rotate_left
             ·simp only [Act.put, PFA.s1, PFA.s2, PFA.s3, i64_w, i32_w]
              rfl
             refine pure_ (i := 2) (N := some 137) (v := ?_) (a' := ?_) #[true, true, true, false, false, false, false, false, false] rfl rfl (any_of HT_.out (by kernel_rfl)) (fun _ _ _ h => h) (Or.inl ⟨by rfl, ?_⟩) ?_ ?_
             rotate_left
             ·intro w'
              go_simp
              with_reducible rfl
             rotate_left
             ·simp only [Act.put, PFA.s1, PFA.s2, PFA.s3, i64_w, i32_w]
              rfl
             refine pure_ (i := 3) (N := some 138) (v := ?_) (a' := ?_) #[true, true, true, true, false, false, false, false, false] rfl rfl (any_of HT_.out (by kernel_rfl)) (fun _ _ _ h => h) (Or.inl ⟨by rfl, ?_⟩) ?_ ?_
             rotate_left
             ·intro w'
              go_simp
              with_reducible rfl
             rotate_left
             ·simp only [Act.put, PFA.s1, PFA.s2, PFA.s3, i64_w, i32_w]
              rfl
             refine pure_ (i := 4) (N := some 139) (v := ?_) (a' := ?_) #[true, true, true, true, true, false, false, false, false] rfl rfl (any_of HT_.out (by kernel_rfl)) (fun _ _ _ h => h) (Or.inl ⟨by rfl, ?_⟩) ?_ ?_
             rotate_left
             ·intro w'
              go_simp
              with_reducible rfl
             rotate_left
             ·simp only [Act.put, PFA.s1, PFA.s2, PFA.s3, i64_w, i32_w]
              rfl
             refine take_ (i := 5) (N := some 140) (v := ?_) (a' := ?_) #[true, true, true, true, true, true, false, false, false] rfl rfl (take_ofW HT_.out HW_.out (by kernel_rfl)) (fun _ _ _ h => h) (Or.inl ⟨by rfl, ?_⟩) hHeld ?_ ?_
             rotate_left
             ·rintro w' ⟨s0, s1, s2, s3, s4, s5⟩
              go_simp
              with_reducible rfl
             rotate_left
             ·simp only [Act.put, PFA.s1, PFA.s2, PFA.s3, i64_w, i32_w]
              rfl
             refine take_ (i := 6) (N := some 141) (v := ?_) (a' := ?_) #[true, true, true, true, true, true, true, false, false] rfl rfl (take_ofW HT_.out HW_.out (by kernel_rfl)) (fun _ _ _ h => h) (Or.inl ⟨by rfl, ?_⟩) hHeld ?_ ?_
             rotate_left
             ·rintro w' ⟨s0, s1, s2, s3, s4, s5⟩
              go_simp
              with_reducible rfl
             rotate_left
             ·simp only [Act.put, PFA.s1, PFA.s2, PFA.s3, i64_w, i32_w]
              rfl
             refine pure_ (i := 7) (N := some 142) (v := ?_) (a' := ?_) #[true, true, true, true, true, true, true, true, false] rfl rfl (any_of HT_.out (by kernel_rfl)) (fun _ _ _ h => h) (Or.inl ⟨by rfl, ?_⟩) ?_ ?_
             rotate_left
             ·intro w'
              go_simp
              with_reducible rfl
             rotate_left
             ·simp only [Act.put, PFA.s1, PFA.s2, PFA.s3, i64_w, i32_w]
              rfl
             refine last_ (i := 8) (N := none) #[true, true, true, true, true, true, true, true, true] rfl rfl (one_of HT_.out (by kernel_rfl)) (by decide) (fun K hK => ?_)
             have E9 := Aside0.mk (blk_below HD.out C9.out)
             have t0_ := pw_cell_below C9.out Y0.out
             have t1_ := pw_cell_below C9.out Y1.out
             have t2_ := pw_cell_below C9.out Y2.out
             have t3_ := pw_cell_below C9.out Y3.out
             have t4_ := pw_cell_below C9.out Y4.out
             have v0_ := blk_frozen E9.out (z.f0.toNat * 5)
             have v1_ := blk_frozen E9.out (z.f0.toNat * 5 + 1)
             have v2_ := blk_frozen E9.out (z.f0.toNat * 5 + 2)
             have v3_ := blk_frozen E9.out (z.f0.toNat * 5 + 3)
             have v4_ := blk_frozen E9.out (z.f0.toNat * 5 + 4)
             have t0 := pw_cell_below C9.out.drew Y0.out
             have t1 := pw_cell_below C9.out.drew Y1.out
             have t2 := pw_cell_below C9.out.drew Y2.out
             have t3 := pw_cell_below C9.out.drew Y3.out
             have t4 := pw_cell_below C9.out.drew Y4.out
             have v0 := blk_frozen (blk_drew E9.out) (z.f0.toNat * 5)
             have v1 := blk_frozen (blk_drew E9.out) (z.f0.toNat * 5 + 1)
             have v2 := blk_frozen (blk_drew E9.out) (z.f0.toNat * 5 + 2)
             have v3 := blk_frozen (blk_drew E9.out) (z.f0.toNat * 5 + 3)
             have v4 := blk_frozen (blk_drew E9.out) (z.f0.toNat * 5 + 4)
             refine skip_ (w1 := ?_) (by rfl) rfl ?_ ?_
             rotate_left
             ·go_simp
              rfl
             refine hK.out _ _ ?_
             clear hK K
             refine done_ (done_of HT_.out (by kernel_rfl)) ?_
             go_wp2
             go_roundw
             case rel =>
              refine ⟨k + 1, cur.set z.f0.toNat f, by omega, by go_num, ⟨by rw [HQD.out]; exact HA6.out⟩, ?_, ?_, HIN2, ?_⟩
              ·exact ⟨keep_drew ((((((KW.out _ C9.out).set_ _ _).set_ _ _).set_ _ _).set_ _ _).set_ _ _)⟩
              ·exact ⟨blk_drew (by rw [← encW_set _ _ _ HJL.out]; exact blk_put (blk_put (blk_put (blk_put (blk_put E9.out _ _ rfl) _ _ rfl) _ _ rfl) _ _ rfl) _ _ rfl)⟩
              ·exact ⟨((((((BW.out _ C9.out).setCell (p := ⟨w2.heap.size, _, none⟩) (Nat.le_of_lt lt2) _).setCell (p := ⟨w2.heap.size, _, none⟩) (Nat.le_of_lt lt2) _).setCell (p := ⟨w2.heap.size, _, none⟩) (Nat.le_of_lt lt2) _).setCell (p := ⟨w2.heap.size, _, none⟩) (Nat.le_of_lt lt2) _).setCell (p := ⟨w2.heap.size, _, none⟩) (Nat.le_of_lt lt2) _).drew⟩
             case measure => simp [intOf]; omega
            | true =>
             go_wp2
             clear u4 uf uh
             have C9 : Aside0 (Below wr.heap.size wr (W8.setCell ⟨wr.heap.size, 4, none⟩ (.bool true))) := ⟨C8.out.setCell (p := ⟨wr.heap.size, _, none⟩) (Nat.le_refl _) _⟩
             obtain ⟨f, HFE⟩ : ∃ f : S66, Aside0 ((⟨(orS (orS y.f0 g1) hh.f0), true⟩ : S66) = f) := ⟨_, ⟨rfl⟩⟩
             have HNF : Aside0 (newF E F hh q2 y = f) := ⟨by unfold newF; rw [if_pos HN.out, HG1.out, HYF.out]; exact HFE.out⟩
             have N11 : Aside0 ((W8.setCell ⟨wr.heap.size, 4, none⟩ (.bool true)).heap[wr.heap.size]? = some (.cells #[.int .u64 f.f0.f0, .int .u64 f.f0.f1, .int .u64 f.f0.f2, .int .u64 f.f0.f3, .bool f.f1] 66 (0, 0))) := ⟨by rw [← HFE.out]; exact blk_put P12.out 4 _ rfl⟩
             clear C8 P12
             generalize (W8.setCell ⟨wr.heap.size, 4, none⟩ (.bool true)) = W9 at *
             have HA6 : Aside0 (posW E F x.f0 q2 (cur.set z.f0.toNat f) = r) := ⟨by rw [← HNF.out]; exact HA4.out⟩
             have HIN2 : Aside0 (InW l0_1.length (cur.set z.f0.toNat f)) := ⟨by rw [← HNF.out, ← HONE.out]; exact HINN.out⟩
             refine start_ (n := 9) (S := fun w' => w'.cell? (aq.add (k * 3)) = some (.int .i64 z.f0) ∧ w'.cell? ⟨wr.heap.size, 0, none⟩ = some (.int .u64 f.f0.f0) ∧ w'.cell? ⟨wr.heap.size, 1, none⟩ = some (.int .u64 f.f0.f1) ∧ w'.cell? ⟨wr.heap.size, 2, none⟩ = some (.int .u64 f.f0.f2) ∧ w'.cell? ⟨wr.heap.size, 3, none⟩ = some (.int .u64 f.f0.f3) ∧ w'.cell? ⟨wr.heap.size, 4, none⟩ = some (.bool f.f1)) (ds := [8]) #[false, false, false, false, false, false, false, false, false] (by kernel_rfl) rfl rfl ⟨pw_cell_below (BW.out _ C9.out.drew) SZ.out, (blk_cell (blk_drew N11.out) 0).trans rfl, (blk_cell (blk_drew N11.out) 1).trans rfl, (blk_cell (blk_drew N11.out) 2).trans rfl, (blk_cell (blk_drew N11.out) 3).trans rfl, (blk_cell (blk_drew N11.out) 4).trans rfl⟩ (fun hHeld => ?_)
             refine with_tabW templeref6_Follow.tab27 templeref6_Follow.bits27 (fun HT_ HW_ => ?_)
             refine pure_ (i := 0) (N := some 135) (v := ?_) (a' := ?_) #[true, false, false, false, false, false, false, false, false] rfl rfl (any_of HT_.out (by kernel_rfl)) (fun _ _ _ h => h) (Or.inl ⟨by rfl, ?_⟩) ?_ ?_
             rotate_left
             ·intro w'
              go_simp
              with_reducible rfl
             rotate_left
             ·simp only [Act.put, PFA.s1, PFA.s2, PFA.s3, i64_w, i32_w]
              rfl
             refine pure_ (i := 1) (N := some 136) (v := ?_) (a' := ?_) #[true, true, false, false, false, false, false, false, false] rfl rfl (any_of HT_.out (by kernel_rfl)) (fun _ _ _ h => h) (Or.inl ⟨by rfl, ?_⟩) ?_ ?_
             rotate_left
             ·intro w'
              go_simp
              with_reducible rfl
             rotate_left
             ·simp only [Act.put, PFA.s1, PFA.s2, PFA.s3, i64_w, i32_w]
              rfl
             refine pure_ (i := 2) (N := some 137) (v := ?_) (a' := ?_) #[true, true, true, false, false, false, false, false, false] rfl rfl (any_of HT_.out (by kernel_rfl)) (fun _ _ _ h => h) (Or.inl ⟨by rfl, ?_⟩) ?_ ?_
             rotate_left
             ·intro w'
              go_simp
              with_reducible rfl
             rotate_left
             ·simp only [Act.put, PFA.s1, PFA.s2, PFA.s3, i64_w, i32_w]
              rfl
             refine pure_ (i := 3) (N := some 138) (v := ?_) (a' := ?_) #[true, true, true, true, false, false, false, false, false] rfl rfl (any_of HT_.out (by kernel_rfl)) (fun _ _ _ h => h) (Or.inl ⟨by rfl, ?_⟩) ?_ ?_
             rotate_left
             ·intro w'
              go_simp
              with_reducible rfl
             rotate_left
             ·simp only [Act.put, PFA.s1, PFA.s2, PFA.s3, i64_w, i32_w]
              rfl
             refine pure_ (i := 4) (N := some 139) (v := ?_) (a' := ?_) #[true, true, true, true, true, false, false, false, false] rfl rfl (any_of HT_.out (by kernel_rfl)) (fun _ _ _ h => h) (Or.inl ⟨by rfl, ?_⟩) ?_ ?_
             rotate_left
             ·intro w'
              go_simp
              with_reducible rfl
             rotate_left
             ·simp only [Act.put, PFA.s1, PFA.s2, PFA.s3, i64_w, i32_w]
              rfl
             refine take_ (i := 5) (N := some 140) (v := ?_) (a' := ?_) #[true, true, true, true, true, true, false, false, false] rfl rfl (take_ofW HT_.out HW_.out (by kernel_rfl)) (fun _ _ _ h => h) (Or.inl ⟨by rfl, ?_⟩) hHeld ?_ ?_
             rotate_left
             ·rintro w' ⟨s0, s1, s2, s3, s4, s5⟩
              go_simp
              with_reducible rfl
             rotate_left
             ·simp only [Act.put, PFA.s1, PFA.s2, PFA.s3, i64_w, i32_w]
              rfl
             refine take_ (i := 6) (N := some 141) (v := ?_) (a' := ?_) #[true, true, true, true, true, true, true, false, false] rfl rfl (take_ofW HT_.out HW_.out (by kernel_rfl)) (fun _ _ _ h => h) (Or.inl ⟨by rfl, ?_⟩) hHeld ?_ ?_
             rotate_left
             ·rintro w' ⟨s0, s1, s2, s3, s4, s5⟩
              go_simp
              with_reducible rfl
             rotate_left
             ·simp only [Act.put, PFA.s1, PFA.s2, PFA.s3, i64_w, i32_w]
              rfl
             refine pure_ (i := 7) (N := some 142) (v := ?_) (a' := ?_) #[true, true, true, true, true, true, true, true, false] rfl rfl (any_of HT_.out (by kernel_rfl)) (fun _ _ _ h => h) (Or.inl ⟨by rfl, ?_⟩) ?_ ?_
             rotate_left
             ·intro w'
              go_simp
              with_reducible rfl
             rotate_left
             ·simp only [Act.put, PFA.s1, PFA.s2, PFA.s3, i64_w, i32_w]
              rfl
             refine last_ (i := 8) (N := none) #[true, true, true, true, true, true, true, true, true] rfl rfl (one_of HT_.out (by kernel_rfl)) (by decide) (fun K hK => ?_)
             have E9 := Aside0.mk (blk_below HD.out C9.out)
             have t0_ := pw_cell_below C9.out Y0.out
             have t1_ := pw_cell_below C9.out Y1.out
             have t2_ := pw_cell_below C9.out Y2.out
             have t3_ := pw_cell_below C9.out Y3.out
             have t4_ := pw_cell_below C9.out Y4.out
             have v0_ := blk_frozen E9.out (z.f0.toNat * 5)
             have v1_ := blk_frozen E9.out (z.f0.toNat * 5 + 1)
             have v2_ := blk_frozen E9.out (z.f0.toNat * 5 + 2)
             have v3_ := blk_frozen E9.out (z.f0.toNat * 5 + 3)
             have v4_ := blk_frozen E9.out (z.f0.toNat * 5 + 4)
             have t0 := pw_cell_below C9.out.drew Y0.out
             have t1 := pw_cell_below C9.out.drew Y1.out
             have t2 := pw_cell_below C9.out.drew Y2.out
             have t3 := pw_cell_below C9.out.drew Y3.out
             have t4 := pw_cell_below C9.out.drew Y4.out
             have v0 := blk_frozen (blk_drew E9.out) (z.f0.toNat * 5)
             have v1 := blk_frozen (blk_drew E9.out) (z.f0.toNat * 5 + 1)
             have v2 := blk_frozen (blk_drew E9.out) (z.f0.toNat * 5 + 2)
             have v3 := blk_frozen (blk_drew E9.out) (z.f0.toNat * 5 + 3)
             have v4 := blk_frozen (blk_drew E9.out) (z.f0.toNat * 5 + 4)
             refine skip_ (w1 := ?_) (by rfl) rfl ?_ ?_
             rotate_left
             ·go_simp
              rfl
             refine hK.out _ _ ?_
             clear hK K
             refine done_ (done_of HT_.out (by kernel_rfl)) ?_
             go_wp2
             go_roundw
             case rel =>
              refine ⟨k + 1, cur.set z.f0.toNat f, by omega, by go_num, ⟨by rw [HQD.out]; exact HA6.out⟩, ?_, ?_, HIN2, ?_⟩
              ·exact ⟨keep_drew ((((((KW.out _ C9.out).set_ _ _).set_ _ _).set_ _ _).set_ _ _).set_ _ _)⟩
              ·exact ⟨blk_drew (by rw [← encW_set _ _ _ HJL.out]; exact blk_put (blk_put (blk_put (blk_put (blk_put E9.out _ _ rfl) _ _ rfl) _ _ rfl) _ _ rfl) _ _ rfl)⟩
              ·exact ⟨((((((BW.out _ C9.out).setCell (p := ⟨w2.heap.size, _, none⟩) (Nat.le_of_lt lt2) _).setCell (p := ⟨w2.heap.size, _, none⟩) (Nat.le_of_lt lt2) _).setCell (p := ⟨w2.heap.size, _, none⟩) (Nat.le_of_lt lt2) _).setCell (p := ⟨w2.heap.size, _, none⟩) (Nat.le_of_lt lt2) _).setCell (p := ⟨w2.heap.size, _, none⟩) (Nat.le_of_lt lt2) _).drew⟩
             case measure => simp [intOf]; omega
         ·obtain rfl : k = q.length := by omega
          have hA2 := HA.out
          rw [List.drop_length] at hA2
          have hA3 : cur = r := hA2
          subst hA3
          go_wp2
          go_roundw
          case rel => exact ⟨j + 1, by omega, by go_num, HK, ⟨by rw [HY.out]; exact HD.out⟩, ⟨by rw [HY.out]; exact HC.out⟩, HB⟩
          case measure => simp [intOf]; omega
       ·obtain rfl : j = x.f1.length := by omega
        rw [List.take_length] at HD HI
        go_wp2
        go_roundw
        case rel => exact ⟨i + 1, by omega, by go_num, HK, ⟨by rw [HX.out]; exact HD.out⟩, ⟨by rw [HX.out]; exact HI.out⟩, HB⟩
        case measure => simp [intOf]; omega
     ·obtain rfl : i = l0_2.length := by omega
      rw [List.take_length] at HD HI
      go_wp2
      go_roundw
      case rel => exact ⟨m + 1, by omega, by go_num, HK, ⟨by rw [iterT, HS.out]; exact HD.out⟩, HB⟩
      case measure => simp [intOf]; omega
   ·obtain rfl : m = l0_1.length + 1 := by omega
    have hl := (HIN.out (l0_1.length + 1)).1
    go_wp2
    go_ret2
    refine ⟨_, rfl, ?_, HB.out⟩
    rw [HFL.out]
    have hr := rowV_R encW_len (d := k66) (fun w b ok x => k66_mkM w b ok x) rfl (e := 66) (base := w.heap.size) (ok := fun _ => True) HD.out (by rw [hl]; unfold maxLen; omega) (by omega) trivial
    rw [hl] at hr
    exact hr


end Go.Proofs.Ytpilkfodlhhjpaa.PFA
