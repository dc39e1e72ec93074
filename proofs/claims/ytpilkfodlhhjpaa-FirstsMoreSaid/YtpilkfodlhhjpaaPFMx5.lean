-- written by a program of the session's (wip/myprint.py) out of the translation
import Derived.Test.YtpilkfodlhhjpaaPFMx0
import Derived.Test.YtpilkfodlhhjpaaPFMx3
import Derived.Test.YtpilkfodlhhjpaaPFMx4
namespace Go.Proofs.Ytpilkfodlhhjpaa.PFM
open Go.RowKit Go.Proofs.YtpilkfodlhhjpaaW.PrintWords Go.Proofs.YtpilkfodlhhjpaaW.PrintLast Go.Proofs.YtpilkfodlhhjpaaW.PrintMore
attribute [local go_sem] max2_int min2_int max_two min_two max_three min_three max_four min_four   -- for this text's walks alone
set_option linter.unusedVariables false
set_option linter.unusedSimpArgs false

/-! ### first_Follow: function 14 -/
theorem fe_info66 : (Try.prog.info? 66).map (fun i => (i.zero, i.size, i.bytes)) = some (some (.agg #[(.int .u64 0), (.int .u64 0), (.int .u64 0), (.int .u64 0), (.bool false)]), 5, 40) := by kernel_rfl
theorem fe_info68 : (Try.prog.info? 68).map (fun i => (i.zero, i.size, i.bytes)) = some (some (.agg #[(.int .i64 0), (.int .i64 0), (.int .i64 0)]), 3, 24) := by kernel_rfl
set_option maxHeartbeats 4000000 in
theorem fe_each38 {σ : Type} (μ : σ → Nat) (step : Int → List S68 → σ → σ) (R : σ → World → Prop) (gb ob : Nat) (Ar : Option Addr) (cr : Nat) (rs : List S55) (p0_ p1_ p2_ : Addr) (w0 : World) (hC : Kd.C k55 w0 Ar rs.length rs) (hrl : rs.length ≤ 256) (hcl : ∀ r ∈ rs, r.f1.length ≤ 8)
  (hRa : ∀ s w1 o, R s w1 → R s (w1.alloc o)) (hRg : ∀ s w1, R s w1 → w1.cell? ⟨gb, 2, none⟩ = some (.slice Ar rs.length cr))
  (hturn : ∀ r ∈ rs, ∀ cj ∈ r.f1, ∀ s w1 A c, R s w1 → Below w0.heap.size w0 w1 → Kd.C k68 w0 A cj.f1.length cj.f1 → cj.f1.length ≤ c → Calls Try.prog 38 #[.int .i64 r.f0, .slice A cj.f1.length c, .pointer (some p0_), .pointer (some p1_), .pointer (some p2_)] w1 fun e w' => ∃ b, e = .returned (.bool b) ∧ R (step r.f0 cj.f1 s) w' ∧ KeepBut w1 w' ob none ∧ Below w0.heap.size w0 w' ∧ (b = false → step r.f0 cj.f1 s = s) ∧ (b = true → μ (step r.f0 cj.f1 s) < μ s))
  (s0 : σ) (w : World) (h0 : R s0 w) (hob : ob < w.heap.size) (hb0 : Below w0.heap.size w0 w) :
  Calls Try.prog 30 #[.pointer (some ⟨gb, 0, none⟩), .func (.func 38) #[] #[.pointer (some p0_), .pointer (some p1_), .pointer (some p2_)]] w fun e w' => e = .returned (.tuple #[]) ∧ (∃ m, R (iterT (passT step rs) m s0) w' ∧ passT step rs (iterT (passT step rs) m s0) = iterT (passT step rs) m s0) ∧ Below w0.heap.size w0 w' := by
 have HC := Aside0.mk hC
 have HCL := Aside0.mk hcl
 have HRA := Aside0.mk hRa
 have HRG := Aside0.mk hRg
 have HT := Aside0.mk hturn
 have H0 := Aside0.mk h0
 have HB0 := Aside0.mk hb0
 clear hC hcl hRa hRg hturn h0 hb0
 go_enter Try.func30, Try.ntmps30
 go_wp2
 go_loopg [4] (μ s0 + 1) (fun kq v4 wr => ∃ (s : σ) (b : Bool), v4 = .bool b ∧ Aside0 (∃ m, s = iterT (passT step rs) m s0) ∧ Aside0 (b = false → passT step rs s = s) ∧ Aside0 (R s wr) ∧ Aside0 (Below w0.heap.size w0 wr) ∧ ob < wr.heap.size ∧ Aside0 (μ s + b.toNat ≤ kq))
 case atStart => exact ⟨s0, true, rfl, ⟨0, rfl⟩, ⟨fun h => by cases h⟩, ⟨H0.out⟩, ⟨HB0.out⟩, hob, ⟨Nat.le_refl _⟩⟩
 case round =>
  clear H0 HB0
  obtain ⟨s, b, rfl, HM, HF, HR, HB, hob2, HK⟩ := hrel
  cases b with
  | false =>
   go_wp2
   go_end0
   refine ⟨rfl, ?_, HB.out⟩
   obtain ⟨m, rfl⟩ := HM.out
   exact ⟨m, HR.out, HF.out trivial⟩
  | true =>
   have g2 := HRG.out _ _ HR.out
   obtain ⟨wo, rfl⟩ : ∃ wo : World, wo = wr := ⟨_, rfl⟩
   go_wp2
   go_loopw [15, 4] (fun v v4 wi => ∃ (i : Nat) (s2 : σ) (b2 : Bool), i ≤ rs.length ∧ v = .int .i64 i ∧ v4 = .bool b2 ∧ Aside0 (s2 = passT step (rs.take i) s) ∧ Aside0 (b2 = false → s2 = s) ∧ Aside0 (b2 = true → μ s2 < μ s) ∧ Aside0 (R s2 wi) ∧ Aside0 (Below w0.heap.size w0 wi) ∧ ob < wi.heap.size) (fun v _ _ => rs.length - (intOf v).toNat)
   case atStart => exact ⟨0, s, false, by omega, rfl, rfl, ⟨rfl⟩, ⟨fun _ => rfl⟩, ⟨fun h => by cases h⟩, ⟨HR.out⟩, ⟨HB.out⟩, hob2⟩
   case round =>
    obtain ⟨i, s2, b2, hi, rfl, rfl, HS, HF2, HM2, HR2, HB2, hob3⟩ := hrel
    by_cases hlt : i < rs.length
    ·obtain ⟨ad, A1, c1, eA, q0, q1, hc1, hC1⟩ := at_T55 HC.out (i : Int) (by omega) (by omega)
     rw [fe_rdrule _ _ hlt] at q0 q1 hc1 hC1
     rw [Int.toNat_natCast] at q0 q1
     replace q0 := pw_cell_below HB2.out q0
     replace q1 := pw_cell_below HB2.out q1
     subst eA
     have HX := Aside0.mk (fe_passT_take step rs i hlt s)
     have hmem := List.getElem_mem hlt
     generalize rs[i] = x at *
     have HC1 := Aside0.mk hC1
     have hxl := HCL.out x hmem
     have HME := Aside0.mk hmem
     clear hC1 hmem
     have r1 := World.new_ne wr _ q0
     have r2 := World.new_ne wr _ q1
     obtain ⟨wp, rfl⟩ : ∃ wp : World, wp = wr := ⟨_, rfl⟩
     go_wp2
     go_loopw [22, 4] (fun v v4 wj => ∃ (j : Nat) (s3 : σ) (b3 : Bool), j ≤ x.f1.length ∧ v = .int .i64 j ∧ v4 = .bool b3 ∧ Aside0 (s3 = passC step x.f0 (x.f1.take j) s2) ∧ Aside0 (b3 = false → s3 = s) ∧ Aside0 (b3 = true → μ s3 < μ s) ∧ Aside0 (R s3 wj) ∧ Aside0 (wj.heap[wp.heap.size]? = some (.cells #[.int .i64 x.f0, .slice A1 x.f1.length c1] 55 (0, 0))) ∧ Aside0 (Below w0.heap.size w0 wj) ∧ ob < wp.heap.size) (fun v _ _ => x.f1.length - (intOf v).toNat)
     case atStart => exact ⟨0, s2, b2, by omega, rfl, rfl, ⟨rfl⟩, ⟨HF2.out⟩, ⟨HM2.out⟩, ⟨HRA.out _ _ _ HR2.out⟩, ⟨blk_new _ _⟩, ⟨HB2.out.alloc HB2.out.size _⟩, hob3⟩
     case round =>
      obtain ⟨j, s3, b3, hj, rfl, rfl, HS3, HF3, HM3, HR3, HK3, HB3, hob4⟩ := hrel
      by_cases hjl : j < x.f1.length
      ·obtain ⟨ad2, A2, c2, eA2, p0, p1, hc2, hC2⟩ := at_T58 HC1.out (j : Int) (by omega) (by omega)
       rw [fe_rdconj _ _ hjl] at p0 p1 hc2 hC2
       rw [Int.toNat_natCast] at p0 p1
       replace p0 := pw_cell_below HB3.out p0
       replace p1 := pw_cell_below HB3.out p1
       subst eA2
       have HY := Aside0.mk (fe_passC_take step x.f0 x.f1 j hjl s2)
       have hmem := List.getElem_mem hjl
       generalize x.f1[j] = y at *
       have HC2 := Aside0.mk hC2
       have HMY := Aside0.mk hmem
       clear hC2 hmem
       have t1 := World.new_ne wr _ p0
       have t2 := World.new_ne wr _ p1
       have k0 : wr.cell? ⟨wp.heap.size, 0, none⟩ = some (.int .i64 x.f0) := (blk_cell HK3.out 0).trans rfl
       have l0 := World.block_lt_of_cell? _ _ k0
       have hsz := HB3.out.size
       have HLE : Aside0 (μ s3 ≤ μ s) := ⟨by
        cases b3 with
        | false => rw [HF3.out rfl]; exact Nat.le_refl _
        | true => exact Nat.le_of_lt (HM3.out rfl)⟩
       obtain ⟨wq, rfl⟩ : ∃ wq : World, wq = wr := ⟨_, rfl⟩
       go_wp2_with (first
        | (go_at_call 38; refine (HT.out x HME.out y HMY.out s3 _ _ _ (HRA.out _ _ _ HR3.out) (HB3.out.alloc hsz _) HC2.out hc2).mono ?_; rintro e w1 ⟨bb, rfl, g1, gk, g2, g3, g4⟩; have G1 := Aside0.mk g1; have GK := Aside0.mk gk; have G2 := Aside0.mk g2; have G3 := Aside0.mk g3; have G4 := Aside0.mk g4; clear g1 gk g2 g3 g4; cases bb))
       all_goals
        go_wp2
        go_roundw
        case measure => simp [intOf]; omega
        case rel =>
         first
          | exact ⟨j + 1, step x.f0 y.f1 s3, true, by omega, by go_num, rfl, ⟨by rw [HY.out, ← HS3.out]⟩, ⟨fun h => by cases h⟩, ⟨fun _ => Nat.lt_of_lt_of_le (G4.out (by first | rfl | trivial)) HLE.out⟩, ⟨G1.out⟩, ⟨GK.out.blk (blk_alloc HK3.out _) (by omega) (by simp)⟩, ⟨G2.out⟩, hob4⟩
          | exact ⟨j + 1, step x.f0 y.f1 s3, b3, by omega, by go_num, rfl, ⟨by rw [HY.out, ← HS3.out]⟩, ⟨fun h => (G3.out (by first | rfl | trivial)).trans (HF3.out h)⟩, ⟨fun h => by rw [G3.out (by first | rfl | trivial)]; exact HM3.out h⟩, ⟨G1.out⟩, ⟨GK.out.blk (blk_alloc HK3.out _) (by omega) (by simp)⟩, ⟨G2.out⟩, hob4⟩
      ·obtain rfl : j = x.f1.length := by omega
       rw [List.take_length] at HS3
       go_wp2
       go_roundw
       case rel => exact ⟨i + 1, s3, b3, by omega, by go_num, rfl, ⟨by rw [HX.out, ← HS.out]; exact HS3.out⟩, ⟨HF3.out⟩, ⟨HM3.out⟩, ⟨HR3.out⟩, ⟨HB3.out⟩, by have := blk_lt HK3.out; omega⟩
       case measure => simp [intOf]; omega
    ·obtain rfl : i = rs.length := by omega
     rw [List.take_length] at HS
     go_wp2
     have hms : b2.toNat + μ s2 < μ s + 1 := by
      cases b2 with
      | false => have := HF2.out rfl; subst this; simp
      | true => have := HM2.out rfl; simp; omega
     have hkq := HK.out
     simp only [Bool.toNat_true] at hkq
     go_roundg (b2.toNat + μ s2)
     case measure => omega
     case rel => exact ⟨s2, b2, rfl, ⟨by obtain ⟨m, rfl⟩ := HM.out; exact ⟨m + 1, HS.out⟩⟩, ⟨fun h => by have := HF2.out h; rw [this, ← HS.out]; exact this⟩, ⟨HR2.out⟩, ⟨HB2.out⟩, hob3, ⟨by omega⟩⟩

def newF (e : List Bool) (fs : List S63) (z : S66) (q : List S68) (y : S66) : S66 := if nothB e q = true then ⟨orS (orS y.f0 (begA e fs z63 q)) z.f0, y.f1 || z.f1⟩ else ⟨orS y.f0 (begA e fs z63 q), y.f1⟩
def posW (e : List Bool) (fs : List S63) (h : Int) : List S68 → List S66 → List S66
 | [], s => s
 | x :: q, s => posW e fs h q (if x.f0 < 0 then s else s.set x.f0.toNat (newF e fs (s.getD h.toNat z66) q (s.getD x.f0.toNat z66)))
def encW (x : S66) : List Value := [.int .u64 x.f0.f0, .int .u64 x.f0.f1, .int .u64 x.f0.f2, .int .u64 x.f0.f3, .bool x.f1]
theorem encW_len (x : S66) : (encW x).length = 5 := rfl
theorem encW_set (s : List S66) (i : Nat) (x : S66) (h : i < s.length) : (((((rowV encW s).setIfInBounds (i * 5) (.int .u64 x.f0.f0)).setIfInBounds (i * 5 + 1) (.int .u64 x.f0.f1)).setIfInBounds (i * 5 + 2) (.int .u64 x.f0.f2)).setIfInBounds (i * 5 + 3) (.int .u64 x.f0.f3)).setIfInBounds (i * 5 + 4) (.bool x.f1) = rowV encW (s.set i x) := by
 obtain ⟨h1, h2⟩ := rowV_split encW_len s i h
 obtain ⟨h3, h4⟩ := rowV_split encW_len (s.set i x) i (by rw [List.length_set]; exact h)
 unfold rowV
 rw [h1, h3, List.getElem_set_self, List.take_set, List.set_eq_of_length_le (by rw [List.length_take]; omega), List.drop_set, if_pos (by omega)]
 generalize (s.take i).flatMap encW = P at *
 generalize (s.drop (i + 1)).flatMap encW = Q at *
 rw [← h2]
 simp [encW, List.set_append]
theorem rowW_cells {w : World} {ob : Nat} {s : List S66} (h : w.heap[ob]? = some (.cells (rowV encW s) 66 (0, 0))) (i : Nat) (hi : i < s.length) :
  w.cell? ⟨ob, i * 5, none⟩ = some (.int .u64 (s.getD i z66).f0.f0) ∧ w.cell? ⟨ob, i * 5 + 1, none⟩ = some (.int .u64 (s.getD i z66).f0.f1) ∧ w.cell? ⟨ob, i * 5 + 2, none⟩ = some (.int .u64 (s.getD i z66).f0.f2) ∧ w.cell? ⟨ob, i * 5 + 3, none⟩ = some (.int .u64 (s.getD i z66).f0.f3) ∧ w.cell? ⟨ob, i * 5 + 4, none⟩ = some (.bool (s.getD i z66).f1) := by
 have hr : ∀ j, j < 5 → w.cell? ⟨ob, i * 5 + j, none⟩ = (encW s[i])[j]? := fun j hj => (blk_cell h (i * 5 + j)).trans (rowV_get encW_len s i j hi hj)
 have hg : s.getD i z66 = s[i] := by rw [List.getD_eq_getElem?_getD, List.getElem?_eq_getElem hi]; rfl
 rw [hg]
 exact ⟨hr 0 (by omega), hr 1 (by omega), hr 2 (by omega), hr 3 (by omega), hr 4 (by omega)⟩
def bitW (k : Nat) (x : S66) : Bool := if k < 256 then bitS x.f0 k else x.f1
def bitsW (k : Nat) (s : List S66) : List Bool := s.map (bitW k)
def InW (n : Nat) (s : List S66) : Prop := s.length = n ∧ ∀ x ∈ s, WfS x.f0
theorem z66_bit (k : Nat) : bitW k z66 = false := by
 unfold bitW
 split
 ·exact z63_bit k ‹_›
 ·rfl
theorem bitsW_get (k : Nat) (s : List S66) (i : Nat) : (bitsW k s).getD i false = bitW k (s.getD i z66) := by
 unfold bitsW
 rw [List.getD_eq_getElem?_getD, List.getElem?_map, List.getD_eq_getElem?_getD]
 cases s[i]? with
 | none => exact (z66_bit k).symm
 | some x => rfl
theorem inW_get {n : Nat} {s : List S66} (h : InW n s) (i : Nat) : WfS (s.getD i z66).f0 := by
 rw [List.getD_eq_getElem?_getD]
 cases e : s[i]? with
 | none => exact z63_wf
 | some x => exact h.2 x (List.mem_of_getElem? e)
/-- What is added to a name's channel k at a place whose rest is q, in a rule of the head h. -/
def addW (k : Nat) (e : List Bool) (fs : List S63) (h : Nat) (q : List S68) (t : List Bool) : Bool := (if k < 256 then begB k e (bitL k fs) q else false) || (nothB e q && t.getD h false)
theorem newF_bit {e : List Bool} {fs : List S63} (hfs : WfL fs) (z : S66) (hz : WfS z.f0) (q : List S68) (y : S66) (hy : WfS y.f0) : WfS (newF e fs z q y).f0 ∧ ∀ k, k < 257 → bitW k (newF e fs z q y) = (bitW k y || ((if k < 256 then begB k e (bitL k fs) q else false) || (nothB e q && bitW k z))) := by
 obtain ⟨h1, h2⟩ := begA_bit e fs hfs q z63 z63_wf
 obtain ⟨h3, h4⟩ := orS_bit hy h1
 obtain ⟨h5, h6⟩ := orS_bit h3 hz
 unfold newF
 by_cases hn : nothB e q = true
 ·rw [if_pos hn]
  refine ⟨h5, fun k hk => ?_⟩
  unfold bitW
  by_cases hk2 : k < 256
  ·simp only [if_pos hk2]
   rw [h6 k hk2, h4 k hk2, h2 k hk2, z63_bit k hk2, hn, Bool.true_and, Bool.false_or, Bool.or_assoc]
  ·simp only [if_neg hk2]
   rw [hn, Bool.true_and, Bool.false_or]
 ·rw [if_neg hn]
  have hn' : nothB e q = false := by simpa using hn
  refine ⟨h3, fun k hk => ?_⟩
  unfold bitW
  by_cases hk2 : k < 256
  ·simp only [if_pos hk2]
   rw [h4 k hk2, h2 k hk2, z63_bit k hk2, hn', Bool.false_and, Bool.false_or, Bool.or_false]
  ·simp only [if_neg hk2]
   rw [hn', Bool.false_and, Bool.false_or, Bool.or_false]
def oneW (e : List Bool) (fs : List S63) (h : Int) (x : S68) (q : List S68) (s : List S66) : List S66 := if x.f0 < 0 then s else s.set x.f0.toNat (newF e fs (s.getD h.toNat z66) q (s.getD x.f0.toNat z66))
def oneB (k : Nat) (e : List Bool) (fs : List S63) (h : Int) (x : S68) (q : List S68) (t : List Bool) : List Bool := if x.f0 < 0 then t else stepG x.f0.toNat (addW k e fs h.toNat q t) t
theorem oneW_in {n : Nat} {e : List Bool} {fs : List S63} (hfs : WfL fs) {h : Int} {x : S68} {q : List S68} {s : List S66} (hs : InW n s) : InW n (oneW e fs h x q s) := by
 unfold oneW
 split
 ·exact hs
 ·refine ⟨by rw [List.length_set]; exact hs.1, fun y hy => ?_⟩
  rcases List.mem_or_eq_of_mem_set hy with hy | rfl
  ·exact hs.2 y hy
  ·exact (newF_bit hfs _ (inW_get hs _) q _ (inW_get hs _)).1
theorem oneW_bit {n : Nat} {e : List Bool} {fs : List S63} (hfs : WfL fs) {h : Int} {x : S68} {q : List S68} {s : List S66} (hs : InW n s) (hx : x.f0 < n) (k : Nat) (hk : k < 257) : bitsW k (oneW e fs h x q s) = oneB k e fs h x q (bitsW k s) := by
 unfold oneW oneB
 split
 ·rfl
 ·rename_i hn
  rw [← stepG_set _ _ _ (by unfold bitsW; rw [List.length_map, hs.1]; omega)]
  unfold addW
  rw [bitsW_get, bitsW_get]
  unfold bitsW
  rw [List.map_set, (newF_bit hfs _ (inW_get hs _) q _ (inW_get hs _)).2 k hk]
theorem inW_ext {n : Nat} {s s' : List S66} (h : InW n s) (h' : InW n s') (hb : ∀ k, k < 257 → bitsW k s = bitsW k s') : s = s' := by
 refine List.ext_getElem (h.1.trans h'.1.symm) (fun i h1 h2 => ?_)
 have e : ∀ k, k < 257 → bitW k s[i] = bitW k s'[i] := fun k hk => by
  have e := congrArg (fun l => l[i]?) (hb k hk)
  simp only [bitsW, List.getElem?_map, List.getElem?_eq_getElem h1, List.getElem?_eq_getElem h2, Option.map_some, Option.some.injEq] at e
  exact e
 have e1 : s[i].f0 = s'[i].f0 := S_ext (h.2 _ (List.getElem_mem h1)) (h'.2 _ (List.getElem_mem h2)) (fun k hk => by have := e k (by omega); unfold bitW at this; rwa [if_pos hk, if_pos hk] at this)
 have e2 : s[i].f1 = s'[i].f1 := by have := e 256 (by omega); unfold bitW at this; rwa [if_neg (by decide), if_neg (by decide)] at this
 generalize s[i] = a at *
 generalize s'[i] = b at *
 cases a
 cases b
 simp only at e1 e2
 rw [e1, e2]
theorem oneB_cnt (k : Nat) (e : List Bool) (fs : List S63) (h : Int) (x : S68) (q : List S68) (t : List Bool) (hx : x.f0 < t.length) : oneB k e fs h x q t = t ∨ t.count true < (oneB k e fs h x q t).count true := by
 unfold oneB
 split
 ·exact .inl rfl
 ·exact stepG_cnt _ _ _ (by omega)
theorem oneW_mu {n : Nat} {e : List Bool} {fs : List S63} (hfs : WfL fs) {h : Int} {x : S68} {q : List S68} {s : List S66} (hs : InW n s) (hx : x.f0 < n) : oneW e fs h x q s = s ∨ chC 257 bitsW s < chC 257 bitsW (oneW e fs h x q s) :=
 chan_step (f := oneW e fs h x q) (φ := fun k t => oneB k e fs h x q t) (fun k hk => oneW_bit hfs hs hx k hk) (fun k hk => oneB_cnt k e fs h x q _ (by unfold bitsW; rw [List.length_map, hs.1]; exact hx)) (fun hb => inW_ext (oneW_in hfs hs) hs hb)
theorem fe_eqA66 (d : Nat) (w : World) (x0 y0 : Int) (x1 y1 : Int) (x2 y2 : Int) (x3 y3 : Int) (x4 y4 : Bool) :
  (Op.equalIn (d + 3) 66 (.agg #[.int .u64 x0, .int .u64 x1, .int .u64 x2, .int .u64 x3, .bool x4]) (.agg #[.int .u64 y0, .int .u64 y1, .int .u64 y2, .int .u64 y3, .bool y4])).run Try.prog w = .ok ((x0 == y0 && (x1 == y1 && (x2 == y2 && (x3 == y3)))) && (x4 == y4)) w := by
 refine eqA_of Try.underlying66 (by kernel_rfl) ?_
 refine eqf_cons (by rfl) (by go_simp) (by go_simp) (eqH63 (d + 0) w _ _ _ _ _ _ _ _) ?_
 exact eqf_last (by rfl) (by go_simp; rfl) (by go_simp; rfl) (by go_simp)
attribute [local go_sem high] fe_eqA66
def fe_turn38.T7 : Bool × List (List Nat × List Nat) := (true, [([], []), ([0], [0]), ([], []), ([], []), ([3], [3]), ([2, 4], [2, 4]), ([], []), ([], []), ([5, 6, 7], [5, 6, 7]), ([1, 8, 8], [1, 8]), ([0, 1, 2, 3, 4, 5, 6, 7, 8, 9], []), ([10, 9, 9, 0, 1, 2, 3, 4, 5, 6, 7, 8, 9], [9, 10])])
def fe_turn38.B7 : List Nat := [0, 1, 0, 0, 8, 28, 0, 0, 252, 511, 1023, 2047]
theorem fe_turn38.tab7 : rtab .any (opsOf Try.f38 7) = fe_turn38.T7 := by kernel_rfl
theorem fe_turn38.bits7 : waitsOk fe_turn38.T7.2 fe_turn38.B7 = true := by kernel_rfl
def fe_turn38.T8 : Bool × List (List Nat × List Nat) := (true, [([], []), ([], []), ([1], [1]), ([0, 2], [0, 2]), ([], []), ([3, 4], [3, 4])])
def fe_turn38.B8 : List Nat := [0, 0, 2, 7, 0, 31]
theorem fe_turn38.tab8 : rtab .any (opsOf Try.f38 8) = fe_turn38.T8 := by kernel_rfl
theorem fe_turn38.bits8 : waitsOk fe_turn38.T8.2 fe_turn38.B8 = true := by kernel_rfl
def fe_turn38.T9 : Bool × List (List Nat × List Nat) := (true, [([], []), ([0], [0]), ([], []), ([], []), ([2, 3], [2, 3]), ([4], [4]), ([5], [5]), ([1, 6], [1, 6]), ([], []), ([8], [8]), ([9, 7], [9]), ([10], [10]), ([10], [10]), ([11, 12, 10], [10, 11, 12]), ([13, 10], [10, 13]), ([14, 10], [10, 14]), ([10, 15], [10, 15]), ([0, 1, 2, 3, 4, 5, 6, 7, 8, 9], []), ([17, 7, 10, 0, 1, 2, 3, 4, 5, 6, 7, 8, 9], [7, 17]), ([0, 1, 2, 3, 4, 5, 6, 7, 8, 9, 10, 11, 12, 13, 14, 15, 16, 17, 18], []), ([19, 16, 18, 0, 1, 2, 3, 4, 5, 6, 7, 8, 9, 10, 11, 12, 13, 14, 15, 16, 17, 18], [16, 19])])
def fe_turn38.B9 : List Nat := [0, 1, 0, 0, 12, 28, 60, 127, 0, 256, 1023, 2047, 2047, 8191, 16383, 32767, 65535, 1023, 133119, 524287, 1048575]
theorem fe_turn38.tab9 : rtab .any (opsOf Try.f38 9) = fe_turn38.T9 := by kernel_rfl
theorem fe_turn38.bits9 : waitsOk fe_turn38.T9.2 fe_turn38.B9 = true := by kernel_rfl
def fe_turn38.T10 : Bool × List (List Nat × List Nat) := (true, [([], []), ([0], [0]), ([1], [1]), ([1], [1]), ([1], [1]), ([4, 1], [1, 4]), ([3, 5, 1], [1, 3, 5]), ([6, 1], [1, 6]), ([2, 7, 1], [1, 2, 7]), ([1, 8], [1, 8]), ([9, 1, 0, 1, 2, 3, 4, 5, 6, 7, 8, 9], [0, 9])])
def fe_turn38.B10 : List Nat := [0, 1, 3, 3, 3, 19, 59, 123, 255, 511, 1023]
theorem fe_turn38.tab10 : rtab .any (opsOf Try.f38 10) = fe_turn38.T10 := by kernel_rfl
theorem fe_turn38.bits10 : waitsOk fe_turn38.T10.2 fe_turn38.B10 = true := by kernel_rfl
def eqW (a b : S66) : Bool := (a.f0.f0 == b.f0.f0 && (a.f0.f1 == b.f0.f1 && (a.f0.f2 == b.f0.f2 && (a.f0.f3 == b.f0.f3)))) && (a.f1 == b.f1)
theorem eqW_iff (a b : S66) : eqW a b = true ↔ a = b := by
 obtain ⟨⟨a0, a1, a2, a3⟩, a4⟩ := a
 obtain ⟨⟨b0, b1, b2, b3⟩, b4⟩ := b
 simp [eqW]
theorem fe_turn38_end {n : Nat} {e : List Bool} {fs : List S63} (hfs : WfL fs) {h : Int} {x : S68} {q : List S68} {s cur : List S66} (hc : InW n cur) (hx : x.f0 < n) (hn : ¬ x.f0 < 0) {b : Bool} (h0 : b = false → cur = s) (h1 : b = true → chC 257 bitsW s < chC 257 bitsW cur) (b' : Bool) (hb' : b' = (b || !(eqW (newF e fs (cur.getD h.toNat z66) q (cur.getD x.f0.toNat z66)) (cur.getD x.f0.toNat z66)))) :
  (b' = false → oneW e fs h x q cur = s) ∧ (b' = true → chC 257 bitsW s < chC 257 bitsW (oneW e fs h x q cur)) := by
 have hl : x.f0.toNat < cur.length := by rw [hc.1]; omega
 have hg : cur.getD x.f0.toNat z66 = cur[x.f0.toNat] := by rw [List.getD_eq_getElem?_getD, List.getElem?_eq_getElem hl]; rfl
 have hone : oneW e fs h x q cur = cur.set x.f0.toNat (newF e fs (cur.getD h.toNat z66) q (cur.getD x.f0.toNat z66)) := by unfold oneW; rw [if_neg hn]
 have hm := oneW_mu (e := e) (h := h) (q := q) hfs hc hx
 cases hq : eqW (newF e fs (cur.getD h.toNat z66) q (cur.getD x.f0.toNat z66)) (cur.getD x.f0.toNat z66) with
 | true =>
  have he := (eqW_iff _ _).1 hq
  have hs : oneW e fs h x q cur = cur := by
   rw [hone, he, hg]
   exact List.set_getElem_self hl
  rw [hs]
  rw [hq, Bool.not_true, Bool.or_false] at hb'
  subst hb'
  exact ⟨h0, h1⟩
 | false =>
  rw [hq, Bool.not_false, Bool.or_true] at hb'
  subst hb'
  refine ⟨(fun h => by cases h), fun _ => ?_⟩
  have hne : oneW e fs h x q cur ≠ cur := by
   intro hh
   have h2 : (oneW e fs h x q cur)[x.f0.toNat]? = cur[x.f0.toNat]? := by rw [hh]
   rw [hone, List.getElem?_set_self hl, List.getElem?_eq_getElem hl, ← hg] at h2
   rw [(eqW_iff _ _).2 (Option.some.inj h2)] at hq
   cases hq
  have h3 := hm.resolve_left hne
  cases b with
  | false => rwa [h0 rfl] at h3 ⊢
  | true => exact Nat.lt_trans (h1 rfl) h3
set_option maxHeartbeats 16000000 in
set_option maxRecDepth 100000 in
theorem fe_turn38 (bx ob ex fx : Nat) (s : List S66) (e : List Bool) (Ae : Option Addr) (ce : Nat) (fs : List S63) (Af : Option Addr) (cf : Nat) (hd : Int) (q : List S68) (A : Option Addr) (c : Nat) (w : World) (base n : Nat)
  (hbox : w.heap[bx]? = some (.cells #[.slice (some ⟨ob, 0, none⟩) n n] 38 (0, 0))) (hdat : w.heap[ob]? = some (.cells (rowV encW s) 66 (0, 0))) (hex : w.heap[ex]? = some (.cells #[.slice Ae e.length ce] 27 (0, 0))) (hfx : w.heap[fx]? = some (.cells #[.slice Af fs.length cf] 33 (0, 0)))
  (h0 : 0 ≤ hd) (h1 : hd < n) (hn : n ≤ 64) (hin : InW n s) (hel : e.length = n) (hfl : fs.length = n) (hfs : WfL fs) (hok : ∀ x ∈ q, SymF n x) (hq : ∀ W, Below base w W → Kd.C k68 W A q.length q) (hqc : q.length ≤ c) (hl : q.length ≤ 64) (hb : base ≤ ob) (hbw : base ≤ w.heap.size) (n1 : bx ≠ ob) (n2 : ex ≠ ob) (n3 : fx ≠ ob)
  (hKe : ∀ W, KeepBut w W ob none → Kd.C Kd.bool W Ae e.length e) (hKf : ∀ W, KeepBut w W ob none → Kd.C k63 W Af fs.length fs) :
  Calls Try.prog 38 #[.int .i64 hd, .slice A q.length c, .pointer (some ⟨bx, 0, none⟩), .pointer (some ⟨ex, 0, none⟩), .pointer (some ⟨fx, 0, none⟩)] w fun e' w' => ∃ b, e' = .returned (.bool b) ∧ w'.heap[ob]? = some (.cells (rowV encW (posW e fs hd q s)) 66 (0, 0)) ∧ InW n (posW e fs hd q s) ∧ KeepBut w w' ob none ∧ Below base w w' ∧ (b = false → posW e fs hd q s = s) ∧ (b = true → chC 257 bitsW s < chC 257 bitsW (posW e fs hd q s)) := by
 have lb := blk_lt hdat
 have lx := blk_lt hbox
 have le := blk_lt hex
 have lf := blk_lt hfx
 have HBX := Aside0.mk hbox
 have HEX := Aside0.mk hex
 have HFX := Aside0.mk hfx
 have HD := Aside0.mk hdat
 have HKE := Aside0.mk hKe
 have HKF := Aside0.mk hKf
 have HQ := Aside0.mk hq
 have HOK := Aside0.mk hok
 have HIN := Aside0.mk hin
 have HEL := Aside0.mk hel
 have HFL := Aside0.mk hfl
 have HFS := Aside0.mk hfs
 obtain ⟨r, HR⟩ : ∃ r, Aside0 (posW e fs hd q s = r) := ⟨_, ⟨rfl⟩⟩
 rw [HR.out]
 obtain ⟨i68, hi68, hz0, hz1, hz2⟩ := info_parts fe_info68
 have HI := Aside0.mk hi68
 have HZ1 := Aside0.mk hz1
 clear hbox hdat hex hfx hq hok hin hel hfl hfs hKe hKf hi68 hz0 hz1 hz2
 go_enter Try.func38, Try.ntmps38
 go_wp2
 go_loopw [14, 8] (fun v v8 wr => ∃ (i : Nat) (cur : List S66) (b : Bool), i ≤ q.length ∧ v = .int .i64 i ∧ v8 = .bool b ∧ Aside0 (posW e fs hd (q.drop i) cur = r) ∧ Aside0 (InW n cur) ∧ Aside0 (wr.heap[ob]? = some (.cells (rowV encW cur) 66 (0, 0))) ∧ Aside0 (KeepBut w wr ob none) ∧ Aside0 (Below base w wr) ∧ Aside0 (b = false → cur = s) ∧ Aside0 (b = true → chC 257 bitsW s < chC 257 bitsW cur)) (fun v _ _ => q.length - (intOf v).toNat)
 case atStart => exact ⟨0, s, false, by omega, rfl, rfl, ⟨HR.out⟩, ⟨HIN.out⟩, ⟨HD.out⟩, ⟨KeepBut.refl _ _ _⟩, ⟨Below.refl _ _⟩, ⟨fun _ => rfl⟩, ⟨fun h => by cases h⟩⟩
 case round =>
  obtain ⟨i, cur, b, hi, rfl, rfl, HA, HC, HDW, HK, HB, HF0, HF1⟩ := hrel
  by_cases hlt : i < q.length
  ·obtain ⟨ad, eA, s0, s1, s2⟩ := at_T68 (HQ.out wr HB.out) (i : Int) (by omega) (by omega)
   rw [fe_rdsym _ _ hlt] at s0 s1 s2
   rw [Int.toNat_natCast] at s0 s1 s2
   subst eA
   have hx := HOK.out _ (List.getElem_mem hlt)
   have hA2 := HA.out
   rw [List.drop_eq_getElem_cons hlt] at hA2
   unfold posW at hA2
   have HA2 := Aside0.mk hA2
   clear hA2
   have hw1 : IntKind.i64.wrap ((i : Int) + 1) = (i : Int) + 1 := IntWalk.i64_in _ (by omega)
   generalize q[i] = x at *
   rcases hx with hx | hx
   ·have hneg : x.f0 < 0 := by omega
    have HA3 := HA2.out
    rw [if_pos hneg] at HA3
    have HA4 := Aside0.mk HA3
    clear HA2 HA3 hw1
    go_wp2
    go_roundw
    case rel => exact ⟨i + 1, cur, b, by omega, by go_num, rfl, HA4, HC, ⟨blk_alloc HDW.out _⟩, ⟨keep_alloc HK.out _⟩, ⟨HB.out.alloc (Nat.le_trans hbw HB.out.size) _⟩, HF0, HF1⟩
    case measure => simp [intOf]; omega
   ·obtain ⟨hx0, hx1⟩ := hx
    have hneg : ¬ x.f0 < 0 := by omega
    have HA3 := HA2.out
    rw [if_neg hneg] at HA3
    have HA4 := Aside0.mk HA3
    clear HA2 HA3
    have hjl : x.f0.toNat < cur.length := by rw [HC.out.1]; omega
    have hdl : hd.toNat < cur.length := by rw [HC.out.1]; omega
    obtain ⟨y0, y1, y2, y3, y4⟩ := rowW_cells HDW.out x.f0.toNat hjl
    obtain ⟨z0, z1, z2, z3, z4⟩ := rowW_cells HDW.out hd.toNat hdl
    have HEND := Aside0.mk (fe_turn38_end (e := e) (h := hd) (q := q.drop (i + 1)) HFS.out HC.out hx1 hneg HF0.out HF1.out)
    have HONE : Aside0 (oneW e fs hd x (q.drop (i + 1)) cur = cur.set x.f0.toNat (newF e fs (cur.getD hd.toNat z66) (q.drop (i + 1)) (cur.getD x.f0.toNat z66))) := ⟨by unfold oneW; rw [if_neg hneg]⟩
    have HINN := Aside0.mk (oneW_in (e := e) (h := hd) (x := x) (q := q.drop (i + 1)) HFS.out HC.out)
    obtain ⟨y, HY⟩ : ∃ y, Aside0 (cur.getD x.f0.toNat z66 = y) := ⟨_, ⟨rfl⟩⟩
    obtain ⟨z, HZ⟩ : ∃ z, Aside0 (cur.getD hd.toNat z66 = z) := ⟨_, ⟨rfl⟩⟩
    rw [HY.out] at y0 y1 y2 y3 y4 HA4 HEND HONE
    rw [HZ.out] at z0 z1 z2 z3 z4 HA4 HEND HONE
    obtain ⟨A2, HA5⟩ : ∃ A2, Aside0 ((if c = i + 1 then (some ad) else (some ad : Option Addr).map (·.add ((i + 1) * 3))) = A2) := ⟨_, ⟨rfl⟩⟩
    have hcut : ∀ W : World, (Instr.slice 56 (.slice (some ad) q.length c) (some (.int .i64 ((i : Int) + 1))) none none).run Try.prog W = .ok (.slice A2 (q.drop (i + 1)).length (c - (i + 1))) W := by
     intro W
     have h := cut_from (P := Try.prog) 56 68 .i64 Try.underlying56 HI.out 3 HZ1.out (some ad) q.length c ((i : Int) + 1) (by omega) (by omega) W
     rw [show ((i : Int) + 1).toNat = i + 1 from by omega, HA5.out] at h
     rw [List.length_drop]
     exact h
    have HQ2 : Aside0 (∀ W, Below base w W → Kd.C k68 W A2 (q.drop (i + 1)).length (q.drop (i + 1))) := ⟨fun W hW => by rw [← HA5.out]; exact Kd.C_drop (HQ.out W hW) (by omega) hqc⟩
    have HOK2 : Aside0 (∀ x ∈ q.drop (i + 1), SymF e.length x) := ⟨fun x hx => by rw [HEL.out]; exact HOK.out x (List.mem_of_mem_drop hx)⟩
    have hl2 : (q.drop (i + 1)).length ≤ 64 := by rw [List.length_drop]; omega
    generalize hq2 : q.drop (i + 1) = q2 at *
    have HQE := Aside0.mk hq2
    clear hq2
    have lw := blk_lt HDW.out
    have lw1 := keep_size HK.out
    have lbx : bx < wr.heap.size := by omega
    have lex : ex < wr.heap.size := by omega
    have lfx : fx < wr.heap.size := by omega
    have kb0 : wr.cell? ⟨bx, 0, none⟩ = some (.slice (some ⟨ob, 0, none⟩) n n) := (blk_cell (HK.out.blk HBX.out n1 (by simp)) 0).trans rfl
    have hx2 : x.f0 < (n : Int) := hx1
    have DA : Aside0 (((wr.alloc (.cells #[.int .i64 x.f0, .int .i64 x.f1, .int .i64 x.f2] 68 (0, 0))).alloc (.cells #[.int .u64 y.f0.f0, .int .u64 y.f0.f1, .int .u64 y.f0.f2, .int .u64 y.f0.f3, .bool y.f1] 66 (0, 0))).drew.heap[wr.heap.size]? = some (.cells #[.int .i64 x.f0, .int .i64 x.f1, .int .i64 x.f2] 68 (0, 0))) := ⟨blk_drew (blk_alloc (blk_new wr (.cells #[.int .i64 x.f0, .int .i64 x.f1, .int .i64 x.f2] 68 (0, 0))) _)⟩
    have DB : Aside0 (((wr.alloc (.cells #[.int .i64 x.f0, .int .i64 x.f1, .int .i64 x.f2] 68 (0, 0))).alloc (.cells #[.int .u64 y.f0.f0, .int .u64 y.f0.f1, .int .u64 y.f0.f2, .int .u64 y.f0.f3, .bool y.f1] 66 (0, 0))).drew.heap[wr.heap.size + 1]? = some (.cells #[.int .u64 y.f0.f0, .int .u64 y.f0.f1, .int .u64 y.f0.f2, .int .u64 y.f0.f3, .bool y.f1] 66 (0, 0))) := ⟨blk_drew (by have h := blk_new (wr.alloc (.cells #[.int .i64 x.f0, .int .i64 x.f1, .int .i64 x.f2] 68 (0, 0))) (.cells #[.int .u64 y.f0.f0, .int .u64 y.f0.f1, .int .u64 y.f0.f2, .int .u64 y.f0.f3, .bool y.f1] 66 (0, 0)); rwa [show (wr.alloc (.cells #[.int .i64 x.f0, .int .i64 x.f1, .int .i64 x.f2] 68 (0, 0))).heap.size = wr.heap.size + 1 from by simp] at h)⟩
    have B0 : Aside0 (Below wr.heap.size wr ((wr.alloc (.cells #[.int .i64 x.f0, .int .i64 x.f1, .int .i64 x.f2] 68 (0, 0))).alloc (.cells #[.int .u64 y.f0.f0, .int .u64 y.f0.f1, .int .u64 y.f0.f2, .int .u64 y.f0.f3, .bool y.f1] 66 (0, 0))).drew) := ⟨(((Below.refl _ wr).alloc (Nat.le_refl _) _).alloc (by simp) _).drew⟩
    have BX0 : Aside0 (wr.heap[bx]? = some (.cells #[.slice (some ⟨ob, 0, none⟩) n n] 38 (0, 0))) := ⟨HK.out.blk HBX.out n1 (by simp)⟩
    have EX0 : Aside0 (wr.heap[ex]? = some (.cells #[.slice Ae e.length ce] 27 (0, 0))) := ⟨HK.out.blk HEX.out n2 (by simp)⟩
    have FX0 : Aside0 (wr.heap[fx]? = some (.cells #[.slice Af fs.length cf] 33 (0, 0))) := ⟨HK.out.blk HFX.out n3 (by simp)⟩
    have KW : Aside0 (∀ W, Below wr.heap.size wr W → KeepBut w W ob none) := ⟨fun W hW => HK.out.trans (KeepBut.of_below hW ob none) (.inl rfl)⟩
    have BW : Aside0 (∀ W, Below wr.heap.size wr W → Below base w W) := ⟨fun W hW => HB.out.trans (hW.mono (Nat.le_trans hbw lw1))⟩
    obtain ⟨g1, HG1⟩ : ∃ g1, Aside0 (begA e fs z63 q2 = g1) := ⟨_, ⟨rfl⟩⟩
    have Y0 := Aside0.mk y0
    have Y1 := Aside0.mk y1
    have Y2 := Aside0.mk y2
    have Y3 := Aside0.mk y3
    have Y4 := Aside0.mk y4
    have Z0 := Aside0.mk z0
    have Z1 := Aside0.mk z1
    have Z2 := Aside0.mk z2
    have Z3 := Aside0.mk z3
    have Z4 := Aside0.mk z4
    clear z0 z1 z2 z3 z4
    go_wp2
    clear y0 y1 y2 y3 y4 kb0 s0 s1 s2
    refine start_ (n := 12) (S := fun w' => w'.cell? ⟨wr.heap.size + 1, 0, none⟩ = some (.int .u64 y.f0.f0) ∧ w'.cell? ⟨wr.heap.size + 1, 1, none⟩ = some (.int .u64 y.f0.f1) ∧ w'.cell? ⟨wr.heap.size + 1, 2, none⟩ = some (.int .u64 y.f0.f2) ∧ w'.cell? ⟨wr.heap.size + 1, 3, none⟩ = some (.int .u64 y.f0.f3) ∧ w'.cell? ⟨ex, 0, none⟩ = some (.slice Ae e.length ce) ∧ w'.cell? ⟨fx, 0, none⟩ = some (.slice Af fs.length cf)) (ds := [11]) #[false, false, false, false, false, false, false, false, false, false, false, false] (by kernel_rfl) rfl rfl ⟨(blk_cell DB.out 0).trans rfl, (blk_cell DB.out 1).trans rfl, (blk_cell DB.out 2).trans rfl, (blk_cell DB.out 3).trans rfl, (blk_cell (blk_below EX0.out B0.out) 0).trans rfl, (blk_cell (blk_below FX0.out B0.out) 0).trans rfl⟩ (fun hHeld => ?_)
    refine with_tabW fe_turn38.tab7 fe_turn38.bits7 (fun HT_ HW_ => ?_)
    refine pure_ (i := 0) (N := some 27) (v := ?_) (a' := ?_) #[true, false, false, false, false, false, false, false, false, false, false, false] rfl rfl (any_of HT_.out (by kernel_rfl)) (fun _ _ _ h => h) (Or.inl ⟨by rfl, ?_⟩) ?_ ?_
    rotate_left
    ·intro w'
     go_simp
     with_reducible rfl
    rotate_left
    ·simp only [Act.put, List.setIfInBounds_toArray, List.set_cons_zero, List.set_cons_succ, i64_w, i32_w]
     rfl
    refine pure_ (i := 2) (N := some 29) (v := ?_) (a' := ?_) #[true, false, true, false, false, false, false, false, false, false, false, false] rfl rfl (any_of HT_.out (by kernel_rfl)) (fun _ _ _ h => h) (Or.inl ⟨by rfl, ?_⟩) ?_ ?_
    rotate_left
    ·intro w'
     go_simp
     with_reducible rfl
    rotate_left
    ·simp only [Act.put, List.setIfInBounds_toArray, List.set_cons_zero, List.set_cons_succ, i64_w, i32_w]
     rfl
    refine pure_ (i := 3) (N := some 30) (v := ?_) (a' := ?_) #[true, false, true, true, false, false, false, false, false, false, false, false] rfl rfl (any_of HT_.out (by kernel_rfl)) (fun _ _ _ h => h) (Or.inl ⟨by rfl, ?_⟩) ?_ ?_
    rotate_left
    ·intro w'
     go_simp
     with_reducible rfl
    rotate_left
    ·simp only [Act.put, List.setIfInBounds_toArray, List.set_cons_zero, List.set_cons_succ, i64_w, i32_w]
     rfl
    refine pure_ (i := 4) (N := some 31) (v := ?_) (a' := ?_) #[true, false, true, true, true, false, false, false, false, false, false, false] rfl rfl (any_of HT_.out (by kernel_rfl)) (fun _ _ _ h => h) (Or.inl ⟨by rfl, ?_⟩) ?_ ?_
    rotate_left
    ·intro w'
     go_simp
     with_reducible rfl
    rotate_left
    ·simp only [Act.put, List.setIfInBounds_toArray, List.set_cons_zero, List.set_cons_succ, i64_w, i32_w]
     rfl
    refine pure_ (i := 5) (N := some 32) (v := ?_) (a' := ?_) #[true, false, true, true, true, true, false, false, false, false, false, false] rfl rfl (any_of HT_.out (by kernel_rfl)) (fun _ _ _ h => h) (Or.inl ⟨by rfl, ?_⟩) ?_ ?_
    rotate_left
    ·intro w'
     go_simp
     with_reducible rfl
    rotate_left
    ·simp only [Act.put, List.setIfInBounds_toArray, List.set_cons_zero, List.set_cons_succ, i64_w, i32_w]
     rfl
    refine take_ (i := 1) (N := some 28) (v := ?_) (a' := ?_) #[true, true, true, true, true, true, false, false, false, false, false, false] rfl rfl (take_ofW HT_.out HW_.out (by kernel_rfl)) (fun _ _ _ h => h) (Or.inl ⟨by rfl, ?_⟩) hHeld ?_ ?_
    rotate_left
    ·rintro w' ⟨s0, s1, s2, s3, s4, s5⟩
     go_simp
     with_reducible rfl
    rotate_left
    ·simp only [Act.put, List.setIfInBounds_toArray, List.set_cons_zero, List.set_cons_succ, i64_w, i32_w]
     rfl
    refine take_ (i := 6) (N := some 33) (v := ?_) (a' := ?_) #[true, true, true, true, true, true, true, false, false, false, false, false] rfl rfl (take_ofW HT_.out HW_.out (by kernel_rfl)) (fun _ _ _ h => h) (Or.inl ⟨by rfl, ?_⟩) hHeld ?_ ?_
    rotate_left
    ·rintro w' ⟨s0, s1, s2, s3, s4, s5⟩
     go_simp
     with_reducible rfl
    rotate_left
    ·simp only [Act.put, List.setIfInBounds_toArray, List.set_cons_zero, List.set_cons_succ, i64_w, i32_w]
     rfl
    refine take_ (i := 7) (N := some 34) (v := ?_) (a' := ?_) #[true, true, true, true, true, true, true, true, false, false, false, false] rfl rfl (take_ofW HT_.out HW_.out (by kernel_rfl)) (fun _ _ _ h => h) (Or.inl ⟨by rfl, ?_⟩) hHeld ?_ ?_
    rotate_left
    ·rintro w' ⟨s0, s1, s2, s3, s4, s5⟩
     go_simp
     with_reducible rfl
    rotate_left
    ·simp only [Act.put, List.setIfInBounds_toArray, List.set_cons_zero, List.set_cons_succ, i64_w, i32_w]
     rfl
    refine one_ (i := 8) (N := some 35) #[true, true, true, true, true, true, true, true, true, false, false, false] rfl rfl (one_of HT_.out (by kernel_rfl)) (by decide) (fun K hK => ?_)
    refine goes_ Try.func36 (by kernel_rfl) rfl #[.slice A2 q2.length (c - (i + 1)), .slice Ae e.length ce, .slice Af fs.length cf] (by rfl) rfl rfl (by (try simp only [List.map_toArray, List.map_cons, List.map_nil]); first | done | rfl) ?_
    refine (fe_begins q2 A2 (c - (i + 1)) e Ae ce fs Af cf _ (HQ2.out _ (BW.out _ B0.out)) (HKE.out _ (KW.out _ B0.out)) (HKF.out _ (KW.out _ B0.out)) HOK2.out (HFL.out.trans HEL.out.symm) hl2).mono ?_
    rw [HG1.out]
    rintro e1 w1 ⟨rfl, hb1⟩
    have HB1 := Aside0.mk hb1
    clear hb1
    refine ⟨_, rfl, ?_⟩
    refine hK.out _ _ ⟨pw_cell_below HB1.out ((blk_cell DB.out 0).trans rfl), pw_cell_below HB1.out ((blk_cell DB.out 1).trans rfl), pw_cell_below HB1.out ((blk_cell DB.out 2).trans rfl), pw_cell_below HB1.out ((blk_cell DB.out 3).trans rfl), pw_cell_below HB1.out ((blk_cell (blk_below EX0.out B0.out) 0).trans rfl), pw_cell_below HB1.out ((blk_cell (blk_below FX0.out B0.out) 0).trans rfl)⟩ (fun hHeld => ?_)
    clear hK K
    refine norm_ (a' := ?_) ?_ ?_
    rotate_left
    ·show Act.put _ (some 35) _ = _
     simp only [Act.put, List.setIfInBounds_toArray, List.set_cons_zero, List.set_cons_succ, i64_w, i32_w]
     rfl
    refine one_ (i := 9) (N := some 36) #[true, true, true, true, true, true, true, true, true, true, false, false] rfl rfl (one_of HT_.out (by kernel_rfl)) (by decide) (fun K hK => ?_)
    refine goes_ Try.func35 (by kernel_rfl) rfl #[.agg #[.int .u64 y.f0.f0, .int .u64 y.f0.f1, .int .u64 y.f0.f2, .int .u64 y.f0.f3], .agg #[.int .u64 g1.f0, .int .u64 g1.f1, .int .u64 g1.f2, .int .u64 g1.f3]] (by rfl) rfl rfl (by (try simp only [List.map_toArray, List.map_cons, List.map_nil]); first | done | rfl) ?_
    refine (fe_or y.f0 g1 _).mono ?_
    rintro e2 w2 ⟨rfl, hb2⟩
    have HB2 := Aside0.mk hb2
    clear hb2
    refine ⟨_, rfl, ?_⟩
    refine hK.out _ _ ⟨pw_cell_below HB2.out (pw_cell_below HB1.out ((blk_cell DB.out 0).trans rfl)), pw_cell_below HB2.out (pw_cell_below HB1.out ((blk_cell DB.out 1).trans rfl)), pw_cell_below HB2.out (pw_cell_below HB1.out ((blk_cell DB.out 2).trans rfl)), pw_cell_below HB2.out (pw_cell_below HB1.out ((blk_cell DB.out 3).trans rfl)), pw_cell_below HB2.out (pw_cell_below HB1.out ((blk_cell (blk_below EX0.out B0.out) 0).trans rfl)), pw_cell_below HB2.out (pw_cell_below HB1.out ((blk_cell (blk_below FX0.out B0.out) 0).trans rfl))⟩ (fun hHeld => ?_)
    clear hK K
    refine norm_ (a' := ?_) ?_ ?_
    rotate_left
    ·show Act.put _ (some 36) _ = _
     simp only [Act.put, List.setIfInBounds_toArray, List.set_cons_zero, List.set_cons_succ, i64_w, i32_w]
     rfl
    refine pure_ (i := 10) (N := some 37) (v := ?_) (a' := ?_) #[true, true, true, true, true, true, true, true, true, true, true, false] rfl rfl (any_of HT_.out (by kernel_rfl)) (fun _ _ _ h => h) (Or.inl ⟨by rfl, ?_⟩) ?_ ?_
    rotate_left
    ·intro w'
     go_simp
     with_reducible rfl
    rotate_left
    ·simp only [Act.put, List.setIfInBounds_toArray, List.set_cons_zero, List.set_cons_succ, i64_w, i32_w]
     rfl
    refine last_ (i := 11) (N := none) #[true, true, true, true, true, true, true, true, true, true, true, true] rfl rfl (one_of HT_.out (by kernel_rfl)) (by decide) (fun K hK => ?_)
    have M := Aside0.mk (blk_below (blk_below DB.out HB1.out) HB2.out)
    have m0 : w2.cell? ⟨wr.heap.size + 1, 0, none⟩ = some (.int .u64 y.f0.f0) := (blk_cell M.out 0).trans rfl
    have m1 : w2.cell? ⟨wr.heap.size + 1, 1, none⟩ = some (.int .u64 y.f0.f1) := (blk_cell M.out 1).trans rfl
    have m2 : w2.cell? ⟨wr.heap.size + 1, 2, none⟩ = some (.int .u64 y.f0.f2) := (blk_cell M.out 2).trans rfl
    have m3 : w2.cell? ⟨wr.heap.size + 1, 3, none⟩ = some (.int .u64 y.f0.f3) := (blk_cell M.out 3).trans rfl
    have v0 := blk_frozen M.out 0
    have v1 := blk_frozen M.out 1
    have v2 := blk_frozen M.out 2
    have v3 := blk_frozen M.out 3
    refine skip_ (w1 := ?_) (by rfl) rfl ?_ ?_
    rotate_left
    ·go_simp
     rfl
    refine hK.out _ _ ?_
    clear hK K
    refine done_ (done_of HT_.out (by kernel_rfl)) ?_
    have B12 : Aside0 (Below wr.heap.size wr w2) := ⟨(B0.out.trans (HB1.out.mono B0.out.size)).trans (HB2.out.mono (Nat.le_trans B0.out.size HB1.out.size))⟩
    have C7 : Aside0 (Below wr.heap.size wr ((((w2.setCell ⟨wr.heap.size + 1, 0, none⟩ (.int .u64 (orS y.f0 g1).f0)).setCell ⟨wr.heap.size + 1, 1, none⟩ (.int .u64 (orS y.f0 g1).f1)).setCell ⟨wr.heap.size + 1, 2, none⟩ (.int .u64 (orS y.f0 g1).f2)).setCell ⟨wr.heap.size + 1, 3, none⟩ (.int .u64 (orS y.f0 g1).f3))) := ⟨(((B12.out.setCell (p := ⟨_, _, none⟩) (Nat.le_succ _) _).setCell (p := ⟨_, _, none⟩) (Nat.le_succ _) _).setCell (p := ⟨_, _, none⟩) (Nat.le_succ _) _).setCell (p := ⟨_, _, none⟩) (Nat.le_succ _) _⟩
    have N11 : Aside0 (((((w2.setCell ⟨wr.heap.size + 1, 0, none⟩ (.int .u64 (orS y.f0 g1).f0)).setCell ⟨wr.heap.size + 1, 1, none⟩ (.int .u64 (orS y.f0 g1).f1)).setCell ⟨wr.heap.size + 1, 2, none⟩ (.int .u64 (orS y.f0 g1).f2)).setCell ⟨wr.heap.size + 1, 3, none⟩ (.int .u64 (orS y.f0 g1).f3)).heap[wr.heap.size + 1]? = some (.cells #[.int .u64 (orS y.f0 g1).f0, .int .u64 (orS y.f0 g1).f1, .int .u64 (orS y.f0 g1).f2, .int .u64 (orS y.f0 g1).f3, .bool y.f1] 66 (0, 0))) := ⟨blk_put (blk_put (blk_put (blk_put M.out 0 _ rfl) 1 _ rfl) 2 _ rfl) 3 _ rfl⟩
    have N10 : Aside0 (((((w2.setCell ⟨wr.heap.size + 1, 0, none⟩ (.int .u64 (orS y.f0 g1).f0)).setCell ⟨wr.heap.size + 1, 1, none⟩ (.int .u64 (orS y.f0 g1).f1)).setCell ⟨wr.heap.size + 1, 2, none⟩ (.int .u64 (orS y.f0 g1).f2)).setCell ⟨wr.heap.size + 1, 3, none⟩ (.int .u64 (orS y.f0 g1).f3)).heap[wr.heap.size]? = some (.cells #[.int .i64 x.f0, .int .i64 x.f1, .int .i64 x.f2] 68 (0, 0))) := ⟨blk_far (blk_far (blk_far (blk_far (blk_below (blk_below DA.out HB1.out) HB2.out) (by simp) _) (by simp) _) (by simp) _) (by simp) _⟩
    clear m0 m1 m2 m3 v0 v1 v2 v3 M B12 DA DB HB1 HB2
    generalize ((((w2.setCell ⟨wr.heap.size + 1, 0, none⟩ (.int .u64 (orS y.f0 g1).f0)).setCell ⟨wr.heap.size + 1, 1, none⟩ (.int .u64 (orS y.f0 g1).f1)).setCell ⟨wr.heap.size + 1, 2, none⟩ (.int .u64 (orS y.f0 g1).f2)).setCell ⟨wr.heap.size + 1, 3, none⟩ (.int .u64 (orS y.f0 g1).f3)) = W7 at *
    obtain ⟨rn, HN⟩ : ∃ rn, Aside0 (nothB e q2 = rn) := ⟨_, ⟨rfl⟩⟩
    go_wp2
    refine start_ (n := 6) (S := fun w' => w'.cell? ⟨ex, 0, none⟩ = some (.slice Ae e.length ce)) (ds := []) #[false, false, false, false, false, false] (by kernel_rfl) rfl rfl ((blk_cell (blk_drew (blk_below EX0.out C7.out)) 0).trans rfl) (fun hHeld => ?_)
    refine with_tabW fe_turn38.tab8 fe_turn38.bits8 (fun HT_ HW_ => ?_)
    refine pure_ (i := 0) (N := some 38) (v := ?_) (a' := ?_) #[true, false, false, false, false, false] rfl rfl (any_of HT_.out (by kernel_rfl)) (fun _ _ _ h => h) (Or.inl ⟨by rfl, ?_⟩) ?_ ?_
    rotate_left
    ·intro w'
     go_simp
     with_reducible rfl
    rotate_left
    ·simp only [Act.put, List.setIfInBounds_toArray, List.set_cons_zero, List.set_cons_succ, i64_w, i32_w]
     rfl
    refine pure_ (i := 1) (N := some 39) (v := ?_) (a' := ?_) #[true, true, false, false, false, false] rfl rfl (any_of HT_.out (by kernel_rfl)) (fun _ _ _ h => h) (Or.inl ⟨by rfl, ?_⟩) ?_ ?_
    rotate_left
    ·intro w'
     go_simp
     with_reducible rfl
    rotate_left
    ·simp only [Act.put, List.setIfInBounds_toArray, List.set_cons_zero, List.set_cons_succ, i64_w, i32_w]
     rfl
    refine pure_ (i := 2) (N := some 40) (v := ?_) (a' := ?_) #[true, true, true, false, false, false] rfl rfl (any_of HT_.out (by kernel_rfl)) (fun _ _ _ h => h) (Or.inl ⟨by rfl, ?_⟩) ?_ ?_
    rotate_left
    ·intro w'
     go_simp
     with_reducible rfl
    rotate_left
    ·simp only [Act.put, List.setIfInBounds_toArray, List.set_cons_zero, List.set_cons_succ, i64_w, i32_w]
     rfl
    refine pure_ (i := 3) (N := some 41) (v := ?_) (a' := ?_) #[true, true, true, true, false, false] rfl rfl (any_of HT_.out (by kernel_rfl)) (fun _ _ _ h => h) (Or.inl ⟨by rfl, ?_⟩) ?_ ?_
    rotate_left
    ·intro w'
     go_simp
     with_reducible rfl
    rotate_left
    ·simp only [Act.put, List.setIfInBounds_toArray, List.set_cons_zero, List.set_cons_succ, i64_w, i32_w]
     rfl
    refine take_ (i := 4) (N := some 42) (v := ?_) (a' := ?_) #[true, true, true, true, true, false] rfl rfl (take_ofW HT_.out HW_.out (by kernel_rfl)) (fun _ _ _ h => h) (Or.inl ⟨by rfl, ?_⟩) hHeld ?_ ?_
    rotate_left
    ·rintro w' s0
     go_simp
     with_reducible rfl
    rotate_left
    ·simp only [Act.put, List.setIfInBounds_toArray, List.set_cons_zero, List.set_cons_succ, i64_w, i32_w]
     rfl
    refine one_ (i := 5) (N := some 43) #[true, true, true, true, true, true] rfl rfl (one_of HT_.out (by kernel_rfl)) (by decide) (fun K hK => ?_)
    refine goes_ Try.func32 (by kernel_rfl) rfl #[.slice A2 q2.length (c - (i + 1)), .slice Ae e.length ce] (by rfl) rfl rfl (by (try simp only [List.map_toArray, List.map_cons, List.map_nil]); first | done | rfl) ?_
    refine (fe_nothing q2 A2 (c - (i + 1)) e Ae ce _ (HQ2.out _ (BW.out _ C7.out.drew)) (HKE.out _ (KW.out _ C7.out.drew)) (fun x hx => by have := HOK2.out x hx; rcases this with h | h <;> omega) hl2).mono ?_
    rw [HN.out]
    rintro e3 w3 ⟨rfl, hb3⟩
    have HB3 := Aside0.mk hb3
    clear hb3
    refine ⟨_, rfl, ?_⟩
    refine hK.out _ _ (pw_cell_below HB3.out ((blk_cell (blk_drew (blk_below EX0.out C7.out)) 0).trans rfl)) (fun hHeld => ?_)
    clear hK K
    refine norm_ (a' := ?_) ?_ ?_
    rotate_left
    ·show Act.put _ (some 43) _ = _
     simp only [Act.put, List.setIfInBounds_toArray, List.set_cons_zero, List.set_cons_succ, i64_w, i32_w]
     rfl
    refine done_ (done_of HT_.out (by kernel_rfl)) ?_
    have C8 : Aside0 (Below wr.heap.size wr w3) := ⟨C7.out.drew.trans (HB3.out.mono C7.out.size)⟩
    have P11 := Aside0.mk (blk_below (blk_drew N11.out) HB3.out)
    have P10 := Aside0.mk (blk_below (blk_drew N10.out) HB3.out)
    clear N11 N10 C7 HB3
    cases rn with
    | false =>
     obtain ⟨f, HFE⟩ : ∃ f : S66, Aside0 ((⟨orS y.f0 g1, y.f1⟩ : S66) = f) := ⟨_, ⟨rfl⟩⟩
     have HNF : Aside0 (newF e fs z q2 y = f) := ⟨by unfold newF; rw [if_neg (by rw [HN.out]; decide), HG1.out]; exact HFE.out⟩
     have N11 : Aside0 (w3.heap[wr.heap.size + 1]? = some (.cells #[.int .u64 f.f0.f0, .int .u64 f.f0.f1, .int .u64 f.f0.f2, .int .u64 f.f0.f3, .bool f.f1] 66 (0, 0))) := ⟨by rw [← HFE.out]; exact P11.out⟩
     have N10 := Aside0.mk P10.out
     have C9 := Aside0.mk C8.out
     clear P11 P10 C8
     generalize w3 = W9 at *
     have HA6 : Aside0 (posW e fs hd q2 (cur.set x.f0.toNat f) = r) := ⟨by rw [← HNF.out]; exact HA4.out⟩
     have HIN2 : Aside0 (InW n (cur.set x.f0.toNat f)) := ⟨by rw [← HNF.out, ← HONE.out]; exact HINN.out⟩
     have HEN2 := Aside0.mk HEND.out
     rw [HONE.out, HNF.out] at HEN2
     go_wp2
     cases b with
     | true =>
      refine start_ (n := 11) (S := fun w' => w'.cell? ⟨wr.heap.size + 1, 0, none⟩ = some (.int .u64 f.f0.f0) ∧ w'.cell? ⟨wr.heap.size + 1, 1, none⟩ = some (.int .u64 f.f0.f1) ∧ w'.cell? ⟨wr.heap.size + 1, 2, none⟩ = some (.int .u64 f.f0.f2) ∧ w'.cell? ⟨wr.heap.size + 1, 3, none⟩ = some (.int .u64 f.f0.f3) ∧ w'.cell? ⟨wr.heap.size + 1, 4, none⟩ = some (.bool f.f1) ∧ w'.cell? ⟨bx, 0, none⟩ = some (.slice (some ⟨ob, 0, none⟩) n n) ∧ w'.cell? ⟨wr.heap.size, 0, none⟩ = some (.int .i64 x.f0) ∧ w'.cell? ⟨ob, x.f0.toNat * 5, none⟩ = some (.int .u64 y.f0.f0) ∧ w'.cell? ⟨ob, x.f0.toNat * 5 + 1, none⟩ = some (.int .u64 y.f0.f1) ∧ w'.cell? ⟨ob, x.f0.toNat * 5 + 2, none⟩ = some (.int .u64 y.f0.f2) ∧ w'.cell? ⟨ob, x.f0.toNat * 5 + 3, none⟩ = some (.int .u64 y.f0.f3) ∧ w'.cell? ⟨ob, x.f0.toNat * 5 + 4, none⟩ = some (.bool y.f1)) (ds := []) #[false, false, false, false, false, false, false, false, false, false, false] (by kernel_rfl) rfl rfl ⟨(blk_cell (blk_drew N11.out) 0).trans rfl, (blk_cell (blk_drew N11.out) 1).trans rfl, (blk_cell (blk_drew N11.out) 2).trans rfl, (blk_cell (blk_drew N11.out) 3).trans rfl, (blk_cell (blk_drew N11.out) 4).trans rfl, (blk_cell (blk_drew (blk_below BX0.out C9.out)) 0).trans rfl, (blk_cell (blk_drew N10.out) 0).trans rfl, pw_cell_below C9.out.drew Y0.out, pw_cell_below C9.out.drew Y1.out, pw_cell_below C9.out.drew Y2.out, pw_cell_below C9.out.drew Y3.out, pw_cell_below C9.out.drew Y4.out⟩ (fun hHeld => ?_)
      refine with_tabW fe_turn38.tab10 fe_turn38.bits10 (fun HT_ HW_ => ?_)
      refine pure_ (i := 0) (N := some 63) (v := ?_) (a' := ?_) #[true, false, false, false, false, false, false, false, false, false, false] rfl rfl (any_of HT_.out (by kernel_rfl)) (fun _ _ _ h => h) (Or.inl ⟨by rfl, ?_⟩) ?_ ?_
      rotate_left
      ·intro w'
       go_simp
       with_reducible rfl
      rotate_left
      ·simp only [Act.put, List.setIfInBounds_toArray, List.set_cons_zero, List.set_cons_succ, i64_w, i32_w]
       rfl
      refine pure_ (i := 1) (N := some 64) (v := ?_) (a' := ?_) #[true, true, false, false, false, false, false, false, false, false, false] rfl rfl (any_of HT_.out (by kernel_rfl)) (fun _ _ _ h => h) (Or.inl ⟨by rfl, ?_⟩) ?_ ?_
      rotate_left
      ·intro w'
       go_simp
       with_reducible rfl
      rotate_left
      ·simp only [Act.put, List.setIfInBounds_toArray, List.set_cons_zero, List.set_cons_succ, i64_w, i32_w]
       rfl
      refine pure_ (i := 2) (N := some 65) (v := undef) (a' := ?_) #[true, true, true, false, false, false, false, false, false, false, false] rfl rfl (any_of HT_.out (by kernel_rfl)) (fun _ _ _ h => h) (Or.inr ⟨by rfl, rfl⟩) ?_ ?_
      rotate_left
      ·simp only [Act.put, List.setIfInBounds_toArray, List.set_cons_zero, List.set_cons_succ, i64_w, i32_w]
       rfl
      refine pure_ (i := 3) (N := some 66) (v := undef) (a' := ?_) #[true, true, true, true, false, false, false, false, false, false, false] rfl rfl (any_of HT_.out (by kernel_rfl)) (fun _ _ _ h => h) (Or.inr ⟨by rfl, rfl⟩) ?_ ?_
      rotate_left
      ·simp only [Act.put, List.setIfInBounds_toArray, List.set_cons_zero, List.set_cons_succ, i64_w, i32_w]
       rfl
      refine pure_ (i := 4) (N := some 67) (v := undef) (a' := ?_) #[true, true, true, true, true, false, false, false, false, false, false] rfl rfl (any_of HT_.out (by kernel_rfl)) (fun _ _ _ h => h) (Or.inr ⟨by rfl, rfl⟩) ?_ ?_
      rotate_left
      ·simp only [Act.put, List.setIfInBounds_toArray, List.set_cons_zero, List.set_cons_succ, i64_w, i32_w]
       rfl
      refine pure_ (i := 5) (N := some 68) (v := undef) (a' := ?_) #[true, true, true, true, true, true, false, false, false, false, false] rfl rfl (any_of HT_.out (by kernel_rfl)) (fun _ _ _ h => h) (Or.inr ⟨by rfl, rfl⟩) ?_ ?_
      rotate_left
      ·simp only [Act.put, List.setIfInBounds_toArray, List.set_cons_zero, List.set_cons_succ, i64_w, i32_w]
       rfl
      refine pure_ (i := 6) (N := some 69) (v := undef) (a' := ?_) #[true, true, true, true, true, true, true, false, false, false, false] rfl rfl (any_of HT_.out (by kernel_rfl)) (fun _ _ _ h => h) (Or.inr ⟨by rfl, rfl⟩) ?_ ?_
      rotate_left
      ·simp only [Act.put, List.setIfInBounds_toArray, List.set_cons_zero, List.set_cons_succ, i64_w, i32_w]
       rfl
      refine pure_ (i := 7) (N := some 70) (v := undef) (a' := ?_) #[true, true, true, true, true, true, true, true, false, false, false] rfl rfl (any_of HT_.out (by kernel_rfl)) (fun _ _ _ h => h) (Or.inr ⟨by rfl, rfl⟩) ?_ ?_
      rotate_left
      ·simp only [Act.put, List.setIfInBounds_toArray, List.set_cons_zero, List.set_cons_succ, i64_w, i32_w]
       rfl
      refine pure_ (i := 8) (N := some 71) (v := undef) (a' := ?_) #[true, true, true, true, true, true, true, true, true, false, false] rfl rfl (any_of HT_.out (by kernel_rfl)) (fun _ _ _ h => h) (Or.inr ⟨by rfl, rfl⟩) ?_ ?_
      rotate_left
      ·simp only [Act.put, List.setIfInBounds_toArray, List.set_cons_zero, List.set_cons_succ, i64_w, i32_w]
       rfl
      refine pure_ (i := 9) (N := some 72) (v := ?_) (a' := ?_) #[true, true, true, true, true, true, true, true, true, true, false] rfl rfl (any_of HT_.out (by kernel_rfl)) (fun _ _ _ h => h) (Or.inl ⟨by rfl, ?_⟩) ?_ ?_
      rotate_left
      ·intro w'
       go_simp
       with_reducible rfl
      rotate_left
      ·simp only [Act.put, List.setIfInBounds_toArray, List.set_cons_zero, List.set_cons_succ, i64_w, i32_w]
       rfl
      refine pure_ (i := 10) (N := some 8) (v := ?_) (a' := ?_) #[true, true, true, true, true, true, true, true, true, true, true] rfl rfl (any_of HT_.out (by kernel_rfl)) (fun _ _ _ h => h) (Or.inl ⟨by rfl, ?_⟩) ?_ ?_
      rotate_left
      ·intro w'
       go_simp
       with_reducible rfl
      rotate_left
      ·simp only [Act.put, List.setIfInBounds_toArray, List.set_cons_zero, List.set_cons_succ, i64_w, i32_w]
       rfl
      refine done_ (done_of HT_.out (by kernel_rfl)) ?_
      have u0 : W9.drew.cell? ⟨bx, 0, none⟩ = some (.slice (some ⟨ob, 0, none⟩) n n) := (blk_cell (blk_drew (blk_below BX0.out C9.out)) 0).trans rfl
      have u1 : W9.drew.cell? ⟨wr.heap.size, 0, none⟩ = some (.int .i64 x.f0) := (blk_cell (blk_drew N10.out) 0).trans rfl
      have u2 : W9.drew.cell? ⟨wr.heap.size + 1, 0, none⟩ = some (.int .u64 f.f0.f0) := (blk_cell (blk_drew N11.out) 0).trans rfl
      have u3 : W9.drew.cell? ⟨wr.heap.size + 1, 1, none⟩ = some (.int .u64 f.f0.f1) := (blk_cell (blk_drew N11.out) 1).trans rfl
      have u4 : W9.drew.cell? ⟨wr.heap.size + 1, 2, none⟩ = some (.int .u64 f.f0.f2) := (blk_cell (blk_drew N11.out) 2).trans rfl
      have u5 : W9.drew.cell? ⟨wr.heap.size + 1, 3, none⟩ = some (.int .u64 f.f0.f3) := (blk_cell (blk_drew N11.out) 3).trans rfl
      have u6 : W9.drew.cell? ⟨wr.heap.size + 1, 4, none⟩ = some (.bool f.f1) := (blk_cell (blk_drew N11.out) 4).trans rfl
      have t0 := pw_cell_below C9.out.drew Y0.out
      have t1 := pw_cell_below C9.out.drew Y1.out
      have t2 := pw_cell_below C9.out.drew Y2.out
      have t3 := pw_cell_below C9.out.drew Y3.out
      have t4 := pw_cell_below C9.out.drew Y4.out
      have D9 := Aside0.mk (blk_below HDW.out C9.out.drew)
      have E9 := Aside0.mk (blk_below HDW.out C9.out)
      have t0_ := pw_cell_below C9.out Y0.out
      have t1_ := pw_cell_below C9.out Y1.out
      have t2_ := pw_cell_below C9.out Y2.out
      have t3_ := pw_cell_below C9.out Y3.out
      have t4_ := pw_cell_below C9.out Y4.out
      have v0_ := blk_frozen E9.out (x.f0.toNat * 5)
      have v1_ := blk_frozen E9.out (x.f0.toNat * 5 + 1)
      have v2_ := blk_frozen E9.out (x.f0.toNat * 5 + 2)
      have v3_ := blk_frozen E9.out (x.f0.toNat * 5 + 3)
      have v4_ := blk_frozen E9.out (x.f0.toNat * 5 + 4)
      have v0 := blk_frozen D9.out (x.f0.toNat * 5)
      have v1 := blk_frozen D9.out (x.f0.toNat * 5 + 1)
      have v2 := blk_frozen D9.out (x.f0.toNat * 5 + 2)
      have v3 := blk_frozen D9.out (x.f0.toNat * 5 + 3)
      have v4 := blk_frozen D9.out (x.f0.toNat * 5 + 4)
      go_wp2
      go_roundw
      case rel =>
       refine ⟨i + 1, cur.set x.f0.toNat f, true, by omega, by go_num, rfl, ⟨by rw [HQE.out]; exact HA6.out⟩, HIN2, ?_, ?_, ?_, ⟨(HEN2.out true (by first | rfl | simp)).1⟩, ⟨(HEN2.out true (by first | rfl | simp)).2⟩⟩
       ·exact ⟨blk_drew (by rw [← encW_set _ _ _ hjl]; exact blk_put (blk_put (blk_put (blk_put (blk_put E9.out _ _ rfl) _ _ rfl) _ _ rfl) _ _ rfl) _ _ rfl)⟩
       ·exact ⟨keep_drew ((((((KW.out _ C9.out).set_ _ _).set_ _ _).set_ _ _).set_ _ _).set_ _ _)⟩
       ·exact ⟨((((((BW.out _ C9.out).setCell (p := ⟨ob, _, none⟩) hb _).setCell (p := ⟨ob, _, none⟩) hb _).setCell (p := ⟨ob, _, none⟩) hb _).setCell (p := ⟨ob, _, none⟩) hb _).setCell (p := ⟨ob, _, none⟩) hb _).drew⟩
      case measure => simp [intOf]; omega
     | false =>
      refine start_ (n := 11) (S := fun w' => w'.cell? ⟨wr.heap.size + 1, 0, none⟩ = some (.int .u64 f.f0.f0) ∧ w'.cell? ⟨wr.heap.size + 1, 1, none⟩ = some (.int .u64 f.f0.f1) ∧ w'.cell? ⟨wr.heap.size + 1, 2, none⟩ = some (.int .u64 f.f0.f2) ∧ w'.cell? ⟨wr.heap.size + 1, 3, none⟩ = some (.int .u64 f.f0.f3) ∧ w'.cell? ⟨wr.heap.size + 1, 4, none⟩ = some (.bool f.f1) ∧ w'.cell? ⟨bx, 0, none⟩ = some (.slice (some ⟨ob, 0, none⟩) n n) ∧ w'.cell? ⟨wr.heap.size, 0, none⟩ = some (.int .i64 x.f0) ∧ w'.cell? ⟨ob, x.f0.toNat * 5, none⟩ = some (.int .u64 y.f0.f0) ∧ w'.cell? ⟨ob, x.f0.toNat * 5 + 1, none⟩ = some (.int .u64 y.f0.f1) ∧ w'.cell? ⟨ob, x.f0.toNat * 5 + 2, none⟩ = some (.int .u64 y.f0.f2) ∧ w'.cell? ⟨ob, x.f0.toNat * 5 + 3, none⟩ = some (.int .u64 y.f0.f3) ∧ w'.cell? ⟨ob, x.f0.toNat * 5 + 4, none⟩ = some (.bool y.f1)) (ds := []) #[false, false, false, false, false, false, false, false, false, false, false] (by kernel_rfl) rfl rfl ⟨(blk_cell (blk_drew N11.out) 0).trans rfl, (blk_cell (blk_drew N11.out) 1).trans rfl, (blk_cell (blk_drew N11.out) 2).trans rfl, (blk_cell (blk_drew N11.out) 3).trans rfl, (blk_cell (blk_drew N11.out) 4).trans rfl, (blk_cell (blk_drew (blk_below BX0.out C9.out)) 0).trans rfl, (blk_cell (blk_drew N10.out) 0).trans rfl, pw_cell_below C9.out.drew Y0.out, pw_cell_below C9.out.drew Y1.out, pw_cell_below C9.out.drew Y2.out, pw_cell_below C9.out.drew Y3.out, pw_cell_below C9.out.drew Y4.out⟩ (fun hHeld => ?_)
      refine with_tabW fe_turn38.tab10 fe_turn38.bits10 (fun HT_ HW_ => ?_)
      refine pure_ (i := 0) (N := some 63) (v := ?_) (a' := ?_) #[true, false, false, false, false, false, false, false, false, false, false] rfl rfl (any_of HT_.out (by kernel_rfl)) (fun _ _ _ h => h) (Or.inl ⟨by rfl, ?_⟩) ?_ ?_
      rotate_left
      ·intro w'
       go_simp
       with_reducible rfl
      rotate_left
      ·simp only [Act.put, List.setIfInBounds_toArray, List.set_cons_zero, List.set_cons_succ, i64_w, i32_w]
       rfl
      refine pure_ (i := 1) (N := some 64) (v := ?_) (a' := ?_) #[true, true, false, false, false, false, false, false, false, false, false] rfl rfl (any_of HT_.out (by kernel_rfl)) (fun _ _ _ h => h) (Or.inl ⟨by rfl, ?_⟩) ?_ ?_
      rotate_left
      ·intro w'
       go_simp
       with_reducible rfl
      rotate_left
      ·simp only [Act.put, List.setIfInBounds_toArray, List.set_cons_zero, List.set_cons_succ, i64_w, i32_w]
       rfl
      refine pure_ (i := 4) (N := some 67) (v := ?_) (a' := ?_) #[true, true, false, false, true, false, false, false, false, false, false] rfl rfl (any_of HT_.out (by kernel_rfl)) (fun _ _ _ h => h) (Or.inl ⟨by rfl, ?_⟩) ?_ ?_
      rotate_left
      ·intro w'
       go_simp
       with_reducible rfl
      rotate_left
      ·simp only [Act.put, List.setIfInBounds_toArray, List.set_cons_zero, List.set_cons_succ, i64_w, i32_w]
       rfl
      refine take_ (i := 2) (N := some 65) (v := ?_) (a' := ?_) #[true, true, true, false, true, false, false, false, false, false, false] rfl rfl (take_ofW HT_.out HW_.out (by kernel_rfl)) (fun _ _ _ h => h) (Or.inl ⟨by rfl, ?_⟩) hHeld ?_ ?_
      rotate_left
      ·rintro w' ⟨s0, s1, s2, s3, s4, s5, s6, s7, s8, s9, s10, s11⟩
       go_simp
       with_reducible rfl
      rotate_left
      ·simp only [Act.put, List.setIfInBounds_toArray, List.set_cons_zero, List.set_cons_succ, i64_w, i32_w]
       rfl
      refine take_ (i := 3) (N := some 66) (v := ?_) (a' := ?_) #[true, true, true, true, true, false, false, false, false, false, false] rfl rfl (take_ofW HT_.out HW_.out (by kernel_rfl)) (fun _ _ _ h => h) (Or.inl ⟨by rfl, ?_⟩) hHeld ?_ ?_
      rotate_left
      ·rintro w' ⟨s0, s1, s2, s3, s4, s5, s6, s7, s8, s9, s10, s11⟩
       go_simp
       with_reducible rfl
      rotate_left
      ·simp only [Act.put, List.setIfInBounds_toArray, List.set_cons_zero, List.set_cons_succ, i64_w, i32_w]
       rfl
      refine take_ (i := 5) (N := some 68) (v := ?_) (a' := ?_) #[true, true, true, true, true, true, false, false, false, false, false] rfl rfl (take_ofW HT_.out HW_.out (by kernel_rfl)) (fun _ _ _ h => h) (Or.inl ⟨by rfl, ?_⟩) hHeld ?_ ?_
      rotate_left
      ·rintro w' ⟨s0, s1, s2, s3, s4, s5, s6, s7, s8, s9, s10, s11⟩
       go_simp
       with_reducible rfl
      rotate_left
      ·simp only [Act.put, List.setIfInBounds_toArray, List.set_cons_zero, List.set_cons_succ, i64_w, i32_w]
       rfl
      refine pure_ (i := 6) (N := some 69) (v := ?_) (a' := ?_) #[true, true, true, true, true, true, true, false, false, false, false] rfl rfl (any_of HT_.out (by kernel_rfl)) (fun _ _ _ h => h) (Or.inl ⟨by rfl, ?_⟩) ?_ ?_
      rotate_left
      ·intro w'
       go_simp
       with_reducible rfl
      rotate_left
      ·simp only [Act.put, List.setIfInBounds_toArray, List.set_cons_zero, List.set_cons_succ, i64_w, i32_w]
       rfl
      refine take_ (i := 7) (N := some 70) (v := ?_) (a' := ?_) #[true, true, true, true, true, true, true, true, false, false, false] rfl rfl (take_ofW HT_.out HW_.out (by kernel_rfl)) (fun _ _ _ h => h) (Or.inl ⟨by rfl, ?_⟩) hHeld ?_ ?_
      rotate_left
      ·rintro w' ⟨s0, s1, s2, s3, s4, s5, s6, s7, s8, s9, s10, s11⟩
       go_simp
       with_reducible rfl
      rotate_left
      ·simp only [Act.put, List.setIfInBounds_toArray, List.set_cons_zero, List.set_cons_succ, i64_w, i32_w]
       rfl
      refine pure_ (i := 8) (N := some 71) (v := ?_) (a' := ?_) #[true, true, true, true, true, true, true, true, true, false, false] rfl rfl (any_of HT_.out (by kernel_rfl)) (fun _ _ _ h => h) (Or.inl ⟨by rfl, ?_⟩) ?_ ?_
      rotate_left
      ·intro w'
       go_simp
       with_reducible rfl
      rotate_left
      ·simp only [Act.put, List.setIfInBounds_toArray, List.set_cons_zero, List.set_cons_succ, i64_w, i32_w]
       rfl
      refine pure_ (i := 9) (N := some 72) (v := ?_) (a' := ?_) #[true, true, true, true, true, true, true, true, true, true, false] rfl rfl (any_of HT_.out (by kernel_rfl)) (fun _ _ _ h => h) (Or.inl ⟨by rfl, ?_⟩) ?_ ?_
      rotate_left
      ·intro w'
       go_simp
       with_reducible rfl
      rotate_left
      ·simp only [Act.put, List.setIfInBounds_toArray, List.set_cons_zero, List.set_cons_succ, i64_w, i32_w]
       rfl
      refine pure_ (i := 10) (N := some 8) (v := ?_) (a' := ?_) #[true, true, true, true, true, true, true, true, true, true, true] rfl rfl (any_of HT_.out (by kernel_rfl)) (fun _ _ _ h => h) (Or.inl ⟨by rfl, ?_⟩) ?_ ?_
      rotate_left
      ·intro w'
       go_simp
       with_reducible rfl
      rotate_left
      ·simp only [Act.put, List.setIfInBounds_toArray, List.set_cons_zero, List.set_cons_succ, i64_w, i32_w]
       rfl
      refine done_ (done_of HT_.out (by kernel_rfl)) ?_
      have u0 : W9.drew.cell? ⟨bx, 0, none⟩ = some (.slice (some ⟨ob, 0, none⟩) n n) := (blk_cell (blk_drew (blk_below BX0.out C9.out)) 0).trans rfl
      have u1 : W9.drew.cell? ⟨wr.heap.size, 0, none⟩ = some (.int .i64 x.f0) := (blk_cell (blk_drew N10.out) 0).trans rfl
      have u2 : W9.drew.cell? ⟨wr.heap.size + 1, 0, none⟩ = some (.int .u64 f.f0.f0) := (blk_cell (blk_drew N11.out) 0).trans rfl
      have u3 : W9.drew.cell? ⟨wr.heap.size + 1, 1, none⟩ = some (.int .u64 f.f0.f1) := (blk_cell (blk_drew N11.out) 1).trans rfl
      have u4 : W9.drew.cell? ⟨wr.heap.size + 1, 2, none⟩ = some (.int .u64 f.f0.f2) := (blk_cell (blk_drew N11.out) 2).trans rfl
      have u5 : W9.drew.cell? ⟨wr.heap.size + 1, 3, none⟩ = some (.int .u64 f.f0.f3) := (blk_cell (blk_drew N11.out) 3).trans rfl
      have u6 : W9.drew.cell? ⟨wr.heap.size + 1, 4, none⟩ = some (.bool f.f1) := (blk_cell (blk_drew N11.out) 4).trans rfl
      have t0 := pw_cell_below C9.out.drew Y0.out
      have t1 := pw_cell_below C9.out.drew Y1.out
      have t2 := pw_cell_below C9.out.drew Y2.out
      have t3 := pw_cell_below C9.out.drew Y3.out
      have t4 := pw_cell_below C9.out.drew Y4.out
      have D9 := Aside0.mk (blk_below HDW.out C9.out.drew)
      have E9 := Aside0.mk (blk_below HDW.out C9.out)
      have t0_ := pw_cell_below C9.out Y0.out
      have t1_ := pw_cell_below C9.out Y1.out
      have t2_ := pw_cell_below C9.out Y2.out
      have t3_ := pw_cell_below C9.out Y3.out
      have t4_ := pw_cell_below C9.out Y4.out
      have v0_ := blk_frozen E9.out (x.f0.toNat * 5)
      have v1_ := blk_frozen E9.out (x.f0.toNat * 5 + 1)
      have v2_ := blk_frozen E9.out (x.f0.toNat * 5 + 2)
      have v3_ := blk_frozen E9.out (x.f0.toNat * 5 + 3)
      have v4_ := blk_frozen E9.out (x.f0.toNat * 5 + 4)
      have v0 := blk_frozen D9.out (x.f0.toNat * 5)
      have v1 := blk_frozen D9.out (x.f0.toNat * 5 + 1)
      have v2 := blk_frozen D9.out (x.f0.toNat * 5 + 2)
      have v3 := blk_frozen D9.out (x.f0.toNat * 5 + 3)
      have v4 := blk_frozen D9.out (x.f0.toNat * 5 + 4)
      go_wp2
      go_roundw
      case rel =>
       refine ⟨i + 1, cur.set x.f0.toNat f, !(eqW f y), by omega, by go_num, ?_, ⟨by rw [HQE.out]; exact HA6.out⟩, HIN2, ?_, ?_, ?_, ⟨(HEN2.out _ (by first | rfl | simp)).1⟩, ⟨(HEN2.out _ (by first | rfl | simp)).2⟩⟩
       ·unfold eqW
        simp only [Bool.not_and]
       ·exact ⟨blk_drew (by rw [← encW_set _ _ _ hjl]; exact blk_put (blk_put (blk_put (blk_put (blk_put E9.out _ _ rfl) _ _ rfl) _ _ rfl) _ _ rfl) _ _ rfl)⟩
       ·exact ⟨keep_drew ((((((KW.out _ C9.out).set_ _ _).set_ _ _).set_ _ _).set_ _ _).set_ _ _)⟩
       ·exact ⟨((((((BW.out _ C9.out).setCell (p := ⟨ob, _, none⟩) hb _).setCell (p := ⟨ob, _, none⟩) hb _).setCell (p := ⟨ob, _, none⟩) hb _).setCell (p := ⟨ob, _, none⟩) hb _).setCell (p := ⟨ob, _, none⟩) hb _).drew⟩
      case measure => simp [intOf]; omega
    | true =>
     obtain ⟨yf, HYF⟩ : ∃ yf, Aside0 (y.f1 = yf) := ⟨_, ⟨rfl⟩⟩
     rw [HYF.out] at P11
     cases yf with
     | false =>
      go_wp2
      refine start_ (n := 21) (S := fun w' => w'.cell? ⟨wr.heap.size + 1, 4, none⟩ = some (.bool false) ∧ w'.cell? ⟨bx, 0, none⟩ = some (.slice (some ⟨ob, 0, none⟩) n n) ∧ w'.cell? ⟨ob, hd.toNat * 5, none⟩ = some (.int .u64 z.f0.f0) ∧ w'.cell? ⟨ob, hd.toNat * 5 + 1, none⟩ = some (.int .u64 z.f0.f1) ∧ w'.cell? ⟨ob, hd.toNat * 5 + 2, none⟩ = some (.int .u64 z.f0.f2) ∧ w'.cell? ⟨ob, hd.toNat * 5 + 3, none⟩ = some (.int .u64 z.f0.f3) ∧ w'.cell? ⟨ob, hd.toNat * 5 + 4, none⟩ = some (.bool z.f1)) (ds := [20]) #[false, false, false, false, false, false, false, false, false, false, false, false, false, false, false, false, false, false, false, false, false] (by kernel_rfl) rfl rfl ⟨(blk_cell (blk_drew P11.out) 4).trans rfl, (blk_cell (blk_drew (blk_below BX0.out C8.out)) 0).trans rfl, pw_cell_below C8.out.drew Z0.out, pw_cell_below C8.out.drew Z1.out, pw_cell_below C8.out.drew Z2.out, pw_cell_below C8.out.drew Z3.out, pw_cell_below C8.out.drew Z4.out⟩ (fun hHeld => ?_)
      refine with_tabW fe_turn38.tab9 fe_turn38.bits9 (fun HT_ HW_ => ?_)
      refine pure_ (i := 0) (N := some 44) (v := ?_) (a' := ?_) #[true, false, false, false, false, false, false, false, false, false, false, false, false, false, false, false, false, false, false, false, false] rfl rfl (any_of HT_.out (by kernel_rfl)) (fun _ _ _ h => h) (Or.inl ⟨by rfl, ?_⟩) ?_ ?_
      rotate_left
      ·intro w'
       go_simp
       with_reducible rfl
      rotate_left
      ·simp only [Act.put, List.setIfInBounds_toArray, List.set_cons_zero, List.set_cons_succ, i64_w, i32_w]
       rfl
      refine take_ (i := 2) (N := some 46) (v := ?_) (a' := ?_) #[true, false, true, false, false, false, false, false, false, false, false, false, false, false, false, false, false, false, false, false, false] rfl rfl (take_ofW HT_.out HW_.out (by kernel_rfl)) (fun _ _ _ h => h) (Or.inl ⟨by rfl, ?_⟩) hHeld ?_ ?_
      rotate_left
      ·rintro w' ⟨s0, s1, s2, s3, s4, s5, s6⟩
       go_simp
       with_reducible rfl
      rotate_left
      ·simp only [Act.put, List.setIfInBounds_toArray, List.set_cons_zero, List.set_cons_succ, i64_w, i32_w]
       rfl
      refine pure_ (i := 3) (N := some 47) (v := ?_) (a' := ?_) #[true, false, true, true, false, false, false, false, false, false, false, false, false, false, false, false, false, false, false, false, false] rfl rfl (any_of HT_.out (by kernel_rfl)) (fun _ _ _ h => h) (Or.inl ⟨by rfl, ?_⟩) ?_ ?_
      rotate_left
      ·intro w'
       go_simp
       with_reducible rfl
      rotate_left
      ·simp only [Act.put, List.setIfInBounds_toArray, List.set_cons_zero, List.set_cons_succ, i64_w, i32_w]
       rfl
      refine pure_ (i := 4) (N := some 48) (v := ?_) (a' := ?_) #[true, false, true, true, true, false, false, false, false, false, false, false, false, false, false, false, false, false, false, false, false] rfl rfl (any_of HT_.out (by kernel_rfl)) (fun _ _ _ h => h) (Or.inl ⟨by rfl, ?_⟩) ?_ ?_
      rotate_left
      ·intro w'
       go_simp
       with_reducible rfl
      rotate_left
      ·simp only [Act.put, List.setIfInBounds_toArray, List.set_cons_zero, List.set_cons_succ, i64_w, i32_w]
       rfl
      refine pure_ (i := 5) (N := some 49) (v := ?_) (a' := ?_) #[true, false, true, true, true, true, false, false, false, false, false, false, false, false, false, false, false, false, false, false, false] rfl rfl (any_of HT_.out (by kernel_rfl)) (fun _ _ _ h => h) (Or.inl ⟨by rfl, ?_⟩) ?_ ?_
      rotate_left
      ·intro w'
       go_simp
       with_reducible rfl
      rotate_left
      ·simp only [Act.put, List.setIfInBounds_toArray, List.set_cons_zero, List.set_cons_succ, i64_w, i32_w]
       rfl
      refine take_ (i := 6) (N := some 50) (v := ?_) (a' := ?_) #[true, false, true, true, true, true, true, false, false, false, false, false, false, false, false, false, false, false, false, false, false] rfl rfl (take_ofW HT_.out HW_.out (by kernel_rfl)) (fun _ _ _ h => h) (Or.inl ⟨by rfl, ?_⟩) hHeld ?_ ?_
      rotate_left
      ·rintro w' ⟨s0, s1, s2, s3, s4, s5, s6⟩
       go_simp
       with_reducible rfl
      rotate_left
      ·simp only [Act.put, List.setIfInBounds_toArray, List.set_cons_zero, List.set_cons_succ, i64_w, i32_w]
       rfl
      refine pure_ (i := 8) (N := some 52) (v := ?_) (a' := ?_) #[true, false, true, true, true, true, true, false, true, false, false, false, false, false, false, false, false, false, false, false, false] rfl rfl (any_of HT_.out (by kernel_rfl)) (fun _ _ _ h => h) (Or.inl ⟨by rfl, ?_⟩) ?_ ?_
      rotate_left
      ·intro w'
       go_simp
       with_reducible rfl
      rotate_left
      ·simp only [Act.put, List.setIfInBounds_toArray, List.set_cons_zero, List.set_cons_succ, i64_w, i32_w]
       rfl
      refine take_ (i := 9) (N := some 53) (v := ?_) (a' := ?_) #[true, false, true, true, true, true, true, false, true, true, false, false, false, false, false, false, false, false, false, false, false] rfl rfl (take_ofW HT_.out HW_.out (by kernel_rfl)) (fun _ _ _ h => h) (Or.inl ⟨by rfl, ?_⟩) hHeld ?_ ?_
      rotate_left
      ·rintro w' ⟨s0, s1, s2, s3, s4, s5, s6⟩
       go_simp
       with_reducible rfl
      rotate_left
      ·simp only [Act.put, List.setIfInBounds_toArray, List.set_cons_zero, List.set_cons_succ, i64_w, i32_w]
       rfl
      refine one_ (i := 1) (N := some 45) #[true, true, true, true, true, true, true, false, true, true, false, false, false, false, false, false, false, false, false, false, false] rfl rfl (one_of HT_.out (by kernel_rfl)) (by decide) (fun K hK => ?_)
      have m0 : w3.drew.cell? ⟨wr.heap.size + 1, 0, none⟩ = some (.int .u64 (orS y.f0 g1).f0) := (blk_cell (blk_drew P11.out) 0).trans rfl
      have m1 : w3.drew.cell? ⟨wr.heap.size + 1, 1, none⟩ = some (.int .u64 (orS y.f0 g1).f1) := (blk_cell (blk_drew P11.out) 1).trans rfl
      have m2 : w3.drew.cell? ⟨wr.heap.size + 1, 2, none⟩ = some (.int .u64 (orS y.f0 g1).f2) := (blk_cell (blk_drew P11.out) 2).trans rfl
      have m3 : w3.drew.cell? ⟨wr.heap.size + 1, 3, none⟩ = some (.int .u64 (orS y.f0 g1).f3) := (blk_cell (blk_drew P11.out) 3).trans rfl
      refine value_ (v := .agg #[.int .u64 (orS y.f0 g1).f0, .int .u64 (orS y.f0 g1).f1, .int .u64 (orS y.f0 g1).f2, .int .u64 (orS y.f0 g1).f3]) (w1 := w3.drew) (by rfl) rfl (by go_simp) ?_
      refine hK.out _ _ hHeld (fun hHeld => ?_)
      clear hK K
      refine norm_ (a' := ?_) ?_ ?_
      rotate_left
      ·show Act.put _ (some 45) _ = _
       simp only [Act.put, List.setIfInBounds_toArray, List.set_cons_zero, List.set_cons_succ, i64_w, i32_w]
       rfl
      refine one_ (i := 7) (N := some 51) #[true, true, true, true, true, true, true, true, true, true, false, false, false, false, false, false, false, false, false, false, false] rfl rfl (one_of HT_.out (by kernel_rfl)) (by decide) (fun K hK => ?_)
      refine goes_ Try.func35 (by kernel_rfl) rfl #[.agg #[.int .u64 (orS y.f0 g1).f0, .int .u64 (orS y.f0 g1).f1, .int .u64 (orS y.f0 g1).f2, .int .u64 (orS y.f0 g1).f3], .agg #[.int .u64 z.f0.f0, .int .u64 z.f0.f1, .int .u64 z.f0.f2, .int .u64 z.f0.f3]] (by rfl) rfl rfl (by (try simp only [List.map_toArray, List.map_cons, List.map_nil]); first | done | rfl) ?_
      refine (fe_or (orS y.f0 g1) z.f0 _).mono ?_
      rintro e4 w4 ⟨rfl, hb4⟩
      have HB4 := Aside0.mk hb4
      clear hb4
      refine ⟨_, rfl, ?_⟩
      refine hK.out _ _ ⟨pw_cell_below HB4.out ((blk_cell (blk_drew P11.out) 4).trans rfl), pw_cell_below HB4.out ((blk_cell (blk_drew (blk_below BX0.out C8.out)) 0).trans rfl), pw_cell_below HB4.out (pw_cell_below C8.out.drew Z0.out), pw_cell_below HB4.out (pw_cell_below C8.out.drew Z1.out), pw_cell_below HB4.out (pw_cell_below C8.out.drew Z2.out), pw_cell_below HB4.out (pw_cell_below C8.out.drew Z3.out), pw_cell_below HB4.out (pw_cell_below C8.out.drew Z4.out)⟩ (fun hHeld => ?_)
      clear hK K
      refine norm_ (a' := ?_) ?_ ?_
      rotate_left
      ·show Act.put _ (some 51) _ = _
       simp only [Act.put, List.setIfInBounds_toArray, List.set_cons_zero, List.set_cons_succ, i64_w, i32_w]
       rfl
      refine pure_ (i := 10) (N := some 54) (v := ?_) (a' := ?_) #[true, true, true, true, true, true, true, true, true, true, true, false, false, false, false, false, false, false, false, false, false] rfl rfl (any_of HT_.out (by kernel_rfl)) (fun _ _ _ h => h) (Or.inl ⟨by rfl, ?_⟩) ?_ ?_
      rotate_left
      ·intro w'
       go_simp
       with_reducible rfl
      rotate_left
      ·simp only [Act.put, List.setIfInBounds_toArray, List.set_cons_zero, List.set_cons_succ, i64_w, i32_w]
       rfl
      refine take_ (i := 11) (N := some 55) (v := ?_) (a' := ?_) #[true, true, true, true, true, true, true, true, true, true, true, true, false, false, false, false, false, false, false, false, false] rfl rfl (take_ofW HT_.out HW_.out (by kernel_rfl)) (fun _ _ _ h => h) (Or.inl ⟨by rfl, ?_⟩) hHeld ?_ ?_
      rotate_left
      ·rintro w' ⟨s0, s1, s2, s3, s4, s5, s6⟩
       go_simp
       with_reducible rfl
      rotate_left
      ·simp only [Act.put, List.setIfInBounds_toArray, List.set_cons_zero, List.set_cons_succ, i64_w, i32_w]
       rfl
      refine pure_ (i := 12) (N := some 56) (v := ?_) (a' := ?_) #[true, true, true, true, true, true, true, true, true, true, true, true, true, false, false, false, false, false, false, false, false] rfl rfl (any_of HT_.out (by kernel_rfl)) (fun _ _ _ h => h) (Or.inl ⟨by rfl, ?_⟩) ?_ ?_
      rotate_left
      ·intro w'
       go_simp
       with_reducible rfl
      rotate_left
      ·simp only [Act.put, List.setIfInBounds_toArray, List.set_cons_zero, List.set_cons_succ, i64_w, i32_w]
       rfl
      refine pure_ (i := 13) (N := some 57) (v := ?_) (a' := ?_) #[true, true, true, true, true, true, true, true, true, true, true, true, true, true, false, false, false, false, false, false, false] rfl rfl (any_of HT_.out (by kernel_rfl)) (fun _ _ _ h => h) (Or.inl ⟨by rfl, ?_⟩) ?_ ?_
      rotate_left
      ·intro w'
       go_simp
       with_reducible rfl
      rotate_left
      ·simp only [Act.put, List.setIfInBounds_toArray, List.set_cons_zero, List.set_cons_succ, i64_w, i32_w]
       rfl
      refine pure_ (i := 14) (N := some 58) (v := ?_) (a' := ?_) #[true, true, true, true, true, true, true, true, true, true, true, true, true, true, true, false, false, false, false, false, false] rfl rfl (any_of HT_.out (by kernel_rfl)) (fun _ _ _ h => h) (Or.inl ⟨by rfl, ?_⟩) ?_ ?_
      rotate_left
      ·intro w'
       go_simp
       with_reducible rfl
      rotate_left
      ·simp only [Act.put, List.setIfInBounds_toArray, List.set_cons_zero, List.set_cons_succ, i64_w, i32_w]
       rfl
      refine take_ (i := 15) (N := some 59) (v := ?_) (a' := ?_) #[true, true, true, true, true, true, true, true, true, true, true, true, true, true, true, true, false, false, false, false, false] rfl rfl (take_ofW HT_.out HW_.out (by kernel_rfl)) (fun _ _ _ h => h) (Or.inl ⟨by rfl, ?_⟩) hHeld ?_ ?_
      rotate_left
      ·rintro w' ⟨s0, s1, s2, s3, s4, s5, s6⟩
       go_simp
       with_reducible rfl
      rotate_left
      ·simp only [Act.put, List.setIfInBounds_toArray, List.set_cons_zero, List.set_cons_succ, i64_w, i32_w]
       rfl
      refine pure_ (i := 16) (N := some 60) (v := ?_) (a' := ?_) #[true, true, true, true, true, true, true, true, true, true, true, true, true, true, true, true, true, false, false, false, false] rfl rfl (any_of HT_.out (by kernel_rfl)) (fun _ _ _ h => h) (Or.inl ⟨by rfl, ?_⟩) ?_ ?_
      rotate_left
      ·intro w'
       go_simp
       with_reducible rfl
      rotate_left
      ·simp only [Act.put, List.setIfInBounds_toArray, List.set_cons_zero, List.set_cons_succ, i64_w, i32_w]
       rfl
      refine pure_ (i := 17) (N := some 61) (v := ?_) (a' := ?_) #[true, true, true, true, true, true, true, true, true, true, true, true, true, true, true, true, true, true, false, false, false] rfl rfl (any_of HT_.out (by kernel_rfl)) (fun _ _ _ h => h) (Or.inl ⟨by rfl, ?_⟩) ?_ ?_
      rotate_left
      ·intro w'
       go_simp
       with_reducible rfl
      rotate_left
      ·simp only [Act.put, List.setIfInBounds_toArray, List.set_cons_zero, List.set_cons_succ, i64_w, i32_w]
       rfl
      refine one_ (i := 18) (N := none) #[true, true, true, true, true, true, true, true, true, true, true, true, true, true, true, true, true, true, true, false, false] rfl rfl (one_of HT_.out (by kernel_rfl)) (by decide) (fun K hK => ?_)
      have M := Aside0.mk (blk_below (blk_drew P11.out) HB4.out)
      have m0 : w4.cell? ⟨wr.heap.size + 1, 0, none⟩ = some (.int .u64 (orS y.f0 g1).f0) := (blk_cell M.out 0).trans rfl
      have m1 : w4.cell? ⟨wr.heap.size + 1, 1, none⟩ = some (.int .u64 (orS y.f0 g1).f1) := (blk_cell M.out 1).trans rfl
      have m2 : w4.cell? ⟨wr.heap.size + 1, 2, none⟩ = some (.int .u64 (orS y.f0 g1).f2) := (blk_cell M.out 2).trans rfl
      have m3 : w4.cell? ⟨wr.heap.size + 1, 3, none⟩ = some (.int .u64 (orS y.f0 g1).f3) := (blk_cell M.out 3).trans rfl
      have m4 : w4.cell? ⟨wr.heap.size + 1, 4, none⟩ = some (.bool false) := (blk_cell M.out 4).trans rfl
      have v0 := blk_frozen M.out 0
      have v1 := blk_frozen M.out 1
      have v2 := blk_frozen M.out 2
      have v3 := blk_frozen M.out 3
      have v4 := blk_frozen M.out 4
      have C18 : Aside0 (Below wr.heap.size wr ((((w4.setCell ⟨wr.heap.size + 1, 0, none⟩ (.int .u64 (orS (orS y.f0 g1) z.f0).f0)).setCell ⟨wr.heap.size + 1, 1, none⟩ (.int .u64 (orS (orS y.f0 g1) z.f0).f1)).setCell ⟨wr.heap.size + 1, 2, none⟩ (.int .u64 (orS (orS y.f0 g1) z.f0).f2)).setCell ⟨wr.heap.size + 1, 3, none⟩ (.int .u64 (orS (orS y.f0 g1) z.f0).f3))) := ⟨((((C8.out.drew.trans (HB4.out.mono C8.out.size)).setCell (p := ⟨_, _, none⟩) (Nat.le_succ _) _).setCell (p := ⟨_, _, none⟩) (Nat.le_succ _) _).setCell (p := ⟨_, _, none⟩) (Nat.le_succ _) _).setCell (p := ⟨_, _, none⟩) (Nat.le_succ _) _⟩
      refine skip_ (w1 := ?_) (by rfl) rfl ?_ ?_
      rotate_left
      ·go_simp
       rfl
      refine hK.out _ _ ⟨(blk_cell (blk_put (blk_put (blk_put (blk_put M.out 0 _ rfl) 1 _ rfl) 2 _ rfl) 3 _ rfl) 4).trans rfl, pw_cell_below C18.out ((blk_cell BX0.out 0).trans rfl), pw_cell_below C18.out (Z0.out), pw_cell_below C18.out (Z1.out), pw_cell_below C18.out (Z2.out), pw_cell_below C18.out (Z3.out), pw_cell_below C18.out (Z4.out)⟩ (fun hHeld => ?_)
      clear hK K
      refine pure_ (i := 19) (N := some 62) (v := ?_) (a' := ?_) #[true, true, true, true, true, true, true, true, true, true, true, true, true, true, true, true, true, true, true, true, false] rfl rfl (any_of HT_.out (by kernel_rfl)) (fun _ _ _ h => h) (Or.inl ⟨by rfl, ?_⟩) ?_ ?_
      rotate_left
      ·intro w'
       go_simp
       with_reducible rfl
      rotate_left
      ·simp only [Act.put, List.setIfInBounds_toArray, List.set_cons_zero, List.set_cons_succ, i64_w, i32_w]
       rfl
      refine last_ (i := 20) (N := none) #[true, true, true, true, true, true, true, true, true, true, true, true, true, true, true, true, true, true, true, true, true] rfl rfl (one_of HT_.out (by kernel_rfl)) (by decide) (fun K hK => ?_)
      refine skip_ (w1 := ?_) (by rfl) rfl ?_ ?_
      rotate_left
      ·go_simp
       rfl
      refine hK.out _ _ ?_
      clear hK K
      refine done_ (done_of HT_.out (by kernel_rfl)) ?_
      have C9 : Aside0 (Below wr.heap.size wr (((((w4.setCell ⟨wr.heap.size + 1, 0, none⟩ (.int .u64 (orS (orS y.f0 g1) z.f0).f0)).setCell ⟨wr.heap.size + 1, 1, none⟩ (.int .u64 (orS (orS y.f0 g1) z.f0).f1)).setCell ⟨wr.heap.size + 1, 2, none⟩ (.int .u64 (orS (orS y.f0 g1) z.f0).f2)).setCell ⟨wr.heap.size + 1, 3, none⟩ (.int .u64 (orS (orS y.f0 g1) z.f0).f3)).setCell ⟨wr.heap.size + 1, 4, none⟩ (.bool z.f1))) := ⟨(((((C8.out.drew.trans (HB4.out.mono C8.out.size)).setCell (p := ⟨_, _, none⟩) (Nat.le_succ _) _).setCell (p := ⟨_, _, none⟩) (Nat.le_succ _) _).setCell (p := ⟨_, _, none⟩) (Nat.le_succ _) _).setCell (p := ⟨_, _, none⟩) (Nat.le_succ _) _).setCell (p := ⟨_, _, none⟩) (Nat.le_succ _) _⟩
      obtain ⟨f, HFE⟩ : ∃ f : S66, Aside0 ((⟨(orS (orS y.f0 g1) z.f0), z.f1⟩ : S66) = f) := ⟨_, ⟨rfl⟩⟩
      have HNF : Aside0 (newF e fs z q2 y = f) := ⟨by unfold newF; rw [if_pos HN.out, HG1.out, HYF.out]; exact HFE.out⟩
      have N11 : Aside0 ((((((w4.setCell ⟨wr.heap.size + 1, 0, none⟩ (.int .u64 (orS (orS y.f0 g1) z.f0).f0)).setCell ⟨wr.heap.size + 1, 1, none⟩ (.int .u64 (orS (orS y.f0 g1) z.f0).f1)).setCell ⟨wr.heap.size + 1, 2, none⟩ (.int .u64 (orS (orS y.f0 g1) z.f0).f2)).setCell ⟨wr.heap.size + 1, 3, none⟩ (.int .u64 (orS (orS y.f0 g1) z.f0).f3)).setCell ⟨wr.heap.size + 1, 4, none⟩ (.bool z.f1)).heap[wr.heap.size + 1]? = some (.cells #[.int .u64 f.f0.f0, .int .u64 f.f0.f1, .int .u64 f.f0.f2, .int .u64 f.f0.f3, .bool f.f1] 66 (0, 0))) := ⟨by rw [← HFE.out]; exact blk_put (blk_put (blk_put (blk_put (blk_put M.out 0 _ rfl) 1 _ rfl) 2 _ rfl) 3 _ rfl) 4 _ rfl⟩
      have N10 : Aside0 ((((((w4.setCell ⟨wr.heap.size + 1, 0, none⟩ (.int .u64 (orS (orS y.f0 g1) z.f0).f0)).setCell ⟨wr.heap.size + 1, 1, none⟩ (.int .u64 (orS (orS y.f0 g1) z.f0).f1)).setCell ⟨wr.heap.size + 1, 2, none⟩ (.int .u64 (orS (orS y.f0 g1) z.f0).f2)).setCell ⟨wr.heap.size + 1, 3, none⟩ (.int .u64 (orS (orS y.f0 g1) z.f0).f3)).setCell ⟨wr.heap.size + 1, 4, none⟩ (.bool z.f1)).heap[wr.heap.size]? = some (.cells #[.int .i64 x.f0, .int .i64 x.f1, .int .i64 x.f2] 68 (0, 0))) := ⟨blk_far (blk_far (blk_far (blk_far (blk_far (blk_below (blk_drew P10.out) HB4.out) (by simp) _) (by simp) _) (by simp) _) (by simp) _) (by simp) _⟩
      clear m0 m1 m2 m3 m4 v0 v1 v2 v3 v4 M HB4 P11 P10 C8
      generalize (((((w4.setCell ⟨wr.heap.size + 1, 0, none⟩ (.int .u64 (orS (orS y.f0 g1) z.f0).f0)).setCell ⟨wr.heap.size + 1, 1, none⟩ (.int .u64 (orS (orS y.f0 g1) z.f0).f1)).setCell ⟨wr.heap.size + 1, 2, none⟩ (.int .u64 (orS (orS y.f0 g1) z.f0).f2)).setCell ⟨wr.heap.size + 1, 3, none⟩ (.int .u64 (orS (orS y.f0 g1) z.f0).f3)).setCell ⟨wr.heap.size + 1, 4, none⟩ (.bool z.f1)) = W9 at *
      have HA6 : Aside0 (posW e fs hd q2 (cur.set x.f0.toNat f) = r) := ⟨by rw [← HNF.out]; exact HA4.out⟩
      have HIN2 : Aside0 (InW n (cur.set x.f0.toNat f)) := ⟨by rw [← HNF.out, ← HONE.out]; exact HINN.out⟩
      have HEN2 := Aside0.mk HEND.out
      rw [HONE.out, HNF.out] at HEN2
      go_wp2
      cases b with
      | true =>
       refine start_ (n := 11) (S := fun w' => w'.cell? ⟨wr.heap.size + 1, 0, none⟩ = some (.int .u64 f.f0.f0) ∧ w'.cell? ⟨wr.heap.size + 1, 1, none⟩ = some (.int .u64 f.f0.f1) ∧ w'.cell? ⟨wr.heap.size + 1, 2, none⟩ = some (.int .u64 f.f0.f2) ∧ w'.cell? ⟨wr.heap.size + 1, 3, none⟩ = some (.int .u64 f.f0.f3) ∧ w'.cell? ⟨wr.heap.size + 1, 4, none⟩ = some (.bool f.f1) ∧ w'.cell? ⟨bx, 0, none⟩ = some (.slice (some ⟨ob, 0, none⟩) n n) ∧ w'.cell? ⟨wr.heap.size, 0, none⟩ = some (.int .i64 x.f0) ∧ w'.cell? ⟨ob, x.f0.toNat * 5, none⟩ = some (.int .u64 y.f0.f0) ∧ w'.cell? ⟨ob, x.f0.toNat * 5 + 1, none⟩ = some (.int .u64 y.f0.f1) ∧ w'.cell? ⟨ob, x.f0.toNat * 5 + 2, none⟩ = some (.int .u64 y.f0.f2) ∧ w'.cell? ⟨ob, x.f0.toNat * 5 + 3, none⟩ = some (.int .u64 y.f0.f3) ∧ w'.cell? ⟨ob, x.f0.toNat * 5 + 4, none⟩ = some (.bool y.f1)) (ds := []) #[false, false, false, false, false, false, false, false, false, false, false] (by kernel_rfl) rfl rfl ⟨(blk_cell (blk_drew N11.out) 0).trans rfl, (blk_cell (blk_drew N11.out) 1).trans rfl, (blk_cell (blk_drew N11.out) 2).trans rfl, (blk_cell (blk_drew N11.out) 3).trans rfl, (blk_cell (blk_drew N11.out) 4).trans rfl, (blk_cell (blk_drew (blk_below BX0.out C9.out)) 0).trans rfl, (blk_cell (blk_drew N10.out) 0).trans rfl, pw_cell_below C9.out.drew Y0.out, pw_cell_below C9.out.drew Y1.out, pw_cell_below C9.out.drew Y2.out, pw_cell_below C9.out.drew Y3.out, pw_cell_below C9.out.drew Y4.out⟩ (fun hHeld => ?_)
       refine with_tabW fe_turn38.tab10 fe_turn38.bits10 (fun HT_ HW_ => ?_)
       refine pure_ (i := 0) (N := some 63) (v := ?_) (a' := ?_) #[true, false, false, false, false, false, false, false, false, false, false] rfl rfl (any_of HT_.out (by kernel_rfl)) (fun _ _ _ h => h) (Or.inl ⟨by rfl, ?_⟩) ?_ ?_
       rotate_left
       ·intro w'
        go_simp
        with_reducible rfl
       rotate_left
       ·simp only [Act.put, List.setIfInBounds_toArray, List.set_cons_zero, List.set_cons_succ, i64_w, i32_w]
        rfl
       refine pure_ (i := 1) (N := some 64) (v := ?_) (a' := ?_) #[true, true, false, false, false, false, false, false, false, false, false] rfl rfl (any_of HT_.out (by kernel_rfl)) (fun _ _ _ h => h) (Or.inl ⟨by rfl, ?_⟩) ?_ ?_
       rotate_left
       ·intro w'
        go_simp
        with_reducible rfl
       rotate_left
       ·simp only [Act.put, List.setIfInBounds_toArray, List.set_cons_zero, List.set_cons_succ, i64_w, i32_w]
        rfl
       refine pure_ (i := 2) (N := some 65) (v := undef) (a' := ?_) #[true, true, true, false, false, false, false, false, false, false, false] rfl rfl (any_of HT_.out (by kernel_rfl)) (fun _ _ _ h => h) (Or.inr ⟨by rfl, rfl⟩) ?_ ?_
       rotate_left
       ·simp only [Act.put, List.setIfInBounds_toArray, List.set_cons_zero, List.set_cons_succ, i64_w, i32_w]
        rfl
       refine pure_ (i := 3) (N := some 66) (v := undef) (a' := ?_) #[true, true, true, true, false, false, false, false, false, false, false] rfl rfl (any_of HT_.out (by kernel_rfl)) (fun _ _ _ h => h) (Or.inr ⟨by rfl, rfl⟩) ?_ ?_
       rotate_left
       ·simp only [Act.put, List.setIfInBounds_toArray, List.set_cons_zero, List.set_cons_succ, i64_w, i32_w]
        rfl
       refine pure_ (i := 4) (N := some 67) (v := undef) (a' := ?_) #[true, true, true, true, true, false, false, false, false, false, false] rfl rfl (any_of HT_.out (by kernel_rfl)) (fun _ _ _ h => h) (Or.inr ⟨by rfl, rfl⟩) ?_ ?_
       rotate_left
       ·simp only [Act.put, List.setIfInBounds_toArray, List.set_cons_zero, List.set_cons_succ, i64_w, i32_w]
        rfl
       refine pure_ (i := 5) (N := some 68) (v := undef) (a' := ?_) #[true, true, true, true, true, true, false, false, false, false, false] rfl rfl (any_of HT_.out (by kernel_rfl)) (fun _ _ _ h => h) (Or.inr ⟨by rfl, rfl⟩) ?_ ?_
       rotate_left
       ·simp only [Act.put, List.setIfInBounds_toArray, List.set_cons_zero, List.set_cons_succ, i64_w, i32_w]
        rfl
       refine pure_ (i := 6) (N := some 69) (v := undef) (a' := ?_) #[true, true, true, true, true, true, true, false, false, false, false] rfl rfl (any_of HT_.out (by kernel_rfl)) (fun _ _ _ h => h) (Or.inr ⟨by rfl, rfl⟩) ?_ ?_
       rotate_left
       ·simp only [Act.put, List.setIfInBounds_toArray, List.set_cons_zero, List.set_cons_succ, i64_w, i32_w]
        rfl
       refine pure_ (i := 7) (N := some 70) (v := undef) (a' := ?_) #[true, true, true, true, true, true, true, true, false, false, false] rfl rfl (any_of HT_.out (by kernel_rfl)) (fun _ _ _ h => h) (Or.inr ⟨by rfl, rfl⟩) ?_ ?_
       rotate_left
       ·simp only [Act.put, List.setIfInBounds_toArray, List.set_cons_zero, List.set_cons_succ, i64_w, i32_w]
        rfl
       refine pure_ (i := 8) (N := some 71) (v := undef) (a' := ?_) #[true, true, true, true, true, true, true, true, true, false, false] rfl rfl (any_of HT_.out (by kernel_rfl)) (fun _ _ _ h => h) (Or.inr ⟨by rfl, rfl⟩) ?_ ?_
       rotate_left
       ·simp only [Act.put, List.setIfInBounds_toArray, List.set_cons_zero, List.set_cons_succ, i64_w, i32_w]
        rfl
       refine pure_ (i := 9) (N := some 72) (v := ?_) (a' := ?_) #[true, true, true, true, true, true, true, true, true, true, false] rfl rfl (any_of HT_.out (by kernel_rfl)) (fun _ _ _ h => h) (Or.inl ⟨by rfl, ?_⟩) ?_ ?_
       rotate_left
       ·intro w'
        go_simp
        with_reducible rfl
       rotate_left
       ·simp only [Act.put, List.setIfInBounds_toArray, List.set_cons_zero, List.set_cons_succ, i64_w, i32_w]
        rfl
       refine pure_ (i := 10) (N := some 8) (v := ?_) (a' := ?_) #[true, true, true, true, true, true, true, true, true, true, true] rfl rfl (any_of HT_.out (by kernel_rfl)) (fun _ _ _ h => h) (Or.inl ⟨by rfl, ?_⟩) ?_ ?_
       rotate_left
       ·intro w'
        go_simp
        with_reducible rfl
       rotate_left
       ·simp only [Act.put, List.setIfInBounds_toArray, List.set_cons_zero, List.set_cons_succ, i64_w, i32_w]
        rfl
       refine done_ (done_of HT_.out (by kernel_rfl)) ?_
       have u0 : W9.drew.cell? ⟨bx, 0, none⟩ = some (.slice (some ⟨ob, 0, none⟩) n n) := (blk_cell (blk_drew (blk_below BX0.out C9.out)) 0).trans rfl
       have u1 : W9.drew.cell? ⟨wr.heap.size, 0, none⟩ = some (.int .i64 x.f0) := (blk_cell (blk_drew N10.out) 0).trans rfl
       have u2 : W9.drew.cell? ⟨wr.heap.size + 1, 0, none⟩ = some (.int .u64 f.f0.f0) := (blk_cell (blk_drew N11.out) 0).trans rfl
       have u3 : W9.drew.cell? ⟨wr.heap.size + 1, 1, none⟩ = some (.int .u64 f.f0.f1) := (blk_cell (blk_drew N11.out) 1).trans rfl
       have u4 : W9.drew.cell? ⟨wr.heap.size + 1, 2, none⟩ = some (.int .u64 f.f0.f2) := (blk_cell (blk_drew N11.out) 2).trans rfl
       have u5 : W9.drew.cell? ⟨wr.heap.size + 1, 3, none⟩ = some (.int .u64 f.f0.f3) := (blk_cell (blk_drew N11.out) 3).trans rfl
       have u6 : W9.drew.cell? ⟨wr.heap.size + 1, 4, none⟩ = some (.bool f.f1) := (blk_cell (blk_drew N11.out) 4).trans rfl
       have t0 := pw_cell_below C9.out.drew Y0.out
       have t1 := pw_cell_below C9.out.drew Y1.out
       have t2 := pw_cell_below C9.out.drew Y2.out
       have t3 := pw_cell_below C9.out.drew Y3.out
       have t4 := pw_cell_below C9.out.drew Y4.out
       have D9 := Aside0.mk (blk_below HDW.out C9.out.drew)
       have E9 := Aside0.mk (blk_below HDW.out C9.out)
       have t0_ := pw_cell_below C9.out Y0.out
       have t1_ := pw_cell_below C9.out Y1.out
       have t2_ := pw_cell_below C9.out Y2.out
       have t3_ := pw_cell_below C9.out Y3.out
       have t4_ := pw_cell_below C9.out Y4.out
       have v0_ := blk_frozen E9.out (x.f0.toNat * 5)
       have v1_ := blk_frozen E9.out (x.f0.toNat * 5 + 1)
       have v2_ := blk_frozen E9.out (x.f0.toNat * 5 + 2)
       have v3_ := blk_frozen E9.out (x.f0.toNat * 5 + 3)
       have v4_ := blk_frozen E9.out (x.f0.toNat * 5 + 4)
       have v0 := blk_frozen D9.out (x.f0.toNat * 5)
       have v1 := blk_frozen D9.out (x.f0.toNat * 5 + 1)
       have v2 := blk_frozen D9.out (x.f0.toNat * 5 + 2)
       have v3 := blk_frozen D9.out (x.f0.toNat * 5 + 3)
       have v4 := blk_frozen D9.out (x.f0.toNat * 5 + 4)
       go_wp2
       go_roundw
       case rel =>
        refine ⟨i + 1, cur.set x.f0.toNat f, true, by omega, by go_num, rfl, ⟨by rw [HQE.out]; exact HA6.out⟩, HIN2, ?_, ?_, ?_, ⟨(HEN2.out true (by first | rfl | simp)).1⟩, ⟨(HEN2.out true (by first | rfl | simp)).2⟩⟩
        ·exact ⟨blk_drew (by rw [← encW_set _ _ _ hjl]; exact blk_put (blk_put (blk_put (blk_put (blk_put E9.out _ _ rfl) _ _ rfl) _ _ rfl) _ _ rfl) _ _ rfl)⟩
        ·exact ⟨keep_drew ((((((KW.out _ C9.out).set_ _ _).set_ _ _).set_ _ _).set_ _ _).set_ _ _)⟩
        ·exact ⟨((((((BW.out _ C9.out).setCell (p := ⟨ob, _, none⟩) hb _).setCell (p := ⟨ob, _, none⟩) hb _).setCell (p := ⟨ob, _, none⟩) hb _).setCell (p := ⟨ob, _, none⟩) hb _).setCell (p := ⟨ob, _, none⟩) hb _).drew⟩
       case measure => simp [intOf]; omega
      | false =>
       refine start_ (n := 11) (S := fun w' => w'.cell? ⟨wr.heap.size + 1, 0, none⟩ = some (.int .u64 f.f0.f0) ∧ w'.cell? ⟨wr.heap.size + 1, 1, none⟩ = some (.int .u64 f.f0.f1) ∧ w'.cell? ⟨wr.heap.size + 1, 2, none⟩ = some (.int .u64 f.f0.f2) ∧ w'.cell? ⟨wr.heap.size + 1, 3, none⟩ = some (.int .u64 f.f0.f3) ∧ w'.cell? ⟨wr.heap.size + 1, 4, none⟩ = some (.bool f.f1) ∧ w'.cell? ⟨bx, 0, none⟩ = some (.slice (some ⟨ob, 0, none⟩) n n) ∧ w'.cell? ⟨wr.heap.size, 0, none⟩ = some (.int .i64 x.f0) ∧ w'.cell? ⟨ob, x.f0.toNat * 5, none⟩ = some (.int .u64 y.f0.f0) ∧ w'.cell? ⟨ob, x.f0.toNat * 5 + 1, none⟩ = some (.int .u64 y.f0.f1) ∧ w'.cell? ⟨ob, x.f0.toNat * 5 + 2, none⟩ = some (.int .u64 y.f0.f2) ∧ w'.cell? ⟨ob, x.f0.toNat * 5 + 3, none⟩ = some (.int .u64 y.f0.f3) ∧ w'.cell? ⟨ob, x.f0.toNat * 5 + 4, none⟩ = some (.bool y.f1)) (ds := []) #[false, false, false, false, false, false, false, false, false, false, false] (by kernel_rfl) rfl rfl ⟨(blk_cell (blk_drew N11.out) 0).trans rfl, (blk_cell (blk_drew N11.out) 1).trans rfl, (blk_cell (blk_drew N11.out) 2).trans rfl, (blk_cell (blk_drew N11.out) 3).trans rfl, (blk_cell (blk_drew N11.out) 4).trans rfl, (blk_cell (blk_drew (blk_below BX0.out C9.out)) 0).trans rfl, (blk_cell (blk_drew N10.out) 0).trans rfl, pw_cell_below C9.out.drew Y0.out, pw_cell_below C9.out.drew Y1.out, pw_cell_below C9.out.drew Y2.out, pw_cell_below C9.out.drew Y3.out, pw_cell_below C9.out.drew Y4.out⟩ (fun hHeld => ?_)
       refine with_tabW fe_turn38.tab10 fe_turn38.bits10 (fun HT_ HW_ => ?_)
       refine pure_ (i := 0) (N := some 63) (v := ?_) (a' := ?_) #[true, false, false, false, false, false, false, false, false, false, false] rfl rfl (any_of HT_.out (by kernel_rfl)) (fun _ _ _ h => h) (Or.inl ⟨by rfl, ?_⟩) ?_ ?_
       rotate_left
       ·intro w'
        go_simp
        with_reducible rfl
       rotate_left
       ·simp only [Act.put, List.setIfInBounds_toArray, List.set_cons_zero, List.set_cons_succ, i64_w, i32_w]
        rfl
       refine pure_ (i := 1) (N := some 64) (v := ?_) (a' := ?_) #[true, true, false, false, false, false, false, false, false, false, false] rfl rfl (any_of HT_.out (by kernel_rfl)) (fun _ _ _ h => h) (Or.inl ⟨by rfl, ?_⟩) ?_ ?_
       rotate_left
       ·intro w'
        go_simp
        with_reducible rfl
       rotate_left
       ·simp only [Act.put, List.setIfInBounds_toArray, List.set_cons_zero, List.set_cons_succ, i64_w, i32_w]
        rfl
       refine pure_ (i := 4) (N := some 67) (v := ?_) (a' := ?_) #[true, true, false, false, true, false, false, false, false, false, false] rfl rfl (any_of HT_.out (by kernel_rfl)) (fun _ _ _ h => h) (Or.inl ⟨by rfl, ?_⟩) ?_ ?_
       rotate_left
       ·intro w'
        go_simp
        with_reducible rfl
       rotate_left
       ·simp only [Act.put, List.setIfInBounds_toArray, List.set_cons_zero, List.set_cons_succ, i64_w, i32_w]
        rfl
       refine take_ (i := 2) (N := some 65) (v := ?_) (a' := ?_) #[true, true, true, false, true, false, false, false, false, false, false] rfl rfl (take_ofW HT_.out HW_.out (by kernel_rfl)) (fun _ _ _ h => h) (Or.inl ⟨by rfl, ?_⟩) hHeld ?_ ?_
       rotate_left
       ·rintro w' ⟨s0, s1, s2, s3, s4, s5, s6, s7, s8, s9, s10, s11⟩
        go_simp
        with_reducible rfl
       rotate_left
       ·simp only [Act.put, List.setIfInBounds_toArray, List.set_cons_zero, List.set_cons_succ, i64_w, i32_w]
        rfl
       refine take_ (i := 3) (N := some 66) (v := ?_) (a' := ?_) #[true, true, true, true, true, false, false, false, false, false, false] rfl rfl (take_ofW HT_.out HW_.out (by kernel_rfl)) (fun _ _ _ h => h) (Or.inl ⟨by rfl, ?_⟩) hHeld ?_ ?_
       rotate_left
       ·rintro w' ⟨s0, s1, s2, s3, s4, s5, s6, s7, s8, s9, s10, s11⟩
        go_simp
        with_reducible rfl
       rotate_left
       ·simp only [Act.put, List.setIfInBounds_toArray, List.set_cons_zero, List.set_cons_succ, i64_w, i32_w]
        rfl
       refine take_ (i := 5) (N := some 68) (v := ?_) (a' := ?_) #[true, true, true, true, true, true, false, false, false, false, false] rfl rfl (take_ofW HT_.out HW_.out (by kernel_rfl)) (fun _ _ _ h => h) (Or.inl ⟨by rfl, ?_⟩) hHeld ?_ ?_
       rotate_left
       ·rintro w' ⟨s0, s1, s2, s3, s4, s5, s6, s7, s8, s9, s10, s11⟩
        go_simp
        with_reducible rfl
       rotate_left
       ·simp only [Act.put, List.setIfInBounds_toArray, List.set_cons_zero, List.set_cons_succ, i64_w, i32_w]
        rfl
       refine pure_ (i := 6) (N := some 69) (v := ?_) (a' := ?_) #[true, true, true, true, true, true, true, false, false, false, false] rfl rfl (any_of HT_.out (by kernel_rfl)) (fun _ _ _ h => h) (Or.inl ⟨by rfl, ?_⟩) ?_ ?_
       rotate_left
       ·intro w'
        go_simp
        with_reducible rfl
       rotate_left
       ·simp only [Act.put, List.setIfInBounds_toArray, List.set_cons_zero, List.set_cons_succ, i64_w, i32_w]
        rfl
       refine take_ (i := 7) (N := some 70) (v := ?_) (a' := ?_) #[true, true, true, true, true, true, true, true, false, false, false] rfl rfl (take_ofW HT_.out HW_.out (by kernel_rfl)) (fun _ _ _ h => h) (Or.inl ⟨by rfl, ?_⟩) hHeld ?_ ?_
       rotate_left
       ·rintro w' ⟨s0, s1, s2, s3, s4, s5, s6, s7, s8, s9, s10, s11⟩
        go_simp
        with_reducible rfl
       rotate_left
       ·simp only [Act.put, List.setIfInBounds_toArray, List.set_cons_zero, List.set_cons_succ, i64_w, i32_w]
        rfl
       refine pure_ (i := 8) (N := some 71) (v := ?_) (a' := ?_) #[true, true, true, true, true, true, true, true, true, false, false] rfl rfl (any_of HT_.out (by kernel_rfl)) (fun _ _ _ h => h) (Or.inl ⟨by rfl, ?_⟩) ?_ ?_
       rotate_left
       ·intro w'
        go_simp
        with_reducible rfl
       rotate_left
       ·simp only [Act.put, List.setIfInBounds_toArray, List.set_cons_zero, List.set_cons_succ, i64_w, i32_w]
        rfl
       refine pure_ (i := 9) (N := some 72) (v := ?_) (a' := ?_) #[true, true, true, true, true, true, true, true, true, true, false] rfl rfl (any_of HT_.out (by kernel_rfl)) (fun _ _ _ h => h) (Or.inl ⟨by rfl, ?_⟩) ?_ ?_
       rotate_left
       ·intro w'
        go_simp
        with_reducible rfl
       rotate_left
       ·simp only [Act.put, List.setIfInBounds_toArray, List.set_cons_zero, List.set_cons_succ, i64_w, i32_w]
        rfl
       refine pure_ (i := 10) (N := some 8) (v := ?_) (a' := ?_) #[true, true, true, true, true, true, true, true, true, true, true] rfl rfl (any_of HT_.out (by kernel_rfl)) (fun _ _ _ h => h) (Or.inl ⟨by rfl, ?_⟩) ?_ ?_
       rotate_left
       ·intro w'
        go_simp
        with_reducible rfl
       rotate_left
       ·simp only [Act.put, List.setIfInBounds_toArray, List.set_cons_zero, List.set_cons_succ, i64_w, i32_w]
        rfl
       refine done_ (done_of HT_.out (by kernel_rfl)) ?_
       have u0 : W9.drew.cell? ⟨bx, 0, none⟩ = some (.slice (some ⟨ob, 0, none⟩) n n) := (blk_cell (blk_drew (blk_below BX0.out C9.out)) 0).trans rfl
       have u1 : W9.drew.cell? ⟨wr.heap.size, 0, none⟩ = some (.int .i64 x.f0) := (blk_cell (blk_drew N10.out) 0).trans rfl
       have u2 : W9.drew.cell? ⟨wr.heap.size + 1, 0, none⟩ = some (.int .u64 f.f0.f0) := (blk_cell (blk_drew N11.out) 0).trans rfl
       have u3 : W9.drew.cell? ⟨wr.heap.size + 1, 1, none⟩ = some (.int .u64 f.f0.f1) := (blk_cell (blk_drew N11.out) 1).trans rfl
       have u4 : W9.drew.cell? ⟨wr.heap.size + 1, 2, none⟩ = some (.int .u64 f.f0.f2) := (blk_cell (blk_drew N11.out) 2).trans rfl
       have u5 : W9.drew.cell? ⟨wr.heap.size + 1, 3, none⟩ = some (.int .u64 f.f0.f3) := (blk_cell (blk_drew N11.out) 3).trans rfl
       have u6 : W9.drew.cell? ⟨wr.heap.size + 1, 4, none⟩ = some (.bool f.f1) := (blk_cell (blk_drew N11.out) 4).trans rfl
       have t0 := pw_cell_below C9.out.drew Y0.out
       have t1 := pw_cell_below C9.out.drew Y1.out
       have t2 := pw_cell_below C9.out.drew Y2.out
       have t3 := pw_cell_below C9.out.drew Y3.out
       have t4 := pw_cell_below C9.out.drew Y4.out
       have D9 := Aside0.mk (blk_below HDW.out C9.out.drew)
       have E9 := Aside0.mk (blk_below HDW.out C9.out)
       have t0_ := pw_cell_below C9.out Y0.out
       have t1_ := pw_cell_below C9.out Y1.out
       have t2_ := pw_cell_below C9.out Y2.out
       have t3_ := pw_cell_below C9.out Y3.out
       have t4_ := pw_cell_below C9.out Y4.out
       have v0_ := blk_frozen E9.out (x.f0.toNat * 5)
       have v1_ := blk_frozen E9.out (x.f0.toNat * 5 + 1)
       have v2_ := blk_frozen E9.out (x.f0.toNat * 5 + 2)
       have v3_ := blk_frozen E9.out (x.f0.toNat * 5 + 3)
       have v4_ := blk_frozen E9.out (x.f0.toNat * 5 + 4)
       have v0 := blk_frozen D9.out (x.f0.toNat * 5)
       have v1 := blk_frozen D9.out (x.f0.toNat * 5 + 1)
       have v2 := blk_frozen D9.out (x.f0.toNat * 5 + 2)
       have v3 := blk_frozen D9.out (x.f0.toNat * 5 + 3)
       have v4 := blk_frozen D9.out (x.f0.toNat * 5 + 4)
       go_wp2
       go_roundw
       case rel =>
        refine ⟨i + 1, cur.set x.f0.toNat f, !(eqW f y), by omega, by go_num, ?_, ⟨by rw [HQE.out]; exact HA6.out⟩, HIN2, ?_, ?_, ?_, ⟨(HEN2.out _ (by first | rfl | simp)).1⟩, ⟨(HEN2.out _ (by first | rfl | simp)).2⟩⟩
        ·unfold eqW
         simp only [Bool.not_and]
        ·exact ⟨blk_drew (by rw [← encW_set _ _ _ hjl]; exact blk_put (blk_put (blk_put (blk_put (blk_put E9.out _ _ rfl) _ _ rfl) _ _ rfl) _ _ rfl) _ _ rfl)⟩
        ·exact ⟨keep_drew ((((((KW.out _ C9.out).set_ _ _).set_ _ _).set_ _ _).set_ _ _).set_ _ _)⟩
        ·exact ⟨((((((BW.out _ C9.out).setCell (p := ⟨ob, _, none⟩) hb _).setCell (p := ⟨ob, _, none⟩) hb _).setCell (p := ⟨ob, _, none⟩) hb _).setCell (p := ⟨ob, _, none⟩) hb _).setCell (p := ⟨ob, _, none⟩) hb _).drew⟩
       case measure => simp [intOf]; omega
     | true =>
      go_wp2
      refine start_ (n := 21) (S := fun w' => w'.cell? ⟨wr.heap.size + 1, 0, none⟩ = some (.int .u64 (orS y.f0 g1).f0) ∧ w'.cell? ⟨wr.heap.size + 1, 1, none⟩ = some (.int .u64 (orS y.f0 g1).f1) ∧ w'.cell? ⟨wr.heap.size + 1, 2, none⟩ = some (.int .u64 (orS y.f0 g1).f2) ∧ w'.cell? ⟨wr.heap.size + 1, 3, none⟩ = some (.int .u64 (orS y.f0 g1).f3) ∧ w'.cell? ⟨wr.heap.size + 1, 4, none⟩ = some (.bool true) ∧ w'.cell? ⟨bx, 0, none⟩ = some (.slice (some ⟨ob, 0, none⟩) n n) ∧ w'.cell? ⟨ob, hd.toNat * 5, none⟩ = some (.int .u64 z.f0.f0) ∧ w'.cell? ⟨ob, hd.toNat * 5 + 1, none⟩ = some (.int .u64 z.f0.f1) ∧ w'.cell? ⟨ob, hd.toNat * 5 + 2, none⟩ = some (.int .u64 z.f0.f2) ∧ w'.cell? ⟨ob, hd.toNat * 5 + 3, none⟩ = some (.int .u64 z.f0.f3) ∧ w'.cell? ⟨ob, hd.toNat * 5 + 4, none⟩ = some (.bool z.f1)) (ds := [18, 20]) #[false, false, false, false, false, false, false, false, false, false, false, false, false, false, false, false, false, false, false, false, false] (by kernel_rfl) rfl rfl ⟨(blk_cell (blk_drew P11.out) 0).trans rfl, (blk_cell (blk_drew P11.out) 1).trans rfl, (blk_cell (blk_drew P11.out) 2).trans rfl, (blk_cell (blk_drew P11.out) 3).trans rfl, (blk_cell (blk_drew P11.out) 4).trans rfl, (blk_cell (blk_drew (blk_below BX0.out C8.out)) 0).trans rfl, pw_cell_below C8.out.drew Z0.out, pw_cell_below C8.out.drew Z1.out, pw_cell_below C8.out.drew Z2.out, pw_cell_below C8.out.drew Z3.out, pw_cell_below C8.out.drew Z4.out⟩ (fun hHeld => ?_)
      refine with_tabW fe_turn38.tab9 fe_turn38.bits9 (fun HT_ HW_ => ?_)
      refine pure_ (i := 0) (N := some 44) (v := ?_) (a' := ?_) #[true, false, false, false, false, false, false, false, false, false, false, false, false, false, false, false, false, false, false, false, false] rfl rfl (any_of HT_.out (by kernel_rfl)) (fun _ _ _ h => h) (Or.inl ⟨by rfl, ?_⟩) ?_ ?_
      rotate_left
      ·intro w'
       go_simp
       with_reducible rfl
      rotate_left
      ·simp only [Act.put, List.setIfInBounds_toArray, List.set_cons_zero, List.set_cons_succ, i64_w, i32_w]
       rfl
      refine pure_ (i := 3) (N := some 47) (v := ?_) (a' := ?_) #[true, false, false, true, false, false, false, false, false, false, false, false, false, false, false, false, false, false, false, false, false] rfl rfl (any_of HT_.out (by kernel_rfl)) (fun _ _ _ h => h) (Or.inl ⟨by rfl, ?_⟩) ?_ ?_
      rotate_left
      ·intro w'
       go_simp
       with_reducible rfl
      rotate_left
      ·simp only [Act.put, List.setIfInBounds_toArray, List.set_cons_zero, List.set_cons_succ, i64_w, i32_w]
       rfl
      refine pure_ (i := 8) (N := some 52) (v := ?_) (a' := ?_) #[true, false, false, true, false, false, false, false, true, false, false, false, false, false, false, false, false, false, false, false, false] rfl rfl (any_of HT_.out (by kernel_rfl)) (fun _ _ _ h => h) (Or.inl ⟨by rfl, ?_⟩) ?_ ?_
      rotate_left
      ·intro w'
       go_simp
       with_reducible rfl
      rotate_left
      ·simp only [Act.put, List.setIfInBounds_toArray, List.set_cons_zero, List.set_cons_succ, i64_w, i32_w]
       rfl
      refine take_ (i := 1) (N := some 45) (v := ?_) (a' := ?_) #[true, true, false, true, false, false, false, false, true, false, false, false, false, false, false, false, false, false, false, false, false] rfl rfl (take_ofW HT_.out HW_.out (by kernel_rfl)) (fun _ _ _ h => h) (Or.inl ⟨by rfl, ?_⟩) hHeld ?_ ?_
      rotate_left
      ·rintro w' ⟨s0, s1, s2, s3, s4, s5, s6, s7, s8, s9, s10⟩
       go_simp
       with_reducible rfl
      rotate_left
      ·simp only [Act.put, List.setIfInBounds_toArray, List.set_cons_zero, List.set_cons_succ, i64_w, i32_w]
       rfl
      refine take_ (i := 2) (N := some 46) (v := ?_) (a' := ?_) #[true, true, true, true, false, false, false, false, true, false, false, false, false, false, false, false, false, false, false, false, false] rfl rfl (take_ofW HT_.out HW_.out (by kernel_rfl)) (fun _ _ _ h => h) (Or.inl ⟨by rfl, ?_⟩) hHeld ?_ ?_
      rotate_left
      ·rintro w' ⟨s0, s1, s2, s3, s4, s5, s6, s7, s8, s9, s10⟩
       go_simp
       with_reducible rfl
      rotate_left
      ·simp only [Act.put, List.setIfInBounds_toArray, List.set_cons_zero, List.set_cons_succ, i64_w, i32_w]
       rfl
      refine pure_ (i := 4) (N := some 48) (v := ?_) (a' := ?_) #[true, true, true, true, true, false, false, false, true, false, false, false, false, false, false, false, false, false, false, false, false] rfl rfl (any_of HT_.out (by kernel_rfl)) (fun _ _ _ h => h) (Or.inl ⟨by rfl, ?_⟩) ?_ ?_
      rotate_left
      ·intro w'
       go_simp
       with_reducible rfl
      rotate_left
      ·simp only [Act.put, List.setIfInBounds_toArray, List.set_cons_zero, List.set_cons_succ, i64_w, i32_w]
       rfl
      refine pure_ (i := 5) (N := some 49) (v := ?_) (a' := ?_) #[true, true, true, true, true, true, false, false, true, false, false, false, false, false, false, false, false, false, false, false, false] rfl rfl (any_of HT_.out (by kernel_rfl)) (fun _ _ _ h => h) (Or.inl ⟨by rfl, ?_⟩) ?_ ?_
      rotate_left
      ·intro w'
       go_simp
       with_reducible rfl
      rotate_left
      ·simp only [Act.put, List.setIfInBounds_toArray, List.set_cons_zero, List.set_cons_succ, i64_w, i32_w]
       rfl
      refine take_ (i := 6) (N := some 50) (v := ?_) (a' := ?_) #[true, true, true, true, true, true, true, false, true, false, false, false, false, false, false, false, false, false, false, false, false] rfl rfl (take_ofW HT_.out HW_.out (by kernel_rfl)) (fun _ _ _ h => h) (Or.inl ⟨by rfl, ?_⟩) hHeld ?_ ?_
      rotate_left
      ·rintro w' ⟨s0, s1, s2, s3, s4, s5, s6, s7, s8, s9, s10⟩
       go_simp
       with_reducible rfl
      rotate_left
      ·simp only [Act.put, List.setIfInBounds_toArray, List.set_cons_zero, List.set_cons_succ, i64_w, i32_w]
       rfl
      refine take_ (i := 9) (N := some 53) (v := ?_) (a' := ?_) #[true, true, true, true, true, true, true, false, true, true, false, false, false, false, false, false, false, false, false, false, false] rfl rfl (take_ofW HT_.out HW_.out (by kernel_rfl)) (fun _ _ _ h => h) (Or.inl ⟨by rfl, ?_⟩) hHeld ?_ ?_
      rotate_left
      ·rintro w' ⟨s0, s1, s2, s3, s4, s5, s6, s7, s8, s9, s10⟩
       go_simp
       with_reducible rfl
      rotate_left
      ·simp only [Act.put, List.setIfInBounds_toArray, List.set_cons_zero, List.set_cons_succ, i64_w, i32_w]
       rfl
      refine one_ (i := 7) (N := some 51) #[true, true, true, true, true, true, true, true, true, true, false, false, false, false, false, false, false, false, false, false, false] rfl rfl (one_of HT_.out (by kernel_rfl)) (by decide) (fun K hK => ?_)
      refine goes_ Try.func35 (by kernel_rfl) rfl #[.agg #[.int .u64 (orS y.f0 g1).f0, .int .u64 (orS y.f0 g1).f1, .int .u64 (orS y.f0 g1).f2, .int .u64 (orS y.f0 g1).f3], .agg #[.int .u64 z.f0.f0, .int .u64 z.f0.f1, .int .u64 z.f0.f2, .int .u64 z.f0.f3]] (by rfl) rfl rfl (by (try simp only [List.map_toArray, List.map_cons, List.map_nil]); first | done | rfl) ?_
      refine (fe_or (orS y.f0 g1) z.f0 _).mono ?_
      rintro e4 w4 ⟨rfl, hb4⟩
      have HB4 := Aside0.mk hb4
      clear hb4
      refine ⟨_, rfl, ?_⟩
      refine hK.out _ _ ⟨pw_cell_below HB4.out ((blk_cell (blk_drew P11.out) 0).trans rfl), pw_cell_below HB4.out ((blk_cell (blk_drew P11.out) 1).trans rfl), pw_cell_below HB4.out ((blk_cell (blk_drew P11.out) 2).trans rfl), pw_cell_below HB4.out ((blk_cell (blk_drew P11.out) 3).trans rfl), pw_cell_below HB4.out ((blk_cell (blk_drew P11.out) 4).trans rfl), pw_cell_below HB4.out ((blk_cell (blk_drew (blk_below BX0.out C8.out)) 0).trans rfl), pw_cell_below HB4.out (pw_cell_below C8.out.drew Z0.out), pw_cell_below HB4.out (pw_cell_below C8.out.drew Z1.out), pw_cell_below HB4.out (pw_cell_below C8.out.drew Z2.out), pw_cell_below HB4.out (pw_cell_below C8.out.drew Z3.out), pw_cell_below HB4.out (pw_cell_below C8.out.drew Z4.out)⟩ (fun hHeld => ?_)
      clear hK K
      refine norm_ (a' := ?_) ?_ ?_
      rotate_left
      ·show Act.put _ (some 51) _ = _
       simp only [Act.put, List.setIfInBounds_toArray, List.set_cons_zero, List.set_cons_succ, i64_w, i32_w]
       rfl
      refine pure_ (i := 10) (N := some 54) (v := ?_) (a' := ?_) #[true, true, true, true, true, true, true, true, true, true, true, false, false, false, false, false, false, false, false, false, false] rfl rfl (any_of HT_.out (by kernel_rfl)) (fun _ _ _ h => h) (Or.inl ⟨by rfl, ?_⟩) ?_ ?_
      rotate_left
      ·intro w'
       go_simp
       with_reducible rfl
      rotate_left
      ·simp only [Act.put, List.setIfInBounds_toArray, List.set_cons_zero, List.set_cons_succ, i64_w, i32_w]
       rfl
      refine pure_ (i := 11) (N := some 55) (v := undef) (a' := ?_) #[true, true, true, true, true, true, true, true, true, true, true, true, false, false, false, false, false, false, false, false, false] rfl rfl (any_of HT_.out (by kernel_rfl)) (fun _ _ _ h => h) (Or.inr ⟨by rfl, rfl⟩) ?_ ?_
      rotate_left
      ·simp only [Act.put, List.setIfInBounds_toArray, List.set_cons_zero, List.set_cons_succ, i64_w, i32_w]
       rfl
      refine pure_ (i := 12) (N := some 56) (v := undef) (a' := ?_) #[true, true, true, true, true, true, true, true, true, true, true, true, true, false, false, false, false, false, false, false, false] rfl rfl (any_of HT_.out (by kernel_rfl)) (fun _ _ _ h => h) (Or.inr ⟨by rfl, rfl⟩) ?_ ?_
      rotate_left
      ·simp only [Act.put, List.setIfInBounds_toArray, List.set_cons_zero, List.set_cons_succ, i64_w, i32_w]
       rfl
      refine pure_ (i := 13) (N := some 57) (v := undef) (a' := ?_) #[true, true, true, true, true, true, true, true, true, true, true, true, true, true, false, false, false, false, false, false, false] rfl rfl (any_of HT_.out (by kernel_rfl)) (fun _ _ _ h => h) (Or.inr ⟨by rfl, rfl⟩) ?_ ?_
      rotate_left
      ·simp only [Act.put, List.setIfInBounds_toArray, List.set_cons_zero, List.set_cons_succ, i64_w, i32_w]
       rfl
      refine pure_ (i := 14) (N := some 58) (v := undef) (a' := ?_) #[true, true, true, true, true, true, true, true, true, true, true, true, true, true, true, false, false, false, false, false, false] rfl rfl (any_of HT_.out (by kernel_rfl)) (fun _ _ _ h => h) (Or.inr ⟨by rfl, rfl⟩) ?_ ?_
      rotate_left
      ·simp only [Act.put, List.setIfInBounds_toArray, List.set_cons_zero, List.set_cons_succ, i64_w, i32_w]
       rfl
      refine pure_ (i := 15) (N := some 59) (v := undef) (a' := ?_) #[true, true, true, true, true, true, true, true, true, true, true, true, true, true, true, true, false, false, false, false, false] rfl rfl (any_of HT_.out (by kernel_rfl)) (fun _ _ _ h => h) (Or.inr ⟨by rfl, rfl⟩) ?_ ?_
      rotate_left
      ·simp only [Act.put, List.setIfInBounds_toArray, List.set_cons_zero, List.set_cons_succ, i64_w, i32_w]
       rfl
      refine pure_ (i := 16) (N := some 60) (v := ?_) (a' := ?_) #[true, true, true, true, true, true, true, true, true, true, true, true, true, true, true, true, true, false, false, false, false] rfl rfl (any_of HT_.out (by kernel_rfl)) (fun _ _ _ h => h) (Or.inl ⟨by rfl, ?_⟩) ?_ ?_
      rotate_left
      ·intro w'
       go_simp
       with_reducible rfl
      rotate_left
      ·simp only [Act.put, List.setIfInBounds_toArray, List.set_cons_zero, List.set_cons_succ, i64_w, i32_w]
       rfl
      refine pure_ (i := 17) (N := some 61) (v := ?_) (a' := ?_) #[true, true, true, true, true, true, true, true, true, true, true, true, true, true, true, true, true, true, false, false, false] rfl rfl (any_of HT_.out (by kernel_rfl)) (fun _ _ _ h => h) (Or.inl ⟨by rfl, ?_⟩) ?_ ?_
      rotate_left
      ·intro w'
       go_simp
       with_reducible rfl
      rotate_left
      ·simp only [Act.put, List.setIfInBounds_toArray, List.set_cons_zero, List.set_cons_succ, i64_w, i32_w]
       rfl
      refine last_ (i := 18) (N := none) #[true, true, true, true, true, true, true, true, true, true, true, true, true, true, true, true, true, true, true, false, false] rfl rfl (one_of HT_.out (by kernel_rfl)) (by decide) (fun K hK => ?_)
      have M := Aside0.mk (blk_below (blk_drew P11.out) HB4.out)
      have m0 : w4.cell? ⟨wr.heap.size + 1, 0, none⟩ = some (.int .u64 (orS y.f0 g1).f0) := (blk_cell M.out 0).trans rfl
      have m1 : w4.cell? ⟨wr.heap.size + 1, 1, none⟩ = some (.int .u64 (orS y.f0 g1).f1) := (blk_cell M.out 1).trans rfl
      have m2 : w4.cell? ⟨wr.heap.size + 1, 2, none⟩ = some (.int .u64 (orS y.f0 g1).f2) := (blk_cell M.out 2).trans rfl
      have m3 : w4.cell? ⟨wr.heap.size + 1, 3, none⟩ = some (.int .u64 (orS y.f0 g1).f3) := (blk_cell M.out 3).trans rfl
      have m4 : w4.cell? ⟨wr.heap.size + 1, 4, none⟩ = some (.bool true) := (blk_cell M.out 4).trans rfl
      have v0 := blk_frozen M.out 0
      have v1 := blk_frozen M.out 1
      have v2 := blk_frozen M.out 2
      have v3 := blk_frozen M.out 3
      have v4 := blk_frozen M.out 4
      refine skip_ (w1 := ?_) (by rfl) rfl ?_ ?_
      rotate_left
      ·go_simp
       rfl
      refine hK.out _ _ ?_
      clear hK K
      refine pure_ (i := 19) (N := some 62) (v := ?_) (a' := ?_) #[true, true, true, true, true, true, true, true, true, true, true, true, true, true, true, true, true, true, true, true, false] rfl rfl (any_of HT_.out (by kernel_rfl)) (fun _ _ _ h => h) (Or.inl ⟨by rfl, ?_⟩) ?_ ?_
      rotate_left
      ·intro w'
       go_simp
       with_reducible rfl
      rotate_left
      ·simp only [Act.put, List.setIfInBounds_toArray, List.set_cons_zero, List.set_cons_succ, i64_w, i32_w]
       rfl
      refine last_ (i := 20) (N := none) #[true, true, true, true, true, true, true, true, true, true, true, true, true, true, true, true, true, true, true, true, true] rfl rfl (one_of HT_.out (by kernel_rfl)) (by decide) (fun K hK => ?_)
      refine skip_ (w1 := ?_) (by rfl) rfl ?_ ?_
      rotate_left
      ·go_simp
       rfl
      refine hK.out _ _ ?_
      clear hK K
      refine done_ (done_of HT_.out (by kernel_rfl)) ?_
      have C9 : Aside0 (Below wr.heap.size wr (((((w4.setCell ⟨wr.heap.size + 1, 0, none⟩ (.int .u64 (orS (orS y.f0 g1) z.f0).f0)).setCell ⟨wr.heap.size + 1, 1, none⟩ (.int .u64 (orS (orS y.f0 g1) z.f0).f1)).setCell ⟨wr.heap.size + 1, 2, none⟩ (.int .u64 (orS (orS y.f0 g1) z.f0).f2)).setCell ⟨wr.heap.size + 1, 3, none⟩ (.int .u64 (orS (orS y.f0 g1) z.f0).f3)).setCell ⟨wr.heap.size + 1, 4, none⟩ (.bool true))) := ⟨(((((C8.out.drew.trans (HB4.out.mono C8.out.size)).setCell (p := ⟨_, _, none⟩) (Nat.le_succ _) _).setCell (p := ⟨_, _, none⟩) (Nat.le_succ _) _).setCell (p := ⟨_, _, none⟩) (Nat.le_succ _) _).setCell (p := ⟨_, _, none⟩) (Nat.le_succ _) _).setCell (p := ⟨_, _, none⟩) (Nat.le_succ _) _⟩
      obtain ⟨f, HFE⟩ : ∃ f : S66, Aside0 ((⟨(orS (orS y.f0 g1) z.f0), true⟩ : S66) = f) := ⟨_, ⟨rfl⟩⟩
      have HNF : Aside0 (newF e fs z q2 y = f) := ⟨by unfold newF; rw [if_pos HN.out, HG1.out, HYF.out]; exact HFE.out⟩
      have N11 : Aside0 ((((((w4.setCell ⟨wr.heap.size + 1, 0, none⟩ (.int .u64 (orS (orS y.f0 g1) z.f0).f0)).setCell ⟨wr.heap.size + 1, 1, none⟩ (.int .u64 (orS (orS y.f0 g1) z.f0).f1)).setCell ⟨wr.heap.size + 1, 2, none⟩ (.int .u64 (orS (orS y.f0 g1) z.f0).f2)).setCell ⟨wr.heap.size + 1, 3, none⟩ (.int .u64 (orS (orS y.f0 g1) z.f0).f3)).setCell ⟨wr.heap.size + 1, 4, none⟩ (.bool true)).heap[wr.heap.size + 1]? = some (.cells #[.int .u64 f.f0.f0, .int .u64 f.f0.f1, .int .u64 f.f0.f2, .int .u64 f.f0.f3, .bool f.f1] 66 (0, 0))) := ⟨by rw [← HFE.out]; exact blk_put (blk_put (blk_put (blk_put (blk_put M.out 0 _ rfl) 1 _ rfl) 2 _ rfl) 3 _ rfl) 4 _ rfl⟩
      have N10 : Aside0 ((((((w4.setCell ⟨wr.heap.size + 1, 0, none⟩ (.int .u64 (orS (orS y.f0 g1) z.f0).f0)).setCell ⟨wr.heap.size + 1, 1, none⟩ (.int .u64 (orS (orS y.f0 g1) z.f0).f1)).setCell ⟨wr.heap.size + 1, 2, none⟩ (.int .u64 (orS (orS y.f0 g1) z.f0).f2)).setCell ⟨wr.heap.size + 1, 3, none⟩ (.int .u64 (orS (orS y.f0 g1) z.f0).f3)).setCell ⟨wr.heap.size + 1, 4, none⟩ (.bool true)).heap[wr.heap.size]? = some (.cells #[.int .i64 x.f0, .int .i64 x.f1, .int .i64 x.f2] 68 (0, 0))) := ⟨blk_far (blk_far (blk_far (blk_far (blk_far (blk_below (blk_drew P10.out) HB4.out) (by simp) _) (by simp) _) (by simp) _) (by simp) _) (by simp) _⟩
      clear m0 m1 m2 m3 m4 v0 v1 v2 v3 v4 M HB4 P11 P10 C8
      generalize (((((w4.setCell ⟨wr.heap.size + 1, 0, none⟩ (.int .u64 (orS (orS y.f0 g1) z.f0).f0)).setCell ⟨wr.heap.size + 1, 1, none⟩ (.int .u64 (orS (orS y.f0 g1) z.f0).f1)).setCell ⟨wr.heap.size + 1, 2, none⟩ (.int .u64 (orS (orS y.f0 g1) z.f0).f2)).setCell ⟨wr.heap.size + 1, 3, none⟩ (.int .u64 (orS (orS y.f0 g1) z.f0).f3)).setCell ⟨wr.heap.size + 1, 4, none⟩ (.bool true)) = W9 at *
      have HA6 : Aside0 (posW e fs hd q2 (cur.set x.f0.toNat f) = r) := ⟨by rw [← HNF.out]; exact HA4.out⟩
      have HIN2 : Aside0 (InW n (cur.set x.f0.toNat f)) := ⟨by rw [← HNF.out, ← HONE.out]; exact HINN.out⟩
      have HEN2 := Aside0.mk HEND.out
      rw [HONE.out, HNF.out] at HEN2
      go_wp2
      cases b with
      | true =>
       refine start_ (n := 11) (S := fun w' => w'.cell? ⟨wr.heap.size + 1, 0, none⟩ = some (.int .u64 f.f0.f0) ∧ w'.cell? ⟨wr.heap.size + 1, 1, none⟩ = some (.int .u64 f.f0.f1) ∧ w'.cell? ⟨wr.heap.size + 1, 2, none⟩ = some (.int .u64 f.f0.f2) ∧ w'.cell? ⟨wr.heap.size + 1, 3, none⟩ = some (.int .u64 f.f0.f3) ∧ w'.cell? ⟨wr.heap.size + 1, 4, none⟩ = some (.bool f.f1) ∧ w'.cell? ⟨bx, 0, none⟩ = some (.slice (some ⟨ob, 0, none⟩) n n) ∧ w'.cell? ⟨wr.heap.size, 0, none⟩ = some (.int .i64 x.f0) ∧ w'.cell? ⟨ob, x.f0.toNat * 5, none⟩ = some (.int .u64 y.f0.f0) ∧ w'.cell? ⟨ob, x.f0.toNat * 5 + 1, none⟩ = some (.int .u64 y.f0.f1) ∧ w'.cell? ⟨ob, x.f0.toNat * 5 + 2, none⟩ = some (.int .u64 y.f0.f2) ∧ w'.cell? ⟨ob, x.f0.toNat * 5 + 3, none⟩ = some (.int .u64 y.f0.f3) ∧ w'.cell? ⟨ob, x.f0.toNat * 5 + 4, none⟩ = some (.bool y.f1)) (ds := []) #[false, false, false, false, false, false, false, false, false, false, false] (by kernel_rfl) rfl rfl ⟨(blk_cell (blk_drew N11.out) 0).trans rfl, (blk_cell (blk_drew N11.out) 1).trans rfl, (blk_cell (blk_drew N11.out) 2).trans rfl, (blk_cell (blk_drew N11.out) 3).trans rfl, (blk_cell (blk_drew N11.out) 4).trans rfl, (blk_cell (blk_drew (blk_below BX0.out C9.out)) 0).trans rfl, (blk_cell (blk_drew N10.out) 0).trans rfl, pw_cell_below C9.out.drew Y0.out, pw_cell_below C9.out.drew Y1.out, pw_cell_below C9.out.drew Y2.out, pw_cell_below C9.out.drew Y3.out, pw_cell_below C9.out.drew Y4.out⟩ (fun hHeld => ?_)
       refine with_tabW fe_turn38.tab10 fe_turn38.bits10 (fun HT_ HW_ => ?_)
       refine pure_ (i := 0) (N := some 63) (v := ?_) (a' := ?_) #[true, false, false, false, false, false, false, false, false, false, false] rfl rfl (any_of HT_.out (by kernel_rfl)) (fun _ _ _ h => h) (Or.inl ⟨by rfl, ?_⟩) ?_ ?_
       rotate_left
       ·intro w'
        go_simp
        with_reducible rfl
       rotate_left
       ·simp only [Act.put, List.setIfInBounds_toArray, List.set_cons_zero, List.set_cons_succ, i64_w, i32_w]
        rfl
       refine pure_ (i := 1) (N := some 64) (v := ?_) (a' := ?_) #[true, true, false, false, false, false, false, false, false, false, false] rfl rfl (any_of HT_.out (by kernel_rfl)) (fun _ _ _ h => h) (Or.inl ⟨by rfl, ?_⟩) ?_ ?_
       rotate_left
       ·intro w'
        go_simp
        with_reducible rfl
       rotate_left
       ·simp only [Act.put, List.setIfInBounds_toArray, List.set_cons_zero, List.set_cons_succ, i64_w, i32_w]
        rfl
       refine pure_ (i := 2) (N := some 65) (v := undef) (a' := ?_) #[true, true, true, false, false, false, false, false, false, false, false] rfl rfl (any_of HT_.out (by kernel_rfl)) (fun _ _ _ h => h) (Or.inr ⟨by rfl, rfl⟩) ?_ ?_
       rotate_left
       ·simp only [Act.put, List.setIfInBounds_toArray, List.set_cons_zero, List.set_cons_succ, i64_w, i32_w]
        rfl
       refine pure_ (i := 3) (N := some 66) (v := undef) (a' := ?_) #[true, true, true, true, false, false, false, false, false, false, false] rfl rfl (any_of HT_.out (by kernel_rfl)) (fun _ _ _ h => h) (Or.inr ⟨by rfl, rfl⟩) ?_ ?_
       rotate_left
       ·simp only [Act.put, List.setIfInBounds_toArray, List.set_cons_zero, List.set_cons_succ, i64_w, i32_w]
        rfl
       refine pure_ (i := 4) (N := some 67) (v := undef) (a' := ?_) #[true, true, true, true, true, false, false, false, false, false, false] rfl rfl (any_of HT_.out (by kernel_rfl)) (fun _ _ _ h => h) (Or.inr ⟨by rfl, rfl⟩) ?_ ?_
       rotate_left
       ·simp only [Act.put, List.setIfInBounds_toArray, List.set_cons_zero, List.set_cons_succ, i64_w, i32_w]
        rfl
       refine pure_ (i := 5) (N := some 68) (v := undef) (a' := ?_) #[true, true, true, true, true, true, false, false, false, false, false] rfl rfl (any_of HT_.out (by kernel_rfl)) (fun _ _ _ h => h) (Or.inr ⟨by rfl, rfl⟩) ?_ ?_
       rotate_left
       ·simp only [Act.put, List.setIfInBounds_toArray, List.set_cons_zero, List.set_cons_succ, i64_w, i32_w]
        rfl
       refine pure_ (i := 6) (N := some 69) (v := undef) (a' := ?_) #[true, true, true, true, true, true, true, false, false, false, false] rfl rfl (any_of HT_.out (by kernel_rfl)) (fun _ _ _ h => h) (Or.inr ⟨by rfl, rfl⟩) ?_ ?_
       rotate_left
       ·simp only [Act.put, List.setIfInBounds_toArray, List.set_cons_zero, List.set_cons_succ, i64_w, i32_w]
        rfl
       refine pure_ (i := 7) (N := some 70) (v := undef) (a' := ?_) #[true, true, true, true, true, true, true, true, false, false, false] rfl rfl (any_of HT_.out (by kernel_rfl)) (fun _ _ _ h => h) (Or.inr ⟨by rfl, rfl⟩) ?_ ?_
       rotate_left
       ·simp only [Act.put, List.setIfInBounds_toArray, List.set_cons_zero, List.set_cons_succ, i64_w, i32_w]
        rfl
       refine pure_ (i := 8) (N := some 71) (v := undef) (a' := ?_) #[true, true, true, true, true, true, true, true, true, false, false] rfl rfl (any_of HT_.out (by kernel_rfl)) (fun _ _ _ h => h) (Or.inr ⟨by rfl, rfl⟩) ?_ ?_
       rotate_left
       ·simp only [Act.put, List.setIfInBounds_toArray, List.set_cons_zero, List.set_cons_succ, i64_w, i32_w]
        rfl
       refine pure_ (i := 9) (N := some 72) (v := ?_) (a' := ?_) #[true, true, true, true, true, true, true, true, true, true, false] rfl rfl (any_of HT_.out (by kernel_rfl)) (fun _ _ _ h => h) (Or.inl ⟨by rfl, ?_⟩) ?_ ?_
       rotate_left
       ·intro w'
        go_simp
        with_reducible rfl
       rotate_left
       ·simp only [Act.put, List.setIfInBounds_toArray, List.set_cons_zero, List.set_cons_succ, i64_w, i32_w]
        rfl
       refine pure_ (i := 10) (N := some 8) (v := ?_) (a' := ?_) #[true, true, true, true, true, true, true, true, true, true, true] rfl rfl (any_of HT_.out (by kernel_rfl)) (fun _ _ _ h => h) (Or.inl ⟨by rfl, ?_⟩) ?_ ?_
       rotate_left
       ·intro w'
        go_simp
        with_reducible rfl
       rotate_left
       ·simp only [Act.put, List.setIfInBounds_toArray, List.set_cons_zero, List.set_cons_succ, i64_w, i32_w]
        rfl
       refine done_ (done_of HT_.out (by kernel_rfl)) ?_
       have u0 : W9.drew.cell? ⟨bx, 0, none⟩ = some (.slice (some ⟨ob, 0, none⟩) n n) := (blk_cell (blk_drew (blk_below BX0.out C9.out)) 0).trans rfl
       have u1 : W9.drew.cell? ⟨wr.heap.size, 0, none⟩ = some (.int .i64 x.f0) := (blk_cell (blk_drew N10.out) 0).trans rfl
       have u2 : W9.drew.cell? ⟨wr.heap.size + 1, 0, none⟩ = some (.int .u64 f.f0.f0) := (blk_cell (blk_drew N11.out) 0).trans rfl
       have u3 : W9.drew.cell? ⟨wr.heap.size + 1, 1, none⟩ = some (.int .u64 f.f0.f1) := (blk_cell (blk_drew N11.out) 1).trans rfl
       have u4 : W9.drew.cell? ⟨wr.heap.size + 1, 2, none⟩ = some (.int .u64 f.f0.f2) := (blk_cell (blk_drew N11.out) 2).trans rfl
       have u5 : W9.drew.cell? ⟨wr.heap.size + 1, 3, none⟩ = some (.int .u64 f.f0.f3) := (blk_cell (blk_drew N11.out) 3).trans rfl
       have u6 : W9.drew.cell? ⟨wr.heap.size + 1, 4, none⟩ = some (.bool f.f1) := (blk_cell (blk_drew N11.out) 4).trans rfl
       have t0 := pw_cell_below C9.out.drew Y0.out
       have t1 := pw_cell_below C9.out.drew Y1.out
       have t2 := pw_cell_below C9.out.drew Y2.out
       have t3 := pw_cell_below C9.out.drew Y3.out
       have t4 := pw_cell_below C9.out.drew Y4.out
       have D9 := Aside0.mk (blk_below HDW.out C9.out.drew)
       have E9 := Aside0.mk (blk_below HDW.out C9.out)
       have t0_ := pw_cell_below C9.out Y0.out
       have t1_ := pw_cell_below C9.out Y1.out
       have t2_ := pw_cell_below C9.out Y2.out
       have t3_ := pw_cell_below C9.out Y3.out
       have t4_ := pw_cell_below C9.out Y4.out
       have v0_ := blk_frozen E9.out (x.f0.toNat * 5)
       have v1_ := blk_frozen E9.out (x.f0.toNat * 5 + 1)
       have v2_ := blk_frozen E9.out (x.f0.toNat * 5 + 2)
       have v3_ := blk_frozen E9.out (x.f0.toNat * 5 + 3)
       have v4_ := blk_frozen E9.out (x.f0.toNat * 5 + 4)
       have v0 := blk_frozen D9.out (x.f0.toNat * 5)
       have v1 := blk_frozen D9.out (x.f0.toNat * 5 + 1)
       have v2 := blk_frozen D9.out (x.f0.toNat * 5 + 2)
       have v3 := blk_frozen D9.out (x.f0.toNat * 5 + 3)
       have v4 := blk_frozen D9.out (x.f0.toNat * 5 + 4)
       go_wp2
       go_roundw
       case rel =>
        refine ⟨i + 1, cur.set x.f0.toNat f, true, by omega, by go_num, rfl, ⟨by rw [HQE.out]; exact HA6.out⟩, HIN2, ?_, ?_, ?_, ⟨(HEN2.out true (by first | rfl | simp)).1⟩, ⟨(HEN2.out true (by first | rfl | simp)).2⟩⟩
        ·exact ⟨blk_drew (by rw [← encW_set _ _ _ hjl]; exact blk_put (blk_put (blk_put (blk_put (blk_put E9.out _ _ rfl) _ _ rfl) _ _ rfl) _ _ rfl) _ _ rfl)⟩
        ·exact ⟨keep_drew ((((((KW.out _ C9.out).set_ _ _).set_ _ _).set_ _ _).set_ _ _).set_ _ _)⟩
        ·exact ⟨((((((BW.out _ C9.out).setCell (p := ⟨ob, _, none⟩) hb _).setCell (p := ⟨ob, _, none⟩) hb _).setCell (p := ⟨ob, _, none⟩) hb _).setCell (p := ⟨ob, _, none⟩) hb _).setCell (p := ⟨ob, _, none⟩) hb _).drew⟩
       case measure => simp [intOf]; omega
      | false =>
       refine start_ (n := 11) (S := fun w' => w'.cell? ⟨wr.heap.size + 1, 0, none⟩ = some (.int .u64 f.f0.f0) ∧ w'.cell? ⟨wr.heap.size + 1, 1, none⟩ = some (.int .u64 f.f0.f1) ∧ w'.cell? ⟨wr.heap.size + 1, 2, none⟩ = some (.int .u64 f.f0.f2) ∧ w'.cell? ⟨wr.heap.size + 1, 3, none⟩ = some (.int .u64 f.f0.f3) ∧ w'.cell? ⟨wr.heap.size + 1, 4, none⟩ = some (.bool f.f1) ∧ w'.cell? ⟨bx, 0, none⟩ = some (.slice (some ⟨ob, 0, none⟩) n n) ∧ w'.cell? ⟨wr.heap.size, 0, none⟩ = some (.int .i64 x.f0) ∧ w'.cell? ⟨ob, x.f0.toNat * 5, none⟩ = some (.int .u64 y.f0.f0) ∧ w'.cell? ⟨ob, x.f0.toNat * 5 + 1, none⟩ = some (.int .u64 y.f0.f1) ∧ w'.cell? ⟨ob, x.f0.toNat * 5 + 2, none⟩ = some (.int .u64 y.f0.f2) ∧ w'.cell? ⟨ob, x.f0.toNat * 5 + 3, none⟩ = some (.int .u64 y.f0.f3) ∧ w'.cell? ⟨ob, x.f0.toNat * 5 + 4, none⟩ = some (.bool y.f1)) (ds := []) #[false, false, false, false, false, false, false, false, false, false, false] (by kernel_rfl) rfl rfl ⟨(blk_cell (blk_drew N11.out) 0).trans rfl, (blk_cell (blk_drew N11.out) 1).trans rfl, (blk_cell (blk_drew N11.out) 2).trans rfl, (blk_cell (blk_drew N11.out) 3).trans rfl, (blk_cell (blk_drew N11.out) 4).trans rfl, (blk_cell (blk_drew (blk_below BX0.out C9.out)) 0).trans rfl, (blk_cell (blk_drew N10.out) 0).trans rfl, pw_cell_below C9.out.drew Y0.out, pw_cell_below C9.out.drew Y1.out, pw_cell_below C9.out.drew Y2.out, pw_cell_below C9.out.drew Y3.out, pw_cell_below C9.out.drew Y4.out⟩ (fun hHeld => ?_)
       refine with_tabW fe_turn38.tab10 fe_turn38.bits10 (fun HT_ HW_ => ?_)
       refine pure_ (i := 0) (N := some 63) (v := ?_) (a' := ?_) #[true, false, false, false, false, false, false, false, false, false, false] rfl rfl (any_of HT_.out (by kernel_rfl)) (fun _ _ _ h => h) (Or.inl ⟨by rfl, ?_⟩) ?_ ?_
       rotate_left
       ·intro w'
        go_simp
        with_reducible rfl
       rotate_left
       ·simp only [Act.put, List.setIfInBounds_toArray, List.set_cons_zero, List.set_cons_succ, i64_w, i32_w]
        rfl
       refine pure_ (i := 1) (N := some 64) (v := ?_) (a' := ?_) #[true, true, false, false, false, false, false, false, false, false, false] rfl rfl (any_of HT_.out (by kernel_rfl)) (fun _ _ _ h => h) (Or.inl ⟨by rfl, ?_⟩) ?_ ?_
       rotate_left
       ·intro w'
        go_simp
        with_reducible rfl
       rotate_left
       ·simp only [Act.put, List.setIfInBounds_toArray, List.set_cons_zero, List.set_cons_succ, i64_w, i32_w]
        rfl
       refine pure_ (i := 4) (N := some 67) (v := ?_) (a' := ?_) #[true, true, false, false, true, false, false, false, false, false, false] rfl rfl (any_of HT_.out (by kernel_rfl)) (fun _ _ _ h => h) (Or.inl ⟨by rfl, ?_⟩) ?_ ?_
       rotate_left
       ·intro w'
        go_simp
        with_reducible rfl
       rotate_left
       ·simp only [Act.put, List.setIfInBounds_toArray, List.set_cons_zero, List.set_cons_succ, i64_w, i32_w]
        rfl
       refine take_ (i := 2) (N := some 65) (v := ?_) (a' := ?_) #[true, true, true, false, true, false, false, false, false, false, false] rfl rfl (take_ofW HT_.out HW_.out (by kernel_rfl)) (fun _ _ _ h => h) (Or.inl ⟨by rfl, ?_⟩) hHeld ?_ ?_
       rotate_left
       ·rintro w' ⟨s0, s1, s2, s3, s4, s5, s6, s7, s8, s9, s10, s11⟩
        go_simp
        with_reducible rfl
       rotate_left
       ·simp only [Act.put, List.setIfInBounds_toArray, List.set_cons_zero, List.set_cons_succ, i64_w, i32_w]
        rfl
       refine take_ (i := 3) (N := some 66) (v := ?_) (a' := ?_) #[true, true, true, true, true, false, false, false, false, false, false] rfl rfl (take_ofW HT_.out HW_.out (by kernel_rfl)) (fun _ _ _ h => h) (Or.inl ⟨by rfl, ?_⟩) hHeld ?_ ?_
       rotate_left
       ·rintro w' ⟨s0, s1, s2, s3, s4, s5, s6, s7, s8, s9, s10, s11⟩
        go_simp
        with_reducible rfl
       rotate_left
       ·simp only [Act.put, List.setIfInBounds_toArray, List.set_cons_zero, List.set_cons_succ, i64_w, i32_w]
        rfl
       refine take_ (i := 5) (N := some 68) (v := ?_) (a' := ?_) #[true, true, true, true, true, true, false, false, false, false, false] rfl rfl (take_ofW HT_.out HW_.out (by kernel_rfl)) (fun _ _ _ h => h) (Or.inl ⟨by rfl, ?_⟩) hHeld ?_ ?_
       rotate_left
       ·rintro w' ⟨s0, s1, s2, s3, s4, s5, s6, s7, s8, s9, s10, s11⟩
        go_simp
        with_reducible rfl
       rotate_left
       ·simp only [Act.put, List.setIfInBounds_toArray, List.set_cons_zero, List.set_cons_succ, i64_w, i32_w]
        rfl
       refine pure_ (i := 6) (N := some 69) (v := ?_) (a' := ?_) #[true, true, true, true, true, true, true, false, false, false, false] rfl rfl (any_of HT_.out (by kernel_rfl)) (fun _ _ _ h => h) (Or.inl ⟨by rfl, ?_⟩) ?_ ?_
       rotate_left
       ·intro w'
        go_simp
        with_reducible rfl
       rotate_left
       ·simp only [Act.put, List.setIfInBounds_toArray, List.set_cons_zero, List.set_cons_succ, i64_w, i32_w]
        rfl
       refine take_ (i := 7) (N := some 70) (v := ?_) (a' := ?_) #[true, true, true, true, true, true, true, true, false, false, false] rfl rfl (take_ofW HT_.out HW_.out (by kernel_rfl)) (fun _ _ _ h => h) (Or.inl ⟨by rfl, ?_⟩) hHeld ?_ ?_
       rotate_left
       ·rintro w' ⟨s0, s1, s2, s3, s4, s5, s6, s7, s8, s9, s10, s11⟩
        go_simp
        with_reducible rfl
       rotate_left
       ·simp only [Act.put, List.setIfInBounds_toArray, List.set_cons_zero, List.set_cons_succ, i64_w, i32_w]
        rfl
       refine pure_ (i := 8) (N := some 71) (v := ?_) (a' := ?_) #[true, true, true, true, true, true, true, true, true, false, false] rfl rfl (any_of HT_.out (by kernel_rfl)) (fun _ _ _ h => h) (Or.inl ⟨by rfl, ?_⟩) ?_ ?_
       rotate_left
       ·intro w'
        go_simp
        with_reducible rfl
       rotate_left
       ·simp only [Act.put, List.setIfInBounds_toArray, List.set_cons_zero, List.set_cons_succ, i64_w, i32_w]
        rfl
       refine pure_ (i := 9) (N := some 72) (v := ?_) (a' := ?_) #[true, true, true, true, true, true, true, true, true, true, false] rfl rfl (any_of HT_.out (by kernel_rfl)) (fun _ _ _ h => h) (Or.inl ⟨by rfl, ?_⟩) ?_ ?_
       rotate_left
       ·intro w'
        go_simp
        with_reducible rfl
       rotate_left
       ·simp only [Act.put, List.setIfInBounds_toArray, List.set_cons_zero, List.set_cons_succ, i64_w, i32_w]
        rfl
       refine pure_ (i := 10) (N := some 8) (v := ?_) (a' := ?_) #[true, true, true, true, true, true, true, true, true, true, true] rfl rfl (any_of HT_.out (by kernel_rfl)) (fun _ _ _ h => h) (Or.inl ⟨by rfl, ?_⟩) ?_ ?_
       rotate_left
       ·intro w'
        go_simp
        with_reducible rfl
       rotate_left
       ·simp only [Act.put, List.setIfInBounds_toArray, List.set_cons_zero, List.set_cons_succ, i64_w, i32_w]
        rfl
       refine done_ (done_of HT_.out (by kernel_rfl)) ?_
       have u0 : W9.drew.cell? ⟨bx, 0, none⟩ = some (.slice (some ⟨ob, 0, none⟩) n n) := (blk_cell (blk_drew (blk_below BX0.out C9.out)) 0).trans rfl
       have u1 : W9.drew.cell? ⟨wr.heap.size, 0, none⟩ = some (.int .i64 x.f0) := (blk_cell (blk_drew N10.out) 0).trans rfl
       have u2 : W9.drew.cell? ⟨wr.heap.size + 1, 0, none⟩ = some (.int .u64 f.f0.f0) := (blk_cell (blk_drew N11.out) 0).trans rfl
       have u3 : W9.drew.cell? ⟨wr.heap.size + 1, 1, none⟩ = some (.int .u64 f.f0.f1) := (blk_cell (blk_drew N11.out) 1).trans rfl
       have u4 : W9.drew.cell? ⟨wr.heap.size + 1, 2, none⟩ = some (.int .u64 f.f0.f2) := (blk_cell (blk_drew N11.out) 2).trans rfl
       have u5 : W9.drew.cell? ⟨wr.heap.size + 1, 3, none⟩ = some (.int .u64 f.f0.f3) := (blk_cell (blk_drew N11.out) 3).trans rfl
       have u6 : W9.drew.cell? ⟨wr.heap.size + 1, 4, none⟩ = some (.bool f.f1) := (blk_cell (blk_drew N11.out) 4).trans rfl
       have t0 := pw_cell_below C9.out.drew Y0.out
       have t1 := pw_cell_below C9.out.drew Y1.out
       have t2 := pw_cell_below C9.out.drew Y2.out
       have t3 := pw_cell_below C9.out.drew Y3.out
       have t4 := pw_cell_below C9.out.drew Y4.out
       have D9 := Aside0.mk (blk_below HDW.out C9.out.drew)
       have E9 := Aside0.mk (blk_below HDW.out C9.out)
       have t0_ := pw_cell_below C9.out Y0.out
       have t1_ := pw_cell_below C9.out Y1.out
       have t2_ := pw_cell_below C9.out Y2.out
       have t3_ := pw_cell_below C9.out Y3.out
       have t4_ := pw_cell_below C9.out Y4.out
       have v0_ := blk_frozen E9.out (x.f0.toNat * 5)
       have v1_ := blk_frozen E9.out (x.f0.toNat * 5 + 1)
       have v2_ := blk_frozen E9.out (x.f0.toNat * 5 + 2)
       have v3_ := blk_frozen E9.out (x.f0.toNat * 5 + 3)
       have v4_ := blk_frozen E9.out (x.f0.toNat * 5 + 4)
       have v0 := blk_frozen D9.out (x.f0.toNat * 5)
       have v1 := blk_frozen D9.out (x.f0.toNat * 5 + 1)
       have v2 := blk_frozen D9.out (x.f0.toNat * 5 + 2)
       have v3 := blk_frozen D9.out (x.f0.toNat * 5 + 3)
       have v4 := blk_frozen D9.out (x.f0.toNat * 5 + 4)
       go_wp2
       go_roundw
       case rel =>
        refine ⟨i + 1, cur.set x.f0.toNat f, !(eqW f y), by omega, by go_num, ?_, ⟨by rw [HQE.out]; exact HA6.out⟩, HIN2, ?_, ?_, ?_, ⟨(HEN2.out _ (by first | rfl | simp)).1⟩, ⟨(HEN2.out _ (by first | rfl | simp)).2⟩⟩
        ·unfold eqW
         simp only [Bool.not_and]
        ·exact ⟨blk_drew (by rw [← encW_set _ _ _ hjl]; exact blk_put (blk_put (blk_put (blk_put (blk_put E9.out _ _ rfl) _ _ rfl) _ _ rfl) _ _ rfl) _ _ rfl)⟩
        ·exact ⟨keep_drew ((((((KW.out _ C9.out).set_ _ _).set_ _ _).set_ _ _).set_ _ _).set_ _ _)⟩
        ·exact ⟨((((((BW.out _ C9.out).setCell (p := ⟨ob, _, none⟩) hb _).setCell (p := ⟨ob, _, none⟩) hb _).setCell (p := ⟨ob, _, none⟩) hb _).setCell (p := ⟨ob, _, none⟩) hb _).setCell (p := ⟨ob, _, none⟩) hb _).drew⟩
       case measure => simp [intOf]; omega
  ·obtain rfl : i = q.length := by omega
   have hA2 := HA.out
   rw [List.drop_length] at hA2
   have hA3 : cur = r := hA2
   subst hA3
   go_wp2
   go_ret
   exact ⟨_, rfl, HDW.out, HC.out, HK.out, HB.out, HF0.out, HF1.out⟩
def posB (k : Nat) (e : List Bool) (fs : List S63) (h : Int) : List S68 → List Bool → List Bool
 | [], t => t
 | x :: q, t => posB k e fs h q (oneB k e fs h x q t)
theorem posW_cons (e : List Bool) (fs : List S63) (h : Int) (x : S68) (q : List S68) (s : List S66) : posW e fs h (x :: q) s = posW e fs h q (oneW e fs h x q s) := rfl
theorem posW_in {n : Nat} {e : List Bool} {fs : List S63} (hfs : WfL fs) {h : Int} : ∀ (q : List S68) (s : List S66), InW n s → InW n (posW e fs h q s)
 | [], _, hs => hs
 | x :: q, s, hs => posW_in hfs q _ (oneW_in hfs hs)
theorem posW_bit {n : Nat} {e : List Bool} {fs : List S63} (hfs : WfL fs) {h : Int} (k : Nat) (hk : k < 257) : ∀ (q : List S68) (s : List S66), (∀ x ∈ q, x.f0 < n) → InW n s → bitsW k (posW e fs h q s) = posB k e fs h q (bitsW k s)
 | [], _, _, _ => rfl
 | x :: q, s, hx, hs => by
  rw [posW_cons, posW_bit hfs k hk q _ (fun y hy => hx y (List.mem_cons_of_mem _ hy)) (oneW_in hfs hs), oneW_bit hfs hs (hx x List.mem_cons_self) k hk]
  rfl
theorem oneB_len (k : Nat) (e : List Bool) (fs : List S63) (h : Int) (x : S68) (q : List S68) (t : List Bool) : (oneB k e fs h x q t).length = t.length := by
 unfold oneB
 split
 ·rfl
 ·exact stepG_len _ _ _
theorem posB_cnt (k : Nat) (e : List Bool) (fs : List S63) (h : Int) : ∀ (q : List S68) (t : List Bool), (∀ x ∈ q, x.f0 < t.length) → (posB k e fs h q t = t ∨ t.count true < (posB k e fs h q t).count true) ∧ (posB k e fs h q t).length = t.length
 | [], _, _ => ⟨.inl rfl, rfl⟩
 | x :: q, t, hx => by
  have h1 := oneB_cnt k e fs h x q t (hx x List.mem_cons_self)
  have h2 := posB_cnt k e fs h q (oneB k e fs h x q t) (fun y hy => by rw [oneB_len]; exact hx y (List.mem_cons_of_mem _ hy))
  have h3 : posB k e fs h (x :: q) t = posB k e fs h q (oneB k e fs h x q t) := rfl
  rw [h3]
  refine ⟨?_, by rw [h2.2, oneB_len]⟩
  rcases h1 with h1 | h1 <;> rcases h2.1 with h2 | h2
  ·left; rw [h2, h1]
  ·right; rwa [h1] at h2 ⊢
  ·right; rwa [h2]
  ·right; omega
def startW (n : Nat) (a : Int) : List S66 := (List.replicate n z66).set a.toNat ⟨z63, true⟩
theorem startW_in (n : Nat) (a : Int) : InW n (startW n a) := by
 unfold startW
 refine ⟨by rw [List.length_set, List.length_replicate], fun x hx => ?_⟩
 rcases List.mem_or_eq_of_mem_set hx with hx | rfl
 ·rw [(List.mem_replicate.1 hx).2]; exact z63_wf
 ·exact z63_wf
theorem passW_stand (n : Nat) (a : Int) (e : List Bool) (fs : List S63) (hfs : WfL fs) (rs : List S55) (hr : ∀ r ∈ rs, ∀ c ∈ r.f1, ∀ x ∈ c.f1, x.f0 < n) : passT (posW e fs) rs (iterT (passT (posW e fs) rs) (n + 1) (startW n a)) = iterT (passT (posW e fs) rs) (n + 1) (startW n a) := by
 have hp : ∀ k, k < 257 → ∀ s, InW n s → bitsW k (passT (posW e fs) rs s) = passT (posB k e fs) rs (bitsW k s) ∧ InW n (passT (posW e fs) rs s) := fun k hk s hs =>
  passT_chan (posW e fs) (posB k e fs) (bitsW k) (InW n) rs (fun r _ c _ s h => posW_in hfs _ _ h) (fun r hm c hc s h => posW_bit hfs k hk _ _ (hr r hm c hc) h) s hs
 refine chan_stand _ (fun k => passT (posB k e fs) rs) bitsW (InW n) 257 n (fun s hs => (hp 0 (by omega) s hs).2) (fun k hk s hs => (hp k hk s hs).1) (fun k _ s hs => by unfold bitsW; rw [List.length_map]; exact hs.1) (fun k hk t ht => ?_) (fun s s' h h' hb => inW_ext h h' hb) _ (startW_in n a)
 exact (pass_cnt (posB k e fs) (fun t => t.count true) (fun t => t.length = n) rs (fun r hm c hc s h => by rw [(posB_cnt k e fs r.f0 c.f1 s (by rw [h]; exact hr r hm c hc)).2]; exact h) (fun r hm c hc s h => (posB_cnt k e fs r.f0 c.f1 s (by rw [h]; exact hr r hm c hc)).1) t ht).1
def followL (a : Int) (ns : List ByteArray) (rs : List S55) : List S66 := iterT (passT (posW (emptyL ns rs) (firstL ns rs)) rs) (ns.length + 1) (startW ns.length a)
theorem firstL_in (ns : List ByteArray) (rs : List S55) : InF ns.length (firstL ns rs) :=
 iter_inv _ (InF ns.length) (fun s hs => (passT_chan (stepF (emptyL ns rs)) (fun _ _ t => t) (fun _ => []) (InF ns.length) rs (fun r _ c _ s h => inF_step h) (fun r _ c _ s h => rfl) s hs).2) _ (startF_in _) _
theorem made_rowW (n : Nat) : madeCells #[.int .u64 0, .int .u64 0, .int .u64 0, .int .u64 0, .bool false] (n * 5) = rowV encW (List.replicate n z66) := by
 apply Array.ext'
 apply List.ext_getElem?
 intro i
 by_cases hi : i < n * 5
 ·have h1 : (rowV encW (List.replicate n z66))[i / 5 * 5 + i % 5]? = (encW ((List.replicate n z66)[i / 5]'(by rw [List.length_replicate]; omega)))[i % 5]? := rowV_get encW_len (List.replicate n z66) (i / 5) (i % 5) (by rw [List.length_replicate]; omega) (Nat.mod_lt _ (by decide))
  rw [show i / 5 * 5 + i % 5 = i from by omega] at h1
  rw [Array.getElem?_toList, Array.getElem?_toList, h1, List.getElem_replicate]
  have h2 : i % 5 = 0 ∨ i % 5 = 1 ∨ i % 5 = 2 ∨ i % 5 = 3 ∨ i % 5 = 4 := by omega
  unfold madeCells
  rw [Array.getElem?_map, Array.getElem?_range, if_pos hi]
  simp only [Option.map_some]
  rcases h2 with h2 | h2 | h2 | h2 | h2 <;> (show some (#[Value.int IntKind.u64 0, .int .u64 0, .int .u64 0, .int .u64 0, .bool false][i % 5]!) = _; rw [h2]; rfl)
 ·have h1 : (madeCells #[.int .u64 0, .int .u64 0, .int .u64 0, .int .u64 0, .bool false] (n * 5)).toList.length ≤ i := by simp [madeCells]; omega
  have h2 : (rowV encW (List.replicate n z66)).toList.length ≤ i := by
   unfold rowV
   have := rowV_len encW_len (List.replicate n z66)
   rw [List.length_replicate] at this
   simp only [List.toList_toArray]
   omega
  rw [List.getElem?_eq_none h1, List.getElem?_eq_none h2]
theorem fe_make38 (n : Nat) (hn : n ≤ 64) (W : World) : (Instr.makeSlice 38 (.int .i64 (n : Int)) (.int .i64 (n : Int))).run Try.prog W = .ok (.slice (some ⟨W.heap.size, 0, none⟩) n n) (W.alloc (.cells (rowV encW (List.replicate n z66)) 66)) := by
 obtain ⟨i0, hi, hz0, hz1, hz2⟩ := info_parts fe_info66
 have h := run_makeSlice (P := Try.prog) (w := W) 38 66 i0 _ Try.underlying38 hi hz0 .i64 .i64 (n : Int) (n : Int) (by omega) (by omega) (by rw [hz1]; omega) (by rw [hz2]; omega) (by omega)
 rw [hz1] at h
 rw [h, ← made_rowW]
 rfl
theorem startW_row (n : Nat) (a : Int) (h : a.toNat < n) : (rowV encW (List.replicate n z66)).setIfInBounds (a.toNat * 5 + 4) (.bool true) = rowV encW (startW n a) := by
 have hl : a.toNat < (List.replicate n z66).length := by rw [List.length_replicate]; exact h
 obtain ⟨h1, h2⟩ := rowV_split encW_len (List.replicate n z66) a.toNat hl
 obtain ⟨h3, h4⟩ := rowV_split encW_len (startW n a) a.toNat (by unfold startW; rw [List.length_set]; exact hl)
 have e : (List.replicate n z66)[a.toNat] = z66 := by rw [List.getElem_replicate]
 rw [e] at h1
 unfold startW at h3 ⊢
 rw [List.getElem_set_self, List.take_set, List.set_eq_of_length_le (l := (List.replicate n z66).take a.toNat) (by rw [List.length_take]; omega), List.drop_set, if_pos (by omega)] at h3
 unfold rowV
 rw [h1, h3]
 generalize ((List.replicate n z66).take a.toNat).flatMap encW = P at *
 generalize ((List.replicate n z66).drop (a.toNat + 1)).flatMap encW = Q at *
 rw [← h2]
 simp [encW, List.set_append, z66, z63]
theorem getD_rep {α : Type} (n i : Nat) (z : α) : (List.replicate n z).getD i z = z := by
 rw [List.getD_eq_getElem?_getD, List.getElem?_replicate]
 split <;> rfl
def first_Follow.f (a0_0 : Int) (l0_1 : List ByteArray) (l0_2 : List (S55)) : Option (List S66 × Int) := some (if mayB a0_0 l0_1 l0_2 then (followL a0_0 l0_1 l0_2, 0) else ([], 1200))
def FoR (gb bx ob ex fx n base : Nat) (cs : Array Value) (Ae : Option Addr) (ce : Nat) (e : List Bool) (Af : Option Addr) (cf : Nat) (fs : List S63) (s : List S66) (W : World) : Prop := W.heap[gb]? = some (.cells cs 25 (0, 0)) ∧ W.heap[bx]? = some (.cells #[.slice (some ⟨ob, 0, none⟩) n n] 38 (0, 0)) ∧ W.heap[ob]? = some (.cells (rowV encW s) 66 (0, 0)) ∧ W.heap[ex]? = some (.cells #[.slice Ae n ce] 27 (0, 0)) ∧ W.heap[fx]? = some (.cells #[.slice Af n cf] 33 (0, 0)) ∧ Kd.R Kd.bool 4 W base (fun k => k ≠ ob) (.slice Ae n ce) e ∧ Kd.R k63 63 W base (fun k => k ≠ ob) (.slice Af n cf) fs ∧ InW n s
set_option maxHeartbeats 8000000 in
set_option maxRecDepth 100000 in
theorem first_Follow.calls (a0_0 : Int) (A0_1 : Option Addr) (c0_1 : Nat) (l0_1 : List ByteArray) (A0_2 : Option Addr) (c0_2 : Nat) (l0_2 : List (S55)) (r1 : List (S66)) (r2 : Int) (w : World) (hr0_1 : Kd.C Kd.string w A0_1 l0_1.length l0_1) (hc0_1 : l0_1.length ≤ c0_1) (hr0_2 : Kd.C k55 w A0_2 l0_2.length l0_2) (hc0_2 : l0_2.length ≤ c0_2) (h : first_Follow.f a0_0 l0_1 l0_2 = some (r1, r2)) :
  Calls Try.prog 14 #[.agg #[.int .i64 a0_0, .slice A0_1 l0_1.length c0_1, .slice A0_2 l0_2.length c0_2]] w fun e w' => ∃ v0_ : Value, e = .returned (.tuple #[v0_, .int .i64 r2]) ∧ Kd.R k66 66 w' w.heap.size (fun _ => True) v0_ r1 ∧ Below w.heap.size w w' := by
 have h := Option.some.inj h
 have H1 := Aside0.mk hr0_1
 have H2 := Aside0.mk hr0_2
 clear hr0_1 hr0_2
 cases hm : mayB a0_0 l0_1 l0_2 with
 | false =>
  rw [hm, if_neg (by decide)] at h
  obtain ⟨rfl, rfl⟩ := Prod.mk.inj h
  have HM : Aside0 (first_First.f a0_0 l0_1 l0_2 = some ([], 1200)) := ⟨by unfold first_First.f; rw [hm, if_neg (by decide)]⟩
  clear h hm
  go_enter Try.func14, Try.ntmps14
  go_wp2_with (go_at_call 12; refine (first_First.calls _ _ _ _ _ _ _ _ _ _ (Kd.C_alloc H1.out _) hc0_1 (Kd.C_alloc H2.out _) hc0_2 HM.out).mono ?_; rintro e w1 ⟨v, rfl, hv, hb1⟩; obtain ⟨Av, cv, rfl⟩ := Kd.R_slice hv; have HB1 := Aside0.mk hb1; clear hb1 hv)
  go_ret2
  exact ⟨_, rfl, Kd.R_nil _ _ _ _ _, (((Below.refl _ _).alloc (Nat.le_refl _) _).trans (HB1.out.mono (by simp))).alloc (by have := HB1.out.size; simp at this; omega) _⟩
 | true =>
  rw [hm, if_pos rfl] at h
  obtain ⟨rfl, rfl⟩ := Prod.mk.inj h
  have HM : Aside0 (first_First.f a0_0 l0_1 l0_2 = some (firstL l0_1 l0_2, 0)) := ⟨by unfold first_First.f; rw [hm, if_pos rfl]⟩
  have HM2 : Aside0 (first_Empty.f a0_0 l0_1 l0_2 = some (emptyL l0_1 l0_2, 0)) := ⟨by unfold first_Empty.f; rw [hm, if_pos rfl]⟩
  have F := may_facts hm
  have HF := Aside0.mk F
  obtain ⟨n1, n2, s0, s1, _, r2, _, _, _, _, _⟩ := F
  clear h hm
  have HEL := Aside0.mk (emptyL_len l0_1 l0_2)
  have HFI := Aside0.mk (firstL_in l0_1 l0_2)
  obtain ⟨E, HEQ⟩ : ∃ E, Aside0 (emptyL l0_1 l0_2 = E) := ⟨_, ⟨rfl⟩⟩
  obtain ⟨F, HFQ⟩ : ∃ F, Aside0 (firstL l0_1 l0_2 = F) := ⟨_, ⟨rfl⟩⟩
  rw [HEQ.out] at HEL HM2
  rw [HFQ.out] at HFI HM
  have hmk := fe_make38 l0_1.length n2
  have hrep : a0_0.toNat < (List.replicate l0_1.length z66).length := by rw [List.length_replicate]; omega
  have HREP := Aside0.mk hrep
  clear hrep
  go_enter Try.func14, Try.ntmps14
  go_wp2_with (first
   | (go_at_call 12; refine (first_First.calls _ _ _ _ _ _ _ _ _ _ (Kd.C_alloc H1.out _) hc0_1 (Kd.C_alloc H2.out _) hc0_2 HM.out).mono ?_; rintro e w1 ⟨v, rfl, hv, hb1⟩; obtain ⟨Af, cf, rfl⟩ := Kd.R_slice hv; rw [HFI.out.1] at hv; have HV := Aside0.mk hv; have HB1 := Aside0.mk hb1; have HG : Aside0 (w1.heap[w.heap.size]? = some (.cells #[.int .i64 a0_0, .slice A0_1 l0_1.length c0_1, .slice A0_2 l0_2.length c0_2] 25 (0, 0))) := ⟨blk_below (blk_new _ _) hb1⟩; have k0 : w1.cell? ⟨w.heap.size, 0, none⟩ = some (.int .i64 a0_0) := (blk_cell HG.out 0).trans rfl; have k1 : w1.cell? ⟨w.heap.size, 1, none⟩ = some (.slice A0_1 l0_1.length c0_1) := (blk_cell HG.out 1).trans rfl; have k2 : w1.cell? ⟨w.heap.size, 2, none⟩ = some (.slice A0_2 l0_2.length c0_2) := (blk_cell HG.out 2).trans rfl; have hz := hb1.size; simp at hz; have lt1 : w.heap.size < w1.heap.size := hz; have HW1 : Aside0 (Below w.heap.size w w1) := ⟨((Below.refl _ _).alloc (Nat.le_refl _) _).trans (hb1.mono (by simp))⟩; rw [HFI.out.1]; clear hb1 hv))
  refine (first_Empty.calls _ _ _ _ _ _ _ _ _ _ (Kd.C_below H1.out (HW1.out.alloc (Nat.le_of_lt lt1) _)) hc0_1 (Kd.C_below H2.out (HW1.out.alloc (Nat.le_of_lt lt1) _)) hc0_2 HM2.out).mono ?_
  rintro e w2 ⟨v, rfl, hv, hb2⟩
  obtain ⟨Ae, ce, rfl⟩ := Kd.R_slice hv
  rw [HEL.out] at hv
  have HV2 := Aside0.mk hv
  have HB2 := Aside0.mk hb2
  have HG2 := Aside0.mk (blk_below (blk_alloc HG.out (.cells #[.slice Af l0_1.length cf] 33 (0, 0))) hb2)
  have HFB := Aside0.mk (blk_below (blk_new w1 (.cells #[.slice Af l0_1.length cf] 33 (0, 0))) hb2)
  have HV1 := Aside0.mk (Kd.R_below (Kd.R_alloc HV.out (.cells #[.slice Af l0_1.length cf] 33 (0, 0))) hb2)
  have j0 : w2.cell? ⟨w.heap.size, 0, none⟩ = some (.int .i64 a0_0) := (blk_cell HG2.out 0).trans rfl
  have j1 : w2.cell? ⟨w.heap.size, 1, none⟩ = some (.slice A0_1 l0_1.length c0_1) := (blk_cell HG2.out 1).trans rfl
  have hz2 := hb2.size
  simp at hz2
  have lt2 : w1.heap.size < w2.heap.size := hz2
  have lt3 : w.heap.size < w2.heap.size := Nat.lt_trans lt1 lt2
  have HW2 : Aside0 (Below w.heap.size w w2) := ⟨(HW1.out.alloc (Nat.le_of_lt lt1) _).trans (hb2.mono (by simp; exact Nat.le_of_lt (Nat.lt_succ_of_lt lt1)))⟩
  have DD : Aside0 ((((w2.alloc (.cells #[.slice Ae l0_1.length ce] 27 (0, 0))).alloc (.cells (rowV encW (List.replicate l0_1.length z66)) 66 (0, 0))).alloc (.cells #[.slice (some ⟨w2.heap.size + 1, 0, none⟩) l0_1.length l0_1.length] 38 (0, 0))).heap[w2.heap.size + 1]? = some (.cells (rowV encW (List.replicate l0_1.length z66)) 66 (0, 0))) := ⟨blk_alloc (by have h := blk_new (w2.alloc (.cells #[.slice Ae l0_1.length ce] 27 (0, 0))) (.cells (rowV encW (List.replicate l0_1.length z66)) 66 (0, 0)); rwa [show (w2.alloc (.cells #[.slice Ae l0_1.length ce] 27 (0, 0))).heap.size = w2.heap.size + 1 from by simp] at h) _⟩
  have kc := (rowW_cells DD.out a0_0.toNat HREP.out).2.2.2.2
  rw [getD_rep] at kc
  have kg : (((w2.alloc (.cells #[.slice Ae l0_1.length ce] 27 (0, 0))).alloc (.cells (rowV encW (List.replicate l0_1.length z66)) 66 (0, 0))).alloc (.cells #[.slice (some ⟨w2.heap.size + 1, 0, none⟩) l0_1.length l0_1.length] 38 (0, 0))).cell? ⟨w.heap.size, 0, none⟩ = some (.int .i64 a0_0) := (blk_cell (blk_alloc (blk_alloc (blk_alloc HG2.out _) _) _) 0).trans rfl
  have kf := blk_frozen DD.out (a0_0.toNat * 5 + 4)
  rw [HEL.out]
  clear hb2 hv k0 k1 k2
  have hrow := startW_row l0_1.length a0_0 (by have := HREP.out; rwa [List.length_replicate] at this)
  have HROW := Aside0.mk hrow
  clear hrow
  go_wp2_with (go_at_call 30; refine (fe_each38 (fun s => 257 * l0_1.length - chC 257 bitsW s) (posW E F) (FoR w.heap.size (w2.heap.size + 1 + 1) (w2.heap.size + 1) w2.heap.size w1.heap.size l0_1.length w.heap.size #[.int .i64 a0_0, .slice A0_1 l0_1.length c0_1, .slice A0_2 l0_2.length c0_2] Ae ce E Af cf F) w.heap.size (w2.heap.size + 1) A0_2 c0_2 l0_2 ⟨w2.heap.size + 1 + 1, 0, none⟩ ⟨w2.heap.size, 0, none⟩ ⟨w1.heap.size, 0, none⟩ w H2.out r2 HF.out.cj ?ea ?eg ?et (startW l0_1.length a0_0) _ ?e0 ?eo ?eb).mono ?_)
  case ea =>
   rintro s1_ W o ⟨g1, g2, g3, g4, g5, g6, g7, g8⟩
   exact ⟨blk_alloc g1 _, blk_alloc g2 _, blk_alloc g3 _, blk_alloc g4 _, blk_alloc g5 _, Kd.R_alloc g6 _, Kd.R_alloc g7 _, g8⟩
  case eg =>
   rintro s1_ W ⟨g1, g2, g3, g4, g5, g6, g7, g8⟩
   exact (blk_cell g1 2).trans rfl
  case et =>
   rintro r hr cj hcj s1_ W A c ⟨g1, g2, g3, g4, g5, g6, g7, g8⟩ hbW hq0 hqc
   have f0 := HF.out.hd0 r hr
   have f1 := HF.out.hd1 r hr
   have rdE : ∀ W', KeepBut W W' (w2.heap.size + 1) none → Kd.C Kd.bool W' Ae E.length E := by
    intro W' hK
    obtain ⟨A', c', hee, _, hC⟩ := Kd.R_reads (Kd.R_keep g6 hK (fun k hk => hk))
    rw [HEL.out] at hee
    injection hee with h1 h2 h3
    subst h1
    exact hC
   have rdF : ∀ W', KeepBut W W' (w2.heap.size + 1) none → Kd.C k63 W' Af F.length F := by
    intro W' hK
    obtain ⟨A', c', hee, _, hC⟩ := Kd.R_reads (Kd.R_keep g7 hK (fun k hk => hk))
    rw [HFI.out.1] at hee
    injection hee with h1 h2 h3
    subst h1
    exact hC
   refine (fe_turn38 (w2.heap.size + 1 + 1) (w2.heap.size + 1) w2.heap.size w1.heap.size s1_ E Ae ce F Af cf r.f0 cj.f1 A c W w.heap.size l0_1.length g2 g3 (by rw [HEL.out]; exact g4) (by rw [HFI.out.1]; exact g5) f0 f1 n2 g8 HEL.out HFI.out.1 HFI.out.2 (fun x hx => symF_of (HF.out.sy r hr cj hcj x hx)) (fun W' hW' => Kd.C_below hq0 (hbW.trans hW')) hqc (HF.out.sq r hr cj hcj) (by omega) hbW.size (by omega) (by omega) (by omega) rdE rdF).mono ?_
   rintro e W2 ⟨b, rfl, d1, d2, d3, d4, d5, d6⟩
   refine ⟨b, rfl, ⟨d3.blk g1 (by omega) (by simp), d3.blk g2 (by omega) (by simp), d1, d3.blk g4 (by omega) (by simp), d3.blk g5 (by omega) (by simp), Kd.R_keep g6 d3 (fun k hk => hk), Kd.R_keep g7 d3 (fun k hk => hk), d2⟩, d3, hbW.trans d4, d5, fun hb => ?_⟩
   have h1 := d6 hb
   have h2 := chC_le 257 l0_1.length bitsW (posW E F r.f0 cj.f1 s1_) (fun k _ => by unfold bitsW; rw [List.length_map]; exact d2.1)
   show 257 * l0_1.length - chC 257 bitsW (posW E F r.f0 cj.f1 s1_) < 257 * l0_1.length - chC 257 bitsW s1_
   omega
  case e0 =>
   rw [HROW.out]
   refine ⟨blk_alloc (blk_alloc (blk_alloc HG2.out _) _) _, ?_, blk_alloc ?_ _, blk_alloc (blk_alloc (blk_new _ _) _) _, blk_alloc (blk_alloc (blk_alloc HFB.out _) _) _, Kd.R_alloc (Kd.R_alloc (Kd.R_alloc (Kd.R_mono (Kd.R_elderB (Kd.R_lower HV2.out (by simp; omega)) (w2.heap.size + 1) (by omega)) (fun k hk => hk.2)) _) _) _, Kd.R_alloc (Kd.R_alloc (Kd.R_alloc (Kd.R_mono (Kd.R_elderB (Kd.R_lower HV1.out (by simp)) (w2.heap.size + 1) (by omega)) (fun k hk => hk.2)) _) _) _, startW_in _ _⟩
   ·have h := blk_new ((w2.alloc (.cells #[Value.slice Ae l0_1.length ce] 27 (0, 0))).alloc (.cells (rowV encW (startW l0_1.length a0_0)) 66 (0, 0))) (.cells #[.slice (some ⟨w2.heap.size + 1, 0, none⟩) l0_1.length l0_1.length] 38 (0, 0))
    rwa [show ((w2.alloc (.cells #[Value.slice Ae l0_1.length ce] 27 (0, 0))).alloc (.cells (rowV encW (startW l0_1.length a0_0)) 66 (0, 0))).heap.size = w2.heap.size + 1 + 1 from by simp] at h
   ·have h := blk_new (w2.alloc (.cells #[Value.slice Ae l0_1.length ce] 27 (0, 0))) (.cells (rowV encW (startW l0_1.length a0_0)) 66 (0, 0))
    rwa [show (w2.alloc (.cells #[Value.slice Ae l0_1.length ce] 27 (0, 0))).heap.size = w2.heap.size + 1 from by simp] at h
  case eo => simp
  case eb => exact ((HW2.out.alloc (by omega) _).alloc (by simp; omega) _).alloc (by simp; omega) _
  rintro e w3 ⟨rfl, ⟨m, he, hf⟩, hb3⟩
  have HE := Aside0.mk he
  have HFX := Aside0.mk hf
  have HB3 := Aside0.mk hb3
  have k2 : w3.cell? ⟨w2.heap.size + 1 + 1, 0, none⟩ = some (.slice (some ⟨w2.heap.size + 1, 0, none⟩) l0_1.length l0_1.length) := (blk_cell HE.out.2.1 0).trans rfl
  clear he hf hb3
  go_wp2
  go_ret2
  have hl := HE.out.2.2.2.2.2.2.2.1
  have he : iterT (passT (posW E F) l0_2) m (startW l0_1.length a0_0) = followL a0_0 l0_1 l0_2 := by
   unfold followL
   rw [HEQ.out, HFQ.out]
   exact iterT_two _ _ _ _ HFX.out (passW_stand _ _ _ _ HFI.out.2 _ (fun r hr c hc x hx => symB_lt (HF.out.sy r hr c hc x hx) n1))
  refine ⟨_, rfl, ?_, HB3.out⟩
  rw [← he]
  have hr := rowV_R encW_len (d := k66) (fun w b ok x => k66_mkM w b ok x) rfl (e := 66) (base := w.heap.size) (ok := fun _ => True) HE.out.2.2.1 (by rw [hl]; unfold maxLen; omega) (by omega) trivial
  rwa [hl] at hr


end Go.Proofs.Ytpilkfodlhhjpaa.PFM
