-- written by a program of the session's (wip/myprint.py) out of the translation
import Derived.Test.YtdjnpgigdchfkaaPBSx0
import Derived.Test.YtdjnpgigdchfkaaPBSx3
import Derived.Test.YtdjnpgigdchfkaaPBSx5
namespace Go.Proofs.Ytdjnpgigdchfkaa.PBS
open Go.RowKit Go.Proofs.YtdjnpgigdchfkaaW.PrintWords Go.Proofs.YtdjnpgigdchfkaaW.PrintLast Go.Proofs.YtdjnpgigdchfkaaW.PrintMore
attribute [local go_sem] max2_int min2_int max_two min_two max_three min_three max_four min_four   -- for this text's walks alone
set_option linter.unusedVariables false
set_option linter.unusedSimpArgs false

/-! ### gram_Build: function 11 -/
def numF (m : MapP) (i : Int) : List S45 → MapP × ByteArray × Bool
 | [] => (m, ⟨#[]⟩, true)
 | d :: ds => if (mfind m d.f0).isSome then ([], d.f0, false) else numF (m ++ [(d.f0, i)]) (i + 1) ds
set_option maxHeartbeats 8000000 in
set_option maxRecDepth 100000 in
theorem numbers_calls (A0 : Option Addr) (c0 : Nat) (l0 : List (S45)) (m : MapP) (s : ByteArray) (b : Bool) (w : World) (hr0 : Kd.C k45 w A0 l0.length l0) (hl : l0.length < 4611686018427387904) (h : numF [] 0 l0 = (m, s, b)) :
  Calls Try.prog 23 #[.slice A0 l0.length c0] w fun e w' => ∃ o : Option Nat, e = .returned (.tuple #[.map o, .string s, .bool b]) ∧ (b = true → ∃ g, o = some g ∧ MapIs w' g (mapVals m)) ∧ Below w.heap.size w w' := by
 have HR := Aside0.mk hr0
 clear hr0
 obtain ⟨i0, hi, hz0, hz1, hz2⟩ := info_parts (show (Try.prog.info? 3).map (fun i => (i.zero, i.size, i.bytes)) = some (some (.int .i64 0), 1, 8) from by kernel_rfl)
 have hm : ∀ W : World, (Instr.makeMap 69 none).run Try.prog W = .ok (.map (some W.heap.size)) (W.alloc (.map #[] 0)) := fun W => by rfl
 have HH := Aside0.mk h
 clear h
 go_enter Try.func23, Try.ntmps23
 go_wp2
 go_loopw [13] (fun v wr => ∃ (i : Nat) (mi : MapP), i ≤ l0.length ∧ v = .int .i64 i ∧ Aside0 (MapIs wr w.heap.size (mapVals mi)) ∧ Aside0 (numF mi (i : Int) (l0.drop i) = (m, s, b)) ∧ Aside0 (Below w.heap.size w wr)) (fun v _ => l0.length - (intOf v).toNat)
 case atStart => exact ⟨0, [], by omega, rfl, ⟨⟨#[], 0, blk_new _ _, rfl⟩⟩, ⟨by simpa using HH.out⟩, ⟨(Below.refl _ _).alloc (Nat.le_refl _) _⟩⟩
 case round =>
  obtain ⟨i, mi, hi', rfl, hM, hN, hb⟩ := hrel
  clear HH
  by_cases hlt : i < l0.length
  ·obtain ⟨ad, A1, c1, eA, hx0, hx1, _⟩ := at_T45 (Kd.C_below HR.out hb.out) (i : Int) (by omega) (by omega)
   subst eA
   have hN2 := hN.out
   rw [List.drop_eq_getElem_cons hlt] at hN2
   have hd : rd_T45 l0 (i : Int) = l0[i] := by
    unfold rd_T45
    rw [Int.toNat_natCast, List.getD_eq_getElem?_getD, List.getElem?_eq_getElem hlt]
    rfl
   unfold numF at hN2
   rw [← hd] at hN2
   have HN2 := Aside0.mk hN2
   clear hN2 hN hd
   rw [Int.toNat_natCast] at hx0 hx1
   generalize rd_T45 l0 (i : Int) = x at *
   have HSZ := Aside0.mk hb.out.size
   have hwl : w.heap.size < wr.heap.size := mapIs_lt hM.out
   cases hs : (mfind mi x.f0).isSome with
   | true =>
    have HN3 := Aside0.mk (show ([], x.f0, false) = (m, s, b) by have q := HN2.out; rw [hs, if_pos rfl] at q; exact q)
    clear HN2
    go_wp2_with (first
     | ((with_reducible refine gate_dst (N := 7) rfl ?_); refine box_event (by rfl) (N := 7) (by rfl) (cs := #[.string ⟨#[]⟩, .slice none 0 0]) (t := 45) zzh ?_; intro gb hg wl hbox hbl; have hne : w.heap.size ≠ gb := (by rw [hg]; exact Nat.ne_of_lt hwl); have hcz0 : wl.cell? ⟨gb, 0, none⟩ = some (.string ⟨#[]⟩) := (blk_cell hbox 0).trans rfl; have hcz1 : wl.cell? ⟨gb, 1, none⟩ = some (.slice none 0 0) := (blk_cell hbox 1).trans rfl; have hfz0 := blk_frozen hbox 0; have hfz1 := blk_frozen hbox 1; have hlk := look_int_ok (P := Try.prog) (w := (wl.setCell ⟨gb, 0, none⟩ (.string x.f0)).setCell ⟨gb, 1, none⟩ (.slice A1 x.f1.length c1)) Try.underlying69 Try.underlying9 hi hz0 (mapIs_far (mapIs_far (mapIs_step hM.out hbl) hne _) hne _) x.f0; rw [hs] at hlk; have HBL := Aside0.mk hbl; have HBX := Aside0.mk hbox; have HG := Aside0.mk hg; clear hbl hbox hg))
    have q := HN3.out
    simp only [Prod.mk.injEq] at q
    obtain ⟨rfl, rfl, rfl⟩ := q
    have hge : w.heap.size ≤ gb := by rw [HG.out]; exact Nat.le_of_lt hwl
    go_region
    all_goals (try go_wp2)
    all_goals go_ret3
    all_goals exact ⟨⟨_, rfl⟩, ((((hb.out.trans (HBL.out.mono HSZ.out)).setCell (p := ⟨gb, 0, none⟩) hge _).setCell (p := ⟨gb, 1, none⟩) hge _).drew)⟩
   | false =>
    have HN3 := Aside0.mk (show numF (mi ++ [(x.f0, (i : Int))]) ((i : Int) + 1) (l0.drop (i + 1)) = (m, s, b) by have q := HN2.out; rw [hs] at q; exact q)
    clear HN2
    have hnone : assoc (mapVals mi) x.f0 = none := by
     rw [assoc_vals]
     cases hq : mfind mi x.f0 with
     | none => rfl
     | some _ => rw [hq] at hs; cases hs
    go_wp2_with (first
     | ((with_reducible refine gate_dst (N := 7) rfl ?_); refine box_event (by rfl) (N := 7) (by rfl) (cs := #[.string ⟨#[]⟩, .slice none 0 0]) (t := 45) zzh ?_; intro gb hg wl hbox hbl; have hne : w.heap.size ≠ gb := (by rw [hg]; exact Nat.ne_of_lt hwl); have hcz0 : wl.cell? ⟨gb, 0, none⟩ = some (.string ⟨#[]⟩) := (blk_cell hbox 0).trans rfl; have hcz1 : wl.cell? ⟨gb, 1, none⟩ = some (.slice none 0 0) := (blk_cell hbox 1).trans rfl; have hfz0 := blk_frozen hbox 0; have hfz1 := blk_frozen hbox 1; have hlk := look_int_ok (P := Try.prog) (w := (wl.setCell ⟨gb, 0, none⟩ (.string x.f0)).setCell ⟨gb, 1, none⟩ (.slice A1 x.f1.length c1)) Try.underlying69 Try.underlying9 hi hz0 (mapIs_far (mapIs_far (mapIs_step hM.out hbl) hne _) hne _) x.f0; rw [hs] at hlk; obtain ⟨w2, hw2, hM2, hB2, _⟩ := run_update_str (P := Try.prog) (w := (wl.setCell ⟨gb, 0, none⟩ (.string x.f0)).setCell ⟨gb, 1, none⟩ (.slice A1 x.f1.length c1)) Try.underlying69 Try.underlying9 (mapIs_far (mapIs_far (mapIs_step hM.out hbl) hne _) hne _) x.f0 (.int .i64 (i : Int)) hnone; have HM2 := Aside0.mk hM2; have HB2 := Aside0.mk hB2; clear hM2 hB2; have HBL := Aside0.mk hbl; have HBX := Aside0.mk hbox; have HG := Aside0.mk hg; clear hbl hbox hg))
    have hge : w.heap.size ≤ gb := by rw [HG.out]; exact Nat.le_of_lt hwl
    go_roundw
    case rel => exact ⟨i + 1, mi ++ [(x.f0, (i : Int))], by omega, by go_num, ⟨by rw [← mapVals_snoc]; exact HM2.out⟩, ⟨by have q := HN3.out; push_cast; exact q⟩, ⟨(((hb.out.trans (HBL.out.mono HSZ.out)).setCell (p := ⟨gb, 0, none⟩) hge _).setCell (p := ⟨gb, 1, none⟩) hge _).trans (HB2.out _ (Nat.le_refl _))⟩⟩
    case measure => simp [intOf]; omega
  ·obtain rfl : i = l0.length := by omega
   rw [List.drop_length] at hN
   have hN2 := hN.out
   unfold numF at hN2
   simp only [Prod.mk.injEq] at hN2
   obtain ⟨rfl, rfl, rfl⟩ := hN2
   clear hN
   go_wp2
   go_ret3
   exact ⟨_, rfl, ⟨_, rfl, hM.out⟩, hb.out⟩
structure BF (w W : World) (g1 g2 g5 gm : Nat) (a0 a1 : Value) (m : MapP) : Prop where
 b1 : W.heap[g1]? = some (.cells #[a0, a1] 25 (0, 0))
 b2 : W.heap[g2]? = some (.cells #[.int .i64 0, .slice none 0 0, .slice none 0 0] 28 (0, 0))
 b5 : W.heap[g5]? = some (.cells #[.map (some gm)] 69 (0, 0))
 hm : MapIs W gm (mapVals m)
 hb : Below w.heap.size w W
 h1 : w.heap.size ≤ g1
 h2 : w.heap.size ≤ g2
theorem BF.step {w W W1 : World} {g1 g2 g5 gm : Nat} {a0 a1 : Value} {m : MapP} (h : BF w W g1 g2 g5 gm a0 a1 m) (k : Below W.heap.size W W1) : BF w W1 g1 g2 g5 gm a0 a1 m :=
 ⟨blk_below h.b1 k, blk_below h.b2 k, blk_below h.b5 k, mapIs_step h.hm k, below_step h.hb k, h.h1, h.h2⟩
theorem endz {W : World} {g2 : Nat} (b2 : W.heap[g2]? = some (.cells #[.int .i64 0, .slice none 0 0, .slice none 0 0] 28 (0, 0))) : (((W.setCell ⟨g2, 0, none⟩ (.int .i64 0)).setCell ⟨g2, 1, none⟩ (.slice none 0 0)).setCell ⟨g2, 2, none⟩ (.slice none 0 0)).heap[g2]? = some (.cells #[.int .i64 0, .slice none 0 0, .slice none 0 0] 28 (0, 0)) := blk_put (blk_put (blk_put b2 0 _ rfl) 1 _ rfl) 2 _ rfl
theorem mfind_some {m : MapP} {s : ByteArray} {n : Int} (h : mfind m s = some n) : (mfind m s).isSome = true := by rw [h]; rfl
def gram_Build.f (k : Nat) (l0_0 : List ByteArray) (l0_1 : List (S45)) : Option (Int × List ByteArray × (List (S51)) × ByteArray × Int) :=
 if l0_1.length < 4611686018427387904 then
  (if (numF [] 0 l0_1).2.2 = false then some (0, [], [], (numF [] 0 l0_1).2.1, 401)
  else if l0_0.length ≠ 1 then some (0, [], [], ⟨#[]⟩, 400)
  else if mfind (numF [] 0 l0_1).1 (rdOf ByteArray.empty l0_0 0) = none then some (0, [], [], rdOf ByteArray.empty l0_0 0, 402)
  else (gram_items.f k l0_1 (numF [] 0 l0_1).1).bind fun t => if t.2.2 = false then some (0, [], [], t.2.1, 402)
  else (gram_items2.f k l0_1 (numF [] 0 l0_1).1).bind fun u => if u.2.2 = false then (if 0 ≤ u.1 ∧ u.1 < (l0_1.length : Int) then some (0, [], [], (rd_T45 l0_1 u.1).f0, 403) else none)
  else (gram_made.f k l0_0 l0_1 (numF [] 0 l0_1).1).bind fun g => if mayB g.1 g.2.1 g.2.2 = true then some (g.1, g.2.1, g.2.2, ⟨#[]⟩, 0) else some (0, [], [], ⟨#[]⟩, 404))
 else none
theorem gram_Build.mono : ∀ a0 a1 k, LeO (gram_Build.f k a0 a1) (gram_Build.f (k + 1) a0 a1) := by
 intro a0 a1 k
 unfold gram_Build.f
 refine LeO.ite (LeO.ite (LeO.refl _) (LeO.ite (LeO.refl _) (LeO.ite (LeO.refl _) (LeO.bind (gram_items.mono _ _ _) (fun _ => LeO.ite (LeO.refl _) (LeO.bind (gram_items2.mono _ _ _) (fun _ => LeO.ite (LeO.refl _) (LeO.bind (gram_made.mono _ _ _ _) (fun _ => LeO.refl _))))))))) (LeO.refl _)
set_option maxHeartbeats 8000000 in
set_option maxRecDepth 100000 in
theorem gram_Build.calls (k : Nat) (A0_0 : Option Addr) (c0_0 : Nat) (l0_0 : List ByteArray) (A0_1 : Option Addr) (c0_1 : Nat) (l0_1 : List (S45)) (r1 : Int) (r2 : List ByteArray) (r3 : List (S51)) (r4 : ByteArray) (r5 : Int) (w : World) (hr0_0 : Kd.C Kd.string w A0_0 l0_0.length l0_0) (hc0_0 : l0_0.length ≤ c0_0) (hr0_1 : Kd.C k45 w A0_1 l0_1.length l0_1) (hc0_1 : l0_1.length ≤ c0_1) (h : gram_Build.f k l0_0 l0_1 = some (r1, r2, r3, r4, r5)) :
  Calls Try.prog 11 #[.agg #[.slice A0_0 l0_0.length c0_0, .slice A0_1 l0_1.length c0_1]] w fun e w' => ∃ v1_ v2_ : Value, e = .returned (.tuple #[.agg #[.int .i64 r1, v1_, v2_], .string r4, .int .i64 r5]) ∧ Kd.R Kd.string 9 w' w.heap.size (fun _ => True) v1_ r2 ∧ Kd.R k51 51 w' w.heap.size (fun _ => True) v2_ r3 ∧ Below w.heap.size w w' := by
 unfold gram_Build.f at h
 by_cases hl : l0_1.length < 4611686018427387904
 case neg =>
  rw [if_neg hl] at h
  cases h
 rw [if_pos hl] at h
 obtain ⟨m, s, b, hn⟩ : ∃ m s b, numF [] 0 l0_1 = (m, s, b) := ⟨_, _, _, rfl⟩
 rw [hn] at h
 dsimp only at h
 obtain ⟨i0, hi, hz0, hz1, hz2⟩ := info_parts (show (Try.prog.info? 3).map (fun i => (i.zero, i.size, i.bytes)) = some (some (.int .i64 0), 1, 8) from by kernel_rfl)
 have hmf : ∀ (fn : Fn) (first cap : Array Value) (w : World), (Instr.makeFunc fn first cap).run Try.prog w = .ok (.func fn first cap) w := fun _ _ _ _ => rfl
 have HR0 := Aside0.mk hr0_0; have HR1 := Aside0.mk hr0_1; have HN := Aside0.mk hn; have H := Aside0.mk h; clear hr0_0 hr0_1 hn h; have hu28 := Try.underlying28
 cases b with
 | false =>
  have h := H.out
  rw [if_pos rfl] at h
  clear H
  simp only [Option.some.injEq, Prod.mk.injEq] at h
  obtain ⟨rfl, rfl, rfl, rfl, rfl⟩ := h
  go_enter Try.func11, Try.ntmps11
  go_wp2_with (first
   | ((with_reducible refine gate_dst (N := 5) rfl ?_); refine box_event (by rfl) (N := 5) (by rfl) (cs := #[.map none]) (t := 69) zzh ?_; intro g5 hg5 wc BK5 HBc; have B1c := Aside0.mk (blk_below (blk_below hb1b.out HB1.out) HBc); have B2c := Aside0.mk (blk_below (blk_below hb2.out HB1.out) HBc); have B5c := Aside0.mk BK5; have e50 : wc.cell? ⟨g5, 0, none⟩ = some (.map none) := (blk_cell BK5 0).trans rfl; have f50 := blk_frozen BK5 0; have e10 : wc.cell? ⟨g1, 0, none⟩ = some (.slice A0_0 l0_0.length c0_0) := (blk_cell B1c.out 0).trans rfl; have e11 : wc.cell? ⟨g1, 1, none⟩ = some (.slice A0_1 l0_1.length c0_1) := (blk_cell B1c.out 1).trans rfl; have e20 : wc.cell? ⟨g2, 0, none⟩ = some (.int .i64 0) := (blk_cell B2c.out 0).trans rfl; have e21 : wc.cell? ⟨g2, 1, none⟩ = some (.slice none 0 0) := (blk_cell B2c.out 1).trans rfl; have e22 : wc.cell? ⟨g2, 2, none⟩ = some (.slice none 0 0) := (blk_cell B2c.out 2).trans rfl; have f20 := blk_frozen B2c.out 0; have f21 := blk_frozen B2c.out 1; have f22 := blk_frozen B2c.out 2; have n15 : g1 ≠ g5 := (by rw [hg5]; exact Nat.ne_of_lt (blk_lt (blk_below hb1b.out HB1.out))); have n25 : g2 ≠ g5 := (by rw [hg5]; exact Nat.ne_of_lt (blk_lt (blk_below hb2.out HB1.out))); have n51 := n15.symm; have n52 := n25.symm; have G5 := Aside0.mk (show w1.heap.size ≤ g5 from Nat.le_of_eq hg5.symm); have HBW := Aside0.mk (below_step (below_step hbb.out HB1.out) HBc); clear BK5 HBc hg5 d10 d11)
   | ((with_reducible refine gate_dst (N := 1) rfl ?_); refine box_event (by rfl) (N := 1) (by rfl) (cs := #[.slice A0_0 l0_0.length c0_0, .slice A0_1 l0_1.length c0_1]) (t := 25) zzh ?_; intro g1 hg1 wa BK1 HBa; have c10 : wa.cell? ⟨g1, 0, none⟩ = some (.slice A0_0 l0_0.length c0_0) := (blk_cell BK1 0).trans rfl; have c11 : wa.cell? ⟨g1, 1, none⟩ = some (.slice A0_1 l0_1.length c0_1) := (blk_cell BK1 1).trans rfl; have GE1 := Aside0.mk (Nat.le_of_eq hg1.symm); have hb1 := Aside0.mk BK1; have hba := Aside0.mk HBa; clear BK1 HBa hg1)
   | ((with_reducible refine gate_dst (N := 2) rfl ?_); refine box_event (by rfl) (N := 2) (by rfl) (cs := #[.int .i64 0, .slice none 0 0, .slice none 0 0]) (t := 28) zzh ?_; intro g2 hg2 wb BK2 HBb; have d10 : wb.cell? ⟨g1, 0, none⟩ = some (.slice A0_0 l0_0.length c0_0) := (blk_cell (blk_below hb1.out HBb) 0).trans rfl; have d11 : wb.cell? ⟨g1, 1, none⟩ = some (.slice A0_1 l0_1.length c0_1) := (blk_cell (blk_below hb1.out HBb) 1).trans rfl; have GE2 := Aside0.mk (show w.heap.size ≤ g2 from hg2 ▸ hba.out.size); have hb2 := Aside0.mk BK2; have hbb := Aside0.mk (below_step hba.out HBb); have hb1b := Aside0.mk (blk_below hb1.out HBb); clear BK2 HBb hg2 c10 c11)
   | (go_at_call 23; refine (numbers_calls A0_1 c0_1 l0_1 m s false wb (Kd.C_below HR1.out hbb.out) hl HN.out).mono ?_; rintro e w1 ⟨om, rfl, hm, hb1⟩; have HB1 := Aside0.mk hb1; clear hm hb1))
  refine bodyPost_ret (results_ctt rfl _ _ g2 28 #[.int .i64 0, .slice none 0 0, .slice none 0 0] (0, 0) _ rfl (endz (blk_far B2c.out n25 _)) hu28 rfl (by kernel_rfl)) rfl ?_
  exact ⟨_, _, rfl, Kd.R_nil _ _ _ _ _, Kd.R_nil _ _ _ _ _, ((((((HBW.out).setCell (p := ⟨g5, 0, none⟩) (Nat.le_trans (below_size (below_step hbb.out HB1.out)) G5.out) _)).setCell (p := ⟨g2, 0, none⟩) GE2.out _).setCell (p := ⟨g2, 1, none⟩) GE2.out _).setCell (p := ⟨g2, 2, none⟩) GE2.out _)⟩
 | true =>
  have h := H.out
  rw [if_neg (by decide)] at h
  clear H
  by_cases hs1 : l0_0.length ≠ 1
  ·rw [if_pos hs1] at h
   have c1b : (((l0_0.length : Nat) : Int) != 1) = true := by simp; omega
   simp only [Option.some.injEq, Prod.mk.injEq] at h
   obtain ⟨rfl, rfl, rfl, rfl, rfl⟩ := h
   go_enter Try.func11, Try.ntmps11
   go_wp2_with (first
    | ((with_reducible refine gate_dst (N := 5) rfl ?_); refine box_event (by rfl) (N := 5) (by rfl) (cs := #[.map none]) (t := 69) zzh ?_; intro g5 hg5 wc BK5 HBc; have B1c := Aside0.mk (blk_below (blk_below hb1b.out HB1.out) HBc); have B2c := Aside0.mk (blk_below (blk_below hb2.out HB1.out) HBc); have B5c := Aside0.mk BK5; have HMc := Aside0.mk (mapIs_step HM1.out HBc); have NM5 := Aside0.mk (show gm ≠ g5 from (by rw [hg5]; exact Nat.ne_of_lt (mapIs_lt HM1.out))); have e50 : wc.cell? ⟨g5, 0, none⟩ = some (.map none) := (blk_cell BK5 0).trans rfl; have f50 := blk_frozen BK5 0; have e10 : wc.cell? ⟨g1, 0, none⟩ = some (.slice A0_0 l0_0.length c0_0) := (blk_cell B1c.out 0).trans rfl; have e11 : wc.cell? ⟨g1, 1, none⟩ = some (.slice A0_1 l0_1.length c0_1) := (blk_cell B1c.out 1).trans rfl; have e20 : wc.cell? ⟨g2, 0, none⟩ = some (.int .i64 0) := (blk_cell B2c.out 0).trans rfl; have e21 : wc.cell? ⟨g2, 1, none⟩ = some (.slice none 0 0) := (blk_cell B2c.out 1).trans rfl; have e22 : wc.cell? ⟨g2, 2, none⟩ = some (.slice none 0 0) := (blk_cell B2c.out 2).trans rfl; have f20 := blk_frozen B2c.out 0; have f21 := blk_frozen B2c.out 1; have f22 := blk_frozen B2c.out 2; have n15 : g1 ≠ g5 := (by rw [hg5]; exact Nat.ne_of_lt (blk_lt (blk_below hb1b.out HB1.out))); have n25 : g2 ≠ g5 := (by rw [hg5]; exact Nat.ne_of_lt (blk_lt (blk_below hb2.out HB1.out))); have n51 := n15.symm; have n52 := n25.symm; have G5 := Aside0.mk (show w1.heap.size ≤ g5 from Nat.le_of_eq hg5.symm); have HBW := Aside0.mk (below_step (below_step hbb.out HB1.out) HBc); clear BK5 HBc hg5 d10 d11)
    | ((with_reducible refine gate_dst (N := 1) rfl ?_); refine box_event (by rfl) (N := 1) (by rfl) (cs := #[.slice A0_0 l0_0.length c0_0, .slice A0_1 l0_1.length c0_1]) (t := 25) zzh ?_; intro g1 hg1 wa BK1 HBa; have c10 : wa.cell? ⟨g1, 0, none⟩ = some (.slice A0_0 l0_0.length c0_0) := (blk_cell BK1 0).trans rfl; have c11 : wa.cell? ⟨g1, 1, none⟩ = some (.slice A0_1 l0_1.length c0_1) := (blk_cell BK1 1).trans rfl; have GE1 := Aside0.mk (Nat.le_of_eq hg1.symm); have hb1 := Aside0.mk BK1; have hba := Aside0.mk HBa; clear BK1 HBa hg1)
    | ((with_reducible refine gate_dst (N := 2) rfl ?_); refine box_event (by rfl) (N := 2) (by rfl) (cs := #[.int .i64 0, .slice none 0 0, .slice none 0 0]) (t := 28) zzh ?_; intro g2 hg2 wb BK2 HBb; have d10 : wb.cell? ⟨g1, 0, none⟩ = some (.slice A0_0 l0_0.length c0_0) := (blk_cell (blk_below hb1.out HBb) 0).trans rfl; have d11 : wb.cell? ⟨g1, 1, none⟩ = some (.slice A0_1 l0_1.length c0_1) := (blk_cell (blk_below hb1.out HBb) 1).trans rfl; have GE2 := Aside0.mk (show w.heap.size ≤ g2 from hg2 ▸ hba.out.size); have hb2 := Aside0.mk BK2; have hbb := Aside0.mk (below_step hba.out HBb); have hb1b := Aside0.mk (blk_below hb1.out HBb); clear BK2 HBb hg2 c10 c11)
    | (go_at_call 23; refine (numbers_calls A0_1 c0_1 l0_1 m s true wb (Kd.C_below HR1.out hbb.out) hl HN.out).mono ?_; rintro e w1 ⟨om, rfl, hm, hb1⟩; obtain ⟨gm, rfl, hM1⟩ := hm rfl; have HB1 := Aside0.mk hb1; have HM1 := Aside0.mk hM1; clear hm hb1 hM1))
   refine bodyPost_ret (results_ctt rfl _ _ g2 28 #[.int .i64 0, .slice none 0 0, .slice none 0 0] (0, 0) _ rfl (endz (blk_far B2c.out n25 _)) hu28 rfl (by kernel_rfl)) rfl ?_
   exact ⟨_, _, rfl, Kd.R_nil _ _ _ _ _, Kd.R_nil _ _ _ _ _, ((((((HBW.out).setCell (p := ⟨g5, 0, none⟩) (Nat.le_trans (below_size (below_step hbb.out HB1.out)) G5.out) _)).setCell (p := ⟨g2, 0, none⟩) GE2.out _).setCell (p := ⟨g2, 1, none⟩) GE2.out _).setCell (p := ⟨g2, 2, none⟩) GE2.out _)⟩
  rw [if_neg hs1] at h
  have hs2 : l0_0.length = 1 := by omega
  have c1b : (((l0_0.length : Nat) : Int) != 1) = false := by rw [hs2]; rfl
  have H := Aside0.mk h; clear h
  go_enter Try.func11, Try.ntmps11
  go_wp2_with (first
   | ((with_reducible refine gate_dst (N := 5) rfl ?_); refine box_event (by rfl) (N := 5) (by rfl) (cs := #[.map none]) (t := 69) zzh ?_; intro g5 hg5 wc BK5 HBc; have B1c := Aside0.mk (blk_below (blk_below hb1b.out HB1.out) HBc); have B2c := Aside0.mk (blk_below (blk_below hb2.out HB1.out) HBc); have B5c := Aside0.mk BK5; have HMc := Aside0.mk (mapIs_step HM1.out HBc); have NM5 := Aside0.mk (show gm ≠ g5 from (by rw [hg5]; exact Nat.ne_of_lt (mapIs_lt HM1.out))); have e50 : wc.cell? ⟨g5, 0, none⟩ = some (.map none) := (blk_cell BK5 0).trans rfl; have f50 := blk_frozen BK5 0; have e10 : wc.cell? ⟨g1, 0, none⟩ = some (.slice A0_0 l0_0.length c0_0) := (blk_cell B1c.out 0).trans rfl; have e11 : wc.cell? ⟨g1, 1, none⟩ = some (.slice A0_1 l0_1.length c0_1) := (blk_cell B1c.out 1).trans rfl; have e20 : wc.cell? ⟨g2, 0, none⟩ = some (.int .i64 0) := (blk_cell B2c.out 0).trans rfl; have e21 : wc.cell? ⟨g2, 1, none⟩ = some (.slice none 0 0) := (blk_cell B2c.out 1).trans rfl; have e22 : wc.cell? ⟨g2, 2, none⟩ = some (.slice none 0 0) := (blk_cell B2c.out 2).trans rfl; have f20 := blk_frozen B2c.out 0; have f21 := blk_frozen B2c.out 1; have f22 := blk_frozen B2c.out 2; have n15 : g1 ≠ g5 := (by rw [hg5]; exact Nat.ne_of_lt (blk_lt (blk_below hb1b.out HB1.out))); have n25 : g2 ≠ g5 := (by rw [hg5]; exact Nat.ne_of_lt (blk_lt (blk_below hb2.out HB1.out))); have n51 := n15.symm; have n52 := n25.symm; have G5 := Aside0.mk (show w1.heap.size ≤ g5 from Nat.le_of_eq hg5.symm); have HBW := Aside0.mk (below_step (below_step hbb.out HB1.out) HBc); clear BK5 HBc hg5 d10 d11)
   | ((with_reducible refine gate_dst (N := 1) rfl ?_); refine box_event (by rfl) (N := 1) (by rfl) (cs := #[.slice A0_0 l0_0.length c0_0, .slice A0_1 l0_1.length c0_1]) (t := 25) zzh ?_; intro g1 hg1 wa BK1 HBa; have c10 : wa.cell? ⟨g1, 0, none⟩ = some (.slice A0_0 l0_0.length c0_0) := (blk_cell BK1 0).trans rfl; have c11 : wa.cell? ⟨g1, 1, none⟩ = some (.slice A0_1 l0_1.length c0_1) := (blk_cell BK1 1).trans rfl; have GE1 := Aside0.mk (Nat.le_of_eq hg1.symm); have hb1 := Aside0.mk BK1; have hba := Aside0.mk HBa; clear BK1 HBa hg1)
   | ((with_reducible refine gate_dst (N := 2) rfl ?_); refine box_event (by rfl) (N := 2) (by rfl) (cs := #[.int .i64 0, .slice none 0 0, .slice none 0 0]) (t := 28) zzh ?_; intro g2 hg2 wb BK2 HBb; have d10 : wb.cell? ⟨g1, 0, none⟩ = some (.slice A0_0 l0_0.length c0_0) := (blk_cell (blk_below hb1.out HBb) 0).trans rfl; have d11 : wb.cell? ⟨g1, 1, none⟩ = some (.slice A0_1 l0_1.length c0_1) := (blk_cell (blk_below hb1.out HBb) 1).trans rfl; have GE2 := Aside0.mk (show w.heap.size ≤ g2 from hg2 ▸ hba.out.size); have hb2 := Aside0.mk BK2; have hbb := Aside0.mk (below_step hba.out HBb); have hb1b := Aside0.mk (blk_below hb1.out HBb); clear BK2 HBb hg2 c10 c11)
   | (go_at_call 23; refine (numbers_calls A0_1 c0_1 l0_1 m s true wb (Kd.C_below HR1.out hbb.out) hl HN.out).mono ?_; rintro e w1 ⟨om, rfl, hm, hb1⟩; obtain ⟨gm, rfl, hM1⟩ := hm rfl; have HB1 := Aside0.mk hb1; have HM1 := Aside0.mk hM1; clear hm hb1 hM1))
  have F : BF w (wc.setCell ⟨g5, 0, none⟩ (.map (some gm))) g1 g2 g5 gm (.slice A0_0 l0_0.length c0_0) (.slice A0_1 l0_1.length c0_1) m := ⟨blk_far B1c.out n15 _, blk_far B2c.out n25 _, blk_put B5c.out 0 _ rfl, mapIs_far HMc.out NM5.out _, ((HBW.out).setCell (p := ⟨g5, 0, none⟩) (Nat.le_trans (below_size (below_step hbb.out HB1.out)) G5.out) _), GE1.out, GE2.out⟩
  generalize wc.setCell ⟨g5, 0, none⟩ (.map (some gm)) = wd at F ⊢
  clear e50 f50 e10 e11 e20 e21 e22 f20 f21 f22 B1c B2c B5c HMc NM5 G5 HBW HB1 HM1 hb1b hbb hb2 hba hb1; have HF0 := Aside0.mk F
  have F1 : BF w wd.drew g1 g2 g5 gm (.slice A0_0 l0_0.length c0_0) (.slice A0_1 l0_1.length c0_1) m := F.step (below_drew (Below.refl _ _))
  have HF := Aside0.mk F1; clear F F1
  have HD := Aside0.mk HN.out
  obtain ⟨ad0, es0, hy0⟩ := Kd.at_string HR0.out 0 (by omega) (by omega)
  cases es0
  rw [show ((0 : Int)).toNat = 0 from rfl, Addr.add_zero'] at hy0
  have hx0 := pw_cell_below HF0.out.hb hy0
  have na0 : ad0.block ≠ g2 := fun e_ => Nat.lt_irrefl _ (Nat.lt_of_lt_of_le (e_ ▸ World.block_lt_of_cell? w _ hy0) HF0.out.h2)
  have n12 : g1 ≠ g2 := blk_ne HF0.out.b1 HF0.out.b2 (by decide)
  have n21 := n12.symm; clear hy0
  have q10 : wd.cell? ⟨g1, 0, none⟩ = some (.slice (some ad0) l0_0.length c0_0) := (blk_cell HF0.out.b1 0).trans rfl
  have q11 : wd.cell? ⟨g1, 1, none⟩ = some (.slice A0_1 l0_1.length c0_1) := (blk_cell HF0.out.b1 1).trans rfl
  have q50 : wd.cell? ⟨g5, 0, none⟩ = some (.map (some gm)) := (blk_cell HF0.out.b5 0).trans rfl
  have q20 : wd.cell? ⟨g2, 0, none⟩ = some (.int .i64 0) := (blk_cell HF0.out.b2 0).trans rfl
  have q21 : wd.cell? ⟨g2, 1, none⟩ = some (.slice none 0 0) := (blk_cell HF0.out.b2 1).trans rfl
  have q22 : wd.cell? ⟨g2, 2, none⟩ = some (.slice none 0 0) := (blk_cell HF0.out.b2 2).trans rfl
  have qf0 := blk_frozen HF0.out.b2 0
  have qf1 := blk_frozen HF0.out.b2 1
  have qf2 := blk_frozen HF0.out.b2 2
  have hlk := look_int_ok (P := Try.prog) (w := wd.drew) Try.underlying69 Try.underlying9 hi hz0 HF.out.hm (rdOf ByteArray.empty l0_0 0)
  have qi0 : (0 < l0_0.length) = True := eq_true (by omega)
  cases hq : mfind m (rdOf ByteArray.empty l0_0 0) with
  | none =>
   rw [hq] at hlk
   have h := H.out
   rw [if_pos hq] at h
   clear H
   simp only [Option.some.injEq, Prod.mk.injEq] at h
   obtain ⟨rfl, rfl, rfl, rfl, rfl⟩ := h
   have hx0s := (cell_far (a := ad0) (p := ⟨g2, 2, none⟩) na0 (.slice none 0 0)).trans ((cell_far (a := ad0) (p := ⟨g2, 1, none⟩) na0 (.slice none 0 0)).trans ((cell_far (a := ad0) (p := ⟨g2, 0, none⟩) na0 (.int .i64 0)).trans hx0))
   go_region
   go_wp2
   go_region
   all_goals (try go_wp2)
   all_goals first
    | (refine bodyPost_ret (results_ctt rfl _ _ g2 28 #[.int .i64 0, .slice none 0 0, .slice none 0 0] (0, 0) _ rfl (blk_drew (blk_drew (endz HF0.out.b2))) hu28 rfl (by kernel_rfl)) rfl ?_; exact ⟨_, _, rfl, Kd.R_nil _ _ _ _ _, Kd.R_nil _ _ _ _ _, ((((HF0.out.hb).setCell (p := ⟨g2, 0, none⟩) HF0.out.h2 _).setCell (p := ⟨g2, 1, none⟩) HF0.out.h2 _).setCell (p := ⟨g2, 2, none⟩) HF0.out.h2 _).drew.drew⟩)
  | some n0 =>
   rw [hq] at hlk
   have h := H.out
   rw [if_neg (by rw [hq]; exact fun h_ => by cases h_)] at h
   clear H hq; obtain ⟨t, ht, h⟩ := Option.bind_eq_some_iff.1 h; obtain ⟨t1, t2, t3⟩ := t
   dsimp only at h
   have HT := Aside0.mk ht; have H := Aside0.mk h; clear ht h
   cases t3 with
   | false =>
    have h := H.out
    rw [if_pos rfl] at h
    clear H
    simp only [Option.some.injEq, Prod.mk.injEq] at h
    obtain ⟨rfl, rfl, rfl, rfl, rfl⟩ := h
    go_region
    go_wp2_with (first | (go_at_call 25; refine (gram_items.calls k gm g5 A0_1 c0_1 l0_1 m t1 t2 false wd.drew (Kd.C_below HR1.out HF.out.hb) hc0_1 HF.out.hm ((blk_cell HF.out.b5 0).trans rfl) HT.out).mono ?_; rintro e w2 ⟨vp, rfl, hp, hb2⟩; obtain ⟨pp, rfl, hpc⟩ := hp rfl; have HF2 := Aside0.mk (HF.out.step hb2); have HPC := Aside0.mk hpc; clear hp hb2 hpc))
    have nap : pp.block ≠ g2 := fun e_ => by
     have q := HPC.out
     rw [e_, blk_cell HF2.out.b2 (pp.off + 1)] at q
     rcases hk : pp.off with _ | _ | k <;> rw [hk] at q <;> simp at q
    have hp0 := HPC.out
    have hp0s := (cell_far (a := ⟨pp.block, pp.off + 1, none⟩) (p := ⟨g2, 2, none⟩) nap (.slice none 0 0)).trans ((cell_far (a := ⟨pp.block, pp.off + 1, none⟩) (p := ⟨g2, 1, none⟩) nap (.slice none 0 0)).trans ((cell_far (a := ⟨pp.block, pp.off + 1, none⟩) (p := ⟨g2, 0, none⟩) nap (.int .i64 0)).trans hp0))
    have q10 : w2.cell? ⟨g1, 0, none⟩ = some (.slice (some ad0) l0_0.length c0_0) := (blk_cell HF2.out.b1 0).trans rfl
    have q11 : w2.cell? ⟨g1, 1, none⟩ = some (.slice A0_1 l0_1.length c0_1) := (blk_cell HF2.out.b1 1).trans rfl
    have q50 : w2.cell? ⟨g5, 0, none⟩ = some (.map (some gm)) := (blk_cell HF2.out.b5 0).trans rfl
    have q20 : w2.cell? ⟨g2, 0, none⟩ = some (.int .i64 0) := (blk_cell HF2.out.b2 0).trans rfl
    have q21 : w2.cell? ⟨g2, 1, none⟩ = some (.slice none 0 0) := (blk_cell HF2.out.b2 1).trans rfl
    have q22 : w2.cell? ⟨g2, 2, none⟩ = some (.slice none 0 0) := (blk_cell HF2.out.b2 2).trans rfl
    have qf0 := blk_frozen HF2.out.b2 0
    have qf1 := blk_frozen HF2.out.b2 1
    have qf2 := blk_frozen HF2.out.b2 2
    go_region
    all_goals (try go_wp2)
    all_goals first
     | (refine bodyPost_ret (results_ctt rfl _ _ g2 28 #[.int .i64 0, .slice none 0 0, .slice none 0 0] (0, 0) _ rfl (blk_drew (endz HF2.out.b2)) hu28 rfl (by kernel_rfl)) rfl ?_; exact ⟨_, _, rfl, Kd.R_nil _ _ _ _ _, Kd.R_nil _ _ _ _ _, ((((HF2.out.hb).setCell (p := ⟨g2, 0, none⟩) HF2.out.h2 _).setCell (p := ⟨g2, 1, none⟩) HF2.out.h2 _).setCell (p := ⟨g2, 2, none⟩) HF2.out.h2 _).drew⟩)
   | true =>
    have h := H.out
    rw [if_neg (by decide)] at h
    clear H; obtain ⟨u, hu, h⟩ := Option.bind_eq_some_iff.1 h; obtain ⟨u1, u2, u3⟩ := u
    dsimp only at h
    have HU := Aside0.mk hu; have H := Aside0.mk h; clear hu h
    cases u3 with
    | false =>
     have h := H.out
     rw [if_pos rfl] at h
     clear H
     by_cases hu1 : 0 ≤ u1 ∧ u1 < (l0_1.length : Int)
     case neg =>
      rw [if_neg hu1] at h
      cases h
     rw [if_pos hu1] at h
     simp only [Option.some.injEq, Prod.mk.injEq] at h
     obtain ⟨rfl, rfl, rfl, rfl, rfl⟩ := h; obtain ⟨adn, A1n, c1n, en, hy0, hy1, _⟩ := at_T45 HR1.out u1 hu1.1 hu1.2
     cases en
     have nan : (adn.add (u1.toNat * 2)).block ≠ g2 := fun e_ => Nat.lt_irrefl _ (Nat.lt_of_lt_of_le (e_ ▸ World.block_lt_of_cell? w _ hy0) HF0.out.h2)
     have p149 := eq_true hu1.1
     have q149 := eq_true hu1.2
     have HY := Aside0.mk hy0; clear hy0 hy1 hu1
     go_region
     go_wp2_with (first | (go_at_call 25; refine (gram_items2.calls k gm g5 (some adn) c0_1 l0_1 m u1 u2 false w2 (Kd.C_below HR1.out HF2.out.hb) hc0_1 HF2.out.hm ((blk_cell HF2.out.b5 0).trans rfl) HU.out).mono ?_; rintro e w3 ⟨vp, rfl, hp, hb2⟩; have HF3 := Aside0.mk (HF2.out.step hb2); have r10 : w3.cell? ⟨g1, 0, none⟩ = some (.slice (some ad0) l0_0.length c0_0) := (blk_cell HF3.out.b1 0).trans rfl; have r11 : w3.cell? ⟨g1, 1, none⟩ = some (.slice (some adn) l0_1.length c0_1) := (blk_cell HF3.out.b1 1).trans rfl; have r50 : w3.cell? ⟨g5, 0, none⟩ = some (.map (some gm)) := (blk_cell HF3.out.b5 0).trans rfl; have r20 : w3.cell? ⟨g2, 0, none⟩ = some (.int .i64 0) := (blk_cell HF3.out.b2 0).trans rfl; have r21 : w3.cell? ⟨g2, 1, none⟩ = some (.slice none 0 0) := (blk_cell HF3.out.b2 1).trans rfl; have r22 : w3.cell? ⟨g2, 2, none⟩ = some (.slice none 0 0) := (blk_cell HF3.out.b2 2).trans rfl; have rf0 := blk_frozen HF3.out.b2 0; have rf1 := blk_frozen HF3.out.b2 1; have rf2 := blk_frozen HF3.out.b2 2; have hz0 := pw_cell_below HF3.out.hb HY.out; have hzs := (cell_far (a := adn.add (u1.toNat * 2)) (p := ⟨g2, 2, none⟩) nan (.slice none 0 0)).trans ((cell_far (a := adn.add (u1.toNat * 2)) (p := ⟨g2, 1, none⟩) nan (.slice none 0 0)).trans ((cell_far (a := adn.add (u1.toNat * 2)) (p := ⟨g2, 0, none⟩) nan (.int .i64 0)).trans hz0)); clear hp hb2) | (go_at_call 25; refine (gram_items.calls k gm g5 (some adn) c0_1 l0_1 m t1 t2 true wd.drew (Kd.C_below HR1.out HF.out.hb) hc0_1 HF.out.hm ((blk_cell HF.out.b5 0).trans rfl) HT.out).mono ?_; rintro e w2 ⟨vp, rfl, hp, hb2⟩; have HF2 := Aside0.mk (HF.out.step hb2); have s11 : w2.cell? ⟨g1, 1, none⟩ = some (.slice (some adn) l0_1.length c0_1) := (blk_cell HF2.out.b1 1).trans rfl; clear hp hb2))
     go_region
     all_goals (try go_wp2)
     all_goals first
      | (refine bodyPost_ret (results_ctt rfl _ _ g2 28 #[.int .i64 0, .slice none 0 0, .slice none 0 0] (0, 0) _ rfl (blk_drew (endz HF3.out.b2)) hu28 rfl (by kernel_rfl)) rfl ?_; exact ⟨_, _, rfl, Kd.R_nil _ _ _ _ _, Kd.R_nil _ _ _ _ _, ((((HF3.out.hb).setCell (p := ⟨g2, 0, none⟩) HF3.out.h2 _).setCell (p := ⟨g2, 1, none⟩) HF3.out.h2 _).setCell (p := ⟨g2, 2, none⟩) HF3.out.h2 _).drew⟩)
    | true =>
     have h := H.out
     rw [if_neg (by decide)] at h
     clear H; obtain ⟨x, hx, h⟩ := Option.bind_eq_some_iff.1 h; obtain ⟨x1, x2, x3⟩ := x
     dsimp only at h
     have HX := Aside0.mk hx; have H := Aside0.mk h; clear hx h
     go_region
     go_wp2_with (first | ((with_reducible refine gate_dst (N := 17) rfl ?_); refine box_event (by rfl) (N := 17) (by rfl) (cs := #[.int .i64 0, .slice none 0 0, .slice none 0 0]) (t := 28) zzh ?_; intro g7 hg7 w5 BK7 hb5; have HF5 := Aside0.mk (HF4.out.step hb5); have n72 : g7 ≠ g2 := (by rw [hg7]; exact Nat.ne_of_gt (blk_lt HF4.out.b2)); have n27 := n72.symm; have GE7 := Aside0.mk (show w.heap.size ≤ g7 from (by rw [hg7]; exact HF4.out.hb.size)); have z0 : w5.cell? ⟨g7, 0, none⟩ = some (.int .i64 0) := (blk_cell BK7 0).trans rfl; have z1 : w5.cell? ⟨g7, 1, none⟩ = some (.slice none 0 0) := (blk_cell BK7 1).trans rfl; have z2 : w5.cell? ⟨g7, 2, none⟩ = some (.slice none 0 0) := (blk_cell BK7 2).trans rfl; have zf0 := blk_frozen BK7 0; have zf1 := blk_frozen BK7 1; have zf2 := blk_frozen BK7 2; have HV1b := Aside0.mk (Kd.R_below (Kd.R_elderB HV1.out g7 (Nat.le_of_eq hg7.symm)) hb5); have HV2b := Aside0.mk (Kd.R_below (Kd.R_elderB HV2.out g7 (Nat.le_of_eq hg7.symm)) hb5); have HB7 := Aside0.mk BK7; clear BK7 hb5 hg7) | (go_at_call 27; refine (gram_made.calls k gm g1 (some ad0) c0_0 l0_0 A0_1 c0_1 l0_1 m x1 x2 x3 w3 (Kd.C_below HR0.out HF3.out.hb) hc0_0 (Kd.C_below HR1.out HF3.out.hb) hc0_1 HF3.out.hm ((blk_cell HF3.out.b1 0).trans rfl) ((blk_cell HF3.out.b1 1).trans rfl) HX.out).mono ?_; rintro e w4 ⟨v1, v2, rfl, hv1, hv2, hb4⟩; obtain ⟨Av, cv, rfl⟩ := Kd.R_slice hv1; obtain ⟨Aw, cw, rfl⟩ := Kd.R_slice hv2; have HV1 := Aside0.mk hv1; have HV2 := Aside0.mk hv2; have HF4 := Aside0.mk (HF3.out.step hb4); have HS3 := Aside0.mk HF3.out.hb.size; clear hv1 hv2 hb4) | (go_at_call 25; refine (gram_items2.calls k gm g5 A0_1 c0_1 l0_1 m u1 u2 true w2 (Kd.C_below HR1.out HF2.out.hb) hc0_1 HF2.out.hm ((blk_cell HF2.out.b5 0).trans rfl) HU.out).mono ?_; rintro e w3 ⟨vp, rfl, hp, hb2⟩; have HF3 := Aside0.mk (HF2.out.step hb2); have r10 : w3.cell? ⟨g1, 0, none⟩ = some (.slice (some ad0) l0_0.length c0_0) := (blk_cell HF3.out.b1 0).trans rfl; have r11 : w3.cell? ⟨g1, 1, none⟩ = some (.slice A0_1 l0_1.length c0_1) := (blk_cell HF3.out.b1 1).trans rfl; have r50 : w3.cell? ⟨g5, 0, none⟩ = some (.map (some gm)) := (blk_cell HF3.out.b5 0).trans rfl; have r20 : w3.cell? ⟨g2, 0, none⟩ = some (.int .i64 0) := (blk_cell HF3.out.b2 0).trans rfl; have r21 : w3.cell? ⟨g2, 1, none⟩ = some (.slice none 0 0) := (blk_cell HF3.out.b2 1).trans rfl; have r22 : w3.cell? ⟨g2, 2, none⟩ = some (.slice none 0 0) := (blk_cell HF3.out.b2 2).trans rfl; have rf0 := blk_frozen HF3.out.b2 0; have rf1 := blk_frozen HF3.out.b2 1; have rf2 := blk_frozen HF3.out.b2 2;  clear hp hb2) | (go_at_call 25; refine (gram_items.calls k gm g5 A0_1 c0_1 l0_1 m t1 t2 true wd.drew (Kd.C_below HR1.out HF.out.hb) hc0_1 HF.out.hm ((blk_cell HF.out.b5 0).trans rfl) HT.out).mono ?_; rintro e w2 ⟨vp, rfl, hp, hb2⟩; have HF2 := Aside0.mk (HF.out.step hb2); have s11 : w2.cell? ⟨g1, 1, none⟩ = some (.slice A0_1 l0_1.length c0_1) := (blk_cell HF2.out.b1 1).trans rfl; clear hp hb2))
     have B2m := Aside0.mk (show (((w5.setCell ⟨g7, 0, none⟩ (.int .i64 x1)).setCell ⟨g7, 1, none⟩ (.slice Av x2.length cv)).setCell ⟨g7, 2, none⟩ (.slice Aw x3.length cw)).heap[g2]? = some (.cells #[.int .i64 0, .slice none 0 0, .slice none 0 0] 28 (0, 0)) from blk_far (blk_far (blk_far HF5.out.b2 n27 _) n27 _) n27 _)
     have B7m := Aside0.mk (show (((w5.setCell ⟨g7, 0, none⟩ (.int .i64 x1)).setCell ⟨g7, 1, none⟩ (.slice Av x2.length cv)).setCell ⟨g7, 2, none⟩ (.slice Aw x3.length cw)).heap[g7]? = some (.cells #[.int .i64 x1, .slice Av x2.length cv, .slice Aw x3.length cw] 28 (0, 0)) from blk_put (blk_put (blk_put HB7.out 0 _ rfl) 1 _ rfl) 2 _ rfl)
     have V1m := Aside0.mk (show Kd.R Kd.string 9 (((w5.setCell ⟨g7, 0, none⟩ (.int .i64 x1)).setCell ⟨g7, 1, none⟩ (.slice Av x2.length cv)).setCell ⟨g7, 2, none⟩ (.slice Aw x3.length cw)) w3.heap.size _ (.slice Av x2.length cv) x2 from Kd.R_far (p := ⟨g7, 2, none⟩) (Kd.R_far (p := ⟨g7, 1, none⟩) (Kd.R_far (p := ⟨g7, 0, none⟩) HV1b.out (fun _ hk => hk.2) _) (fun _ hk => hk.2) _) (fun _ hk => hk.2) _)
     have V2m := Aside0.mk (show Kd.R k51 51 (((w5.setCell ⟨g7, 0, none⟩ (.int .i64 x1)).setCell ⟨g7, 1, none⟩ (.slice Av x2.length cv)).setCell ⟨g7, 2, none⟩ (.slice Aw x3.length cw)) w3.heap.size _ (.slice Aw x3.length cw) x3 from Kd.R_far (p := ⟨g7, 2, none⟩) (Kd.R_far (p := ⟨g7, 1, none⟩) (Kd.R_far (p := ⟨g7, 0, none⟩) HV2b.out (fun _ hk => hk.2) _) (fun _ hk => hk.2) _) (fun _ hk => hk.2) _)
     have HBm := Aside0.mk (show Below w.heap.size w (((w5.setCell ⟨g7, 0, none⟩ (.int .i64 x1)).setCell ⟨g7, 1, none⟩ (.slice Av x2.length cv)).setCell ⟨g7, 2, none⟩ (.slice Aw x3.length cw)) from ((HF5.out.hb.setCell (p := ⟨g7, 0, none⟩) GE7.out _).setCell (p := ⟨g7, 1, none⟩) GE7.out _).setCell (p := ⟨g7, 2, none⟩) GE7.out _)
     have G2 := Aside0.mk HF5.out.h2
     generalize (((w5.setCell ⟨g7, 0, none⟩ (.int .i64 x1)).setCell ⟨g7, 1, none⟩ (.slice Av x2.length cv)).setCell ⟨g7, 2, none⟩ (.slice Aw x3.length cw)) = wm at B2m B7m V1m V2m HBm ⊢
     clear z0 z1 z2 zf0 zf1 zf2 HV1 HV2 HV1b HV2b HF5 HF4 HB7
     cases hmay : mayB x1 x2 x3 with
     | false =>
      have h := H.out
      rw [hmay, if_neg (by decide)] at h
      clear H
      simp only [Option.some.injEq, Prod.mk.injEq] at h
      obtain ⟨rfl, rfl, rfl, rfl, rfl⟩ := h
      go_wp2_with (first | (go_at_call 17; refine (gram_May.calls x1 Av cv x2 Aw cw x3 false wm (Kd.R_reads' V1m.out).2.2 (Kd.R_reads' V1m.out).2.1 (Kd.R_reads' V2m.out).2.2 (Kd.R_reads' V2m.out).2.1 (congrArg some hmay)).mono ?_; rintro e w6 ⟨rfl, hb6⟩; have B26 := Aside0.mk (blk_below B2m.out hb6); have B76 := Aside0.mk (blk_below B7m.out hb6); have HB6 := Aside0.mk (below_step HBm.out hb6); have V16 := Aside0.mk (Kd.R_below V1m.out hb6); have V26 := Aside0.mk (Kd.R_below V2m.out hb6); have y20 : w6.cell? ⟨g2, 0, none⟩ = some (.int .i64 0) := (blk_cell B26.out 0).trans rfl; have y21 : w6.cell? ⟨g2, 1, none⟩ = some (.slice none 0 0) := (blk_cell B26.out 1).trans rfl; have y22 : w6.cell? ⟨g2, 2, none⟩ = some (.slice none 0 0) := (blk_cell B26.out 2).trans rfl; have yf0 := blk_frozen B26.out 0; have yf1 := blk_frozen B26.out 1; have yf2 := blk_frozen B26.out 2; have y70 : w6.cell? ⟨g7, 0, none⟩ = some (.int .i64 x1) := (blk_cell B76.out 0).trans rfl; have y71 : w6.cell? ⟨g7, 1, none⟩ = some (.slice Av x2.length cv) := (blk_cell B76.out 1).trans rfl; have y72 : w6.cell? ⟨g7, 2, none⟩ = some (.slice Aw x3.length cw) := (blk_cell B76.out 2).trans rfl; clear hb6))
      refine bodyPost_ret (results_ctt rfl _ _ g2 28 #[.int .i64 0, .slice none 0 0, .slice none 0 0] (0, 0) _ rfl (endz B26.out) hu28 rfl (by kernel_rfl)) rfl ?_
      exact ⟨_, _, rfl, Kd.R_nil _ _ _ _ _, Kd.R_nil _ _ _ _ _, (((HB6.out.setCell (p := ⟨g2, 0, none⟩) G2.out _).setCell (p := ⟨g2, 1, none⟩) G2.out _).setCell (p := ⟨g2, 2, none⟩) G2.out _)⟩
     | true =>
      have h := H.out
      rw [hmay, if_pos rfl] at h
      clear H
      simp only [Option.some.injEq, Prod.mk.injEq] at h
      obtain ⟨rfl, rfl, rfl, rfl, rfl⟩ := h
      go_wp2_with (first | (go_at_call 17; refine (gram_May.calls x1 Av cv x2 Aw cw x3 true wm (Kd.R_reads' V1m.out).2.2 (Kd.R_reads' V1m.out).2.1 (Kd.R_reads' V2m.out).2.2 (Kd.R_reads' V2m.out).2.1 (congrArg some hmay)).mono ?_; rintro e w6 ⟨rfl, hb6⟩; have B26 := Aside0.mk (blk_below B2m.out hb6); have B76 := Aside0.mk (blk_below B7m.out hb6); have HB6 := Aside0.mk (below_step HBm.out hb6); have V16 := Aside0.mk (Kd.R_below V1m.out hb6); have V26 := Aside0.mk (Kd.R_below V2m.out hb6); have y20 : w6.cell? ⟨g2, 0, none⟩ = some (.int .i64 0) := (blk_cell B26.out 0).trans rfl; have y21 : w6.cell? ⟨g2, 1, none⟩ = some (.slice none 0 0) := (blk_cell B26.out 1).trans rfl; have y22 : w6.cell? ⟨g2, 2, none⟩ = some (.slice none 0 0) := (blk_cell B26.out 2).trans rfl; have yf0 := blk_frozen B26.out 0; have yf1 := blk_frozen B26.out 1; have yf2 := blk_frozen B26.out 2; have y70 : w6.cell? ⟨g7, 0, none⟩ = some (.int .i64 x1) := (blk_cell B76.out 0).trans rfl; have y71 : w6.cell? ⟨g7, 1, none⟩ = some (.slice Av x2.length cv) := (blk_cell B76.out 1).trans rfl; have y72 : w6.cell? ⟨g7, 2, none⟩ = some (.slice Aw x3.length cw) := (blk_cell B76.out 2).trans rfl; clear hb6))
      refine bodyPost_ret (results_ctt rfl _ _ g2 28 #[.int .i64 x1, .slice Av x2.length cv, .slice Aw x3.length cw] (0, 0) _ rfl (blk_put (blk_put (blk_put B26.out 0 _ rfl) 1 _ rfl) 2 _ rfl) hu28 rfl (by kernel_rfl)) rfl ?_
      exact ⟨_, _, rfl, Kd.R_mono (Kd.R_lower (Kd.R_far (p := ⟨g2, 2, none⟩) (Kd.R_far (p := ⟨g2, 1, none⟩) (Kd.R_far (p := ⟨g2, 0, none⟩) (Kd.R_types V16.out B26.out (by decide)) (fun _ hk => hk.2) _) (fun _ hk => hk.2) _) (fun _ hk => hk.2) _) HS3.out) (fun _ _ => trivial), Kd.R_mono (Kd.R_lower (Kd.R_far (p := ⟨g2, 2, none⟩) (Kd.R_far (p := ⟨g2, 1, none⟩) (Kd.R_far (p := ⟨g2, 0, none⟩) (Kd.R_types V26.out B26.out (by decide)) (fun _ hk => hk.2) _) (fun _ hk => hk.2) _) (fun _ hk => hk.2) _) HS3.out) (fun _ _ => trivial), (((HB6.out.setCell (p := ⟨g2, 0, none⟩) G2.out _).setCell (p := ⟨g2, 1, none⟩) G2.out _).setCell (p := ⟨g2, 2, none⟩) G2.out _)⟩


/-! ### templeref1_find: function 28 -/
def templeref1_find.l0 : Nat → List ByteArray → ByteArray → Int → Option (Int)
 | 0, _, _, _ => none
 | k + 1, x0, x1, x5 => if x5 < (x0.length : Int) then (if 0 ≤ x5 then (if (rdOf ByteArray.empty x0 x5).toList = x1.toList then (some x5) else (templeref1_find.l0 k x0 x1 (wrap64 (x5 + 1)))) else (none)) else (some (-1))
def templeref1_find.f (k : Nat) (l0 : List ByteArray) (a1 : ByteArray) : Option (Int) := templeref1_find.l0 k l0 a1 0
theorem templeref1_find.mono_l : ∀ k, (∀ y0 y1 y2, LeO (templeref1_find.l0 k y0 y1 y2) (templeref1_find.l0 (k + 1) y0 y1 y2))
 | 0 => fun _ _ _ r h => by simp [templeref1_find.l0] at h
 | k + 1 => by
  have ih0 := templeref1_find.mono_l k
  ·intro y0 y1 y2
   unfold templeref1_find.l0
   repeat' first
   | (with_reducible exact ih0 _ _ _)
   | (with_reducible exact LeO.refl _)
   | (with_reducible exact LeO.none _)
   | (with_reducible refine LeO.ite ?_ ?_)
   | (with_reducible refine LeO.bind ?_ (fun _ => ?_))
   | exact ih0 _ _ _
   | exact LeO.none _
   | refine LeO.ite ?_ ?_
   | refine LeO.bind ?_ (fun _ => ?_)
theorem templeref1_find.mono : ∀ a0 a1 k, LeO (templeref1_find.f k a0 a1) (templeref1_find.f (k + 1) a0 a1) := by
 intro a0 a1 k
 have ih0 := templeref1_find.mono_l k
 unfold templeref1_find.f
 repeat' first
   | (with_reducible exact ih0 _ _ _)
   | (with_reducible exact LeO.refl _)
   | (with_reducible exact LeO.none _)
   | (with_reducible refine LeO.ite ?_ ?_)
   | (with_reducible refine LeO.bind ?_ (fun _ => ?_))
   | exact ih0 _ _ _
   | exact LeO.none _
   | refine LeO.ite ?_ ?_
   | refine LeO.bind ?_ (fun _ => ?_)
set_option maxHeartbeats 8000000 in
set_option maxRecDepth 100000 in
theorem templeref1_find.calls (k : Nat) (A0 : Option Addr) (c0 : Nat) (l0 : List ByteArray) (a1 : ByteArray) (r : Int) (w : World) (hr0 : Kd.C Kd.string w A0 l0.length l0) (hc0 : l0.length ≤ c0) (h : templeref1_find.f k l0 a1 = some r) :
  Calls Try.prog 28 #[.slice A0 l0.length c0, .string a1] w fun e w' => e = .returned (.int .i64 r) ∧ Drawn0 w w' := by
 have HR0 := Aside0.mk hr0; have HC0 := Aside0.mk hc0; clear hr0 hc0
 have H : (templeref1_find.l0 k l0 a1 0) = some r := h
 clear h; have H' := Aside0.mk H; clear H
 go_enter Try.func28, Try.ntmps28
 go_wp2
 go_loopg [5] k (fun kq v5 w' => ∃ (x5_1 : Int), v5 = .int .i64 x5_1 ∧ Aside0 (templeref1_find.l0 kq l0 a1 x5_1 = some r) ∧ Aside0 (kq ≤ k) ∧ Drawn0 w w')
 case atStart => exact ⟨(0), zz0, H', ⟨Nat.le_refl _⟩, by repeat (first | exact Drawn0.refl _ | apply Drawn0.step)⟩
 case round =>
  clear H'; (try clear c2); (try clear p2); obtain ⟨x5_1, rfl, HA, HK1, ⟨m1, rfl⟩⟩ := hrel
  cases gk with
  | zero => exact absurd HA.out (by simp [templeref1_find.l0])
  | succ k1 =>
   have H := HA.out; clear HA
   simp only [templeref1_find.l0] at H
   by_cases c3 : x5_1 < (l0.length : Int)
   ·rw [if_pos c3] at H; have c3b0 : decide (x5_1 < (l0.length : Int)) = true := decide_eq_true c3; clear c3
    by_cases c4 : 0 ≤ x5_1
    ·rw [if_pos c4] at H; have c4b0 : decide (0 ≤ x5_1) = true := decide_eq_true c4; clear c4
     by_cases c5 : (rdOf ByteArray.empty l0 x5_1).toList = a1.toList
     ·rw [if_pos c5] at H; have c5b0 : ((rdOf ByteArray.empty l0 x5_1).toList == a1.toList) = true := beq_iff_eq.mpr c5; have c5b1 : ((rdOf ByteArray.empty l0 x5_1).toList != a1.toList) = false := bne_eq_false_iff_eq.mpr c5; clear c5; obtain rfl := Option.some.inj H
      have p194 : 0 ≤ (x5_1 : Int) := of_decide_eq_true zz1
      have q194 : x5_1 < (l0.length : Int) := of_decide_eq_true zz1
      obtain ⟨ad194, e194, hx194_0⟩ := Kd.at_string HR0.out x5_1 p194 q194; cases e194; replace p194 := eq_true p194; replace q194 := eq_true q194; go_wp2; go_ret
      exact ⟨by first | rfl | (simp; done) | (simp [*]; done), by repeat (first | exact Drawn0.refl _ | apply Drawn0.step)⟩
     ·rw [if_neg c5] at H; have c5b0 : ((rdOf ByteArray.empty l0 x5_1).toList == a1.toList) = false := beq_eq_false_iff_ne.mpr c5; have c5b1 : ((rdOf ByteArray.empty l0 x5_1).toList != a1.toList) = true := bne_iff_ne.mpr c5; have H' := Aside0.mk H; clear H
      have p194 : 0 ≤ (x5_1 : Int) := of_decide_eq_true zz1
      have q194 : x5_1 < (l0.length : Int) := of_decide_eq_true zz1
      obtain ⟨ad194, e194, hx194_0⟩ := Kd.at_string HR0.out x5_1 p194 q194; cases e194; replace p194 := eq_true p194; replace q194 := eq_true q194; go_wp2; go_roundg k1
      case measure => have := HK1.out; omega
      case rel => exact ⟨(wrap64 (x5_1 + 1)), zz0, H', ⟨by have := HK1.out; omega⟩, by repeat (first | exact Drawn0.refl _ | apply Drawn0.step)⟩
    ·rw [if_neg c4] at H
     exact absurd H (by simp)
   ·rw [if_neg c3] at H; have c3b0 : decide (x5_1 < (l0.length : Int)) = false := decide_eq_false c3; clear c3; obtain rfl := Option.some.inj H; go_wp2; go_ret
    exact ⟨by first | rfl | (simp; done) | (simp [*]; done), by repeat (first | exact Drawn0.refl _ | apply Drawn0.step)⟩

/-! ### templeref1_letter: function 46 -/
def templeref1_letter.f (a0 : Int) : Option (Bool) := if a0 ≥ 97 then (if a0 ≤ 122 then (some true) else (if a0 ≥ 65 then (if a0 ≤ 90 then (some true) else (some (a0 == 95))) else (some (a0 == 95)))) else (if a0 ≥ 65 then (if a0 ≤ 90 then (some true) else (some (a0 == 95))) else (some (a0 == 95)))
set_option maxHeartbeats 8000000 in
set_option maxRecDepth 100000 in
theorem templeref1_letter.calls (a0 : Int) (r : Bool) (w : World) (h : templeref1_letter.f a0 = some r) :
  Calls Try.prog 46 #[.int .u8 a0] w fun e w' => e = .returned (.bool r) ∧ Drawn0 w w' := by
 have H : (if a0 ≥ 97 then (if a0 ≤ 122 then (some true) else (if a0 ≥ 65 then (if a0 ≤ 90 then (some true) else (some (a0 == 95))) else (some (a0 == 95)))) else (if a0 ≥ 65 then (if a0 ≤ 90 then (some true) else (some (a0 == 95))) else (some (a0 == 95)))) = some r := h
 clear h
 by_cases c2 : a0 ≥ 97
 ·rw [if_pos c2] at H; have c2b0 : decide (97 ≤ a0) = true := decide_eq_true c2; clear c2
  by_cases c3 : a0 ≤ 122
  ·rw [if_pos c3] at H; have c3b0 : decide (a0 ≤ 122) = true := decide_eq_true c3; clear c3; obtain rfl := Option.some.inj H
   go_enter Try.func46, Try.ntmps46
   go_wp2; go_ret
   exact ⟨by first | rfl | (simp; done) | (simp [*]; done), by repeat (first | exact Drawn0.refl _ | apply Drawn0.step)⟩
  ·rw [if_neg c3] at H; have c3b0 : decide (a0 ≤ 122) = false := decide_eq_false c3; clear c3
   by_cases c4 : a0 ≥ 65
   ·rw [if_pos c4] at H; have c4b0 : decide (65 ≤ a0) = true := decide_eq_true c4; clear c4
    by_cases c5 : a0 ≤ 90
    ·rw [if_pos c5] at H; have c5b0 : decide (a0 ≤ 90) = true := decide_eq_true c5; clear c5; obtain rfl := Option.some.inj H
     go_enter Try.func46, Try.ntmps46
     go_wp2; go_ret
     exact ⟨by first | rfl | (simp; done) | (simp [*]; done), by repeat (first | exact Drawn0.refl _ | apply Drawn0.step)⟩
    ·rw [if_neg c5] at H; have c5b0 : decide (a0 ≤ 90) = false := decide_eq_false c5; clear c5; obtain rfl := Option.some.inj H
     go_enter Try.func46, Try.ntmps46
     go_wp2; go_ret
     exact ⟨by first | rfl | (simp; done) | (simp [*]; done), by repeat (first | exact Drawn0.refl _ | apply Drawn0.step)⟩
   ·rw [if_neg c4] at H; have c4b0 : decide (65 ≤ a0) = false := decide_eq_false c4; clear c4; obtain rfl := Option.some.inj H
    go_enter Try.func46, Try.ntmps46
    go_wp2; go_ret
    exact ⟨by first | rfl | (simp; done) | (simp [*]; done), by repeat (first | exact Drawn0.refl _ | apply Drawn0.step)⟩
 ·rw [if_neg c2] at H; have c2b0 : decide (97 ≤ a0) = false := decide_eq_false c2; clear c2
  by_cases c6 : a0 ≥ 65
  ·rw [if_pos c6] at H; have c6b0 : decide (65 ≤ a0) = true := decide_eq_true c6; clear c6
   by_cases c7 : a0 ≤ 90
   ·rw [if_pos c7] at H; have c7b0 : decide (a0 ≤ 90) = true := decide_eq_true c7; clear c7; obtain rfl := Option.some.inj H
    go_enter Try.func46, Try.ntmps46
    go_wp2; go_ret
    exact ⟨by first | rfl | (simp; done) | (simp [*]; done), by repeat (first | exact Drawn0.refl _ | apply Drawn0.step)⟩
   ·rw [if_neg c7] at H; have c7b0 : decide (a0 ≤ 90) = false := decide_eq_false c7; clear c7; obtain rfl := Option.some.inj H
    go_enter Try.func46, Try.ntmps46
    go_wp2; go_ret
    exact ⟨by first | rfl | (simp; done) | (simp [*]; done), by repeat (first | exact Drawn0.refl _ | apply Drawn0.step)⟩
  ·rw [if_neg c6] at H; have c6b0 : decide (65 ≤ a0) = false := decide_eq_false c6; clear c6; obtain rfl := Option.some.inj H
   go_enter Try.func46, Try.ntmps46
   go_wp2; go_ret
   exact ⟨by first | rfl | (simp; done) | (simp [*]; done), by repeat (first | exact Drawn0.refl _ | apply Drawn0.step)⟩

/-! ### templeref1_digit: function 47 -/
def templeref1_digit.f (a0 : Int) : Option (Bool) := if a0 ≥ 48 then (some (decide (a0 ≤ 57))) else (some false)
set_option maxHeartbeats 8000000 in
set_option maxRecDepth 100000 in
theorem templeref1_digit.calls (a0 : Int) (r : Bool) (w : World) (h : templeref1_digit.f a0 = some r) :
  Calls Try.prog 47 #[.int .u8 a0] w fun e w' => e = .returned (.bool r) ∧ Drawn0 w w' := by
 have H : (if a0 ≥ 48 then (some (decide (a0 ≤ 57))) else (some false)) = some r := h
 clear h
 by_cases c2 : a0 ≥ 48
 ·rw [if_pos c2] at H; have c2b0 : decide (48 ≤ a0) = true := decide_eq_true c2; clear c2; obtain rfl := Option.some.inj H
  go_enter Try.func47, Try.ntmps47
  go_wp2; go_ret
  exact ⟨by first | rfl | (simp; done) | (simp [*]; done), by repeat (first | exact Drawn0.refl _ | apply Drawn0.step)⟩
 ·rw [if_neg c2] at H; have c2b0 : decide (48 ≤ a0) = false := decide_eq_false c2; clear c2; obtain rfl := Option.some.inj H
  go_enter Try.func47, Try.ntmps47
  go_wp2; go_ret
  exact ⟨by first | rfl | (simp; done) | (simp [*]; done), by repeat (first | exact Drawn0.refl _ | apply Drawn0.step)⟩

/-! ### templeref1_nameMay: function 37 -/
mutual
def templeref1_nameMay.j0 : Nat → ByteArray → Bool → Option (Bool)
 | 0, _, _ => none
 | k + 1, x0, x21 => if x21 = true then (some false) else (templeref1_nameMay.l0 k x0 0)
def templeref1_nameMay.l0 : Nat → ByteArray → Int → Option (Bool)
 | 0, _, _ => none
 | k + 1, x0, x3 => if x3 < (x0.size : Int) then (if 0 ≤ x3 then ((templeref1_letter.f (bt x0 x3)).bind fun t196 => (if t196 = true then (templeref1_nameMay.l0 k x0 (wrap64 (x3 + 1))) else ((templeref1_digit.f (bt x0 x3)).bind fun t197 => (if t197 = true then (templeref1_nameMay.l0 k x0 (wrap64 (x3 + 1))) else (some false))))) else (none)) else (some true)
end
def templeref1_nameMay.f (k : Nat) (a0 : ByteArray) : Option (Bool) := if (a0.size : Int) < 1 then (templeref1_nameMay.j0 k a0 true) else (if (a0.size : Int) > 32 then (templeref1_nameMay.j0 k a0 true) else (if a0.toList = ([115, 116, 97, 114, 116] : List UInt8) then (templeref1_nameMay.j0 k a0 true) else (if 0 < (a0.size : Int) then ((templeref1_letter.f (bt a0 0)).bind fun t195 => (templeref1_nameMay.j0 k a0 (!t195))) else (none))))
theorem templeref1_nameMay.mono_l : ∀ k, (∀ y0 y1, LeO (templeref1_nameMay.j0 k y0 y1) (templeref1_nameMay.j0 (k + 1) y0 y1)) ∧ (∀ y0 y1, LeO (templeref1_nameMay.l0 k y0 y1) (templeref1_nameMay.l0 (k + 1) y0 y1))
 | 0 => ⟨fun _ _ r h => by simp [templeref1_nameMay.j0] at h, fun _ _ r h => by simp [templeref1_nameMay.l0] at h⟩
 | k + 1 => by
  obtain ⟨ih0, ih1⟩ := templeref1_nameMay.mono_l k
  refine ⟨?_, ?_⟩
  ·intro y0 y1
   unfold templeref1_nameMay.j0
   repeat' first
   | (with_reducible exact ih0 _ _)
   | (with_reducible exact ih1 _ _)
   | (with_reducible exact LeO.refl _)
   | (with_reducible exact LeO.none _)
   | (with_reducible refine LeO.ite ?_ ?_)
   | (with_reducible refine LeO.bind ?_ (fun _ => ?_))
   | exact ih0 _ _
   | exact ih1 _ _
   | exact LeO.none _
   | refine LeO.ite ?_ ?_
   | refine LeO.bind ?_ (fun _ => ?_)
  ·intro y0 y1
   unfold templeref1_nameMay.l0
   repeat' first
   | (with_reducible exact ih0 _ _)
   | (with_reducible exact ih1 _ _)
   | (with_reducible exact LeO.refl _)
   | (with_reducible exact LeO.none _)
   | (with_reducible refine LeO.ite ?_ ?_)
   | (with_reducible refine LeO.bind ?_ (fun _ => ?_))
   | exact ih0 _ _
   | exact ih1 _ _
   | exact LeO.none _
   | refine LeO.ite ?_ ?_
   | refine LeO.bind ?_ (fun _ => ?_)
theorem templeref1_nameMay.mono : ∀ a0 k, LeO (templeref1_nameMay.f k a0) (templeref1_nameMay.f (k + 1) a0) := by
 intro a0 k
 obtain ⟨ih0, ih1⟩ := templeref1_nameMay.mono_l k
 unfold templeref1_nameMay.f
 repeat' first
   | (with_reducible exact ih0 _ _)
   | (with_reducible exact ih1 _ _)
   | (with_reducible exact LeO.refl _)
   | (with_reducible exact LeO.none _)
   | (with_reducible refine LeO.ite ?_ ?_)
   | (with_reducible refine LeO.bind ?_ (fun _ => ?_))
   | exact ih0 _ _
   | exact ih1 _ _
   | exact LeO.none _
   | refine LeO.ite ?_ ?_
   | refine LeO.bind ?_ (fun _ => ?_)
set_option maxHeartbeats 8000000 in
set_option maxRecDepth 100000 in
theorem templeref1_nameMay.calls (k : Nat) (a0 : ByteArray) (r : Bool) (w : World) (h : templeref1_nameMay.f k a0 = some r) :
  Calls Try.prog 37 #[.string a0] w fun e w' => e = .returned (.bool r) ∧ Drawn0 w w' := by
 have H : (if (a0.size : Int) < 1 then (templeref1_nameMay.j0 k a0 true) else (if (a0.size : Int) > 32 then (templeref1_nameMay.j0 k a0 true) else (if a0.toList = ([115, 116, 97, 114, 116] : List UInt8) then (templeref1_nameMay.j0 k a0 true) else (if 0 < (a0.size : Int) then ((templeref1_letter.f (bt a0 0)).bind fun t195 => (templeref1_nameMay.j0 k a0 (!t195))) else (none))))) = some r := h
 clear h; have HC2 := Aside0.mk H; clear H
 go_enter Try.func37, Try.ntmps37
 go_upto_region 1 with (fail)
 go_cut [21] (fun v21 wc => ∃ (kq : Nat) (x21_1 : Bool), v21 = .bool x21_1 ∧ Aside0 (templeref1_nameMay.j0 kq a0 x21_1 = some r) ∧ Aside0 (kq ≤ k) ∧ Drawn0 w wc)
 case first =>
  have H := HC2.out; clear HC2
  by_cases c3 : (a0.size : Int) < 1
  ·rw [if_pos c3] at H; have c3b0 : decide ((a0.size : Int) < 1) = true := decide_eq_true c3
   have c3b1 : decide (a0.size < 1) = true := decide_eq_true (by omega)
   clear c3
   (first | rw [c3b0] | (simp only [i64_w, i32_w]; rw [c3b0]) | skip)
   have H' := Aside0.mk H; clear H; go_wp2
   go_meet
   case rel => exact ⟨_, (true), zz0, H', ⟨by first | omega | exact Nat.le_refl _⟩, by repeat (first | exact Drawn0.refl _ | apply Drawn0.step)⟩
  ·rw [if_neg c3] at H; have c3b0 : decide ((a0.size : Int) < 1) = false := decide_eq_false c3
   have c3b1 : decide (a0.size < 1) = false := decide_eq_false (by omega)
   clear c3
   (first | rw [c3b0] | (simp only [i64_w, i32_w]; rw [c3b0]) | skip)
   by_cases c4 : (a0.size : Int) > 32
   ·rw [if_pos c4] at H; have c4b0 : decide (32 < (a0.size : Int)) = true := decide_eq_true c4
    have c4b1 : decide (32 < a0.size) = true := decide_eq_true (by omega)
    clear c4; have H' := Aside0.mk H; clear H; go_wp2
    go_meet
    case rel => exact ⟨_, (true), zz0, H', ⟨by first | omega | exact Nat.le_refl _⟩, by repeat (first | exact Drawn0.refl _ | apply Drawn0.step)⟩
   ·rw [if_neg c4] at H; have c4b0 : decide (32 < (a0.size : Int)) = false := decide_eq_false c4
    have c4b1 : decide (32 < a0.size) = false := decide_eq_false (by omega)
    clear c4
    by_cases c5 : a0.toList = ([115, 116, 97, 114, 116] : List UInt8)
    ·rw [if_pos c5] at H; have c5b0 : (a0.toList == ([115, 116, 97, 114, 116] : List UInt8)) = true := beq_iff_eq.mpr c5; have c5b1 : (a0.toList != ([115, 116, 97, 114, 116] : List UInt8)) = false := bne_eq_false_iff_eq.mpr c5; clear c5; have H' := Aside0.mk H; clear H; go_wp2
     go_meet
     case rel => exact ⟨_, (true), zz0, H', ⟨by first | omega | exact Nat.le_refl _⟩, by repeat (first | exact Drawn0.refl _ | apply Drawn0.step)⟩
    ·rw [if_neg c5] at H; have c5b0 : (a0.toList == ([115, 116, 97, 114, 116] : List UInt8)) = false := beq_eq_false_iff_ne.mpr c5; have c5b1 : (a0.toList != ([115, 116, 97, 114, 116] : List UInt8)) = true := bne_iff_ne.mpr c5
     by_cases c6 : 0 < (a0.size : Int)
     ·rw [if_pos c6] at H; have c6b0 : decide (0 < (a0.size : Int)) = true := decide_eq_true c6
      have c6b1 : decide (0 < a0.size) = true := decide_eq_true (by omega)
      clear c6; replace H := Option.bind_eq_some_iff.mp H; obtain ⟨t195, A80, H⟩ := H
      replace H : (templeref1_nameMay.j0 k a0 (!t195)) = some r := H
      have A8 := Aside0.mk A80; clear A80; have H' := Aside0.mk H; clear H
      have p7 : 0 ≤ (0 : Int) := (by omega)
      have q7 : 0 < a0.size := (by have : (0 : Int) < (a0.size : Int) := of_decide_eq_true zz1; omega)
      have hx7 : ∀ h : 0 < a0.size, ((a0[0]'h).toNat : Int) = bt a0 0 := bt_at a0 0
      clear p7
      have qi7 : (0 < (a0.size : Int)) = True := eq_true (of_decide_eq_true zz1)
      replace q7 := eq_true q7
      go_wp2_with (first | (go_at_call 46; (with_reducible refine (templeref1_letter.calls (bt a0 0) t195 _ A8.out).mono ?_); rintro e w' ⟨rfl, ⟨nd, rfl⟩⟩))
      go_meet
      case rel => exact ⟨_, (!t195), zz0, H', ⟨by first | omega | exact Nat.le_refl _⟩, by repeat (first | exact Drawn0.refl _ | apply Drawn0.step)⟩
     ·rw [if_neg c6] at H
      exact absurd H (by simp)
 case rest =>
  clear HC2; (try clear p2); (try clear c3); (try clear c3b0); (try clear c3b1); (try clear c4); (try clear c4b0); (try clear c4b1); (try clear c5); (try clear c5b0); (try clear c5b1); (try clear c6); (try clear c6b0); (try clear c6b1); (try clear p7); (try clear q7); (try clear hx7); (try clear qi7); (try clear p7); (try clear q7); obtain ⟨kq, x21_1, rfl, HA, HJ1, ⟨mc1, rfl⟩⟩ := hcut
  cases kq with
  | zero => exact absurd HA.out (by simp [templeref1_nameMay.j0])
  | succ kj1 =>
   have H := HA.out; clear HA
   simp only [templeref1_nameMay.j0] at H
   by_cases c9 : x21_1 = true
   ·subst c9
    have H1 : (some false) = some r := by rw [if_pos rfl] at H; exact H
    clear H; have H := H1; clear H1; obtain rfl := Option.some.inj H; go_wp2; go_ret
    exact ⟨by first | rfl | (simp; done) | (simp [*]; done), by repeat (first | exact Drawn0.refl _ | apply Drawn0.step)⟩
   ·replace c9 := Bool.eq_false_iff.mpr c9
    subst c9
    have H1 : (templeref1_nameMay.l0 kj1 a0 0) = some r := by rw [if_neg (show ¬ (false = true) by decide)] at H; exact H
    clear H; have H := H1; clear H1; have H' := Aside0.mk H; clear H; go_wp2
    go_loopg [3] kj1 (fun kq v3 w' => ∃ (x3_2 : Int), v3 = .int .i64 x3_2 ∧ Aside0 (templeref1_nameMay.l0 kq a0 x3_2 = some r) ∧ Aside0 (kq ≤ kj1) ∧ Drawn0 w w')
    case atStart => exact ⟨(0), zz0, H', ⟨Nat.le_refl _⟩, by repeat (first | exact Drawn0.refl _ | apply Drawn0.step)⟩
    case round =>
     clear H'; (try clear c1); (try clear p2); (try clear c3); (try clear c3b0); (try clear c3b1); (try clear c4); (try clear c4b0); (try clear c4b1); (try clear c5); (try clear c5b0); (try clear c5b1); (try clear c6); (try clear c6b0); (try clear c6b1); (try clear p7); (try clear q7); (try clear hx7); (try clear qi7); (try clear c9); (try clear p2); (try clear p7); (try clear q7); obtain ⟨x3_2, rfl, HA, HK2, ⟨m2, rfl⟩⟩ := hrel
     cases gk with
     | zero => exact absurd HA.out (by simp [templeref1_nameMay.l0])
     | succ k2 =>
      have H := HA.out; clear HA
      simp only [templeref1_nameMay.l0] at H
      by_cases c10 : x3_2 < (a0.size : Int)
      ·rw [if_pos c10] at H; have c10b0 : decide (x3_2 < (a0.size : Int)) = true := decide_eq_true c10; clear c10
       by_cases c11 : 0 ≤ x3_2
       ·rw [if_pos c11] at H; have c11b0 : decide (0 ≤ x3_2) = true := decide_eq_true c11; clear c11; replace H := Option.bind_eq_some_iff.mp H; obtain ⟨t196, A130, H⟩ := H
        replace H : (if t196 = true then (templeref1_nameMay.l0 k2 a0 (wrap64 (x3_2 + 1))) else ((templeref1_digit.f (bt a0 x3_2)).bind fun t197 => (if t197 = true then (templeref1_nameMay.l0 k2 a0 (wrap64 (x3_2 + 1))) else (some false)))) = some r := H
        have A13 := Aside0.mk A130; clear A130
        by_cases c14 : t196 = true
        ·subst c14
         have H1 : (templeref1_nameMay.l0 k2 a0 (wrap64 (x3_2 + 1))) = some r := by rw [if_pos rfl] at H; exact H
         clear H; have H := H1; clear H1; have H' := Aside0.mk H; clear H
         have p12 : 0 ≤ (x3_2 : Int) := of_decide_eq_true zz1
         have q12 : x3_2 < (a0.size : Int) := of_decide_eq_true zz1
         have hx12 := bt_at a0 x3_2
         replace p12 := eq_true p12; replace q12 := eq_true q12
         go_wp2_with (first | ((with_reducible refine gate_callee (f := 46) rfl ?_); refine goesL_ (some 31) rfl rfl Try.func46 (by kernel_rfl) rfl #[.int .u8 (bt a0 x3_2)] rfl zz2 ?_; (with_reducible refine (templeref1_letter.calls (bt a0 x3_2) true _ A13.out).mono ?_); rintro e w' ⟨rfl, ⟨nd, rfl⟩⟩; refine ⟨_, rfl, ?_⟩))
         go_roundg k2
         case measure => have := HJ1.out; have := HK2.out; omega
         case rel => exact ⟨(wrap64 (x3_2 + 1)), zz0, H', ⟨by have := HJ1.out; have := HK2.out; omega⟩, by repeat (first | exact Drawn0.refl _ | apply Drawn0.step)⟩
        ·replace c14 := Bool.eq_false_iff.mpr c14
         subst c14
         have H1 : ((templeref1_digit.f (bt a0 x3_2)).bind fun t197 => (if t197 = true then (templeref1_nameMay.l0 k2 a0 (wrap64 (x3_2 + 1))) else (some false))) = some r := by rw [if_neg (show ¬ (false = true) by decide)] at H; exact H
         clear H; have H := H1; clear H1; replace H := Option.bind_eq_some_iff.mp H; obtain ⟨t197, A160, H⟩ := H
         replace H : (if t197 = true then (templeref1_nameMay.l0 k2 a0 (wrap64 (x3_2 + 1))) else (some false)) = some r := H
         have A16 := Aside0.mk A160; clear A160
         by_cases c17 : t197 = true
         ·subst c17
          have H1 : (templeref1_nameMay.l0 k2 a0 (wrap64 (x3_2 + 1))) = some r := by rw [if_pos rfl] at H; exact H
          clear H; have H := H1; clear H1; have H' := Aside0.mk H; clear H
          have p12 : 0 ≤ (x3_2 : Int) := of_decide_eq_true zz1
          have q12 : x3_2 < (a0.size : Int) := of_decide_eq_true zz1
          have hx12 := bt_at a0 x3_2
          replace p12 := eq_true p12; replace q12 := eq_true q12
          go_wp2_with (first | ((with_reducible refine gate_callee (f := 46) rfl ?_); refine goesL_ (some 31) rfl rfl Try.func46 (by kernel_rfl) rfl #[.int .u8 (bt a0 x3_2)] rfl zz2 ?_; (with_reducible refine (templeref1_letter.calls (bt a0 x3_2) false _ A13.out).mono ?_); rintro e w' ⟨rfl, ⟨nd, rfl⟩⟩; refine ⟨_, rfl, ?_⟩; have p15 : 0 ≤ (x3_2 : Int) := of_decide_eq_true zz1; have q15 : x3_2 < (a0.size : Int) := of_decide_eq_true zz1; have hx15 := bt_at a0 x3_2; replace p15 := eq_true p15; replace q15 := eq_true q15) | (go_at_call 47; (with_reducible refine (templeref1_digit.calls (bt a0 x3_2) true _ A16.out).mono ?_); rintro e w' ⟨rfl, ⟨nd, rfl⟩⟩))
          go_roundg k2
          case measure => have := HJ1.out; have := HK2.out; omega
          case rel => exact ⟨(wrap64 (x3_2 + 1)), zz0, H', ⟨by have := HJ1.out; have := HK2.out; omega⟩, by repeat (first | exact Drawn0.refl _ | apply Drawn0.step)⟩
         ·replace c17 := Bool.eq_false_iff.mpr c17
          subst c17
          have H1 : (some false) = some r := by rw [if_neg (show ¬ (false = true) by decide)] at H; exact H
          clear H; have H := H1; clear H1; obtain rfl := Option.some.inj H
          have p12 : 0 ≤ (x3_2 : Int) := of_decide_eq_true zz1
          have q12 : x3_2 < (a0.size : Int) := of_decide_eq_true zz1
          have hx12 := bt_at a0 x3_2
          replace p12 := eq_true p12; replace q12 := eq_true q12
          go_wp2_with (first | ((with_reducible refine gate_callee (f := 46) rfl ?_); refine goesL_ (some 31) rfl rfl Try.func46 (by kernel_rfl) rfl #[.int .u8 (bt a0 x3_2)] rfl zz2 ?_; (with_reducible refine (templeref1_letter.calls (bt a0 x3_2) false _ A13.out).mono ?_); rintro e w' ⟨rfl, ⟨nd, rfl⟩⟩; refine ⟨_, rfl, ?_⟩; have p15 : 0 ≤ (x3_2 : Int) := of_decide_eq_true zz1; have q15 : x3_2 < (a0.size : Int) := of_decide_eq_true zz1; have hx15 := bt_at a0 x3_2; replace p15 := eq_true p15; replace q15 := eq_true q15) | (go_at_call 47; (with_reducible refine (templeref1_digit.calls (bt a0 x3_2) false _ A16.out).mono ?_); rintro e w' ⟨rfl, ⟨nd, rfl⟩⟩))
          go_ret
          exact ⟨by first | rfl | (simp; done) | (simp [*]; done), by repeat (first | exact Drawn0.refl _ | apply Drawn0.step)⟩
       ·rw [if_neg c11] at H
        exact absurd H (by simp)
      ·rw [if_neg c10] at H; have c10b0 : decide (x3_2 < (a0.size : Int)) = false := decide_eq_false c10; clear c10; obtain rfl := Option.some.inj H; go_wp2; go_ret
       exact ⟨by first | rfl | (simp; done) | (simp [*]; done), by repeat (first | exact Drawn0.refl _ | apply Drawn0.step)⟩

end Go.Proofs.Ytdjnpgigdchfkaa.PBS
