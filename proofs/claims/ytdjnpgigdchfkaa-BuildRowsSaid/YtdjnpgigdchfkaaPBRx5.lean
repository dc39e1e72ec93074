-- written by a program of the session's (wip/myprint.py) out of the translation
import Derived.Test.YtdjnpgigdchfkaaPBRx0
import Derived.Test.YtdjnpgigdchfkaaPBRx2
import Derived.Test.YtdjnpgigdchfkaaPBRx4
namespace Go.Proofs.Ytdjnpgigdchfkaa.PBR
open Go.RowKit Go.Proofs.YtdjnpgigdchfkaaW.PrintWords Go.Proofs.YtdjnpgigdchfkaaW.PrintLast Go.Proofs.YtdjnpgigdchfkaaW.PrintMore
attribute [local go_sem] max2_int min2_int max_two min_two max_three min_three max_four min_four   -- for this text's walks alone
set_option linter.unusedVariables false
set_option linter.unusedSimpArgs false

/-! ### gram_Build: function 11 -/
def numF (m : MapP) (i : Int) : List S45 → MapP × ByteArray × Bool
 | [] => (m, ⟨#[]⟩, true)
 | d :: ds => if (mfind m d.f0).isSome then ([], d.f0, false) else numF (m ++ [(d.f0, i)]) (i + 1) ds
set_option maxHeartbeats 8000000 in
set_option maxRecDepth 100000 in
theorem numbers_calls (A0 : Option Addr) (c0 : Nat) (l0 : List (S45)) (m : MapP) (s : ByteArray) (b : Bool) (w : World) (hr0 : Kd.C k45 w A0 l0.length l0) (hl : l0.length < 4611686018427387904) (h : numF [] 0 l0 = (m, s, b)) :
  Calls Try.prog 23 #[.slice A0 l0.length c0] w fun e w' => ∃ o : Option Nat, e = .returned (.tuple #[.map o, .string s, .bool b]) ∧ (b = true → ∃ g, o = some g ∧ MapIs w' g (mapVals m)) ∧ Below w.heap.size w w' := by
 have HR := Aside0.mk hr0
 clear hr0
 obtain ⟨i0, hi, hz0, hz1, hz2⟩ := info_parts (show (Try.prog.info? 3).map (fun i => (i.zero, i.size, i.bytes)) = some (some (.int .i64 0), 1, 8) from by kernel_rfl)
 have hm : ∀ W : World, (Instr.makeMap 69 none).run Try.prog W = .ok (.map (some W.heap.size)) (W.alloc (.map #[] 0)) := fun W => by rfl
 have HH := Aside0.mk h
 clear h
 go_enter Try.func23, Try.ntmps23
 go_wp2
 go_loopw [13] (fun v wr => ∃ (i : Nat) (mi : MapP), i ≤ l0.length ∧ v = .int .i64 i ∧ Aside0 (MapIs wr w.heap.size (mapVals mi)) ∧ Aside0 (numF mi (i : Int) (l0.drop i) = (m, s, b)) ∧ Aside0 (Below w.heap.size w wr)) (fun v _ => l0.length - (intOf v).toNat)
 case atStart => exact ⟨0, [], by omega, rfl, ⟨⟨#[], 0, blk_new _ _, rfl⟩⟩, ⟨by simpa using HH.out⟩, ⟨(Below.refl _ _).alloc (Nat.le_refl _) _⟩⟩
 case round =>
  obtain ⟨i, mi, hi', rfl, hM, hN, hb⟩ := hrel
  clear HH
  by_cases hlt : i < l0.length
  ·obtain ⟨ad, A1, c1, eA, hx0, hx1, _⟩ := at_T45 (Kd.C_below HR.out hb.out) (i : Int) (by omega) (by omega)
   subst eA
   have hN2 := hN.out
   rw [List.drop_eq_getElem_cons hlt] at hN2
   have hd : rd_T45 l0 (i : Int) = l0[i] := by
    unfold rd_T45
    rw [Int.toNat_natCast, List.getD_eq_getElem?_getD, List.getElem?_eq_getElem hlt]
    rfl
   unfold numF at hN2
   rw [← hd] at hN2
   have HN2 := Aside0.mk hN2
   clear hN2 hN hd
   rw [Int.toNat_natCast] at hx0 hx1
   generalize rd_T45 l0 (i : Int) = x at *
   have HSZ := Aside0.mk hb.out.size
   have hwl : w.heap.size < wr.heap.size := mapIs_lt hM.out
   cases hs : (mfind mi x.f0).isSome with
   | true =>
    have HN3 := Aside0.mk (show ([], x.f0, false) = (m, s, b) by have q := HN2.out; rw [hs, if_pos rfl] at q; exact q)
    clear HN2
    go_wp2_with (first
     | ((with_reducible refine gate_dst (N := 7) rfl ?_); refine box_event ?hg (N := 7) ?hd (cs := #[.string ⟨#[]⟩, .slice none 0 0]) (t := 45) ?hr ?_; (case hd => rfl); (case hg => rfl); (case hr => first | (go_simp; done) | (go_simp; rfl)); intro gb hg wl hbox hbl; have hne : w.heap.size ≠ gb := (by rw [hg]; exact Nat.ne_of_lt hwl); have hcz0 : wl.cell? ⟨gb, 0, none⟩ = some (.string ⟨#[]⟩) := (blk_cell hbox 0).trans rfl; have hcz1 : wl.cell? ⟨gb, 1, none⟩ = some (.slice none 0 0) := (blk_cell hbox 1).trans rfl; have hfz0 := blk_frozen hbox 0; have hfz1 := blk_frozen hbox 1; have hlk := look_int_ok (P := Try.prog) (w := (wl.setCell ⟨gb, 0, none⟩ (.string x.f0)).setCell ⟨gb, 1, none⟩ (.slice A1 x.f1.length c1)) Try.underlying69 Try.underlying9 hi hz0 (mapIs_far (mapIs_far (mapIs_step hM.out hbl) hne _) hne _) x.f0; rw [hs] at hlk; have HBL := Aside0.mk hbl; have HBX := Aside0.mk hbox; have HG := Aside0.mk hg; clear hbl hbox hg))
    have q := HN3.out
    simp only [Prod.mk.injEq] at q
    obtain ⟨rfl, rfl, rfl⟩ := q
    have hge : w.heap.size ≤ gb := by rw [HG.out]; exact Nat.le_of_lt hwl
    go_region
    all_goals (try go_wp2)
    all_goals go_ret3
    all_goals exact ⟨⟨_, rfl⟩, ((((hb.out.trans (HBL.out.mono HSZ.out)).setCell (p := ⟨gb, 0, none⟩) hge _).setCell (p := ⟨gb, 1, none⟩) hge _).drew)⟩
   | false =>
    have HN3 := Aside0.mk (show numF (mi ++ [(x.f0, (i : Int))]) ((i : Int) + 1) (l0.drop (i + 1)) = (m, s, b) by have q := HN2.out; rw [hs] at q; exact q)
    clear HN2
    have hnone : assoc (mapVals mi) x.f0 = none := by
     rw [assoc_vals]
     cases hq : mfind mi x.f0 with
     | none => rfl
     | some _ => rw [hq] at hs; cases hs
    go_wp2_with (first
     | ((with_reducible refine gate_dst (N := 7) rfl ?_); refine box_event ?hg (N := 7) ?hd (cs := #[.string ⟨#[]⟩, .slice none 0 0]) (t := 45) ?hr ?_; (case hd => rfl); (case hg => rfl); (case hr => first | (go_simp; done) | (go_simp; rfl)); intro gb hg wl hbox hbl; have hne : w.heap.size ≠ gb := (by rw [hg]; exact Nat.ne_of_lt hwl); have hcz0 : wl.cell? ⟨gb, 0, none⟩ = some (.string ⟨#[]⟩) := (blk_cell hbox 0).trans rfl; have hcz1 : wl.cell? ⟨gb, 1, none⟩ = some (.slice none 0 0) := (blk_cell hbox 1).trans rfl; have hfz0 := blk_frozen hbox 0; have hfz1 := blk_frozen hbox 1; have hlk := look_int_ok (P := Try.prog) (w := (wl.setCell ⟨gb, 0, none⟩ (.string x.f0)).setCell ⟨gb, 1, none⟩ (.slice A1 x.f1.length c1)) Try.underlying69 Try.underlying9 hi hz0 (mapIs_far (mapIs_far (mapIs_step hM.out hbl) hne _) hne _) x.f0; rw [hs] at hlk; obtain ⟨w2, hw2, hM2, hB2, _⟩ := run_update_str (P := Try.prog) (w := (wl.setCell ⟨gb, 0, none⟩ (.string x.f0)).setCell ⟨gb, 1, none⟩ (.slice A1 x.f1.length c1)) Try.underlying69 Try.underlying9 (mapIs_far (mapIs_far (mapIs_step hM.out hbl) hne _) hne _) x.f0 (.int .i64 (i : Int)) hnone; have HM2 := Aside0.mk hM2; have HB2 := Aside0.mk hB2; clear hM2 hB2; have HBL := Aside0.mk hbl; have HBX := Aside0.mk hbox; have HG := Aside0.mk hg; clear hbl hbox hg))
    have hge : w.heap.size ≤ gb := by rw [HG.out]; exact Nat.le_of_lt hwl
    go_roundw
    case rel => exact ⟨i + 1, mi ++ [(x.f0, (i : Int))], by omega, by go_num, ⟨by rw [← mapVals_snoc]; exact HM2.out⟩, ⟨by have q := HN3.out; push_cast; exact q⟩, ⟨(((hb.out.trans (HBL.out.mono HSZ.out)).setCell (p := ⟨gb, 0, none⟩) hge _).setCell (p := ⟨gb, 1, none⟩) hge _).trans (HB2.out _ (Nat.le_refl _))⟩⟩
    case measure => simp [intOf]; omega
  ·obtain rfl : i = l0.length := by omega
   rw [List.drop_length] at hN
   have hN2 := hN.out
   unfold numF at hN2
   simp only [Prod.mk.injEq] at hN2
   obtain ⟨rfl, rfl, rfl⟩ := hN2
   clear hN
   go_wp2
   go_ret3
   exact ⟨_, rfl, ⟨_, rfl, hM.out⟩, hb.out⟩
structure BF (w W : World) (g1 g2 g5 gm : Nat) (a0 a1 : Value) (m : MapP) : Prop where
 b1 : W.heap[g1]? = some (.cells #[a0, a1] 25 (0, 0))
 b2 : W.heap[g2]? = some (.cells #[.int .i64 0, .slice none 0 0, .slice none 0 0] 28 (0, 0))
 b5 : W.heap[g5]? = some (.cells #[.map (some gm)] 69 (0, 0))
 hm : MapIs W gm (mapVals m)
 hb : Below w.heap.size w W
 h1 : w.heap.size ≤ g1
 h2 : w.heap.size ≤ g2
theorem BF.step {w W W1 : World} {g1 g2 g5 gm : Nat} {a0 a1 : Value} {m : MapP} (h : BF w W g1 g2 g5 gm a0 a1 m) (k : Below W.heap.size W W1) : BF w W1 g1 g2 g5 gm a0 a1 m :=
 ⟨blk_below h.b1 k, blk_below h.b2 k, blk_below h.b5 k, mapIs_step h.hm k, below_step h.hb k, h.h1, h.h2⟩
theorem endz {W : World} {g2 : Nat} (b2 : W.heap[g2]? = some (.cells #[.int .i64 0, .slice none 0 0, .slice none 0 0] 28 (0, 0))) : (((W.setCell ⟨g2, 0, none⟩ (.int .i64 0)).setCell ⟨g2, 1, none⟩ (.slice none 0 0)).setCell ⟨g2, 2, none⟩ (.slice none 0 0)).heap[g2]? = some (.cells #[.int .i64 0, .slice none 0 0, .slice none 0 0] 28 (0, 0)) := blk_put (blk_put (blk_put b2 0 _ rfl) 1 _ rfl) 2 _ rfl
theorem mfind_some {m : MapP} {s : ByteArray} {n : Int} (h : mfind m s = some n) : (mfind m s).isSome = true := by rw [h]; rfl
def gram_Build.f (k : Nat) (l0_0 : List ByteArray) (l0_1 : List (S45)) : Option (Int × List ByteArray × (List (S51)) × ByteArray × Int) :=
 if l0_1.length < 4611686018427387904 then
  (if (numF [] 0 l0_1).2.2 = false then some (0, [], [], (numF [] 0 l0_1).2.1, 401)
  else if l0_0.length ≠ 1 then some (0, [], [], ⟨#[]⟩, 400)
  else if mfind (numF [] 0 l0_1).1 (rdOf ByteArray.empty l0_0 0) = none then some (0, [], [], rdOf ByteArray.empty l0_0 0, 402)
  else (gram_items.f k l0_1 (numF [] 0 l0_1).1).bind fun t => if t.2.2 = false then some (0, [], [], t.2.1, 402)
  else (gram_items2.f k l0_1 (numF [] 0 l0_1).1).bind fun u => if u.2.2 = false then (if 0 ≤ u.1 ∧ u.1 < (l0_1.length : Int) then some (0, [], [], (rd_T45 l0_1 u.1).f0, 403) else none)
  else (gram_made.f k l0_0 l0_1 (numF [] 0 l0_1).1).bind fun g => if mayB g.1 g.2.1 g.2.2 = true then some (g.1, g.2.1, g.2.2, ⟨#[]⟩, 0) else some (0, [], [], ⟨#[]⟩, 404))
 else none
theorem gram_Build.mono : ∀ a0 a1 k, LeO (gram_Build.f k a0 a1) (gram_Build.f (k + 1) a0 a1) := by
 intro a0 a1 k
 unfold gram_Build.f
 refine LeO.ite (LeO.ite (LeO.refl _) (LeO.ite (LeO.refl _) (LeO.ite (LeO.refl _) (LeO.bind (gram_items.mono _ _ _) (fun _ => LeO.ite (LeO.refl _) (LeO.bind (gram_items2.mono _ _ _) (fun _ => LeO.ite (LeO.refl _) (LeO.bind (gram_made.mono _ _ _ _) (fun _ => LeO.refl _))))))))) (LeO.refl _)
set_option maxHeartbeats 8000000 in
set_option maxRecDepth 100000 in
theorem gram_Build.calls (k : Nat) (A0_0 : Option Addr) (c0_0 : Nat) (l0_0 : List ByteArray) (A0_1 : Option Addr) (c0_1 : Nat) (l0_1 : List (S45)) (r1 : Int) (r2 : List ByteArray) (r3 : List (S51)) (r4 : ByteArray) (r5 : Int) (w : World) (hr0_0 : Kd.C Kd.string w A0_0 l0_0.length l0_0) (hc0_0 : l0_0.length ≤ c0_0) (hr0_1 : Kd.C k45 w A0_1 l0_1.length l0_1) (hc0_1 : l0_1.length ≤ c0_1) (h : gram_Build.f k l0_0 l0_1 = some (r1, r2, r3, r4, r5)) :
  Calls Try.prog 11 #[.agg #[.slice A0_0 l0_0.length c0_0, .slice A0_1 l0_1.length c0_1]] w fun e w' => ∃ v1_ v2_ : Value, e = .returned (.tuple #[.agg #[.int .i64 r1, v1_, v2_], .string r4, .int .i64 r5]) ∧ Kd.R Kd.string 9 w' w.heap.size (fun _ => True) v1_ r2 ∧ Kd.R k51 51 w' w.heap.size (fun _ => True) v2_ r3 ∧ Below w.heap.size w w' := by
 unfold gram_Build.f at h
 by_cases hl : l0_1.length < 4611686018427387904
 case neg =>
  rw [if_neg hl] at h
  cases h
 rw [if_pos hl] at h
 obtain ⟨m, s, b, hn⟩ : ∃ m s b, numF [] 0 l0_1 = (m, s, b) := ⟨_, _, _, rfl⟩
 rw [hn] at h
 dsimp only at h
 obtain ⟨i0, hi, hz0, hz1, hz2⟩ := info_parts (show (Try.prog.info? 3).map (fun i => (i.zero, i.size, i.bytes)) = some (some (.int .i64 0), 1, 8) from by kernel_rfl)
 have hmf : ∀ (fn : Fn) (first cap : Array Value) (w : World), (Instr.makeFunc fn first cap).run Try.prog w = .ok (.func fn first cap) w := fun _ _ _ _ => rfl
 have HR0 := Aside0.mk hr0_0
 have HR1 := Aside0.mk hr0_1
 have HN := Aside0.mk hn
 have H := Aside0.mk h
 clear hr0_0 hr0_1 hn h
 have hu28 := Try.underlying28
 cases b with
 | false =>
  have h := H.out
  rw [if_pos rfl] at h
  clear H
  simp only [Option.some.injEq, Prod.mk.injEq] at h
  obtain ⟨rfl, rfl, rfl, rfl, rfl⟩ := h
  go_enter Try.func11, Try.ntmps11
  go_wp2_with (first
   | ((with_reducible refine gate_dst (N := 5) rfl ?_); refine box_event ?hg (N := 5) ?hd (cs := #[.map none]) (t := 69) ?hr ?_; (case hd => rfl); (case hg => rfl); (case hr => first | (go_simp; done) | (go_simp; rfl)); intro g5 hg5 wc BK5 HBc; have B1c := Aside0.mk (blk_below (blk_below hb1b.out HB1.out) HBc); have B2c := Aside0.mk (blk_below (blk_below hb2.out HB1.out) HBc); have B5c := Aside0.mk BK5; have e50 : wc.cell? ⟨g5, 0, none⟩ = some (.map none) := (blk_cell BK5 0).trans rfl; have f50 := blk_frozen BK5 0; have e10 : wc.cell? ⟨g1, 0, none⟩ = some (.slice A0_0 l0_0.length c0_0) := (blk_cell B1c.out 0).trans rfl; have e11 : wc.cell? ⟨g1, 1, none⟩ = some (.slice A0_1 l0_1.length c0_1) := (blk_cell B1c.out 1).trans rfl; have e20 : wc.cell? ⟨g2, 0, none⟩ = some (.int .i64 0) := (blk_cell B2c.out 0).trans rfl; have e21 : wc.cell? ⟨g2, 1, none⟩ = some (.slice none 0 0) := (blk_cell B2c.out 1).trans rfl; have e22 : wc.cell? ⟨g2, 2, none⟩ = some (.slice none 0 0) := (blk_cell B2c.out 2).trans rfl; have f20 := blk_frozen B2c.out 0; have f21 := blk_frozen B2c.out 1; have f22 := blk_frozen B2c.out 2; have n15 : g1 ≠ g5 := (by rw [hg5]; exact Nat.ne_of_lt (blk_lt (blk_below hb1b.out HB1.out))); have n25 : g2 ≠ g5 := (by rw [hg5]; exact Nat.ne_of_lt (blk_lt (blk_below hb2.out HB1.out))); have n51 := n15.symm; have n52 := n25.symm; have G5 := Aside0.mk (show w1.heap.size ≤ g5 from Nat.le_of_eq hg5.symm); have HBW := Aside0.mk (below_step (below_step hbb.out HB1.out) HBc); clear BK5 HBc hg5 d10 d11)
   | ((with_reducible refine gate_dst (N := 1) rfl ?_); refine box_event ?hg (N := 1) ?hd (cs := #[.slice A0_0 l0_0.length c0_0, .slice A0_1 l0_1.length c0_1]) (t := 25) ?hr ?_; (case hd => rfl); (case hg => rfl); (case hr => first | (go_simp; done) | (go_simp; rfl)); intro g1 hg1 wa BK1 HBa; have c10 : wa.cell? ⟨g1, 0, none⟩ = some (.slice A0_0 l0_0.length c0_0) := (blk_cell BK1 0).trans rfl; have c11 : wa.cell? ⟨g1, 1, none⟩ = some (.slice A0_1 l0_1.length c0_1) := (blk_cell BK1 1).trans rfl; have GE1 := Aside0.mk (Nat.le_of_eq hg1.symm); have hb1 := Aside0.mk BK1; have hba := Aside0.mk HBa; clear BK1 HBa hg1)
   | ((with_reducible refine gate_dst (N := 2) rfl ?_); refine box_event ?hg (N := 2) ?hd (cs := #[.int .i64 0, .slice none 0 0, .slice none 0 0]) (t := 28) ?hr ?_; (case hd => rfl); (case hg => rfl); (case hr => first | (go_simp; done) | (go_simp; rfl)); intro g2 hg2 wb BK2 HBb; have d10 : wb.cell? ⟨g1, 0, none⟩ = some (.slice A0_0 l0_0.length c0_0) := (blk_cell (blk_below hb1.out HBb) 0).trans rfl; have d11 : wb.cell? ⟨g1, 1, none⟩ = some (.slice A0_1 l0_1.length c0_1) := (blk_cell (blk_below hb1.out HBb) 1).trans rfl; have GE2 := Aside0.mk (show w.heap.size ≤ g2 from hg2 ▸ hba.out.size); have hb2 := Aside0.mk BK2; have hbb := Aside0.mk (below_step hba.out HBb); have hb1b := Aside0.mk (blk_below hb1.out HBb); clear BK2 HBb hg2 c10 c11)
   | (go_at_call 23; refine (numbers_calls A0_1 c0_1 l0_1 m s false wb (Kd.C_below HR1.out hbb.out) hl HN.out).mono ?_; rintro e w1 ⟨om, rfl, hm, hb1⟩; have HB1 := Aside0.mk hb1; clear hm hb1))
  refine bodyPost_ret (results_ctt rfl _ _ g2 28 #[.int .i64 0, .slice none 0 0, .slice none 0 0] (0, 0) _ rfl (endz (blk_far B2c.out n25 _)) hu28 rfl (by kernel_rfl)) rfl ?_
  exact ⟨_, _, rfl, Kd.R_nil _ _ _ _ _, Kd.R_nil _ _ _ _ _, ((((((HBW.out).setCell (p := ⟨g5, 0, none⟩) (Nat.le_trans (below_size (below_step hbb.out HB1.out)) G5.out) _)).setCell (p := ⟨g2, 0, none⟩) GE2.out _).setCell (p := ⟨g2, 1, none⟩) GE2.out _).setCell (p := ⟨g2, 2, none⟩) GE2.out _)⟩
 | true =>
  have h := H.out
  rw [if_neg (by decide)] at h
  clear H
  by_cases hs1 : l0_0.length ≠ 1
  ·rw [if_pos hs1] at h
   have c1b : (((l0_0.length : Nat) : Int) != 1) = true := by simp; omega
   simp only [Option.some.injEq, Prod.mk.injEq] at h
   obtain ⟨rfl, rfl, rfl, rfl, rfl⟩ := h
   go_enter Try.func11, Try.ntmps11
   go_wp2_with (first
    | ((with_reducible refine gate_dst (N := 5) rfl ?_); refine box_event ?hg (N := 5) ?hd (cs := #[.map none]) (t := 69) ?hr ?_; (case hd => rfl); (case hg => rfl); (case hr => first | (go_simp; done) | (go_simp; rfl)); intro g5 hg5 wc BK5 HBc; have B1c := Aside0.mk (blk_below (blk_below hb1b.out HB1.out) HBc); have B2c := Aside0.mk (blk_below (blk_below hb2.out HB1.out) HBc); have B5c := Aside0.mk BK5; have HMc := Aside0.mk (mapIs_step HM1.out HBc); have NM5 := Aside0.mk (show gm ≠ g5 from (by rw [hg5]; exact Nat.ne_of_lt (mapIs_lt HM1.out))); have e50 : wc.cell? ⟨g5, 0, none⟩ = some (.map none) := (blk_cell BK5 0).trans rfl; have f50 := blk_frozen BK5 0; have e10 : wc.cell? ⟨g1, 0, none⟩ = some (.slice A0_0 l0_0.length c0_0) := (blk_cell B1c.out 0).trans rfl; have e11 : wc.cell? ⟨g1, 1, none⟩ = some (.slice A0_1 l0_1.length c0_1) := (blk_cell B1c.out 1).trans rfl; have e20 : wc.cell? ⟨g2, 0, none⟩ = some (.int .i64 0) := (blk_cell B2c.out 0).trans rfl; have e21 : wc.cell? ⟨g2, 1, none⟩ = some (.slice none 0 0) := (blk_cell B2c.out 1).trans rfl; have e22 : wc.cell? ⟨g2, 2, none⟩ = some (.slice none 0 0) := (blk_cell B2c.out 2).trans rfl; have f20 := blk_frozen B2c.out 0; have f21 := blk_frozen B2c.out 1; have f22 := blk_frozen B2c.out 2; have n15 : g1 ≠ g5 := (by rw [hg5]; exact Nat.ne_of_lt (blk_lt (blk_below hb1b.out HB1.out))); have n25 : g2 ≠ g5 := (by rw [hg5]; exact Nat.ne_of_lt (blk_lt (blk_below hb2.out HB1.out))); have n51 := n15.symm; have n52 := n25.symm; have G5 := Aside0.mk (show w1.heap.size ≤ g5 from Nat.le_of_eq hg5.symm); have HBW := Aside0.mk (below_step (below_step hbb.out HB1.out) HBc); clear BK5 HBc hg5 d10 d11)
    | ((with_reducible refine gate_dst (N := 1) rfl ?_); refine box_event ?hg (N := 1) ?hd (cs := #[.slice A0_0 l0_0.length c0_0, .slice A0_1 l0_1.length c0_1]) (t := 25) ?hr ?_; (case hd => rfl); (case hg => rfl); (case hr => first | (go_simp; done) | (go_simp; rfl)); intro g1 hg1 wa BK1 HBa; have c10 : wa.cell? ⟨g1, 0, none⟩ = some (.slice A0_0 l0_0.length c0_0) := (blk_cell BK1 0).trans rfl; have c11 : wa.cell? ⟨g1, 1, none⟩ = some (.slice A0_1 l0_1.length c0_1) := (blk_cell BK1 1).trans rfl; have GE1 := Aside0.mk (Nat.le_of_eq hg1.symm); have hb1 := Aside0.mk BK1; have hba := Aside0.mk HBa; clear BK1 HBa hg1)
    | ((with_reducible refine gate_dst (N := 2) rfl ?_); refine box_event ?hg (N := 2) ?hd (cs := #[.int .i64 0, .slice none 0 0, .slice none 0 0]) (t := 28) ?hr ?_; (case hd => rfl); (case hg => rfl); (case hr => first | (go_simp; done) | (go_simp; rfl)); intro g2 hg2 wb BK2 HBb; have d10 : wb.cell? ⟨g1, 0, none⟩ = some (.slice A0_0 l0_0.length c0_0) := (blk_cell (blk_below hb1.out HBb) 0).trans rfl; have d11 : wb.cell? ⟨g1, 1, none⟩ = some (.slice A0_1 l0_1.length c0_1) := (blk_cell (blk_below hb1.out HBb) 1).trans rfl; have GE2 := Aside0.mk (show w.heap.size ≤ g2 from hg2 ▸ hba.out.size); have hb2 := Aside0.mk BK2; have hbb := Aside0.mk (below_step hba.out HBb); have hb1b := Aside0.mk (blk_below hb1.out HBb); clear BK2 HBb hg2 c10 c11)
    | (go_at_call 23; refine (numbers_calls A0_1 c0_1 l0_1 m s true wb (Kd.C_below HR1.out hbb.out) hl HN.out).mono ?_; rintro e w1 ⟨om, rfl, hm, hb1⟩; obtain ⟨gm, rfl, hM1⟩ := hm rfl; have HB1 := Aside0.mk hb1; have HM1 := Aside0.mk hM1; clear hm hb1 hM1))
   refine bodyPost_ret (results_ctt rfl _ _ g2 28 #[.int .i64 0, .slice none 0 0, .slice none 0 0] (0, 0) _ rfl (endz (blk_far B2c.out n25 _)) hu28 rfl (by kernel_rfl)) rfl ?_
   exact ⟨_, _, rfl, Kd.R_nil _ _ _ _ _, Kd.R_nil _ _ _ _ _, ((((((HBW.out).setCell (p := ⟨g5, 0, none⟩) (Nat.le_trans (below_size (below_step hbb.out HB1.out)) G5.out) _)).setCell (p := ⟨g2, 0, none⟩) GE2.out _).setCell (p := ⟨g2, 1, none⟩) GE2.out _).setCell (p := ⟨g2, 2, none⟩) GE2.out _)⟩
  rw [if_neg hs1] at h
  have hs2 : l0_0.length = 1 := by omega
  have c1b : (((l0_0.length : Nat) : Int) != 1) = false := by rw [hs2]; rfl
  have H := Aside0.mk h
  clear h
  go_enter Try.func11, Try.ntmps11
  go_wp2_with (first
   | ((with_reducible refine gate_dst (N := 5) rfl ?_); refine box_event ?hg (N := 5) ?hd (cs := #[.map none]) (t := 69) ?hr ?_; (case hd => rfl); (case hg => rfl); (case hr => first | (go_simp; done) | (go_simp; rfl)); intro g5 hg5 wc BK5 HBc; have B1c := Aside0.mk (blk_below (blk_below hb1b.out HB1.out) HBc); have B2c := Aside0.mk (blk_below (blk_below hb2.out HB1.out) HBc); have B5c := Aside0.mk BK5; have HMc := Aside0.mk (mapIs_step HM1.out HBc); have NM5 := Aside0.mk (show gm ≠ g5 from (by rw [hg5]; exact Nat.ne_of_lt (mapIs_lt HM1.out))); have e50 : wc.cell? ⟨g5, 0, none⟩ = some (.map none) := (blk_cell BK5 0).trans rfl; have f50 := blk_frozen BK5 0; have e10 : wc.cell? ⟨g1, 0, none⟩ = some (.slice A0_0 l0_0.length c0_0) := (blk_cell B1c.out 0).trans rfl; have e11 : wc.cell? ⟨g1, 1, none⟩ = some (.slice A0_1 l0_1.length c0_1) := (blk_cell B1c.out 1).trans rfl; have e20 : wc.cell? ⟨g2, 0, none⟩ = some (.int .i64 0) := (blk_cell B2c.out 0).trans rfl; have e21 : wc.cell? ⟨g2, 1, none⟩ = some (.slice none 0 0) := (blk_cell B2c.out 1).trans rfl; have e22 : wc.cell? ⟨g2, 2, none⟩ = some (.slice none 0 0) := (blk_cell B2c.out 2).trans rfl; have f20 := blk_frozen B2c.out 0; have f21 := blk_frozen B2c.out 1; have f22 := blk_frozen B2c.out 2; have n15 : g1 ≠ g5 := (by rw [hg5]; exact Nat.ne_of_lt (blk_lt (blk_below hb1b.out HB1.out))); have n25 : g2 ≠ g5 := (by rw [hg5]; exact Nat.ne_of_lt (blk_lt (blk_below hb2.out HB1.out))); have n51 := n15.symm; have n52 := n25.symm; have G5 := Aside0.mk (show w1.heap.size ≤ g5 from Nat.le_of_eq hg5.symm); have HBW := Aside0.mk (below_step (below_step hbb.out HB1.out) HBc); clear BK5 HBc hg5 d10 d11)
   | ((with_reducible refine gate_dst (N := 1) rfl ?_); refine box_event ?hg (N := 1) ?hd (cs := #[.slice A0_0 l0_0.length c0_0, .slice A0_1 l0_1.length c0_1]) (t := 25) ?hr ?_; (case hd => rfl); (case hg => rfl); (case hr => first | (go_simp; done) | (go_simp; rfl)); intro g1 hg1 wa BK1 HBa; have c10 : wa.cell? ⟨g1, 0, none⟩ = some (.slice A0_0 l0_0.length c0_0) := (blk_cell BK1 0).trans rfl; have c11 : wa.cell? ⟨g1, 1, none⟩ = some (.slice A0_1 l0_1.length c0_1) := (blk_cell BK1 1).trans rfl; have GE1 := Aside0.mk (Nat.le_of_eq hg1.symm); have hb1 := Aside0.mk BK1; have hba := Aside0.mk HBa; clear BK1 HBa hg1)
   | ((with_reducible refine gate_dst (N := 2) rfl ?_); refine box_event ?hg (N := 2) ?hd (cs := #[.int .i64 0, .slice none 0 0, .slice none 0 0]) (t := 28) ?hr ?_; (case hd => rfl); (case hg => rfl); (case hr => first | (go_simp; done) | (go_simp; rfl)); intro g2 hg2 wb BK2 HBb; have d10 : wb.cell? ⟨g1, 0, none⟩ = some (.slice A0_0 l0_0.length c0_0) := (blk_cell (blk_below hb1.out HBb) 0).trans rfl; have d11 : wb.cell? ⟨g1, 1, none⟩ = some (.slice A0_1 l0_1.length c0_1) := (blk_cell (blk_below hb1.out HBb) 1).trans rfl; have GE2 := Aside0.mk (show w.heap.size ≤ g2 from hg2 ▸ hba.out.size); have hb2 := Aside0.mk BK2; have hbb := Aside0.mk (below_step hba.out HBb); have hb1b := Aside0.mk (blk_below hb1.out HBb); clear BK2 HBb hg2 c10 c11)
   | (go_at_call 23; refine (numbers_calls A0_1 c0_1 l0_1 m s true wb (Kd.C_below HR1.out hbb.out) hl HN.out).mono ?_; rintro e w1 ⟨om, rfl, hm, hb1⟩; obtain ⟨gm, rfl, hM1⟩ := hm rfl; have HB1 := Aside0.mk hb1; have HM1 := Aside0.mk hM1; clear hm hb1 hM1))
  have F : BF w (wc.setCell ⟨g5, 0, none⟩ (.map (some gm))) g1 g2 g5 gm (.slice A0_0 l0_0.length c0_0) (.slice A0_1 l0_1.length c0_1) m := ⟨blk_far B1c.out n15 _, blk_far B2c.out n25 _, blk_put B5c.out 0 _ rfl, mapIs_far HMc.out NM5.out _, ((HBW.out).setCell (p := ⟨g5, 0, none⟩) (Nat.le_trans (below_size (below_step hbb.out HB1.out)) G5.out) _), GE1.out, GE2.out⟩
  generalize wc.setCell ⟨g5, 0, none⟩ (.map (some gm)) = wd at F ⊢
  clear e50 f50 e10 e11 e20 e21 e22 f20 f21 f22 B1c B2c B5c HMc NM5 G5 HBW HB1 HM1 hb1b hbb hb2 hba hb1
  have HF0 := Aside0.mk F
  have F1 : BF w wd.drew g1 g2 g5 gm (.slice A0_0 l0_0.length c0_0) (.slice A0_1 l0_1.length c0_1) m := F.step (below_drew (Below.refl _ _))
  have HF := Aside0.mk F1
  clear F F1
  have HD := Aside0.mk HN.out
  obtain ⟨ad0, es0, hy0⟩ := Kd.at_string HR0.out 0 (by omega) (by omega)
  cases es0
  rw [show ((0 : Int)).toNat = 0 from rfl, Addr.add_zero'] at hy0
  have hx0 := pw_cell_below HF0.out.hb hy0
  have na0 : ad0.block ≠ g2 := fun e_ => Nat.lt_irrefl _ (Nat.lt_of_lt_of_le (e_ ▸ World.block_lt_of_cell? w _ hy0) HF0.out.h2)
  have n12 : g1 ≠ g2 := blk_ne HF0.out.b1 HF0.out.b2 (by decide)
  have n21 := n12.symm
  clear hy0
  have q10 : wd.cell? ⟨g1, 0, none⟩ = some (.slice (some ad0) l0_0.length c0_0) := (blk_cell HF0.out.b1 0).trans rfl
  have q11 : wd.cell? ⟨g1, 1, none⟩ = some (.slice A0_1 l0_1.length c0_1) := (blk_cell HF0.out.b1 1).trans rfl
  have q50 : wd.cell? ⟨g5, 0, none⟩ = some (.map (some gm)) := (blk_cell HF0.out.b5 0).trans rfl
  have q20 : wd.cell? ⟨g2, 0, none⟩ = some (.int .i64 0) := (blk_cell HF0.out.b2 0).trans rfl
  have q21 : wd.cell? ⟨g2, 1, none⟩ = some (.slice none 0 0) := (blk_cell HF0.out.b2 1).trans rfl
  have q22 : wd.cell? ⟨g2, 2, none⟩ = some (.slice none 0 0) := (blk_cell HF0.out.b2 2).trans rfl
  have qf0 := blk_frozen HF0.out.b2 0
  have qf1 := blk_frozen HF0.out.b2 1
  have qf2 := blk_frozen HF0.out.b2 2
  have hlk := look_int_ok (P := Try.prog) (w := wd.drew) Try.underlying69 Try.underlying9 hi hz0 HF.out.hm (rdOf ByteArray.empty l0_0 0)
  have qi0 : (0 < l0_0.length) = True := eq_true (by omega)
  cases hq : mfind m (rdOf ByteArray.empty l0_0 0) with
  | none =>
   rw [hq] at hlk
   have h := H.out
   rw [if_pos hq] at h
   clear H
   simp only [Option.some.injEq, Prod.mk.injEq] at h
   obtain ⟨rfl, rfl, rfl, rfl, rfl⟩ := h
   have hx0s := (cell_far (a := ad0) (p := ⟨g2, 2, none⟩) na0 (.slice none 0 0)).trans ((cell_far (a := ad0) (p := ⟨g2, 1, none⟩) na0 (.slice none 0 0)).trans ((cell_far (a := ad0) (p := ⟨g2, 0, none⟩) na0 (.int .i64 0)).trans hx0))
   go_region
   go_wp2
   go_region
   all_goals (try go_wp2)
   all_goals first
    | (refine bodyPost_ret (results_ctt rfl _ _ g2 28 #[.int .i64 0, .slice none 0 0, .slice none 0 0] (0, 0) _ rfl (blk_drew (blk_drew (endz HF0.out.b2))) hu28 rfl (by kernel_rfl)) rfl ?_; exact ⟨_, _, rfl, Kd.R_nil _ _ _ _ _, Kd.R_nil _ _ _ _ _, ((((HF0.out.hb).setCell (p := ⟨g2, 0, none⟩) HF0.out.h2 _).setCell (p := ⟨g2, 1, none⟩) HF0.out.h2 _).setCell (p := ⟨g2, 2, none⟩) HF0.out.h2 _).drew.drew⟩)
  | some n0 =>
   rw [hq] at hlk
   have h := H.out
   rw [if_neg (by rw [hq]; exact fun h_ => by cases h_)] at h
   clear H hq
   obtain ⟨t, ht, h⟩ := Option.bind_eq_some_iff.1 h
   obtain ⟨t1, t2, t3⟩ := t
   dsimp only at h
   have HT := Aside0.mk ht
   have H := Aside0.mk h
   clear ht h
   cases t3 with
   | false =>
    have h := H.out
    rw [if_pos rfl] at h
    clear H
    simp only [Option.some.injEq, Prod.mk.injEq] at h
    obtain ⟨rfl, rfl, rfl, rfl, rfl⟩ := h
    go_region
    go_wp2_with (first | (go_at_call 25; refine (gram_items.calls k gm g5 A0_1 c0_1 l0_1 m t1 t2 false wd.drew (Kd.C_below HR1.out HF.out.hb) hc0_1 HF.out.hm ((blk_cell HF.out.b5 0).trans rfl) HT.out).mono ?_; rintro e w2 ⟨vp, rfl, hp, hb2⟩; obtain ⟨pp, rfl, hpc⟩ := hp rfl; have HF2 := Aside0.mk (HF.out.step hb2); have HPC := Aside0.mk hpc; clear hp hb2 hpc))
    have nap : pp.block ≠ g2 := fun e_ => by
     have q := HPC.out
     rw [e_, blk_cell HF2.out.b2 (pp.off + 1)] at q
     rcases hk : pp.off with _ | _ | k <;> rw [hk] at q <;> simp at q
    have hp0 := HPC.out
    have hp0s := (cell_far (a := ⟨pp.block, pp.off + 1, none⟩) (p := ⟨g2, 2, none⟩) nap (.slice none 0 0)).trans ((cell_far (a := ⟨pp.block, pp.off + 1, none⟩) (p := ⟨g2, 1, none⟩) nap (.slice none 0 0)).trans ((cell_far (a := ⟨pp.block, pp.off + 1, none⟩) (p := ⟨g2, 0, none⟩) nap (.int .i64 0)).trans hp0))
    have q10 : w2.cell? ⟨g1, 0, none⟩ = some (.slice (some ad0) l0_0.length c0_0) := (blk_cell HF2.out.b1 0).trans rfl
    have q11 : w2.cell? ⟨g1, 1, none⟩ = some (.slice A0_1 l0_1.length c0_1) := (blk_cell HF2.out.b1 1).trans rfl
    have q50 : w2.cell? ⟨g5, 0, none⟩ = some (.map (some gm)) := (blk_cell HF2.out.b5 0).trans rfl
    have q20 : w2.cell? ⟨g2, 0, none⟩ = some (.int .i64 0) := (blk_cell HF2.out.b2 0).trans rfl
    have q21 : w2.cell? ⟨g2, 1, none⟩ = some (.slice none 0 0) := (blk_cell HF2.out.b2 1).trans rfl
    have q22 : w2.cell? ⟨g2, 2, none⟩ = some (.slice none 0 0) := (blk_cell HF2.out.b2 2).trans rfl
    have qf0 := blk_frozen HF2.out.b2 0
    have qf1 := blk_frozen HF2.out.b2 1
    have qf2 := blk_frozen HF2.out.b2 2
    go_region
    all_goals (try go_wp2)
    all_goals first
     | (refine bodyPost_ret (results_ctt rfl _ _ g2 28 #[.int .i64 0, .slice none 0 0, .slice none 0 0] (0, 0) _ rfl (blk_drew (endz HF2.out.b2)) hu28 rfl (by kernel_rfl)) rfl ?_; exact ⟨_, _, rfl, Kd.R_nil _ _ _ _ _, Kd.R_nil _ _ _ _ _, ((((HF2.out.hb).setCell (p := ⟨g2, 0, none⟩) HF2.out.h2 _).setCell (p := ⟨g2, 1, none⟩) HF2.out.h2 _).setCell (p := ⟨g2, 2, none⟩) HF2.out.h2 _).drew⟩)
   | true =>
    have h := H.out
    rw [if_neg (by decide)] at h
    clear H
    obtain ⟨u, hu, h⟩ := Option.bind_eq_some_iff.1 h
    obtain ⟨u1, u2, u3⟩ := u
    dsimp only at h
    have HU := Aside0.mk hu
    have H := Aside0.mk h
    clear hu h
    cases u3 with
    | false =>
     have h := H.out
     rw [if_pos rfl] at h
     clear H
     by_cases hu1 : 0 ≤ u1 ∧ u1 < (l0_1.length : Int)
     case neg =>
      rw [if_neg hu1] at h
      cases h
     rw [if_pos hu1] at h
     simp only [Option.some.injEq, Prod.mk.injEq] at h
     obtain ⟨rfl, rfl, rfl, rfl, rfl⟩ := h
     obtain ⟨adn, A1n, c1n, en, hy0, hy1, _⟩ := at_T45 HR1.out u1 hu1.1 hu1.2
     cases en
     have nan : (adn.add (u1.toNat * 2)).block ≠ g2 := fun e_ => Nat.lt_irrefl _ (Nat.lt_of_lt_of_le (e_ ▸ World.block_lt_of_cell? w _ hy0) HF0.out.h2)
     have p149 := eq_true hu1.1
     have q149 := eq_true hu1.2
     have HY := Aside0.mk hy0
     clear hy0 hy1 hu1
     go_region
     go_wp2_with (first | (go_at_call 25; refine (gram_items2.calls k gm g5 (some adn) c0_1 l0_1 m u1 u2 false w2 (Kd.C_below HR1.out HF2.out.hb) hc0_1 HF2.out.hm ((blk_cell HF2.out.b5 0).trans rfl) HU.out).mono ?_; rintro e w3 ⟨vp, rfl, hp, hb2⟩; have HF3 := Aside0.mk (HF2.out.step hb2); have r10 : w3.cell? ⟨g1, 0, none⟩ = some (.slice (some ad0) l0_0.length c0_0) := (blk_cell HF3.out.b1 0).trans rfl; have r11 : w3.cell? ⟨g1, 1, none⟩ = some (.slice (some adn) l0_1.length c0_1) := (blk_cell HF3.out.b1 1).trans rfl; have r50 : w3.cell? ⟨g5, 0, none⟩ = some (.map (some gm)) := (blk_cell HF3.out.b5 0).trans rfl; have r20 : w3.cell? ⟨g2, 0, none⟩ = some (.int .i64 0) := (blk_cell HF3.out.b2 0).trans rfl; have r21 : w3.cell? ⟨g2, 1, none⟩ = some (.slice none 0 0) := (blk_cell HF3.out.b2 1).trans rfl; have r22 : w3.cell? ⟨g2, 2, none⟩ = some (.slice none 0 0) := (blk_cell HF3.out.b2 2).trans rfl; have rf0 := blk_frozen HF3.out.b2 0; have rf1 := blk_frozen HF3.out.b2 1; have rf2 := blk_frozen HF3.out.b2 2; have hz0 := pw_cell_below HF3.out.hb HY.out; have hzs := (cell_far (a := adn.add (u1.toNat * 2)) (p := ⟨g2, 2, none⟩) nan (.slice none 0 0)).trans ((cell_far (a := adn.add (u1.toNat * 2)) (p := ⟨g2, 1, none⟩) nan (.slice none 0 0)).trans ((cell_far (a := adn.add (u1.toNat * 2)) (p := ⟨g2, 0, none⟩) nan (.int .i64 0)).trans hz0)); clear hp hb2) | (go_at_call 25; refine (gram_items.calls k gm g5 (some adn) c0_1 l0_1 m t1 t2 true wd.drew (Kd.C_below HR1.out HF.out.hb) hc0_1 HF.out.hm ((blk_cell HF.out.b5 0).trans rfl) HT.out).mono ?_; rintro e w2 ⟨vp, rfl, hp, hb2⟩; have HF2 := Aside0.mk (HF.out.step hb2); have s11 : w2.cell? ⟨g1, 1, none⟩ = some (.slice (some adn) l0_1.length c0_1) := (blk_cell HF2.out.b1 1).trans rfl; clear hp hb2))
     go_region
     all_goals (try go_wp2)
     all_goals first
      | (refine bodyPost_ret (results_ctt rfl _ _ g2 28 #[.int .i64 0, .slice none 0 0, .slice none 0 0] (0, 0) _ rfl (blk_drew (endz HF3.out.b2)) hu28 rfl (by kernel_rfl)) rfl ?_; exact ⟨_, _, rfl, Kd.R_nil _ _ _ _ _, Kd.R_nil _ _ _ _ _, ((((HF3.out.hb).setCell (p := ⟨g2, 0, none⟩) HF3.out.h2 _).setCell (p := ⟨g2, 1, none⟩) HF3.out.h2 _).setCell (p := ⟨g2, 2, none⟩) HF3.out.h2 _).drew⟩)
    | true =>
     have h := H.out
     rw [if_neg (by decide)] at h
     clear H
     obtain ⟨x, hx, h⟩ := Option.bind_eq_some_iff.1 h
     obtain ⟨x1, x2, x3⟩ := x
     dsimp only at h
     have HX := Aside0.mk hx
     have H := Aside0.mk h
     clear hx h
     go_region
     go_wp2_with (first | ((with_reducible refine gate_dst (N := 17) rfl ?_); refine box_event ?hg (N := 17) ?hd (cs := #[.int .i64 0, .slice none 0 0, .slice none 0 0]) (t := 28) ?hr ?_; (case hd => rfl); (case hg => rfl); (case hr => first | (go_simp; done) | (go_simp; rfl)); intro g7 hg7 w5 BK7 hb5; have HF5 := Aside0.mk (HF4.out.step hb5); have n72 : g7 ≠ g2 := (by rw [hg7]; exact Nat.ne_of_gt (blk_lt HF4.out.b2)); have n27 := n72.symm; have GE7 := Aside0.mk (show w.heap.size ≤ g7 from (by rw [hg7]; exact HF4.out.hb.size)); have z0 : w5.cell? ⟨g7, 0, none⟩ = some (.int .i64 0) := (blk_cell BK7 0).trans rfl; have z1 : w5.cell? ⟨g7, 1, none⟩ = some (.slice none 0 0) := (blk_cell BK7 1).trans rfl; have z2 : w5.cell? ⟨g7, 2, none⟩ = some (.slice none 0 0) := (blk_cell BK7 2).trans rfl; have zf0 := blk_frozen BK7 0; have zf1 := blk_frozen BK7 1; have zf2 := blk_frozen BK7 2; have HV1b := Aside0.mk (Kd.R_below (Kd.R_elderB HV1.out g7 (Nat.le_of_eq hg7.symm)) hb5); have HV2b := Aside0.mk (Kd.R_below (Kd.R_elderB HV2.out g7 (Nat.le_of_eq hg7.symm)) hb5); have HB7 := Aside0.mk BK7; clear BK7 hb5 hg7) | (go_at_call 27; refine (gram_made.calls k gm g1 (some ad0) c0_0 l0_0 A0_1 c0_1 l0_1 m x1 x2 x3 w3 (Kd.C_below HR0.out HF3.out.hb) hc0_0 (Kd.C_below HR1.out HF3.out.hb) hc0_1 HF3.out.hm ((blk_cell HF3.out.b1 0).trans rfl) ((blk_cell HF3.out.b1 1).trans rfl) HX.out).mono ?_; rintro e w4 ⟨v1, v2, rfl, hv1, hv2, hb4⟩; obtain ⟨Av, cv, rfl⟩ := Kd.R_slice hv1; obtain ⟨Aw, cw, rfl⟩ := Kd.R_slice hv2; have HV1 := Aside0.mk hv1; have HV2 := Aside0.mk hv2; have HF4 := Aside0.mk (HF3.out.step hb4); have HS3 := Aside0.mk HF3.out.hb.size; clear hv1 hv2 hb4) | (go_at_call 25; refine (gram_items2.calls k gm g5 A0_1 c0_1 l0_1 m u1 u2 true w2 (Kd.C_below HR1.out HF2.out.hb) hc0_1 HF2.out.hm ((blk_cell HF2.out.b5 0).trans rfl) HU.out).mono ?_; rintro e w3 ⟨vp, rfl, hp, hb2⟩; have HF3 := Aside0.mk (HF2.out.step hb2); have r10 : w3.cell? ⟨g1, 0, none⟩ = some (.slice (some ad0) l0_0.length c0_0) := (blk_cell HF3.out.b1 0).trans rfl; have r11 : w3.cell? ⟨g1, 1, none⟩ = some (.slice A0_1 l0_1.length c0_1) := (blk_cell HF3.out.b1 1).trans rfl; have r50 : w3.cell? ⟨g5, 0, none⟩ = some (.map (some gm)) := (blk_cell HF3.out.b5 0).trans rfl; have r20 : w3.cell? ⟨g2, 0, none⟩ = some (.int .i64 0) := (blk_cell HF3.out.b2 0).trans rfl; have r21 : w3.cell? ⟨g2, 1, none⟩ = some (.slice none 0 0) := (blk_cell HF3.out.b2 1).trans rfl; have r22 : w3.cell? ⟨g2, 2, none⟩ = some (.slice none 0 0) := (blk_cell HF3.out.b2 2).trans rfl; have rf0 := blk_frozen HF3.out.b2 0; have rf1 := blk_frozen HF3.out.b2 1; have rf2 := blk_frozen HF3.out.b2 2;  clear hp hb2) | (go_at_call 25; refine (gram_items.calls k gm g5 A0_1 c0_1 l0_1 m t1 t2 true wd.drew (Kd.C_below HR1.out HF.out.hb) hc0_1 HF.out.hm ((blk_cell HF.out.b5 0).trans rfl) HT.out).mono ?_; rintro e w2 ⟨vp, rfl, hp, hb2⟩; have HF2 := Aside0.mk (HF.out.step hb2); have s11 : w2.cell? ⟨g1, 1, none⟩ = some (.slice A0_1 l0_1.length c0_1) := (blk_cell HF2.out.b1 1).trans rfl; clear hp hb2))
     have B2m := Aside0.mk (show (((w5.setCell ⟨g7, 0, none⟩ (.int .i64 x1)).setCell ⟨g7, 1, none⟩ (.slice Av x2.length cv)).setCell ⟨g7, 2, none⟩ (.slice Aw x3.length cw)).heap[g2]? = some (.cells #[.int .i64 0, .slice none 0 0, .slice none 0 0] 28 (0, 0)) from blk_far (blk_far (blk_far HF5.out.b2 n27 _) n27 _) n27 _)
     have B7m := Aside0.mk (show (((w5.setCell ⟨g7, 0, none⟩ (.int .i64 x1)).setCell ⟨g7, 1, none⟩ (.slice Av x2.length cv)).setCell ⟨g7, 2, none⟩ (.slice Aw x3.length cw)).heap[g7]? = some (.cells #[.int .i64 x1, .slice Av x2.length cv, .slice Aw x3.length cw] 28 (0, 0)) from blk_put (blk_put (blk_put HB7.out 0 _ rfl) 1 _ rfl) 2 _ rfl)
     have V1m := Aside0.mk (show Kd.R Kd.string 9 (((w5.setCell ⟨g7, 0, none⟩ (.int .i64 x1)).setCell ⟨g7, 1, none⟩ (.slice Av x2.length cv)).setCell ⟨g7, 2, none⟩ (.slice Aw x3.length cw)) w3.heap.size _ (.slice Av x2.length cv) x2 from Kd.R_far (p := ⟨g7, 2, none⟩) (Kd.R_far (p := ⟨g7, 1, none⟩) (Kd.R_far (p := ⟨g7, 0, none⟩) HV1b.out (fun _ hk => hk.2) _) (fun _ hk => hk.2) _) (fun _ hk => hk.2) _)
     have V2m := Aside0.mk (show Kd.R k51 51 (((w5.setCell ⟨g7, 0, none⟩ (.int .i64 x1)).setCell ⟨g7, 1, none⟩ (.slice Av x2.length cv)).setCell ⟨g7, 2, none⟩ (.slice Aw x3.length cw)) w3.heap.size _ (.slice Aw x3.length cw) x3 from Kd.R_far (p := ⟨g7, 2, none⟩) (Kd.R_far (p := ⟨g7, 1, none⟩) (Kd.R_far (p := ⟨g7, 0, none⟩) HV2b.out (fun _ hk => hk.2) _) (fun _ hk => hk.2) _) (fun _ hk => hk.2) _)
     have HBm := Aside0.mk (show Below w.heap.size w (((w5.setCell ⟨g7, 0, none⟩ (.int .i64 x1)).setCell ⟨g7, 1, none⟩ (.slice Av x2.length cv)).setCell ⟨g7, 2, none⟩ (.slice Aw x3.length cw)) from ((HF5.out.hb.setCell (p := ⟨g7, 0, none⟩) GE7.out _).setCell (p := ⟨g7, 1, none⟩) GE7.out _).setCell (p := ⟨g7, 2, none⟩) GE7.out _)
     have G2 := Aside0.mk HF5.out.h2
     generalize (((w5.setCell ⟨g7, 0, none⟩ (.int .i64 x1)).setCell ⟨g7, 1, none⟩ (.slice Av x2.length cv)).setCell ⟨g7, 2, none⟩ (.slice Aw x3.length cw)) = wm at B2m B7m V1m V2m HBm ⊢
     clear z0 z1 z2 zf0 zf1 zf2 HV1 HV2 HV1b HV2b HF5 HF4 HB7
     cases hmay : mayB x1 x2 x3 with
     | false =>
      have h := H.out
      rw [hmay, if_neg (by decide)] at h
      clear H
      simp only [Option.some.injEq, Prod.mk.injEq] at h
      obtain ⟨rfl, rfl, rfl, rfl, rfl⟩ := h
      go_wp2_with (first | (go_at_call 17; refine (gram_May.calls x1 Av cv x2 Aw cw x3 false wm (Kd.R_reads' V1m.out).2.2 (Kd.R_reads' V1m.out).2.1 (Kd.R_reads' V2m.out).2.2 (Kd.R_reads' V2m.out).2.1 (congrArg some hmay)).mono ?_; rintro e w6 ⟨rfl, hb6⟩; have B26 := Aside0.mk (blk_below B2m.out hb6); have B76 := Aside0.mk (blk_below B7m.out hb6); have HB6 := Aside0.mk (below_step HBm.out hb6); have V16 := Aside0.mk (Kd.R_below V1m.out hb6); have V26 := Aside0.mk (Kd.R_below V2m.out hb6); have y20 : w6.cell? ⟨g2, 0, none⟩ = some (.int .i64 0) := (blk_cell B26.out 0).trans rfl; have y21 : w6.cell? ⟨g2, 1, none⟩ = some (.slice none 0 0) := (blk_cell B26.out 1).trans rfl; have y22 : w6.cell? ⟨g2, 2, none⟩ = some (.slice none 0 0) := (blk_cell B26.out 2).trans rfl; have yf0 := blk_frozen B26.out 0; have yf1 := blk_frozen B26.out 1; have yf2 := blk_frozen B26.out 2; have y70 : w6.cell? ⟨g7, 0, none⟩ = some (.int .i64 x1) := (blk_cell B76.out 0).trans rfl; have y71 : w6.cell? ⟨g7, 1, none⟩ = some (.slice Av x2.length cv) := (blk_cell B76.out 1).trans rfl; have y72 : w6.cell? ⟨g7, 2, none⟩ = some (.slice Aw x3.length cw) := (blk_cell B76.out 2).trans rfl; clear hb6))
      refine bodyPost_ret (results_ctt rfl _ _ g2 28 #[.int .i64 0, .slice none 0 0, .slice none 0 0] (0, 0) _ rfl (endz B26.out) hu28 rfl (by kernel_rfl)) rfl ?_
      exact ⟨_, _, rfl, Kd.R_nil _ _ _ _ _, Kd.R_nil _ _ _ _ _, (((HB6.out.setCell (p := ⟨g2, 0, none⟩) G2.out _).setCell (p := ⟨g2, 1, none⟩) G2.out _).setCell (p := ⟨g2, 2, none⟩) G2.out _)⟩
     | true =>
      have h := H.out
      rw [hmay, if_pos rfl] at h
      clear H
      simp only [Option.some.injEq, Prod.mk.injEq] at h
      obtain ⟨rfl, rfl, rfl, rfl, rfl⟩ := h
      go_wp2_with (first | (go_at_call 17; refine (gram_May.calls x1 Av cv x2 Aw cw x3 true wm (Kd.R_reads' V1m.out).2.2 (Kd.R_reads' V1m.out).2.1 (Kd.R_reads' V2m.out).2.2 (Kd.R_reads' V2m.out).2.1 (congrArg some hmay)).mono ?_; rintro e w6 ⟨rfl, hb6⟩; have B26 := Aside0.mk (blk_below B2m.out hb6); have B76 := Aside0.mk (blk_below B7m.out hb6); have HB6 := Aside0.mk (below_step HBm.out hb6); have V16 := Aside0.mk (Kd.R_below V1m.out hb6); have V26 := Aside0.mk (Kd.R_below V2m.out hb6); have y20 : w6.cell? ⟨g2, 0, none⟩ = some (.int .i64 0) := (blk_cell B26.out 0).trans rfl; have y21 : w6.cell? ⟨g2, 1, none⟩ = some (.slice none 0 0) := (blk_cell B26.out 1).trans rfl; have y22 : w6.cell? ⟨g2, 2, none⟩ = some (.slice none 0 0) := (blk_cell B26.out 2).trans rfl; have yf0 := blk_frozen B26.out 0; have yf1 := blk_frozen B26.out 1; have yf2 := blk_frozen B26.out 2; have y70 : w6.cell? ⟨g7, 0, none⟩ = some (.int .i64 x1) := (blk_cell B76.out 0).trans rfl; have y71 : w6.cell? ⟨g7, 1, none⟩ = some (.slice Av x2.length cv) := (blk_cell B76.out 1).trans rfl; have y72 : w6.cell? ⟨g7, 2, none⟩ = some (.slice Aw x3.length cw) := (blk_cell B76.out 2).trans rfl; clear hb6))
      refine bodyPost_ret (results_ctt rfl _ _ g2 28 #[.int .i64 x1, .slice Av x2.length cv, .slice Aw x3.length cw] (0, 0) _ rfl (blk_put (blk_put (blk_put B26.out 0 _ rfl) 1 _ rfl) 2 _ rfl) hu28 rfl (by kernel_rfl)) rfl ?_
      exact ⟨_, _, rfl, Kd.R_mono (Kd.R_lower (Kd.R_far (p := ⟨g2, 2, none⟩) (Kd.R_far (p := ⟨g2, 1, none⟩) (Kd.R_far (p := ⟨g2, 0, none⟩) (Kd.R_types V16.out B26.out (by decide)) (fun _ hk => hk.2) _) (fun _ hk => hk.2) _) (fun _ hk => hk.2) _) HS3.out) (fun _ _ => trivial), Kd.R_mono (Kd.R_lower (Kd.R_far (p := ⟨g2, 2, none⟩) (Kd.R_far (p := ⟨g2, 1, none⟩) (Kd.R_far (p := ⟨g2, 0, none⟩) (Kd.R_types V26.out B26.out (by decide)) (fun _ hk => hk.2) _) (fun _ hk => hk.2) _) (fun _ hk => hk.2) _) HS3.out) (fun _ _ => trivial), (((HB6.out.setCell (p := ⟨g2, 0, none⟩) G2.out _).setCell (p := ⟨g2, 1, none⟩) G2.out _).setCell (p := ⟨g2, 2, none⟩) G2.out _)⟩


/-! ### templelaw0_SameTexts: function 32 -/
def templelaw0_SameTexts.f (l0 l1 : List ByteArray) : Option (Bool) := if l0 = l1 then some true else none
theorem templelaw0_SameTexts.self (l : List ByteArray) : templelaw0_SameTexts.f l l = some true := if_pos rfl
set_option maxHeartbeats 8000000 in
set_option maxRecDepth 100000 in
theorem templelaw0_SameTexts.calls (A0 : Option Addr) (c0 : Nat) (l0 : List ByteArray) (A1 : Option Addr) (c1 : Nat) (l1 : List ByteArray) (r : Bool) (w : World) (hr0 : Kd.C Kd.string w A0 l0.length l0) (hc0 : l0.length ≤ c0) (hr1 : Kd.C Kd.string w A1 l1.length l1) (hc1 : l1.length ≤ c1) (h : templelaw0_SameTexts.f l0 l1 = some r) :
  Calls Try.prog 32 #[.slice A0 l0.length c0, .slice A1 l1.length c1] w fun e w' => e = .returned (.bool r) ∧ Drawn0 w w' := by
 unfold templelaw0_SameTexts.f at h
 by_cases e : l0 = l1
 case neg => rw [if_neg e] at h; cases h
 rw [if_pos e] at h
 obtain rfl := Option.some.inj h
 subst e
 have hmax := Kd.C_max hr0
 have H0 := Aside0.mk hr0
 have H1 := Aside0.mk hr1
 clear h hr0 hr1
 go_enter Try.func32, Try.ntmps32
 go_wp2
 go_loopw [5] (fun v wr => ∃ i : Nat, i ≤ l0.length ∧ v = .int .i64 i ∧ Drawn0 w wr) (fun v _ => l0.length - (intOf v).toNat)
 case atStart => exact ⟨0, by omega, rfl, Drawn0.refl _⟩
 case round =>
  obtain ⟨i, hi, rfl, ⟨m1, rfl⟩⟩ := hrel
  by_cases hlt : i < l0.length
  ·obtain ⟨a0, e0, x0⟩ := Kd.at_string H0.out (i : Int) (by omega) (by omega)
   obtain ⟨a1, e1, x1⟩ := Kd.at_string H1.out (i : Int) (by omega) (by omega)
   cases e0
   cases e1
   rw [Int.toNat_natCast] at x0 x1
   go_wp2
   repeat (go_quiet (fail); try go_wp2)
   go_roundw
   case rel => exact ⟨i + 1, by omega, by go_num, by repeat (first | exact Drawn0.refl _ | apply Drawn0.step)⟩
   case measure => simp [intOf]; omega
  ·obtain rfl : i = l0.length := by omega
   go_wp2
   go_ret
   exact ⟨rfl, Drawn0.step (Drawn0.refl _) _⟩


/-! ### templelaw0_SameSymbols: function 42 -/
theorem eqH56 (d : Nat) (w : World) (x0 y0 : Int) (x1 y1 : Int) (x2 y2 : Int) :
  (Op.equalIn (d + 2) 56 (.agg #[.int .i64 x0, .int .i64 x1, .int .i64 x2]) (.agg #[.int .i64 y0, .int .i64 y1, .int .i64 y2])).run Try.prog w = .ok (x0 == y0 && (x1 == y1 && (x2 == y2))) w := by
 refine eqA_of Try.underlying56 (by kernel_rfl) ?_
 refine eqf_cons (by rfl) (by go_simp; rfl) (by go_simp; rfl) (by go_simp) ?_
 refine eqf_cons (by rfl) (by go_simp; rfl) (by go_simp; rfl) (by go_simp) ?_
 exact eqf_last (by rfl) (by go_simp; rfl) (by go_simp; rfl) (by go_simp)
attribute [local go_sem high] eqH56
instance decS56 : DecidableEq S56 := fun ⟨a0, a1, a2⟩ ⟨b0, b1, b2⟩ => decidable_of_iff (a0 = b0 ∧ a1 = b1 ∧ a2 = b2) (by simp)
def templelaw0_SameSymbols.f (l0 l1 : List S56) : Option (Bool) := if l0 = l1 then some true else none
theorem templelaw0_SameSymbols.self (l : List S56) : templelaw0_SameSymbols.f l l = some true := if_pos rfl
set_option maxHeartbeats 8000000 in
set_option maxRecDepth 100000 in
theorem templelaw0_SameSymbols.calls (A0 : Option Addr) (c0 : Nat) (l0 : List (S56)) (A1 : Option Addr) (c1 : Nat) (l1 : List (S56)) (r : Bool) (w : World) (hr0 : Kd.C k56 w A0 l0.length l0) (hc0 : l0.length ≤ c0) (hr1 : Kd.C k56 w A1 l1.length l1) (hc1 : l1.length ≤ c1) (h : templelaw0_SameSymbols.f l0 l1 = some r) :
  Calls Try.prog 42 #[.slice A0 l0.length c0, .slice A1 l1.length c1] w fun e w' => e = .returned (.bool r) ∧ Drawn0 w w' := by
 unfold templelaw0_SameSymbols.f at h
 by_cases e : l0 = l1
 case neg => rw [if_neg e] at h; cases h
 rw [if_pos e] at h
 obtain rfl := Option.some.inj h
 subst e
 have hu := Try.underlying56
 have hmax := Kd.C_max hr0
 have H0 := Aside0.mk hr0
 have H1 := Aside0.mk hr1
 clear h hr0 hr1
 go_enter Try.func42, Try.ntmps42
 go_wp2
 go_loopw [5] (fun v wr => ∃ i : Nat, i ≤ l0.length ∧ v = .int .i64 i ∧ Drawn0 w wr) (fun v _ => l0.length - (intOf v).toNat)
 case atStart => exact ⟨0, by omega, rfl, Drawn0.refl _⟩
 case round =>
  obtain ⟨i, hi, rfl, ⟨m1, rfl⟩⟩ := hrel
  by_cases hlt : i < l0.length
  ·obtain ⟨a0, e0, x0, x1, x2⟩ := at_T56 H0.out (i : Int) (by omega) (by omega)
   obtain ⟨a1, e1, y0, y1, y2⟩ := at_T56 H1.out (i : Int) (by omega) (by omega)
   cases e0
   cases e1
   rw [Int.toNat_natCast] at x0 x1 x2 y0 y1 y2
   go_wp2
   repeat (go_quiet (fail); try go_wp2)
   go_roundw
   case rel => exact ⟨i + 1, by omega, by go_num, by repeat (first | exact Drawn0.refl _ | apply Drawn0.step)⟩
   case measure => simp [intOf]; omega
  ·obtain rfl : i = l0.length := by omega
   go_wp2
   go_ret
   exact ⟨rfl, Drawn0.step (Drawn0.refl _) _⟩


/-! ### templelaw0_SameRule: function 33 -/
instance decS54 : DecidableEq S54 := fun ⟨a0, a1⟩ ⟨b0, b1⟩ => decidable_of_iff (a0 = b0 ∧ a1 = b1) (by simp)
instance decS51 : DecidableEq S51 := fun ⟨a0, a1⟩ ⟨b0, b1⟩ => decidable_of_iff (a0 = b0 ∧ a1 = b1) (by simp)
def templelaw0_SameRule.f (a0 : Int) (l0 : List S54) (a1 : Int) (l1 : List S54) : Option (Bool) := if a0 = a1 ∧ l0 = l1 then some true else none
theorem templelaw0_SameRule.self (a : Int) (l : List S54) : templelaw0_SameRule.f a l a l = some true := if_pos ⟨rfl, rfl⟩
set_option maxHeartbeats 8000000 in
set_option maxRecDepth 100000 in
theorem templelaw0_SameRule.calls (a0_0 : Int) (A0_1 : Option Addr) (c0_1 : Nat) (l0_1 : List (S54)) (a1_0 : Int) (A1_1 : Option Addr) (c1_1 : Nat) (l1_1 : List (S54)) (r : Bool) (w : World) (hr0_1 : Kd.C k54 w A0_1 l0_1.length l0_1) (hc0_1 : l0_1.length ≤ c0_1) (hr1_1 : Kd.C k54 w A1_1 l1_1.length l1_1) (hc1_1 : l1_1.length ≤ c1_1) (h : templelaw0_SameRule.f a0_0 l0_1 a1_0 l1_1 = some r) :
  Calls Try.prog 33 #[.agg #[.int .i64 a0_0, .slice A0_1 l0_1.length c0_1], .agg #[.int .i64 a1_0, .slice A1_1 l1_1.length c1_1]] w fun e w' => e = .returned (.bool r) ∧ Below w.heap.size w w' := by
 unfold templelaw0_SameRule.f at h
 by_cases e : a0_0 = a1_0 ∧ l0_1 = l1_1
 case neg => rw [if_neg e] at h; cases h
 rw [if_pos e] at h
 obtain rfl := Option.some.inj h
 obtain ⟨rfl, rfl⟩ := e
 have hmax := Kd.C_max hr0_1
 have H0 := Aside0.mk hr0_1
 have H1 := Aside0.mk hr1_1
 clear h hr0_1 hr1_1
 go_enter Try.func33, Try.ntmps33
 go_upto_region 1 with (fail)
 have hE := below_alloc (below_alloc (Below.refl w.heap.size w) (.cells #[.int .i64 a0_0, .slice A0_1 l0_1.length c0_1] 51)) (.cells #[.int .i64 a0_0, .slice A1_1 l0_1.length c1_1] 51)
 have hB2 := blk_alloc (blk_new w (.cells #[.int .i64 a0_0, .slice A0_1 l0_1.length c0_1] 51)) (.cells #[.int .i64 a0_0, .slice A1_1 l0_1.length c1_1] 51)
 have hB3 := blk_new (w.alloc (.cells #[.int .i64 a0_0, .slice A0_1 l0_1.length c0_1] 51)) (.cells #[.int .i64 a0_0, .slice A1_1 l0_1.length c1_1] 51)
 rw [show (w.alloc (.cells #[.int .i64 a0_0, .slice A0_1 l0_1.length c0_1] 51)).heap.size = w.heap.size + 1 from by simp] at hB3
 have E0 := Aside0.mk hE
 clear hE
 generalize ((w.alloc (.cells #[.int .i64 a0_0, .slice A0_1 l0_1.length c0_1] 51)).alloc (.cells #[.int .i64 a0_0, .slice A1_1 l0_1.length c1_1] 51)) = w0 at *
 have k0 : w0.cell? ⟨w.heap.size, 0, none⟩ = some (.int .i64 a0_0) := (blk_cell hB2 0).trans rfl
 have k1 : w0.cell? ⟨w.heap.size, 1, none⟩ = some (.slice A0_1 l0_1.length c0_1) := (blk_cell hB2 1).trans rfl
 have k2 : w0.cell? ⟨w.heap.size + 1, 0, none⟩ = some (.int .i64 a0_0) := (blk_cell hB3 0).trans rfl
 have k3 : w0.cell? ⟨w.heap.size + 1, 1, none⟩ = some (.slice A1_1 l0_1.length c1_1) := (blk_cell hB3 1).trans rfl
 clear hB2 hB3
 go_wp2
 go_loopw [5] (fun v wr => ∃ i : Nat, i ≤ l0_1.length ∧ v = .int .i64 i ∧ Drawn0 w0 wr) (fun v _ => l0_1.length - (intOf v).toNat)
 case atStart => exact ⟨0, by omega, rfl, by repeat (first | exact Drawn0.refl _ | apply Drawn0.step)⟩
 case round =>
  obtain ⟨i, hi, rfl, ⟨m1, rfl⟩⟩ := hrel
  by_cases hlt : i < l0_1.length
  ·obtain ⟨a0, A0, d0, e0, x0, x1, p0, q0⟩ := at_T54 H0.out (i : Int) (by omega) (by omega)
   obtain ⟨a1, A1, d1, e1, y0, y1, p1, q1⟩ := at_T54 H1.out (i : Int) (by omega) (by omega)
   cases e0
   cases e1
   simp only [Int.toNat_natCast] at p0 q0 p1 q1 x0 y0 x1 y1
   have X0 := Aside0.mk (pw_cell_below E0.out x0); have Y0 := Aside0.mk (pw_cell_below E0.out y0)
   have X1 := Aside0.mk (pw_cell_below E0.out x1); have Y1 := Aside0.mk (pw_cell_below E0.out y1)
   clear x0 y0 x1 y1
   have x0 := X0.out; have y0 := Y0.out
   have x1 := X1.out; have y1 := Y1.out
   have HP := Aside0.mk (And.intro p0 (And.intro (Kd.C_below q0 E0.out) (And.intro p1 (Kd.C_below q1 E0.out))))
   clear p0 q0 p1 q1 X0 Y0 X1 Y1
   generalize rd_T54 l0_1 (i : Int) = z at *
   have hb : (z.f0 != z.f0) = false := by simp
   go_wp2
   repeat (go_quiet (first | (go_at_call 42; (with_reducible refine (templelaw0_SameSymbols.calls _ _ z.f1 _ _ z.f1 true _ ?side1 HP.out.1 ?side3 HP.out.2.2.1 (templelaw0_SameSymbols.self _)).mono ?_); (case side1 => repeat (first | exact HP.out.2.1 | (with_reducible refine Kd.C_alloc ?_ _) | (with_reducible refine Kd.C_drewN ?_ _) | (with_reducible refine Kd.C_drew ?_))); (case side3 => repeat (first | exact HP.out.2.2.2 | (with_reducible refine Kd.C_alloc ?_ _) | (with_reducible refine Kd.C_drewN ?_ _) | (with_reducible refine Kd.C_drew ?_))); rintro e w' ⟨rfl, ⟨nd, rfl⟩⟩; (try first | exact ⟨rfl, _, World.drewN_drewN _ _ _⟩ | exact ⟨rfl, _, Eq.trans (World.drewN_drewN _ _ _) (congrArg (World.drewN _) (Nat.add_assoc _ _ _))⟩))); try go_wp2)
   go_roundw
   case rel => exact ⟨i + 1, by omega, by go_num, by repeat (first | exact Drawn0.refl _ | apply Drawn0.step)⟩
   case measure => simp [intOf]; omega
  ·obtain rfl : i = l0_1.length := by omega
   go_wp2
   go_ret
   exact ⟨rfl, E0.out.trans ((Drawn0.step (Drawn0.refl w0) m1).below.mono E0.out.size)⟩


/-! ### templelaw0_SameGrammar: function 13 -/
def sm13.T6 : Bool × List (List Nat × List Nat) := (true, [([], []), ([0], [0]), ([], []), ([1, 2], [1, 2]), ([3], [3]), ([], []), ([5], [5]), ([], []), ([6, 7], [6, 7]), ([8], [8]), ([4, 9], [4, 9]), ([10], [10])])
def sm13.B6 : List Nat := [0, 1, 0, 7, 15, 0, 32, 0, 224, 480, 1023, 2047]
theorem sm13.tab6 : rtab .any (opsOf Try.f13 6) = sm13.T6 := by kernel_rfl
theorem sm13.bits6 : waitsOk sm13.T6.2 sm13.B6 = true := by kernel_rfl
def templelaw0_SameGrammar.f (a0 : Int) (m0 : List ByteArray) (l0 : List S51) (a1 : Int) (m1 : List ByteArray) (l1 : List S51) : Option (Bool) := if a0 = a1 ∧ m0 = m1 ∧ l0 = l1 then some true else none
theorem templelaw0_SameGrammar.self (a : Int) (m : List ByteArray) (l : List S51) : templelaw0_SameGrammar.f a m l a m l = some true := if_pos ⟨rfl, rfl, rfl⟩
set_option maxHeartbeats 8000000 in
set_option maxRecDepth 100000 in
theorem templelaw0_SameGrammar.calls (a0_0 : Int) (A0_1 : Option Addr) (c0_1 : Nat) (l0_1 : List ByteArray) (A0_2 : Option Addr) (c0_2 : Nat) (l0_2 : List (S51)) (a1_0 : Int) (A1_1 : Option Addr) (c1_1 : Nat) (l1_1 : List ByteArray) (A1_2 : Option Addr) (c1_2 : Nat) (l1_2 : List (S51)) (r : Bool) (w : World) (hr0_1 : Kd.C Kd.string w A0_1 l0_1.length l0_1) (hc0_1 : l0_1.length ≤ c0_1) (hr0_2 : Kd.C k51 w A0_2 l0_2.length l0_2) (hc0_2 : l0_2.length ≤ c0_2) (hr1_1 : Kd.C Kd.string w A1_1 l1_1.length l1_1) (hc1_1 : l1_1.length ≤ c1_1) (hr1_2 : Kd.C k51 w A1_2 l1_2.length l1_2) (hc1_2 : l1_2.length ≤ c1_2) (h : templelaw0_SameGrammar.f a0_0 l0_1 l0_2 a1_0 l1_1 l1_2 = some r) :
  Calls Try.prog 13 #[.agg #[.int .i64 a0_0, .slice A0_1 l0_1.length c0_1, .slice A0_2 l0_2.length c0_2], .agg #[.int .i64 a1_0, .slice A1_1 l1_1.length c1_1, .slice A1_2 l1_2.length c1_2]] w fun e w' => e = .returned (.bool r) ∧ Below w.heap.size w w' := by
 unfold templelaw0_SameGrammar.f at h
 by_cases e : a0_0 = a1_0 ∧ l0_1 = l1_1 ∧ l0_2 = l1_2
 case neg => rw [if_neg e] at h; cases h
 rw [if_pos e] at h
 obtain rfl := Option.some.inj h
 obtain ⟨rfl, rfl, rfl⟩ := e
 have hmax := Kd.C_max hr0_2
 have N0 := Aside0.mk hr0_1
 have N1 := Aside0.mk hr1_1
 have H0 := Aside0.mk hr0_2
 have H1 := Aside0.mk hr1_2
 have HC := Aside0.mk (And.intro hc0_1 hc1_1)
 clear h hr0_1 hr1_1 hr0_2 hr1_2 hc0_1 hc1_1
 go_enter Try.func13, Try.ntmps13
 go_upto_region 1 with (fail)
 have hE := below_alloc (below_alloc (Below.refl w.heap.size w) (.cells #[.int .i64 a0_0, .slice A0_1 l0_1.length c0_1, .slice A0_2 l0_2.length c0_2] 28)) (.cells #[.int .i64 a0_0, .slice A1_1 l0_1.length c1_1, .slice A1_2 l0_2.length c1_2] 28)
 have hB2 := blk_alloc (blk_new w (.cells #[.int .i64 a0_0, .slice A0_1 l0_1.length c0_1, .slice A0_2 l0_2.length c0_2] 28)) (.cells #[.int .i64 a0_0, .slice A1_1 l0_1.length c1_1, .slice A1_2 l0_2.length c1_2] 28)
 have hB3 := blk_new (w.alloc (.cells #[.int .i64 a0_0, .slice A0_1 l0_1.length c0_1, .slice A0_2 l0_2.length c0_2] 28)) (.cells #[.int .i64 a0_0, .slice A1_1 l0_1.length c1_1, .slice A1_2 l0_2.length c1_2] 28)
 have hs : w.heap.size + 2 = ((w.alloc (.cells #[.int .i64 a0_0, .slice A0_1 l0_1.length c0_1, .slice A0_2 l0_2.length c0_2] 28)).alloc (.cells #[.int .i64 a0_0, .slice A1_1 l0_1.length c1_1, .slice A1_2 l0_2.length c1_2] 28)).heap.size := by simp
 rw [show (w.alloc (.cells #[.int .i64 a0_0, .slice A0_1 l0_1.length c0_1, .slice A0_2 l0_2.length c0_2] 28)).heap.size = w.heap.size + 1 from by simp] at hB3
 have E0 := Aside0.mk (And.intro hE (And.intro hB2 (And.intro hB3 hs)))
 clear hE
 generalize ((w.alloc (.cells #[.int .i64 a0_0, .slice A0_1 l0_1.length c0_1, .slice A0_2 l0_2.length c0_2] 28)).alloc (.cells #[.int .i64 a0_0, .slice A1_1 l0_1.length c1_1, .slice A1_2 l0_2.length c1_2] 28)) = w0 at *
 have k0 : w0.cell? ⟨w.heap.size, 0, none⟩ = some (.int .i64 a0_0) := (blk_cell hB2 0).trans rfl
 have k1 : w0.cell? ⟨w.heap.size, 1, none⟩ = some (.slice A0_1 l0_1.length c0_1) := (blk_cell hB2 1).trans rfl
 have k2 : w0.cell? ⟨w.heap.size, 2, none⟩ = some (.slice A0_2 l0_2.length c0_2) := (blk_cell hB2 2).trans rfl
 have j0 : w0.cell? ⟨w.heap.size + 1, 0, none⟩ = some (.int .i64 a0_0) := (blk_cell hB3 0).trans rfl
 have j1 : w0.cell? ⟨w.heap.size + 1, 1, none⟩ = some (.slice A1_1 l0_1.length c1_1) := (blk_cell hB3 1).trans rfl
 have j2 : w0.cell? ⟨w.heap.size + 1, 2, none⟩ = some (.slice A1_2 l0_2.length c1_2) := (blk_cell hB3 2).trans rfl
 clear hB2 hB3 hs
 go_wp2_with (first | (go_at_call 32; (with_reducible refine (templelaw0_SameTexts.calls _ _ l0_1 _ _ l0_1 true _ ?side1 HC.out.1 ?side3 HC.out.2 (templelaw0_SameTexts.self _)).mono ?_); (case side1 => repeat (first | exact (Kd.C_below N0.out E0.out.1) | (with_reducible refine Kd.C_alloc ?_ _) | (with_reducible refine Kd.C_drewN ?_ _) | (with_reducible refine Kd.C_drew ?_))); (case side3 => repeat (first | exact (Kd.C_below N1.out E0.out.1) | (with_reducible refine Kd.C_alloc ?_ _) | (with_reducible refine Kd.C_drewN ?_ _) | (with_reducible refine Kd.C_drew ?_))); rintro e w' ⟨rfl, ⟨nd, rfl⟩⟩))
 go_loopw [5] (fun v wr => ∃ i : Nat, i ≤ l0_2.length ∧ v = .int .i64 i ∧ Aside0 (Below w0.heap.size w0 wr)) (fun v _ => l0_2.length - (intOf v).toNat)
 case atStart => exact ⟨0, by omega, rfl, ⟨by repeat (first | exact Below.refl _ _ | apply pw_below_drewN | apply below_drew)⟩⟩
 case round =>
  obtain ⟨i, hi, rfl, hBw⟩ := hrel
  clear k0 j0 k1 j1 k2 j2
  have kk : ∀ w', Below w0.heap.size w0 w' → w'.cell? ⟨w.heap.size, 2, none⟩ = some (.slice A0_2 l0_2.length c0_2) ∧ w'.cell? ⟨w.heap.size + 1, 2, none⟩ = some (.slice A1_2 l0_2.length c1_2) := fun w' hb => ⟨(blk_cell (blk_below E0.out.2.1 hb) 2).trans rfl, (blk_cell (blk_below E0.out.2.2.1 hb) 2).trans rfl⟩
  obtain ⟨ka, kb⟩ := kk _ hBw.out
  by_cases hlt : i < l0_2.length
  ·obtain ⟨a0, A0, d0, e0, x0, x1, p0, q0⟩ := at_T51 H0.out (i : Int) (by omega) (by omega)
   obtain ⟨a1, A1, d1, e1, y0, y1, p1, q1⟩ := at_T51 H1.out (i : Int) (by omega) (by omega)
   cases e0
   cases e1
   rw [Int.toNat_natCast] at x0 x1 y0 y1
   have HP := Aside0.mk (And.intro p0 (And.intro (Kd.C_below q0 E0.out.1) (And.intro p1 (Kd.C_below q1 E0.out.1))))
   clear p0 q0 p1 q1
   generalize rd_T51 l0_2 (i : Int) = z at *
   have hSz : ∀ w', Below w0.heap.size w0 w' → w'.cell? ⟨w.heap.size, 2, none⟩ = some (.slice (some a0) l0_2.length c0_2) ∧ w'.cell? ⟨w.heap.size + 1, 2, none⟩ = some (.slice (some a1) l0_2.length c1_2) ∧ w'.cell? (a0.add (i * 2)) = some (.int .i64 z.f0) ∧ w'.cell? ⟨(a0.add (i * 2)).block, (a0.add (i * 2)).off + 1, none⟩ = some (.slice A0 z.f1.length d0) ∧ w'.cell? (a1.add (i * 2)) = some (.int .i64 z.f0) ∧ w'.cell? ⟨(a1.add (i * 2)).block, (a1.add (i * 2)).off + 1, none⟩ = some (.slice A1 z.f1.length d1) ∧ Aside0 (Below w0.heap.size w0 w') := fun w' hb => by
    have hw := E0.out.1.trans (hb.mono E0.out.1.size)
    exact ⟨(kk _ hb).1, (kk _ hb).2, pw_cell_below hw x0, pw_cell_below hw x1, pw_cell_below hw y0, pw_cell_below hw y1, ⟨hb⟩⟩
   have hb0 := hBw.out.drew
   have HX := Aside0.mk (And.intro x0 (And.intro x1 (And.intro y0 y1)))
   clear x0 x1 y0 y1
   go_upto_region 6 with (fail)
   refine start_ (n := 12) (S := fun w' => w'.cell? ⟨w.heap.size, 2, none⟩ = some (.slice (some a0) l0_2.length c0_2) ∧ w'.cell? ⟨w.heap.size + 1, 2, none⟩ = some (.slice (some a1) l0_2.length c1_2) ∧ w'.cell? (a0.add (i * 2)) = some (.int .i64 z.f0) ∧ w'.cell? ⟨(a0.add (i * 2)).block, (a0.add (i * 2)).off + 1, none⟩ = some (.slice A0 z.f1.length d0) ∧ w'.cell? (a1.add (i * 2)) = some (.int .i64 z.f0) ∧ w'.cell? ⟨(a1.add (i * 2)).block, (a1.add (i * 2)).off + 1, none⟩ = some (.slice A1 z.f1.length d1) ∧ Aside0 (Below w0.heap.size w0 w')) (ds := []) #[false, false, false, false, false, false, false, false, false, false, false, false] (by kernel_rfl) rfl rfl ⟨(hSz _ hb0).1, (hSz _ hb0).2.1, (hSz _ hb0).2.2.1, (hSz _ hb0).2.2.2.1, (hSz _ hb0).2.2.2.2.1, (hSz _ hb0).2.2.2.2.2.1, (hSz _ hb0).2.2.2.2.2.2⟩ (fun hHeld => ?_)
   refine with_tabW sm13.tab6 sm13.bits6 (fun HT_ HW_ => ?_)
   refine pure_ (i := 0) (N := some 35) (v := ?_) (a' := ?_) #[true, false, false, false, false, false, false, false, false, false, false, false] rfl rfl (any_of HT_.out (by kernel_rfl)) (fun _ _ _ h => h) (Or.inl ⟨by rfl, ?_⟩) ?_ ?_
   rotate_left
   ·intro w'
    go_simp
    with_reducible rfl
   rotate_left
   ·simp only [Act.put, List.setIfInBounds_toArray, List.set_cons_zero, List.set_cons_succ, i64_w, i32_w]
    rfl
   refine pure_ (i := 2) (N := some 37) (v := ?_) (a' := ?_) #[true, false, true, false, false, false, false, false, false, false, false, false] rfl rfl (any_of HT_.out (by kernel_rfl)) (fun _ _ _ h => h) (Or.inl ⟨by rfl, ?_⟩) ?_ ?_
   rotate_left
   ·intro w'
    go_simp
    with_reducible rfl
   rotate_left
   ·simp only [Act.put, List.setIfInBounds_toArray, List.set_cons_zero, List.set_cons_succ, i64_w, i32_w]
    rfl
   refine pure_ (i := 5) (N := some 40) (v := ?_) (a' := ?_) #[true, false, true, false, false, true, false, false, false, false, false, false] rfl rfl (any_of HT_.out (by kernel_rfl)) (fun _ _ _ h => h) (Or.inl ⟨by rfl, ?_⟩) ?_ ?_
   rotate_left
   ·intro w'
    go_simp
    with_reducible rfl
   rotate_left
   ·simp only [Act.put, List.setIfInBounds_toArray, List.set_cons_zero, List.set_cons_succ, i64_w, i32_w]
    rfl
   refine pure_ (i := 7) (N := some 42) (v := ?_) (a' := ?_) #[true, false, true, false, false, true, false, true, false, false, false, false] rfl rfl (any_of HT_.out (by kernel_rfl)) (fun _ _ _ h => h) (Or.inl ⟨by rfl, ?_⟩) ?_ ?_
   rotate_left
   ·intro w'
    go_simp
    with_reducible rfl
   rotate_left
   ·simp only [Act.put, List.setIfInBounds_toArray, List.set_cons_zero, List.set_cons_succ, i64_w, i32_w]
    rfl
   refine take_ (i := 1) (N := some 36) (v := ?_) (a' := ?_) #[true, true, true, false, false, true, false, true, false, false, false, false] rfl rfl (take_ofW HT_.out HW_.out (by kernel_rfl)) (fun _ _ _ h => h) (Or.inl ⟨by rfl, ?_⟩) hHeld ?_ ?_
   rotate_left
   ·rintro w' ⟨s0, s1, s2, s3, s4, s5, s6⟩
    go_simp
    with_reducible rfl
   rotate_left
   ·simp only [Act.put, List.setIfInBounds_toArray, List.set_cons_zero, List.set_cons_succ, i64_w, i32_w]
    rfl
   refine pure_ (i := 3) (N := some 38) (v := ?_) (a' := ?_) #[true, true, true, true, false, true, false, true, false, false, false, false] rfl rfl (any_of HT_.out (by kernel_rfl)) (fun _ _ _ h => h) (Or.inl ⟨by rfl, ?_⟩) ?_ ?_
   rotate_left
   ·intro w'
    go_simp
    with_reducible rfl
   rotate_left
   ·simp only [Act.put, List.setIfInBounds_toArray, List.set_cons_zero, List.set_cons_succ, i64_w, i32_w]
    rfl
   refine take_ (i := 4) (N := some 39) (v := ?_) (a' := ?_) #[true, true, true, true, true, true, false, true, false, false, false, false] rfl rfl (take_ofW HT_.out HW_.out (by kernel_rfl)) (fun _ _ _ h => h) (Or.inl ⟨by rfl, ?_⟩) hHeld ?_ ?_
   rotate_left
   ·rintro w' ⟨s0, s1, s2, s3, s4, s5, s6⟩
    go_simp
    with_reducible rfl
   rotate_left
   ·simp only [Act.put, List.setIfInBounds_toArray, List.set_cons_zero, List.set_cons_succ, i64_w, i32_w]
    rfl
   refine take_ (i := 6) (N := some 41) (v := ?_) (a' := ?_) #[true, true, true, true, true, true, true, true, false, false, false, false] rfl rfl (take_ofW HT_.out HW_.out (by kernel_rfl)) (fun _ _ _ h => h) (Or.inl ⟨by rfl, ?_⟩) hHeld ?_ ?_
   rotate_left
   ·rintro w' ⟨s0, s1, s2, s3, s4, s5, s6⟩
    go_simp
    with_reducible rfl
   rotate_left
   ·simp only [Act.put, List.setIfInBounds_toArray, List.set_cons_zero, List.set_cons_succ, i64_w, i32_w]
    rfl
   refine pure_ (i := 8) (N := some 43) (v := ?_) (a' := ?_) #[true, true, true, true, true, true, true, true, true, false, false, false] rfl rfl (any_of HT_.out (by kernel_rfl)) (fun _ _ _ h => h) (Or.inl ⟨by rfl, ?_⟩) ?_ ?_
   rotate_left
   ·intro w'
    go_simp
    with_reducible rfl
   rotate_left
   ·simp only [Act.put, List.setIfInBounds_toArray, List.set_cons_zero, List.set_cons_succ, i64_w, i32_w]
    rfl
   refine take_ (i := 9) (N := some 44) (v := ?_) (a' := ?_) #[true, true, true, true, true, true, true, true, true, true, false, false] rfl rfl (take_ofW HT_.out HW_.out (by kernel_rfl)) (fun _ _ _ h => h) (Or.inl ⟨by rfl, ?_⟩) hHeld ?_ ?_
   rotate_left
   ·rintro w' ⟨s0, s1, s2, s3, s4, s5, s6⟩
    go_simp
    with_reducible rfl
   rotate_left
   ·simp only [Act.put, List.setIfInBounds_toArray, List.set_cons_zero, List.set_cons_succ, i64_w, i32_w]
    rfl
   refine one_ (i := 10) (N := some 45) #[true, true, true, true, true, true, true, true, true, true, true, false] rfl rfl (one_of HT_.out (by kernel_rfl)) (by decide) (fun K hK => ?_)
   refine goes_ Try.func33 (by kernel_rfl) rfl #[.agg #[.int .i64 z.f0, .slice A0 z.f1.length d0], .agg #[.int .i64 z.f0, .slice A1 z.f1.length d1]] (by rfl) rfl rfl (by (try simp only [List.map_toArray, List.map_cons, List.map_nil]); first | done | rfl) ?_
   have hbc := hHeld.2.2.2.2.2.2.out
   with_reducible refine (templelaw0_SameRule.calls z.f0 A0 d0 z.f1 z.f0 A1 d1 z.f1 true _ (Kd.C_below HP.out.2.1 hbc) HP.out.1 (Kd.C_below HP.out.2.2.2 hbc) HP.out.2.2.1 (templelaw0_SameRule.self _ _)).mono ?_
   rintro e wn ⟨rfl, hb⟩
   have hbn := hbc.trans (hb.mono hbc.size)
   refine ⟨_, rfl, ?_⟩
   refine hK.out _ _ ⟨(hSz _ hbn).1, (hSz _ hbn).2.1, (hSz _ hbn).2.2.1, (hSz _ hbn).2.2.2.1, (hSz _ hbn).2.2.2.2.1, (hSz _ hbn).2.2.2.2.2.1, (hSz _ hbn).2.2.2.2.2.2⟩ (fun hHeld => ?_)
   clear hK K
   refine norm_ (a' := ?_) ?_ ?_
   rotate_left
   ·show Act.put _ (some 45) _ = _
    simp only [Act.put, List.setIfInBounds_toArray, List.set_cons_zero, List.set_cons_succ, i64_w, i32_w]
    rfl
   refine pure_ (i := 11) (N := some 46) (v := ?_) (a' := ?_) #[true, true, true, true, true, true, true, true, true, true, true, true] rfl rfl (any_of HT_.out (by kernel_rfl)) (fun _ _ _ h => h) (Or.inl ⟨by rfl, ?_⟩) ?_ ?_
   rotate_left
   ·intro w'
    go_simp
    with_reducible rfl
   rotate_left
   ·simp only [Act.put, List.setIfInBounds_toArray, List.set_cons_zero, List.set_cons_succ, i64_w, i32_w]
    rfl
   refine done_ (done_of HT_.out (by kernel_rfl)) ?_
   have hbF := hHeld.2.2.2.2.2.2.out
   clear hHeld HT_ HW_ hSz hb0
   go_wp2
   go_roundw
   case rel => exact ⟨i + 1, by omega, by go_num, ⟨hbF⟩⟩
   case measure => simp [intOf]; omega
  ·obtain rfl : i = l0_2.length := by omega
   go_wp2
   go_ret
   exact ⟨rfl, E0.out.1.trans (hBw.out.mono E0.out.1.size)⟩


/-! ### templelaw0_Num: function 14 -/
def templelaw0_Num.f (a0 : Int) : Option (Int) := some a0
set_option maxHeartbeats 8000000 in
set_option maxRecDepth 100000 in
theorem templelaw0_Num.calls (a0 : Int) (r : Int) (w : World) (h : templelaw0_Num.f a0 = some r) :
  Calls Try.prog 14 #[.int .i64 a0] w fun e w' => e = .returned (.int .i64 r) ∧ Drawn0 w w' := by
 have H : (some a0) = some r := h
 clear h
 obtain rfl := Option.some.inj H
 go_enter Try.func14, Try.ntmps14
 go_wp2
 go_ret
 exact ⟨by first | rfl | (simp; done) | (simp [*]; done), by repeat (first | exact Drawn0.refl _ | apply Drawn0.step)⟩

/-! ### templelaw4_awake: function 20 -/
def awIts : List S61 := [⟨1, ⟨#[97, 98]⟩, 0, 0⟩, ⟨0, ⟨#[83]⟩, 0, 0⟩]
def awRaw : List S45 := [⟨⟨#[83]⟩, [[⟨true, awIts⟩]]⟩]
def awSyms : List S56 := [⟨-1, 97, 97⟩, ⟨-1, 98, 98⟩, ⟨0, 0, 0⟩]
def awRules : List S51 := [⟨0, [⟨true, awSyms⟩]⟩]
theorem aw_num (e : Int) : templelaw0_Num.f e = some e := rfl
theorem aw_raw {w : World} {gI gC gA gD : Nat} (h1 : w.heap[gI]? = some (.cells #[.int .i64 1, .string ⟨#[97, 98]⟩, .int .i64 0, .int .i64 0, .int .i64 0, .string ⟨#[83]⟩, .int .i64 0, .int .i64 0] 61 (0, 0))) (h2 : w.heap[gC]? = some (.cells #[.bool true, .slice (some ⟨gI, 0, none⟩) 2 2] 64 (0, 0)))
  (h3 : w.heap[gA]? = some (.cells #[.slice (some ⟨gC, 0, none⟩) 1 1] 65 (0, 0))) (h4 : w.heap[gD]? = some (.cells #[.string ⟨#[83]⟩, .slice (some ⟨gA, 0, none⟩) 1 1] 45 (0, 0))) : Kd.C k45 w (some ⟨gD, 0, none⟩) awRaw.length awRaw := by
 have c1 : Kd.C k61 w (some ⟨gI, 0, none⟩) awIts.length awIts := C_lit h1 (Reps.c4 (k61_mk w ⟨1, ⟨#[97, 98]⟩, 0, 0⟩) (Reps.c4 (k61_mk w ⟨0, ⟨#[83]⟩, 0, 0⟩) (Reps.none _ _))) (by decide)
 have c2 : Kd.C k64 w (some ⟨gC, 0, none⟩) [(⟨true, awIts⟩ : S64)].length [⟨true, awIts⟩] := C_lit h2 (Reps.c2 (k64_mk w ⟨true, awIts⟩ (by decide) c1) (Reps.none _ _)) (by decide)
 have c3 : Kd.C (Kd.slice 64 k64) w (some ⟨gA, 0, none⟩) [[(⟨true, awIts⟩ : S64)]].length [[⟨true, awIts⟩]] := C_lit h3 (Reps.one ⟨_, _, rfl, by decide, c2⟩ (Reps.none _ _)) (by decide)
 exact C_lit h4 (Reps.c2 (k45_mk w ⟨⟨#[83]⟩, [[⟨true, awIts⟩]]⟩ (by decide) c3) (Reps.none _ _)) (by decide)
theorem aw_str {w : World} {g : Nat} {s : ByteArray} (h : w.heap[g]? = some (.cells #[.string s] 9 (0, 0))) : Kd.C Kd.string w (some ⟨g, 0, none⟩) [s].length [s] := C_lit h (Reps.one rfl (Reps.none _ _)) (by simp)
theorem aw_rules {w : World} {gS gC gR : Nat} (h1 : w.heap[gS]? = some (.cells #[.int .i64 (-1), .int .i64 97, .int .i64 97, .int .i64 (-1), .int .i64 98, .int .i64 98, .int .i64 0, .int .i64 0, .int .i64 0] 56 (0, 0))) (h2 : w.heap[gC]? = some (.cells #[.bool true, .slice (some ⟨gS, 0, none⟩) 3 3] 54 (0, 0)))
  (h3 : w.heap[gR]? = some (.cells #[.int .i64 0, .slice (some ⟨gC, 0, none⟩) 1 1] 51 (0, 0))) : Kd.C k51 w (some ⟨gR, 0, none⟩) awRules.length awRules := by
 have c1 : Kd.C k56 w (some ⟨gS, 0, none⟩) awSyms.length awSyms := C_lit h1 (Reps.c3 (k56_mk w ⟨-1, 97, 97⟩) (Reps.c3 (k56_mk w ⟨-1, 98, 98⟩) (Reps.c3 (k56_mk w ⟨0, 0, 0⟩) (Reps.none _ _)))) (by decide)
 have c2 : Kd.C k54 w (some ⟨gC, 0, none⟩) [(⟨true, awSyms⟩ : S54)].length [⟨true, awSyms⟩] := C_lit h2 (Reps.c2 (k54_mk w ⟨true, awSyms⟩ (by decide) c1) (Reps.none _ _)) (by decide)
 exact C_lit h3 (Reps.c2 (k51_mk w ⟨0, [⟨true, awSyms⟩]⟩ (by decide) c2) (Reps.none _ _)) (by decide)
def templelaw4_awake.f (k : Nat) : Option (Bool) :=
 (gram_Build.f k [⟨#[83]⟩] awRaw).bind fun A => (gram_Build.f k [] []).bind fun B => (gram_Build.f k [⟨#[84]⟩] awRaw).bind fun C => (templelaw0_SameGrammar.f A.1 A.2.1 A.2.2.1 0 [⟨#[83]⟩] awRules).bind fun s =>
  if s = true ∧ A.2.2.2.1.data.toList = [] ∧ A.2.2.2.2 = 0 ∧ B.2.2.2.2 = 400 ∧ C.2.2.2.1.data.toList = [84] ∧ C.2.2.2.2 = 402 ∧ mayB A.1 A.2.1 A.2.2.1 = true ∧ mayB 0 [] [] = false then some true else none
theorem templelaw4_awake.mono : ∀ k, LeO (templelaw4_awake.f k) (templelaw4_awake.f (k + 1)) := by
 intro k
 unfold templelaw4_awake.f
 repeat' first
   | (with_reducible exact gram_Build.mono _ _ _)
   | (with_reducible exact LeO.refl _)
   | (with_reducible exact LeO.none _)
   | (with_reducible refine LeO.bind ?_ (fun _ => ?_))
set_option maxHeartbeats 8000000 in
set_option maxRecDepth 100000 in
theorem templelaw4_awake.calls (k : Nat) (r : Bool) (w : World) (h : templelaw4_awake.f k = some r) :
  Calls Try.prog 20 #[] w fun e w' => e = .returned (.bool r) ∧ Below w.heap.size w w' := by
 unfold templelaw4_awake.f at h
 replace h := Option.bind_eq_some_iff.1 h
 obtain ⟨⟨a1, a2, a3, a4, a5⟩, hA, h⟩ := h
 replace h := Option.bind_eq_some_iff.1 h
 obtain ⟨⟨b1, b2, b3, b4, b5⟩, hB, h⟩ := h
 replace h := Option.bind_eq_some_iff.1 h
 obtain ⟨⟨c1, c2, c3, c4, c5⟩, hC, h⟩ := h
 replace h := Option.bind_eq_some_iff.1 h
 obtain ⟨s, hS, h⟩ := h
 dsimp only at hS h
 by_cases hp : s = true ∧ a4.data.toList = [] ∧ a5 = 0 ∧ b5 = 400 ∧ c4.data.toList = [84] ∧ c5 = 402 ∧ mayB a1 a2 a3 = true ∧ mayB 0 [] [] = false
 case neg => rw [if_neg hp] at h; cases h
 rw [if_pos hp] at h
 obtain rfl := Option.some.inj h
 obtain ⟨rfl, h4, rfl, rfl, h5, rfl, hm, hm0⟩ := hp
 obtain rfl : a4 = ⟨#[]⟩ := by cases a4; simp at h4; simp [h4]
 obtain rfl : c4 = ⟨#[84]⟩ := by cases c4; congr 1; exact Array.toList_inj.1 h5
 have FA := Aside0.mk hA
 have FB := Aside0.mk hB
 have FC := Aside0.mk hC
 have FS := Aside0.mk hS
 have FM := Aside0.mk (show gram_May.f a1 a2 a3 = some true by unfold gram_May.f; rw [hm])
 have FN := Aside0.mk (show gram_May.f 0 [] [] = some false by unfold gram_May.f; rw [hm0])
 clear h h4 h5 hA hB hC hS hm hm0
 go_enter Try.func20, Try.ntmps20
 go_upto_region 2 with (fail)
 have hsz : ((((((w.alloc (.cells #[.string ⟨#[83]⟩] 9)).alloc (.cells #[.int .i64 1, .string ⟨#[97, 98]⟩, .int .i64 0, .int .i64 0, .int .i64 0, .string ⟨#[83]⟩, .int .i64 0, .int .i64 0] 61)).alloc (.cells #[.bool true, .slice (some ⟨w.heap.size + 1, 0, none⟩) 2 2] 64)).alloc (.cells #[.slice (some ⟨w.heap.size + 1 + 1, 0, none⟩) 1 1] 65)).alloc (.cells #[.string ⟨#[83]⟩, .slice (some ⟨w.heap.size + 1 + 1 + 1, 0, none⟩) 1 1] 45)).alloc (.cells #[.slice (some ⟨w.heap.size, 0, none⟩) 1 1, .slice (some ⟨w.heap.size + 1 + 1 + 1 + 1, 0, none⟩) 1 1] 25)).heap.size = w.heap.size + 1 + 1 + 1 + 1 + 1 + 1 := by simp
 have m0 := (blk_alloc (blk_alloc (blk_alloc (blk_alloc (blk_alloc (blk_new w (.cells #[.string ⟨#[83]⟩] 9)) (.cells #[.int .i64 1, .string ⟨#[97, 98]⟩, .int .i64 0, .int .i64 0, .int .i64 0, .string ⟨#[83]⟩, .int .i64 0, .int .i64 0] 61)) (.cells #[.bool true, .slice (some ⟨w.heap.size + 1, 0, none⟩) 2 2] 64)) (.cells #[.slice (some ⟨w.heap.size + 1 + 1, 0, none⟩) 1 1] 65)) (.cells #[.string ⟨#[83]⟩, .slice (some ⟨w.heap.size + 1 + 1 + 1, 0, none⟩) 1 1] 45)) (.cells #[.slice (some ⟨w.heap.size, 0, none⟩) 1 1, .slice (some ⟨w.heap.size + 1 + 1 + 1 + 1, 0, none⟩) 1 1] 25))
 have e0 : True := trivial
 have m1 := (blk_alloc (blk_alloc (blk_alloc (blk_alloc (blk_new (w.alloc (.cells #[.string ⟨#[83]⟩] 9)) (.cells #[.int .i64 1, .string ⟨#[97, 98]⟩, .int .i64 0, .int .i64 0, .int .i64 0, .string ⟨#[83]⟩, .int .i64 0, .int .i64 0] 61)) (.cells #[.bool true, .slice (some ⟨w.heap.size + 1, 0, none⟩) 2 2] 64)) (.cells #[.slice (some ⟨w.heap.size + 1 + 1, 0, none⟩) 1 1] 65)) (.cells #[.string ⟨#[83]⟩, .slice (some ⟨w.heap.size + 1 + 1 + 1, 0, none⟩) 1 1] 45)) (.cells #[.slice (some ⟨w.heap.size, 0, none⟩) 1 1, .slice (some ⟨w.heap.size + 1 + 1 + 1 + 1, 0, none⟩) 1 1] 25))
 have e1 : (w.alloc (.cells #[.string ⟨#[83]⟩] 9)).heap.size = w.heap.size + 1 := by simp
 rw [e1] at m1
 have m2 := (blk_alloc (blk_alloc (blk_alloc (blk_new ((w.alloc (.cells #[.string ⟨#[83]⟩] 9)).alloc (.cells #[.int .i64 1, .string ⟨#[97, 98]⟩, .int .i64 0, .int .i64 0, .int .i64 0, .string ⟨#[83]⟩, .int .i64 0, .int .i64 0] 61)) (.cells #[.bool true, .slice (some ⟨w.heap.size + 1, 0, none⟩) 2 2] 64)) (.cells #[.slice (some ⟨w.heap.size + 1 + 1, 0, none⟩) 1 1] 65)) (.cells #[.string ⟨#[83]⟩, .slice (some ⟨w.heap.size + 1 + 1 + 1, 0, none⟩) 1 1] 45)) (.cells #[.slice (some ⟨w.heap.size, 0, none⟩) 1 1, .slice (some ⟨w.heap.size + 1 + 1 + 1 + 1, 0, none⟩) 1 1] 25))
 have e2 : ((w.alloc (.cells #[.string ⟨#[83]⟩] 9)).alloc (.cells #[.int .i64 1, .string ⟨#[97, 98]⟩, .int .i64 0, .int .i64 0, .int .i64 0, .string ⟨#[83]⟩, .int .i64 0, .int .i64 0] 61)).heap.size = w.heap.size + 1 + 1 := by simp
 rw [e2] at m2
 have m3 := (blk_alloc (blk_alloc (blk_new (((w.alloc (.cells #[.string ⟨#[83]⟩] 9)).alloc (.cells #[.int .i64 1, .string ⟨#[97, 98]⟩, .int .i64 0, .int .i64 0, .int .i64 0, .string ⟨#[83]⟩, .int .i64 0, .int .i64 0] 61)).alloc (.cells #[.bool true, .slice (some ⟨w.heap.size + 1, 0, none⟩) 2 2] 64)) (.cells #[.slice (some ⟨w.heap.size + 1 + 1, 0, none⟩) 1 1] 65)) (.cells #[.string ⟨#[83]⟩, .slice (some ⟨w.heap.size + 1 + 1 + 1, 0, none⟩) 1 1] 45)) (.cells #[.slice (some ⟨w.heap.size, 0, none⟩) 1 1, .slice (some ⟨w.heap.size + 1 + 1 + 1 + 1, 0, none⟩) 1 1] 25))
 have e3 : (((w.alloc (.cells #[.string ⟨#[83]⟩] 9)).alloc (.cells #[.int .i64 1, .string ⟨#[97, 98]⟩, .int .i64 0, .int .i64 0, .int .i64 0, .string ⟨#[83]⟩, .int .i64 0, .int .i64 0] 61)).alloc (.cells #[.bool true, .slice (some ⟨w.heap.size + 1, 0, none⟩) 2 2] 64)).heap.size = w.heap.size + 1 + 1 + 1 := by simp
 rw [e3] at m3
 have m4 := (blk_alloc (blk_new ((((w.alloc (.cells #[.string ⟨#[83]⟩] 9)).alloc (.cells #[.int .i64 1, .string ⟨#[97, 98]⟩, .int .i64 0, .int .i64 0, .int .i64 0, .string ⟨#[83]⟩, .int .i64 0, .int .i64 0] 61)).alloc (.cells #[.bool true, .slice (some ⟨w.heap.size + 1, 0, none⟩) 2 2] 64)).alloc (.cells #[.slice (some ⟨w.heap.size + 1 + 1, 0, none⟩) 1 1] 65)) (.cells #[.string ⟨#[83]⟩, .slice (some ⟨w.heap.size + 1 + 1 + 1, 0, none⟩) 1 1] 45)) (.cells #[.slice (some ⟨w.heap.size, 0, none⟩) 1 1, .slice (some ⟨w.heap.size + 1 + 1 + 1 + 1, 0, none⟩) 1 1] 25))
 have e4 : ((((w.alloc (.cells #[.string ⟨#[83]⟩] 9)).alloc (.cells #[.int .i64 1, .string ⟨#[97, 98]⟩, .int .i64 0, .int .i64 0, .int .i64 0, .string ⟨#[83]⟩, .int .i64 0, .int .i64 0] 61)).alloc (.cells #[.bool true, .slice (some ⟨w.heap.size + 1, 0, none⟩) 2 2] 64)).alloc (.cells #[.slice (some ⟨w.heap.size + 1 + 1, 0, none⟩) 1 1] 65)).heap.size = w.heap.size + 1 + 1 + 1 + 1 := by simp
 rw [e4] at m4
 have m5 := (blk_new (((((w.alloc (.cells #[.string ⟨#[83]⟩] 9)).alloc (.cells #[.int .i64 1, .string ⟨#[97, 98]⟩, .int .i64 0, .int .i64 0, .int .i64 0, .string ⟨#[83]⟩, .int .i64 0, .int .i64 0] 61)).alloc (.cells #[.bool true, .slice (some ⟨w.heap.size + 1, 0, none⟩) 2 2] 64)).alloc (.cells #[.slice (some ⟨w.heap.size + 1 + 1, 0, none⟩) 1 1] 65)).alloc (.cells #[.string ⟨#[83]⟩, .slice (some ⟨w.heap.size + 1 + 1 + 1, 0, none⟩) 1 1] 45)) (.cells #[.slice (some ⟨w.heap.size, 0, none⟩) 1 1, .slice (some ⟨w.heap.size + 1 + 1 + 1 + 1, 0, none⟩) 1 1] 25))
 have e5 : (((((w.alloc (.cells #[.string ⟨#[83]⟩] 9)).alloc (.cells #[.int .i64 1, .string ⟨#[97, 98]⟩, .int .i64 0, .int .i64 0, .int .i64 0, .string ⟨#[83]⟩, .int .i64 0, .int .i64 0] 61)).alloc (.cells #[.bool true, .slice (some ⟨w.heap.size + 1, 0, none⟩) 2 2] 64)).alloc (.cells #[.slice (some ⟨w.heap.size + 1 + 1, 0, none⟩) 1 1] 65)).alloc (.cells #[.string ⟨#[83]⟩, .slice (some ⟨w.heap.size + 1 + 1 + 1, 0, none⟩) 1 1] 45)).heap.size = w.heap.size + 1 + 1 + 1 + 1 + 1 := by simp
 rw [e5] at m5
 have hb := below_alloc (below_alloc (below_alloc (below_alloc (below_alloc (below_alloc (Below.refl w.heap.size w) (.cells #[.string ⟨#[83]⟩] 9)) (.cells #[.int .i64 1, .string ⟨#[97, 98]⟩, .int .i64 0, .int .i64 0, .int .i64 0, .string ⟨#[83]⟩, .int .i64 0, .int .i64 0] 61)) (.cells #[.bool true, .slice (some ⟨w.heap.size + 1, 0, none⟩) 2 2] 64)) (.cells #[.slice (some ⟨w.heap.size + 1 + 1, 0, none⟩) 1 1] 65)) (.cells #[.string ⟨#[83]⟩, .slice (some ⟨w.heap.size + 1 + 1 + 1, 0, none⟩) 1 1] 45)) (.cells #[.slice (some ⟨w.heap.size, 0, none⟩) 1 1, .slice (some ⟨w.heap.size + 1 + 1 + 1 + 1, 0, none⟩) 1 1] 25)
 clear e0 e1 e2 e3 e4 e5
 have M := Aside0.mk (And.intro hb (And.intro hsz (And.intro m0 (And.intro m1 (And.intro m2 (And.intro m3 (And.intro m4 m5)))))))
 clear hb hsz m0 m1 m2 m3 m4 m5
 generalize ((((((w.alloc (.cells #[.string ⟨#[83]⟩] 9)).alloc (.cells #[.int .i64 1, .string ⟨#[97, 98]⟩, .int .i64 0, .int .i64 0, .int .i64 0, .string ⟨#[83]⟩, .int .i64 0, .int .i64 0] 61)).alloc (.cells #[.bool true, .slice (some ⟨w.heap.size + 1, 0, none⟩) 2 2] 64)).alloc (.cells #[.slice (some ⟨w.heap.size + 1 + 1, 0, none⟩) 1 1] 65)).alloc (.cells #[.string ⟨#[83]⟩, .slice (some ⟨w.heap.size + 1 + 1 + 1, 0, none⟩) 1 1] 45)).alloc (.cells #[.slice (some ⟨w.heap.size, 0, none⟩) 1 1, .slice (some ⟨w.heap.size + 1 + 1 + 1 + 1, 0, none⟩) 1 1] 25)) = W0 at *
 have hS := Aside0.mk (aw_str M.out.2.2.1)
 have hR := Aside0.mk (aw_raw M.out.2.2.2.1 M.out.2.2.2.2.1 M.out.2.2.2.2.2.1 M.out.2.2.2.2.2.2.1)
 have kk0 : W0.cell? ⟨w.heap.size + 1 + 1 + 1 + 1 + 1, 0, none⟩ = some (.slice (some ⟨w.heap.size, 0, none⟩) 1 1) := (blk_cell M.out.2.2.2.2.2.2.2 0).trans rfl
 have kk1 : W0.cell? ⟨w.heap.size + 1 + 1 + 1 + 1 + 1, 1, none⟩ = some (.slice (some ⟨w.heap.size + 1 + 1 + 1 + 1, 0, none⟩) 1 1) := (blk_cell M.out.2.2.2.2.2.2.2 1).trans rfl
 go_upto_region 3 with (first | (go_at_call 11; refine (gram_Build.calls k _ 1 [⟨#[83]⟩] _ 1 awRaw a1 a2 a3 ⟨#[]⟩ 0 _ hS.out (Nat.le_refl _) hR.out (Nat.le_refl _) FA.out).mono ?_; rintro e w1 ⟨v0, v1, rfl, h0, h1, hb⟩; (obtain ⟨P1, p1, rfl⟩ := Kd.R_slice h0); (obtain ⟨P2, p2, rfl⟩ := Kd.R_slice h1); have D1 := Aside0.mk (And.intro h0 (And.intro h1 hb)); clear h0 h1 hb))
 clear kk0 kk1
 have hZ : Below W0.heap.size W0 (w1.alloc (.cells #[.int .i64 a1, .slice P1 a2.length p1, .slice P2 a3.length p2] 28)) := below_alloc D1.out.2.2 _
 have hBx := blk_new w1 (.cells #[.int .i64 a1, .slice P1 a2.length p1, .slice P2 a3.length p2] 28)
 have hlt : w1.heap.size < (w1.alloc (.cells #[.int .i64 a1, .slice P1 a2.length p1, .slice P2 a3.length p2] 28)).heap.size ∧ W0.heap.size ≤ w1.heap.size := ⟨by simp, D1.out.2.2.size⟩
 have hq0 := Kd.R_below D1.out.1 (below_alloc (Below.refl w1.heap.size w1) (.cells #[.int .i64 a1, .slice P1 a2.length p1, .slice P2 a3.length p2] 28))
 have hq1 := Kd.R_below D1.out.2.1 (below_alloc (Below.refl w1.heap.size w1) (.cells #[.int .i64 a1, .slice P1 a2.length p1, .slice P2 a3.length p2] 28))
 have E1 := Aside0.mk (And.intro hZ (And.intro hBx (And.intro hq0 (And.intro hq1 hlt))))
 clear hZ hBx hq0 hq1 hlt D1
 generalize w1.alloc (.cells #[.int .i64 a1, .slice P1 a2.length p1, .slice P2 a3.length p2] 28) = W1 at *
 generalize w1.heap.size = g2 at *
 go_upto_region 4 with (first | (go_at_call 11; refine (gram_Build.calls k none 0 [] none 0 [] b1 b2 b3 b4 400 _ (Kd.C_nil _ _) (Nat.le_refl _) (Kd.C_nil _ _) (Nat.le_refl _) FB.out).mono ?_; rintro e w2 ⟨v0, v1, rfl, h0, h1, hb⟩; (obtain ⟨Q1, q1, rfl⟩ := Kd.R_slice h0); (obtain ⟨Q2, q2, rfl⟩ := Kd.R_slice h1); have D2 := Aside0.mk (And.intro h0 (And.intro h1 hb)); clear h0 h1 hb))
 have hZ : Below W1.heap.size W1 (w2.alloc (.cells #[.int .i64 b1, .slice Q1 b2.length q1, .slice Q2 b3.length q2] 28)) := below_alloc D2.out.2.2 _
 have hBx := blk_new w2 (.cells #[.int .i64 b1, .slice Q1 b2.length q1, .slice Q2 b3.length q2] 28)
 have hlt : w2.heap.size < (w2.alloc (.cells #[.int .i64 b1, .slice Q1 b2.length q1, .slice Q2 b3.length q2] 28)).heap.size ∧ W1.heap.size ≤ w2.heap.size := ⟨by simp, D2.out.2.2.size⟩
 have hq0 := Kd.R_below D2.out.1 (below_alloc (Below.refl w2.heap.size w2) (.cells #[.int .i64 b1, .slice Q1 b2.length q1, .slice Q2 b3.length q2] 28))
 have hq1 := Kd.R_below D2.out.2.1 (below_alloc (Below.refl w2.heap.size w2) (.cells #[.int .i64 b1, .slice Q1 b2.length q1, .slice Q2 b3.length q2] 28))
 have E2 := Aside0.mk (And.intro hZ (And.intro hBx (And.intro hq0 (And.intro hq1 hlt))))
 clear hZ hBx hq0 hq1 hlt D2
 generalize w2.alloc (.cells #[.int .i64 b1, .slice Q1 b2.length q1, .slice Q2 b3.length q2] 28) = W2 at *
 generalize w2.heap.size = g5 at *
 have b02 := Aside0.mk (E1.out.1.trans (E2.out.1.mono E1.out.1.size))
 have kk0 : W2.cell? ⟨w.heap.size + 1 + 1 + 1 + 1 + 1, 0, none⟩ = some (.slice (some ⟨w.heap.size, 0, none⟩) 1 1) := (blk_cell ((b02.out.block _ (by rw [M.out.2.1]; omega)).trans M.out.2.2.2.2.2.2.2) 0).trans rfl
 have m0 := (b02.out.block w.heap.size (by rw [M.out.2.1]; omega)).trans M.out.2.2.1
 have kk2 : W2.cell? ⟨w.heap.size, 0, none⟩ = some (.string ⟨#[83]⟩) := (blk_cell m0 0).trans rfl
 have kk3 := blk_frozen m0 0
 go_upto_region 5 with (fail)
 clear kk0 kk2 kk3
 have n0 := blk_put m0 0 (.string ⟨#[84]⟩) rfl
 have n1 := blk_far ((b02.out.block (w.heap.size + 1) (by rw [M.out.2.1]; omega)).trans M.out.2.2.2.1) (p := ⟨w.heap.size, 0, none⟩) (by show w.heap.size + 1 ≠ w.heap.size; omega) (.string ⟨#[84]⟩)
 have n2 := blk_far ((b02.out.block (w.heap.size + 1 + 1) (by rw [M.out.2.1]; omega)).trans M.out.2.2.2.2.1) (p := ⟨w.heap.size, 0, none⟩) (by show w.heap.size + 1 + 1 ≠ w.heap.size; omega) (.string ⟨#[84]⟩)
 have n3 := blk_far ((b02.out.block (w.heap.size + 1 + 1 + 1) (by rw [M.out.2.1]; omega)).trans M.out.2.2.2.2.2.1) (p := ⟨w.heap.size, 0, none⟩) (by show w.heap.size + 1 + 1 + 1 ≠ w.heap.size; omega) (.string ⟨#[84]⟩)
 have n4 := blk_far ((b02.out.block (w.heap.size + 1 + 1 + 1 + 1) (by rw [M.out.2.1]; omega)).trans M.out.2.2.2.2.2.2.1) (p := ⟨w.heap.size, 0, none⟩) (by show w.heap.size + 1 + 1 + 1 + 1 ≠ w.heap.size; omega) (.string ⟨#[84]⟩)
 have n5 := blk_far ((b02.out.block (w.heap.size + 1 + 1 + 1 + 1 + 1) (by rw [M.out.2.1]; omega)).trans M.out.2.2.2.2.2.2.2) (p := ⟨w.heap.size, 0, none⟩) (by show w.heap.size + 1 + 1 + 1 + 1 + 1 ≠ w.heap.size; omega) (.string ⟨#[84]⟩)
 have hlo : w.heap.size < W0.heap.size := by rw [M.out.2.1]; omega
 have hbox := blk_far ((E2.out.1.block g2 E1.out.2.2.2.2.1).trans E1.out.2.1) (p := ⟨w.heap.size, 0, none⟩) (by show g2 ≠ w.heap.size; have := E1.out.2.2.2.2.2; omega) (.string ⟨#[84]⟩)
 have hp0 := Kd.R_far (p := ⟨w.heap.size, 0, none⟩) (Kd.R_below (Kd.R_mono (Kd.R_bound E1.out.2.2.1) (fun k hk => hk.2.1)) E2.out.1) (fun k hk => by show k ≠ w.heap.size; have : W0.heap.size ≤ k := hk; omega) (.string ⟨#[84]⟩)
 have hp1 := Kd.R_far (p := ⟨w.heap.size, 0, none⟩) (Kd.R_below (Kd.R_mono (Kd.R_bound E1.out.2.2.2.1) (fun k hk => hk.2.1)) E2.out.1) (fun k hk => by show k ≠ w.heap.size; have : W0.heap.size ≤ k := hk; omega) (.string ⟨#[84]⟩)
 have hbl := ((M.out.1.trans (b02.out.mono M.out.1.size)).setCell (p := ⟨w.heap.size, 0, none⟩) (Nat.le_refl _) (.string ⟨#[84]⟩))
 have hg2 : g2 < (W2.setCell ⟨w.heap.size, 0, none⟩ (.string ⟨#[84]⟩)).heap.size := Nat.lt_of_lt_of_le (Nat.lt_of_lt_of_le E1.out.2.2.2.2.1 E2.out.1.size) (Nat.le_of_eq (by simp))
 have N := Aside0.mk (And.intro n0 (And.intro n1 (And.intro n2 (And.intro n3 (And.intro n4 (And.intro n5 (And.intro hbox (And.intro hp0 (And.intro hp1 (And.intro hbl hg2))))))))))
 clear n0 n1 n2 n3 n4 n5 hbox hp0 hp1 hbl hg2 hlo m0 b02 E1 E2 M hS hR
 generalize (W2.setCell ⟨w.heap.size, 0, none⟩ (.string ⟨#[84]⟩)) = W3 at *
 have hS := Aside0.mk (aw_str N.out.1)
 have hR := Aside0.mk (aw_raw N.out.2.1 N.out.2.2.1 N.out.2.2.2.1 N.out.2.2.2.2.1)
 have kk0 : W3.cell? ⟨w.heap.size + 1 + 1 + 1 + 1 + 1, 0, none⟩ = some (.slice (some ⟨w.heap.size, 0, none⟩) 1 1) := (blk_cell N.out.2.2.2.2.2.1 0).trans rfl
 have kk1 : W3.cell? ⟨w.heap.size + 1 + 1 + 1 + 1 + 1, 1, none⟩ = some (.slice (some ⟨w.heap.size + 1 + 1 + 1 + 1, 0, none⟩) 1 1) := (blk_cell N.out.2.2.2.2.2.1 1).trans rfl
 go_upto_region 6 with (first | (go_at_call 11; refine (gram_Build.calls k _ 1 [⟨#[84]⟩] _ 1 awRaw c1 c2 c3 ⟨#[84]⟩ 402 _ hS.out (Nat.le_refl _) hR.out (Nat.le_refl _) FC.out).mono ?_; rintro e w3 ⟨v0, v1, rfl, h0, h1, hb⟩; (obtain ⟨V1, u1, rfl⟩ := Kd.R_slice h0); (obtain ⟨V2, u2, rfl⟩ := Kd.R_slice h1); have D3 := Aside0.mk (And.intro h0 (And.intro h1 hb)); clear h0 h1 hb))
 clear kk0 kk1 hS hR
 have hZ : Below W3.heap.size W3 (w3.alloc (.cells #[.int .i64 c1, .slice V1 c2.length u1, .slice V2 c3.length u2] 28)) := below_alloc D3.out.2.2 _
 have hBx := blk_new w3 (.cells #[.int .i64 c1, .slice V1 c2.length u1, .slice V2 c3.length u2] 28)
 have hlt : w3.heap.size < (w3.alloc (.cells #[.int .i64 c1, .slice V1 c2.length u1, .slice V2 c3.length u2] 28)).heap.size ∧ W3.heap.size ≤ w3.heap.size := ⟨by simp, D3.out.2.2.size⟩
 have hq0 := Kd.R_below D3.out.1 (below_alloc (Below.refl w3.heap.size w3) (.cells #[.int .i64 c1, .slice V1 c2.length u1, .slice V2 c3.length u2] 28))
 have hq1 := Kd.R_below D3.out.2.1 (below_alloc (Below.refl w3.heap.size w3) (.cells #[.int .i64 c1, .slice V1 c2.length u1, .slice V2 c3.length u2] 28))
 have E3 := Aside0.mk (And.intro hZ (And.intro hBx (And.intro hq0 (And.intro hq1 hlt))))
 clear hZ hBx hq0 hq1 hlt D3
 generalize w3.alloc (.cells #[.int .i64 c1, .slice V1 c2.length u1, .slice V2 c3.length u2] 28) = W4 at *
 generalize w3.heap.size = g8 at *
 have m0 := (blk_alloc (blk_alloc (blk_alloc (blk_new W4 (.cells #[.string ⟨#[83]⟩] 9)) (.cells #[.int .i64 (-1), .int .i64 97, .int .i64 97, .int .i64 (-1), .int .i64 98, .int .i64 98, .int .i64 0, .int .i64 0, .int .i64 0] 56)) (.cells #[.bool true, .slice (some ⟨W4.heap.size + 1, 0, none⟩) 3 3] 54)) (.cells #[.int .i64 0, .slice (some ⟨W4.heap.size + 1 + 1, 0, none⟩) 1 1] 51))
 have m1 := (blk_alloc (blk_alloc (blk_new (W4.alloc (.cells #[.string ⟨#[83]⟩] 9)) (.cells #[.int .i64 (-1), .int .i64 97, .int .i64 97, .int .i64 (-1), .int .i64 98, .int .i64 98, .int .i64 0, .int .i64 0, .int .i64 0] 56)) (.cells #[.bool true, .slice (some ⟨W4.heap.size + 1, 0, none⟩) 3 3] 54)) (.cells #[.int .i64 0, .slice (some ⟨W4.heap.size + 1 + 1, 0, none⟩) 1 1] 51))
 have e1 : (W4.alloc (.cells #[.string ⟨#[83]⟩] 9)).heap.size = W4.heap.size + 1 := by simp
 rw [e1] at m1
 clear e1
 have m2 := (blk_alloc (blk_new ((W4.alloc (.cells #[.string ⟨#[83]⟩] 9)).alloc (.cells #[.int .i64 (-1), .int .i64 97, .int .i64 97, .int .i64 (-1), .int .i64 98, .int .i64 98, .int .i64 0, .int .i64 0, .int .i64 0] 56)) (.cells #[.bool true, .slice (some ⟨W4.heap.size + 1, 0, none⟩) 3 3] 54)) (.cells #[.int .i64 0, .slice (some ⟨W4.heap.size + 1 + 1, 0, none⟩) 1 1] 51))
 have e2 : ((W4.alloc (.cells #[.string ⟨#[83]⟩] 9)).alloc (.cells #[.int .i64 (-1), .int .i64 97, .int .i64 97, .int .i64 (-1), .int .i64 98, .int .i64 98, .int .i64 0, .int .i64 0, .int .i64 0] 56)).heap.size = W4.heap.size + 1 + 1 := by simp
 rw [e2] at m2
 clear e2
 have m3 := (blk_new (((W4.alloc (.cells #[.string ⟨#[83]⟩] 9)).alloc (.cells #[.int .i64 (-1), .int .i64 97, .int .i64 97, .int .i64 (-1), .int .i64 98, .int .i64 98, .int .i64 0, .int .i64 0, .int .i64 0] 56)).alloc (.cells #[.bool true, .slice (some ⟨W4.heap.size + 1, 0, none⟩) 3 3] 54)) (.cells #[.int .i64 0, .slice (some ⟨W4.heap.size + 1 + 1, 0, none⟩) 1 1] 51))
 have e3 : (((W4.alloc (.cells #[.string ⟨#[83]⟩] 9)).alloc (.cells #[.int .i64 (-1), .int .i64 97, .int .i64 97, .int .i64 (-1), .int .i64 98, .int .i64 98, .int .i64 0, .int .i64 0, .int .i64 0] 56)).alloc (.cells #[.bool true, .slice (some ⟨W4.heap.size + 1, 0, none⟩) 3 3] 54)).heap.size = W4.heap.size + 1 + 1 + 1 := by simp
 rw [e3] at m3
 clear e3
 have hb5 := below_alloc (below_alloc (below_alloc (below_alloc (Below.refl W4.heap.size W4) (.cells #[.string ⟨#[83]⟩] 9)) (.cells #[.int .i64 (-1), .int .i64 97, .int .i64 97, .int .i64 (-1), .int .i64 98, .int .i64 98, .int .i64 0, .int .i64 0, .int .i64 0] 56)) (.cells #[.bool true, .slice (some ⟨W4.heap.size + 1, 0, none⟩) 3 3] 54)) (.cells #[.int .i64 0, .slice (some ⟨W4.heap.size + 1 + 1, 0, none⟩) 1 1] 51)
 have Z := Aside0.mk (And.intro (aw_str m0) (And.intro (aw_rules m1 m2 m3) hb5))
 clear m0 m1 m2 m3 hb5
 have hW4 := (E3.out.1.block g2 N.out.2.2.2.2.2.2.2.2.2.2).trans N.out.2.2.2.2.2.2.1
 have hc4 : Aside0 (g2 < W4.heap.size) := ⟨Nat.lt_of_lt_of_le N.out.2.2.2.2.2.2.2.2.2.2 E3.out.1.size⟩
 have hcs : ∀ w', Below W4.heap.size W4 w' → w'.cell? ⟨g2, 0, none⟩ = some (.int .i64 a1) ∧ w'.cell? ⟨g2, 1, none⟩ = some (.slice P1 a2.length p1) ∧ w'.cell? ⟨g2, 2, none⟩ = some (.slice P2 a3.length p2) := fun w' h => ⟨(blk_cell ((h.block g2 hc4.out).trans hW4) 0).trans rfl, (blk_cell ((h.block g2 hc4.out).trans hW4) 1).trans rfl, (blk_cell ((h.block g2 hc4.out).trans hW4) 2).trans rfl⟩
 obtain ⟨k1, k2, k3⟩ := hcs W4 (Below.refl _ _)
 have PC := Aside0.mk (And.intro (Kd.C_below (Kd.R_reads' N.out.2.2.2.2.2.2.2.1).2.2 E3.out.1) (And.intro (Kd.C_below (Kd.R_reads' N.out.2.2.2.2.2.2.2.2.1).2.2 E3.out.1) (And.intro (Kd.R_reads' N.out.2.2.2.2.2.2.2.1).2.1 (Kd.R_reads' N.out.2.2.2.2.2.2.2.2.1).2.1)))
 have BW := Aside0.mk (N.out.2.2.2.2.2.2.2.2.2.1.trans (E3.out.1.mono N.out.2.2.2.2.2.2.2.2.2.1.size))
 go_wp2_with (first | (go_at_call 17; (with_reducible refine (gram_May.calls a1 P1 p1 a2 P2 p2 a3 true _ (Kd.C_drewN (Kd.C_below PC.out.1 hb5.out) _) PC.out.2.2.1 (Kd.C_drewN (Kd.C_below PC.out.2.1 hb5.out) _) PC.out.2.2.2 FM.out).mono ?_); rintro e w6 ⟨rfl, hq⟩; have hb6 := Aside0.mk hq; clear hq) | (go_at_call 17; refine (gram_May.calls 0 none 0 [] none 0 [] false _ (Kd.C_nil _ _) (Nat.le_refl _) (Kd.C_nil _ _) (Nat.le_refl _) FN.out).mono ?_; rintro e w7 ⟨rfl, hq⟩; have hb7 := Aside0.mk hq; clear hq) | (go_at_call 13; refine (templelaw0_SameGrammar.calls a1 P1 p1 a2 P2 p2 a3 0 _ 1 [⟨#[83]⟩] _ 1 awRules true _ (Kd.C_below PC.out.1 Z.out.2.2) PC.out.2.2.1 (Kd.C_below PC.out.2.1 Z.out.2.2) PC.out.2.2.2 Z.out.1 (Nat.le_refl _) Z.out.2.1 (Nat.le_refl _) FS.out).mono ?_; rintro e w5 ⟨rfl, hq⟩; have hb5 := Aside0.mk (Z.out.2.2.trans (hq.mono Z.out.2.2.size)); clear hq; (obtain ⟨j1, j2, j3⟩ := hcs w5 hb5.out)) | (go_at_call 14; (with_reducible refine (templelaw0_Num.calls 0 0 _ (aw_num 0)).mono ?_); rintro e w' ⟨rfl, ⟨nd, rfl⟩⟩) | (go_at_call 14; (with_reducible refine (templelaw0_Num.calls 400 400 _ (aw_num 400)).mono ?_); rintro e w' ⟨rfl, ⟨nd, rfl⟩⟩) | (go_at_call 14; (with_reducible refine (templelaw0_Num.calls 402 402 _ (aw_num 402)).mono ?_); rintro e w' ⟨rfl, ⟨nd, rfl⟩⟩))
 go_ret
 refine ⟨rfl, ?_⟩
 have y5 := BW.out.trans (hb5.out.mono BW.out.size)
 have y6 := (pw_below_drewN y5 _).trans (hb6.out.mono (pw_below_drewN y5 _).size)
 exact y6.trans (hb7.out.mono y6.size)


end Go.Proofs.Ytdjnpgigdchfkaa.PBR
