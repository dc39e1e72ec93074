-- written by a program of the session's (wip/myprint.py) out of the translation
import Derived.Test.YtmpilejhnolafaaPPJx0
import Derived.Test.YtmpilejhnolafaaPPJx5
import Derived.Test.YtmpilejhnolafaaPPJx8
namespace Go.Proofs.Ytmpilejhnolafaa.PPJ
open Go.RowKit Go.Proofs.YtmpilejhnolafaaW.PrintWords Go.Proofs.YtmpilejhnolafaaW.PrintLast Go.Proofs.YtmpilejhnolafaaW.PrintMore
attribute [local go_sem] max2_int min2_int max_two min_two max_three min_three max_four min_four   -- for this text's walks alone
set_option linter.unusedVariables false
set_option linter.unusedSimpArgs false

/-! ### templelaw3_ParseJoins: function 4 -/
def pj.T12 : Bool × List (List Nat × List Nat) := (true, [([], []), ([], []), ([1], [1]), ([0, 2], [0, 2]), ([], []), ([4], [4]), ([3, 5, 3], [3, 5]), ([], []), ([], []), ([8], [8]), ([7, 9, 6], [7, 9]), ([], []), ([11], [11]), ([10, 12, 10], [10, 12]), ([6, 13], [6, 13]), ([], []), ([15, 14, 13, 0, 1, 2, 3, 4, 5, 6, 7, 8, 9, 10, 11, 12, 13, 14, 15], [14, 15])])
def pj.B12 : List Nat := [0, 0, 2, 7, 0, 16, 63, 0, 0, 256, 1023, 0, 2048, 8191, 16383, 0, 65535]
theorem pj.tab12 : rtab .any (opsOf Try.f4 12) = pj.T12 := by kernel_rfl
theorem pj.bits12 : waitsOk pj.T12.2 pj.B12 = true := by kernel_rfl
/-- A row of its own: what it says leans on its own block alone. -/
def RowT {α : Type} (d : Kd α) (e : Nat) (w : World) (base : Nat) (v : Value) (xs : List α) : Prop := d.R e w base (fun k => some k = v.ownBlock) v xs
theorem RowT.of {α : Type} {d : Kd α} {e base : Nat} {w : World} {ok : Nat → Prop} {v : Value} {xs : List α} (hE : d.E = []) (h : d.R e w base ok v xs) : RowT d e w base v xs := Kd.R_tight hE h
theorem RowT.box {α : Type} {d : Kd α} {e base : Nat} {w w1 : World} {v : Value} {xs : List α} (h : RowT d e w base v xs) (hb : Below w.heap.size w w1) : RowT d e w1 base v xs := Kd.R_below h hb
theorem RowT.lit {α : Type} {d : Kd α} {e base : Nat} {w w1 : World} {v : Value} {xs : List α} (h : RowT d e w base v xs) (hg : w.grownBy w1 none) : RowT d e w1 base v xs := Kd.R_step h (fun k _ hlt => hg.block k hlt (by simp))
theorem RowT.other {α β : Type} {d : Kd α} {d' : Kd β} {e e' base : Nat} {w w1 : World} {v v' : Value} {xs : List α} {ys : List β} (h : RowT d e w base v xs) (h' : RowT d' e' w base v' ys) (hne : e ≠ e') (hg : w.grownBy w1 v'.ownBlock) : RowT d e w1 base v xs :=
 Kd.R_step h (fun k hk hlt => hg.block k hlt (fun he => by
  obtain ⟨c1, h1⟩ := Kd.R_typed h k hk.symm
  obtain ⟨c2, h2⟩ := Kd.R_typed h' k he.symm
  rw [h1] at h2
  injection h2 with h2
  injection h2 with _ h2
  exact hne h2))
theorem RowT.set {α : Type} {d : Kd α} {e t base : Nat} {w : World} {v : Value} {xs : List α} (h : RowT d e w base v xs) {g : Nat} {cs : Array Value} (hg : w.heap[g]? = some (.cells cs t (0, 0))) (hne : e ≠ t) (j : Nat) (u : Value) : RowT d e (w.setCell ⟨g, j, none⟩ u) base v xs :=
 Kd.R_far h (fun k hk => fun he => by
  have he : k = g := he
  obtain ⟨c1, h1⟩ := Kd.R_typed h k hk.symm
  rw [he, hg] at h1
  injection h1 with h1
  injection h1 with _ h1
  exact hne h1.symm) u
theorem below_cell {B : Nat} {w w' : World} (hb : Below B w w') {g j : Nat} {v : Value} (hlt : g < B) (h : w.cell? ⟨g, j, none⟩ = some v) : w'.cell? ⟨g, j, none⟩ = some v := by
 rw [← h]
 unfold World.cell?
 rw [hb.block g hlt]
/-- The cells of rows that are read. -/
theorem rows_of {α : Type} {Rr : α → List Value → Prop} {sz n : Nat} {w : World} {A : Option Addr} {xs : List α} (h : ReadsRow Rr sz w A n xs) (h1 : ∀ x c, Rr x c → ∀ u ∈ c, u.oneCell' = true) :
  ∃ rows : List (List Value), rows.length = n ∧ (Kd.raw sz).C w A n rows ∧ ∀ (j : Nat) (x : α) (c : List Value), xs[j]? = some x → rows[j]? = some c → Rr x c := by
 obtain ⟨hl, hm, hc⟩ := h
 by_cases hn : 0 < n
 case neg =>
  refine ⟨[], by simp; omega, ⟨by simp; omega, hm, fun h => absurd h hn⟩, fun j x c _ hc => by simp at hc⟩
 obtain ⟨ad, hA, hc⟩ := hc hn
 have hch : ∀ j : Fin n, ∃ c, c.length = sz ∧ Rr (xs[j.1]'(by omega)) c ∧ ∀ i u, c[i]? = some u → w.cell? (ad.add (j.1 * sz + i)) = some u := fun j => hc j.1 _ (List.getElem?_eq_getElem (by omega))
 refine ⟨List.ofFn (fun j : Fin n => Classical.choose (hch j)), by simp, ⟨by simp, hm, fun _ => ⟨ad, hA, fun j p hp => ?_⟩⟩, fun j x c hx hr => ?_⟩
 ·rw [List.getElem?_ofFn] at hp
  split at hp
  ·rename_i hj
   obtain rfl := Option.some.inj hp
   have := Classical.choose_spec (hch ⟨j, hj⟩)
   exact ⟨_, this.1, ⟨rfl, this.1, h1 _ _ this.2.1⟩, this.2.2⟩
  ·cases hp
 ·rw [List.getElem?_ofFn] at hr
  split at hr
  ·rename_i hj
   obtain rfl := Option.some.inj hr
   have := Classical.choose_spec (hch ⟨j, hj⟩)
   rw [List.getElem?_eq_getElem (by omega)] at hx
   obtain rfl := Option.some.inj hx
   exact this.2.1
  ·cases hr
/-- Two rows' cells, told again as what they say. -/
theorem rows_C {α : Type} {d : Kd α} {w : World} {A : Option Addr} {xs ys : List α} {rows rows' : List (List Value)} (hl : rows.length = xs.length) (hl' : rows'.length = ys.length) (h : (Kd.raw d.sz).C w A (rows ++ rows').length (rows ++ rows'))
  (h1 : ∀ (j : Nat) (x : α) (c : List Value), xs[j]? = some x → rows[j]? = some c → d.K w x c) (h2 : ∀ (j : Nat) (x : α) (c : List Value), ys[j]? = some x → rows'[j]? = some c → d.K w x c) : d.C w A (xs ++ ys).length (xs ++ ys) := by
 obtain ⟨h3, h4, h5⟩ := h
 have e : (rows ++ rows').length = (xs ++ ys).length := by rw [List.length_append, List.length_append, hl, hl']
 refine ⟨rfl, by rw [← e]; exact h4, fun hn => ?_⟩
 obtain ⟨ad, hA, hc⟩ := h5 (by rw [e]; exact hn)
 refine ⟨ad, hA, fun j p hp => ?_⟩
 have hj : j < (xs ++ ys).length := (List.getElem?_eq_some_iff.1 hp).1
 have hr : (rows ++ rows')[j]? = some ((rows ++ rows')[j]'(by omega)) := List.getElem?_eq_getElem (by omega)
 obtain ⟨c, g1, ⟨rfl, _, _⟩, g2⟩ := hc j _ hr
 refine ⟨_, g1, ?_, g2⟩
 rcases Nat.lt_or_ge j xs.length with hx | hx
 ·rw [List.getElem?_append_left hx] at hp
  rw [List.getElem?_append_left (by omega)] at hr
  exact h1 j p _ hp hr
 ·rw [List.getElem?_append_right hx] at hp
  rw [List.getElem?_append_right (by omega), hl] at hr
  exact h2 _ p _ hp hr
theorem pj_num (e : Int) : templelaw0_Num.f e = some e := rfl
def templelaw3_ParseJoins.f (k : Nat) (a0 a1 : ByteArray) : Option (Bool) :=
 (templelaw3_awake.f k).bind fun z => if z = true then
  (note_Parse.f k a0).bind fun A => (note_Parse.f k a1).bind fun B =>
   if wrap64 (65536 - (a1.size : Int)) ≤ (a0.size : Int) then some true else
    if a0.size + a1.size < 65536 then (note_Parse.f k (a0 ++ ⟨#[10]⟩ ++ a1)).bind fun C =>
     if A.2.2.2 = 0 then
      if B.2.2.2 = 0 then
       if A.1.length + B.1.length ≤ 800000 ∧ A.2.1.length + B.2.1.length ≤ 800000 ∧ C.2.2.2 = 0 then
        (templelaw0_SameRaw.f k C.1 C.2.1 (A.1 ++ B.1) (A.2.1 ++ B.2.1)).bind fun b => if b = true then some true else none
       else none
      else if C.2.2.2 = B.2.2.2 ∧ C.2.2.1 = B.2.2.1 + ((a0.size : Int) + 1) ∧ 0 ≤ B.2.2.1 ∧ B.2.2.1 ≤ 65536 then some true else none
     else if 0 ≤ A.2.2.1 ∧ A.2.2.1 ≤ (a0.size : Int) ∧ A.2.1 = [] then some true else none
    else none
 else none
theorem templelaw3_ParseJoins.mono : ∀ a0 a1 k, LeO (templelaw3_ParseJoins.f k a0 a1) (templelaw3_ParseJoins.f (k + 1) a0 a1) := by
 intro a0 a1 k
 unfold templelaw3_ParseJoins.f
 repeat' first
   | (with_reducible exact note_Parse.mono _ _)
   | (with_reducible exact templelaw0_SameRaw.mono _ _ _ _ _)
   | (with_reducible exact templelaw3_awake.mono _)
   | (with_reducible exact LeO.refl _)
   | (with_reducible exact LeO.none _)
   | (with_reducible refine LeO.ite ?_ ?_)
   | (with_reducible refine LeO.bind ?_ (fun _ => ?_))
set_option maxHeartbeats 8000000 in
set_option maxRecDepth 100000 in
theorem templelaw3_ParseJoins.calls (k : Nat) (a0 : ByteArray) (a1 : ByteArray) (r : Bool) (w : World) (h : templelaw3_ParseJoins.f k a0 a1 = some r) :
  Calls Try.prog 4 #[.string a0, .string a1] w fun e w' => e = .returned (.bool r) ∧ Below w.heap.size w w' := by
 unfold templelaw3_ParseJoins.f at h
 replace h := Option.bind_eq_some_iff.1 h
 obtain ⟨z, hz, h⟩ := h
 cases z with
 | false => rw [if_neg (by decide)] at h; cases h
 | true =>
 rw [if_pos rfl] at h
 replace h := Option.bind_eq_some_iff.1 h
 obtain ⟨⟨S1, D1, p1, e1⟩, hA, h⟩ := h
 replace h := Option.bind_eq_some_iff.1 h
 obtain ⟨⟨S2, D2, p2, e2⟩, hB, h⟩ := h
 dsimp only at h
 have HZ := Aside0.mk hz
 have HA := Aside0.mk hA
 have HB := Aside0.mk hB
 clear hz hA hB
 by_cases hlong : wrap64 (65536 - (a1.size : Int)) ≤ (a0.size : Int)
 ·rw [if_pos hlong] at h
  obtain rfl := Option.some.inj h
  go_enter Try.func4, Try.ntmps4
  go_wp2_with (first | (go_at_call 14; (with_reducible refine (templelaw3_awake.calls k true _ HZ.out).mono ?_); rintro e w1 ⟨rfl, hb1⟩; have HB1 := Aside0.mk hb1; clear hb1) | (go_at_call 9; (with_reducible refine (note_Parse.calls k a1 S2 D2 p2 e2 _ HB.out).mono ?_); rintro e w3 ⟨v2, v3, rfl, h2, h3, hb3⟩; (obtain ⟨B1, d1, rfl⟩ := Kd.R_slice h2); (obtain ⟨B2, d2, rfl⟩ := Kd.R_slice h3); have HB3 := Aside0.mk hb3; clear h2 h3 hb3) | (go_at_call 9; (with_reducible refine (note_Parse.calls k a0 S1 D1 p1 e1 _ HA.out).mono ?_); rintro e w2 ⟨v0, v1, rfl, h0, h1, hb2⟩; (obtain ⟨A1, c1, rfl⟩ := Kd.R_slice h0); (obtain ⟨A2, c2, rfl⟩ := Kd.R_slice h1); have HB2 := Aside0.mk hb2; clear h0 h1 hb2))
  ·go_ret
   refine ⟨rfl, ?_⟩
   have e1 := HB1.out
   have e2 := e1.trans (HB2.out.mono e1.size)
   have e3 := below_alloc e2 (.cells #[.slice A1 S1.length c1, .slice A2 D1.length c2] 25)
   have e4 := e3.trans (HB3.out.mono e3.size)
   exact below_alloc e4 _
  all_goals exact absurd hlong (Int.not_le.2 (by assumption))
 rw [if_neg hlong] at h
 by_cases hsz : a0.size + a1.size < 65536
 case neg => rw [if_neg hsz] at h; cases h
 rw [if_pos hsz] at h
 replace h := Option.bind_eq_some_iff.1 h
 obtain ⟨⟨S3, D3, p3, e3⟩, hC, h⟩ := h
 dsimp only at h
 have HC := Aside0.mk hC
 clear hC
 have b0 : decide (wrap64 (65536 - (a1.size : Int)) ≤ (a0.size : Int)) = false := decide_eq_false hlong
 have b1 : (9223372036854775807 < a0.size + 1) = False := eq_false (by omega)
 have b2 : (9223372036854775807 < a0.size + 1 + a1.size) = False := eq_false (by omega)
 have b3 : a0.size + 1 ≤ 9223372036854775807 := by omega
 have b4 : (a0 ++ (⟨#[10]⟩ : ByteArray)).size + a1.size ≤ 9223372036854775807 := by rw [ByteArray.size_append]; show a0.size + 1 + a1.size ≤ _; omega
 have HH := Aside0.mk h
 clear h
 go_enter Try.func4, Try.ntmps4
 go_upto_region 8 with (first | (go_at_call 14; (with_reducible refine (templelaw3_awake.calls k true _ HZ.out).mono ?_); rintro e w1 ⟨rfl, hb1⟩; have HB1 := Aside0.mk hb1; clear hb1) | (go_at_call 9; (with_reducible refine (note_Parse.calls k (a0 ++ ⟨#[10]⟩ ++ a1) S3 D3 p3 e3 _ HC.out).mono ?_); rintro e w4 ⟨v4, v5, rfl, h4, h5, hb4⟩; (obtain ⟨C1, f1, rfl⟩ := Kd.R_slice h4); (obtain ⟨C2, f2, rfl⟩ := Kd.R_slice h5); have HB4 := Aside0.mk (And.intro hb4 (And.intro h4 h5)); clear h4 h5 hb4) | (go_at_call 9; (with_reducible refine (note_Parse.calls k a1 S2 D2 p2 e2 _ HB.out).mono ?_); rintro e w3 ⟨v2, v3, rfl, h2, h3, hb3⟩; (obtain ⟨B1, d1, rfl⟩ := Kd.R_slice h2); (obtain ⟨B2, d2, rfl⟩ := Kd.R_slice h3); have HB3 := Aside0.mk (And.intro hb3 (And.intro h2 h3)); clear h2 h3 hb3) | (go_at_call 9; (with_reducible refine (note_Parse.calls k a0 S1 D1 p1 e1 _ HA.out).mono ?_); rintro e w2 ⟨v0, v1, rfl, h0, h1, hb2⟩; (obtain ⟨A1, c1, rfl⟩ := Kd.R_slice h0); (obtain ⟨A2, c2, rfl⟩ := Kd.R_slice h1); have HB2 := Aside0.mk (And.intro hb2 (And.intro h0 h1)); clear h0 h1 hb2))
 obtain ⟨q2, r0, r1⟩ := HB2.out
 obtain ⟨q3, r2, r3⟩ := HB3.out
 obtain ⟨q4, r4, r5⟩ := HB4.out
 have hW : Aside0 (Below w.heap.size w (w4.alloc (.cells #[.slice C1 S3.length f1, .slice C2 D3.length f2] 25)) ∧ w.heap.size ≤ w2.heap.size ∧ w.heap.size ≤ w3.heap.size ∧ w.heap.size ≤ w4.heap.size ∧ w2.heap.size < (w4.alloc (.cells #[.slice C1 S3.length f1, .slice C2 D3.length f2] 25)).heap.size ∧ w3.heap.size < (w4.alloc (.cells #[.slice C1 S3.length f1, .slice C2 D3.length f2] 25)).heap.size ∧ w4.heap.size < (w4.alloc (.cells #[.slice C1 S3.length f1, .slice C2 D3.length f2] 25)).heap.size ∧
   (w4.alloc (.cells #[.slice C1 S3.length f1, .slice C2 D3.length f2] 25)).heap[w2.heap.size]? = some (.cells #[.slice A1 S1.length c1, .slice A2 D1.length c2] 25) ∧ (w4.alloc (.cells #[.slice C1 S3.length f1, .slice C2 D3.length f2] 25)).heap[w3.heap.size]? = some (.cells #[.slice B1 S2.length d1, .slice B2 D2.length d2] 25) ∧ (w4.alloc (.cells #[.slice C1 S3.length f1, .slice C2 D3.length f2] 25)).heap[w4.heap.size]? = some (.cells #[.slice C1 S3.length f1, .slice C2 D3.length f2] 25) ∧ Below w2.heap.size w2 (w4.alloc (.cells #[.slice C1 S3.length f1, .slice C2 D3.length f2] 25)) ∧ Below w3.heap.size w3 (w4.alloc (.cells #[.slice C1 S3.length f1, .slice C2 D3.length f2] 25)) ∧ Below w4.heap.size w4 (w4.alloc (.cells #[.slice C1 S3.length f1, .slice C2 D3.length f2] 25))) := by
  have z1 := HB1.out
  have s1 := z1.size
  have s2 := q2.size
  have s3 := q3.size
  have s4 := q4.size
  have x2 : (w2.alloc (.cells #[.slice A1 S1.length c1, .slice A2 D1.length c2] 25)).heap.size = w2.heap.size + 1 := by simp
  have x3 : (w3.alloc (.cells #[.slice B1 S2.length d1, .slice B2 D2.length d2] 25)).heap.size = w3.heap.size + 1 := by simp
  have x4 : (w4.alloc (.cells #[.slice C1 S3.length f1, .slice C2 D3.length f2] 25)).heap.size = w4.heap.size + 1 := by simp
  have y4 := below_alloc (Below.refl w4.heap.size w4) (.cells #[.slice C1 S3.length f1, .slice C2 D3.length f2] 25)
  have y3 := below_alloc (Below.refl w3.heap.size w3) (.cells #[.slice B1 S2.length d1, .slice B2 D2.length d2] 25)
  have y2 := below_alloc (Below.refl w2.heap.size w2) (.cells #[.slice A1 S1.length c1, .slice A2 D1.length c2] 25)
  have b34 := q4.trans (y4.mono s4)
  have b3 := y3.trans (b34.mono (by omega))
  have b24 := q3.trans (b3.mono s3)
  have b2 := y2.trans (b24.mono (by omega))
  exact ⟨⟨z1.trans ((q2.mono s1).trans (b2.mono (by omega))), by omega, by omega, by omega, by omega, by omega, by omega, (b24.block _ (by omega)).trans (blk_new w2 _), (b34.block _ (by omega)).trans (blk_new w3 _), blk_new w4 _, b2, b3, y4⟩⟩
 have K1 := Aside0.mk (Kd.C_below (Kd.R_reads' r0).2.2 hW.out.2.2.2.2.2.2.2.2.2.2.1)
 have K3 := Aside0.mk (Kd.C_below (Kd.R_reads' r2).2.2 hW.out.2.2.2.2.2.2.2.2.2.2.2.1)
 have K5 := Aside0.mk (Kd.C_below (Kd.R_reads' r4).2.2 hW.out.2.2.2.2.2.2.2.2.2.2.2.2)
 have K6 := Aside0.mk (Kd.C_below (Kd.R_reads' r5).2.2 hW.out.2.2.2.2.2.2.2.2.2.2.2.2)
 have f5 := Aside0.mk (And.intro (Kd.R_reads' r4).2.1 (Kd.R_reads' r5).2.1)
 obtain ⟨rows1, hl1, K2_, L1_⟩ := rows_of (Kd.F_rows (Kd.F_bound (Kd.F_below (Kd.R_F r1) hW.out.2.2.2.2.2.2.2.2.2.2.1))) (fun x c h u hu => k42.K_one (Kd.FK_now h) u hu)
 obtain ⟨rows2, hl2, K4_, L2_⟩ := rows_of (Kd.F_rows (Kd.F_bound (Kd.F_below (Kd.R_F r3) hW.out.2.2.2.2.2.2.2.2.2.2.2.1))) (fun x c h u hu => k42.K_one (Kd.FK_now h) u hu)
 have K2 : Aside0 ((Kd.raw 2).C _ A2 D1.length rows1) := ⟨K2_⟩
 have K4 : Aside0 ((Kd.raw 2).C _ B2 D2.length rows2) := ⟨K4_⟩
 have L1 := Aside0.mk (And.intro hl1 L1_)
 have L2 := Aside0.mk (And.intro hl2 L2_)
 clear K2_ K4_ L1_ L2_ hl1 hl2 q2 q3 q4 r0 r1 r2 r3 r4 r5
 have hV := Aside0.mk (And.intro hW.out.1 (And.intro hW.out.2.1 (And.intro hW.out.2.2.1 (And.intro hW.out.2.2.2.1 (And.intro hW.out.2.2.2.2.1 (And.intro hW.out.2.2.2.2.2.1 (And.intro hW.out.2.2.2.2.2.2.1 (And.intro hW.out.2.2.2.2.2.2.2.1 (And.intro hW.out.2.2.2.2.2.2.2.2.1 hW.out.2.2.2.2.2.2.2.2.2.1)))))))))
 clear hW HB1 HB2 HB3 HB4
 generalize w4.alloc (.cells #[.slice C1 S3.length f1, .slice C2 D3.length f2] 25) = wz at *
 generalize w4.heap.size = gc at *
 generalize w3.heap.size = gb at *
 generalize w2.heap.size = ga at *
 have k0 : wz.cell? ⟨ga, 0, none⟩ = some (.slice A1 S1.length c1) := (blk_cell hV.out.2.2.2.2.2.2.2.1 0).trans rfl
 have k1 : wz.cell? ⟨ga, 1, none⟩ = some (.slice A2 D1.length c2) := (blk_cell hV.out.2.2.2.2.2.2.2.1 1).trans rfl
 by_cases he1 : e1 = 0
 case neg =>
  have h := HH.out
  rw [if_neg he1] at h
  by_cases hp : 0 ≤ p1 ∧ p1 ≤ (a0.size : Int) ∧ D1 = []
  case neg => rw [if_neg hp] at h; cases h
  rw [if_pos hp] at h
  obtain rfl := Option.some.inj h
  obtain ⟨hp1, hp2, rfl⟩ := hp
  have t0 : (e1 == 0) = false := beq_eq_false_iff_ne.mpr he1
  have t1 : (e1 != 0) = true := bne_iff_ne.mpr he1
  clear h HH K2 L1 K4 L2 K1 K3 K5 K6 f5
  go_wp2_with (first | (go_at_call 12; (with_reducible refine (templelaw0_Num.calls e1 e1 _ (pj_num e1)).mono ?_); rintro e w' ⟨rfl, ⟨nd, rfl⟩⟩))
  go_ret
  exact ⟨by simp [hp1, hp2], pw_below_drewN hV.out.1 _⟩
 subst he1
 by_cases he2 : e2 = 0
 case neg =>
  have h := HH.out
  rw [if_pos rfl, if_neg he2] at h
  by_cases hp : e3 = e2 ∧ p3 = p2 + ((a0.size : Int) + 1) ∧ 0 ≤ p2 ∧ p2 ≤ 65536
  case neg => rw [if_neg hp] at h; cases h
  rw [if_pos hp] at h
  obtain rfl := Option.some.inj h
  obtain ⟨rfl, rfl, hp1, hp2⟩ := hp
  have t0 : (e3 == 0) = false := beq_eq_false_iff_ne.mpr he2
  have t1 : (e3 != 0) = true := bne_iff_ne.mpr he2
  clear h HH K2 L1 K4 L2 K1 K3 K5 K6 f5
  go_wp2_with (first | (go_at_call 12; (with_reducible refine (templelaw0_Num.calls 0 0 _ (pj_num 0)).mono ?_); rintro e w' ⟨rfl, ⟨nd, rfl⟩⟩) | (go_at_call 12; (with_reducible refine (templelaw0_Num.calls e3 e3 _ (pj_num e3)).mono ?_); rintro e w' ⟨rfl, ⟨nd, rfl⟩⟩))
  go_ret
  exact ⟨by simp; omega, pw_below_drewN hV.out.1 _⟩
 subst he2
 have h := HH.out
 clear HH
 rw [if_pos rfl, if_pos rfl] at h
 by_cases hp : S1.length + S2.length ≤ 800000 ∧ D1.length + D2.length ≤ 800000 ∧ e3 = 0
 case neg => rw [if_neg hp] at h; cases h
 rw [if_pos hp] at h
 obtain ⟨hp1, hp2, rfl⟩ := hp
 replace h := Option.bind_eq_some_iff.1 h
 obtain ⟨b, hS, h⟩ := h
 cases b with
 | false => rw [if_neg (by decide)] at h; cases h
 | true =>
 rw [if_pos rfl] at h
 obtain rfl := Option.some.inj h
 have HS := Aside0.mk hS
 clear h hS
 obtain ⟨T1, hT1⟩ : ∃ T : List ByteArray, T = S1 ++ S2 := ⟨_, rfl⟩
 obtain ⟨rowsT, hU1⟩ : ∃ T : List (List Value), T = rows1 ++ rows2 := ⟨_, rfl⟩
 have HLen : Aside0 (S1.length + S2.length ≤ 800000 ∧ rows1.length + rows2.length ≤ 800000 ∧ rows1.length = D1.length ∧ rows2.length = D2.length ∧ T1 = S1 ++ S2 ∧ rowsT = rows1 ++ rows2) := ⟨⟨hp1, by rw [L1.out.1, L2.out.1]; exact hp2, L1.out.1, L2.out.1, hT1, hU1⟩⟩
 clear hT1 hU1
 clear hp1 hp2
 go_upto_region 12 with (first | (go_at_call 12; (with_reducible refine (templelaw0_Num.calls 0 0 _ (pj_num 0)).mono ?_); rintro e w' ⟨rfl, ⟨nd, rfl⟩⟩))
 have k2 : wz.cell? ⟨gb, 0, none⟩ = some (.slice B1 S2.length d1) := (blk_cell hV.out.2.2.2.2.2.2.2.2.1 0).trans rfl
 have k3 : wz.cell? ⟨gb, 1, none⟩ = some (.slice B2 D2.length d2) := (blk_cell hV.out.2.2.2.2.2.2.2.2.1 1).trans rfl
 have hSz : ∀ w', Below wz.heap.size wz w' → w'.cell? ⟨ga, 0, none⟩ = some (.slice A1 S1.length c1) ∧ w'.cell? ⟨ga, 1, none⟩ = some (.slice A2 D1.length c2) ∧ w'.cell? ⟨gb, 0, none⟩ = some (.slice B1 S2.length d1) ∧ w'.cell? ⟨gb, 1, none⟩ = some (.slice B2 D2.length d2) ∧ Aside0 (Below wz.heap.size wz w') := fun w' hb => ⟨below_cell hb hV.out.2.2.2.2.1 k0, below_cell hb hV.out.2.2.2.2.1 k1, below_cell hb hV.out.2.2.2.2.2.1 k2, below_cell hb hV.out.2.2.2.2.2.1 k3, ⟨hb⟩⟩
 clear k0 k1 k2 k3
 refine start_ (n := 17) (S := fun w' => w'.cell? ⟨ga, 0, none⟩ = some (.slice A1 S1.length c1) ∧ w'.cell? ⟨ga, 1, none⟩ = some (.slice A2 D1.length c2) ∧ w'.cell? ⟨gb, 0, none⟩ = some (.slice B1 S2.length d1) ∧ w'.cell? ⟨gb, 1, none⟩ = some (.slice B2 D2.length d2) ∧ Aside0 (Below wz.heap.size wz w')) (ds := []) #[false, false, false, false, false, false, false, false, false, false, false, false, false, false, false, false, false] (by kernel_rfl) rfl rfl (hSz _ (pw_below_drewN (Below.refl wz.heap.size wz) _).drew) (fun hHeld => ?_)
 refine with_tabW pj.tab12 pj.bits12 (fun HT_ HW_ => ?_)
 generalize World.drew _ = w0_ at hHeld ⊢
 refine pure_ (i := 1) (N := some 79) (v := ?_) (a' := ?_) #[false, true, false, false, false, false, false, false, false, false, false, false, false, false, false, false, false] rfl rfl (any_of HT_.out (by kernel_rfl)) (fun _ _ _ h => h) (Or.inl ⟨by rfl, ?_⟩) ?_ ?_
 rotate_left
 ·intro w'
  go_simp
  with_reducible rfl
 rotate_left
 ·simp only [putAll, Act.put, List.setIfInBounds_toArray, List.set_cons_zero, List.set_cons_succ, i64_w, i32_w]
  rfl
 refine pure_ (i := 4) (N := some 82) (v := ?_) (a' := ?_) #[false, true, false, false, true, false, false, false, false, false, false, false, false, false, false, false, false] rfl rfl (any_of HT_.out (by kernel_rfl)) (fun _ _ _ h => h) (Or.inl ⟨by rfl, ?_⟩) ?_ ?_
 rotate_left
 ·intro w'
  go_simp
  with_reducible rfl
 rotate_left
 ·simp only [putAll, Act.put, List.setIfInBounds_toArray, List.set_cons_zero, List.set_cons_succ, i64_w, i32_w]
  rfl
 refine pure_ (i := 8) (N := some 86) (v := ?_) (a' := ?_) #[false, true, false, false, true, false, false, false, true, false, false, false, false, false, false, false, false] rfl rfl (any_of HT_.out (by kernel_rfl)) (fun _ _ _ h => h) (Or.inl ⟨by rfl, ?_⟩) ?_ ?_
 rotate_left
 ·intro w'
  go_simp
  with_reducible rfl
 rotate_left
 ·simp only [putAll, Act.put, List.setIfInBounds_toArray, List.set_cons_zero, List.set_cons_succ, i64_w, i32_w]
  rfl
 refine pure_ (i := 11) (N := some 89) (v := ?_) (a' := ?_) #[false, true, false, false, true, false, false, false, true, false, false, true, false, false, false, false, false] rfl rfl (any_of HT_.out (by kernel_rfl)) (fun _ _ _ h => h) (Or.inl ⟨by rfl, ?_⟩) ?_ ?_
 rotate_left
 ·intro w'
  go_simp
  with_reducible rfl
 rotate_left
 ·simp only [putAll, Act.put, List.setIfInBounds_toArray, List.set_cons_zero, List.set_cons_succ, i64_w, i32_w]
  rfl
 refine take_ (i := 2) (N := some 80) (v := ?_) (a' := ?_) #[false, true, true, false, true, false, false, false, true, false, false, true, false, false, false, false, false] rfl rfl (take_ofW HT_.out HW_.out (by kernel_rfl)) (fun _ _ _ h => h) (Or.inl ⟨by rfl, ?_⟩) hHeld ?_ ?_
 rotate_left
 ·rintro w' ⟨s0, s1, s2, s3, s4⟩
  go_simp
  with_reducible rfl
 rotate_left
 ·simp only [putAll, Act.put, List.setIfInBounds_toArray, List.set_cons_zero, List.set_cons_succ, i64_w, i32_w]
  rfl
 refine take_ (i := 5) (N := some 83) (v := ?_) (a' := ?_) #[false, true, true, false, true, true, false, false, true, false, false, true, false, false, false, false, false] rfl rfl (take_ofW HT_.out HW_.out (by kernel_rfl)) (fun _ _ _ h => h) (Or.inl ⟨by rfl, ?_⟩) hHeld ?_ ?_
 rotate_left
 ·rintro w' ⟨s0, s1, s2, s3, s4⟩
  go_simp
  with_reducible rfl
 rotate_left
 ·simp only [putAll, Act.put, List.setIfInBounds_toArray, List.set_cons_zero, List.set_cons_succ, i64_w, i32_w]
  rfl
 refine take_ (i := 9) (N := some 87) (v := ?_) (a' := ?_) #[false, true, true, false, true, true, false, false, true, true, false, true, false, false, false, false, false] rfl rfl (take_ofW HT_.out HW_.out (by kernel_rfl)) (fun _ _ _ h => h) (Or.inl ⟨by rfl, ?_⟩) hHeld ?_ ?_
 rotate_left
 ·rintro w' ⟨s0, s1, s2, s3, s4⟩
  go_simp
  with_reducible rfl
 rotate_left
 ·simp only [putAll, Act.put, List.setIfInBounds_toArray, List.set_cons_zero, List.set_cons_succ, i64_w, i32_w]
  rfl
 refine take_ (i := 12) (N := some 90) (v := ?_) (a' := ?_) #[false, true, true, false, true, true, false, false, true, true, false, true, true, false, false, false, false] rfl rfl (take_ofW HT_.out HW_.out (by kernel_rfl)) (fun _ _ _ h => h) (Or.inl ⟨by rfl, ?_⟩) hHeld ?_ ?_
 rotate_left
 ·rintro w' ⟨s0, s1, s2, s3, s4⟩
  go_simp
  with_reducible rfl
 rotate_left
 ·simp only [putAll, Act.put, List.setIfInBounds_toArray, List.set_cons_zero, List.set_cons_succ, i64_w, i32_w]
  rfl
 refine join_ (σ := Value × Value × Value × Value × Value × Value × Nat) 1 #[true, true, true, true, true, true, true, true, true, true, true, true, true, true, true, true, false] (fun s_ => [(78, s_.1), (81, s_.2.1), (84, s_.2.2.1), (85, s_.2.2.2.1), (88, s_.2.2.2.2.1), (91, s_.2.2.2.2.2.1), (14, .pointer (some ⟨s_.2.2.2.2.2.2, 0, none⟩)), (92, .agg #[s_.2.2.1, s_.2.2.2.2.2.1])]) (fun s_ w' => (w'.cell? ⟨ga, 0, none⟩ = some (.slice A1 S1.length c1) ∧ w'.cell? ⟨ga, 1, none⟩ = some (.slice A2 D1.length c2) ∧ w'.cell? ⟨gb, 0, none⟩ = some (.slice B1 S2.length d1) ∧ w'.cell? ⟨gb, 1, none⟩ = some (.slice B2 D2.length d2) ∧ Aside0 (Below wz.heap.size wz w')) ∧ Aside0 (RowT Kd.string 9 w' wz.heap.size s_.2.2.1 (T1 : List ByteArray)) ∧ Aside0 (RowT (Kd.raw 2) 42 w' wz.heap.size s_.2.2.2.2.2.1 (rowsT : List (List Value))) ∧ Aside0 (wz.heap.size ≤ s_.2.2.2.2.2.2 ∧ w'.heap[s_.2.2.2.2.2.2]? = some (.cells #[.slice none 0 0, .slice none 0 0] 25 (0, 0)))) ?_ ?_
 rotate_left
 ·intro hJ3_3_1
  refine join_ (σ := Value × Value × Value × Value × Value × Nat) 3 #[true, true, true, true, true, true, true, true, true, true, true, true, true, false, false, true, false] (fun s_ => [(78, s_.1), (81, s_.2.1), (84, s_.2.2.1), (85, s_.2.2.2.1), (88, s_.2.2.2.2.1), (14, .pointer (some ⟨s_.2.2.2.2.2, 0, none⟩))]) (fun s_ w' => (w'.cell? ⟨ga, 0, none⟩ = some (.slice A1 S1.length c1) ∧ w'.cell? ⟨ga, 1, none⟩ = some (.slice A2 D1.length c2) ∧ w'.cell? ⟨gb, 0, none⟩ = some (.slice B1 S2.length d1) ∧ w'.cell? ⟨gb, 1, none⟩ = some (.slice B2 D2.length d2) ∧ Aside0 (Below wz.heap.size wz w')) ∧ Aside0 (RowT Kd.string 9 w' wz.heap.size s_.2.2.1 (T1 : List ByteArray)) ∧ Aside0 (RowT (Kd.raw 2) 42 w' wz.heap.size s_.2.2.2.2.1 (rows1 : List (List Value))) ∧ Aside0 (wz.heap.size ≤ s_.2.2.2.2.2 ∧ w'.heap[s_.2.2.2.2.2]? = some (.cells #[.slice none 0 0, .slice none 0 0] 25 (0, 0)))) ?_ ?_
  rotate_left
  ·intro hJ3_2_1
   refine join_ (σ := Value × Value × Value × Value × Value × Value) 2 #[true, true, true, true, true, true, true, true, true, true, true, true, true, true, true, false, false] (fun s_ => [(78, s_.1), (81, s_.2.1), (84, s_.2.2.1), (85, s_.2.2.2.1), (88, s_.2.2.2.2.1), (91, s_.2.2.2.2.2), (92, .agg #[s_.2.2.1, s_.2.2.2.2.2])]) (fun s_ w' => (w'.cell? ⟨ga, 0, none⟩ = some (.slice A1 S1.length c1) ∧ w'.cell? ⟨ga, 1, none⟩ = some (.slice A2 D1.length c2) ∧ w'.cell? ⟨gb, 0, none⟩ = some (.slice B1 S2.length d1) ∧ w'.cell? ⟨gb, 1, none⟩ = some (.slice B2 D2.length d2) ∧ Aside0 (Below wz.heap.size wz w')) ∧ Aside0 (RowT Kd.string 9 w' wz.heap.size s_.2.2.1 (T1 : List ByteArray)) ∧ Aside0 (RowT (Kd.raw 2) 42 w' wz.heap.size s_.2.2.2.2.2 (rowsT : List (List Value)))) ?_ ?_
   rotate_left
   ·intro hJ3_3_0
    refine join_ (σ := Value × Value × Value × Value × Nat) 4 #[true, true, true, true, true, true, true, true, true, true, false, true, true, false, false, true, false] (fun s_ => [(78, s_.1), (81, s_.2.1), (84, s_.2.2.1), (85, s_.2.2.2.1), (14, .pointer (some ⟨s_.2.2.2.2, 0, none⟩))]) (fun s_ w' => (w'.cell? ⟨ga, 0, none⟩ = some (.slice A1 S1.length c1) ∧ w'.cell? ⟨ga, 1, none⟩ = some (.slice A2 D1.length c2) ∧ w'.cell? ⟨gb, 0, none⟩ = some (.slice B1 S2.length d1) ∧ w'.cell? ⟨gb, 1, none⟩ = some (.slice B2 D2.length d2) ∧ Aside0 (Below wz.heap.size wz w')) ∧ Aside0 (RowT Kd.string 9 w' wz.heap.size s_.2.2.1 (T1 : List ByteArray)) ∧ Aside0 (RowT (Kd.raw 2) 42 w' wz.heap.size s_.2.2.2.1 ([] : List (List Value))) ∧ Aside0 (wz.heap.size ≤ s_.2.2.2.2 ∧ w'.heap[s_.2.2.2.2]? = some (.cells #[.slice none 0 0, .slice none 0 0] 25 (0, 0)))) ?_ ?_
    rotate_left
    ·intro hJ3_1_1
     refine join_ (σ := Value × Value × Value × Value × Value) 4 #[true, true, true, true, true, true, true, true, true, true, true, true, true, false, false, false, false] (fun s_ => [(78, s_.1), (81, s_.2.1), (84, s_.2.2.1), (85, s_.2.2.2.1), (88, s_.2.2.2.2)]) (fun s_ w' => (w'.cell? ⟨ga, 0, none⟩ = some (.slice A1 S1.length c1) ∧ w'.cell? ⟨ga, 1, none⟩ = some (.slice A2 D1.length c2) ∧ w'.cell? ⟨gb, 0, none⟩ = some (.slice B1 S2.length d1) ∧ w'.cell? ⟨gb, 1, none⟩ = some (.slice B2 D2.length d2) ∧ Aside0 (Below wz.heap.size wz w')) ∧ Aside0 (RowT Kd.string 9 w' wz.heap.size s_.2.2.1 (T1 : List ByteArray)) ∧ Aside0 (RowT (Kd.raw 2) 42 w' wz.heap.size s_.2.2.2.2 (rows1 : List (List Value)))) ?_ ?_
     rotate_left
     ·intro hJ3_2_0
      refine join_ (σ := Value × Value × Value × Nat) 5 #[true, true, true, true, true, true, false, true, true, true, false, true, true, false, false, true, false] (fun s_ => [(78, s_.1), (81, s_.2.1), (85, s_.2.2.1), (14, .pointer (some ⟨s_.2.2.2, 0, none⟩))]) (fun s_ w' => (w'.cell? ⟨ga, 0, none⟩ = some (.slice A1 S1.length c1) ∧ w'.cell? ⟨ga, 1, none⟩ = some (.slice A2 D1.length c2) ∧ w'.cell? ⟨gb, 0, none⟩ = some (.slice B1 S2.length d1) ∧ w'.cell? ⟨gb, 1, none⟩ = some (.slice B2 D2.length d2) ∧ Aside0 (Below wz.heap.size wz w')) ∧ Aside0 (RowT Kd.string 9 w' wz.heap.size s_.2.1 (S1 : List ByteArray)) ∧ Aside0 (RowT (Kd.raw 2) 42 w' wz.heap.size s_.2.2.1 ([] : List (List Value))) ∧ Aside0 (wz.heap.size ≤ s_.2.2.2 ∧ w'.heap[s_.2.2.2]? = some (.cells #[.slice none 0 0, .slice none 0 0] 25 (0, 0)))) ?_ ?_
      rotate_left
      ·intro hJ2_1_1
       refine join_ (σ := Value × Value × Value × Nat) 5 #[true, true, true, true, true, true, true, false, true, true, false, true, true, false, false, true, false] (fun s_ => [(78, s_.1), (81, s_.2.1), (84, s_.2.2.1), (14, .pointer (some ⟨s_.2.2.2, 0, none⟩))]) (fun s_ w' => (w'.cell? ⟨ga, 0, none⟩ = some (.slice A1 S1.length c1) ∧ w'.cell? ⟨ga, 1, none⟩ = some (.slice A2 D1.length c2) ∧ w'.cell? ⟨gb, 0, none⟩ = some (.slice B1 S2.length d1) ∧ w'.cell? ⟨gb, 1, none⟩ = some (.slice B2 D2.length d2) ∧ Aside0 (Below wz.heap.size wz w')) ∧ Aside0 (RowT Kd.string 9 w' wz.heap.size s_.2.2.1 (T1 : List ByteArray)) ∧ Aside0 (wz.heap.size ≤ s_.2.2.2 ∧ w'.heap[s_.2.2.2]? = some (.cells #[.slice none 0 0, .slice none 0 0] 25 (0, 0)))) ?_ ?_
       rotate_left
       ·intro hJ3_0_1
        refine join_ (σ := Value × Value × Value × Value) 5 #[true, true, true, true, true, true, true, true, true, true, false, true, true, false, false, false, false] (fun s_ => [(78, s_.1), (81, s_.2.1), (84, s_.2.2.1), (85, s_.2.2.2)]) (fun s_ w' => (w'.cell? ⟨ga, 0, none⟩ = some (.slice A1 S1.length c1) ∧ w'.cell? ⟨ga, 1, none⟩ = some (.slice A2 D1.length c2) ∧ w'.cell? ⟨gb, 0, none⟩ = some (.slice B1 S2.length d1) ∧ w'.cell? ⟨gb, 1, none⟩ = some (.slice B2 D2.length d2) ∧ Aside0 (Below wz.heap.size wz w')) ∧ Aside0 (RowT Kd.string 9 w' wz.heap.size s_.2.2.1 (T1 : List ByteArray)) ∧ Aside0 (RowT (Kd.raw 2) 42 w' wz.heap.size s_.2.2.2 ([] : List (List Value)))) ?_ ?_
        rotate_left
        ·intro hJ3_1_0
         refine join_ (σ := Value × Value × Nat) 6 #[true, true, true, false, true, true, false, true, true, true, false, true, true, false, false, true, false] (fun s_ => [(78, s_.1), (85, s_.2.1), (14, .pointer (some ⟨s_.2.2, 0, none⟩))]) (fun s_ w' => (w'.cell? ⟨ga, 0, none⟩ = some (.slice A1 S1.length c1) ∧ w'.cell? ⟨ga, 1, none⟩ = some (.slice A2 D1.length c2) ∧ w'.cell? ⟨gb, 0, none⟩ = some (.slice B1 S2.length d1) ∧ w'.cell? ⟨gb, 1, none⟩ = some (.slice B2 D2.length d2) ∧ Aside0 (Below wz.heap.size wz w')) ∧ Aside0 (RowT Kd.string 9 w' wz.heap.size s_.1 ([] : List ByteArray)) ∧ Aside0 (RowT (Kd.raw 2) 42 w' wz.heap.size s_.2.1 ([] : List (List Value))) ∧ Aside0 (wz.heap.size ≤ s_.2.2 ∧ w'.heap[s_.2.2]? = some (.cells #[.slice none 0 0, .slice none 0 0] 25 (0, 0)))) ?_ ?_
         rotate_left
         ·intro hJ1_1_1
          refine join_ (σ := Value × Value × Nat) 6 #[true, true, true, true, true, true, false, false, true, true, false, true, true, false, false, true, false] (fun s_ => [(78, s_.1), (81, s_.2.1), (14, .pointer (some ⟨s_.2.2, 0, none⟩))]) (fun s_ w' => (w'.cell? ⟨ga, 0, none⟩ = some (.slice A1 S1.length c1) ∧ w'.cell? ⟨ga, 1, none⟩ = some (.slice A2 D1.length c2) ∧ w'.cell? ⟨gb, 0, none⟩ = some (.slice B1 S2.length d1) ∧ w'.cell? ⟨gb, 1, none⟩ = some (.slice B2 D2.length d2) ∧ Aside0 (Below wz.heap.size wz w')) ∧ Aside0 (RowT Kd.string 9 w' wz.heap.size s_.2.1 (S1 : List ByteArray)) ∧ Aside0 (wz.heap.size ≤ s_.2.2 ∧ w'.heap[s_.2.2]? = some (.cells #[.slice none 0 0, .slice none 0 0] 25 (0, 0)))) ?_ ?_
          rotate_left
          ·intro hJ2_0_1
           refine join_ (σ := Value × Value × Value) 6 #[true, true, true, true, true, true, false, true, true, true, false, true, true, false, false, false, false] (fun s_ => [(78, s_.1), (81, s_.2.1), (85, s_.2.2)]) (fun s_ w' => (w'.cell? ⟨ga, 0, none⟩ = some (.slice A1 S1.length c1) ∧ w'.cell? ⟨ga, 1, none⟩ = some (.slice A2 D1.length c2) ∧ w'.cell? ⟨gb, 0, none⟩ = some (.slice B1 S2.length d1) ∧ w'.cell? ⟨gb, 1, none⟩ = some (.slice B2 D2.length d2) ∧ Aside0 (Below wz.heap.size wz w')) ∧ Aside0 (RowT Kd.string 9 w' wz.heap.size s_.2.1 (S1 : List ByteArray)) ∧ Aside0 (RowT (Kd.raw 2) 42 w' wz.heap.size s_.2.2 ([] : List (List Value)))) ?_ ?_
           rotate_left
           ·intro hJ2_1_0
            refine join_ (σ := Value × Value × Value) 6 #[true, true, true, true, true, true, true, false, true, true, false, true, true, false, false, false, false] (fun s_ => [(78, s_.1), (81, s_.2.1), (84, s_.2.2)]) (fun s_ w' => (w'.cell? ⟨ga, 0, none⟩ = some (.slice A1 S1.length c1) ∧ w'.cell? ⟨ga, 1, none⟩ = some (.slice A2 D1.length c2) ∧ w'.cell? ⟨gb, 0, none⟩ = some (.slice B1 S2.length d1) ∧ w'.cell? ⟨gb, 1, none⟩ = some (.slice B2 D2.length d2) ∧ Aside0 (Below wz.heap.size wz w')) ∧ Aside0 (RowT Kd.string 9 w' wz.heap.size s_.2.2 (T1 : List ByteArray))) ?_ ?_
            rotate_left
            ·intro hJ3_0_0
             refine join_ (σ := Value × Nat) 7 #[false, true, true, false, true, true, false, true, true, true, false, true, true, false, false, true, false] (fun s_ => [(85, s_.1), (14, .pointer (some ⟨s_.2, 0, none⟩))]) (fun s_ w' => (w'.cell? ⟨ga, 0, none⟩ = some (.slice A1 S1.length c1) ∧ w'.cell? ⟨ga, 1, none⟩ = some (.slice A2 D1.length c2) ∧ w'.cell? ⟨gb, 0, none⟩ = some (.slice B1 S2.length d1) ∧ w'.cell? ⟨gb, 1, none⟩ = some (.slice B2 D2.length d2) ∧ Aside0 (Below wz.heap.size wz w')) ∧ Aside0 (RowT (Kd.raw 2) 42 w' wz.heap.size s_.1 ([] : List (List Value))) ∧ Aside0 (wz.heap.size ≤ s_.2 ∧ w'.heap[s_.2]? = some (.cells #[.slice none 0 0, .slice none 0 0] 25 (0, 0)))) ?_ ?_
             rotate_left
             ·intro hJ0_1_1
              refine join_ (σ := Value × Nat) 7 #[true, true, true, false, true, true, false, false, true, true, false, true, true, false, false, true, false] (fun s_ => [(78, s_.1), (14, .pointer (some ⟨s_.2, 0, none⟩))]) (fun s_ w' => (w'.cell? ⟨ga, 0, none⟩ = some (.slice A1 S1.length c1) ∧ w'.cell? ⟨ga, 1, none⟩ = some (.slice A2 D1.length c2) ∧ w'.cell? ⟨gb, 0, none⟩ = some (.slice B1 S2.length d1) ∧ w'.cell? ⟨gb, 1, none⟩ = some (.slice B2 D2.length d2) ∧ Aside0 (Below wz.heap.size wz w')) ∧ Aside0 (RowT Kd.string 9 w' wz.heap.size s_.1 ([] : List ByteArray)) ∧ Aside0 (wz.heap.size ≤ s_.2 ∧ w'.heap[s_.2]? = some (.cells #[.slice none 0 0, .slice none 0 0] 25 (0, 0)))) ?_ ?_
              rotate_left
              ·intro hJ1_0_1
               refine join_ (σ := Value × Value) 7 #[true, true, true, false, true, true, false, true, true, true, false, true, true, false, false, false, false] (fun s_ => [(78, s_.1), (85, s_.2)]) (fun s_ w' => (w'.cell? ⟨ga, 0, none⟩ = some (.slice A1 S1.length c1) ∧ w'.cell? ⟨ga, 1, none⟩ = some (.slice A2 D1.length c2) ∧ w'.cell? ⟨gb, 0, none⟩ = some (.slice B1 S2.length d1) ∧ w'.cell? ⟨gb, 1, none⟩ = some (.slice B2 D2.length d2) ∧ Aside0 (Below wz.heap.size wz w')) ∧ Aside0 (RowT Kd.string 9 w' wz.heap.size s_.1 ([] : List ByteArray)) ∧ Aside0 (RowT (Kd.raw 2) 42 w' wz.heap.size s_.2 ([] : List (List Value)))) ?_ ?_
               rotate_left
               ·intro hJ1_1_0
                refine join_ (σ := Value × Value) 7 #[true, true, true, true, true, true, false, false, true, true, false, true, true, false, false, false, false] (fun s_ => [(78, s_.1), (81, s_.2)]) (fun s_ w' => (w'.cell? ⟨ga, 0, none⟩ = some (.slice A1 S1.length c1) ∧ w'.cell? ⟨ga, 1, none⟩ = some (.slice A2 D1.length c2) ∧ w'.cell? ⟨gb, 0, none⟩ = some (.slice B1 S2.length d1) ∧ w'.cell? ⟨gb, 1, none⟩ = some (.slice B2 D2.length d2) ∧ Aside0 (Below wz.heap.size wz w')) ∧ Aside0 (RowT Kd.string 9 w' wz.heap.size s_.2 (S1 : List ByteArray))) ?_ ?_
                rotate_left
                ·intro hJ2_0_0
                 refine join_ (σ := Nat) 8 #[false, true, true, false, true, true, false, false, true, true, false, true, true, false, false, true, false] (fun s_ => [(14, .pointer (some ⟨s_, 0, none⟩))]) (fun s_ w' => (w'.cell? ⟨ga, 0, none⟩ = some (.slice A1 S1.length c1) ∧ w'.cell? ⟨ga, 1, none⟩ = some (.slice A2 D1.length c2) ∧ w'.cell? ⟨gb, 0, none⟩ = some (.slice B1 S2.length d1) ∧ w'.cell? ⟨gb, 1, none⟩ = some (.slice B2 D2.length d2) ∧ Aside0 (Below wz.heap.size wz w')) ∧ Aside0 (wz.heap.size ≤ s_ ∧ w'.heap[s_]? = some (.cells #[.slice none 0 0, .slice none 0 0] 25 (0, 0)))) ?_ ?_
                 rotate_left
                 ·intro hJ0_0_1
                  refine join_ (σ := Value) 8 #[false, true, true, false, true, true, false, true, true, true, false, true, true, false, false, false, false] (fun s_ => [(85, s_)]) (fun s_ w' => (w'.cell? ⟨ga, 0, none⟩ = some (.slice A1 S1.length c1) ∧ w'.cell? ⟨ga, 1, none⟩ = some (.slice A2 D1.length c2) ∧ w'.cell? ⟨gb, 0, none⟩ = some (.slice B1 S2.length d1) ∧ w'.cell? ⟨gb, 1, none⟩ = some (.slice B2 D2.length d2) ∧ Aside0 (Below wz.heap.size wz w')) ∧ Aside0 (RowT (Kd.raw 2) 42 w' wz.heap.size s_ ([] : List (List Value)))) ?_ ?_
                  rotate_left
                  ·intro hJ0_1_0
                   refine join_ (σ := Value) 8 #[true, true, true, false, true, true, false, false, true, true, false, true, true, false, false, false, false] (fun s_ => [(78, s_)]) (fun s_ w' => (w'.cell? ⟨ga, 0, none⟩ = some (.slice A1 S1.length c1) ∧ w'.cell? ⟨ga, 1, none⟩ = some (.slice A2 D1.length c2) ∧ w'.cell? ⟨gb, 0, none⟩ = some (.slice B1 S2.length d1) ∧ w'.cell? ⟨gb, 1, none⟩ = some (.slice B2 D2.length d2) ∧ Aside0 (Below wz.heap.size wz w')) ∧ Aside0 (RowT Kd.string 9 w' wz.heap.size s_ ([] : List ByteArray))) ?_ ?_
                   rotate_left
                   ·intro hJ1_0_0
                    refine three_ (i := 0) (j := 7) (k := 15) (Ni := some 78) (Nj := some 85) (Nk := some 14) #[true, true, true, false, true, true, false, false, true, true, false, true, true, false, false, false, false] #[false, true, true, false, true, true, false, true, true, true, false, true, true, false, false, false, false] #[false, true, true, false, true, true, false, false, true, true, false, true, true, false, false, true, false] rfl rfl rfl rfl rfl rfl (three_of HT_.out (by kernel_rfl)) (by decide) (by decide) (by decide) (fun K hK => ?_) (fun K hK => ?_) (fun K hK => ?_)
                    ·skip
                     have hB := hHeld.2.2.2.2.out
                     refine Kd.R_lit_step Kd.string (w0 := wz) wz.heap.size 9 ?hg (N := 78) ?hd (xs := ([] : List (ByteArray))) (inner := []) (ok := fun _ => True) (okp := fun _ => True) ?hr ?hp (fun _ hk => hk) trivial hB hB.size (by simp) ?_; (case hd => rfl); (case hg => rfl); (case hr => first | (go_simp; done) | (go_simp; rfl)); (case hp => exact (Reps.none _ _))
                     intro v0 w2 ho hb hg hat
                     refine hK.out _ _ (hSz _ hb) (fun hHeld => ?_)
                     clear hK K
                     refine norm_ (a' := putAll _ [(78, v0)]) (by first | (simp only [putAll, Act.put, List.setIfInBounds_toArray, List.set_cons_zero, List.set_cons_succ, i64_w, i32_w]; done) | (simp only [putAll, Act.put, List.setIfInBounds_toArray, List.set_cons_zero, List.set_cons_succ, i64_w, i32_w]; rfl)) (hJ1_0_0 v0 _ ⟨hHeld, ⟨RowT.of rfl ho⟩⟩)
                    ·skip
                     have hB := hHeld.2.2.2.2.out
                     refine Kd.R_lit_step (Kd.raw 2) (w0 := wz) wz.heap.size 42 ?hg (N := 85) ?hd (xs := ([] : List (List Value))) (inner := []) (ok := fun _ => True) (okp := fun _ => True) ?hr ?hp (fun _ hk => hk) trivial hB hB.size (by simp) ?_; (case hd => rfl); (case hg => rfl); (case hr => first | (go_simp; done) | (go_simp; rfl)); (case hp => exact (Reps.none _ _))
                     intro v7 w2 ho hb hg hat
                     refine hK.out _ _ (hSz _ hb) (fun hHeld => ?_)
                     clear hK K
                     refine norm_ (a' := putAll _ [(85, v7)]) (by first | (simp only [putAll, Act.put, List.setIfInBounds_toArray, List.set_cons_zero, List.set_cons_succ, i64_w, i32_w]; done) | (simp only [putAll, Act.put, List.setIfInBounds_toArray, List.set_cons_zero, List.set_cons_succ, i64_w, i32_w]; rfl)) (hJ0_1_0 v7 _ ⟨hHeld, ⟨RowT.of rfl ho⟩⟩)
                    ·skip
                     have hB := hHeld.2.2.2.2.out
                     refine box_step ?hg (N := 14) ?hd (cs := #[.slice none 0 0, .slice none 0 0]) (t := 25) ?hr ?_; (case hd => rfl); (case hg => rfl); (case hr => first | (go_simp; done) | (go_simp; rfl))
                     intro g15 hgq w2 hbox hb0
                     have hb := hB.trans (hb0.mono hB.size)
                     refine hK.out _ _ (hSz _ hb) (fun hHeld => ?_)
                     clear hK K
                     refine norm_ (a' := putAll _ [(14, .pointer (some ⟨g15, 0, none⟩))]) (by first | (simp only [putAll, Act.put, List.setIfInBounds_toArray, List.set_cons_zero, List.set_cons_succ, i64_w, i32_w]; done) | (simp only [putAll, Act.put, List.setIfInBounds_toArray, List.set_cons_zero, List.set_cons_succ, i64_w, i32_w]; rfl)) (hJ0_0_1 g15 _ ⟨hHeld, ⟨by rw [hgq]; exact hB.size, hbox⟩⟩)
                   ·rintro v0 w1 ⟨hS_, hf0⟩
                    refine norm_ (a' := ?_) ?_ ?_
                    rotate_left
                    ·simp only [putAll, Act.put, List.setIfInBounds_toArray, List.set_cons_zero, List.set_cons_succ, i64_w, i32_w]
                     rfl
                    refine three_ (i := 3) (j := 7) (k := 15) (Ni := some 81) (Nj := some 85) (Nk := some 14) #[true, true, true, true, true, true, false, false, true, true, false, true, true, false, false, false, false] #[true, true, true, false, true, true, false, true, true, true, false, true, true, false, false, false, false] #[true, true, true, false, true, true, false, false, true, true, false, true, true, false, false, true, false] rfl rfl rfl rfl rfl rfl (three_of HT_.out (by kernel_rfl)) (by decide) (by decide) (by decide) (fun K hK => ?_) (fun K hK => ?_) (fun K hK => ?_)
                    ·skip
                     have hB := hS_.2.2.2.2.out
                     refine Kd.R_append_rows_step Kd.string (w0 := wz) wz.heap.size (by rfl) (.tmp 78) (.tmp 80) 22 9 (.string ⟨#[]⟩) 16 rfl Try.underlying22 info9 rfl (by decide) (by omega) v0 [] S1 _ _ _ (fun _ => True) (fun _ => False) rfl rfl ?aO ?aR (fun _ _ h => h) (fun _ h => h.elim) (fun _ _ => trivial) hB hB.size ?aL ?_
                     (case aR => exact Kd.C_below K1.out hB)
                     (case aO => exact Kd.R_mono hf0.out (fun _ _ => trivial))
                     (case aL => (have := HLen.out; (try simp only [List.length_append, List.length_nil]); omega))
                     intro v3 w2 ho_ hb hg hat
                     have ho : Kd.R Kd.string 9 w2 wz.heap.size (fun _ => True) v3 S1 := ho_
                     clear ho_
                     refine hK.out _ _ (hSz _ hb) (fun hHeld => ?_)
                     clear hK K
                     refine norm_ (a' := putAll _ [(78, v0), (81, v3)]) (by first | (simp only [putAll, Act.put, List.setIfInBounds_toArray, List.set_cons_zero, List.set_cons_succ, i64_w, i32_w]; done) | (simp only [putAll, Act.put, List.setIfInBounds_toArray, List.set_cons_zero, List.set_cons_succ, i64_w, i32_w]; rfl)) (hJ2_0_0 (v0, v3) _ ⟨hHeld, ⟨RowT.of rfl ho⟩⟩)
                    ·skip
                     have hB := hS_.2.2.2.2.out
                     refine Kd.R_lit_step (Kd.raw 2) (w0 := wz) wz.heap.size 42 ?hg (N := 85) ?hd (xs := ([] : List (List Value))) (inner := []) (ok := fun _ => True) (okp := fun _ => True) ?hr ?hp (fun _ hk => hk) trivial hB hB.size (by simp) ?_; (case hd => rfl); (case hg => rfl); (case hr => first | (go_simp; done) | (go_simp; rfl)); (case hp => exact (Reps.none _ _))
                     intro v7 w2 ho hb hg hat
                     refine hK.out _ _ (hSz _ hb) (fun hHeld => ?_)
                     clear hK K
                     refine norm_ (a' := putAll _ [(78, v0), (85, v7)]) (by first | (simp only [putAll, Act.put, List.setIfInBounds_toArray, List.set_cons_zero, List.set_cons_succ, i64_w, i32_w]; done) | (simp only [putAll, Act.put, List.setIfInBounds_toArray, List.set_cons_zero, List.set_cons_succ, i64_w, i32_w]; rfl)) (hJ1_1_0 (v0, v7) _ ⟨hHeld, ⟨RowT.lit hf0.out hg⟩, ⟨RowT.of rfl ho⟩⟩)
                    ·skip
                     have hB := hS_.2.2.2.2.out
                     refine box_step ?hg (N := 14) ?hd (cs := #[.slice none 0 0, .slice none 0 0]) (t := 25) ?hr ?_; (case hd => rfl); (case hg => rfl); (case hr => first | (go_simp; done) | (go_simp; rfl))
                     intro g15 hgq w2 hbox hb0
                     have hb := hB.trans (hb0.mono hB.size)
                     refine hK.out _ _ (hSz _ hb) (fun hHeld => ?_)
                     clear hK K
                     refine norm_ (a' := putAll _ [(78, v0), (14, .pointer (some ⟨g15, 0, none⟩))]) (by first | (simp only [putAll, Act.put, List.setIfInBounds_toArray, List.set_cons_zero, List.set_cons_succ, i64_w, i32_w]; done) | (simp only [putAll, Act.put, List.setIfInBounds_toArray, List.set_cons_zero, List.set_cons_succ, i64_w, i32_w]; rfl)) (hJ1_0_1 (v0, g15) _ ⟨hHeld, ⟨RowT.box hf0.out hb0⟩, ⟨by rw [hgq]; exact hB.size, hbox⟩⟩)
                  ·rintro v7 w1 ⟨hS_, hf0⟩
                   refine norm_ (a' := ?_) ?_ ?_
                   rotate_left
                   ·simp only [putAll, Act.put, List.setIfInBounds_toArray, List.set_cons_zero, List.set_cons_succ, i64_w, i32_w]
                    rfl
                   refine two_ (i := 0) (j := 15) (Ni := some 78) (Nj := some 14) #[true, true, true, false, true, true, false, true, true, true, false, true, true, false, false, false, false] #[false, true, true, false, true, true, false, true, true, true, false, true, true, false, false, true, false] rfl rfl rfl rfl (two_of HT_.out (by kernel_rfl)) (by decide) (by decide) (fun K hK => ?_) (fun K hK => ?_)
                   ·skip
                    have hB := hS_.2.2.2.2.out
                    refine Kd.R_lit_step Kd.string (w0 := wz) wz.heap.size 9 ?hg (N := 78) ?hd (xs := ([] : List (ByteArray))) (inner := []) (ok := fun _ => True) (okp := fun _ => True) ?hr ?hp (fun _ hk => hk) trivial hB hB.size (by simp) ?_; (case hd => rfl); (case hg => rfl); (case hr => first | (go_simp; done) | (go_simp; rfl)); (case hp => exact (Reps.none _ _))
                    intro v0 w2 ho hb hg hat
                    refine hK.out _ _ (hSz _ hb) (fun hHeld => ?_)
                    clear hK K
                    refine norm_ (a' := putAll _ [(78, v0), (85, v7)]) (by first | (simp only [putAll, Act.put, List.setIfInBounds_toArray, List.set_cons_zero, List.set_cons_succ, i64_w, i32_w]; done) | (simp only [putAll, Act.put, List.setIfInBounds_toArray, List.set_cons_zero, List.set_cons_succ, i64_w, i32_w]; rfl)) (hJ1_1_0 (v0, v7) _ ⟨hHeld, ⟨RowT.of rfl ho⟩, ⟨RowT.lit hf0.out hg⟩⟩)
                   ·skip
                    have hB := hS_.2.2.2.2.out
                    refine box_step ?hg (N := 14) ?hd (cs := #[.slice none 0 0, .slice none 0 0]) (t := 25) ?hr ?_; (case hd => rfl); (case hg => rfl); (case hr => first | (go_simp; done) | (go_simp; rfl))
                    intro g15 hgq w2 hbox hb0
                    have hb := hB.trans (hb0.mono hB.size)
                    refine hK.out _ _ (hSz _ hb) (fun hHeld => ?_)
                    clear hK K
                    refine norm_ (a' := putAll _ [(85, v7), (14, .pointer (some ⟨g15, 0, none⟩))]) (by first | (simp only [putAll, Act.put, List.setIfInBounds_toArray, List.set_cons_zero, List.set_cons_succ, i64_w, i32_w]; done) | (simp only [putAll, Act.put, List.setIfInBounds_toArray, List.set_cons_zero, List.set_cons_succ, i64_w, i32_w]; rfl)) (hJ0_1_1 (v7, g15) _ ⟨hHeld, ⟨RowT.box hf0.out hb0⟩, ⟨by rw [hgq]; exact hB.size, hbox⟩⟩)
                 ·rintro g15 w1 ⟨hS_, hf0⟩
                  refine norm_ (a' := ?_) ?_ ?_
                  rotate_left
                  ·simp only [putAll, Act.put, List.setIfInBounds_toArray, List.set_cons_zero, List.set_cons_succ, i64_w, i32_w]
                   rfl
                  refine two_ (i := 0) (j := 7) (Ni := some 78) (Nj := some 85) #[true, true, true, false, true, true, false, false, true, true, false, true, true, false, false, true, false] #[false, true, true, false, true, true, false, true, true, true, false, true, true, false, false, true, false] rfl rfl rfl rfl (two_of HT_.out (by kernel_rfl)) (by decide) (by decide) (fun K hK => ?_) (fun K hK => ?_)
                  ·skip
                   have hB := hS_.2.2.2.2.out
                   refine Kd.R_lit_step Kd.string (w0 := wz) wz.heap.size 9 ?hg (N := 78) ?hd (xs := ([] : List (ByteArray))) (inner := []) (ok := fun _ => True) (okp := fun _ => True) ?hr ?hp (fun _ hk => hk) trivial hB hB.size (by simp) ?_; (case hd => rfl); (case hg => rfl); (case hr => first | (go_simp; done) | (go_simp; rfl)); (case hp => exact (Reps.none _ _))
                   intro v0 w2 ho hb hg hat
                   refine hK.out _ _ (hSz _ hb) (fun hHeld => ?_)
                   clear hK K
                   refine norm_ (a' := putAll _ [(78, v0), (14, .pointer (some ⟨g15, 0, none⟩))]) (by first | (simp only [putAll, Act.put, List.setIfInBounds_toArray, List.set_cons_zero, List.set_cons_succ, i64_w, i32_w]; done) | (simp only [putAll, Act.put, List.setIfInBounds_toArray, List.set_cons_zero, List.set_cons_succ, i64_w, i32_w]; rfl)) (hJ1_0_1 (v0, g15) _ ⟨hHeld, ⟨RowT.of rfl ho⟩, ⟨hf0.out.1, (hg.block _ (blk_lt hf0.out.2) (by simp)).trans hf0.out.2⟩⟩)
                  ·skip
                   have hB := hS_.2.2.2.2.out
                   refine Kd.R_lit_step (Kd.raw 2) (w0 := wz) wz.heap.size 42 ?hg (N := 85) ?hd (xs := ([] : List (List Value))) (inner := []) (ok := fun _ => True) (okp := fun _ => True) ?hr ?hp (fun _ hk => hk) trivial hB hB.size (by simp) ?_; (case hd => rfl); (case hg => rfl); (case hr => first | (go_simp; done) | (go_simp; rfl)); (case hp => exact (Reps.none _ _))
                   intro v7 w2 ho hb hg hat
                   refine hK.out _ _ (hSz _ hb) (fun hHeld => ?_)
                   clear hK K
                   refine norm_ (a' := putAll _ [(85, v7), (14, .pointer (some ⟨g15, 0, none⟩))]) (by first | (simp only [putAll, Act.put, List.setIfInBounds_toArray, List.set_cons_zero, List.set_cons_succ, i64_w, i32_w]; done) | (simp only [putAll, Act.put, List.setIfInBounds_toArray, List.set_cons_zero, List.set_cons_succ, i64_w, i32_w]; rfl)) (hJ0_1_1 (v7, g15) _ ⟨hHeld, ⟨RowT.of rfl ho⟩, ⟨hf0.out.1, (hg.block _ (blk_lt hf0.out.2) (by simp)).trans hf0.out.2⟩⟩)
                ·rintro ⟨v0, v3⟩ w1 ⟨hS_, hf0⟩
                 refine norm_ (a' := ?_) ?_ ?_
                 rotate_left
                 ·simp only [putAll, Act.put, List.setIfInBounds_toArray, List.set_cons_zero, List.set_cons_succ, i64_w, i32_w]
                  rfl
                 refine three_ (i := 6) (j := 7) (k := 15) (Ni := some 84) (Nj := some 85) (Nk := some 14) #[true, true, true, true, true, true, true, false, true, true, false, true, true, false, false, false, false] #[true, true, true, true, true, true, false, true, true, true, false, true, true, false, false, false, false] #[true, true, true, true, true, true, false, false, true, true, false, true, true, false, false, true, false] rfl rfl rfl rfl rfl rfl (three_of HT_.out (by kernel_rfl)) (by decide) (by decide) (by decide) (fun K hK => ?_) (fun K hK => ?_) (fun K hK => ?_)
                 ·skip
                  have hB := hS_.2.2.2.2.out
                  refine Kd.R_append_rows_step Kd.string (w0 := wz) wz.heap.size (by rfl) (.tmp 81) (.tmp 83) 22 9 (.string ⟨#[]⟩) 16 rfl Try.underlying22 info9 rfl (by decide) (by omega) v3 S1 S2 _ _ _ (fun _ => True) (fun _ => False) rfl rfl ?aO ?aR (fun _ _ h => h) (fun _ h => h.elim) (fun _ _ => trivial) hB hB.size ?aL ?_
                  (case aR => exact Kd.C_below K3.out hB)
                  (case aO => exact Kd.R_mono hf0.out (fun _ _ => trivial))
                  (case aL => (have := HLen.out; (try simp only [List.length_append, List.length_nil]); omega))
                  intro v6 w2 ho_ hb hg hat
                  have ho : Kd.R Kd.string 9 w2 wz.heap.size (fun _ => True) v6 T1 := by rw [HLen.out.2.2.2.2.1]; exact ho_
                  clear ho_
                  refine hK.out _ _ (hSz _ hb) (fun hHeld => ?_)
                  clear hK K
                  refine norm_ (a' := putAll _ [(78, v0), (81, v3), (84, v6)]) (by first | (simp only [putAll, Act.put, List.setIfInBounds_toArray, List.set_cons_zero, List.set_cons_succ, i64_w, i32_w]; done) | (simp only [putAll, Act.put, List.setIfInBounds_toArray, List.set_cons_zero, List.set_cons_succ, i64_w, i32_w]; rfl)) (hJ3_0_0 (v0, v3, v6) _ ⟨hHeld, ⟨RowT.of rfl ho⟩⟩)
                 ·skip
                  have hB := hS_.2.2.2.2.out
                  refine Kd.R_lit_step (Kd.raw 2) (w0 := wz) wz.heap.size 42 ?hg (N := 85) ?hd (xs := ([] : List (List Value))) (inner := []) (ok := fun _ => True) (okp := fun _ => True) ?hr ?hp (fun _ hk => hk) trivial hB hB.size (by simp) ?_; (case hd => rfl); (case hg => rfl); (case hr => first | (go_simp; done) | (go_simp; rfl)); (case hp => exact (Reps.none _ _))
                  intro v7 w2 ho hb hg hat
                  refine hK.out _ _ (hSz _ hb) (fun hHeld => ?_)
                  clear hK K
                  refine norm_ (a' := putAll _ [(78, v0), (81, v3), (85, v7)]) (by first | (simp only [putAll, Act.put, List.setIfInBounds_toArray, List.set_cons_zero, List.set_cons_succ, i64_w, i32_w]; done) | (simp only [putAll, Act.put, List.setIfInBounds_toArray, List.set_cons_zero, List.set_cons_succ, i64_w, i32_w]; rfl)) (hJ2_1_0 (v0, v3, v7) _ ⟨hHeld, ⟨RowT.lit hf0.out hg⟩, ⟨RowT.of rfl ho⟩⟩)
                 ·skip
                  have hB := hS_.2.2.2.2.out
                  refine box_step ?hg (N := 14) ?hd (cs := #[.slice none 0 0, .slice none 0 0]) (t := 25) ?hr ?_; (case hd => rfl); (case hg => rfl); (case hr => first | (go_simp; done) | (go_simp; rfl))
                  intro g15 hgq w2 hbox hb0
                  have hb := hB.trans (hb0.mono hB.size)
                  refine hK.out _ _ (hSz _ hb) (fun hHeld => ?_)
                  clear hK K
                  refine norm_ (a' := putAll _ [(78, v0), (81, v3), (14, .pointer (some ⟨g15, 0, none⟩))]) (by first | (simp only [putAll, Act.put, List.setIfInBounds_toArray, List.set_cons_zero, List.set_cons_succ, i64_w, i32_w]; done) | (simp only [putAll, Act.put, List.setIfInBounds_toArray, List.set_cons_zero, List.set_cons_succ, i64_w, i32_w]; rfl)) (hJ2_0_1 (v0, v3, g15) _ ⟨hHeld, ⟨RowT.box hf0.out hb0⟩, ⟨by rw [hgq]; exact hB.size, hbox⟩⟩)
               ·rintro ⟨v0, v7⟩ w1 ⟨hS_, hf0, hf1⟩
                refine norm_ (a' := ?_) ?_ ?_
                rotate_left
                ·simp only [putAll, Act.put, List.setIfInBounds_toArray, List.set_cons_zero, List.set_cons_succ, i64_w, i32_w]
                 rfl
                refine two_ (i := 3) (j := 15) (Ni := some 81) (Nj := some 14) #[true, true, true, true, true, true, false, true, true, true, false, true, true, false, false, false, false] #[true, true, true, false, true, true, false, true, true, true, false, true, true, false, false, true, false] rfl rfl rfl rfl (two_of HT_.out (by kernel_rfl)) (by decide) (by decide) (fun K hK => ?_) (fun K hK => ?_)
                ·skip
                 have hB := hS_.2.2.2.2.out
                 refine Kd.R_append_rows_step Kd.string (w0 := wz) wz.heap.size (by rfl) (.tmp 78) (.tmp 80) 22 9 (.string ⟨#[]⟩) 16 rfl Try.underlying22 info9 rfl (by decide) (by omega) v0 [] S1 _ _ _ (fun _ => True) (fun _ => False) rfl rfl ?aO ?aR (fun _ _ h => h) (fun _ h => h.elim) (fun _ _ => trivial) hB hB.size ?aL ?_
                 (case aR => exact Kd.C_below K1.out hB)
                 (case aO => exact Kd.R_mono hf0.out (fun _ _ => trivial))
                 (case aL => (have := HLen.out; (try simp only [List.length_append, List.length_nil]); omega))
                 intro v3 w2 ho_ hb hg hat
                 have ho : Kd.R Kd.string 9 w2 wz.heap.size (fun _ => True) v3 S1 := ho_
                 clear ho_
                 refine hK.out _ _ (hSz _ hb) (fun hHeld => ?_)
                 clear hK K
                 refine norm_ (a' := putAll _ [(78, v0), (81, v3), (85, v7)]) (by first | (simp only [putAll, Act.put, List.setIfInBounds_toArray, List.set_cons_zero, List.set_cons_succ, i64_w, i32_w]; done) | (simp only [putAll, Act.put, List.setIfInBounds_toArray, List.set_cons_zero, List.set_cons_succ, i64_w, i32_w]; rfl)) (hJ2_1_0 (v0, v3, v7) _ ⟨hHeld, ⟨RowT.of rfl ho⟩, ⟨RowT.other hf1.out hf0.out (by decide) hg⟩⟩)
                ·skip
                 have hB := hS_.2.2.2.2.out
                 refine box_step ?hg (N := 14) ?hd (cs := #[.slice none 0 0, .slice none 0 0]) (t := 25) ?hr ?_; (case hd => rfl); (case hg => rfl); (case hr => first | (go_simp; done) | (go_simp; rfl))
                 intro g15 hgq w2 hbox hb0
                 have hb := hB.trans (hb0.mono hB.size)
                 refine hK.out _ _ (hSz _ hb) (fun hHeld => ?_)
                 clear hK K
                 refine norm_ (a' := putAll _ [(78, v0), (85, v7), (14, .pointer (some ⟨g15, 0, none⟩))]) (by first | (simp only [putAll, Act.put, List.setIfInBounds_toArray, List.set_cons_zero, List.set_cons_succ, i64_w, i32_w]; done) | (simp only [putAll, Act.put, List.setIfInBounds_toArray, List.set_cons_zero, List.set_cons_succ, i64_w, i32_w]; rfl)) (hJ1_1_1 (v0, v7, g15) _ ⟨hHeld, ⟨RowT.box hf0.out hb0⟩, ⟨RowT.box hf1.out hb0⟩, ⟨by rw [hgq]; exact hB.size, hbox⟩⟩)
              ·rintro ⟨v0, g15⟩ w1 ⟨hS_, hf0, hf1⟩
               refine norm_ (a' := ?_) ?_ ?_
               rotate_left
               ·simp only [putAll, Act.put, List.setIfInBounds_toArray, List.set_cons_zero, List.set_cons_succ, i64_w, i32_w]
                rfl
               refine two_ (i := 3) (j := 7) (Ni := some 81) (Nj := some 85) #[true, true, true, true, true, true, false, false, true, true, false, true, true, false, false, true, false] #[true, true, true, false, true, true, false, true, true, true, false, true, true, false, false, true, false] rfl rfl rfl rfl (two_of HT_.out (by kernel_rfl)) (by decide) (by decide) (fun K hK => ?_) (fun K hK => ?_)
               ·skip
                have hB := hS_.2.2.2.2.out
                refine Kd.R_append_rows_step Kd.string (w0 := wz) wz.heap.size (by rfl) (.tmp 78) (.tmp 80) 22 9 (.string ⟨#[]⟩) 16 rfl Try.underlying22 info9 rfl (by decide) (by omega) v0 [] S1 _ _ _ (fun _ => True) (fun _ => False) rfl rfl ?aO ?aR (fun _ _ h => h) (fun _ h => h.elim) (fun _ _ => trivial) hB hB.size ?aL ?_
                (case aR => exact Kd.C_below K1.out hB)
                (case aO => exact Kd.R_mono hf0.out (fun _ _ => trivial))
                (case aL => (have := HLen.out; (try simp only [List.length_append, List.length_nil]); omega))
                intro v3 w2 ho_ hb hg hat
                have ho : Kd.R Kd.string 9 w2 wz.heap.size (fun _ => True) v3 S1 := ho_
                clear ho_
                refine hK.out _ _ (hSz _ hb) (fun hHeld => ?_)
                clear hK K
                refine norm_ (a' := putAll _ [(78, v0), (81, v3), (14, .pointer (some ⟨g15, 0, none⟩))]) (by first | (simp only [putAll, Act.put, List.setIfInBounds_toArray, List.set_cons_zero, List.set_cons_succ, i64_w, i32_w]; done) | (simp only [putAll, Act.put, List.setIfInBounds_toArray, List.set_cons_zero, List.set_cons_succ, i64_w, i32_w]; rfl)) (hJ2_0_1 (v0, v3, g15) _ ⟨hHeld, ⟨RowT.of rfl ho⟩, ⟨hf1.out.1, blk_grown hf1.out.2 hg (Kd.R_ne hf0.out hf1.out.2 (by decide))⟩⟩)
               ·skip
                have hB := hS_.2.2.2.2.out
                refine Kd.R_lit_step (Kd.raw 2) (w0 := wz) wz.heap.size 42 ?hg (N := 85) ?hd (xs := ([] : List (List Value))) (inner := []) (ok := fun _ => True) (okp := fun _ => True) ?hr ?hp (fun _ hk => hk) trivial hB hB.size (by simp) ?_; (case hd => rfl); (case hg => rfl); (case hr => first | (go_simp; done) | (go_simp; rfl)); (case hp => exact (Reps.none _ _))
                intro v7 w2 ho hb hg hat
                refine hK.out _ _ (hSz _ hb) (fun hHeld => ?_)
                clear hK K
                refine norm_ (a' := putAll _ [(78, v0), (85, v7), (14, .pointer (some ⟨g15, 0, none⟩))]) (by first | (simp only [putAll, Act.put, List.setIfInBounds_toArray, List.set_cons_zero, List.set_cons_succ, i64_w, i32_w]; done) | (simp only [putAll, Act.put, List.setIfInBounds_toArray, List.set_cons_zero, List.set_cons_succ, i64_w, i32_w]; rfl)) (hJ1_1_1 (v0, v7, g15) _ ⟨hHeld, ⟨RowT.lit hf0.out hg⟩, ⟨RowT.of rfl ho⟩, ⟨hf1.out.1, (hg.block _ (blk_lt hf1.out.2) (by simp)).trans hf1.out.2⟩⟩)
             ·rintro ⟨v7, g15⟩ w1 ⟨hS_, hf0, hf1⟩
              refine norm_ (a' := ?_) ?_ ?_
              rotate_left
              ·simp only [putAll, Act.put, List.setIfInBounds_toArray, List.set_cons_zero, List.set_cons_succ, i64_w, i32_w]
               rfl
              refine one_ (i := 0) (N := some 78) #[true, true, true, false, true, true, false, true, true, true, false, true, true, false, false, true, false] rfl rfl (one_of HT_.out (by kernel_rfl)) (by decide) (fun K hK => ?_)
              ·skip
               have hB := hS_.2.2.2.2.out
               refine Kd.R_lit_step Kd.string (w0 := wz) wz.heap.size 9 ?hg (N := 78) ?hd (xs := ([] : List (ByteArray))) (inner := []) (ok := fun _ => True) (okp := fun _ => True) ?hr ?hp (fun _ hk => hk) trivial hB hB.size (by simp) ?_; (case hd => rfl); (case hg => rfl); (case hr => first | (go_simp; done) | (go_simp; rfl)); (case hp => exact (Reps.none _ _))
               intro v0 w2 ho hb hg hat
               refine hK.out _ _ (hSz _ hb) (fun hHeld => ?_)
               clear hK K
               refine norm_ (a' := putAll _ [(78, v0), (85, v7), (14, .pointer (some ⟨g15, 0, none⟩))]) (by first | (simp only [putAll, Act.put, List.setIfInBounds_toArray, List.set_cons_zero, List.set_cons_succ, i64_w, i32_w]; done) | (simp only [putAll, Act.put, List.setIfInBounds_toArray, List.set_cons_zero, List.set_cons_succ, i64_w, i32_w]; rfl)) (hJ1_1_1 (v0, v7, g15) _ ⟨hHeld, ⟨RowT.of rfl ho⟩, ⟨RowT.lit hf0.out hg⟩, ⟨hf1.out.1, (hg.block _ (blk_lt hf1.out.2) (by simp)).trans hf1.out.2⟩⟩)
            ·rintro ⟨v0, v3, v6⟩ w1 ⟨hS_, hf0⟩
             refine norm_ (a' := ?_) ?_ ?_
             rotate_left
             ·simp only [putAll, Act.put, List.setIfInBounds_toArray, List.set_cons_zero, List.set_cons_succ, i64_w, i32_w]
              rfl
             refine two_ (i := 7) (j := 15) (Ni := some 85) (Nj := some 14) #[true, true, true, true, true, true, true, true, true, true, false, true, true, false, false, false, false] #[true, true, true, true, true, true, true, false, true, true, false, true, true, false, false, true, false] rfl rfl rfl rfl (two_of HT_.out (by kernel_rfl)) (by decide) (by decide) (fun K hK => ?_) (fun K hK => ?_)
             ·skip
              have hB := hS_.2.2.2.2.out
              refine Kd.R_lit_step (Kd.raw 2) (w0 := wz) wz.heap.size 42 ?hg (N := 85) ?hd (xs := ([] : List (List Value))) (inner := []) (ok := fun _ => True) (okp := fun _ => True) ?hr ?hp (fun _ hk => hk) trivial hB hB.size (by simp) ?_; (case hd => rfl); (case hg => rfl); (case hr => first | (go_simp; done) | (go_simp; rfl)); (case hp => exact (Reps.none _ _))
              intro v7 w2 ho hb hg hat
              refine hK.out _ _ (hSz _ hb) (fun hHeld => ?_)
              clear hK K
              refine norm_ (a' := putAll _ [(78, v0), (81, v3), (84, v6), (85, v7)]) (by first | (simp only [putAll, Act.put, List.setIfInBounds_toArray, List.set_cons_zero, List.set_cons_succ, i64_w, i32_w]; done) | (simp only [putAll, Act.put, List.setIfInBounds_toArray, List.set_cons_zero, List.set_cons_succ, i64_w, i32_w]; rfl)) (hJ3_1_0 (v0, v3, v6, v7) _ ⟨hHeld, ⟨RowT.lit hf0.out hg⟩, ⟨RowT.of rfl ho⟩⟩)
             ·skip
              have hB := hS_.2.2.2.2.out
              refine box_step ?hg (N := 14) ?hd (cs := #[.slice none 0 0, .slice none 0 0]) (t := 25) ?hr ?_; (case hd => rfl); (case hg => rfl); (case hr => first | (go_simp; done) | (go_simp; rfl))
              intro g15 hgq w2 hbox hb0
              have hb := hB.trans (hb0.mono hB.size)
              refine hK.out _ _ (hSz _ hb) (fun hHeld => ?_)
              clear hK K
              refine norm_ (a' := putAll _ [(78, v0), (81, v3), (84, v6), (14, .pointer (some ⟨g15, 0, none⟩))]) (by first | (simp only [putAll, Act.put, List.setIfInBounds_toArray, List.set_cons_zero, List.set_cons_succ, i64_w, i32_w]; done) | (simp only [putAll, Act.put, List.setIfInBounds_toArray, List.set_cons_zero, List.set_cons_succ, i64_w, i32_w]; rfl)) (hJ3_0_1 (v0, v3, v6, g15) _ ⟨hHeld, ⟨RowT.box hf0.out hb0⟩, ⟨by rw [hgq]; exact hB.size, hbox⟩⟩)
           ·rintro ⟨v0, v3, v7⟩ w1 ⟨hS_, hf0, hf1⟩
            refine norm_ (a' := ?_) ?_ ?_
            rotate_left
            ·simp only [putAll, Act.put, List.setIfInBounds_toArray, List.set_cons_zero, List.set_cons_succ, i64_w, i32_w]
             rfl
            refine two_ (i := 6) (j := 15) (Ni := some 84) (Nj := some 14) #[true, true, true, true, true, true, true, true, true, true, false, true, true, false, false, false, false] #[true, true, true, true, true, true, false, true, true, true, false, true, true, false, false, true, false] rfl rfl rfl rfl (two_of HT_.out (by kernel_rfl)) (by decide) (by decide) (fun K hK => ?_) (fun K hK => ?_)
            ·skip
             have hB := hS_.2.2.2.2.out
             refine Kd.R_append_rows_step Kd.string (w0 := wz) wz.heap.size (by rfl) (.tmp 81) (.tmp 83) 22 9 (.string ⟨#[]⟩) 16 rfl Try.underlying22 info9 rfl (by decide) (by omega) v3 S1 S2 _ _ _ (fun _ => True) (fun _ => False) rfl rfl ?aO ?aR (fun _ _ h => h) (fun _ h => h.elim) (fun _ _ => trivial) hB hB.size ?aL ?_
             (case aR => exact Kd.C_below K3.out hB)
             (case aO => exact Kd.R_mono hf0.out (fun _ _ => trivial))
             (case aL => (have := HLen.out; (try simp only [List.length_append, List.length_nil]); omega))
             intro v6 w2 ho_ hb hg hat
             have ho : Kd.R Kd.string 9 w2 wz.heap.size (fun _ => True) v6 T1 := by rw [HLen.out.2.2.2.2.1]; exact ho_
             clear ho_
             refine hK.out _ _ (hSz _ hb) (fun hHeld => ?_)
             clear hK K
             refine norm_ (a' := putAll _ [(78, v0), (81, v3), (84, v6), (85, v7)]) (by first | (simp only [putAll, Act.put, List.setIfInBounds_toArray, List.set_cons_zero, List.set_cons_succ, i64_w, i32_w]; done) | (simp only [putAll, Act.put, List.setIfInBounds_toArray, List.set_cons_zero, List.set_cons_succ, i64_w, i32_w]; rfl)) (hJ3_1_0 (v0, v3, v6, v7) _ ⟨hHeld, ⟨RowT.of rfl ho⟩, ⟨RowT.other hf1.out hf0.out (by decide) hg⟩⟩)
            ·skip
             have hB := hS_.2.2.2.2.out
             refine box_step ?hg (N := 14) ?hd (cs := #[.slice none 0 0, .slice none 0 0]) (t := 25) ?hr ?_; (case hd => rfl); (case hg => rfl); (case hr => first | (go_simp; done) | (go_simp; rfl))
             intro g15 hgq w2 hbox hb0
             have hb := hB.trans (hb0.mono hB.size)
             refine hK.out _ _ (hSz _ hb) (fun hHeld => ?_)
             clear hK K
             refine norm_ (a' := putAll _ [(78, v0), (81, v3), (85, v7), (14, .pointer (some ⟨g15, 0, none⟩))]) (by first | (simp only [putAll, Act.put, List.setIfInBounds_toArray, List.set_cons_zero, List.set_cons_succ, i64_w, i32_w]; done) | (simp only [putAll, Act.put, List.setIfInBounds_toArray, List.set_cons_zero, List.set_cons_succ, i64_w, i32_w]; rfl)) (hJ2_1_1 (v0, v3, v7, g15) _ ⟨hHeld, ⟨RowT.box hf0.out hb0⟩, ⟨RowT.box hf1.out hb0⟩, ⟨by rw [hgq]; exact hB.size, hbox⟩⟩)
          ·rintro ⟨v0, v3, g15⟩ w1 ⟨hS_, hf0, hf1⟩
           refine norm_ (a' := ?_) ?_ ?_
           rotate_left
           ·simp only [putAll, Act.put, List.setIfInBounds_toArray, List.set_cons_zero, List.set_cons_succ, i64_w, i32_w]
            rfl
           refine two_ (i := 6) (j := 7) (Ni := some 84) (Nj := some 85) #[true, true, true, true, true, true, true, false, true, true, false, true, true, false, false, true, false] #[true, true, true, true, true, true, false, true, true, true, false, true, true, false, false, true, false] rfl rfl rfl rfl (two_of HT_.out (by kernel_rfl)) (by decide) (by decide) (fun K hK => ?_) (fun K hK => ?_)
           ·skip
            have hB := hS_.2.2.2.2.out
            refine Kd.R_append_rows_step Kd.string (w0 := wz) wz.heap.size (by rfl) (.tmp 81) (.tmp 83) 22 9 (.string ⟨#[]⟩) 16 rfl Try.underlying22 info9 rfl (by decide) (by omega) v3 S1 S2 _ _ _ (fun _ => True) (fun _ => False) rfl rfl ?aO ?aR (fun _ _ h => h) (fun _ h => h.elim) (fun _ _ => trivial) hB hB.size ?aL ?_
            (case aR => exact Kd.C_below K3.out hB)
            (case aO => exact Kd.R_mono hf0.out (fun _ _ => trivial))
            (case aL => (have := HLen.out; (try simp only [List.length_append, List.length_nil]); omega))
            intro v6 w2 ho_ hb hg hat
            have ho : Kd.R Kd.string 9 w2 wz.heap.size (fun _ => True) v6 T1 := by rw [HLen.out.2.2.2.2.1]; exact ho_
            clear ho_
            refine hK.out _ _ (hSz _ hb) (fun hHeld => ?_)
            clear hK K
            refine norm_ (a' := putAll _ [(78, v0), (81, v3), (84, v6), (14, .pointer (some ⟨g15, 0, none⟩))]) (by first | (simp only [putAll, Act.put, List.setIfInBounds_toArray, List.set_cons_zero, List.set_cons_succ, i64_w, i32_w]; done) | (simp only [putAll, Act.put, List.setIfInBounds_toArray, List.set_cons_zero, List.set_cons_succ, i64_w, i32_w]; rfl)) (hJ3_0_1 (v0, v3, v6, g15) _ ⟨hHeld, ⟨RowT.of rfl ho⟩, ⟨hf1.out.1, blk_grown hf1.out.2 hg (Kd.R_ne hf0.out hf1.out.2 (by decide))⟩⟩)
           ·skip
            have hB := hS_.2.2.2.2.out
            refine Kd.R_lit_step (Kd.raw 2) (w0 := wz) wz.heap.size 42 ?hg (N := 85) ?hd (xs := ([] : List (List Value))) (inner := []) (ok := fun _ => True) (okp := fun _ => True) ?hr ?hp (fun _ hk => hk) trivial hB hB.size (by simp) ?_; (case hd => rfl); (case hg => rfl); (case hr => first | (go_simp; done) | (go_simp; rfl)); (case hp => exact (Reps.none _ _))
            intro v7 w2 ho hb hg hat
            refine hK.out _ _ (hSz _ hb) (fun hHeld => ?_)
            clear hK K
            refine norm_ (a' := putAll _ [(78, v0), (81, v3), (85, v7), (14, .pointer (some ⟨g15, 0, none⟩))]) (by first | (simp only [putAll, Act.put, List.setIfInBounds_toArray, List.set_cons_zero, List.set_cons_succ, i64_w, i32_w]; done) | (simp only [putAll, Act.put, List.setIfInBounds_toArray, List.set_cons_zero, List.set_cons_succ, i64_w, i32_w]; rfl)) (hJ2_1_1 (v0, v3, v7, g15) _ ⟨hHeld, ⟨RowT.lit hf0.out hg⟩, ⟨RowT.of rfl ho⟩, ⟨hf1.out.1, (hg.block _ (blk_lt hf1.out.2) (by simp)).trans hf1.out.2⟩⟩)
         ·rintro ⟨v0, v7, g15⟩ w1 ⟨hS_, hf0, hf1, hf2⟩
          refine norm_ (a' := ?_) ?_ ?_
          rotate_left
          ·simp only [putAll, Act.put, List.setIfInBounds_toArray, List.set_cons_zero, List.set_cons_succ, i64_w, i32_w]
           rfl
          refine one_ (i := 3) (N := some 81) #[true, true, true, true, true, true, false, true, true, true, false, true, true, false, false, true, false] rfl rfl (one_of HT_.out (by kernel_rfl)) (by decide) (fun K hK => ?_)
          ·skip
           have hB := hS_.2.2.2.2.out
           refine Kd.R_append_rows_step Kd.string (w0 := wz) wz.heap.size (by rfl) (.tmp 78) (.tmp 80) 22 9 (.string ⟨#[]⟩) 16 rfl Try.underlying22 info9 rfl (by decide) (by omega) v0 [] S1 _ _ _ (fun _ => True) (fun _ => False) rfl rfl ?aO ?aR (fun _ _ h => h) (fun _ h => h.elim) (fun _ _ => trivial) hB hB.size ?aL ?_
           (case aR => exact Kd.C_below K1.out hB)
           (case aO => exact Kd.R_mono hf0.out (fun _ _ => trivial))
           (case aL => (have := HLen.out; (try simp only [List.length_append, List.length_nil]); omega))
           intro v3 w2 ho_ hb hg hat
           have ho : Kd.R Kd.string 9 w2 wz.heap.size (fun _ => True) v3 S1 := ho_
           clear ho_
           refine hK.out _ _ (hSz _ hb) (fun hHeld => ?_)
           clear hK K
           refine norm_ (a' := putAll _ [(78, v0), (81, v3), (85, v7), (14, .pointer (some ⟨g15, 0, none⟩))]) (by first | (simp only [putAll, Act.put, List.setIfInBounds_toArray, List.set_cons_zero, List.set_cons_succ, i64_w, i32_w]; done) | (simp only [putAll, Act.put, List.setIfInBounds_toArray, List.set_cons_zero, List.set_cons_succ, i64_w, i32_w]; rfl)) (hJ2_1_1 (v0, v3, v7, g15) _ ⟨hHeld, ⟨RowT.of rfl ho⟩, ⟨RowT.other hf1.out hf0.out (by decide) hg⟩, ⟨hf2.out.1, blk_grown hf2.out.2 hg (Kd.R_ne hf0.out hf2.out.2 (by decide))⟩⟩)
        ·rintro ⟨v0, v3, v6, v7⟩ w1 ⟨hS_, hf0, hf1⟩
         refine norm_ (a' := ?_) ?_ ?_
         rotate_left
         ·simp only [putAll, Act.put, List.setIfInBounds_toArray, List.set_cons_zero, List.set_cons_succ, i64_w, i32_w]
          rfl
         refine two_ (i := 10) (j := 15) (Ni := some 88) (Nj := some 14) #[true, true, true, true, true, true, true, true, true, true, true, true, true, false, false, false, false] #[true, true, true, true, true, true, true, true, true, true, false, true, true, false, false, true, false] rfl rfl rfl rfl (two_of HT_.out (by kernel_rfl)) (by decide) (by decide) (fun K hK => ?_) (fun K hK => ?_)
         ·skip
          have hB := hS_.2.2.2.2.out
          refine Kd.R_append_rows_step (Kd.raw 2) (w0 := wz) wz.heap.size (by rfl) (.tmp 85) (.tmp 87) 23 42 (.agg #[(.string ⟨#[]⟩), (.slice none 0 0)]) 40 rfl Try.underlying23 info42 rfl (by decide) (by omega) v7 [] rows1 _ _ _ (fun _ => True) (fun _ => False) rfl rfl ?aO ?aR (fun _ _ h => h) (fun _ h => h.elim) (fun _ _ => trivial) hB hB.size ?aL ?_
          (case aR => exact Kd.C_below K2.out hB)
          (case aO => exact Kd.R_mono hf1.out (fun _ _ => trivial))
          (case aL => (have := HLen.out; (try simp only [List.length_append, List.length_nil]); omega))
          intro v10 w2 ho_ hb hg hat
          have ho : (Kd.raw 2).R 42 w2 wz.heap.size (fun _ => True) v10 rows1 := ho_
          clear ho_
          refine hK.out _ _ (hSz _ hb) (fun hHeld => ?_)
          clear hK K
          refine norm_ (a' := putAll _ [(78, v0), (81, v3), (84, v6), (85, v7), (88, v10)]) (by first | (simp only [putAll, Act.put, List.setIfInBounds_toArray, List.set_cons_zero, List.set_cons_succ, i64_w, i32_w]; done) | (simp only [putAll, Act.put, List.setIfInBounds_toArray, List.set_cons_zero, List.set_cons_succ, i64_w, i32_w]; rfl)) (hJ3_2_0 (v0, v3, v6, v7, v10) _ ⟨hHeld, ⟨RowT.other hf0.out hf1.out (by decide) hg⟩, ⟨RowT.of rfl ho⟩⟩)
         ·skip
          have hB := hS_.2.2.2.2.out
          refine box_step ?hg (N := 14) ?hd (cs := #[.slice none 0 0, .slice none 0 0]) (t := 25) ?hr ?_; (case hd => rfl); (case hg => rfl); (case hr => first | (go_simp; done) | (go_simp; rfl))
          intro g15 hgq w2 hbox hb0
          have hb := hB.trans (hb0.mono hB.size)
          refine hK.out _ _ (hSz _ hb) (fun hHeld => ?_)
          clear hK K
          refine norm_ (a' := putAll _ [(78, v0), (81, v3), (84, v6), (85, v7), (14, .pointer (some ⟨g15, 0, none⟩))]) (by first | (simp only [putAll, Act.put, List.setIfInBounds_toArray, List.set_cons_zero, List.set_cons_succ, i64_w, i32_w]; done) | (simp only [putAll, Act.put, List.setIfInBounds_toArray, List.set_cons_zero, List.set_cons_succ, i64_w, i32_w]; rfl)) (hJ3_1_1 (v0, v3, v6, v7, g15) _ ⟨hHeld, ⟨RowT.box hf0.out hb0⟩, ⟨RowT.box hf1.out hb0⟩, ⟨by rw [hgq]; exact hB.size, hbox⟩⟩)
       ·rintro ⟨v0, v3, v6, g15⟩ w1 ⟨hS_, hf0, hf1⟩
        refine norm_ (a' := ?_) ?_ ?_
        rotate_left
        ·simp only [putAll, Act.put, List.setIfInBounds_toArray, List.set_cons_zero, List.set_cons_succ, i64_w, i32_w]
         rfl
        refine one_ (i := 7) (N := some 85) #[true, true, true, true, true, true, true, true, true, true, false, true, true, false, false, true, false] rfl rfl (one_of HT_.out (by kernel_rfl)) (by decide) (fun K hK => ?_)
        ·skip
         have hB := hS_.2.2.2.2.out
         refine Kd.R_lit_step (Kd.raw 2) (w0 := wz) wz.heap.size 42 ?hg (N := 85) ?hd (xs := ([] : List (List Value))) (inner := []) (ok := fun _ => True) (okp := fun _ => True) ?hr ?hp (fun _ hk => hk) trivial hB hB.size (by simp) ?_; (case hd => rfl); (case hg => rfl); (case hr => first | (go_simp; done) | (go_simp; rfl)); (case hp => exact (Reps.none _ _))
         intro v7 w2 ho hb hg hat
         refine hK.out _ _ (hSz _ hb) (fun hHeld => ?_)
         clear hK K
         refine norm_ (a' := putAll _ [(78, v0), (81, v3), (84, v6), (85, v7), (14, .pointer (some ⟨g15, 0, none⟩))]) (by first | (simp only [putAll, Act.put, List.setIfInBounds_toArray, List.set_cons_zero, List.set_cons_succ, i64_w, i32_w]; done) | (simp only [putAll, Act.put, List.setIfInBounds_toArray, List.set_cons_zero, List.set_cons_succ, i64_w, i32_w]; rfl)) (hJ3_1_1 (v0, v3, v6, v7, g15) _ ⟨hHeld, ⟨RowT.lit hf0.out hg⟩, ⟨RowT.of rfl ho⟩, ⟨hf1.out.1, (hg.block _ (blk_lt hf1.out.2) (by simp)).trans hf1.out.2⟩⟩)
      ·rintro ⟨v0, v3, v7, g15⟩ w1 ⟨hS_, hf0, hf1, hf2⟩
       refine norm_ (a' := ?_) ?_ ?_
       rotate_left
       ·simp only [putAll, Act.put, List.setIfInBounds_toArray, List.set_cons_zero, List.set_cons_succ, i64_w, i32_w]
        rfl
       refine one_ (i := 6) (N := some 84) #[true, true, true, true, true, true, true, true, true, true, false, true, true, false, false, true, false] rfl rfl (one_of HT_.out (by kernel_rfl)) (by decide) (fun K hK => ?_)
       ·skip
        have hB := hS_.2.2.2.2.out
        refine Kd.R_append_rows_step Kd.string (w0 := wz) wz.heap.size (by rfl) (.tmp 81) (.tmp 83) 22 9 (.string ⟨#[]⟩) 16 rfl Try.underlying22 info9 rfl (by decide) (by omega) v3 S1 S2 _ _ _ (fun _ => True) (fun _ => False) rfl rfl ?aO ?aR (fun _ _ h => h) (fun _ h => h.elim) (fun _ _ => trivial) hB hB.size ?aL ?_
        (case aR => exact Kd.C_below K3.out hB)
        (case aO => exact Kd.R_mono hf0.out (fun _ _ => trivial))
        (case aL => (have := HLen.out; (try simp only [List.length_append, List.length_nil]); omega))
        intro v6 w2 ho_ hb hg hat
        have ho : Kd.R Kd.string 9 w2 wz.heap.size (fun _ => True) v6 T1 := by rw [HLen.out.2.2.2.2.1]; exact ho_
        clear ho_
        refine hK.out _ _ (hSz _ hb) (fun hHeld => ?_)
        clear hK K
        refine norm_ (a' := putAll _ [(78, v0), (81, v3), (84, v6), (85, v7), (14, .pointer (some ⟨g15, 0, none⟩))]) (by first | (simp only [putAll, Act.put, List.setIfInBounds_toArray, List.set_cons_zero, List.set_cons_succ, i64_w, i32_w]; done) | (simp only [putAll, Act.put, List.setIfInBounds_toArray, List.set_cons_zero, List.set_cons_succ, i64_w, i32_w]; rfl)) (hJ3_1_1 (v0, v3, v6, v7, g15) _ ⟨hHeld, ⟨RowT.of rfl ho⟩, ⟨RowT.other hf1.out hf0.out (by decide) hg⟩, ⟨hf2.out.1, blk_grown hf2.out.2 hg (Kd.R_ne hf0.out hf2.out.2 (by decide))⟩⟩)
     ·rintro ⟨v0, v3, v6, v7, v10⟩ w1 ⟨hS_, hf0, hf1⟩
      refine norm_ (a' := ?_) ?_ ?_
      rotate_left
      ·simp only [putAll, Act.put, List.setIfInBounds_toArray, List.set_cons_zero, List.set_cons_succ, i64_w, i32_w]
       rfl
      refine two_ (i := 13) (j := 15) (Ni := some 91) (Nj := some 14) #[true, true, true, true, true, true, true, true, true, true, true, true, true, true, false, false, false] #[true, true, true, true, true, true, true, true, true, true, true, true, true, false, false, true, false] rfl rfl rfl rfl (two_of HT_.out (by kernel_rfl)) (by decide) (by decide) (fun K hK => ?_) (fun K hK => ?_)
      ·skip
       have hB := hS_.2.2.2.2.out
       refine Kd.R_append_rows_step (Kd.raw 2) (w0 := wz) wz.heap.size (by rfl) (.tmp 88) (.tmp 90) 23 42 (.agg #[(.string ⟨#[]⟩), (.slice none 0 0)]) 40 rfl Try.underlying23 info42 rfl (by decide) (by omega) v10 rows1 rows2 _ _ _ (fun _ => True) (fun _ => False) rfl rfl ?aO ?aR (fun _ _ h => h) (fun _ h => h.elim) (fun _ _ => trivial) hB hB.size ?aL ?_
       (case aR => exact Kd.C_below K4.out hB)
       (case aO => exact Kd.R_mono hf1.out (fun _ _ => trivial))
       (case aL => (have := HLen.out; (try simp only [List.length_append, List.length_nil]); omega))
       intro v13 w2 ho_ hb hg hat
       have ho : (Kd.raw 2).R 42 w2 wz.heap.size (fun _ => True) v13 rowsT := by rw [HLen.out.2.2.2.2.2]; exact ho_
       clear ho_
       obtain ⟨A13, c13, e13⟩ := Kd.R_slice ho
       obtain ⟨A6, c6, e6⟩ := Kd.R_slice hf0.out
       subst e13 e6
       refine hK.out _ _ (hSz _ hb) (fun hHeld => ?_)
       clear hK K
       refine norm_ (a' := ?_) ?_ ?_
       rotate_left
       ·show Act.put _ (some 91) _ = _
        simp only [putAll, Act.put, List.setIfInBounds_toArray, List.set_cons_zero, List.set_cons_succ, i64_w, i32_w]
        rfl
       refine pure_ (i := 14) (N := some 92) (v := ?_) (a' := ?_) #[true, true, true, true, true, true, true, true, true, true, true, true, true, true, true, false, false] rfl rfl (any_of HT_.out (by kernel_rfl)) (fun _ _ _ h => h) (Or.inl ⟨by rfl, ?_⟩) ?_ ?_
       rotate_left
       ·intro w'
        go_simp
        with_reducible rfl
       rotate_left
       ·simp only [putAll, Act.put, List.setIfInBounds_toArray, List.set_cons_zero, List.set_cons_succ, i64_w, i32_w]
        rfl
       refine norm_ (a' := putAll _ [(78, v0), (81, v3), (84, (.slice A6 T1.length c6)), (85, v7), (88, v10), (91, (.slice A13 rowsT.length c13)), (92, .agg #[(.slice A6 T1.length c6), (.slice A13 rowsT.length c13)])]) (by first | (simp only [putAll, Act.put, List.setIfInBounds_toArray, List.set_cons_zero, List.set_cons_succ, i64_w, i32_w]; done) | (simp only [putAll, Act.put, List.setIfInBounds_toArray, List.set_cons_zero, List.set_cons_succ, i64_w, i32_w]; rfl)) (hJ3_3_0 (v0, v3, (.slice A6 T1.length c6), v7, v10, (.slice A13 rowsT.length c13)) _ ⟨hHeld, ⟨RowT.other hf0.out hf1.out (by decide) hg⟩, ⟨RowT.of rfl ho⟩⟩)
      ·skip
       have hB := hS_.2.2.2.2.out
       refine box_step ?hg (N := 14) ?hd (cs := #[.slice none 0 0, .slice none 0 0]) (t := 25) ?hr ?_; (case hd => rfl); (case hg => rfl); (case hr => first | (go_simp; done) | (go_simp; rfl))
       intro g15 hgq w2 hbox hb0
       have hb := hB.trans (hb0.mono hB.size)
       refine hK.out _ _ (hSz _ hb) (fun hHeld => ?_)
       clear hK K
       refine norm_ (a' := putAll _ [(78, v0), (81, v3), (84, v6), (85, v7), (88, v10), (14, .pointer (some ⟨g15, 0, none⟩))]) (by first | (simp only [putAll, Act.put, List.setIfInBounds_toArray, List.set_cons_zero, List.set_cons_succ, i64_w, i32_w]; done) | (simp only [putAll, Act.put, List.setIfInBounds_toArray, List.set_cons_zero, List.set_cons_succ, i64_w, i32_w]; rfl)) (hJ3_2_1 (v0, v3, v6, v7, v10, g15) _ ⟨hHeld, ⟨RowT.box hf0.out hb0⟩, ⟨RowT.box hf1.out hb0⟩, ⟨by rw [hgq]; exact hB.size, hbox⟩⟩)
    ·rintro ⟨v0, v3, v6, v7, g15⟩ w1 ⟨hS_, hf0, hf1, hf2⟩
     refine norm_ (a' := ?_) ?_ ?_
     rotate_left
     ·simp only [putAll, Act.put, List.setIfInBounds_toArray, List.set_cons_zero, List.set_cons_succ, i64_w, i32_w]
      rfl
     refine one_ (i := 10) (N := some 88) #[true, true, true, true, true, true, true, true, true, true, true, true, true, false, false, true, false] rfl rfl (one_of HT_.out (by kernel_rfl)) (by decide) (fun K hK => ?_)
     ·skip
      have hB := hS_.2.2.2.2.out
      refine Kd.R_append_rows_step (Kd.raw 2) (w0 := wz) wz.heap.size (by rfl) (.tmp 85) (.tmp 87) 23 42 (.agg #[(.string ⟨#[]⟩), (.slice none 0 0)]) 40 rfl Try.underlying23 info42 rfl (by decide) (by omega) v7 [] rows1 _ _ _ (fun _ => True) (fun _ => False) rfl rfl ?aO ?aR (fun _ _ h => h) (fun _ h => h.elim) (fun _ _ => trivial) hB hB.size ?aL ?_
      (case aR => exact Kd.C_below K2.out hB)
      (case aO => exact Kd.R_mono hf1.out (fun _ _ => trivial))
      (case aL => (have := HLen.out; (try simp only [List.length_append, List.length_nil]); omega))
      intro v10 w2 ho_ hb hg hat
      have ho : (Kd.raw 2).R 42 w2 wz.heap.size (fun _ => True) v10 rows1 := ho_
      clear ho_
      refine hK.out _ _ (hSz _ hb) (fun hHeld => ?_)
      clear hK K
      refine norm_ (a' := putAll _ [(78, v0), (81, v3), (84, v6), (85, v7), (88, v10), (14, .pointer (some ⟨g15, 0, none⟩))]) (by first | (simp only [putAll, Act.put, List.setIfInBounds_toArray, List.set_cons_zero, List.set_cons_succ, i64_w, i32_w]; done) | (simp only [putAll, Act.put, List.setIfInBounds_toArray, List.set_cons_zero, List.set_cons_succ, i64_w, i32_w]; rfl)) (hJ3_2_1 (v0, v3, v6, v7, v10, g15) _ ⟨hHeld, ⟨RowT.other hf0.out hf1.out (by decide) hg⟩, ⟨RowT.of rfl ho⟩, ⟨hf2.out.1, blk_grown hf2.out.2 hg (Kd.R_ne hf1.out hf2.out.2 (by decide))⟩⟩)
   ·rintro ⟨v0, v3, v6, v7, v10, v13⟩ w1 ⟨hS_, hf0, hf1⟩
    refine norm_ (a' := ?_) ?_ ?_
    rotate_left
    ·simp only [putAll, Act.put, List.setIfInBounds_toArray, List.set_cons_zero, List.set_cons_succ, i64_w, i32_w]
     rfl
    refine one_ (i := 15) (N := some 14) #[true, true, true, true, true, true, true, true, true, true, true, true, true, true, true, true, false] rfl rfl (one_of HT_.out (by kernel_rfl)) (by decide) (fun K hK => ?_)
    ·skip
     have hB := hS_.2.2.2.2.out
     refine box_step ?hg (N := 14) ?hd (cs := #[.slice none 0 0, .slice none 0 0]) (t := 25) ?hr ?_; (case hd => rfl); (case hg => rfl); (case hr => first | (go_simp; done) | (go_simp; rfl))
     intro g15 hgq w2 hbox hb0
     have hb := hB.trans (hb0.mono hB.size)
     refine hK.out _ _ (hSz _ hb) (fun hHeld => ?_)
     clear hK K
     refine norm_ (a' := putAll _ [(78, v0), (81, v3), (84, v6), (85, v7), (88, v10), (91, v13), (14, .pointer (some ⟨g15, 0, none⟩)), (92, .agg #[v6, v13])]) (by first | (simp only [putAll, Act.put, List.setIfInBounds_toArray, List.set_cons_zero, List.set_cons_succ, i64_w, i32_w]; done) | (simp only [putAll, Act.put, List.setIfInBounds_toArray, List.set_cons_zero, List.set_cons_succ, i64_w, i32_w]; rfl)) (hJ3_3_1 (v0, v3, v6, v7, v10, v13, g15) _ ⟨hHeld, ⟨RowT.box hf0.out hb0⟩, ⟨RowT.box hf1.out hb0⟩, ⟨by rw [hgq]; exact hB.size, hbox⟩⟩)
  ·rintro ⟨v0, v3, v6, v7, v10, g15⟩ w1 ⟨hS_, hf0, hf1, hf2⟩
   refine norm_ (a' := ?_) ?_ ?_
   rotate_left
   ·simp only [putAll, Act.put, List.setIfInBounds_toArray, List.set_cons_zero, List.set_cons_succ, i64_w, i32_w]
    rfl
   refine one_ (i := 13) (N := some 91) #[true, true, true, true, true, true, true, true, true, true, true, true, true, true, false, true, false] rfl rfl (one_of HT_.out (by kernel_rfl)) (by decide) (fun K hK => ?_)
   ·skip
    have hB := hS_.2.2.2.2.out
    refine Kd.R_append_rows_step (Kd.raw 2) (w0 := wz) wz.heap.size (by rfl) (.tmp 88) (.tmp 90) 23 42 (.agg #[(.string ⟨#[]⟩), (.slice none 0 0)]) 40 rfl Try.underlying23 info42 rfl (by decide) (by omega) v10 rows1 rows2 _ _ _ (fun _ => True) (fun _ => False) rfl rfl ?aO ?aR (fun _ _ h => h) (fun _ h => h.elim) (fun _ _ => trivial) hB hB.size ?aL ?_
    (case aR => exact Kd.C_below K4.out hB)
    (case aO => exact Kd.R_mono hf1.out (fun _ _ => trivial))
    (case aL => (have := HLen.out; (try simp only [List.length_append, List.length_nil]); omega))
    intro v13 w2 ho_ hb hg hat
    have ho : (Kd.raw 2).R 42 w2 wz.heap.size (fun _ => True) v13 rowsT := by rw [HLen.out.2.2.2.2.2]; exact ho_
    clear ho_
    obtain ⟨A13, c13, e13⟩ := Kd.R_slice ho
    obtain ⟨A6, c6, e6⟩ := Kd.R_slice hf0.out
    subst e13 e6
    refine hK.out _ _ (hSz _ hb) (fun hHeld => ?_)
    clear hK K
    refine norm_ (a' := ?_) ?_ ?_
    rotate_left
    ·show Act.put _ (some 91) _ = _
     simp only [putAll, Act.put, List.setIfInBounds_toArray, List.set_cons_zero, List.set_cons_succ, i64_w, i32_w]
     rfl
    refine pure_ (i := 14) (N := some 92) (v := ?_) (a' := ?_) #[true, true, true, true, true, true, true, true, true, true, true, true, true, true, true, true, false] rfl rfl (any_of HT_.out (by kernel_rfl)) (fun _ _ _ h => h) (Or.inl ⟨by rfl, ?_⟩) ?_ ?_
    rotate_left
    ·intro w'
     go_simp
     with_reducible rfl
    rotate_left
    ·simp only [putAll, Act.put, List.setIfInBounds_toArray, List.set_cons_zero, List.set_cons_succ, i64_w, i32_w]
     rfl
    refine norm_ (a' := putAll _ [(78, v0), (81, v3), (84, (.slice A6 T1.length c6)), (85, v7), (88, v10), (91, (.slice A13 rowsT.length c13)), (14, .pointer (some ⟨g15, 0, none⟩)), (92, .agg #[(.slice A6 T1.length c6), (.slice A13 rowsT.length c13)])]) (by first | (simp only [putAll, Act.put, List.setIfInBounds_toArray, List.set_cons_zero, List.set_cons_succ, i64_w, i32_w]; done) | (simp only [putAll, Act.put, List.setIfInBounds_toArray, List.set_cons_zero, List.set_cons_succ, i64_w, i32_w]; rfl)) (hJ3_3_1 (v0, v3, (.slice A6 T1.length c6), v7, v10, (.slice A13 rowsT.length c13), g15) _ ⟨hHeld, ⟨RowT.other hf0.out hf1.out (by decide) hg⟩, ⟨RowT.of rfl ho⟩, ⟨hf2.out.1, blk_grown hf2.out.2 hg (Kd.R_ne hf1.out hf2.out.2 (by decide))⟩⟩)
 ·rintro ⟨v0, v3, v6, v7, v10, v13, g15⟩ w1 ⟨hS_, hf0, hf1, hf2⟩
  refine norm_ (a' := ?_) ?_ ?_
  rotate_left
  ·simp only [putAll, Act.put, List.setIfInBounds_toArray, List.set_cons_zero, List.set_cons_succ, i64_w, i32_w]
   rfl
  have hB := hS_.2.2.2.2.out
  obtain ⟨A6, c6, e6⟩ := Kd.R_slice hf0.out
  obtain ⟨A13, c13, e13⟩ := Kd.R_slice hf1.out
  subst e6 e13
  refine one_ (i := 16) (N := none) #[true, true, true, true, true, true, true, true, true, true, true, true, true, true, true, true, true] rfl rfl (one_of HT_.out (by kernel_rfl)) (by decide) (fun K hK => ?_)
  have q0 : w1.cell? ⟨g15, 0, none⟩ = some (.slice none 0 0) := (blk_cell hf2.out.2 0).trans rfl
  have q1 : w1.cell? ⟨g15, 1, none⟩ = some (.slice none 0 0) := (blk_cell hf2.out.2 1).trans rfl
  have q2 := blk_frozen hf2.out.2 0
  have q3 := blk_frozen hf2.out.2 1
  refine skip_ (w1 := ?_) (by rfl) rfl ?_ ?_
  rotate_left
  ·go_simp
   rfl
  have hb3 := (hB.setCell (p := ⟨g15, 0, none⟩) hf2.out.1 (.slice A6 T1.length c6)).setCell (p := ⟨g15, 1, none⟩) hf2.out.1 (.slice A13 rowsT.length c13)
  refine hK.out _ _ (hSz _ hb3) (fun hHeld => ?_)
  clear hK K
  refine done_ (done_of HT_.out (by kernel_rfl)) ?_
  have z0 := hf0.out.set hf2.out.2 (by decide) 0 (.slice A6 T1.length c6)
  have z1 := z0.set (blk_put hf2.out.2 0 (.slice A6 T1.length c6) rfl) (by decide) 1 (.slice A13 rowsT.length c13)
  have y0 := hf1.out.set hf2.out.2 (by decide) 0 (.slice A6 T1.length c6)
  have y1 := y0.set (blk_put hf2.out.2 0 (.slice A6 T1.length c6) rfl) (by decide) 1 (.slice A13 rowsT.length c13)
  have hbx := blk_put (blk_put hf2.out.2 0 (.slice A6 T1.length c6) rfl) 1 (.slice A13 rowsT.length c13) rfl
  clear q0 q1 q2 q3 z0 y0 hHeld hS_ hB hf0 hf1
  generalize (w1.setCell ⟨g15, 0, none⟩ (.slice A6 T1.length c6)).setCell ⟨g15, 1, none⟩ (.slice A13 rowsT.length c13) = we at *
  obtain ⟨ht, hk1, hk2, hk3, hT, hU⟩ := HLen.out
  subst hU
  obtain ⟨U1, hU1⟩ : ∃ U : List S42, U = D1 ++ D2 := ⟨_, rfl⟩
  have HS2 : Aside0 (templelaw0_SameRaw.f k S3 D3 T1 U1 = some true) := ⟨by rw [hT, hU1]; exact HS.out⟩
  have zc := Aside0.mk (Kd.R_reads' z1).2
  have yc := (Kd.R_reads' y1).2
  have hlen : (rows1 ++ rows2).length = U1.length := by rw [hU1, List.length_append, List.length_append, hk2, hk3]
  have yd : Aside0 (k42.C we A13 U1.length U1) := ⟨by rw [hU1]; exact (rows_C (d := k42) hk2 hk3 yc.2 (fun j x c hx hr => Kd.FK_now (Kd.FK_below (L1.out.2 j x c hx hr) hb3)) (fun j x c hx hr => Kd.FK_now (Kd.FK_below (L2.out.2 j x c hx hr) hb3)))⟩
  have yl := Aside0.mk (show U1.length ≤ c13 by rw [← hlen]; exact yc.1)
  rw [hlen] at hbx
  have p0 : we.cell? ⟨g15, 0, none⟩ = some (.slice A6 T1.length c6) := (blk_cell hbx 0).trans rfl
  have p1_ : we.cell? ⟨g15, 1, none⟩ = some (.slice A13 U1.length c13) := (blk_cell hbx 1).trans rfl
  have hgc := (hb3.block gc hV.out.2.2.2.2.2.2.1).trans hV.out.2.2.2.2.2.2.2.2.2
  have p2_ : we.cell? ⟨gc, 0, none⟩ = some (.slice C1 S3.length f1) := (blk_cell hgc 0).trans rfl
  have p3_ : we.cell? ⟨gc, 1, none⟩ = some (.slice C2 D3.length f2) := (blk_cell hgc 1).trans rfl
  have HBE := Aside0.mk (hV.out.1.trans (hb3.mono hV.out.1.size))
  have k5 := Aside0.mk (Kd.C_below K5.out hb3)
  have k6 := Aside0.mk (Kd.C_below K6.out hb3)
  clear hT hU1 HS ht hk1 hk2 hk3 z1 y1 yc hlen hbx hgc hb3 hSz hf2 hV K1 K2 K3 K4 K5 K6 L1 L2 HLen
  go_wp2_with (first | (go_at_call 12; (with_reducible refine (templelaw0_Num.calls 0 0 _ (pj_num 0)).mono ?_); rintro e w' ⟨rfl, ⟨nd, rfl⟩⟩) | (go_at_call 11; (with_reducible refine (templelaw0_SameRaw.calls k C1 f1 S3 C2 f2 D3 A6 c6 T1 A13 c13 U1 true _ (Kd.C_drewN k5.out _) f5.out.1 (Kd.C_drewN k6.out _) f5.out.2 (Kd.C_drewN zc.out.2 _) zc.out.1 (Kd.C_drewN yd.out _) yl.out HS2.out).mono ?_); rintro e w9 ⟨rfl, hb9⟩; have HB9 := Aside0.mk hb9; clear hb9))
  go_ret
  exact ⟨rfl, (pw_below_drewN HBE.out _).trans (HB9.out.mono (pw_below_drewN HBE.out _).size)⟩


end Go.Proofs.Ytmpilejhnolafaa.PPJ
