-- written by a program of the session's (wip/myprint.py) out of the translation
import Derived.Test.YtimmkmfcpfjgfaaPSUx0
import Derived.Test.YtimmkmfcpfjgfaaPSUx3
namespace Go.Proofs.Ytimmkmfcpfjgfaa.PSU
open Go.RowKit Go.Proofs.YtimmkmfcpfjgfaaW.PrintWords Go.Proofs.YtimmkmfcpfjgfaaW.PrintLast Go.Proofs.YtimmkmfcpfjgfaaW.PrintMore
attribute [local go_sem] max2_int min2_int max_two min_two max_three min_three max_four min_four   -- for this text's walks alone
set_option linter.unusedVariables false
set_option linter.unusedSimpArgs false

/-! ### show_Show: function 10 -/
def hexD (n : Nat) : UInt8 := (if n < 10 then 48 + n else 87 + n).toUInt8
def chT (c q : UInt8) : List UInt8 := if c.toNat < 32 ∨ 126 < c.toNat then [92, 120] ++ [hexD (c.toNat / 16)] ++ [hexD (c.toNat % 16)] else if c = q ∨ c = 92 then [92] ++ [c] else [c]
theorem bWriteByteI (B b : Nat) (l : List UInt8) (c : UInt8) (x : Int) (hx : x = (c.toNat : Int)) (w : World) (h : Bld B b l w) (hlen : l.length < 140737488355328) (hBw : B ≤ w.heap.size) :
    Calls Try.prog 36 #[.pointer (some ⟨b, 0, none⟩), .int .u8 x] w fun e w' => e = .returned .nilIface ∧ Bld B b (l ++ [c]) w' ∧ Below B w w' ∧ Lib.OthersKept 5 (some b) w w' := hx ▸ bWriteByte B b l c w h hlen hBw
set_option maxHeartbeats 400000 in
theorem char_calls (B b : Nat) (l : List UInt8) (c q : UInt8) (w : World) (h : Bld B b l w) (hl : l.length < 140737488355000) (hB : B ≤ w.heap.size) :
    Calls Try.prog 57 #[.pointer (some ⟨b, 0, none⟩), .int .u8 (c.toNat : Int), .int .u8 (q.toNat : Int)] w fun e w' => e = .returned (.tuple #[]) ∧ Bld B b (l ++ chT c q) w' ∧ Below B w w' ∧ Lib.OthersKept 5 (some b) w w' := by
  have hx : ∀ (n : Nat) (hn : n < (⟨#[48, 49, 50, 51, 52, 53, 54, 55, 56, 57, 97, 98, 99, 100, 101, 102]⟩ : ByteArray).size), ((((⟨#[48, 49, 50, 51, 52, 53, 54, 55, 56, 57, 97, 98, 99, 100, 101, 102]⟩ : ByteArray)[n]'hn).toNat : Nat) : Int) = ((hexD n).toNat : Int) := by decide
  have hc := c.toNat_lt
  have hesc : (c.toNat < 32 ∨ 126 < c.toNat) → chT c q = [92, 120] ++ [hexD (c.toNat / 16)] ++ [hexD (c.toNat % 16)] := fun h => by unfold chT; rw [if_pos h]
  by_cases h1 : c.toNat < 32
  · rw [hesc (.inl h1)]
    go_enter Try.func57, Try.ntmps57
    go_wp2_with (first
      | (go_at_call 36; refine (bWriteByteI B b _ (hexD (c.toNat % 16)) _ (by first | rfl | exact hx _ _) _ h3 (by simp; omega) (Nat.le_trans hB (Nat.le_trans b2.size b3.size))).mono ?_; rintro e w3 ⟨rfl, h4, b4, k4⟩)
      | (go_at_call 36; refine (bWriteByteI B b _ (hexD (c.toNat / 16)) _ (by first | rfl | exact hx _ _) _ h2 (by simp; omega) (Nat.le_trans hB b2.size)).mono ?_; rintro e w2 ⟨rfl, h3, b3, k3⟩)
      | (go_at_call 19; refine (bWriteString B b l _ _ h (by show l.length + 2 < _; omega) hB).mono ?_; rintro e w1 ⟨rfl, h2, b2, k2⟩))
    go_end0
    exact ⟨rfl, by simpa using h4, b2.trans (b3.trans b4), k2.trans (k3.trans k4)⟩
  by_cases h1' : 126 < c.toNat
  · rw [hesc (.inr h1')]
    go_enter Try.func57, Try.ntmps57
    go_wp2_with (first
      | (go_at_call 36; refine (bWriteByteI B b _ (hexD (c.toNat % 16)) _ (by first | rfl | exact hx _ _) _ h3 (by simp; omega) (Nat.le_trans hB (Nat.le_trans b2.size b3.size))).mono ?_; rintro e w3 ⟨rfl, h4, b4, k4⟩)
      | (go_at_call 36; refine (bWriteByteI B b _ (hexD (c.toNat / 16)) _ (by first | rfl | exact hx _ _) _ h2 (by simp; omega) (Nat.le_trans hB b2.size)).mono ?_; rintro e w2 ⟨rfl, h3, b3, k3⟩)
      | (go_at_call 19; refine (bWriteString B b l _ _ h (by show l.length + 2 < _; omega) hB).mono ?_; rintro e w1 ⟨rfl, h2, b2, k2⟩))
    go_end0
    exact ⟨rfl, by simpa using h4, b2.trans (b3.trans b4), k2.trans (k3.trans k4)⟩
  have hno : ¬ (c.toNat < 32 ∨ 126 < c.toNat) := by omega
  by_cases hq : c = q ∨ c = 92
  · have e : chT c q = [92] ++ [c] := by unfold chT; rw [if_neg hno, if_pos hq]
    rw [e]
    clear e
    by_cases h3 : c = q
    · subst h3
      have t0 : (((c.toNat : Nat) : Int) == ((c.toNat : Nat) : Int)) = true := beq_self_eq_true _
      clear hx hesc hq
      go_enter Try.func57, Try.ntmps57
      go_wp2_with (first
        | (go_at_call 36; refine (bWriteByteI B b _ c _ ?hx _ h2 (by simp; omega) (Nat.le_trans hB b2.size)).mono ?_; (case hx => with_reducible rfl); rintro e w2 ⟨rfl, h3, b3, k3⟩)
        | (go_at_call 36; refine (bWriteByteI B b _ 92 _ ?hx _ h (by omega) hB).mono ?_; (case hx => decide); rintro e w1 ⟨rfl, h2, b2, k2⟩))
      go_end0
      exact ⟨rfl, by simpa using h3, b2.trans b3, k2.trans k3⟩
    · have h4 : c = 92 := hq.resolve_left h3
      have t0 : (((c.toNat : Nat) : Int) == ((q.toNat : Nat) : Int)) = false := beq_eq_false_iff_ne.2 (fun e => h3 (UInt8.toNat_inj.1 (Int.ofNat.inj e)))
      have t1 : (((c.toNat : Nat) : Int) == 92) = true := by rw [h4]; rfl
      clear h4
      go_enter Try.func57, Try.ntmps57
      go_wp2_with (first
        | (go_at_call 36; refine (bWriteByteI B b _ c _ ?hx _ h2 (by simp; omega) (Nat.le_trans hB b2.size)).mono ?_; (case hx => with_reducible rfl); rintro e w2 ⟨rfl, h3, b3, k3⟩)
        | (go_at_call 36; refine (bWriteByteI B b _ 92 _ ?hx _ h (by omega) hB).mono ?_; (case hx => decide); rintro e w1 ⟨rfl, h2, b2, k2⟩))
      go_end0
      exact ⟨rfl, by simpa using h3, b2.trans b3, k2.trans k3⟩
  · have e : chT c q = [c] := by unfold chT; rw [if_neg hno, if_neg hq]
    rw [e]
    clear e
    have t0 : (((c.toNat : Nat) : Int) == ((q.toNat : Nat) : Int)) = false := beq_eq_false_iff_ne.2 (fun e => hq (.inl (UInt8.toNat_inj.1 (Int.ofNat.inj e))))
    have t1 : (((c.toNat : Nat) : Int) == 92) = false := beq_eq_false_iff_ne.2 (fun e => hq (.inr (UInt8.toNat_inj.1 (Int.ofNat.inj e))))
    go_enter Try.func57, Try.ntmps57
    go_wp2_with (first
      | (go_at_call 36; refine (bWriteByteI B b _ c _ ?hx _ h (by omega) hB).mono ?_; (case hx => with_reducible rfl); rintro e w1 ⟨rfl, h2, b2, k2⟩))
    go_end0
    exact ⟨rfl, h2, b2, k2⟩
/-- What a call that writes into the builder of block b leaves. -/
def Kp (B b : Nat) (w w' : World) : Prop := Below B w w' ∧ Lib.OthersKept 5 (some b) w w'
theorem Kp.refl (B b : Nat) (w : World) : Kp B b w w := ⟨Below.refl _ _, Lib.OthersKept.refl _ _ _⟩
theorem Kp.trans {B b : Nat} {w w' w'' : World} (h : Kp B b w w') (k : Kp B b w' w'') : Kp B b w w'' := ⟨h.1.trans k.1, h.2.trans k.2⟩
theorem Kp.size {B b : Nat} {w w' : World} (h : Kp B b w w') : w.heap.size ≤ w'.heap.size := h.1.size
theorem Kp.alloc {B b : Nat} {w w' : World} (h : Kp B b w w') (hB : B ≤ w.heap.size) (o : Obj) : Kp B b w (w'.alloc o) := ⟨h.1.alloc (Nat.le_trans hB h.1.size) o, h.2.alloc o⟩
theorem Kp.le {B b n : Nat} {w w' : World} (h : Kp B b w w') (hB : n ≤ w.heap.size) : n ≤ w'.heap.size := Nat.le_trans hB h.1.size
theorem Kp.undrew {B b : Nat} {w w' : World} (h : Kp B b w.drew w') : Kp B b w w' := ⟨(Below.refl B w).drew.trans h.1, h.2⟩
theorem sh_wb (B b : Nat) (l : List UInt8) (c : UInt8) (x : Int) (hx : x = (c.toNat : Int)) (w : World) (h : Bld B b l w) (hlen : l.length < 140737488355000) (hBw : B ≤ w.heap.size) :
    Calls Try.prog 36 #[.pointer (some ⟨b, 0, none⟩), .int .u8 x] w fun e w' => e = .returned .nilIface ∧ Bld B b (l ++ [c]) w' ∧ Kp B b w w' := bWriteByteI B b l c x hx w h (by omega) hBw
theorem sh_ws (B b : Nat) (l : List UInt8) (s : ByteArray) (w : World) (h : Bld B b l w) (hlen : l.length + s.size < 140737488355000) (hBw : B ≤ w.heap.size) :
    Calls Try.prog 19 #[.pointer (some ⟨b, 0, none⟩), .string s] w fun e w' => e = .returned (.tuple #[.int .i64 s.size, .nilIface]) ∧ Bld B b (l ++ s.data.toList) w' ∧ Kp B b w w' := bWriteString B b l s w h (by omega) hBw
theorem sh_wc (B b : Nat) (l : List UInt8) (c q : UInt8) (x y : Int) (hx : x = (c.toNat : Int)) (hy : y = (q.toNat : Int)) (w : World) (h : Bld B b l w) (hl : l.length < 140737488355000) (hB : B ≤ w.heap.size) :
    Calls Try.prog 57 #[.pointer (some ⟨b, 0, none⟩), .int .u8 x, .int .u8 y] w fun e w' => e = .returned (.tuple #[]) ∧ Bld B b (l ++ chT c q) w' ∧ Kp B b w w' := by
  subst hx hy
  exact char_calls B b l c q w h hl hB
theorem chT_len (c q : UInt8) : (chT c q).length ≤ 4 := by
  unfold chT
  repeat' split
  all_goals simp
def endT (c : UInt8) : List UInt8 := [39] ++ chT c 39 ++ [39]
theorem endT_len (c : UInt8) : (endT c).length ≤ 6 := by
  have := chT_len c 39
  unfold endT
  simp only [List.length_append, List.length_cons, List.length_nil]
  omega
theorem sh_we (B b : Nat) (l : List UInt8) (c : UInt8) (x : Int) (hx : x = (c.toNat : Int)) (w : World) (h : Bld B b l w) (hl : l.length < 140737488354000) (hB : B ≤ w.heap.size) :
    Calls Try.prog 56 #[.pointer (some ⟨b, 0, none⟩), .int .u8 x] w fun e w' => e = .returned (.tuple #[]) ∧ Bld B b (l ++ endT c) w' ∧ Kp B b w w' := by
  subst hx
  have hc := chT_len c 39
  go_enter Try.func56, Try.ntmps56
  go_wp2_with (first
    | (go_at_call 57; refine (sh_wc B b _ c 39 _ _ ?hx ?hy _ h2 (by simp; omega) (k2.le hB)).mono ?_; (case hx => with_reducible rfl); (case hy => decide); rintro e w2 ⟨rfl, h3, k3⟩)
    | (go_at_call 36; refine (sh_wb B b _ 39 _ ?hx _ h3 (by simp; omega) ((k2.trans k3).le hB)).mono ?_; (case hx => decide); rintro e w3 ⟨rfl, h4, k4⟩)
    | (go_at_call 36; refine (sh_wb B b _ 39 _ ?hx _ h (by omega) hB).mono ?_; (case hx => decide); rintro e w1 ⟨rfl, h2, k2⟩))
  go_end0
  exact ⟨rfl, by simpa [endT] using h4, k2.trans (k3.trans k4)⟩
inductive Part where
  | call (s : ByteArray)
  | span (lo hi : UInt8)
  | single (s : ByteArray)
def partV : Part → Value
  | .call s => .iface 127 (.string s)
  | .span lo hi => .iface 129 (.agg #[.int .u8 (lo.toNat : Int), .int .u8 (hi.toNat : Int)])
  | .single s => .iface 130 (.string s)
def singT (s : List UInt8) : List UInt8 := s.flatMap (fun c => chT c 34)
def partT : Part → List UInt8
  | .call s => s.data.toList
  | .span lo hi => endT lo ++ [46, 46] ++ endT hi
  | .single s => [34] ++ singT s.data.toList ++ [34]
theorem as_call (v : Value) (W : World) : (Instr.typeAssert (.iface 127 v) 20 127 true).run Try.prog W = .ok (.tuple #[v, .bool true]) W := by kernel_rfl
theorem as_call_s (v : Value) (W : World) : (Instr.typeAssert (.iface 129 v) 20 127 true).run Try.prog W = .ok (.tuple #[.string ⟨#[]⟩, .bool false]) W := by kernel_rfl
theorem as_call_t (v : Value) (W : World) : (Instr.typeAssert (.iface 130 v) 20 127 true).run Try.prog W = .ok (.tuple #[.string ⟨#[]⟩, .bool false]) W := by kernel_rfl
theorem as_span (v : Value) (W : World) : (Instr.typeAssert (.iface 129 v) 20 129 true).run Try.prog W = .ok (.tuple #[v, .bool true]) W := by kernel_rfl
theorem as_span_t (v : Value) (W : World) : (Instr.typeAssert (.iface 130 v) 20 129 true).run Try.prog W = .ok (.tuple #[.agg #[.int .u8 0, .int .u8 0], .bool false]) W := by kernel_rfl
theorem as_single (v : Value) (W : World) : (Instr.typeAssert (.iface 130 v) 20 130 true).run Try.prog W = .ok (.tuple #[v, .bool true]) W := by kernel_rfl
theorem singT_take (s : List UInt8) (i : Nat) (h : i < s.length) : singT (s.take (i + 1)) = singT (s.take i) ++ chT s[i] 34 := by
  unfold singT
  rw [List.take_succ_eq_append_getElem h, List.flatMap_append]
  simp
theorem singT_len (s : List UInt8) (i : Nat) : (singT (s.take i)).length ≤ (singT s).length := by
  unfold singT
  conv => rhs; rw [← List.take_append_drop i s, List.flatMap_append, List.length_append]
  omega
theorem chT_pos (c q : UInt8) : 1 ≤ (chT c q).length := by
  unfold chT
  repeat' split
  all_goals simp
theorem singT_ge : ∀ s : List UInt8, s.length ≤ (singT s).length
  | [] => Nat.le_refl _
  | c :: s => by
    have h1 := singT_ge s
    have h2 := chT_pos c 34
    unfold singT at h1 ⊢
    rw [List.flatMap_cons, List.length_append, List.length_cons]
    omega
set_option maxHeartbeats 1000000 in
theorem sh_wp_call (B b : Nat) (l : List UInt8) (s : ByteArray) (w : World) (h : Bld B b l w) (hl : l.length + s.size < 140737488353000) (hB : B ≤ w.heap.size) :
    Calls Try.prog 38 #[.pointer (some ⟨b, 0, none⟩), .iface 127 (.string s)] w fun e w' => e = .returned (.tuple #[]) ∧ Bld B b (l ++ s.data.toList) w' ∧ Kp B b w w' := by
  have a0 := as_call
  go_enter Try.func38, Try.ntmps38
  go_wp2_with (first
    | (go_at_call 19; refine (sh_ws B b _ s _ h (by omega) hB).mono ?_; rintro e w1 ⟨rfl, h2, k2⟩))
  go_end0
  exact ⟨rfl, h2, k2⟩
set_option maxHeartbeats 1000000 in
theorem sh_wp_span (B b : Nat) (l : List UInt8) (lo hi : UInt8) (w : World) (h : Bld B b l w) (hl : l.length < 140737488353000) (hB : B ≤ w.heap.size) :
    Calls Try.prog 38 #[.pointer (some ⟨b, 0, none⟩), .iface 129 (.agg #[.int .u8 (lo.toNat : Int), .int .u8 (hi.toNat : Int)])] w fun e w' => e = .returned (.tuple #[]) ∧ Bld B b (l ++ (endT lo ++ [46, 46] ++ endT hi)) w' ∧ Kp B b w w' := by
  have a0 := as_call_s
  have a1 := as_span
  have e1 := endT_len lo
  have e2 := endT_len hi
  have hb : b ≠ w.heap.size := Nat.ne_of_lt h.lt
  go_enter Try.func38, Try.ntmps38
  go_wp2_with (first
    | (go_at_call 56; refine (sh_we B b _ hi _ ?hx _ h3 (by simp; omega) ?hB).mono ?_; (case hx => with_reducible rfl); (case hB => exact (k2.trans k3).le (by simp; omega)); rintro e w3 ⟨rfl, h4, k4⟩)
    | (go_at_call 19; refine (sh_ws B b _ ⟨#[46, 46]⟩ _ h2 (by show _ + 2 < _; simp; omega) ?hB).mono ?_; (case hB => exact k2.le (by simp; omega)); rintro e w2 ⟨rfl, h3, k3⟩; have c2 : w2.cell? ⟨w.heap.size, 1, none⟩ = some (.int .u8 (hi.toNat : Int)) := (blk_cell (k3.2 _ _ HK.out (by simpa using Ne.symm hb) (by simp)) 1).trans rfl)
    | (go_at_call 56; refine (sh_we B b _ lo _ ?hx _ (h.alloc _) (by omega) ?hB).mono ?_; (case hx => with_reducible rfl); (case hB => simp; omega); rintro e w1 ⟨rfl, h2, k2⟩; have HK : Aside0 (w1.heap[w.heap.size]? = some (.cells #[.int .u8 (lo.toNat : Int), .int .u8 (hi.toNat : Int)] 129 (0, 0))) := ⟨k2.2 _ _ (blk_new _ _) (by simpa using Ne.symm hb) (by simp)⟩))
  go_end0
  exact ⟨rfl, by simpa using h4, ((Kp.refl B b w).alloc hB _).trans (k2.trans (k3.trans k4))⟩
set_option maxHeartbeats 1000000 in
theorem sh_wp_single (B b : Nat) (l : List UInt8) (s : ByteArray) (w : World) (h : Bld B b l w) (hl : l.length + (singT s.data.toList).length < 140737488353000) (hB : B ≤ w.heap.size) :
    Calls Try.prog 38 #[.pointer (some ⟨b, 0, none⟩), .iface 130 (.string s)] w fun e w' => e = .returned (.tuple #[]) ∧ Bld B b (l ++ ([34] ++ singT s.data.toList ++ [34])) w' ∧ Kp B b w w' := by
  have a0 := as_call_t
  have a1 := as_span_t
  have a2 := as_single
  have hs : s.data.toList.length = s.size := rfl
  have hs2 := singT_ge s.data.toList
  go_enter Try.func38, Try.ntmps38
  go_wp2_with (first
    | (go_at_call 36; refine (sh_wb B b _ 34 _ ?hx _ h (by omega) hB).mono ?_; (case hx => decide); rintro e w1 ⟨rfl, h2, k2⟩))
  go_loopw [35] (fun v wr => ∃ i : Nat, i ≤ s.size ∧ v = .int .i64 i ∧ Aside0 (Bld B b (l ++ [34] ++ singT (s.data.toList.take i)) wr) ∧ Aside0 (Kp B b w wr)) (fun v _ => s.size - (intOf v).toNat)
  case atStart => exact ⟨0, by omega, rfl, ⟨by simpa [singT] using h2⟩, ⟨k2⟩⟩
  case round =>
    obtain ⟨i, hi, rfl, hb, hk⟩ := hrel
    have hle := singT_len s.data.toList i
    by_cases hlt : i < s.size
    · have HT := Aside0.mk (singT_take s.data.toList i hlt)
      go_wp2_with (first
        | (go_at_call 57; refine (sh_wc B b _ s.data.toList[i] 34 _ _ ?hx ?hy _ hb.out (by simp; omega) (hk.out.le hB)).mono ?_; (case hx => rfl); (case hy => decide); rintro e w2 ⟨rfl, h3, k3⟩))
      go_roundw
      case rel => exact ⟨i + 1, by omega, by go_num, ⟨by rw [HT.out]; simpa using h3⟩, ⟨hk.out.trans k3⟩⟩
      case measure => simp [intOf]; omega
    · obtain rfl : i = s.size := by omega
      have e : s.data.toList.take s.size = s.data.toList := List.take_of_length_le (Nat.le_of_eq hs)
      rw [e] at hb
      go_wp2_with (first
        | (go_at_call 36; refine (sh_wb B b _ 34 _ ?hx _ hb.out (by simp; omega) (hk.out.le hB)).mono ?_; (case hx => decide); rintro e w3 ⟨rfl, h4, k4⟩))
      go_end0
      exact ⟨rfl, by simpa using h4, hk.out.trans k4⟩
def b8 (x : Int) : UInt8 := x.toNat.toUInt8
def nmAt (ns : List ByteArray) (i : Int) : ByteArray := ns.getD i.toNat ByteArray.empty
def addP (ns : List ByteArray) (out : List Part) (s : S38) : List Part :=
  if 0 ≤ s.f0 then out ++ [.call (nmAt ns s.f0)]
  else if s.f1 < s.f2 then out ++ [.span (b8 s.f1) (b8 s.f2)]
  else match out.getLast? with
    | some (.single b) => out.set (out.length - 1) (.single (b ++ ⟨#[b8 s.f1]⟩))
    | _ => out ++ [.single ⟨#[b8 s.f1]⟩]
def addsP (ns : List ByteArray) (q : List S38) : List Part := q.foldl (addP ns) []
def partsL (ns : List ByteArray) (q : List S38) : List Part := if addsP ns q = [] then [.single ⟨#[]⟩] else addsP ns q
theorem addP_len (ns : List ByteArray) (out : List Part) (s : S38) : (addP ns out s).length ≤ out.length + 1 := by
  unfold addP
  repeat' split
  all_goals simp
theorem addsP_take (ns : List ByteArray) (q : List S38) (i : Nat) (h : i < q.length) : addsP ns (q.take (i + 1)) = addP ns (addsP ns (q.take i)) q[i] := by
  unfold addsP
  rw [List.take_succ_eq_append_getElem h, List.foldl_append]
  rfl
theorem addsP_len (ns : List ByteArray) (q : List S38) : ∀ i, i ≤ q.length → (addsP ns (q.take i)).length ≤ i
  | 0, _ => by simp [addsP]
  | i + 1, h => by
    rw [addsP_take ns q i (by omega)]
    have h1 := addP_len ns (addsP ns (q.take i)) q[i]
    have h2 := addsP_len ns q i (by omega)
    omega
theorem addP_ok (ns : List ByteArray) (out : List Part) (s : S38) (n : Nat) (h : ∀ b, Part.single b ∈ out → b.size ≤ n) : ∀ b, Part.single b ∈ addP ns out s → b.size ≤ n + 1 := by
  intro b hb
  unfold addP at hb
  split at hb
  · rcases List.mem_append.1 hb with hb | hb
    · have := h b hb; omega
    · simp at hb
  · split at hb
    · rcases List.mem_append.1 hb with hb | hb
      · have := h b hb; omega
      · simp at hb
    · split at hb
      · rename_i b0 he
        rcases List.mem_or_eq_of_mem_set hb with hb | hb
        · have := h b hb; omega
        · have h0 := h b0 (List.mem_of_getLast? he)
          injection hb with hb
          rw [hb, ByteArray.size_append]
          show _ + 1 ≤ _
          omega
      · rcases List.mem_append.1 hb with hb | hb
        · have := h b hb; omega
        · simp only [List.mem_singleton, Part.single.injEq] at hb
          rw [hb]
          show 1 ≤ n + 1
          omega
theorem addsP_ok (ns : List ByteArray) (q : List S38) : ∀ i, i ≤ q.length → ∀ b, Part.single b ∈ addsP ns (q.take i) → b.size ≤ i
  | 0, _ => by simp [addsP]
  | i + 1, h => by
    rw [addsP_take ns q i (by omega)]
    exact addP_ok ns _ _ i (addsP_ok ns q i (by omega))
theorem sh_conv1 (wr : World) (o : Obj) (c : Int) : (convert 36 130 (.slice (some ⟨wr.heap.size + 1, 0, none⟩) 1 1)).run Try.prog ((wr.alloc o).alloc (.cells #[.int .u8 c] 5)) = .ok (.string ⟨#[b8 c]⟩) ((wr.alloc o).alloc (.cells #[.int .u8 c] 5)) := by
  have h := World.ownsRow_lit (base := 0) (e := 5) (size := 1) (wr.alloc o) #[.int .u8 c] 1 (Nat.zero_le _) (by decide) rfl
  rw [show (wr.alloc o).heap.size = wr.heap.size + 1 from by simp] at h
  exact own_string (xs := [c]) Try.underlying36 Try.underlying5 Try.underlying130 h
theorem as_single_c (v : Value) (W : World) : (Instr.typeAssert (.iface 127 v) 20 130 true).run Try.prog W = .ok (.tuple #[.string ⟨#[]⟩, .bool false]) W := by kernel_rfl
theorem as_single_s (v : Value) (W : World) : (Instr.typeAssert (.iface 129 v) 20 130 true).run Try.prog W = .ok (.tuple #[.string ⟨#[]⟩, .bool false]) W := by kernel_rfl
set_option maxHeartbeats 4000000 in
set_option maxRecDepth 100000 in
theorem parts_calls (gp : Addr) (An : Option Addr) (cn : Nat) (ns : List ByteArray) (Aq : Option Addr) (cq : Nat) (q : List S38) (w : World)
    (hg : w.cell? ⟨gp.block, gp.off + 1, none⟩ = some (.slice An ns.length cn)) (hn : Kd.C Kd.string w An ns.length ns) (hq : Kd.C k38 w Aq q.length q) (hgb : gp.block < w.heap.size)
    (hall : q.all (symB ns.length) = true) (hlen : q.length ≤ 64) :
    Calls Try.prog 37 #[.pointer (some gp), .slice Aq q.length cq] w fun e w' => ∃ v, e = .returned v ∧ w'.ownsRow w.heap.size 20 1 v (partsL ns q).length ((partsL ns q).map partV) ∧ Below w.heap.size w w' := by
  have HG := Aside0.mk hg
  have HGB := Aside0.mk hgb
  obtain ⟨i0, hi0, hz0, hz1, hz2⟩ := info_parts (show (Try.prog.info? 20).map (fun i => (i.zero, i.size, i.bytes)) = some (some .nilIface, 1, 16) from by kernel_rfl)
  have HN := Aside0.mk hn
  have HQ := Aside0.mk hq
  have HA := Aside0.mk hall
  clear hg hgb hn hq hall
  go_enter Try.func37, Try.ntmps37
  go_wp2
  go_loopw [5, 13] (fun o v wr => ∃ i : Nat, i ≤ q.length ∧ v = .int .i64 i ∧ Aside0 (wr.ownsRow w.heap.size 20 1 o (addsP ns (q.take i)).length ((addsP ns (q.take i)).map partV)) ∧ Aside0 (Below w.heap.size w wr)) (fun _ v _ => q.length - (intOf v).toNat)
  case atStart => exact ⟨0, by omega, rfl, ⟨World.ownsRow_nil _ _ _ _⟩, ⟨Below.refl _ _⟩⟩
  case round =>
    obtain ⟨i, hi, rfl, ho, hb⟩ := hrel
    by_cases hlt : i < q.length
    · obtain ⟨ad, eA, s0, s1, s2⟩ := at_T38 (Kd.C_below HQ.out hb.out) (i : Int) (by omega) (by omega)
      rw [rd_sym _ _ hlt] at s0 s1 s2
      rw [Int.toNat_natCast] at s0 s1 s2
      subst eA
      have hpl := addsP_len ns q i hi
      have HT := Aside0.mk (addsP_take ns q i hlt)
      have hsy : symB ns.length q[i] = true := List.all_eq_true.1 HA.out _ (List.getElem_mem hlt)
      generalize q[i] = x at *
      by_cases h0 : 0 ≤ x.f0
      · have hx : x.f0 < ns.length := by
          unfold symB at hsy
          rw [if_neg (by omega)] at hsy
          have := of_decide_eq_true hsy
          omega
        obtain ⟨ad2, eA2, hc2⟩ := Kd.at_string HN.out x.f0 h0 (by omega)
        have hrd : rdOf ByteArray.empty ns x.f0 = nmAt ns x.f0 := rfl
        rw [hrd] at hc2
        have l2 := World.block_lt_of_cell? _ _ hc2
        have hc3 := pw_cell_below hb.out hc2
        clear hc2
        have hg1 : wr.cell? ⟨gp.block, gp.off + 1, none⟩ = some (.slice An ns.length cn) := pw_cell_below hb.out HG.out
        subst eA2
        have hgo := World.block_lt_of_cell? _ _ hg1
        have lg := HGB.out
        have hbs := hb.out.size
        have hf : ∀ a : Addr, a.block < w.heap.size → _ ≠ some a.block := fun a h e => absurd (ho.out.lt _ e).1 (by omega)
        have hf2 : _ ≠ some wr.heap.size := fun e => absurd (ho.out.lt _ e).2 (Nat.lt_irrefl _)
        have hnew := heap_alloc_new (wr.alloc (.cells #[.int .i64 x.f0, .int .i64 x.f1, .int .i64 x.f2] 38)) (.cells #[.iface 127 (.string (nmAt ns x.f0))] 20 (0, 0))
        rw [show (wr.alloc (.cells #[.int .i64 x.f0, .int .i64 x.f1, .int .i64 x.f2] 38)).heap.size = wr.heap.size + 1 from by simp] at hnew
        have HF := Aside0.mk hf
        have HF2 := Aside0.mk hf2
        clear hf hf2
        go_wp2
        go_region_held3 (fun w' => w'.cell? ⟨gp.block, gp.off + 1, none⟩ = some (.slice (some ad2) ns.length cn) ∧ w'.cell? ⟨wr.heap.size, 0, none⟩ = some (.int .i64 x.f0) ∧ w'.cell? (ad2.add x.f0.toNat) = some (.string (nmAt ns x.f0)))
          (first
            | go_keep
            | (go_split_ands
               refine ⟨?_, ?_, ?_⟩
               · (rw [hgrow.cell_far _ (by simp; omega) (Ne.symm (HF.out ⟨gp.block, gp.off + 1, none⟩ lg))]; assumption)
               · (rw [hgrow.cell_far _ (by simp; omega) (Ne.symm HF2.out)]; assumption)
               · (rw [hgrow.cell_far _ (by simp; omega) (Ne.symm (HF.out _ l2))]; assumption)))
          ((refine step_append_lies _ (by rfl) _ _ _ (by rfl) w.heap.size 20 i0 _ 1 16 Try.underlying102 hi0 hz0 hz1 hz2 rfl (by omega) _ _ _ (by rfl) ((ho.out.alloc _).alloc _).drew
              ⟨wr.heap.size + 1, 0, none⟩ 1 1 [.iface 127 (.string (nmAt ns x.f0))] (by rfl) (by rfl) (World.news_of_block (cs := #[.iface 127 (.string (nmAt ns x.f0))]) (t := 20) (fr := (0, 0)) hnew) (by simp [Value.oneCell'])
              (by omega) (by simp [maxLen]; omega) (by omega) (by have := hb.out.size; simp; omega) (wr.heap.size + 2) (by simp) ?_; intro gg cap w1 hown1 hgrow hat hlt2))
        go_wp2
        go_roundw
        case rel =>
          refine ⟨i + 1, by omega, by go_num, ⟨?_⟩, ⟨(below_drew1 ((hb.out.alloc hb.out.size _).alloc (by have := hb.out.size; simp; omega) _)).grown hgrow (by have := hb.out.size; simp; omega) (fun k hk => (ho.out.lt k hk).1)⟩⟩
          rw [HT.out, show addP ns (addsP ns (q.take i)) x = addsP ns (q.take i) ++ [.call (nmAt ns x.f0)] from by unfold addP; rw [if_pos h0], List.map_append, List.length_append]
          exact hown1
        case measure => simp [intOf]; omega
      · have hm1 : x.f0 = -1 := by
          unfold symB at hsy
          by_cases hh : x.f0 = -1
          · exact hh
          · rw [if_neg hh] at hsy
            have := of_decide_eq_true hsy
            omega
        have hr : 0 ≤ x.f1 ∧ x.f1 ≤ x.f2 ∧ x.f2 ≤ 255 := by
          unfold symB at hsy
          rw [if_pos hm1] at hsy
          exact of_decide_eq_true hsy
        have hbs := hb.out.size
        by_cases h12 : x.f1 < x.f2
        · have hv1 : ((b8 x.f1).toNat : Int) = x.f1 := by unfold b8; simp; omega
          have hv2 : ((b8 x.f2).toNat : Int) = x.f2 := by unfold b8; simp; omega
          have HV := Aside0.mk hv1
          have HV2 := Aside0.mk hv2
          clear hv1 hv2
          have hnew := heap_alloc_new (wr.alloc (.cells #[.int .i64 (-1), .int .i64 x.f1, .int .i64 x.f2] 38)) (.cells #[.iface 129 (.agg #[.int .u8 x.f1, .int .u8 x.f2])] 20 (0, 0))
          rw [show (wr.alloc (.cells #[.int .i64 (-1), .int .i64 x.f1, .int .i64 x.f2] 38)).heap.size = wr.heap.size + 1 from by simp] at hnew
          go_wp2_with (at_builtin; refine wpList_append_lies _ rfl _ _ _ (by rfl) w.heap.size 20 i0 _ 1 16 Try.underlying102 hi0 hz0 hz1 hz2 rfl (by omega) _ _ _ (by rfl) ((ho.out.alloc _).alloc _) ⟨wr.heap.size + 1, 0, none⟩ 1 1 [.iface 129 (.agg #[.int .u8 x.f1, .int .u8 x.f2])] (by rfl) (by rfl) (World.news_of_block (cs := #[.iface 129 (.agg #[.int .u8 x.f1, .int .u8 x.f2])]) (t := 20) (fr := (0, 0)) hnew) (by simp [Value.oneCell']) (by omega) (by simp [maxLen]; omega) (by omega) (by simp; omega) (wr.heap.size + 2) (by simp) ?_; intro gg cap w1 hown1 hgrow hat hlt2)
          go_roundw
          case rel =>
            refine ⟨i + 1, by omega, by go_num, ⟨?_⟩, ⟨((hb.out.alloc hb.out.size _).alloc (by have := hb.out.size; simp; omega) _).grown hgrow (by have := hb.out.size; simp; omega) (fun k hk => (ho.out.lt k hk).1)⟩⟩
            rw [HT.out, show addP ns (addsP ns (q.take i)) x = addsP ns (q.take i) ++ [.span (b8 x.f1) (b8 x.f2)] from by unfold addP; rw [if_neg h0, if_pos h12], List.map_append, List.length_append, show [Part.span (b8 x.f1) (b8 x.f2)].map partV = [.iface 129 (.agg #[.int .u8 x.f1, .int .u8 x.f2])] from by simp only [List.map_cons, List.map_nil, partV, HV.out, HV2.out]]
            exact hown1
          case measure => simp [intOf]; omega
        · have hv1 : ((b8 x.f1).toNat : Int) = x.f1 := by unfold b8; simp; omega
          have HV := Aside0.mk hv1
          clear hv1
          have hok := addsP_ok ns q i hi
          have HADD : addP ns (addsP ns (q.take i)) x = (match (addsP ns (q.take i)).getLast? with
            | some (.single b) => (addsP ns (q.take i)).set ((addsP ns (q.take i)).length - 1) (.single (b ++ ⟨#[b8 x.f1]⟩))
            | _ => addsP ns (q.take i) ++ [.single ⟨#[b8 x.f1]⟩]) := by unfold addP; rw [if_neg h0, if_neg h12]
          rw [HADD] at HT
          clear HADD
          generalize hP : addsP ns (q.take i) = P at *
          rcases ho.out.2 with ⟨hv, hn0⟩ | ⟨g, cap, cur, hv, hgl, hgb, hnc, hcm, hcs, htk⟩
          · subst hv
            obtain rfl : P = [] := List.eq_nil_of_length_eq_zero hn0
            have hcv := sh_conv1 wr (.cells #[.int .i64 (-1), .int .i64 x.f1, .int .i64 x.f2] 38 (0, 0)) x.f1
            have hnew := heap_alloc_new ((wr.alloc (.cells #[.int .i64 (-1), .int .i64 x.f1, .int .i64 x.f2] 38)).alloc (.cells #[.int .u8 x.f1] 5)) (.cells #[.iface 130 (.string ⟨#[b8 x.f1]⟩)] 20 (0, 0))
            rw [show ((wr.alloc (.cells #[.int .i64 (-1), .int .i64 x.f1, .int .i64 x.f2] 38)).alloc (.cells #[.int .u8 x.f1] 5)).heap.size = wr.heap.size + 2 from by simp] at hnew
            go_wp2_with (at_builtin; refine wpList_append_lies _ rfl _ _ _ (by rfl) w.heap.size 20 i0 _ 1 16 Try.underlying102 hi0 hz0 hz1 hz2 rfl (by omega) _ _ _ (by rfl) (((ho.out.alloc _).alloc _).alloc _) ⟨wr.heap.size + 2, 0, none⟩ 1 1 [.iface 130 (.string ⟨#[b8 x.f1]⟩)] (by rfl) (by rfl) (World.news_of_block (cs := #[.iface 130 (.string ⟨#[b8 x.f1]⟩)]) (t := 20) (fr := (0, 0)) hnew) (by simp [Value.oneCell']) (by omega) (by simp [maxLen]) (by simp) (by simp; omega) (wr.heap.size + 3) (by simp) ?_; intro gg cap w1 hown1 hgrow hat hlt2)
            go_roundw
            case rel =>
              refine ⟨i + 1, by omega, by go_num, ⟨?_⟩, ⟨(((hb.out.alloc hb.out.size _).alloc (by have := hb.out.size; simp; omega) _).alloc (by have := hb.out.size; simp; omega) _).grown hgrow (by have := hb.out.size; simp; omega) (fun k hk => (ho.out.lt k hk).1)⟩⟩
              rw [HT.out]
              exact hown1
            case measure => simp [intOf]; omega
          · subst hv
            by_cases hPe : P = []
            · subst hPe
              have hcv := sh_conv1 wr (.cells #[.int .i64 (-1), .int .i64 x.f1, .int .i64 x.f2] 38 (0, 0)) x.f1
              have hnew := heap_alloc_new ((wr.alloc (.cells #[.int .i64 (-1), .int .i64 x.f1, .int .i64 x.f2] 38)).alloc (.cells #[.int .u8 x.f1] 5)) (.cells #[.iface 130 (.string ⟨#[b8 x.f1]⟩)] 20 (0, 0))
              rw [show ((wr.alloc (.cells #[.int .i64 (-1), .int .i64 x.f1, .int .i64 x.f2] 38)).alloc (.cells #[.int .u8 x.f1] 5)).heap.size = wr.heap.size + 2 from by simp] at hnew
              go_wp2_with (at_builtin; refine wpList_append_lies _ rfl _ _ _ (by rfl) w.heap.size 20 i0 _ 1 16 Try.underlying102 hi0 hz0 hz1 hz2 rfl (by omega) _ _ _ (by rfl) (((ho.out.alloc _).alloc _).alloc _) ⟨wr.heap.size + 2, 0, none⟩ 1 1 [.iface 130 (.string ⟨#[b8 x.f1]⟩)] (by rfl) (by rfl) (World.news_of_block (cs := #[.iface 130 (.string ⟨#[b8 x.f1]⟩)]) (t := 20) (fr := (0, 0)) hnew) (by simp [Value.oneCell']) (by omega) (by simp [maxLen]) (by simp) (by simp; omega) (wr.heap.size + 3) (by simp) ?_; intro gg cap w1 hown1 hgrow hat hlt2)
              go_roundw
              case rel =>
                refine ⟨i + 1, by omega, by go_num, ⟨?_⟩, ⟨(((hb.out.alloc hb.out.size _).alloc (by have := hb.out.size; simp; omega) _).alloc (by have := hb.out.size; simp; omega) _).grown hgrow (by have := hb.out.size; simp; omega) (fun k hk => (ho.out.lt k hk).1)⟩⟩
                rw [HT.out]
                exact hown1
              case measure => simp [intOf]; omega
            · obtain ⟨p, hp⟩ : ∃ p, P.getLast? = some p := ⟨_, List.getLast?_eq_some_getLast hPe⟩
              have hn1 : 0 < P.length := List.length_pos_iff.2 hPe
              have hcell := ho.out.cellAt (P.length - 1) (by omega)
              rw [List.getElem?_map, ← List.getLast?_eq_getElem?, hp, Option.map_some] at hcell
              have hglt := World.block_lt_of_cell? _ _ hcell
              rw [hp] at HT
              have hcv := sh_conv1 wr (.cells #[.int .i64 (-1), .int .i64 x.f1, .int .i64 x.f2] 38 (0, 0)) x.f1
              have hidx : ((P.length : Int) - 1).toNat = P.length - 1 := by omega
              cases p with
              | single s =>
                have hfz := ho.out.frozenAt (P.length - 1)
                have hssz := hok s (List.mem_of_getLast? hp)
                have a0 := as_single
                simp only [partV] at hcell
                have hsz : s.size + 1 ≤ 9223372036854775807 := by omega
                go_wp2
                go_roundw
                case rel =>
                  have hst := ho.out.stored (P.length - 1) (.iface 130 (.string (s ++ ⟨#[b8 x.f1]⟩)))
                  have hb3 := hb.out.setCell (p := ⟨g, P.length - 1, none⟩) hgl (.iface 130 (.string (s ++ ⟨#[b8 x.f1]⟩)))
                  refine ⟨i + 1, by omega, by go_num, ⟨?_⟩, ⟨(hb3.alloc hb3.size _).alloc (by have := hb3.size; simp at this ⊢; omega) _⟩⟩
                  rw [HT.out, List.length_set, List.map_set]
                  exact (hst.1.alloc _).alloc _
                case measure => simp [intOf]; omega
              | call s =>
                have a0 := as_single_c
                simp only [partV] at hcell
                have hnew := heap_alloc_new ((wr.alloc (.cells #[.int .i64 (-1), .int .i64 x.f1, .int .i64 x.f2] 38)).alloc (.cells #[.int .u8 x.f1] 5)) (.cells #[.iface 130 (.string ⟨#[b8 x.f1]⟩)] 20 (0, 0))
                rw [show ((wr.alloc (.cells #[.int .i64 (-1), .int .i64 x.f1, .int .i64 x.f2] 38)).alloc (.cells #[.int .u8 x.f1] 5)).heap.size = wr.heap.size + 2 from by simp] at hnew
                go_wp2_with (at_builtin; refine wpList_append_lies _ rfl _ _ _ (by rfl) w.heap.size 20 i0 _ 1 16 Try.underlying102 hi0 hz0 hz1 hz2 rfl (by omega) _ _ _ (by rfl) (((ho.out.alloc _).alloc _).alloc _) ⟨wr.heap.size + 2, 0, none⟩ 1 1 [.iface 130 (.string ⟨#[b8 x.f1]⟩)] (by rfl) (by rfl) (World.news_of_block (cs := #[.iface 130 (.string ⟨#[b8 x.f1]⟩)]) (t := 20) (fr := (0, 0)) hnew) (by simp [Value.oneCell']) (by omega) (by simp [maxLen]; omega) (by omega) (by simp; omega) (wr.heap.size + 3) (by simp) ?_; intro gg cap w1 hown1 hgrow hat hlt2)
                go_roundw
                case rel =>
                  refine ⟨i + 1, by omega, by go_num, ⟨?_⟩, ⟨(((hb.out.alloc hb.out.size _).alloc (by have := hb.out.size; simp; omega) _).alloc (by have := hb.out.size; simp; omega) _).grown hgrow (by have := hb.out.size; simp; omega) (fun k hk => (ho.out.lt k hk).1)⟩⟩
                  rw [HT.out]
                  simp only [List.map_append, List.length_append]
                  exact hown1
                case measure => simp [intOf]; omega
              | span lo hi2 =>
                have a0 := as_single_s
                simp only [partV] at hcell
                have hnew := heap_alloc_new ((wr.alloc (.cells #[.int .i64 (-1), .int .i64 x.f1, .int .i64 x.f2] 38)).alloc (.cells #[.int .u8 x.f1] 5)) (.cells #[.iface 130 (.string ⟨#[b8 x.f1]⟩)] 20 (0, 0))
                rw [show ((wr.alloc (.cells #[.int .i64 (-1), .int .i64 x.f1, .int .i64 x.f2] 38)).alloc (.cells #[.int .u8 x.f1] 5)).heap.size = wr.heap.size + 2 from by simp] at hnew
                go_wp2_with (at_builtin; refine wpList_append_lies _ rfl _ _ _ (by rfl) w.heap.size 20 i0 _ 1 16 Try.underlying102 hi0 hz0 hz1 hz2 rfl (by omega) _ _ _ (by rfl) (((ho.out.alloc _).alloc _).alloc _) ⟨wr.heap.size + 2, 0, none⟩ 1 1 [.iface 130 (.string ⟨#[b8 x.f1]⟩)] (by rfl) (by rfl) (World.news_of_block (cs := #[.iface 130 (.string ⟨#[b8 x.f1]⟩)]) (t := 20) (fr := (0, 0)) hnew) (by simp [Value.oneCell']) (by omega) (by simp [maxLen]; omega) (by omega) (by simp; omega) (wr.heap.size + 3) (by simp) ?_; intro gg cap w1 hown1 hgrow hat hlt2)
                go_roundw
                case rel =>
                  refine ⟨i + 1, by omega, by go_num, ⟨?_⟩, ⟨(((hb.out.alloc hb.out.size _).alloc (by have := hb.out.size; simp; omega) _).alloc (by have := hb.out.size; simp; omega) _).grown hgrow (by have := hb.out.size; simp; omega) (fun k hk => (ho.out.lt k hk).1)⟩⟩
                  rw [HT.out]
                  simp only [List.map_append, List.length_append]
                  exact hown1
                case measure => simp [intOf]; omega
    · obtain rfl : i = q.length := by omega
      rw [List.take_length] at ho
      by_cases hE : addsP ns q = []
      · have e : partsL ns q = [.single ⟨#[]⟩] := by unfold partsL; rw [if_pos hE]
        rw [hE] at ho
        have hlit := World.ownsRow_lit (base := w.heap.size) (e := 20) (size := 1) wr #[.iface 130 (.string ⟨#[]⟩)] 1 hb.out.size (by decide) rfl
        rcases ho.out.2 with ⟨hv, hn0⟩ | ⟨g, cap, cur, hv, hgl, hgb, hnc, hcm, hcs, htk⟩
        · subst hv
          go_wp2
          go_ret
          first | exact ⟨_, rfl, hlit, hb.out.alloc hb.out.size _⟩ | exact ⟨_, rfl, e ▸ hlit, hb.out.alloc hb.out.size _⟩
        · subst hv
          go_wp2
          go_ret
          first | exact ⟨_, rfl, hlit, hb.out.alloc hb.out.size _⟩ | exact ⟨_, rfl, e ▸ hlit, hb.out.alloc hb.out.size _⟩
      · have e : partsL ns q = addsP ns q := by unfold partsL; rw [if_neg hE]
        have hn1 : 0 < (addsP ns q).length := List.length_pos_iff.2 hE
        generalize addsP ns q = P at *
        rcases ho.out.2 with ⟨hv, hn0⟩ | ⟨g, cap, cur, hv, hgl, hgb, hnc, hcm, hcs, htk⟩
        · omega
        · subst hv
          go_wp2
          go_ret
          first | exact ⟨_, rfl, ho.out, hb.out⟩ | exact ⟨_, rfl, e ▸ ho.out, hb.out⟩
theorem partT_call (s : ByteArray) : partT (.call s) = s.data.toList := rfl
theorem sh_wp_part (B b : Nat) (l : List UInt8) (p : Part) (w : World) (h : Bld B b l w) (hl : l.length + (partT p).length < 140737488350000) (hB : B ≤ w.heap.size) :
    Calls Try.prog 38 #[.pointer (some ⟨b, 0, none⟩), partV p] w fun e w' => e = .returned (.tuple #[]) ∧ Bld B b (l ++ partT p) w' ∧ Kp B b w w' := by
  cases p with
  | call s => exact sh_wp_call B b l s w h (by have e : (partT (.call s)).length = s.size := rfl; omega) hB
  | span lo hi => exact sh_wp_span B b l lo hi w h (by omega) hB
  | single s => exact sh_wp_single B b l s w h (by have e : (partT (.single s)).length = ([34] ++ singT s.data.toList ++ [34]).length := rfl; simp at e; omega) hB
def sepT {α : Type} (sep : List UInt8) (f : α → List UInt8) : List α → List UInt8
  | [] => []
  | x :: xs => f x ++ xs.flatMap (fun y => sep ++ f y)
theorem sepT_cons {α : Type} (sep : List UInt8) (f : α → List UInt8) (x : α) (xs : List α) : sepT sep f (x :: xs) = f x ++ xs.flatMap (fun y => sep ++ f y) := rfl
theorem sepT_take {α : Type} (sep : List UInt8) (f : α → List UInt8) (xs : List α) (i : Nat) (h : i < xs.length) : sepT sep f (xs.take (i + 1)) = sepT sep f (xs.take i) ++ (if 0 < i then sep else []) ++ f xs[i] := by
  cases xs with
  | nil => simp at h
  | cons x xs =>
    cases i with
    | zero => simp [sepT]
    | succ i =>
      simp only [List.length_cons] at h
      rw [List.take_succ_cons, List.take_succ_cons, if_pos (by omega)]
      rw [sepT_cons, sepT_cons, List.take_succ_eq_append_getElem (by omega), List.flatMap_append]
      simp
theorem sepT_len {α : Type} (sep : List UInt8) (f : α → List UInt8) (xs : List α) (i : Nat) : (sepT sep f (xs.take i)).length ≤ (sepT sep f xs).length := by
  cases xs with
  | nil => simp
  | cons x xs =>
    cases i with
    | zero => simp [sepT]
    | succ i =>
      rw [List.take_succ_cons]
      rw [sepT_cons, sepT_cons]
      conv => rhs; rw [← List.take_append_drop i xs, List.flatMap_append]
      simp only [List.length_append]
      omega
theorem sepT_step {α : Type} (sep : List UInt8) (f : α → List UInt8) (xs : List α) (i : Nat) (h : i < xs.length) : (sepT sep f (xs.take i)).length + (if 0 < i then sep else []).length + (f xs[i]).length ≤ (sepT sep f xs).length := by
  have h1 := sepT_len sep f xs (i + 1)
  rw [sepT_take sep f xs i h, List.length_append, List.length_append] at h1
  omega
def partsT (ps : List Part) : List UInt8 := sepT [32] partT ps
def negT (b : Bool) : List UInt8 := if b then [126] else []
def conjT (ns : List ByteArray) (c : S41) : List UInt8 := negT c.f0 ++ partsT (partsL ns c.f1)
def ruleT (ns : List ByteArray) (x : S44) : List UInt8 := sepT [32, 38, 32] (conjT ns) x.f1
theorem partsL_ne (ns : List ByteArray) (q : List S38) : 0 < (partsL ns q).length := by
  unfold partsL
  split
  · simp
  · rename_i h
    exact List.length_pos_iff.2 h
theorem partsL_le (ns : List ByteArray) (q : List S38) : (partsL ns q).length ≤ q.length + 1 := by
  have h := addsP_len ns q q.length (Nat.le_refl _)
  rw [List.take_length] at h
  unfold partsL
  split
  · simp
  · omega
theorem parts2 (gp : Addr) (An : Option Addr) (cn : Nat) (ns : List ByteArray) (Aq : Option Addr) (cq : Nat) (q : List S38) (w : World)
    (hg : w.cell? ⟨gp.block, gp.off + 1, none⟩ = some (.slice An ns.length cn)) (hn : Kd.C Kd.string w An ns.length ns) (hq : Kd.C k38 w Aq q.length q) (hgb : gp.block < w.heap.size)
    (hall : q.all (symB ns.length) = true) (hlen : q.length ≤ 64) :
    Calls Try.prog 37 #[.pointer (some gp), .slice Aq q.length cq] w fun e w' => ∃ g cap cur, e = .returned (.slice (some ⟨g, 0, none⟩) (partsL ns q).length cap) ∧ w.heap.size ≤ g ∧ w'.heap[g]? = some (.cells cur 20 (0, 0)) ∧ (∀ k, k < (partsL ns q).length → cur[k]? = ((partsL ns q)[k]?).map partV) ∧ Below w.heap.size w w' := by
  refine (parts_calls gp An cn ns Aq cq q w hg hn hq hgb hall hlen).mono ?_
  rintro e w' ⟨v, rfl, ho, hb⟩
  have hp := partsL_ne ns q
  rcases ho.2 with ⟨hv, hn0⟩ | ⟨g, cap, cur, hv, hgl, hgb, hnc, hcm, hcs, htk⟩
  · omega
  · refine ⟨g, cap, cur, by rw [hv], hgl, hgb, fun k hk => ?_, hb⟩
    rw [← List.getElem?_map, ← htk, Nat.mul_one, List.getElem?_take, if_pos hk]
    simp
set_option maxHeartbeats 4000000 in
set_option maxRecDepth 100000 in
theorem sh_wrule (w0 w : World) (b : Nat) (l : List UInt8) (gb : Nat) (st : Int) (An : Option Addr) (cn : Nat) (ns : List ByteArray) (Ar : Option Addr) (nr cr : Nat) (rp : Addr) (Ac : Option Addr) (cc : Nat) (x : S44)
    (h : Bld w0.heap.size b l w) (hb0 : Below w0.heap.size w0 w) (hgb : gb ≠ b) (hG : w.heap[gb]? = some (.cells #[.int .i64 st, .slice An ns.length cn, .slice Ar nr cr] 25 (0, 0)))
    (hn : Kd.C Kd.string w0 An ns.length ns) (hrp : w0.cell? ⟨rp.block, rp.off + 1, none⟩ = some (.slice Ac x.f1.length cc)) (hc : Kd.C k41 w0 Ac x.f1.length x.f1)
    (hok : x.f1.all (conjB ns.length) = true) (hlen : x.f1.length ≤ 8) (hl : l.length + (ruleT ns x).length < 140737488340000) :
    Calls Try.prog 20 #[.pointer (some ⟨b, 0, none⟩), .pointer (some ⟨gb, 0, none⟩), .pointer (some rp)] w fun e w' => e = .returned (.tuple #[]) ∧ Bld w0.heap.size b (l ++ ruleT ns x) w' ∧ Kp w0.heap.size b w w' := by
  obtain ⟨B, hBe⟩ : ∃ B, B = w0.heap.size := ⟨_, rfl⟩
  have hBw : B ≤ w.heap.size := hBe ▸ hb0.size
  have H0 := Aside0.mk hb0
  have HN := Aside0.mk hn
  have HC := Aside0.mk hc
  have HOK := Aside0.mk hok
  have HG := Aside0.mk hG
  have HB := Aside0.mk h
  have hbw := h.lt
  have k1 := pw_cell_below hb0 hrp
  clear hb0 hn hc hok hG h hrp
  go_enter Try.func20, Try.ntmps20
  go_wp2
  go_loopw [15] (fun v wr => ∃ i : Nat, i ≤ x.f1.length ∧ v = .int .i64 i ∧ Aside0 (Bld w0.heap.size b (l ++ sepT [32, 38, 32] (conjT ns) (x.f1.take i)) wr) ∧ Aside0 (Kp w0.heap.size b w wr)) (fun v _ => x.f1.length - (intOf v).toNat)
  case atStart => exact ⟨0, by omega, rfl, ⟨by simpa [sepT] using HB.out⟩, ⟨Kp.refl _ _ _⟩⟩
  case round =>
    obtain ⟨i, hi, rfl, hb, hk⟩ := hrel
    by_cases hlt : i < x.f1.length
    · have hb2 := H0.out.trans hk.out.1
      obtain ⟨ad, A1, c1, eA, g0, g1, hc1, hC⟩ := at_T41 HC.out (i : Int) (by omega) (by omega)
      rw [rd_conj _ _ hlt] at g0 g1 hc1 hC
      rw [Int.toNat_natCast] at g0 g1
      subst eA
      have g0 := pw_cell_below hb2 g0
      have g1 := pw_cell_below hb2 g1
      have HST := Aside0.mk (sepT_step [32, 38, 32] (conjT ns) x.f1 i hlt)
      have HT := Aside0.mk (sepT_take [32, 38, 32] (conjT ns) x.f1 i hlt)
      have hcb : conjB ns.length x.f1[i] = true := List.all_eq_true.1 HOK.out _ (List.getElem_mem hlt)
      generalize x.f1[i] = c at *
      have HCC := Aside0.mk hC
      have HCB := Aside0.mk hcb
      clear hC hcb hb2
      obtain ⟨wo, rfl⟩ : ∃ wo : World, wo = wr := ⟨_, rfl⟩
      have hH : wo.heap.size ≠ b := Nat.ne_of_gt (Nat.lt_of_lt_of_le hbw hk.out.size)
      go_upto_if 21 with (fail)
      go_cut [] (fun wc => Aside0 (Bld w0.heap.size b (l ++ sepT [32, 38, 32] (conjT ns) (x.f1.take i) ++ (if 0 < i then [32, 38, 32] else [])) wc) ∧ Aside0 (Kp w0.heap.size b w wc) ∧ Aside0 (wc.heap[wo.heap.size]? = some (.cells #[.bool c.f0, .slice A1 c.f1.length c1] 41 (0, 0))))
      case first =>
        by_cases h0 : 0 < i
        · rw [if_pos h0] at HST HT
          simp only [List.length_cons, List.length_nil] at HST
          have hst := HST.out
          unfold ruleT at hl
          go_wp2_with (first
            | (go_at_call 19; refine (sh_ws w0.heap.size b _ ⟨#[32, 38, 32]⟩ _ (hb.out.alloc _) (by show _ + 3 < _; simp; omega) (by have := hk.out.size; simp; omega)).mono ?_; rintro e w1 ⟨rfl, h2, k2⟩))
          go_meet
          case rel => exact ⟨⟨by rw [if_pos h0]; exact h2⟩, ⟨(hk.out.alloc (by omega) _).trans k2⟩, ⟨k2.2 _ _ (blk_new _ _) (by simpa using hH) (by simp)⟩⟩
        · go_wp2
          go_meet
          case rel => exact ⟨⟨by rw [if_neg h0, List.append_nil]; exact hb.out.alloc _⟩, ⟨hk.out.alloc (by omega) _⟩, ⟨blk_new _ _⟩⟩
      case rest =>
        obtain ⟨hb3, hk3, hbk⟩ := hcut
        have q0 : wc.cell? ⟨wo.heap.size, 0, none⟩ = some (.bool c.f0) := (blk_cell hbk.out 0).trans rfl
        clear g0 g1 hb
        go_upto_if 25 with (fail)
        go_cut [] (fun wc => Aside0 (Bld w0.heap.size b (l ++ sepT [32, 38, 32] (conjT ns) (x.f1.take i) ++ (if 0 < i then [32, 38, 32] else []) ++ negT c.f0) wc) ∧ Aside0 (Kp w0.heap.size b w wc) ∧ Aside0 (wc.heap[wo.heap.size]? = some (.cells #[.bool c.f0, .slice A1 c.f1.length c1] 41 (0, 0))))
        case first =>
          by_cases hneg : c.f0 = true
          · have hst := HST.out
            unfold ruleT at hl
            have hcj : (conjT ns c).length = (negT c.f0).length + (partsT (partsL ns c.f1)).length := List.length_append
            have hng : negT c.f0 = [126] := by unfold negT; rw [if_pos hneg]
            rw [hng, List.length_singleton] at hcj
            rw [hneg]
            go_wp2_with (first
              | (go_at_call 36; refine (sh_wb w0.heap.size b _ 126 _ ?hx _ hb3.out (by simp only [List.length_append]; omega) (hk3.out.le (by omega))).mono ?_; (case hx => decide); rintro e w1 ⟨rfl, h2, k2⟩))
            go_meet
            case rel => exact ⟨⟨by rw [hng]; exact h2⟩, ⟨hk3.out.trans k2⟩, ⟨k2.2 _ _ hbk.out (by simpa using hH) (by simp)⟩⟩
          · have hng : negT c.f0 = [] := by unfold negT; rw [if_neg hneg]
            have hneg : c.f0 = false := by simpa using hneg
            rw [hneg]
            go_wp2
            go_meet
            case rel => exact ⟨⟨by rw [hng, List.append_nil]; exact hb3.out⟩, hk3, hbk⟩
        case rest =>
          obtain ⟨hb4, hk4, hbk4⟩ := hcut
          clear hb3 hk3 hbk q0
          have q1 : wc.cell? ⟨wo.heap.size, 1, none⟩ = some (.slice A1 c.f1.length c1) := (blk_cell hbk4.out 1).trans rfl
          have hG4 := hk4.out.2 _ _ HG.out (by simpa using hgb) (by simp)
          have hb5 := H0.out.trans hk4.out.1
          have HP := Aside0.mk (parts2 ⟨gb, 0, none⟩ An cn ns A1 c1 c.f1 wc ((blk_cell hG4 1).trans rfl) (Kd.C_below HN.out hb5) (Kd.C_below HCC.out hb5) (blk_lt hG4) (by have := HCB.out; unfold conjB at this; rw [Bool.and_eq_true] at this; exact this.2) (by have := HCB.out; unfold conjB at this; rw [Bool.and_eq_true] at this; simpa using this.1))
          go_wp2_with (first
            | (go_at_call 37; refine HP.out.mono ?_; rintro e w1 ⟨g, cap, cur, rfl, hgl, hgc, hcur, hbl⟩))
          have hst := HST.out
          unfold ruleT at hl
          have hcj : (conjT ns c).length = (negT c.f0).length + (partsT (partsL ns c.f1)).length := List.length_append
          have hpl := partsL_le ns c.f1
          have hql : c.f1.length ≤ 64 := by have := HCB.out; unfold conjB at this; rw [Bool.and_eq_true] at this; simpa using this.1
          have HCJ := Aside0.mk (show conjT ns c = negT c.f0 ++ partsT (partsL ns c.f1) from rfl)
          have hPT : partsT (partsL ns c.f1) = sepT [32] partT (partsL ns c.f1) := rfl
          rw [hPT] at HCJ hcj
          clear hPT HP HCB HCC
          have hwl := hk4.out.size
          have hg5 := hb4.out.below hbl
          have hk5 := hk4.out.trans ⟨hbl.mono (by omega), fun k o hk _ _ => blk_below hk hbl⟩
          have hgne : g ≠ b := by omega
          clear hb4 hk4 hbk4 q1 hb5 hG4
          generalize partsL ns c.f1 = PS at *
          go_loopw [33] (fun v wi => ∃ k : Nat, k ≤ PS.length ∧ v = .int .i64 k ∧ Aside0 (Bld w0.heap.size b (l ++ sepT [32, 38, 32] (conjT ns) (x.f1.take i) ++ (if 0 < i then [32, 38, 32] else []) ++ negT c.f0 ++ sepT [32] partT (PS.take k)) wi) ∧ Aside0 (Kp w0.heap.size b w wi) ∧ Aside0 (wi.heap[g]? = some (.cells cur 20 (0, 0)))) (fun v _ => PS.length - (intOf v).toNat)
          case atStart => exact ⟨0, by omega, rfl, ⟨by simpa [sepT] using hg5⟩, ⟨hk5⟩, ⟨hgc⟩⟩
          case round =>
            obtain ⟨k, hkl, rfl, hb6, hk6, hgc6⟩ := hrel
            by_cases hkt : k < PS.length
            · have hck := hcur k hkt
              rw [List.getElem?_eq_getElem hkt, Option.map_some] at hck
              have q2 : _ = some (partV PS[k]) := (blk_cell hgc6.out k).trans hck
              have hst2 := sepT_step [32] partT PS k hkt
              have HT2 := Aside0.mk (sepT_take [32] partT PS k hkt)
              generalize PS[k] = p at *
              go_upto_if 39 with (fail)
              go_cut [] (fun wc => Aside0 (Bld w0.heap.size b (l ++ sepT [32, 38, 32] (conjT ns) (x.f1.take i) ++ (if 0 < i then [32, 38, 32] else []) ++ negT c.f0 ++ sepT [32] partT (PS.take k) ++ (if 0 < k then [32] else [])) wc) ∧ Aside0 (Kp w0.heap.size b w wc) ∧ Aside0 (wc.heap[g]? = some (.cells cur 20 (0, 0))))
              case first =>
                by_cases h0 : 0 < k
                · rw [if_pos h0] at hst2
                  simp only [List.length_cons, List.length_nil] at hst2
                  go_wp2_with (first
                    | (go_at_call 36; refine (sh_wb w0.heap.size b _ 32 _ ?hx _ hb6.out (by simp only [List.length_append]; omega) (hk6.out.le (by omega))).mono ?_; (case hx => decide); rintro e w2 ⟨rfl, h2, k2⟩))
                  go_meet
                  case rel => exact ⟨⟨by rw [if_pos h0]; exact h2⟩, ⟨hk6.out.trans k2⟩, ⟨k2.2 _ _ hgc6.out (by simpa using hgne) (by simp)⟩⟩
                · go_wp2
                  go_meet
                  case rel => exact ⟨⟨by rw [if_neg h0, List.append_nil]; exact hb6.out⟩, hk6, hgc6⟩
              case rest =>
                obtain ⟨hb7, hk7, hgc7⟩ := hcut
                clear q2 hb6 hk6 hgc6
                go_wp2_with (first
                  | (go_at_call 38; refine (sh_wp_part w0.heap.size b _ p _ hb7.out (by simp only [List.length_append]; omega) (hk7.out.le (by omega))).mono ?_; rintro e w2 ⟨rfl, h2, k2⟩))
                go_roundw
                case rel => exact ⟨k + 1, by omega, by go_num, ⟨by rw [HT2.out]; simpa using h2⟩, ⟨hk7.out.trans k2⟩, ⟨k2.2 _ _ hgc7.out (by simpa using hgne) (by simp)⟩⟩
                case measure => simp [intOf]; omega
            · obtain rfl : k = PS.length := by omega
              rw [List.take_length] at hb6
              go_wp2
              go_roundw
              case rel => exact ⟨i + 1, by omega, by go_num, ⟨by rw [HT.out, HCJ.out]; simpa using hb6.out⟩, hk6⟩
              case measure => simp [intOf]; omega
    · obtain rfl : i = x.f1.length := by omega
      rw [List.take_length] at hb
      go_wp2
      go_end0
      exact ⟨rfl, hb.out, hk.out⟩
theorem namesFrom_sizes : ∀ (xs seen : List ByteArray), namesFrom seen xs = true → ∀ x ∈ xs, x.size ≤ 32
  | [], _, _ => by simp
  | y :: ys, seen, h => by
    unfold namesFrom at h
    rw [Bool.and_eq_true, Bool.and_eq_true] at h
    intro x hx
    rcases List.mem_cons.1 hx with rfl | hx
    · have h1 := h.1.1
      unfold nameOk at h1
      rw [Bool.and_eq_true] at h1
      have := of_decide_eq_true h1.1
      omega
    · exact namesFrom_sizes ys _ h.2 x hx
theorem nmAt_size (ns : List ByteArray) (h : ∀ n ∈ ns, n.size ≤ 32) (i : Int) : (nmAt ns i).size ≤ 32 := by
  unfold nmAt
  rw [List.getD_eq_getElem?_getD]
  cases e : ns[i.toNat]? with
  | none => exact Nat.zero_le _
  | some x => exact h x (List.mem_of_getElem? e)
theorem rulesFrom_head (n : Int) : ∀ (xs : List S44) (head all : Int), rulesFrom n head all xs = true → head ≤ n - 1
  | [], head, all, h => by
    unfold rulesFrom at h
    have := eq_of_beq h
    omega
  | x :: xs, head, all, h => by
    unfold rulesFrom at h
    rw [Bool.and_eq_true, Bool.and_eq_true] at h
    have h1 := of_decide_eq_true h.1.2
    have := rulesFrom_head n xs _ _ h.2
    omega
theorem rulesFrom_mem (n : Int) : ∀ (xs : List S44) (head all : Int), rulesFrom n head all xs = true → ∀ x ∈ xs, ruleB n x = true ∧ head ≤ x.f0 ∧ x.f0 ≤ n - 1
  | [], _, _, _ => by simp
  | y :: ys, head, all, h => by
    unfold rulesFrom at h
    rw [Bool.and_eq_true, Bool.and_eq_true] at h
    have h1 := of_decide_eq_true h.1.2
    have h2 := rulesFrom_head n ys _ _ h.2
    intro x hx
    rcases List.mem_cons.1 hx with rfl | hx
    · exact ⟨h.1.1, by omega, by omega⟩
    · obtain ⟨a, b, c⟩ := rulesFrom_mem n ys _ _ h.2 x hx
      exact ⟨a, by omega, c⟩
theorem sepT_bound {α : Type} (sep : List UInt8) (f : α → List UInt8) (M : Nat) : ∀ (xs : List α), (∀ x ∈ xs, (f x).length ≤ M) → (sepT sep f xs).length ≤ xs.length * (sep.length + M)
  | [], _ => by simp [sepT]
  | x :: xs, h => by
    have key : ∀ ys : List α, (∀ y ∈ ys, (f y).length ≤ M) → (ys.flatMap (fun y => sep ++ f y)).length ≤ ys.length * (sep.length + M) := by
      intro ys
      induction ys with
      | nil => simp
      | cons y ys ih =>
        intro hy
        have h1 := ih (fun z hz => hy z (List.mem_cons_of_mem _ hz))
        have h2 := hy y List.mem_cons_self
        rw [List.flatMap_cons, List.length_append, List.length_append, List.length_cons, Nat.add_mul]
        omega
    have h1 := key xs (fun y hy => h y (List.mem_cons_of_mem _ hy))
    have h2 := h x List.mem_cons_self
    rw [sepT_cons, List.length_append, List.length_cons, Nat.add_mul]
    omega
theorem addP_calls (ns : List ByteArray) (hns : ∀ n ∈ ns, n.size ≤ 32) (out : List Part) (s : S38) (h : ∀ b, Part.call b ∈ out → b.size ≤ 32) : ∀ b, Part.call b ∈ addP ns out s → b.size ≤ 32 := by
  intro b hb
  unfold addP at hb
  split at hb
  · rcases List.mem_append.1 hb with hb | hb
    · exact h b hb
    · simp only [List.mem_singleton, Part.call.injEq] at hb
      rw [hb]
      exact nmAt_size ns hns _
  · split at hb
    · rcases List.mem_append.1 hb with hb | hb
      · exact h b hb
      · simp at hb
    · split at hb
      · rcases List.mem_or_eq_of_mem_set hb with hb | hb
        · exact h b hb
        · cases hb
      · rcases List.mem_append.1 hb with hb | hb
        · exact h b hb
        · simp at hb
theorem addsP_calls (ns : List ByteArray) (hns : ∀ n ∈ ns, n.size ≤ 32) (q : List S38) : ∀ i, i ≤ q.length → ∀ b, Part.call b ∈ addsP ns (q.take i) → b.size ≤ 32
  | 0, _ => by simp [addsP]
  | i + 1, h => by
    rw [addsP_take ns q i (by omega)]
    exact addP_calls ns hns _ _ (addsP_calls ns hns q i (by omega))
theorem singT_bound (s : List UInt8) : (singT s).length ≤ s.length * 4 := by
  induction s with
  | nil => simp [singT]
  | cons c s ih =>
    have h := chT_len c 34
    unfold singT at ih ⊢
    rw [List.flatMap_cons, List.length_append, List.length_cons]
    omega
theorem partT_bound (ns : List ByteArray) (hns : ∀ n ∈ ns, n.size ≤ 32) (q : List S38) (hq : q.length ≤ 64) (p : Part) (hp : p ∈ partsL ns q) : (partT p).length ≤ 258 := by
  have h1 := addsP_calls ns hns q q.length (Nat.le_refl _)
  have h2 := addsP_ok ns q q.length (Nat.le_refl _)
  rw [List.take_length] at h1 h2
  unfold partsL at hp
  split at hp
  · rw [List.mem_singleton.1 hp]
    decide
  · cases p with
    | call s =>
      have := h1 s hp
      show s.data.toList.length ≤ 258
      have e : s.data.toList.length = s.size := rfl
      omega
    | span lo hi =>
      have e1 := endT_len lo
      have e2 := endT_len hi
      show (endT lo ++ [46, 46] ++ endT hi).length ≤ 258
      simp only [List.length_append, List.length_cons, List.length_nil]
      omega
    | single s =>
      have h3 := h2 s hp
      have h4 := singT_bound s.data.toList
      have e : s.data.toList.length = s.size := rfl
      show ([34] ++ singT s.data.toList ++ [34]).length ≤ 258
      simp only [List.length_append, List.length_cons, List.length_nil]
      omega
theorem conjT_bound (ns : List ByteArray) (hns : ∀ n ∈ ns, n.size ≤ 32) (c : S41) (hq : c.f1.length ≤ 64) : (conjT ns c).length ≤ 16836 := by
  have h1 := sepT_bound [32] partT 258 (partsL ns c.f1) (fun p hp => partT_bound ns hns c.f1 hq p hp)
  have h2 := partsL_le ns c.f1
  have h3 : (negT c.f0).length ≤ 1 := by unfold negT; split <;> simp
  have h4 : (partsL ns c.f1).length * ([32].length + 258) ≤ 65 * 259 := Nat.mul_le_mul (by omega) (by simp)
  unfold conjT partsT
  rw [List.length_append]
  omega
theorem ruleT_bound (ns : List ByteArray) (hns : ∀ n ∈ ns, n.size ≤ 32) (n : Int) (x : S44) (hx : ruleB n x = true) : (ruleT ns x).length ≤ 134712 := by
  unfold ruleB at hx
  rw [Bool.and_eq_true, decide_eq_true_eq] at hx
  have h1 := sepT_bound [32, 38, 32] (conjT ns) 16836 x.f1 (fun c hc => conjT_bound ns hns c (by
    have := List.all_eq_true.1 hx.2 c hc
    unfold conjB at this
    rw [Bool.and_eq_true, decide_eq_true_eq] at this
    exact this.1))
  have h4 : x.f1.length * ([32, 38, 32].length + 16836) ≤ 8 * 16839 := Nat.mul_le_mul (by omega) (by simp)
  unfold ruleT
  omega
theorem ruleB_all {n : Int} {x : S44} (h : ruleB n x = true) : x.f1.all (conjB n) = true := by
  unfold ruleB at h
  rw [Bool.and_eq_true] at h
  exact h.2
theorem ruleB_len {n : Int} {x : S44} (h : ruleB n x = true) : x.f1.length ≤ 8 := by
  unfold ruleB at h
  rw [Bool.and_eq_true, decide_eq_true_eq] at h
  exact h.1.2
def rAt (rs : List S44) (i : Nat) : S44 := rd_T44 rs (i : Int)
def topT (ns : List ByteArray) (rs : List S44) (i : Nat) : List UInt8 := if i = 0 ∨ (rAt rs (i - 1)).f0 ≠ (rAt rs i).f0 then (nmAt ns (rAt rs i).f0).data.toList ++ [32, 61, 32] else [32, 124, 32]
def botT (rs : List S44) (i : Nat) : List UInt8 := if i + 1 = rs.length ∨ (rAt rs (i + 1)).f0 ≠ (rAt rs i).f0 then [59, 10] else []
def roundsT (ns : List ByteArray) (rs : List S44) : Nat → List UInt8
  | 0 => []
  | i + 1 => roundsT ns rs i ++ topT ns rs i ++ ruleT ns (rAt rs i) ++ botT rs i
def headT (st : Int) (ns : List ByteArray) : List UInt8 := [115, 116, 97, 114, 116, 32] ++ (nmAt ns st).data.toList ++ [59, 10]
def showT (st : Int) (ns : List ByteArray) (rs : List S44) : List UInt8 := headT st ns ++ roundsT ns rs rs.length
theorem roundsT_bound (ns : List ByteArray) (hns : ∀ n ∈ ns, n.size ≤ 32) (n : Int) (rs : List S44) (hr : ∀ x ∈ rs, ruleB n x = true) : ∀ i, i ≤ rs.length → (roundsT ns rs i).length ≤ i * 134749
  | 0, _ => by simp [roundsT]
  | i + 1, h => by
    have h1 := roundsT_bound ns hns n rs hr i (by omega)
    have h2 : rAt rs i = rs[i] := rd_rule rs i (by omega)
    have h3 := ruleT_bound ns hns n (rAt rs i) (h2 ▸ hr _ (List.getElem_mem (by omega)))
    have h4 : (topT ns rs i).length ≤ 35 := by
      have := nmAt_size ns hns (rAt rs i).f0
      have e : (nmAt ns (rAt rs i).f0).data.toList.length = (nmAt ns (rAt rs i).f0).size := rfl
      unfold topT
      split <;> simp only [List.length_append, List.length_cons, List.length_nil] <;> omega
    have h5 : (botT rs i).length ≤ 2 := by
      unfold botT
      split <;> simp
    unfold roundsT
    simp only [List.length_append]
    omega
theorem mayB_facts {st : Int} {ns : List ByteArray} {rs : List S44} (h : mayB st ns rs = true) : (∀ n ∈ ns, n.size ≤ 32) ∧ 0 ≤ st ∧ st < ns.length ∧ 1 ≤ rs.length ∧ rs.length ≤ 256 ∧ ns.length ≤ 64 ∧ (∀ x ∈ rs, ruleB ns.length x = true ∧ 0 ≤ x.f0 ∧ x.f0 < ns.length) := by
  unfold mayB at h
  rw [Bool.and_eq_true, Bool.and_eq_true, Bool.and_eq_true] at h
  obtain ⟨⟨⟨h1, h2⟩, h3⟩, h4⟩ := h
  unfold namesOk at h1
  rw [Bool.and_eq_true, decide_eq_true_eq] at h1
  have h2 := of_decide_eq_true h2
  have h4 := of_decide_eq_true h4
  refine ⟨namesFrom_sizes ns [] h1.2, h2.1, h2.2.1, h2.2.2.1, h2.2.2.2, h1.1.2, ?_⟩
  cases rs with
  | nil => simp
  | cons y ys =>
    have h0 : y.f0 = 0 := h4
    unfold rulesFrom at h3
    rw [Bool.and_eq_true, Bool.and_eq_true] at h3
    have h5 := rulesFrom_head _ ys _ _ h3.2
    intro x hx
    rcases List.mem_cons.1 hx with rfl | hx
    · exact ⟨h3.1.1, by omega, by omega⟩
    · obtain ⟨a, b, c⟩ := rulesFrom_mem _ ys _ _ h3.2 x hx
      exact ⟨a, by omega, by omega⟩
def show_Show.f (a0_0 : Int) (l0_1 : List ByteArray) (l0_2 : List (S44)) : Option (ByteArray × Int) := some (if mayB a0_0 l0_1 l0_2 then (⟨(showT a0_0 l0_1 l0_2).toArray⟩, 0) else (⟨#[]⟩, 500))
set_option maxHeartbeats 8000000 in
set_option maxRecDepth 100000 in
theorem show_Show.calls (a0_0 : Int) (A0_1 : Option Addr) (c0_1 : Nat) (l0_1 : List ByteArray) (A0_2 : Option Addr) (c0_2 : Nat) (l0_2 : List (S44)) (r1 : ByteArray) (r2 : Int) (w : World) (hr0_1 : Kd.C Kd.string w A0_1 l0_1.length l0_1) (hc0_1 : l0_1.length ≤ c0_1) (hr0_2 : Kd.C k44 w A0_2 l0_2.length l0_2) (hc0_2 : l0_2.length ≤ c0_2) (h : show_Show.f a0_0 l0_1 l0_2 = some (r1, r2)) :
    Calls Try.prog 10 #[.agg #[.int .i64 a0_0, .slice A0_1 l0_1.length c0_1, .slice A0_2 l0_2.length c0_2]] w fun e w' => e = .returned (.tuple #[.string r1, .int .i64 r2]) ∧ Below w.heap.size w w' := by
  unfold show_Show.f at h
  have Hr := Aside0.mk (Option.some.inj h)
  clear h
  have HN := Aside0.mk hr0_1
  have HR := Aside0.mk hr0_2
  have HM := Aside0.mk (fun W h1 h2 => gram_May.calls a0_0 A0_1 c0_1 l0_1 A0_2 c0_2 l0_2 (mayB a0_0 l0_1 l0_2) W h1 hc0_1 h2 hc0_2 rfl)
  have HBX : Aside0 (∀ w1, Below (w.heap.size + 1) (w.alloc (.cells #[.int .i64 a0_0, .slice A0_1 l0_1.length c0_1, .slice A0_2 l0_2.length c0_2] 25)) w1 → w1.heap[w.heap.size]? = some (.cells #[.int .i64 a0_0, .slice A0_1 l0_1.length c0_1, .slice A0_2 l0_2.length c0_2] 25 (0, 0))) := ⟨fun w1 hb => (hb.block _ (by omega)).trans (blk_new _ _)⟩
  clear hr0_1 hr0_2
  cases hm : mayB a0_0 l0_1 l0_2 with
  | false =>
    rw [hm] at Hr HM
    have HR1 : Aside0 (r1 = ⟨#[]⟩ ∧ r2 = 500) := ⟨by have := Hr.out; simp at this; exact ⟨this.1.symm, this.2.symm⟩⟩
    clear hm Hr
    go_enter Try.func10, Try.ntmps10
    go_wp2_with (first | (go_at_call 16; refine (HM.out _ (Kd.C_alloc HN.out _) (Kd.C_alloc HR.out _)).mono ?_; rintro e w1 ⟨rfl, hb⟩; have HB := Aside0.mk hb; clear hb))
    go_ret2
    exact ⟨by rw [HR1.out.1, HR1.out.2]; rfl, below_step ((Below.refl _ _).alloc (Nat.le_refl _) _) HB.out⟩
  | true =>
    rw [hm] at Hr HM
    have HR1 : Aside0 (r1 = ⟨(showT a0_0 l0_1 l0_2).toArray⟩ ∧ r2 = 0) := ⟨by have := Hr.out; simp only [if_true, Prod.mk.injEq] at this; exact ⟨this.1.symm, this.2.symm⟩⟩
    clear Hr
    obtain ⟨f1, f2, f3, f4, f5, f6, f7⟩ := mayB_facts hm
    clear hm
    have F1 := Aside0.mk f1
    have F7 := Aside0.mk f7
    have HBND := Aside0.mk (roundsT_bound l0_1 f1 l0_1.length l0_2 (fun x hx => (f7 x hx).1))
    obtain ⟨ad1, eA1, hcs⟩ := Kd.at_string HN.out a0_0 f2 (by omega)
    rw [show rdOf ByteArray.empty l0_1 a0_0 = nmAt l0_1 a0_0 from rfl] at hcs
    have hsz := nmAt_size l0_1 f1 a0_0
    clear f1 f7
    subst eA1
    have HCS := Aside0.mk hcs
    clear hcs
    go_enter Try.func10, Try.ntmps10
    go_wp2_with (first
      | (go_at_call 19; refine (sh_ws w.heap.size _ _ _ _ HF.out (by simp only [List.length_nil, ByteArray.size_append]; show _ < _; have : ByteArray.size ⟨#[115, 116, 97, 114, 116, 32]⟩ = 6 := rfl; have : ByteArray.size ⟨#[59, 10]⟩ = 2 := rfl; omega) (by have := HB.out.size; simp; omega)).mono ?_; rintro e w2 ⟨rfl, h2, k2⟩; have HG2 : Aside0 (w2.heap[w.heap.size]? = some (.cells #[.int .i64 a0_0, .slice (some ad1) l0_1.length c0_1, .slice A0_2 l0_2.length c0_2] 25 (0, 0))) := ⟨k2.2 _ _ (blk_alloc HG.out _) (by simp; omega) (by simp)⟩; have q5 : w2.cell? ⟨w.heap.size, 2, none⟩ = some (.slice A0_2 l0_2.length c0_2) := (blk_cell HG2.out 2).trans rfl; have HB2 : Aside0 (Below w.heap.size w w2) := ⟨(HB.out.alloc HB.out.size _).trans k2.1⟩; have H2 : Aside0 (Bld w.heap.size w1.heap.size (headT a0_0 l0_1) w2) := ⟨by simpa [headT, ByteArray.data_append] using h2⟩; clear h2 k2 HF)
      | (go_at_call 16; refine (HM.out _ (Kd.C_alloc HN.out _) (Kd.C_alloc HR.out _)).mono ?_; rintro e w1 ⟨rfl, hb⟩; have HB : Aside0 (Below w.heap.size w w1) := ⟨below_step ((Below.refl _ _).alloc (Nat.le_refl _) _) hb⟩; have HG : Aside0 (w1.heap[w.heap.size]? = some (.cells #[.int .i64 a0_0, .slice (some ad1) l0_1.length c0_1, .slice A0_2 l0_2.length c0_2] 25 (0, 0))) := ⟨HBX.out w1 (by simpa using hb)⟩; clear hb; have hwl := blk_lt HG.out; have q0 : w1.cell? ⟨w.heap.size, 0, none⟩ = some (.int .i64 a0_0) := (blk_cell HG.out 0).trans rfl; have q1 : w1.cell? ⟨w.heap.size, 1, none⟩ = some (.slice (some ad1) l0_1.length c0_1) := (blk_cell HG.out 1).trans rfl; have q2 : w1.cell? ⟨w.heap.size, 2, none⟩ = some (.slice A0_2 l0_2.length c0_2) := (blk_cell HG.out 2).trans rfl; have q3 := pw_cell_below HB.out HCS.out; have q4 := World.block_lt_of_cell? _ _ q3; have HF : Aside0 (Bld w.heap.size w1.heap.size [] (w1.alloc (.cells #[.pointer none, .slice none 0 0] 61))) := ⟨.inl ⟨HB.out.size, .slice none 0 0, blk_new _ _, World.ownsRowF_of (World.ownsRow_nil _ _ _ _), by simp [Value.ownBlock]⟩⟩))
    generalize hb1 : w1.heap.size = b1 at *
    go_loopw [22] (fun v wr => ∃ i : Nat, i ≤ l0_2.length ∧ v = .int .i64 i ∧ Aside0 (Bld w.heap.size b1 (headT a0_0 l0_1 ++ roundsT l0_1 l0_2 i) wr) ∧ Aside0 (Below w.heap.size w wr) ∧ Aside0 (wr.heap[w.heap.size]? = some (.cells #[.int .i64 a0_0, .slice (some ad1) l0_1.length c0_1, .slice A0_2 l0_2.length c0_2] 25 (0, 0)))) (fun v _ => l0_2.length - (intOf v).toNat)
    case atStart => exact ⟨0, by omega, rfl, ⟨by simpa [roundsT] using H2.out⟩, HB2, HG2⟩
    case round =>
      obtain ⟨i, hi, rfl, hb, hk, hg⟩ := hrel
      have hgb : w.heap.size ≠ b1 := by omega
      clear q0 q1 q2 q3 q4 q5 H2 HB2 HG2 HB HG HBX HM HCS hb1 hwl
      by_cases hlt : i < l0_2.length
      · obtain ⟨ad, A1, c1, eA, g0, g1, hc1, hC⟩ := at_T44 HR.out (i : Int) (by omega) (by omega)
        rw [Int.toNat_natCast] at g0 g1
        subst eA
        have hX := F7.out _ (List.getElem_mem hlt)
        rw [show l0_2[i] = rAt l0_2 i from (rd_rule l0_2 i hlt).symm] at hX
        obtain ⟨hX1, hX2, hX3⟩ := hX
        obtain ⟨adn, eN, hnm⟩ := Kd.at_string HN.out (rAt l0_2 i).f0 hX2 (by omega)
        obtain rfl : ad1 = adn := by injection eN
        rw [show rdOf ByteArray.empty l0_1 (rAt l0_2 i).f0 = nmAt l0_1 (rAt l0_2 i).f0 from rfl] at hnm
        have hnsz := nmAt_size l0_1 F1.out (rAt l0_2 i).f0
        have hbd := HBND.out (i + 1) (by omega)
        have HRT := Aside0.mk (show roundsT l0_1 l0_2 (i + 1) = roundsT l0_1 l0_2 i ++ topT l0_1 l0_2 i ++ ruleT l0_1 (rAt l0_2 i) ++ botT l0_2 i from rfl)
        rw [HRT.out] at hbd
        simp only [List.length_append] at hbd
        have hhd : (headT a0_0 l0_1).length ≤ 40 := by
          have e : (nmAt l0_1 a0_0).data.toList.length = (nmAt l0_1 a0_0).size := rfl
          unfold headT
          simp only [List.length_append, List.length_cons, List.length_nil]
          omega
        have HTOP := Aside0.mk (show topT l0_1 l0_2 i = if i = 0 ∨ (rAt l0_2 (i - 1)).f0 ≠ (rAt l0_2 i).f0 then (nmAt l0_1 (rAt l0_2 i).f0).data.toList ++ [32, 61, 32] else [32, 124, 32] from rfl)
        have HBOT := Aside0.mk (show botT l0_2 i = if i + 1 = l0_2.length ∨ (rAt l0_2 (i + 1)).f0 ≠ (rAt l0_2 i).f0 then [59, 10] else [] from rfl)
        have HC := Aside0.mk (show k41.C w A1 (rAt l0_2 i).f1.length (rAt l0_2 i).f1 from hC)
        have G0 := Aside0.mk (show w.cell? (ad.add (i * 2)) = some (.int .i64 (rAt l0_2 i).f0) from g0)
        have G1 := Aside0.mk (show w.cell? ⟨(ad.add (i * 2)).block, (ad.add (i * 2)).off + 1, none⟩ = some (.slice A1 (rAt l0_2 i).f1.length c1) from g1)
        have HNM := Aside0.mk hnm
        have HX1 := Aside0.mk hX1
        clear hC g0 g1 hnm hX1
        have GP : Aside0 (0 < i → w.cell? (ad.add ((i - 1) * 2)) = some (.int .i64 (rAt l0_2 (i - 1)).f0)) := ⟨fun h => by
          obtain ⟨ad', A', c', eA', g0', _⟩ := at_T44 HR.out ((i - 1 : Nat) : Int) (by omega) (by omega)
          obtain rfl : ad = ad' := by injection eA'
          rw [Int.toNat_natCast] at g0'
          exact g0'⟩
        have GN : Aside0 (i + 1 < l0_2.length → w.cell? (ad.add ((i + 1) * 2)) = some (.int .i64 (rAt l0_2 (i + 1)).f0)) := ⟨fun h => by
          obtain ⟨ad', A', c', eA', g0', _⟩ := at_T44 HR.out ((i + 1 : Nat) : Int) (by omega) (by omega)
          obtain rfl : ad = ad' := by injection eA'
          rw [Int.toNat_natCast] at g0'
          exact g0'⟩
        generalize rAt l0_2 i = X at *
        generalize (rAt l0_2 (i - 1)).f0 = hp at *
        generalize (rAt l0_2 (i + 1)).f0 = hn at *
        have r2 : wr.cell? ⟨w.heap.size, 2, none⟩ = some (.slice (some ad) l0_2.length c0_2) := (blk_cell hg.out 2).trans rfl
        have r1 : wr.cell? ⟨w.heap.size, 1, none⟩ = some (.slice (some ad1) l0_1.length c0_1) := (blk_cell hg.out 1).trans rfl
        have r0 := pw_cell_below hk.out G0.out
        have rn := pw_cell_below hk.out HNM.out
        have hTN : ((nmAt l0_1 X.f0).data.toList ++ [32, 61, 32]).length ≤ 40 := by
          have e : (nmAt l0_1 X.f0).data.toList.length = (nmAt l0_1 X.f0).size := rfl
          simp only [List.length_append, List.length_cons, List.length_nil]
          omega
        have HLEN : Aside0 (∀ TOP : List UInt8, TOP.length ≤ 40 → (headT a0_0 l0_1 ++ roundsT l0_1 l0_2 i ++ TOP ++ ruleT l0_1 X).length < 1000000000) := ⟨fun TOP h => by simp only [List.length_append]; omega⟩
        have HRLXX : Aside0 (∀ TOP : List UInt8, TOP.length ≤ 40 → ∀ W, Bld w.heap.size b1 (headT a0_0 l0_1 ++ roundsT l0_1 l0_2 i ++ TOP) W → Below w.heap.size w W → W.heap[w.heap.size]? = some (.cells #[.int .i64 a0_0, .slice (some ad1) l0_1.length c0_1, .slice (some ad) l0_2.length c0_2] 25 (0, 0)) →
            Calls Try.prog 20 #[.pointer (some ⟨b1, 0, none⟩), .pointer (some ⟨w.heap.size, 0, none⟩), .pointer (some (ad.add (i * 2)))] W fun e w' => e = .returned (.tuple #[]) ∧ Bld w.heap.size b1 (headT a0_0 l0_1 ++ roundsT l0_1 l0_2 i ++ TOP ++ ruleT l0_1 X) w' ∧ Kp w.heap.size b1 W w') := ⟨fun TOP h W h1 h2 h3 => sh_wrule w W b1 _ w.heap.size a0_0 (some ad1) c0_1 l0_1 (some ad) l0_2.length c0_2 (ad.add (i * 2)) A1 c1 X h1 h2 hgb h3 HN.out G1.out HC.out (ruleB_all HX1.out) (ruleB_len HX1.out) (by have := HLEN.out TOP h; simp only [List.length_append] at this ⊢; omega)⟩
        by_cases hz : i = 0
        · have HT1 : Aside0 (topT l0_1 l0_2 i = (nmAt l0_1 X.f0).data.toList ++ [32, 61, 32]) := ⟨by rw [HTOP.out, if_pos (.inl hz)]⟩
          have t0 : ((i : Int) == 0) = true := by rw [hz]; rfl
          have htl : (topT l0_1 l0_2 i).length = (nmAt l0_1 X.f0).size + 3 := by rw [HT1.out, List.length_append]; rfl
          by_cases hl1 : i + 1 = l0_2.length
          · skip
            have HRLX := Aside0.mk (HRLXX.out ((nmAt l0_1 X.f0).data.toList ++ [32, 61, 32]) hTN)
            have HB1 : Aside0 (botT l0_2 i = [59, 10]) := ⟨by rw [HBOT.out, if_pos (.inl hl1)]⟩
            have t5 : ((i : Int) + 1 == (l0_2.length : Int)) = true := beq_iff_eq.2 (by omega)
            have ZNX : Aside0 (∀ W, Below w.heap.size w W → True) := ⟨fun _ _ => trivial⟩
            clear hz HTOP HBOT
            clear hl1
            go_wp2
            go_region
            go_wp2
            have H4 : Aside0 (Bld w.heap.size b1 (headT a0_0 l0_1 ++ roundsT l0_1 l0_2 i) wr.drew) := ⟨hb.out.drew⟩
            have K4 : Aside0 (Below w.heap.size w wr.drew) := ⟨hk.out.drew⟩
            have G4 : Aside0 (wr.drew.heap[w.heap.size]? = some (.cells #[.int .i64 a0_0, .slice (some ad1) l0_1.length c0_1, .slice (some ad) l0_2.length c0_2] 25 (0, 0))) := ⟨hg.out⟩
            clear r0 r1 r2 rn hb hk hg
            generalize wr.drew = wq at *
            have r1 : wq.cell? ⟨w.heap.size, 1, none⟩ = some (.slice (some ad1) l0_1.length c0_1) := (blk_cell G4.out 1).trans rfl
            have r0 := pw_cell_below K4.out G0.out
            have rn := pw_cell_below K4.out HNM.out
            have hws : (headT a0_0 l0_1 ++ roundsT l0_1 l0_2 i).length + (nmAt l0_1 X.f0 ++ ⟨#[32, 61, 32]⟩ : ByteArray).size < 140737488355000 := by
              have e3 : ByteArray.size ⟨#[32, 61, 32]⟩ = 3 := rfl
              rw [List.length_append, ByteArray.size_append, e3]
              omega
            have HWS := Aside0.mk (sh_ws w.heap.size b1 _ (nmAt l0_1 X.f0 ++ ⟨#[32, 61, 32]⟩) wq.drew H4.out.drew hws K4.out.drew.size)
            have hgb' : some w.heap.size ≠ some b1 := by simpa using hgb
            have hc1 : ¬ (9223372036854775807 : Int) < ((nmAt l0_1 X.f0).size : Int) + 3 := by omega
            have hc2 : ¬ (9223372036854775804 : Int) < ((nmAt l0_1 X.f0).size : Int) := by omega
            have hc3 : ¬ 9223372036854775804 < (nmAt l0_1 X.f0).size := by omega
            have hc4 : ¬ 9223372036854775807 < (nmAt l0_1 X.f0).size + 3 := by omega
            have hc5 : ¬ (9223372036854775807 : Int) < (((nmAt l0_1 X.f0).size + 3 : Nat) : Int) := by omega
            have hc6 : ¬ (IntKind.i64.max : Int) < ((nmAt l0_1 X.f0).size : Int) + 3 := hc1
            have hc7 : ¬ (IntKind.i64.max : Int) < (((nmAt l0_1 X.f0).size + (⟨#[32, 61, 32]⟩ : ByteArray).size : Nat) : Int) := hc5
            go_region_held3 (fun w' => w'.cell? ⟨w.heap.size, 1, none⟩ = some (.slice (some ad1) l0_1.length c0_1) ∧ w'.cell? (ad.add (i * 2)) = some (.int .i64 X.f0) ∧ w'.cell? (ad1.add X.f0.toNat) = some (.string (nmAt l0_1 X.f0))) (first | go_keep | (exact ⟨(blk_cell HG3.out 1).trans rfl, pw_cell_below HK3.out G0.out, pw_cell_below HK3.out HNM.out⟩))
              ((go_at_call 19; refine HWS.out.mono ?_; rintro e w2 ⟨rfl, h2, k2⟩; have HK3 : Aside0 (Below w.heap.size w w2) := ⟨K4.out.trans k2.undrew.1⟩; have HG3 := Aside0.mk (k2.undrew.2 _ _ G4.out hgb' (by simp)); have H5 := Aside0.mk h2; clear h2 k2))
            go_wp2_with (first
              | (go_at_call 20; refine (HRLX.out w2 H5.out HK3.out HG3.out).mono ?_; rintro e w3 ⟨rfl, h3, k3⟩; have HK5 : Aside0 (Below w.heap.size w w3) := ⟨HK3.out.trans k3.1⟩; have HG5 := Aside0.mk (k3.2 _ _ HG3.out hgb' (by simp)); have H6 := Aside0.mk h3; clear h3 k3; have z2 : w3.cell? ⟨w.heap.size, 2, none⟩ = some (.slice (some ad) l0_2.length c0_2) := (blk_cell HG5.out 2).trans rfl; have z0 := pw_cell_below HK5.out G0.out; have z3 := ZNX.out w3 HK5.out))
            go_region
            have H7 : Aside0 (Bld w.heap.size b1 _ w3.drew) := ⟨H6.out.drew⟩
            have K7 : Aside0 (Below w.heap.size w w3.drew) := ⟨HK5.out.drew⟩
            have G7 : Aside0 (w3.drew.heap[w.heap.size]? = some (.cells #[.int .i64 a0_0, .slice (some ad1) l0_1.length c0_1, .slice (some ad) l0_2.length c0_2] 25 (0, 0))) := ⟨HG5.out⟩
            clear z0 z2 z3 H6 HK5 HG5
            generalize w3.drew = wf at *
            have hwz := Nat.lt_of_lt_of_le (Nat.add_lt_add_right (HLEN.out ((nmAt l0_1 X.f0).data.toList ++ [32, 61, 32]) hTN) (⟨#[59, 10]⟩ : ByteArray).size) (show 1000000000 + 2 ≤ 140737488355000 by decide)
            have HWZ := Aside0.mk (sh_ws w.heap.size b1 _ ⟨#[59, 10]⟩ wf H7.out hwz K7.out.size)
            go_wp2_with (first
              | (go_at_call 19; refine HWZ.out.mono ?_; rintro e w5 ⟨rfl, h5, k5⟩))
            go_roundw
            case rel => exact ⟨i + 1, by omega, by go_num, ⟨by rw [HRT.out, HT1.out, HB1.out]; simpa using h5⟩, ⟨K7.out.trans k5.1⟩, ⟨k5.2 _ _ G7.out hgb' (by simp)⟩⟩
            case measure => simp [intOf]; omega
          · by_cases hnx : hn = X.f0
            · skip
              have HRLX := Aside0.mk (HRLXX.out ((nmAt l0_1 X.f0).data.toList ++ [32, 61, 32]) hTN)
              have t5 : ((i : Int) + 1 == (l0_2.length : Int)) = false := beq_eq_false_iff_ne.2 (by omega)
              have t5' : ¬ ((i : Int) + 1 = (l0_2.length : Int)) := by omega
              have hi1 : i + 1 < l0_2.length := by omega
              have hi11 : (0 : Int) ≤ (i : Int) + 1 := by omega
              have wi1 : IntKind.i64.wrap ((i : Int) + 1) = (i : Int) + 1 := by rw [i64_w]; unfold wrap64; omega
              have hi12 : (i : Int) + 1 < (l0_2.length : Int) := by omega
              have ZNX : Aside0 (∀ W, Below w.heap.size w W → W.cell? (ad.add ((i + 1) * 2)) = some (.int .i64 hn)) := ⟨fun W h => pw_cell_below h (GN.out hi1)⟩
              have HB1 : Aside0 (botT l0_2 i = []) := ⟨by rw [HBOT.out, if_neg (fun h => h.elim hl1 (fun q => q hnx))]⟩
              have t6 : (hn == X.f0) = true := beq_iff_eq.2 hnx
              have t7 : (hn != X.f0) = false := bne_eq_false_iff_eq.2 hnx
              clear hz HTOP HBOT
              clear hnx
              go_wp2
              go_region
              go_wp2
              have H4 : Aside0 (Bld w.heap.size b1 (headT a0_0 l0_1 ++ roundsT l0_1 l0_2 i) wr.drew) := ⟨hb.out.drew⟩
              have K4 : Aside0 (Below w.heap.size w wr.drew) := ⟨hk.out.drew⟩
              have G4 : Aside0 (wr.drew.heap[w.heap.size]? = some (.cells #[.int .i64 a0_0, .slice (some ad1) l0_1.length c0_1, .slice (some ad) l0_2.length c0_2] 25 (0, 0))) := ⟨hg.out⟩
              clear r0 r1 r2 rn hb hk hg
              generalize wr.drew = wq at *
              have r1 : wq.cell? ⟨w.heap.size, 1, none⟩ = some (.slice (some ad1) l0_1.length c0_1) := (blk_cell G4.out 1).trans rfl
              have r0 := pw_cell_below K4.out G0.out
              have rn := pw_cell_below K4.out HNM.out
              have hws : (headT a0_0 l0_1 ++ roundsT l0_1 l0_2 i).length + (nmAt l0_1 X.f0 ++ ⟨#[32, 61, 32]⟩ : ByteArray).size < 140737488355000 := by
                have e3 : ByteArray.size ⟨#[32, 61, 32]⟩ = 3 := rfl
                rw [List.length_append, ByteArray.size_append, e3]
                omega
              have HWS := Aside0.mk (sh_ws w.heap.size b1 _ (nmAt l0_1 X.f0 ++ ⟨#[32, 61, 32]⟩) wq.drew H4.out.drew hws K4.out.drew.size)
              have hgb' : some w.heap.size ≠ some b1 := by simpa using hgb
              have hc1 : ¬ (9223372036854775807 : Int) < ((nmAt l0_1 X.f0).size : Int) + 3 := by omega
              have hc2 : ¬ (9223372036854775804 : Int) < ((nmAt l0_1 X.f0).size : Int) := by omega
              have hc3 : ¬ 9223372036854775804 < (nmAt l0_1 X.f0).size := by omega
              have hc4 : ¬ 9223372036854775807 < (nmAt l0_1 X.f0).size + 3 := by omega
              have hc5 : ¬ (9223372036854775807 : Int) < (((nmAt l0_1 X.f0).size + 3 : Nat) : Int) := by omega
              have hc6 : ¬ (IntKind.i64.max : Int) < ((nmAt l0_1 X.f0).size : Int) + 3 := hc1
              have hc7 : ¬ (IntKind.i64.max : Int) < (((nmAt l0_1 X.f0).size + (⟨#[32, 61, 32]⟩ : ByteArray).size : Nat) : Int) := hc5
              go_region_held3 (fun w' => w'.cell? ⟨w.heap.size, 1, none⟩ = some (.slice (some ad1) l0_1.length c0_1) ∧ w'.cell? (ad.add (i * 2)) = some (.int .i64 X.f0) ∧ w'.cell? (ad1.add X.f0.toNat) = some (.string (nmAt l0_1 X.f0))) (first | go_keep | (exact ⟨(blk_cell HG3.out 1).trans rfl, pw_cell_below HK3.out G0.out, pw_cell_below HK3.out HNM.out⟩))
                ((go_at_call 19; refine HWS.out.mono ?_; rintro e w2 ⟨rfl, h2, k2⟩; have HK3 : Aside0 (Below w.heap.size w w2) := ⟨K4.out.trans k2.undrew.1⟩; have HG3 := Aside0.mk (k2.undrew.2 _ _ G4.out hgb' (by simp)); have H5 := Aside0.mk h2; clear h2 k2))
              go_wp2_with (first
                | (go_at_call 20; refine (HRLX.out w2 H5.out HK3.out HG3.out).mono ?_; rintro e w3 ⟨rfl, h3, k3⟩; have HK5 : Aside0 (Below w.heap.size w w3) := ⟨HK3.out.trans k3.1⟩; have HG5 := Aside0.mk (k3.2 _ _ HG3.out hgb' (by simp)); have H6 := Aside0.mk h3; clear h3 k3; have z2 : w3.cell? ⟨w.heap.size, 2, none⟩ = some (.slice (some ad) l0_2.length c0_2) := (blk_cell HG5.out 2).trans rfl; have z0 := pw_cell_below HK5.out G0.out; have z3 := ZNX.out w3 HK5.out))
              go_region_held3 (fun w' => w'.cell? ⟨w.heap.size, 2, none⟩ = some (.slice (some ad) l0_2.length c0_2) ∧ w'.cell? (ad.add ((i + 1) * 2)) = some (.int .i64 hn) ∧ w'.cell? (ad.add (i * 2)) = some (.int .i64 X.f0)) (go_keep) (fail)
              have H7 : Aside0 (Bld w.heap.size b1 _ w3.drew) := ⟨H6.out.drew⟩
              have K7 : Aside0 (Below w.heap.size w w3.drew) := ⟨HK5.out.drew⟩
              have G7 : Aside0 (w3.drew.heap[w.heap.size]? = some (.cells #[.int .i64 a0_0, .slice (some ad1) l0_1.length c0_1, .slice (some ad) l0_2.length c0_2] 25 (0, 0))) := ⟨HG5.out⟩
              clear z0 z2 z3 H6 HK5 HG5
              generalize w3.drew = wf at *
              go_wp2
              go_roundw
              case rel => exact ⟨i + 1, by omega, by go_num, ⟨by rw [HRT.out, HT1.out, HB1.out]; simpa using H7.out⟩, K7, G7⟩
              case measure => simp [intOf]; omega
            · skip
              have HRLX := Aside0.mk (HRLXX.out ((nmAt l0_1 X.f0).data.toList ++ [32, 61, 32]) hTN)
              have t5 : ((i : Int) + 1 == (l0_2.length : Int)) = false := beq_eq_false_iff_ne.2 (by omega)
              have t5' : ¬ ((i : Int) + 1 = (l0_2.length : Int)) := by omega
              have hi1 : i + 1 < l0_2.length := by omega
              have hi11 : (0 : Int) ≤ (i : Int) + 1 := by omega
              have wi1 : IntKind.i64.wrap ((i : Int) + 1) = (i : Int) + 1 := by rw [i64_w]; unfold wrap64; omega
              have hi12 : (i : Int) + 1 < (l0_2.length : Int) := by omega
              have ZNX : Aside0 (∀ W, Below w.heap.size w W → W.cell? (ad.add ((i + 1) * 2)) = some (.int .i64 hn)) := ⟨fun W h => pw_cell_below h (GN.out hi1)⟩
              have HB1 : Aside0 (botT l0_2 i = [59, 10]) := ⟨by rw [HBOT.out, if_pos (.inr hnx)]⟩
              have t6 : (hn == X.f0) = false := beq_eq_false_iff_ne.2 hnx
              have t7 : (hn != X.f0) = true := bne_iff_ne.2 hnx
              clear hz HTOP HBOT
              clear hnx
              go_wp2
              go_region
              go_wp2
              have H4 : Aside0 (Bld w.heap.size b1 (headT a0_0 l0_1 ++ roundsT l0_1 l0_2 i) wr.drew) := ⟨hb.out.drew⟩
              have K4 : Aside0 (Below w.heap.size w wr.drew) := ⟨hk.out.drew⟩
              have G4 : Aside0 (wr.drew.heap[w.heap.size]? = some (.cells #[.int .i64 a0_0, .slice (some ad1) l0_1.length c0_1, .slice (some ad) l0_2.length c0_2] 25 (0, 0))) := ⟨hg.out⟩
              clear r0 r1 r2 rn hb hk hg
              generalize wr.drew = wq at *
              have r1 : wq.cell? ⟨w.heap.size, 1, none⟩ = some (.slice (some ad1) l0_1.length c0_1) := (blk_cell G4.out 1).trans rfl
              have r0 := pw_cell_below K4.out G0.out
              have rn := pw_cell_below K4.out HNM.out
              have hws : (headT a0_0 l0_1 ++ roundsT l0_1 l0_2 i).length + (nmAt l0_1 X.f0 ++ ⟨#[32, 61, 32]⟩ : ByteArray).size < 140737488355000 := by
                have e3 : ByteArray.size ⟨#[32, 61, 32]⟩ = 3 := rfl
                rw [List.length_append, ByteArray.size_append, e3]
                omega
              have HWS := Aside0.mk (sh_ws w.heap.size b1 _ (nmAt l0_1 X.f0 ++ ⟨#[32, 61, 32]⟩) wq.drew H4.out.drew hws K4.out.drew.size)
              have hgb' : some w.heap.size ≠ some b1 := by simpa using hgb
              have hc1 : ¬ (9223372036854775807 : Int) < ((nmAt l0_1 X.f0).size : Int) + 3 := by omega
              have hc2 : ¬ (9223372036854775804 : Int) < ((nmAt l0_1 X.f0).size : Int) := by omega
              have hc3 : ¬ 9223372036854775804 < (nmAt l0_1 X.f0).size := by omega
              have hc4 : ¬ 9223372036854775807 < (nmAt l0_1 X.f0).size + 3 := by omega
              have hc5 : ¬ (9223372036854775807 : Int) < (((nmAt l0_1 X.f0).size + 3 : Nat) : Int) := by omega
              have hc6 : ¬ (IntKind.i64.max : Int) < ((nmAt l0_1 X.f0).size : Int) + 3 := hc1
              have hc7 : ¬ (IntKind.i64.max : Int) < (((nmAt l0_1 X.f0).size + (⟨#[32, 61, 32]⟩ : ByteArray).size : Nat) : Int) := hc5
              go_region_held3 (fun w' => w'.cell? ⟨w.heap.size, 1, none⟩ = some (.slice (some ad1) l0_1.length c0_1) ∧ w'.cell? (ad.add (i * 2)) = some (.int .i64 X.f0) ∧ w'.cell? (ad1.add X.f0.toNat) = some (.string (nmAt l0_1 X.f0))) (first | go_keep | (exact ⟨(blk_cell HG3.out 1).trans rfl, pw_cell_below HK3.out G0.out, pw_cell_below HK3.out HNM.out⟩))
                ((go_at_call 19; refine HWS.out.mono ?_; rintro e w2 ⟨rfl, h2, k2⟩; have HK3 : Aside0 (Below w.heap.size w w2) := ⟨K4.out.trans k2.undrew.1⟩; have HG3 := Aside0.mk (k2.undrew.2 _ _ G4.out hgb' (by simp)); have H5 := Aside0.mk h2; clear h2 k2))
              go_wp2_with (first
                | (go_at_call 20; refine (HRLX.out w2 H5.out HK3.out HG3.out).mono ?_; rintro e w3 ⟨rfl, h3, k3⟩; have HK5 : Aside0 (Below w.heap.size w w3) := ⟨HK3.out.trans k3.1⟩; have HG5 := Aside0.mk (k3.2 _ _ HG3.out hgb' (by simp)); have H6 := Aside0.mk h3; clear h3 k3; have z2 : w3.cell? ⟨w.heap.size, 2, none⟩ = some (.slice (some ad) l0_2.length c0_2) := (blk_cell HG5.out 2).trans rfl; have z0 := pw_cell_below HK5.out G0.out; have z3 := ZNX.out w3 HK5.out))
              go_region_held3 (fun w' => w'.cell? ⟨w.heap.size, 2, none⟩ = some (.slice (some ad) l0_2.length c0_2) ∧ w'.cell? (ad.add ((i + 1) * 2)) = some (.int .i64 hn) ∧ w'.cell? (ad.add (i * 2)) = some (.int .i64 X.f0)) (go_keep) (fail)
              have H7 : Aside0 (Bld w.heap.size b1 _ w3.drew) := ⟨H6.out.drew⟩
              have K7 : Aside0 (Below w.heap.size w w3.drew) := ⟨HK5.out.drew⟩
              have G7 : Aside0 (w3.drew.heap[w.heap.size]? = some (.cells #[.int .i64 a0_0, .slice (some ad1) l0_1.length c0_1, .slice (some ad) l0_2.length c0_2] 25 (0, 0))) := ⟨HG5.out⟩
              clear z0 z2 z3 H6 HK5 HG5
              generalize w3.drew = wf at *
              have hwz := Nat.lt_of_lt_of_le (Nat.add_lt_add_right (HLEN.out ((nmAt l0_1 X.f0).data.toList ++ [32, 61, 32]) hTN) (⟨#[59, 10]⟩ : ByteArray).size) (show 1000000000 + 2 ≤ 140737488355000 by decide)
              have HWZ := Aside0.mk (sh_ws w.heap.size b1 _ ⟨#[59, 10]⟩ wf H7.out hwz K7.out.size)
              go_wp2_with (first
                | (go_at_call 19; refine HWZ.out.mono ?_; rintro e w5 ⟨rfl, h5, k5⟩))
              go_roundw
              case rel => exact ⟨i + 1, by omega, by go_num, ⟨by rw [HRT.out, HT1.out, HB1.out]; simpa using h5⟩, ⟨K7.out.trans k5.1⟩, ⟨k5.2 _ _ G7.out hgb' (by simp)⟩⟩
              case measure => simp [intOf]; omega
        · have t0 : ((i : Int) == 0) = false := beq_eq_false_iff_ne.2 (by omega)
          have r3 := pw_cell_below hk.out (GP.out (by omega))
          have hi0 : 0 < i := by omega
          have hi03 : (1 : Int) ≤ (i : Int) := by omega
          have hi04 : 1 ≤ i := by omega
          have hi05 : (0 : Int) < (i : Int) := by omega
          have hi06 : (i : Int) < (l0_2.length : Int) + 1 := by omega
          have hi07 : i < l0_2.length + 1 := by omega
          have hi08 : i ≤ l0_2.length := by omega
          have hi09 : i - 1 < l0_2.length := by omega
          have hi010 : ((i : Int) - 1).toNat = i - 1 := by omega
          have hi01 : (0 : Int) ≤ (i : Int) - 1 := by omega
          have wi0 : IntKind.i64.wrap ((i : Int) - 1) = (i : Int) - 1 := by rw [i64_w]; unfold wrap64; omega
          have hi02 : (i : Int) - 1 < (l0_2.length : Int) := by omega
          by_cases hpx : hp = X.f0
          · have HT1 : Aside0 (topT l0_1 l0_2 i = [32, 124, 32]) := ⟨by rw [HTOP.out, if_neg (fun h => h.elim hz (fun q => q hpx))]⟩
            have htl : (topT l0_1 l0_2 i).length = 3 := by rw [HT1.out]; rfl
            have t1 : (hp == X.f0) = true := beq_iff_eq.2 hpx
            have t2 : (hp != X.f0) = false := bne_eq_false_iff_eq.2 hpx
            by_cases hl1 : i + 1 = l0_2.length
            · skip
              have HRLX := Aside0.mk (HRLXX.out [32, 124, 32] (by decide))
              have HB1 : Aside0 (botT l0_2 i = [59, 10]) := ⟨by rw [HBOT.out, if_pos (.inl hl1)]⟩
              have t5 : ((i : Int) + 1 == (l0_2.length : Int)) = true := beq_iff_eq.2 (by omega)
              have ZNX : Aside0 (∀ W, Below w.heap.size w W → True) := ⟨fun _ _ => trivial⟩
              clear hz HTOP HBOT
              clear hl1
              clear hpx
              go_wp2
              go_region_held3 (fun w' => w'.cell? ⟨w.heap.size, 2, none⟩ = some (.slice (some ad) l0_2.length c0_2) ∧ w'.cell? (ad.add ((i - 1) * 2)) = some (.int .i64 hp) ∧ w'.cell? (ad.add (i * 2)) = some (.int .i64 X.f0)) (go_keep) (fail)
              have H4 : Aside0 (Bld w.heap.size b1 (headT a0_0 l0_1 ++ roundsT l0_1 l0_2 i) wr.drew) := ⟨hb.out.drew⟩
              have K4 : Aside0 (Below w.heap.size w wr.drew) := ⟨hk.out.drew⟩
              have G4 : Aside0 (wr.drew.heap[w.heap.size]? = some (.cells #[.int .i64 a0_0, .slice (some ad1) l0_1.length c0_1, .slice (some ad) l0_2.length c0_2] 25 (0, 0))) := ⟨hg.out⟩
              clear r0 r1 r2 rn hb hk hg
              generalize wr.drew = wq at *
              have r1 : wq.cell? ⟨w.heap.size, 1, none⟩ = some (.slice (some ad1) l0_1.length c0_1) := (blk_cell G4.out 1).trans rfl
              have r0 := pw_cell_below K4.out G0.out
              have rn := pw_cell_below K4.out HNM.out
              have hws : (headT a0_0 l0_1 ++ roundsT l0_1 l0_2 i).length + (⟨#[32, 124, 32]⟩ : ByteArray).size < 140737488355000 := by
                have e3 : ByteArray.size ⟨#[32, 124, 32]⟩ = 3 := rfl
                rw [List.length_append, e3]
                omega
              have HWS := Aside0.mk (sh_ws w.heap.size b1 _ ⟨#[32, 124, 32]⟩ wq H4.out hws K4.out.size)
              have hgb' : some w.heap.size ≠ some b1 := by simpa using hgb
              go_wp2_with (first
                | (go_at_call 19; refine HWS.out.mono ?_; rintro e w2 ⟨rfl, h2, k2⟩; have HK3 : Aside0 (Below w.heap.size w w2) := ⟨K4.out.trans k2.1⟩; have HG3 := Aside0.mk (k2.2 _ _ G4.out hgb' (by simp)); have H5 := Aside0.mk h2; clear h2 k2; have HRL := HRLX.out w2 H5.out HK3.out HG3.out)
                | (go_at_call 20; refine HRL.mono ?_; rintro e w3 ⟨rfl, h3, k3⟩; have HK5 : Aside0 (Below w.heap.size w w3) := ⟨HK3.out.trans k3.1⟩; have HG5 := Aside0.mk (k3.2 _ _ HG3.out hgb' (by simp)); have H6 := Aside0.mk h3; clear h3 k3; have z2 : w3.cell? ⟨w.heap.size, 2, none⟩ = some (.slice (some ad) l0_2.length c0_2) := (blk_cell HG5.out 2).trans rfl; have z0 := pw_cell_below HK5.out G0.out; have z3 := ZNX.out w3 HK5.out))
              go_region
              have H7 : Aside0 (Bld w.heap.size b1 _ w3.drew) := ⟨H6.out.drew⟩
              have K7 : Aside0 (Below w.heap.size w w3.drew) := ⟨HK5.out.drew⟩
              have G7 : Aside0 (w3.drew.heap[w.heap.size]? = some (.cells #[.int .i64 a0_0, .slice (some ad1) l0_1.length c0_1, .slice (some ad) l0_2.length c0_2] 25 (0, 0))) := ⟨HG5.out⟩
              clear z0 z2 z3 H6 HK5 HG5
              generalize w3.drew = wf at *
              have hwz := Nat.lt_of_lt_of_le (Nat.add_lt_add_right (HLEN.out [32, 124, 32] (by decide)) (⟨#[59, 10]⟩ : ByteArray).size) (show 1000000000 + 2 ≤ 140737488355000 by decide)
              have HWZ := Aside0.mk (sh_ws w.heap.size b1 _ ⟨#[59, 10]⟩ wf H7.out hwz K7.out.size)
              go_wp2_with (first
                | (go_at_call 19; refine HWZ.out.mono ?_; rintro e w5 ⟨rfl, h5, k5⟩))
              go_roundw
              case rel => exact ⟨i + 1, by omega, by go_num, ⟨by rw [HRT.out, HT1.out, HB1.out]; simpa using h5⟩, ⟨K7.out.trans k5.1⟩, ⟨k5.2 _ _ G7.out hgb' (by simp)⟩⟩
              case measure => simp [intOf]; omega
            · by_cases hnx : hn = X.f0
              · skip
                have HRLX := Aside0.mk (HRLXX.out [32, 124, 32] (by decide))
                have t5 : ((i : Int) + 1 == (l0_2.length : Int)) = false := beq_eq_false_iff_ne.2 (by omega)
                have t5' : ¬ ((i : Int) + 1 = (l0_2.length : Int)) := by omega
                have hi1 : i + 1 < l0_2.length := by omega
                have hi11 : (0 : Int) ≤ (i : Int) + 1 := by omega
                have wi1 : IntKind.i64.wrap ((i : Int) + 1) = (i : Int) + 1 := by rw [i64_w]; unfold wrap64; omega
                have hi12 : (i : Int) + 1 < (l0_2.length : Int) := by omega
                have ZNX : Aside0 (∀ W, Below w.heap.size w W → W.cell? (ad.add ((i + 1) * 2)) = some (.int .i64 hn)) := ⟨fun W h => pw_cell_below h (GN.out hi1)⟩
                have HB1 : Aside0 (botT l0_2 i = []) := ⟨by rw [HBOT.out, if_neg (fun h => h.elim hl1 (fun q => q hnx))]⟩
                have t6 : (hn == X.f0) = true := beq_iff_eq.2 hnx
                have t7 : (hn != X.f0) = false := bne_eq_false_iff_eq.2 hnx
                clear hz HTOP HBOT
                clear hnx
                clear hpx
                go_wp2
                go_region_held3 (fun w' => w'.cell? ⟨w.heap.size, 2, none⟩ = some (.slice (some ad) l0_2.length c0_2) ∧ w'.cell? (ad.add ((i - 1) * 2)) = some (.int .i64 hp) ∧ w'.cell? (ad.add (i * 2)) = some (.int .i64 X.f0)) (go_keep) (fail)
                have H4 : Aside0 (Bld w.heap.size b1 (headT a0_0 l0_1 ++ roundsT l0_1 l0_2 i) wr.drew) := ⟨hb.out.drew⟩
                have K4 : Aside0 (Below w.heap.size w wr.drew) := ⟨hk.out.drew⟩
                have G4 : Aside0 (wr.drew.heap[w.heap.size]? = some (.cells #[.int .i64 a0_0, .slice (some ad1) l0_1.length c0_1, .slice (some ad) l0_2.length c0_2] 25 (0, 0))) := ⟨hg.out⟩
                clear r0 r1 r2 rn hb hk hg
                generalize wr.drew = wq at *
                have r1 : wq.cell? ⟨w.heap.size, 1, none⟩ = some (.slice (some ad1) l0_1.length c0_1) := (blk_cell G4.out 1).trans rfl
                have r0 := pw_cell_below K4.out G0.out
                have rn := pw_cell_below K4.out HNM.out
                have hws : (headT a0_0 l0_1 ++ roundsT l0_1 l0_2 i).length + (⟨#[32, 124, 32]⟩ : ByteArray).size < 140737488355000 := by
                  have e3 : ByteArray.size ⟨#[32, 124, 32]⟩ = 3 := rfl
                  rw [List.length_append, e3]
                  omega
                have HWS := Aside0.mk (sh_ws w.heap.size b1 _ ⟨#[32, 124, 32]⟩ wq H4.out hws K4.out.size)
                have hgb' : some w.heap.size ≠ some b1 := by simpa using hgb
                go_wp2_with (first
                  | (go_at_call 19; refine HWS.out.mono ?_; rintro e w2 ⟨rfl, h2, k2⟩; have HK3 : Aside0 (Below w.heap.size w w2) := ⟨K4.out.trans k2.1⟩; have HG3 := Aside0.mk (k2.2 _ _ G4.out hgb' (by simp)); have H5 := Aside0.mk h2; clear h2 k2; have HRL := HRLX.out w2 H5.out HK3.out HG3.out)
                  | (go_at_call 20; refine HRL.mono ?_; rintro e w3 ⟨rfl, h3, k3⟩; have HK5 : Aside0 (Below w.heap.size w w3) := ⟨HK3.out.trans k3.1⟩; have HG5 := Aside0.mk (k3.2 _ _ HG3.out hgb' (by simp)); have H6 := Aside0.mk h3; clear h3 k3; have z2 : w3.cell? ⟨w.heap.size, 2, none⟩ = some (.slice (some ad) l0_2.length c0_2) := (blk_cell HG5.out 2).trans rfl; have z0 := pw_cell_below HK5.out G0.out; have z3 := ZNX.out w3 HK5.out))
                go_region_held3 (fun w' => w'.cell? ⟨w.heap.size, 2, none⟩ = some (.slice (some ad) l0_2.length c0_2) ∧ w'.cell? (ad.add ((i + 1) * 2)) = some (.int .i64 hn) ∧ w'.cell? (ad.add (i * 2)) = some (.int .i64 X.f0)) (go_keep) (fail)
                have H7 : Aside0 (Bld w.heap.size b1 _ w3.drew) := ⟨H6.out.drew⟩
                have K7 : Aside0 (Below w.heap.size w w3.drew) := ⟨HK5.out.drew⟩
                have G7 : Aside0 (w3.drew.heap[w.heap.size]? = some (.cells #[.int .i64 a0_0, .slice (some ad1) l0_1.length c0_1, .slice (some ad) l0_2.length c0_2] 25 (0, 0))) := ⟨HG5.out⟩
                clear z0 z2 z3 H6 HK5 HG5
                generalize w3.drew = wf at *
                go_wp2
                go_roundw
                case rel => exact ⟨i + 1, by omega, by go_num, ⟨by rw [HRT.out, HT1.out, HB1.out]; simpa using H7.out⟩, K7, G7⟩
                case measure => simp [intOf]; omega
              · skip
                have HRLX := Aside0.mk (HRLXX.out [32, 124, 32] (by decide))
                have t5 : ((i : Int) + 1 == (l0_2.length : Int)) = false := beq_eq_false_iff_ne.2 (by omega)
                have t5' : ¬ ((i : Int) + 1 = (l0_2.length : Int)) := by omega
                have hi1 : i + 1 < l0_2.length := by omega
                have hi11 : (0 : Int) ≤ (i : Int) + 1 := by omega
                have wi1 : IntKind.i64.wrap ((i : Int) + 1) = (i : Int) + 1 := by rw [i64_w]; unfold wrap64; omega
                have hi12 : (i : Int) + 1 < (l0_2.length : Int) := by omega
                have ZNX : Aside0 (∀ W, Below w.heap.size w W → W.cell? (ad.add ((i + 1) * 2)) = some (.int .i64 hn)) := ⟨fun W h => pw_cell_below h (GN.out hi1)⟩
                have HB1 : Aside0 (botT l0_2 i = [59, 10]) := ⟨by rw [HBOT.out, if_pos (.inr hnx)]⟩
                have t6 : (hn == X.f0) = false := beq_eq_false_iff_ne.2 hnx
                have t7 : (hn != X.f0) = true := bne_iff_ne.2 hnx
                clear hz HTOP HBOT
                clear hnx
                clear hpx
                go_wp2
                go_region_held3 (fun w' => w'.cell? ⟨w.heap.size, 2, none⟩ = some (.slice (some ad) l0_2.length c0_2) ∧ w'.cell? (ad.add ((i - 1) * 2)) = some (.int .i64 hp) ∧ w'.cell? (ad.add (i * 2)) = some (.int .i64 X.f0)) (go_keep) (fail)
                have H4 : Aside0 (Bld w.heap.size b1 (headT a0_0 l0_1 ++ roundsT l0_1 l0_2 i) wr.drew) := ⟨hb.out.drew⟩
                have K4 : Aside0 (Below w.heap.size w wr.drew) := ⟨hk.out.drew⟩
                have G4 : Aside0 (wr.drew.heap[w.heap.size]? = some (.cells #[.int .i64 a0_0, .slice (some ad1) l0_1.length c0_1, .slice (some ad) l0_2.length c0_2] 25 (0, 0))) := ⟨hg.out⟩
                clear r0 r1 r2 rn hb hk hg
                generalize wr.drew = wq at *
                have r1 : wq.cell? ⟨w.heap.size, 1, none⟩ = some (.slice (some ad1) l0_1.length c0_1) := (blk_cell G4.out 1).trans rfl
                have r0 := pw_cell_below K4.out G0.out
                have rn := pw_cell_below K4.out HNM.out
                have hws : (headT a0_0 l0_1 ++ roundsT l0_1 l0_2 i).length + (⟨#[32, 124, 32]⟩ : ByteArray).size < 140737488355000 := by
                  have e3 : ByteArray.size ⟨#[32, 124, 32]⟩ = 3 := rfl
                  rw [List.length_append, e3]
                  omega
                have HWS := Aside0.mk (sh_ws w.heap.size b1 _ ⟨#[32, 124, 32]⟩ wq H4.out hws K4.out.size)
                have hgb' : some w.heap.size ≠ some b1 := by simpa using hgb
                go_wp2_with (first
                  | (go_at_call 19; refine HWS.out.mono ?_; rintro e w2 ⟨rfl, h2, k2⟩; have HK3 : Aside0 (Below w.heap.size w w2) := ⟨K4.out.trans k2.1⟩; have HG3 := Aside0.mk (k2.2 _ _ G4.out hgb' (by simp)); have H5 := Aside0.mk h2; clear h2 k2; have HRL := HRLX.out w2 H5.out HK3.out HG3.out)
                  | (go_at_call 20; refine HRL.mono ?_; rintro e w3 ⟨rfl, h3, k3⟩; have HK5 : Aside0 (Below w.heap.size w w3) := ⟨HK3.out.trans k3.1⟩; have HG5 := Aside0.mk (k3.2 _ _ HG3.out hgb' (by simp)); have H6 := Aside0.mk h3; clear h3 k3; have z2 : w3.cell? ⟨w.heap.size, 2, none⟩ = some (.slice (some ad) l0_2.length c0_2) := (blk_cell HG5.out 2).trans rfl; have z0 := pw_cell_below HK5.out G0.out; have z3 := ZNX.out w3 HK5.out))
                go_region_held3 (fun w' => w'.cell? ⟨w.heap.size, 2, none⟩ = some (.slice (some ad) l0_2.length c0_2) ∧ w'.cell? (ad.add ((i + 1) * 2)) = some (.int .i64 hn) ∧ w'.cell? (ad.add (i * 2)) = some (.int .i64 X.f0)) (go_keep) (fail)
                have H7 : Aside0 (Bld w.heap.size b1 _ w3.drew) := ⟨H6.out.drew⟩
                have K7 : Aside0 (Below w.heap.size w w3.drew) := ⟨HK5.out.drew⟩
                have G7 : Aside0 (w3.drew.heap[w.heap.size]? = some (.cells #[.int .i64 a0_0, .slice (some ad1) l0_1.length c0_1, .slice (some ad) l0_2.length c0_2] 25 (0, 0))) := ⟨HG5.out⟩
                clear z0 z2 z3 H6 HK5 HG5
                generalize w3.drew = wf at *
                have hwz := Nat.lt_of_lt_of_le (Nat.add_lt_add_right (HLEN.out [32, 124, 32] (by decide)) (⟨#[59, 10]⟩ : ByteArray).size) (show 1000000000 + 2 ≤ 140737488355000 by decide)
                have HWZ := Aside0.mk (sh_ws w.heap.size b1 _ ⟨#[59, 10]⟩ wf H7.out hwz K7.out.size)
                go_wp2_with (first
                  | (go_at_call 19; refine HWZ.out.mono ?_; rintro e w5 ⟨rfl, h5, k5⟩))
                go_roundw
                case rel => exact ⟨i + 1, by omega, by go_num, ⟨by rw [HRT.out, HT1.out, HB1.out]; simpa using h5⟩, ⟨K7.out.trans k5.1⟩, ⟨k5.2 _ _ G7.out hgb' (by simp)⟩⟩
                case measure => simp [intOf]; omega
          · have HT1 : Aside0 (topT l0_1 l0_2 i = (nmAt l0_1 X.f0).data.toList ++ [32, 61, 32]) := ⟨by rw [HTOP.out, if_pos (.inr hpx)]⟩
            have htl : (topT l0_1 l0_2 i).length = (nmAt l0_1 X.f0).size + 3 := by rw [HT1.out, List.length_append]; rfl
            have t1 : (hp == X.f0) = false := beq_eq_false_iff_ne.2 hpx
            have t2 : (hp != X.f0) = true := bne_iff_ne.2 hpx
            by_cases hl1 : i + 1 = l0_2.length
            · skip
              have HRLX := Aside0.mk (HRLXX.out ((nmAt l0_1 X.f0).data.toList ++ [32, 61, 32]) hTN)
              have HB1 : Aside0 (botT l0_2 i = [59, 10]) := ⟨by rw [HBOT.out, if_pos (.inl hl1)]⟩
              have t5 : ((i : Int) + 1 == (l0_2.length : Int)) = true := beq_iff_eq.2 (by omega)
              have ZNX : Aside0 (∀ W, Below w.heap.size w W → True) := ⟨fun _ _ => trivial⟩
              clear hz HTOP HBOT
              clear hl1
              clear hpx
              go_wp2
              go_region_held3 (fun w' => w'.cell? ⟨w.heap.size, 2, none⟩ = some (.slice (some ad) l0_2.length c0_2) ∧ w'.cell? (ad.add ((i - 1) * 2)) = some (.int .i64 hp) ∧ w'.cell? (ad.add (i * 2)) = some (.int .i64 X.f0)) (go_keep) (fail)
              go_wp2
              have H4 : Aside0 (Bld w.heap.size b1 (headT a0_0 l0_1 ++ roundsT l0_1 l0_2 i) wr.drew) := ⟨hb.out.drew⟩
              have K4 : Aside0 (Below w.heap.size w wr.drew) := ⟨hk.out.drew⟩
              have G4 : Aside0 (wr.drew.heap[w.heap.size]? = some (.cells #[.int .i64 a0_0, .slice (some ad1) l0_1.length c0_1, .slice (some ad) l0_2.length c0_2] 25 (0, 0))) := ⟨hg.out⟩
              clear r0 r1 r2 rn hb hk hg
              generalize wr.drew = wq at *
              have r1 : wq.cell? ⟨w.heap.size, 1, none⟩ = some (.slice (some ad1) l0_1.length c0_1) := (blk_cell G4.out 1).trans rfl
              have r0 := pw_cell_below K4.out G0.out
              have rn := pw_cell_below K4.out HNM.out
              have hws : (headT a0_0 l0_1 ++ roundsT l0_1 l0_2 i).length + (nmAt l0_1 X.f0 ++ ⟨#[32, 61, 32]⟩ : ByteArray).size < 140737488355000 := by
                have e3 : ByteArray.size ⟨#[32, 61, 32]⟩ = 3 := rfl
                rw [List.length_append, ByteArray.size_append, e3]
                omega
              have HWS := Aside0.mk (sh_ws w.heap.size b1 _ (nmAt l0_1 X.f0 ++ ⟨#[32, 61, 32]⟩) wq.drew H4.out.drew hws K4.out.drew.size)
              have hgb' : some w.heap.size ≠ some b1 := by simpa using hgb
              have hc1 : ¬ (9223372036854775807 : Int) < ((nmAt l0_1 X.f0).size : Int) + 3 := by omega
              have hc2 : ¬ (9223372036854775804 : Int) < ((nmAt l0_1 X.f0).size : Int) := by omega
              have hc3 : ¬ 9223372036854775804 < (nmAt l0_1 X.f0).size := by omega
              have hc4 : ¬ 9223372036854775807 < (nmAt l0_1 X.f0).size + 3 := by omega
              have hc5 : ¬ (9223372036854775807 : Int) < (((nmAt l0_1 X.f0).size + 3 : Nat) : Int) := by omega
              have hc6 : ¬ (IntKind.i64.max : Int) < ((nmAt l0_1 X.f0).size : Int) + 3 := hc1
              have hc7 : ¬ (IntKind.i64.max : Int) < (((nmAt l0_1 X.f0).size + (⟨#[32, 61, 32]⟩ : ByteArray).size : Nat) : Int) := hc5
              go_region_held3 (fun w' => w'.cell? ⟨w.heap.size, 1, none⟩ = some (.slice (some ad1) l0_1.length c0_1) ∧ w'.cell? (ad.add (i * 2)) = some (.int .i64 X.f0) ∧ w'.cell? (ad1.add X.f0.toNat) = some (.string (nmAt l0_1 X.f0))) (first | go_keep | (exact ⟨(blk_cell HG3.out 1).trans rfl, pw_cell_below HK3.out G0.out, pw_cell_below HK3.out HNM.out⟩))
                ((go_at_call 19; refine HWS.out.mono ?_; rintro e w2 ⟨rfl, h2, k2⟩; have HK3 : Aside0 (Below w.heap.size w w2) := ⟨K4.out.trans k2.undrew.1⟩; have HG3 := Aside0.mk (k2.undrew.2 _ _ G4.out hgb' (by simp)); have H5 := Aside0.mk h2; clear h2 k2))
              go_wp2_with (first
                | (go_at_call 20; refine (HRLX.out w2 H5.out HK3.out HG3.out).mono ?_; rintro e w3 ⟨rfl, h3, k3⟩; have HK5 : Aside0 (Below w.heap.size w w3) := ⟨HK3.out.trans k3.1⟩; have HG5 := Aside0.mk (k3.2 _ _ HG3.out hgb' (by simp)); have H6 := Aside0.mk h3; clear h3 k3; have z2 : w3.cell? ⟨w.heap.size, 2, none⟩ = some (.slice (some ad) l0_2.length c0_2) := (blk_cell HG5.out 2).trans rfl; have z0 := pw_cell_below HK5.out G0.out; have z3 := ZNX.out w3 HK5.out))
              go_region
              have H7 : Aside0 (Bld w.heap.size b1 _ w3.drew) := ⟨H6.out.drew⟩
              have K7 : Aside0 (Below w.heap.size w w3.drew) := ⟨HK5.out.drew⟩
              have G7 : Aside0 (w3.drew.heap[w.heap.size]? = some (.cells #[.int .i64 a0_0, .slice (some ad1) l0_1.length c0_1, .slice (some ad) l0_2.length c0_2] 25 (0, 0))) := ⟨HG5.out⟩
              clear z0 z2 z3 H6 HK5 HG5
              generalize w3.drew = wf at *
              have hwz := Nat.lt_of_lt_of_le (Nat.add_lt_add_right (HLEN.out ((nmAt l0_1 X.f0).data.toList ++ [32, 61, 32]) hTN) (⟨#[59, 10]⟩ : ByteArray).size) (show 1000000000 + 2 ≤ 140737488355000 by decide)
              have HWZ := Aside0.mk (sh_ws w.heap.size b1 _ ⟨#[59, 10]⟩ wf H7.out hwz K7.out.size)
              go_wp2_with (first
                | (go_at_call 19; refine HWZ.out.mono ?_; rintro e w5 ⟨rfl, h5, k5⟩))
              go_roundw
              case rel => exact ⟨i + 1, by omega, by go_num, ⟨by rw [HRT.out, HT1.out, HB1.out]; simpa using h5⟩, ⟨K7.out.trans k5.1⟩, ⟨k5.2 _ _ G7.out hgb' (by simp)⟩⟩
              case measure => simp [intOf]; omega
            · by_cases hnx : hn = X.f0
              · skip
                have HRLX := Aside0.mk (HRLXX.out ((nmAt l0_1 X.f0).data.toList ++ [32, 61, 32]) hTN)
                have t5 : ((i : Int) + 1 == (l0_2.length : Int)) = false := beq_eq_false_iff_ne.2 (by omega)
                have t5' : ¬ ((i : Int) + 1 = (l0_2.length : Int)) := by omega
                have hi1 : i + 1 < l0_2.length := by omega
                have hi11 : (0 : Int) ≤ (i : Int) + 1 := by omega
                have wi1 : IntKind.i64.wrap ((i : Int) + 1) = (i : Int) + 1 := by rw [i64_w]; unfold wrap64; omega
                have hi12 : (i : Int) + 1 < (l0_2.length : Int) := by omega
                have ZNX : Aside0 (∀ W, Below w.heap.size w W → W.cell? (ad.add ((i + 1) * 2)) = some (.int .i64 hn)) := ⟨fun W h => pw_cell_below h (GN.out hi1)⟩
                have HB1 : Aside0 (botT l0_2 i = []) := ⟨by rw [HBOT.out, if_neg (fun h => h.elim hl1 (fun q => q hnx))]⟩
                have t6 : (hn == X.f0) = true := beq_iff_eq.2 hnx
                have t7 : (hn != X.f0) = false := bne_eq_false_iff_eq.2 hnx
                clear hz HTOP HBOT
                clear hnx
                clear hpx
                go_wp2
                go_region_held3 (fun w' => w'.cell? ⟨w.heap.size, 2, none⟩ = some (.slice (some ad) l0_2.length c0_2) ∧ w'.cell? (ad.add ((i - 1) * 2)) = some (.int .i64 hp) ∧ w'.cell? (ad.add (i * 2)) = some (.int .i64 X.f0)) (go_keep) (fail)
                go_wp2
                have H4 : Aside0 (Bld w.heap.size b1 (headT a0_0 l0_1 ++ roundsT l0_1 l0_2 i) wr.drew) := ⟨hb.out.drew⟩
                have K4 : Aside0 (Below w.heap.size w wr.drew) := ⟨hk.out.drew⟩
                have G4 : Aside0 (wr.drew.heap[w.heap.size]? = some (.cells #[.int .i64 a0_0, .slice (some ad1) l0_1.length c0_1, .slice (some ad) l0_2.length c0_2] 25 (0, 0))) := ⟨hg.out⟩
                clear r0 r1 r2 rn hb hk hg
                generalize wr.drew = wq at *
                have r1 : wq.cell? ⟨w.heap.size, 1, none⟩ = some (.slice (some ad1) l0_1.length c0_1) := (blk_cell G4.out 1).trans rfl
                have r0 := pw_cell_below K4.out G0.out
                have rn := pw_cell_below K4.out HNM.out
                have hws : (headT a0_0 l0_1 ++ roundsT l0_1 l0_2 i).length + (nmAt l0_1 X.f0 ++ ⟨#[32, 61, 32]⟩ : ByteArray).size < 140737488355000 := by
                  have e3 : ByteArray.size ⟨#[32, 61, 32]⟩ = 3 := rfl
                  rw [List.length_append, ByteArray.size_append, e3]
                  omega
                have HWS := Aside0.mk (sh_ws w.heap.size b1 _ (nmAt l0_1 X.f0 ++ ⟨#[32, 61, 32]⟩) wq.drew H4.out.drew hws K4.out.drew.size)
                have hgb' : some w.heap.size ≠ some b1 := by simpa using hgb
                have hc1 : ¬ (9223372036854775807 : Int) < ((nmAt l0_1 X.f0).size : Int) + 3 := by omega
                have hc2 : ¬ (9223372036854775804 : Int) < ((nmAt l0_1 X.f0).size : Int) := by omega
                have hc3 : ¬ 9223372036854775804 < (nmAt l0_1 X.f0).size := by omega
                have hc4 : ¬ 9223372036854775807 < (nmAt l0_1 X.f0).size + 3 := by omega
                have hc5 : ¬ (9223372036854775807 : Int) < (((nmAt l0_1 X.f0).size + 3 : Nat) : Int) := by omega
                have hc6 : ¬ (IntKind.i64.max : Int) < ((nmAt l0_1 X.f0).size : Int) + 3 := hc1
                have hc7 : ¬ (IntKind.i64.max : Int) < (((nmAt l0_1 X.f0).size + (⟨#[32, 61, 32]⟩ : ByteArray).size : Nat) : Int) := hc5
                go_region_held3 (fun w' => w'.cell? ⟨w.heap.size, 1, none⟩ = some (.slice (some ad1) l0_1.length c0_1) ∧ w'.cell? (ad.add (i * 2)) = some (.int .i64 X.f0) ∧ w'.cell? (ad1.add X.f0.toNat) = some (.string (nmAt l0_1 X.f0))) (first | go_keep | (exact ⟨(blk_cell HG3.out 1).trans rfl, pw_cell_below HK3.out G0.out, pw_cell_below HK3.out HNM.out⟩))
                  ((go_at_call 19; refine HWS.out.mono ?_; rintro e w2 ⟨rfl, h2, k2⟩; have HK3 : Aside0 (Below w.heap.size w w2) := ⟨K4.out.trans k2.undrew.1⟩; have HG3 := Aside0.mk (k2.undrew.2 _ _ G4.out hgb' (by simp)); have H5 := Aside0.mk h2; clear h2 k2))
                go_wp2_with (first
                  | (go_at_call 20; refine (HRLX.out w2 H5.out HK3.out HG3.out).mono ?_; rintro e w3 ⟨rfl, h3, k3⟩; have HK5 : Aside0 (Below w.heap.size w w3) := ⟨HK3.out.trans k3.1⟩; have HG5 := Aside0.mk (k3.2 _ _ HG3.out hgb' (by simp)); have H6 := Aside0.mk h3; clear h3 k3; have z2 : w3.cell? ⟨w.heap.size, 2, none⟩ = some (.slice (some ad) l0_2.length c0_2) := (blk_cell HG5.out 2).trans rfl; have z0 := pw_cell_below HK5.out G0.out; have z3 := ZNX.out w3 HK5.out))
                go_region_held3 (fun w' => w'.cell? ⟨w.heap.size, 2, none⟩ = some (.slice (some ad) l0_2.length c0_2) ∧ w'.cell? (ad.add ((i + 1) * 2)) = some (.int .i64 hn) ∧ w'.cell? (ad.add (i * 2)) = some (.int .i64 X.f0)) (go_keep) (fail)
                have H7 : Aside0 (Bld w.heap.size b1 _ w3.drew) := ⟨H6.out.drew⟩
                have K7 : Aside0 (Below w.heap.size w w3.drew) := ⟨HK5.out.drew⟩
                have G7 : Aside0 (w3.drew.heap[w.heap.size]? = some (.cells #[.int .i64 a0_0, .slice (some ad1) l0_1.length c0_1, .slice (some ad) l0_2.length c0_2] 25 (0, 0))) := ⟨HG5.out⟩
                clear z0 z2 z3 H6 HK5 HG5
                generalize w3.drew = wf at *
                go_wp2
                go_roundw
                case rel => exact ⟨i + 1, by omega, by go_num, ⟨by rw [HRT.out, HT1.out, HB1.out]; simpa using H7.out⟩, K7, G7⟩
                case measure => simp [intOf]; omega
              · skip
                have HRLX := Aside0.mk (HRLXX.out ((nmAt l0_1 X.f0).data.toList ++ [32, 61, 32]) hTN)
                have t5 : ((i : Int) + 1 == (l0_2.length : Int)) = false := beq_eq_false_iff_ne.2 (by omega)
                have t5' : ¬ ((i : Int) + 1 = (l0_2.length : Int)) := by omega
                have hi1 : i + 1 < l0_2.length := by omega
                have hi11 : (0 : Int) ≤ (i : Int) + 1 := by omega
                have wi1 : IntKind.i64.wrap ((i : Int) + 1) = (i : Int) + 1 := by rw [i64_w]; unfold wrap64; omega
                have hi12 : (i : Int) + 1 < (l0_2.length : Int) := by omega
                have ZNX : Aside0 (∀ W, Below w.heap.size w W → W.cell? (ad.add ((i + 1) * 2)) = some (.int .i64 hn)) := ⟨fun W h => pw_cell_below h (GN.out hi1)⟩
                have HB1 : Aside0 (botT l0_2 i = [59, 10]) := ⟨by rw [HBOT.out, if_pos (.inr hnx)]⟩
                have t6 : (hn == X.f0) = false := beq_eq_false_iff_ne.2 hnx
                have t7 : (hn != X.f0) = true := bne_iff_ne.2 hnx
                clear hz HTOP HBOT
                clear hnx
                clear hpx
                go_wp2
                go_region_held3 (fun w' => w'.cell? ⟨w.heap.size, 2, none⟩ = some (.slice (some ad) l0_2.length c0_2) ∧ w'.cell? (ad.add ((i - 1) * 2)) = some (.int .i64 hp) ∧ w'.cell? (ad.add (i * 2)) = some (.int .i64 X.f0)) (go_keep) (fail)
                go_wp2
                have H4 : Aside0 (Bld w.heap.size b1 (headT a0_0 l0_1 ++ roundsT l0_1 l0_2 i) wr.drew) := ⟨hb.out.drew⟩
                have K4 : Aside0 (Below w.heap.size w wr.drew) := ⟨hk.out.drew⟩
                have G4 : Aside0 (wr.drew.heap[w.heap.size]? = some (.cells #[.int .i64 a0_0, .slice (some ad1) l0_1.length c0_1, .slice (some ad) l0_2.length c0_2] 25 (0, 0))) := ⟨hg.out⟩
                clear r0 r1 r2 rn hb hk hg
                generalize wr.drew = wq at *
                have r1 : wq.cell? ⟨w.heap.size, 1, none⟩ = some (.slice (some ad1) l0_1.length c0_1) := (blk_cell G4.out 1).trans rfl
                have r0 := pw_cell_below K4.out G0.out
                have rn := pw_cell_below K4.out HNM.out
                have hws : (headT a0_0 l0_1 ++ roundsT l0_1 l0_2 i).length + (nmAt l0_1 X.f0 ++ ⟨#[32, 61, 32]⟩ : ByteArray).size < 140737488355000 := by
                  have e3 : ByteArray.size ⟨#[32, 61, 32]⟩ = 3 := rfl
                  rw [List.length_append, ByteArray.size_append, e3]
                  omega
                have HWS := Aside0.mk (sh_ws w.heap.size b1 _ (nmAt l0_1 X.f0 ++ ⟨#[32, 61, 32]⟩) wq.drew H4.out.drew hws K4.out.drew.size)
                have hgb' : some w.heap.size ≠ some b1 := by simpa using hgb
                have hc1 : ¬ (9223372036854775807 : Int) < ((nmAt l0_1 X.f0).size : Int) + 3 := by omega
                have hc2 : ¬ (9223372036854775804 : Int) < ((nmAt l0_1 X.f0).size : Int) := by omega
                have hc3 : ¬ 9223372036854775804 < (nmAt l0_1 X.f0).size := by omega
                have hc4 : ¬ 9223372036854775807 < (nmAt l0_1 X.f0).size + 3 := by omega
                have hc5 : ¬ (9223372036854775807 : Int) < (((nmAt l0_1 X.f0).size + 3 : Nat) : Int) := by omega
                have hc6 : ¬ (IntKind.i64.max : Int) < ((nmAt l0_1 X.f0).size : Int) + 3 := hc1
                have hc7 : ¬ (IntKind.i64.max : Int) < (((nmAt l0_1 X.f0).size + (⟨#[32, 61, 32]⟩ : ByteArray).size : Nat) : Int) := hc5
                go_region_held3 (fun w' => w'.cell? ⟨w.heap.size, 1, none⟩ = some (.slice (some ad1) l0_1.length c0_1) ∧ w'.cell? (ad.add (i * 2)) = some (.int .i64 X.f0) ∧ w'.cell? (ad1.add X.f0.toNat) = some (.string (nmAt l0_1 X.f0))) (first | go_keep | (exact ⟨(blk_cell HG3.out 1).trans rfl, pw_cell_below HK3.out G0.out, pw_cell_below HK3.out HNM.out⟩))
                  ((go_at_call 19; refine HWS.out.mono ?_; rintro e w2 ⟨rfl, h2, k2⟩; have HK3 : Aside0 (Below w.heap.size w w2) := ⟨K4.out.trans k2.undrew.1⟩; have HG3 := Aside0.mk (k2.undrew.2 _ _ G4.out hgb' (by simp)); have H5 := Aside0.mk h2; clear h2 k2))
                go_wp2_with (first
                  | (go_at_call 20; refine (HRLX.out w2 H5.out HK3.out HG3.out).mono ?_; rintro e w3 ⟨rfl, h3, k3⟩; have HK5 : Aside0 (Below w.heap.size w w3) := ⟨HK3.out.trans k3.1⟩; have HG5 := Aside0.mk (k3.2 _ _ HG3.out hgb' (by simp)); have H6 := Aside0.mk h3; clear h3 k3; have z2 : w3.cell? ⟨w.heap.size, 2, none⟩ = some (.slice (some ad) l0_2.length c0_2) := (blk_cell HG5.out 2).trans rfl; have z0 := pw_cell_below HK5.out G0.out; have z3 := ZNX.out w3 HK5.out))
                go_region_held3 (fun w' => w'.cell? ⟨w.heap.size, 2, none⟩ = some (.slice (some ad) l0_2.length c0_2) ∧ w'.cell? (ad.add ((i + 1) * 2)) = some (.int .i64 hn) ∧ w'.cell? (ad.add (i * 2)) = some (.int .i64 X.f0)) (go_keep) (fail)
                have H7 : Aside0 (Bld w.heap.size b1 _ w3.drew) := ⟨H6.out.drew⟩
                have K7 : Aside0 (Below w.heap.size w w3.drew) := ⟨HK5.out.drew⟩
                have G7 : Aside0 (w3.drew.heap[w.heap.size]? = some (.cells #[.int .i64 a0_0, .slice (some ad1) l0_1.length c0_1, .slice (some ad) l0_2.length c0_2] 25 (0, 0))) := ⟨HG5.out⟩
                clear z0 z2 z3 H6 HK5 HG5
                generalize w3.drew = wf at *
                have hwz := Nat.lt_of_lt_of_le (Nat.add_lt_add_right (HLEN.out ((nmAt l0_1 X.f0).data.toList ++ [32, 61, 32]) hTN) (⟨#[59, 10]⟩ : ByteArray).size) (show 1000000000 + 2 ≤ 140737488355000 by decide)
                have HWZ := Aside0.mk (sh_ws w.heap.size b1 _ ⟨#[59, 10]⟩ wf H7.out hwz K7.out.size)
                go_wp2_with (first
                  | (go_at_call 19; refine HWZ.out.mono ?_; rintro e w5 ⟨rfl, h5, k5⟩))
                go_roundw
                case rel => exact ⟨i + 1, by omega, by go_num, ⟨by rw [HRT.out, HT1.out, HB1.out]; simpa using h5⟩, ⟨K7.out.trans k5.1⟩, ⟨k5.2 _ _ G7.out hgb' (by simp)⟩⟩
                case measure => simp [intOf]; omega
      · obtain rfl : i = l0_2.length := by omega
        have HST := Aside0.mk (bString w.heap.size b1 _ wr hb.out hk.out.size)
        go_wp2_with (first
          | (go_at_call 21; refine HST.out.mono ?_; rintro e w2 ⟨rfl, k2⟩))
        go_ret2
        exact ⟨by rw [HR1.out.1, HR1.out.2]; rfl, hk.out.trans k2⟩


end Go.Proofs.Ytimmkmfcpfjgfaa.PSU
