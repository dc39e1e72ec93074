-- written by a program of the session's (wip/myprint.py) out of the translation
import Derived.Test.YtdjnpgigdchfkaaPBSx0
namespace Go.Proofs.Ytdjnpgigdchfkaa.PBS
open Go.RowKit Go.Proofs.YtdjnpgigdchfkaaW.PrintWords Go.Proofs.YtdjnpgigdchfkaaW.PrintLast Go.Proofs.YtdjnpgigdchfkaaW.PrintMore
attribute [local go_sem] max2_int min2_int max_two min_two max_three min_three max_four min_four   -- for this text's walks alone
set_option linter.unusedVariables false
set_option linter.unusedSimpArgs false

/-! ### templelaw0_SameTexts: function 32 -/
def templelaw0_SameTexts.f (l0 l1 : List ByteArray) : Option (Bool) := if l0 = l1 then some true else none
theorem templelaw0_SameTexts.self (l : List ByteArray) : templelaw0_SameTexts.f l l = some true := if_pos rfl
set_option maxHeartbeats 8000000 in
set_option maxRecDepth 100000 in
theorem templelaw0_SameTexts.calls (A0 : Option Addr) (c0 : Nat) (l0 : List ByteArray) (A1 : Option Addr) (c1 : Nat) (l1 : List ByteArray) (r : Bool) (w : World) (hr0 : Kd.C Kd.string w A0 l0.length l0) (hc0 : l0.length ≤ c0) (hr1 : Kd.C Kd.string w A1 l1.length l1) (hc1 : l1.length ≤ c1) (h : templelaw0_SameTexts.f l0 l1 = some r) :
  Calls Try.prog 32 #[.slice A0 l0.length c0, .slice A1 l1.length c1] w fun e w' => e = .returned (.bool r) ∧ Drawn0 w w' := by
 unfold templelaw0_SameTexts.f at h
 by_cases e : l0 = l1
 case neg => rw [if_neg e] at h; cases h
 rw [if_pos e] at h
 obtain rfl := Option.some.inj h; subst e
 have hmax := Kd.C_max hr0
 have H0 := Aside0.mk hr0; have H1 := Aside0.mk hr1; clear h hr0 hr1
 go_enter Try.func32, Try.ntmps32
 go_wp2
 go_loopw [5] (fun v wr => ∃ i : Nat, i ≤ l0.length ∧ v = .int .i64 i ∧ Drawn0 w wr) (fun v _ => l0.length - (intOf v).toNat)
 case atStart => exact ⟨0, by omega, rfl, Drawn0.refl _⟩
 case round =>
  obtain ⟨i, hi, rfl, ⟨m1, rfl⟩⟩ := hrel
  by_cases hlt : i < l0.length
  ·obtain ⟨a0, e0, x0⟩ := Kd.at_string H0.out (i : Int) (by omega) (by omega); obtain ⟨a1, e1, x1⟩ := Kd.at_string H1.out (i : Int) (by omega) (by omega); cases e0; cases e1
   rw [Int.toNat_natCast] at x0 x1
   go_wp2
   repeat (go_quiet (fail); try go_wp2)
   go_roundw
   case rel => exact ⟨i + 1, by omega, by go_num, by repeat (first | exact Drawn0.refl _ | apply Drawn0.step)⟩
   case measure => simp [intOf]; omega
  ·obtain rfl : i = l0.length := by omega
   go_wp2; go_ret
   exact ⟨rfl, Drawn0.step (Drawn0.refl _) _⟩


/-! ### templelaw0_SameSymbols: function 42 -/
theorem eqH56 (d : Nat) (w : World) (x0 y0 : Int) (x1 y1 : Int) (x2 y2 : Int) :
  (Op.equalIn (d + 2) 56 (.agg #[.int .i64 x0, .int .i64 x1, .int .i64 x2]) (.agg #[.int .i64 y0, .int .i64 y1, .int .i64 y2])).run Try.prog w = .ok (x0 == y0 && (x1 == y1 && (x2 == y2))) w := by
 refine eqA_of Try.underlying56 (by kernel_rfl) ?_
 refine eqf_cons (by rfl) (by go_simp; rfl) (by go_simp; rfl) (by go_simp) ?_
 refine eqf_cons (by rfl) (by go_simp; rfl) (by go_simp; rfl) (by go_simp) ?_
 exact eqf_last (by rfl) (by go_simp; rfl) (by go_simp; rfl) (by go_simp)
attribute [local go_sem high] eqH56
instance decS56 : DecidableEq S56 := fun ⟨a0, a1, a2⟩ ⟨b0, b1, b2⟩ => decidable_of_iff (a0 = b0 ∧ a1 = b1 ∧ a2 = b2) (by simp)
def templelaw0_SameSymbols.f (l0 l1 : List S56) : Option (Bool) := if l0 = l1 then some true else none
theorem templelaw0_SameSymbols.self (l : List S56) : templelaw0_SameSymbols.f l l = some true := if_pos rfl
set_option maxHeartbeats 8000000 in
set_option maxRecDepth 100000 in
theorem templelaw0_SameSymbols.calls (A0 : Option Addr) (c0 : Nat) (l0 : List (S56)) (A1 : Option Addr) (c1 : Nat) (l1 : List (S56)) (r : Bool) (w : World) (hr0 : Kd.C k56 w A0 l0.length l0) (hc0 : l0.length ≤ c0) (hr1 : Kd.C k56 w A1 l1.length l1) (hc1 : l1.length ≤ c1) (h : templelaw0_SameSymbols.f l0 l1 = some r) :
  Calls Try.prog 42 #[.slice A0 l0.length c0, .slice A1 l1.length c1] w fun e w' => e = .returned (.bool r) ∧ Drawn0 w w' := by
 unfold templelaw0_SameSymbols.f at h
 by_cases e : l0 = l1
 case neg => rw [if_neg e] at h; cases h
 rw [if_pos e] at h
 obtain rfl := Option.some.inj h; subst e; have hu := Try.underlying56
 have hmax := Kd.C_max hr0
 have H0 := Aside0.mk hr0; have H1 := Aside0.mk hr1; clear h hr0 hr1
 go_enter Try.func42, Try.ntmps42
 go_wp2
 go_loopw [5] (fun v wr => ∃ i : Nat, i ≤ l0.length ∧ v = .int .i64 i ∧ Drawn0 w wr) (fun v _ => l0.length - (intOf v).toNat)
 case atStart => exact ⟨0, by omega, rfl, Drawn0.refl _⟩
 case round =>
  obtain ⟨i, hi, rfl, ⟨m1, rfl⟩⟩ := hrel
  by_cases hlt : i < l0.length
  ·obtain ⟨a0, e0, x0, x1, x2⟩ := at_T56 H0.out (i : Int) (by omega) (by omega); obtain ⟨a1, e1, y0, y1, y2⟩ := at_T56 H1.out (i : Int) (by omega) (by omega); cases e0; cases e1
   rw [Int.toNat_natCast] at x0 x1 x2 y0 y1 y2
   go_wp2
   repeat (go_quiet (fail); try go_wp2)
   go_roundw
   case rel => exact ⟨i + 1, by omega, by go_num, by repeat (first | exact Drawn0.refl _ | apply Drawn0.step)⟩
   case measure => simp [intOf]; omega
  ·obtain rfl : i = l0.length := by omega
   go_wp2; go_ret
   exact ⟨rfl, Drawn0.step (Drawn0.refl _) _⟩


/-! ### templelaw0_SameRule: function 33 -/
instance decS54 : DecidableEq S54 := fun ⟨a0, a1⟩ ⟨b0, b1⟩ => decidable_of_iff (a0 = b0 ∧ a1 = b1) (by simp)
instance decS51 : DecidableEq S51 := fun ⟨a0, a1⟩ ⟨b0, b1⟩ => decidable_of_iff (a0 = b0 ∧ a1 = b1) (by simp)
def templelaw0_SameRule.f (a0 : Int) (l0 : List S54) (a1 : Int) (l1 : List S54) : Option (Bool) := if a0 = a1 ∧ l0 = l1 then some true else none
theorem templelaw0_SameRule.self (a : Int) (l : List S54) : templelaw0_SameRule.f a l a l = some true := if_pos ⟨rfl, rfl⟩
set_option maxHeartbeats 8000000 in
set_option maxRecDepth 100000 in
theorem templelaw0_SameRule.calls (a0_0 : Int) (A0_1 : Option Addr) (c0_1 : Nat) (l0_1 : List (S54)) (a1_0 : Int) (A1_1 : Option Addr) (c1_1 : Nat) (l1_1 : List (S54)) (r : Bool) (w : World) (hr0_1 : Kd.C k54 w A0_1 l0_1.length l0_1) (hc0_1 : l0_1.length ≤ c0_1) (hr1_1 : Kd.C k54 w A1_1 l1_1.length l1_1) (hc1_1 : l1_1.length ≤ c1_1) (h : templelaw0_SameRule.f a0_0 l0_1 a1_0 l1_1 = some r) :
  Calls Try.prog 33 #[.agg #[.int .i64 a0_0, .slice A0_1 l0_1.length c0_1], .agg #[.int .i64 a1_0, .slice A1_1 l1_1.length c1_1]] w fun e w' => e = .returned (.bool r) ∧ Below w.heap.size w w' := by
 unfold templelaw0_SameRule.f at h
 by_cases e : a0_0 = a1_0 ∧ l0_1 = l1_1
 case neg => rw [if_neg e] at h; cases h
 rw [if_pos e] at h
 obtain rfl := Option.some.inj h; obtain ⟨rfl, rfl⟩ := e
 have hmax := Kd.C_max hr0_1
 have H0 := Aside0.mk hr0_1; have H1 := Aside0.mk hr1_1; clear h hr0_1 hr1_1
 go_enter Try.func33, Try.ntmps33
 go_upto_region 1 with (fail)
 have hE := below_alloc (below_alloc (Below.refl w.heap.size w) (.cells #[.int .i64 a0_0, .slice A0_1 l0_1.length c0_1] 51)) (.cells #[.int .i64 a0_0, .slice A1_1 l0_1.length c1_1] 51)
 have hB2 := blk_alloc (blk_new w (.cells #[.int .i64 a0_0, .slice A0_1 l0_1.length c0_1] 51)) (.cells #[.int .i64 a0_0, .slice A1_1 l0_1.length c1_1] 51)
 have hB3 := blk_new (w.alloc (.cells #[.int .i64 a0_0, .slice A0_1 l0_1.length c0_1] 51)) (.cells #[.int .i64 a0_0, .slice A1_1 l0_1.length c1_1] 51)
 rw [show (w.alloc (.cells #[.int .i64 a0_0, .slice A0_1 l0_1.length c0_1] 51)).heap.size = w.heap.size + 1 from by simp] at hB3
 have E0 := Aside0.mk hE; clear hE
 generalize ((w.alloc (.cells #[.int .i64 a0_0, .slice A0_1 l0_1.length c0_1] 51)).alloc (.cells #[.int .i64 a0_0, .slice A1_1 l0_1.length c1_1] 51)) = w0 at *
 have k0 : w0.cell? ⟨w.heap.size, 0, none⟩ = some (.int .i64 a0_0) := (blk_cell hB2 0).trans rfl
 have k1 : w0.cell? ⟨w.heap.size, 1, none⟩ = some (.slice A0_1 l0_1.length c0_1) := (blk_cell hB2 1).trans rfl
 have k2 : w0.cell? ⟨w.heap.size + 1, 0, none⟩ = some (.int .i64 a0_0) := (blk_cell hB3 0).trans rfl
 have k3 : w0.cell? ⟨w.heap.size + 1, 1, none⟩ = some (.slice A1_1 l0_1.length c1_1) := (blk_cell hB3 1).trans rfl
 clear hB2 hB3; go_wp2
 go_loopw [5] (fun v wr => ∃ i : Nat, i ≤ l0_1.length ∧ v = .int .i64 i ∧ Drawn0 w0 wr) (fun v _ => l0_1.length - (intOf v).toNat)
 case atStart => exact ⟨0, by omega, rfl, by repeat (first | exact Drawn0.refl _ | apply Drawn0.step)⟩
 case round =>
  obtain ⟨i, hi, rfl, ⟨m1, rfl⟩⟩ := hrel
  by_cases hlt : i < l0_1.length
  ·obtain ⟨a0, A0, d0, e0, x0, x1, p0, q0⟩ := at_T54 H0.out (i : Int) (by omega) (by omega); obtain ⟨a1, A1, d1, e1, y0, y1, p1, q1⟩ := at_T54 H1.out (i : Int) (by omega) (by omega); cases e0; cases e1
   simp only [Int.toNat_natCast] at p0 q0 p1 q1 x0 y0 x1 y1
   have X0 := Aside0.mk (pw_cell_below E0.out x0); have Y0 := Aside0.mk (pw_cell_below E0.out y0)
   have X1 := Aside0.mk (pw_cell_below E0.out x1); have Y1 := Aside0.mk (pw_cell_below E0.out y1)
   clear x0 y0 x1 y1
   have x0 := X0.out; have y0 := Y0.out
   have x1 := X1.out; have y1 := Y1.out
   have HP := Aside0.mk (And.intro p0 (And.intro (Kd.C_below q0 E0.out) (And.intro p1 (Kd.C_below q1 E0.out))))
   clear p0 q0 p1 q1 X0 Y0 X1 Y1
   generalize rd_T54 l0_1 (i : Int) = z at *
   have hb : (z.f0 != z.f0) = false := by simp
   go_wp2
   repeat (go_quiet (first | (go_at_call 42; (with_reducible refine (templelaw0_SameSymbols.calls _ _ z.f1 _ _ z.f1 true _ ?side1 HP.out.1 ?side3 HP.out.2.2.1 (templelaw0_SameSymbols.self _)).mono ?_); (case side1 => exact zzc HP.out.2.1); (case side3 => exact zzc HP.out.2.2.2); rintro e w' ⟨rfl, ⟨nd, rfl⟩⟩; (try first | exact ⟨rfl, _, World.drewN_drewN _ _ _⟩ | exact ⟨rfl, _, Eq.trans (World.drewN_drewN _ _ _) (congrArg (World.drewN _) (Nat.add_assoc _ _ _))⟩))); try go_wp2)
   go_roundw
   case rel => exact ⟨i + 1, by omega, by go_num, by repeat (first | exact Drawn0.refl _ | apply Drawn0.step)⟩
   case measure => simp [intOf]; omega
  ·obtain rfl : i = l0_1.length := by omega
   go_wp2; go_ret
   exact ⟨rfl, E0.out.trans ((Drawn0.step (Drawn0.refl w0) m1).below.mono E0.out.size)⟩


/-! ### templelaw0_SameGrammar: function 13 -/
def sm13.T6 : Bool × List (List Nat × List Nat) := (true, [([], []), ([0], [0]), ([], []), ([1, 2], [1, 2]), ([3], [3]), ([], []), ([5], [5]), ([], []), ([6, 7], [6, 7]), ([8], [8]), ([4, 9], [4, 9]), ([10], [10])])
def sm13.B6 : List Nat := [0, 1, 0, 7, 15, 0, 32, 0, 224, 480, 1023, 2047]
theorem sm13.tab6 : rtab .any (opsOf Try.f13 6) = sm13.T6 := by kernel_rfl
theorem sm13.bits6 : waitsOk sm13.T6.2 sm13.B6 = true := by kernel_rfl
def templelaw0_SameGrammar.f (a0 : Int) (m0 : List ByteArray) (l0 : List S51) (a1 : Int) (m1 : List ByteArray) (l1 : List S51) : Option (Bool) := if a0 = a1 ∧ m0 = m1 ∧ l0 = l1 then some true else none
theorem templelaw0_SameGrammar.self (a : Int) (m : List ByteArray) (l : List S51) : templelaw0_SameGrammar.f a m l a m l = some true := if_pos ⟨rfl, rfl, rfl⟩
set_option maxHeartbeats 8000000 in
set_option maxRecDepth 100000 in
theorem templelaw0_SameGrammar.calls (a0_0 : Int) (A0_1 : Option Addr) (c0_1 : Nat) (l0_1 : List ByteArray) (A0_2 : Option Addr) (c0_2 : Nat) (l0_2 : List (S51)) (a1_0 : Int) (A1_1 : Option Addr) (c1_1 : Nat) (l1_1 : List ByteArray) (A1_2 : Option Addr) (c1_2 : Nat) (l1_2 : List (S51)) (r : Bool) (w : World) (hr0_1 : Kd.C Kd.string w A0_1 l0_1.length l0_1) (hc0_1 : l0_1.length ≤ c0_1) (hr0_2 : Kd.C k51 w A0_2 l0_2.length l0_2) (hc0_2 : l0_2.length ≤ c0_2) (hr1_1 : Kd.C Kd.string w A1_1 l1_1.length l1_1) (hc1_1 : l1_1.length ≤ c1_1) (hr1_2 : Kd.C k51 w A1_2 l1_2.length l1_2) (hc1_2 : l1_2.length ≤ c1_2) (h : templelaw0_SameGrammar.f a0_0 l0_1 l0_2 a1_0 l1_1 l1_2 = some r) :
  Calls Try.prog 13 #[.agg #[.int .i64 a0_0, .slice A0_1 l0_1.length c0_1, .slice A0_2 l0_2.length c0_2], .agg #[.int .i64 a1_0, .slice A1_1 l1_1.length c1_1, .slice A1_2 l1_2.length c1_2]] w fun e w' => e = .returned (.bool r) ∧ Below w.heap.size w w' := by
 unfold templelaw0_SameGrammar.f at h
 by_cases e : a0_0 = a1_0 ∧ l0_1 = l1_1 ∧ l0_2 = l1_2
 case neg => rw [if_neg e] at h; cases h
 rw [if_pos e] at h
 obtain rfl := Option.some.inj h; obtain ⟨rfl, rfl, rfl⟩ := e
 have hmax := Kd.C_max hr0_2
 have N0 := Aside0.mk hr0_1; have N1 := Aside0.mk hr1_1; have H0 := Aside0.mk hr0_2; have H1 := Aside0.mk hr1_2
 have HC := Aside0.mk (And.intro hc0_1 hc1_1)
 clear h hr0_1 hr1_1 hr0_2 hr1_2 hc0_1 hc1_1
 go_enter Try.func13, Try.ntmps13
 go_upto_region 1 with (fail)
 have hE := below_alloc (below_alloc (Below.refl w.heap.size w) (.cells #[.int .i64 a0_0, .slice A0_1 l0_1.length c0_1, .slice A0_2 l0_2.length c0_2] 28)) (.cells #[.int .i64 a0_0, .slice A1_1 l0_1.length c1_1, .slice A1_2 l0_2.length c1_2] 28)
 have hB2 := blk_alloc (blk_new w (.cells #[.int .i64 a0_0, .slice A0_1 l0_1.length c0_1, .slice A0_2 l0_2.length c0_2] 28)) (.cells #[.int .i64 a0_0, .slice A1_1 l0_1.length c1_1, .slice A1_2 l0_2.length c1_2] 28)
 have hB3 := blk_new (w.alloc (.cells #[.int .i64 a0_0, .slice A0_1 l0_1.length c0_1, .slice A0_2 l0_2.length c0_2] 28)) (.cells #[.int .i64 a0_0, .slice A1_1 l0_1.length c1_1, .slice A1_2 l0_2.length c1_2] 28)
 have hs : w.heap.size + 2 = ((w.alloc (.cells #[.int .i64 a0_0, .slice A0_1 l0_1.length c0_1, .slice A0_2 l0_2.length c0_2] 28)).alloc (.cells #[.int .i64 a0_0, .slice A1_1 l0_1.length c1_1, .slice A1_2 l0_2.length c1_2] 28)).heap.size := by simp
 rw [show (w.alloc (.cells #[.int .i64 a0_0, .slice A0_1 l0_1.length c0_1, .slice A0_2 l0_2.length c0_2] 28)).heap.size = w.heap.size + 1 from by simp] at hB3
 have E0 := Aside0.mk (And.intro hE (And.intro hB2 (And.intro hB3 hs)))
 clear hE
 generalize ((w.alloc (.cells #[.int .i64 a0_0, .slice A0_1 l0_1.length c0_1, .slice A0_2 l0_2.length c0_2] 28)).alloc (.cells #[.int .i64 a0_0, .slice A1_1 l0_1.length c1_1, .slice A1_2 l0_2.length c1_2] 28)) = w0 at *
 have k0 : w0.cell? ⟨w.heap.size, 0, none⟩ = some (.int .i64 a0_0) := (blk_cell hB2 0).trans rfl
 have k1 : w0.cell? ⟨w.heap.size, 1, none⟩ = some (.slice A0_1 l0_1.length c0_1) := (blk_cell hB2 1).trans rfl
 have k2 : w0.cell? ⟨w.heap.size, 2, none⟩ = some (.slice A0_2 l0_2.length c0_2) := (blk_cell hB2 2).trans rfl
 have j0 : w0.cell? ⟨w.heap.size + 1, 0, none⟩ = some (.int .i64 a0_0) := (blk_cell hB3 0).trans rfl
 have j1 : w0.cell? ⟨w.heap.size + 1, 1, none⟩ = some (.slice A1_1 l0_1.length c1_1) := (blk_cell hB3 1).trans rfl
 have j2 : w0.cell? ⟨w.heap.size + 1, 2, none⟩ = some (.slice A1_2 l0_2.length c1_2) := (blk_cell hB3 2).trans rfl
 clear hB2 hB3 hs
 go_wp2_with (first | (go_at_call 32; (with_reducible refine (templelaw0_SameTexts.calls _ _ l0_1 _ _ l0_1 true _ ?side1 HC.out.1 ?side3 HC.out.2 (templelaw0_SameTexts.self _)).mono ?_); (case side1 => exact zzc (Kd.C_below N0.out E0.out.1)); (case side3 => exact zzc (Kd.C_below N1.out E0.out.1)); rintro e w' ⟨rfl, ⟨nd, rfl⟩⟩))
 go_loopw [5] (fun v wr => ∃ i : Nat, i ≤ l0_2.length ∧ v = .int .i64 i ∧ Aside0 (Below w0.heap.size w0 wr)) (fun v _ => l0_2.length - (intOf v).toNat)
 case atStart => exact ⟨0, by omega, rfl, ⟨by repeat (first | exact Below.refl _ _ | apply pw_below_drewN | apply below_drew)⟩⟩
 case round =>
  obtain ⟨i, hi, rfl, hBw⟩ := hrel; clear k0 j0 k1 j1 k2 j2
  have kk : ∀ w', Below w0.heap.size w0 w' → w'.cell? ⟨w.heap.size, 2, none⟩ = some (.slice A0_2 l0_2.length c0_2) ∧ w'.cell? ⟨w.heap.size + 1, 2, none⟩ = some (.slice A1_2 l0_2.length c1_2) := fun w' hb => ⟨(blk_cell (blk_below E0.out.2.1 hb) 2).trans rfl, (blk_cell (blk_below E0.out.2.2.1 hb) 2).trans rfl⟩
  obtain ⟨ka, kb⟩ := kk _ hBw.out
  by_cases hlt : i < l0_2.length
  ·obtain ⟨a0, A0, d0, e0, x0, x1, p0, q0⟩ := at_T51 H0.out (i : Int) (by omega) (by omega); obtain ⟨a1, A1, d1, e1, y0, y1, p1, q1⟩ := at_T51 H1.out (i : Int) (by omega) (by omega); cases e0; cases e1
   rw [Int.toNat_natCast] at x0 x1 y0 y1
   have HP := Aside0.mk (And.intro p0 (And.intro (Kd.C_below q0 E0.out.1) (And.intro p1 (Kd.C_below q1 E0.out.1))))
   clear p0 q0 p1 q1
   generalize rd_T51 l0_2 (i : Int) = z at *
   have hSz : ∀ w', Below w0.heap.size w0 w' → w'.cell? ⟨w.heap.size, 2, none⟩ = some (.slice (some a0) l0_2.length c0_2) ∧ w'.cell? ⟨w.heap.size + 1, 2, none⟩ = some (.slice (some a1) l0_2.length c1_2) ∧ w'.cell? (a0.add (i * 2)) = some (.int .i64 z.f0) ∧ w'.cell? ⟨(a0.add (i * 2)).block, (a0.add (i * 2)).off + 1, none⟩ = some (.slice A0 z.f1.length d0) ∧ w'.cell? (a1.add (i * 2)) = some (.int .i64 z.f0) ∧ w'.cell? ⟨(a1.add (i * 2)).block, (a1.add (i * 2)).off + 1, none⟩ = some (.slice A1 z.f1.length d1) ∧ Aside0 (Below w0.heap.size w0 w') := fun w' hb => by
    have hw := E0.out.1.trans (hb.mono E0.out.1.size)
    exact ⟨(kk _ hb).1, (kk _ hb).2, pw_cell_below hw x0, pw_cell_below hw x1, pw_cell_below hw y0, pw_cell_below hw y1, ⟨hb⟩⟩
   have hb0 := hBw.out.drew
   have HX := Aside0.mk (And.intro x0 (And.intro x1 (And.intro y0 y1)))
   clear x0 x1 y0 y1
   go_upto_region 6 with (fail)
   refine start_ (n := 12) (S := fun w' => w'.cell? ⟨w.heap.size, 2, none⟩ = some (.slice (some a0) l0_2.length c0_2) ∧ w'.cell? ⟨w.heap.size + 1, 2, none⟩ = some (.slice (some a1) l0_2.length c1_2) ∧ w'.cell? (a0.add (i * 2)) = some (.int .i64 z.f0) ∧ w'.cell? ⟨(a0.add (i * 2)).block, (a0.add (i * 2)).off + 1, none⟩ = some (.slice A0 z.f1.length d0) ∧ w'.cell? (a1.add (i * 2)) = some (.int .i64 z.f0) ∧ w'.cell? ⟨(a1.add (i * 2)).block, (a1.add (i * 2)).off + 1, none⟩ = some (.slice A1 z.f1.length d1) ∧ Aside0 (Below w0.heap.size w0 w')) (ds := []) #[false, false, false, false, false, false, false, false, false, false, false, false] (by kernel_rfl) rfl rfl ⟨(hSz _ hb0).1, (hSz _ hb0).2.1, (hSz _ hb0).2.2.1, (hSz _ hb0).2.2.2.1, (hSz _ hb0).2.2.2.2.1, (hSz _ hb0).2.2.2.2.2.1, (hSz _ hb0).2.2.2.2.2.2⟩ (fun hHeld => ?_)
   refine with_tabW sm13.tab6 sm13.bits6 (fun HT_ HW_ => ?_)
   refine pure_ (i := 0) (N := some 35) (v := ?_) (a' := ?_) (bs 12 1) rfl rfl (any_of HT_.out (by kernel_rfl)) (fun _ _ _ h => h) (Or.inl ⟨by rfl, ?_⟩) ?_ ?_
   rotate_left
   ·intro w'
    go_simp; with_reducible rfl
   rotate_left
   ·simp only [Act.put, s1, s2, s3, i64_w, i32_w]
    rfl
   refine pure_ (i := 2) (N := some 37) (v := ?_) (a' := ?_) (bs 12 5) rfl rfl (any_of HT_.out (by kernel_rfl)) (fun _ _ _ h => h) (Or.inl ⟨by rfl, ?_⟩) ?_ ?_
   rotate_left
   ·intro w'
    go_simp; with_reducible rfl
   rotate_left
   ·simp only [Act.put, s1, s2, s3, i64_w, i32_w]
    rfl
   refine pure_ (i := 5) (N := some 40) (v := ?_) (a' := ?_) (bs 12 37) rfl rfl (any_of HT_.out (by kernel_rfl)) (fun _ _ _ h => h) (Or.inl ⟨by rfl, ?_⟩) ?_ ?_
   rotate_left
   ·intro w'
    go_simp; with_reducible rfl
   rotate_left
   ·simp only [Act.put, s1, s2, s3, i64_w, i32_w]
    rfl
   refine pure_ (i := 7) (N := some 42) (v := ?_) (a' := ?_) (bs 12 165) rfl rfl (any_of HT_.out (by kernel_rfl)) (fun _ _ _ h => h) (Or.inl ⟨by rfl, ?_⟩) ?_ ?_
   rotate_left
   ·intro w'
    go_simp; with_reducible rfl
   rotate_left
   ·simp only [Act.put, s1, s2, s3, i64_w, i32_w]
    rfl
   refine take_ (i := 1) (N := some 36) (v := ?_) (a' := ?_) (bs 12 167) rfl rfl (take_ofW HT_.out HW_.out (by kernel_rfl)) (fun _ _ _ h => h) (Or.inl ⟨by rfl, ?_⟩) hHeld ?_ ?_
   rotate_left
   ·rintro w' ⟨s0, s1, s2, s3, s4, s5, s6⟩; go_simp; with_reducible rfl
   rotate_left
   ·simp only [Act.put, s1, s2, s3, i64_w, i32_w]
    rfl
   refine pure_ (i := 3) (N := some 38) (v := ?_) (a' := ?_) (bs 12 175) rfl rfl (any_of HT_.out (by kernel_rfl)) (fun _ _ _ h => h) (Or.inl ⟨by rfl, ?_⟩) ?_ ?_
   rotate_left
   ·intro w'
    go_simp; with_reducible rfl
   rotate_left
   ·simp only [Act.put, s1, s2, s3, i64_w, i32_w]
    rfl
   refine take_ (i := 4) (N := some 39) (v := ?_) (a' := ?_) (bs 12 191) rfl rfl (take_ofW HT_.out HW_.out (by kernel_rfl)) (fun _ _ _ h => h) (Or.inl ⟨by rfl, ?_⟩) hHeld ?_ ?_
   rotate_left
   ·rintro w' ⟨s0, s1, s2, s3, s4, s5, s6⟩; go_simp; with_reducible rfl
   rotate_left
   ·simp only [Act.put, s1, s2, s3, i64_w, i32_w]
    rfl
   refine take_ (i := 6) (N := some 41) (v := ?_) (a' := ?_) (bs 12 255) rfl rfl (take_ofW HT_.out HW_.out (by kernel_rfl)) (fun _ _ _ h => h) (Or.inl ⟨by rfl, ?_⟩) hHeld ?_ ?_
   rotate_left
   ·rintro w' ⟨s0, s1, s2, s3, s4, s5, s6⟩; go_simp; with_reducible rfl
   rotate_left
   ·simp only [Act.put, s1, s2, s3, i64_w, i32_w]
    rfl
   refine pure_ (i := 8) (N := some 43) (v := ?_) (a' := ?_) (bs 12 511) rfl rfl (any_of HT_.out (by kernel_rfl)) (fun _ _ _ h => h) (Or.inl ⟨by rfl, ?_⟩) ?_ ?_
   rotate_left
   ·intro w'
    go_simp; with_reducible rfl
   rotate_left
   ·simp only [Act.put, s1, s2, s3, i64_w, i32_w]
    rfl
   refine take_ (i := 9) (N := some 44) (v := ?_) (a' := ?_) (bs 12 1023) rfl rfl (take_ofW HT_.out HW_.out (by kernel_rfl)) (fun _ _ _ h => h) (Or.inl ⟨by rfl, ?_⟩) hHeld ?_ ?_
   rotate_left
   ·rintro w' ⟨s0, s1, s2, s3, s4, s5, s6⟩; go_simp; with_reducible rfl
   rotate_left
   ·simp only [Act.put, s1, s2, s3, i64_w, i32_w]
    rfl
   refine one_ (i := 10) (N := some 45) (bs 12 2047) rfl rfl (one_of HT_.out (by kernel_rfl)) (by decide) (fun K hK => ?_)
   refine goes_ Try.func33 (by kernel_rfl) rfl #[.agg #[.int .i64 z.f0, .slice A0 z.f1.length d0], .agg #[.int .i64 z.f0, .slice A1 z.f1.length d1]] (by rfl) rfl rfl (by (try simp only [List.map_toArray, List.map_cons, List.map_nil]); first | done | rfl) ?_
   have hbc := hHeld.2.2.2.2.2.2.out
   with_reducible refine (templelaw0_SameRule.calls z.f0 A0 d0 z.f1 z.f0 A1 d1 z.f1 true _ (Kd.C_below HP.out.2.1 hbc) HP.out.1 (Kd.C_below HP.out.2.2.2 hbc) HP.out.2.2.1 (templelaw0_SameRule.self _ _)).mono ?_
   rintro e wn ⟨rfl, hb⟩
   have hbn := hbc.trans (hb.mono hbc.size)
   refine ⟨_, rfl, ?_⟩
   refine hK.out _ _ ⟨(hSz _ hbn).1, (hSz _ hbn).2.1, (hSz _ hbn).2.2.1, (hSz _ hbn).2.2.2.1, (hSz _ hbn).2.2.2.2.1, (hSz _ hbn).2.2.2.2.2.1, (hSz _ hbn).2.2.2.2.2.2⟩ (fun hHeld => ?_)
   clear hK K
   refine norm_ (a' := ?_) ?_ ?_
   rotate_left
   ·show Act.put _ (some 45) _ = _
    simp only [Act.put, s1, s2, s3, i64_w, i32_w]
    rfl
   refine pure_ (i := 11) (N := some 46) (v := ?_) (a' := ?_) (bs 12 4095) rfl rfl (any_of HT_.out (by kernel_rfl)) (fun _ _ _ h => h) (Or.inl ⟨by rfl, ?_⟩) ?_ ?_
   rotate_left
   ·intro w'
    go_simp; with_reducible rfl
   rotate_left
   ·simp only [Act.put, s1, s2, s3, i64_w, i32_w]
    rfl
   refine done_ (done_of HT_.out (by kernel_rfl)) ?_
   have hbF := hHeld.2.2.2.2.2.2.out; clear hHeld HT_ HW_ hSz hb0; go_wp2
   go_roundw
   case rel => exact ⟨i + 1, by omega, by go_num, ⟨hbF⟩⟩
   case measure => simp [intOf]; omega
  ·obtain rfl : i = l0_2.length := by omega
   go_wp2; go_ret
   exact ⟨rfl, E0.out.1.trans (hBw.out.mono E0.out.1.size)⟩


/-! ### templelaw0_Num: function 14 -/
def templelaw0_Num.f (a0 : Int) : Option (Int) := some a0
set_option maxHeartbeats 8000000 in
set_option maxRecDepth 100000 in
theorem templelaw0_Num.calls (a0 : Int) (r : Int) (w : World) (h : templelaw0_Num.f a0 = some r) :
  Calls Try.prog 14 #[.int .i64 a0] w fun e w' => e = .returned (.int .i64 r) ∧ Drawn0 w w' := by
 have H : (some a0) = some r := h
 clear h; obtain rfl := Option.some.inj H
 go_enter Try.func14, Try.ntmps14
 go_wp2; go_ret
 exact ⟨by first | rfl | (simp; done) | (simp [*]; done), by repeat (first | exact Drawn0.refl _ | apply Drawn0.step)⟩

/-! ### templelaw0_SameRawItems: function 49 -/
theorem eqH61 (d : Nat) (w : World) (x0 y0 : Int) (x1 y1 : ByteArray) (x2 y2 : Int) (x3 y3 : Int) :
  (Op.equalIn (d + 2) 61 (.agg #[.int .i64 x0, .string x1, .int .i64 x2, .int .i64 x3]) (.agg #[.int .i64 y0, .string y1, .int .i64 y2, .int .i64 y3])).run Try.prog w = .ok (x0 == y0 && (x1.toList == y1.toList && (x2 == y2 && (x3 == y3)))) w := by
 refine eqA_of Try.underlying61 (by kernel_rfl) ?_
 refine eqf_cons (by rfl) (by go_simp; rfl) (by go_simp; rfl) (by go_simp) ?_
 refine eqf_cons (by rfl) (by go_simp; rfl) (by go_simp; rfl) (by go_simp) ?_
 refine eqf_cons (by rfl) (by go_simp; rfl) (by go_simp; rfl) (by go_simp) ?_
 exact eqf_last (by rfl) (by go_simp; rfl) (by go_simp; rfl) (by go_simp)
attribute [local go_sem high] eqH61
instance decS61 : DecidableEq S61 := fun ⟨a0, a1, a2, a3⟩ ⟨b0, b1, b2, b3⟩ => decidable_of_iff (a0 = b0 ∧ a1 = b1 ∧ a2 = b2 ∧ a3 = b3) (by simp)
def templelaw0_SameRawItems.f (l0 l1 : List S61) : Option (Bool) := if l0 = l1 then some true else none
theorem templelaw0_SameRawItems.self (l : List S61) : templelaw0_SameRawItems.f l l = some true := if_pos rfl
set_option maxHeartbeats 8000000 in
set_option maxRecDepth 100000 in
theorem templelaw0_SameRawItems.calls (A0 : Option Addr) (c0 : Nat) (l0 : List (S61)) (A1 : Option Addr) (c1 : Nat) (l1 : List (S61)) (r : Bool) (w : World) (hr0 : Kd.C k61 w A0 l0.length l0) (hc0 : l0.length ≤ c0) (hr1 : Kd.C k61 w A1 l1.length l1) (hc1 : l1.length ≤ c1) (h : templelaw0_SameRawItems.f l0 l1 = some r) :
  Calls Try.prog 49 #[.slice A0 l0.length c0, .slice A1 l1.length c1] w fun e w' => e = .returned (.bool r) ∧ Drawn0 w w' := by
 unfold templelaw0_SameRawItems.f at h
 by_cases e : l0 = l1
 case neg => rw [if_neg e] at h; cases h
 rw [if_pos e] at h
 obtain rfl := Option.some.inj h; subst e; have hu := Try.underlying61
 have hmax := Kd.C_max hr0
 have H0 := Aside0.mk hr0; have H1 := Aside0.mk hr1; clear h hr0 hr1
 go_enter Try.func49, Try.ntmps49
 go_wp2
 go_loopw [5] (fun v wr => ∃ i : Nat, i ≤ l0.length ∧ v = .int .i64 i ∧ Drawn0 w wr) (fun v _ => l0.length - (intOf v).toNat)
 case atStart => exact ⟨0, by omega, rfl, Drawn0.refl _⟩
 case round =>
  obtain ⟨i, hi, rfl, ⟨m1, rfl⟩⟩ := hrel
  by_cases hlt : i < l0.length
  ·obtain ⟨a0, e0, x0, x1, x2, x3⟩ := at_T61 H0.out (i : Int) (by omega) (by omega); obtain ⟨a1, e1, y0, y1, y2, y3⟩ := at_T61 H1.out (i : Int) (by omega) (by omega); cases e0; cases e1
   rw [Int.toNat_natCast] at x0 x1 x2 x3 y0 y1 y2 y3
   go_wp2
   repeat (go_quiet (fail); try go_wp2)
   go_roundw
   case rel => exact ⟨i + 1, by omega, by go_num, by repeat (first | exact Drawn0.refl _ | apply Drawn0.step)⟩
   case measure => simp [intOf]; omega
  ·obtain rfl : i = l0.length := by omega
   go_wp2; go_ret
   exact ⟨rfl, Drawn0.step (Drawn0.refl _) _⟩


/-! ### templelaw0_sameConjs: function 43 -/
instance decS64 : DecidableEq S64 := fun ⟨a0, a1⟩ ⟨b0, b1⟩ => decidable_of_iff (a0 = b0 ∧ a1 = b1) (by simp)
def templelaw0_sameConjs.f (l0 l1 : List S64) : Option (Bool) := if l0 = l1 then some true else none
theorem templelaw0_sameConjs.self (l : List S64) : templelaw0_sameConjs.f l l = some true := if_pos rfl
set_option maxHeartbeats 8000000 in
set_option maxRecDepth 100000 in
theorem templelaw0_sameConjs.calls (A0 : Option Addr) (c0 : Nat) (l0 : List (S64)) (A1 : Option Addr) (c1 : Nat) (l1 : List (S64)) (r : Bool) (w : World) (hr0 : Kd.C k64 w A0 l0.length l0) (hc0 : l0.length ≤ c0) (hr1 : Kd.C k64 w A1 l1.length l1) (hc1 : l1.length ≤ c1) (h : templelaw0_sameConjs.f l0 l1 = some r) :
  Calls Try.prog 43 #[.slice A0 l0.length c0, .slice A1 l1.length c1] w fun e w' => e = .returned (.bool r) ∧ Drawn0 w w' := by
 unfold templelaw0_sameConjs.f at h
 by_cases e : l0 = l1
 case neg => rw [if_neg e] at h; cases h
 rw [if_pos e] at h
 obtain rfl := Option.some.inj h; subst e
 have hmax := Kd.C_max hr0
 have H0 := Aside0.mk hr0; have H1 := Aside0.mk hr1; clear h hr0 hr1
 go_enter Try.func43, Try.ntmps43
 go_wp2
 go_loopw [5] (fun v wr => ∃ i : Nat, i ≤ l0.length ∧ v = .int .i64 i ∧ Drawn0 w wr) (fun v _ => l0.length - (intOf v).toNat)
 case atStart => exact ⟨0, by omega, rfl, Drawn0.refl _⟩
 case round =>
  obtain ⟨i, hi, rfl, ⟨m1, rfl⟩⟩ := hrel
  by_cases hlt : i < l0.length
  ·obtain ⟨a0, A0, d0, e0, x0, x1, p0, q0⟩ := at_T64 H0.out (i : Int) (by omega) (by omega); obtain ⟨a1, A1, d1, e1, y0, y1, p1, q1⟩ := at_T64 H1.out (i : Int) (by omega) (by omega); cases e0; cases e1
   rw [Int.toNat_natCast] at x0 x1 y0 y1
   have HP := Aside0.mk (And.intro p0 (And.intro q0 (And.intro p1 q1)))
   clear p0 q0 p1 q1
   generalize rd_T64 l0 (i : Int) = z at *
   have hb : (z.f0 != z.f0) = false := by simp
   go_wp2
   repeat (go_quiet (first | (go_at_call 49; (with_reducible refine (templelaw0_SameRawItems.calls _ _ z.f1 _ _ z.f1 true _ ?side1 HP.out.1 ?side3 HP.out.2.2.1 (templelaw0_SameRawItems.self _)).mono ?_); (case side1 => exact zzc HP.out.2.1); (case side3 => exact zzc HP.out.2.2.2); rintro e w' ⟨rfl, ⟨nd, rfl⟩⟩; (try first | exact ⟨rfl, _, World.drewN_drewN _ _ _⟩ | exact ⟨rfl, _, Eq.trans (World.drewN_drewN _ _ _) (congrArg (World.drewN _) (Nat.add_assoc _ _ _))⟩))); try go_wp2)
   go_roundw
   case rel => exact ⟨i + 1, by omega, by go_num, by repeat (first | exact Drawn0.refl _ | apply Drawn0.step)⟩
   case measure => simp [intOf]; omega
  ·obtain rfl : i = l0.length := by omega
   go_wp2; go_ret
   exact ⟨rfl, Drawn0.step (Drawn0.refl _) _⟩


/-! ### templelaw0_sameDef: function 34 -/
theorem sl_at {α : Type} {d : Kd α} {e : Nat} {w : World} {A : Option Addr} {n : Nat} {xs : List (List α)} (h : Kd.C (Kd.slice e d) w A n xs) (i : Int) (h0 : 0 ≤ i) (h1 : i < n) : ∃ ad A0 c0, A = some ad ∧ w.cell? (ad.add i.toNat) = some (.slice A0 (xs.getD i.toNat []).length c0) ∧ (xs.getD i.toNat []).length ≤ c0 ∧ d.C w A0 (xs.getD i.toNat []).length (xs.getD i.toNat []) := by
 obtain ⟨ad, c, e, _, ⟨A0, c0, rfl, hl, hC⟩, hc0⟩ := Kd.C_get h ([] : List α) i h0 h1
 exact ⟨ad, A0, c0, e, by have := hc0 0 _ rfl; rw [show (Kd.slice _ d).sz = 1 from rfl, Nat.mul_one, Nat.add_zero] at this; exact this, hl, hC⟩
instance decS45 : DecidableEq S45 := fun ⟨a0, a1⟩ ⟨b0, b1⟩ => decidable_of_iff (a0 = b0 ∧ a1 = b1) (by simp)
def templelaw0_sameDef.f (a0 : ByteArray) (l0 : List (List S64)) (a1 : ByteArray) (l1 : List (List S64)) : Option (Bool) := if a0 = a1 ∧ l0 = l1 then some true else none
theorem templelaw0_sameDef.self (a : ByteArray) (l : List (List S64)) : templelaw0_sameDef.f a l a l = some true := if_pos ⟨rfl, rfl⟩
set_option maxHeartbeats 8000000 in
set_option maxRecDepth 100000 in
theorem templelaw0_sameDef.calls (a0_0 : ByteArray) (A0_1 : Option Addr) (c0_1 : Nat) (l0_1 : List (List (S64))) (a1_0 : ByteArray) (A1_1 : Option Addr) (c1_1 : Nat) (l1_1 : List (List (S64))) (r : Bool) (w : World) (hr0_1 : Kd.C (Kd.slice 64 k64) w A0_1 l0_1.length l0_1) (hc0_1 : l0_1.length ≤ c0_1) (hr1_1 : Kd.C (Kd.slice 64 k64) w A1_1 l1_1.length l1_1) (hc1_1 : l1_1.length ≤ c1_1) (h : templelaw0_sameDef.f a0_0 l0_1 a1_0 l1_1 = some r) :
  Calls Try.prog 34 #[.agg #[.string a0_0, .slice A0_1 l0_1.length c0_1], .agg #[.string a1_0, .slice A1_1 l1_1.length c1_1]] w fun e w' => e = .returned (.bool r) ∧ Below w.heap.size w w' := by
 unfold templelaw0_sameDef.f at h
 by_cases e : a0_0 = a1_0 ∧ l0_1 = l1_1
 case neg => rw [if_neg e] at h; cases h
 rw [if_pos e] at h
 obtain rfl := Option.some.inj h; obtain ⟨rfl, rfl⟩ := e
 have hmax := Kd.C_max hr0_1
 have H0 := Aside0.mk hr0_1; have H1 := Aside0.mk hr1_1; clear h hr0_1 hr1_1
 go_enter Try.func34, Try.ntmps34
 go_upto_region 1 with (fail)
 have hE := below_alloc (below_alloc (Below.refl w.heap.size w) (.cells #[.string a0_0, .slice A0_1 l0_1.length c0_1] 45)) (.cells #[.string a0_0, .slice A1_1 l0_1.length c1_1] 45)
 have hB2 := blk_alloc (blk_new w (.cells #[.string a0_0, .slice A0_1 l0_1.length c0_1] 45)) (.cells #[.string a0_0, .slice A1_1 l0_1.length c1_1] 45)
 have hB3 := blk_new (w.alloc (.cells #[.string a0_0, .slice A0_1 l0_1.length c0_1] 45)) (.cells #[.string a0_0, .slice A1_1 l0_1.length c1_1] 45)
 rw [show (w.alloc (.cells #[.string a0_0, .slice A0_1 l0_1.length c0_1] 45)).heap.size = w.heap.size + 1 from by simp] at hB3
 have E0 := Aside0.mk hE; clear hE
 generalize ((w.alloc (.cells #[.string a0_0, .slice A0_1 l0_1.length c0_1] 45)).alloc (.cells #[.string a0_0, .slice A1_1 l0_1.length c1_1] 45)) = w0 at *
 have k0 : w0.cell? ⟨w.heap.size, 0, none⟩ = some (.string a0_0) := (blk_cell hB2 0).trans rfl
 have k1 : w0.cell? ⟨w.heap.size, 1, none⟩ = some (.slice A0_1 l0_1.length c0_1) := (blk_cell hB2 1).trans rfl
 have k2 : w0.cell? ⟨w.heap.size + 1, 0, none⟩ = some (.string a0_0) := (blk_cell hB3 0).trans rfl
 have k3 : w0.cell? ⟨w.heap.size + 1, 1, none⟩ = some (.slice A1_1 l0_1.length c1_1) := (blk_cell hB3 1).trans rfl
 clear hB2 hB3; go_wp2
 go_loopw [5] (fun v wr => ∃ i : Nat, i ≤ l0_1.length ∧ v = .int .i64 i ∧ Drawn0 w0 wr) (fun v _ => l0_1.length - (intOf v).toNat)
 case atStart => exact ⟨0, by omega, rfl, by repeat (first | exact Drawn0.refl _ | apply Drawn0.step)⟩
 case round =>
  obtain ⟨i, hi, rfl, ⟨m1, rfl⟩⟩ := hrel
  by_cases hlt : i < l0_1.length
  ·obtain ⟨a0, A0, d0, e0, x0, p0, q0⟩ := sl_at H0.out (i : Int) (by omega) (by omega); obtain ⟨a1, A1, d1, e1, y0, p1, q1⟩ := sl_at H1.out (i : Int) (by omega) (by omega); cases e0; cases e1
   simp only [Int.toNat_natCast] at p0 q0 p1 q1 x0 y0
   have X0 := Aside0.mk (pw_cell_below E0.out x0); have Y0 := Aside0.mk (pw_cell_below E0.out y0)
   clear x0 y0
   have x0 := X0.out; have y0 := Y0.out
   have HP := Aside0.mk (And.intro p0 (And.intro (Kd.C_below q0 E0.out) (And.intro p1 (Kd.C_below q1 E0.out))))
   clear p0 q0 p1 q1 X0 Y0
   generalize l0_1.getD i [] = z at *
   go_wp2
   repeat (go_quiet (first | (go_at_call 43; (with_reducible refine (templelaw0_sameConjs.calls _ _ z _ _ z true _ ?side1 HP.out.1 ?side3 HP.out.2.2.1 (templelaw0_sameConjs.self _)).mono ?_); (case side1 => exact zzc HP.out.2.1); (case side3 => exact zzc HP.out.2.2.2); rintro e w' ⟨rfl, ⟨nd, rfl⟩⟩; (try first | exact ⟨rfl, _, World.drewN_drewN _ _ _⟩ | exact ⟨rfl, _, Eq.trans (World.drewN_drewN _ _ _) (congrArg (World.drewN _) (Nat.add_assoc _ _ _))⟩))); try go_wp2)
   go_roundw
   case rel => exact ⟨i + 1, by omega, by go_num, by repeat (first | exact Drawn0.refl _ | apply Drawn0.step)⟩
   case measure => simp [intOf]; omega
  ·obtain rfl : i = l0_1.length := by omega
   go_wp2; go_ret
   exact ⟨rfl, E0.out.trans ((Drawn0.step (Drawn0.refl w0) m1).below.mono E0.out.size)⟩


/-! ### templelaw0_SameRaw: function 15 -/
def sm15.T6 : Bool × List (List Nat × List Nat) := (true, [([], []), ([0], [0]), ([], []), ([1, 2], [1, 2]), ([3], [3]), ([], []), ([5], [5]), ([], []), ([6, 7], [6, 7]), ([8], [8]), ([4, 9], [4, 9]), ([10], [10])])
def sm15.B6 : List Nat := [0, 1, 0, 7, 15, 0, 32, 0, 224, 480, 1023, 2047]
theorem sm15.tab6 : rtab .any (opsOf Try.f15 6) = sm15.T6 := by kernel_rfl
theorem sm15.bits6 : waitsOk sm15.T6.2 sm15.B6 = true := by kernel_rfl
def templelaw0_SameRaw.f (m0 : List ByteArray) (l0 : List S45) (m1 : List ByteArray) (l1 : List S45) : Option (Bool) := if m0 = m1 ∧ l0 = l1 then some true else none
theorem templelaw0_SameRaw.self (m : List ByteArray) (l : List S45) : templelaw0_SameRaw.f m l m l = some true := if_pos ⟨rfl, rfl⟩
set_option maxHeartbeats 8000000 in
set_option maxRecDepth 100000 in
theorem templelaw0_SameRaw.calls (A0_0 : Option Addr) (c0_0 : Nat) (l0_0 : List ByteArray) (A0_1 : Option Addr) (c0_1 : Nat) (l0_1 : List (S45)) (A1_0 : Option Addr) (c1_0 : Nat) (l1_0 : List ByteArray) (A1_1 : Option Addr) (c1_1 : Nat) (l1_1 : List (S45)) (r : Bool) (w : World) (hr0_0 : Kd.C Kd.string w A0_0 l0_0.length l0_0) (hc0_0 : l0_0.length ≤ c0_0) (hr0_1 : Kd.C k45 w A0_1 l0_1.length l0_1) (hc0_1 : l0_1.length ≤ c0_1) (hr1_0 : Kd.C Kd.string w A1_0 l1_0.length l1_0) (hc1_0 : l1_0.length ≤ c1_0) (hr1_1 : Kd.C k45 w A1_1 l1_1.length l1_1) (hc1_1 : l1_1.length ≤ c1_1) (h : templelaw0_SameRaw.f l0_0 l0_1 l1_0 l1_1 = some r) :
  Calls Try.prog 15 #[.agg #[.slice A0_0 l0_0.length c0_0, .slice A0_1 l0_1.length c0_1], .agg #[.slice A1_0 l1_0.length c1_0, .slice A1_1 l1_1.length c1_1]] w fun e w' => e = .returned (.bool r) ∧ Below w.heap.size w w' := by
 unfold templelaw0_SameRaw.f at h
 by_cases e : l0_0 = l1_0 ∧ l0_1 = l1_1
 case neg => rw [if_neg e] at h; cases h
 rw [if_pos e] at h
 obtain rfl := Option.some.inj h; obtain ⟨rfl, rfl⟩ := e
 have hmax := Kd.C_max hr0_1
 have N0 := Aside0.mk hr0_0; have N1 := Aside0.mk hr1_0; have H0 := Aside0.mk hr0_1; have H1 := Aside0.mk hr1_1
 have HC := Aside0.mk (And.intro hc0_0 hc1_0)
 clear h hr0_0 hr1_0 hr0_1 hr1_1 hc0_0 hc1_0
 go_enter Try.func15, Try.ntmps15
 go_upto_region 1 with (fail)
 have hE := below_alloc (below_alloc (Below.refl w.heap.size w) (.cells #[.slice A0_0 l0_0.length c0_0, .slice A0_1 l0_1.length c0_1] 25)) (.cells #[.slice A1_0 l0_0.length c1_0, .slice A1_1 l0_1.length c1_1] 25)
 have hB2 := blk_alloc (blk_new w (.cells #[.slice A0_0 l0_0.length c0_0, .slice A0_1 l0_1.length c0_1] 25)) (.cells #[.slice A1_0 l0_0.length c1_0, .slice A1_1 l0_1.length c1_1] 25)
 have hB3 := blk_new (w.alloc (.cells #[.slice A0_0 l0_0.length c0_0, .slice A0_1 l0_1.length c0_1] 25)) (.cells #[.slice A1_0 l0_0.length c1_0, .slice A1_1 l0_1.length c1_1] 25)
 have hs : w.heap.size + 2 = ((w.alloc (.cells #[.slice A0_0 l0_0.length c0_0, .slice A0_1 l0_1.length c0_1] 25)).alloc (.cells #[.slice A1_0 l0_0.length c1_0, .slice A1_1 l0_1.length c1_1] 25)).heap.size := by simp
 rw [show (w.alloc (.cells #[.slice A0_0 l0_0.length c0_0, .slice A0_1 l0_1.length c0_1] 25)).heap.size = w.heap.size + 1 from by simp] at hB3
 have E0 := Aside0.mk (And.intro hE (And.intro hB2 (And.intro hB3 hs)))
 clear hE
 generalize ((w.alloc (.cells #[.slice A0_0 l0_0.length c0_0, .slice A0_1 l0_1.length c0_1] 25)).alloc (.cells #[.slice A1_0 l0_0.length c1_0, .slice A1_1 l0_1.length c1_1] 25)) = w0 at *
 have k0 : w0.cell? ⟨w.heap.size, 0, none⟩ = some (.slice A0_0 l0_0.length c0_0) := (blk_cell hB2 0).trans rfl
 have k1 : w0.cell? ⟨w.heap.size, 1, none⟩ = some (.slice A0_1 l0_1.length c0_1) := (blk_cell hB2 1).trans rfl
 have j0 : w0.cell? ⟨w.heap.size + 1, 0, none⟩ = some (.slice A1_0 l0_0.length c1_0) := (blk_cell hB3 0).trans rfl
 have j1 : w0.cell? ⟨w.heap.size + 1, 1, none⟩ = some (.slice A1_1 l0_1.length c1_1) := (blk_cell hB3 1).trans rfl
 clear hB2 hB3 hs
 go_wp2_with (first | (go_at_call 32; (with_reducible refine (templelaw0_SameTexts.calls _ _ l0_0 _ _ l0_0 true _ ?side1 HC.out.1 ?side3 HC.out.2 (templelaw0_SameTexts.self _)).mono ?_); (case side1 => exact zzc (Kd.C_below N0.out E0.out.1)); (case side3 => exact zzc (Kd.C_below N1.out E0.out.1)); rintro e w' ⟨rfl, ⟨nd, rfl⟩⟩))
 go_loopw [5] (fun v wr => ∃ i : Nat, i ≤ l0_1.length ∧ v = .int .i64 i ∧ Aside0 (Below w0.heap.size w0 wr)) (fun v _ => l0_1.length - (intOf v).toNat)
 case atStart => exact ⟨0, by omega, rfl, ⟨by repeat (first | exact Below.refl _ _ | apply pw_below_drewN | apply below_drew)⟩⟩
 case round =>
  obtain ⟨i, hi, rfl, hBw⟩ := hrel; clear k0 j0 k1 j1
  have kk : ∀ w', Below w0.heap.size w0 w' → w'.cell? ⟨w.heap.size, 1, none⟩ = some (.slice A0_1 l0_1.length c0_1) ∧ w'.cell? ⟨w.heap.size + 1, 1, none⟩ = some (.slice A1_1 l0_1.length c1_1) := fun w' hb => ⟨(blk_cell (blk_below E0.out.2.1 hb) 1).trans rfl, (blk_cell (blk_below E0.out.2.2.1 hb) 1).trans rfl⟩
  obtain ⟨ka, kb⟩ := kk _ hBw.out
  by_cases hlt : i < l0_1.length
  ·obtain ⟨a0, A0, d0, e0, x0, x1, p0, q0⟩ := at_T45 H0.out (i : Int) (by omega) (by omega); obtain ⟨a1, A1, d1, e1, y0, y1, p1, q1⟩ := at_T45 H1.out (i : Int) (by omega) (by omega); cases e0; cases e1
   rw [Int.toNat_natCast] at x0 x1 y0 y1
   have HP := Aside0.mk (And.intro p0 (And.intro (Kd.C_below q0 E0.out.1) (And.intro p1 (Kd.C_below q1 E0.out.1))))
   clear p0 q0 p1 q1
   generalize rd_T45 l0_1 (i : Int) = z at *
   have hSz : ∀ w', Below w0.heap.size w0 w' → w'.cell? ⟨w.heap.size, 1, none⟩ = some (.slice (some a0) l0_1.length c0_1) ∧ w'.cell? ⟨w.heap.size + 1, 1, none⟩ = some (.slice (some a1) l0_1.length c1_1) ∧ w'.cell? (a0.add (i * 2)) = some (.string z.f0) ∧ w'.cell? ⟨(a0.add (i * 2)).block, (a0.add (i * 2)).off + 1, none⟩ = some (.slice A0 z.f1.length d0) ∧ w'.cell? (a1.add (i * 2)) = some (.string z.f0) ∧ w'.cell? ⟨(a1.add (i * 2)).block, (a1.add (i * 2)).off + 1, none⟩ = some (.slice A1 z.f1.length d1) ∧ Aside0 (Below w0.heap.size w0 w') := fun w' hb => by
    have hw := E0.out.1.trans (hb.mono E0.out.1.size)
    exact ⟨(kk _ hb).1, (kk _ hb).2, pw_cell_below hw x0, pw_cell_below hw x1, pw_cell_below hw y0, pw_cell_below hw y1, ⟨hb⟩⟩
   have hb0 := hBw.out.drew
   have HX := Aside0.mk (And.intro x0 (And.intro x1 (And.intro y0 y1)))
   clear x0 x1 y0 y1
   go_upto_region 6 with (fail)
   refine start_ (n := 12) (S := fun w' => w'.cell? ⟨w.heap.size, 1, none⟩ = some (.slice (some a0) l0_1.length c0_1) ∧ w'.cell? ⟨w.heap.size + 1, 1, none⟩ = some (.slice (some a1) l0_1.length c1_1) ∧ w'.cell? (a0.add (i * 2)) = some (.string z.f0) ∧ w'.cell? ⟨(a0.add (i * 2)).block, (a0.add (i * 2)).off + 1, none⟩ = some (.slice A0 z.f1.length d0) ∧ w'.cell? (a1.add (i * 2)) = some (.string z.f0) ∧ w'.cell? ⟨(a1.add (i * 2)).block, (a1.add (i * 2)).off + 1, none⟩ = some (.slice A1 z.f1.length d1) ∧ Aside0 (Below w0.heap.size w0 w')) (ds := []) #[false, false, false, false, false, false, false, false, false, false, false, false] (by kernel_rfl) rfl rfl ⟨(hSz _ hb0).1, (hSz _ hb0).2.1, (hSz _ hb0).2.2.1, (hSz _ hb0).2.2.2.1, (hSz _ hb0).2.2.2.2.1, (hSz _ hb0).2.2.2.2.2.1, (hSz _ hb0).2.2.2.2.2.2⟩ (fun hHeld => ?_)
   refine with_tabW sm15.tab6 sm15.bits6 (fun HT_ HW_ => ?_)
   refine pure_ (i := 0) (N := some 28) (v := ?_) (a' := ?_) (bs 12 1) rfl rfl (any_of HT_.out (by kernel_rfl)) (fun _ _ _ h => h) (Or.inl ⟨by rfl, ?_⟩) ?_ ?_
   rotate_left
   ·intro w'
    go_simp; with_reducible rfl
   rotate_left
   ·simp only [Act.put, s1, s2, s3, i64_w, i32_w]
    rfl
   refine pure_ (i := 2) (N := some 30) (v := ?_) (a' := ?_) (bs 12 5) rfl rfl (any_of HT_.out (by kernel_rfl)) (fun _ _ _ h => h) (Or.inl ⟨by rfl, ?_⟩) ?_ ?_
   rotate_left
   ·intro w'
    go_simp; with_reducible rfl
   rotate_left
   ·simp only [Act.put, s1, s2, s3, i64_w, i32_w]
    rfl
   refine pure_ (i := 5) (N := some 33) (v := ?_) (a' := ?_) (bs 12 37) rfl rfl (any_of HT_.out (by kernel_rfl)) (fun _ _ _ h => h) (Or.inl ⟨by rfl, ?_⟩) ?_ ?_
   rotate_left
   ·intro w'
    go_simp; with_reducible rfl
   rotate_left
   ·simp only [Act.put, s1, s2, s3, i64_w, i32_w]
    rfl
   refine pure_ (i := 7) (N := some 35) (v := ?_) (a' := ?_) (bs 12 165) rfl rfl (any_of HT_.out (by kernel_rfl)) (fun _ _ _ h => h) (Or.inl ⟨by rfl, ?_⟩) ?_ ?_
   rotate_left
   ·intro w'
    go_simp; with_reducible rfl
   rotate_left
   ·simp only [Act.put, s1, s2, s3, i64_w, i32_w]
    rfl
   refine take_ (i := 1) (N := some 29) (v := ?_) (a' := ?_) (bs 12 167) rfl rfl (take_ofW HT_.out HW_.out (by kernel_rfl)) (fun _ _ _ h => h) (Or.inl ⟨by rfl, ?_⟩) hHeld ?_ ?_
   rotate_left
   ·rintro w' ⟨s0, s1, s2, s3, s4, s5, s6⟩; go_simp; with_reducible rfl
   rotate_left
   ·simp only [Act.put, s1, s2, s3, i64_w, i32_w]
    rfl
   refine pure_ (i := 3) (N := some 31) (v := ?_) (a' := ?_) (bs 12 175) rfl rfl (any_of HT_.out (by kernel_rfl)) (fun _ _ _ h => h) (Or.inl ⟨by rfl, ?_⟩) ?_ ?_
   rotate_left
   ·intro w'
    go_simp; with_reducible rfl
   rotate_left
   ·simp only [Act.put, s1, s2, s3, i64_w, i32_w]
    rfl
   refine take_ (i := 4) (N := some 32) (v := ?_) (a' := ?_) (bs 12 191) rfl rfl (take_ofW HT_.out HW_.out (by kernel_rfl)) (fun _ _ _ h => h) (Or.inl ⟨by rfl, ?_⟩) hHeld ?_ ?_
   rotate_left
   ·rintro w' ⟨s0, s1, s2, s3, s4, s5, s6⟩; go_simp; with_reducible rfl
   rotate_left
   ·simp only [Act.put, s1, s2, s3, i64_w, i32_w]
    rfl
   refine take_ (i := 6) (N := some 34) (v := ?_) (a' := ?_) (bs 12 255) rfl rfl (take_ofW HT_.out HW_.out (by kernel_rfl)) (fun _ _ _ h => h) (Or.inl ⟨by rfl, ?_⟩) hHeld ?_ ?_
   rotate_left
   ·rintro w' ⟨s0, s1, s2, s3, s4, s5, s6⟩; go_simp; with_reducible rfl
   rotate_left
   ·simp only [Act.put, s1, s2, s3, i64_w, i32_w]
    rfl
   refine pure_ (i := 8) (N := some 36) (v := ?_) (a' := ?_) (bs 12 511) rfl rfl (any_of HT_.out (by kernel_rfl)) (fun _ _ _ h => h) (Or.inl ⟨by rfl, ?_⟩) ?_ ?_
   rotate_left
   ·intro w'
    go_simp; with_reducible rfl
   rotate_left
   ·simp only [Act.put, s1, s2, s3, i64_w, i32_w]
    rfl
   refine take_ (i := 9) (N := some 37) (v := ?_) (a' := ?_) (bs 12 1023) rfl rfl (take_ofW HT_.out HW_.out (by kernel_rfl)) (fun _ _ _ h => h) (Or.inl ⟨by rfl, ?_⟩) hHeld ?_ ?_
   rotate_left
   ·rintro w' ⟨s0, s1, s2, s3, s4, s5, s6⟩; go_simp; with_reducible rfl
   rotate_left
   ·simp only [Act.put, s1, s2, s3, i64_w, i32_w]
    rfl
   refine one_ (i := 10) (N := some 38) (bs 12 2047) rfl rfl (one_of HT_.out (by kernel_rfl)) (by decide) (fun K hK => ?_)
   refine goes_ Try.func34 (by kernel_rfl) rfl #[.agg #[.string z.f0, .slice A0 z.f1.length d0], .agg #[.string z.f0, .slice A1 z.f1.length d1]] (by rfl) rfl rfl (by (try simp only [List.map_toArray, List.map_cons, List.map_nil]); first | done | rfl) ?_
   have hbc := hHeld.2.2.2.2.2.2.out
   with_reducible refine (templelaw0_sameDef.calls z.f0 A0 d0 z.f1 z.f0 A1 d1 z.f1 true _ (Kd.C_below HP.out.2.1 hbc) HP.out.1 (Kd.C_below HP.out.2.2.2 hbc) HP.out.2.2.1 (templelaw0_sameDef.self _ _)).mono ?_
   rintro e wn ⟨rfl, hb⟩
   have hbn := hbc.trans (hb.mono hbc.size)
   refine ⟨_, rfl, ?_⟩
   refine hK.out _ _ ⟨(hSz _ hbn).1, (hSz _ hbn).2.1, (hSz _ hbn).2.2.1, (hSz _ hbn).2.2.2.1, (hSz _ hbn).2.2.2.2.1, (hSz _ hbn).2.2.2.2.2.1, (hSz _ hbn).2.2.2.2.2.2⟩ (fun hHeld => ?_)
   clear hK K
   refine norm_ (a' := ?_) ?_ ?_
   rotate_left
   ·show Act.put _ (some 38) _ = _
    simp only [Act.put, s1, s2, s3, i64_w, i32_w]
    rfl
   refine pure_ (i := 11) (N := some 39) (v := ?_) (a' := ?_) (bs 12 4095) rfl rfl (any_of HT_.out (by kernel_rfl)) (fun _ _ _ h => h) (Or.inl ⟨by rfl, ?_⟩) ?_ ?_
   rotate_left
   ·intro w'
    go_simp; with_reducible rfl
   rotate_left
   ·simp only [Act.put, s1, s2, s3, i64_w, i32_w]
    rfl
   refine done_ (done_of HT_.out (by kernel_rfl)) ?_
   have hbF := hHeld.2.2.2.2.2.2.out; clear hHeld HT_ HW_ hSz hb0; go_wp2
   go_roundw
   case rel => exact ⟨i + 1, by omega, by go_num, ⟨hbF⟩⟩
   case measure => simp [intOf]; omega
  ·obtain rfl : i = l0_1.length := by omega
   go_wp2; go_ret
   exact ⟨rfl, E0.out.1.trans (hBw.out.mono E0.out.1.size)⟩


end Go.Proofs.Ytdjnpgigdchfkaa.PBS
