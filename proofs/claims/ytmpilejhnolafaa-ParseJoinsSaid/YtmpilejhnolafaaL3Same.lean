/- Layer 3, plain: declarations are like themselves (SameRaw). -/
import Derived.Test.YtmpilejhnolafaaPPJx8
import Derived.Test.YtmpilejhnolafaaPPJx7
import Derived.Test.YtmpilejhnolafaaPPJx6
import Derived.Test.YtmpilejhnolafaaPPJx6
import Derived.Test.YtmpilejhnolafaaPPJx6
namespace Go.Proofs.Ytmpilejhnolafaa.PPJ
open Go.RowKit Go.Proofs.YtmpilejhnolafaaW.PrintWords Go.Proofs.YtmpilejhnolafaaW.PrintLast
set_option linter.unusedVariables false
set_option linter.unusedSimpArgs false
theorem wrap_nat (i : Nat) (h : i < 9223372036854775807) : wrap64 ((i : Int) + 1) = ((i + 1 : Nat) : Int) := by unfold wrap64; omega
theorem ev_down {α : Type} {l : Nat → Nat → Option α} {n : Nat} {R : α} (hb : Ev (fun k => l k n) R) (hs : ∀ i, i < n → Ev (fun k => l k (i + 1)) R → Ev (fun k => l k i) R) : ∀ i, i ≤ n → Ev (fun k => l k i) R := by
  have key : ∀ d i, i + d = n → Ev (fun k => l k i) R := by
    intro d
    induction d with
    | zero =>
      intro i hi
      obtain rfl : i = n := by omega
      exact hb
    | succ d ih =>
      intro i hi
      exact hs i (by omega) (ih (i + 1) (by omega))
  intro i hi
  exact key (n - i) i (by omega)
theorem sameTexts_self (l : List ByteArray) (hl : l.length < 9223372036854775807) : Ev (fun k => templelaw0_SameTexts.f k l l) true := by
  refine Ev.congr (f := fun k => templelaw0_SameTexts.l0 k l l ((0 : Nat) : Int)) (fun k => ?_) (ev_down (l := fun k i => templelaw0_SameTexts.l0 k l l (i : Int)) (n := l.length) ?_ ?_ 0 (Nat.zero_le _))
  · unfold templelaw0_SameTexts.f
    rw [if_pos rfl]
    rfl
  · refine Ev.step (f := fun _ => some true) (fun k => ?_) (Ev.now _)
    simp only [templelaw0_SameTexts.l0]
    rw [if_neg (by omega)]
  · intro i hi ih
    refine Ev.step (fun k => ?_) ih
    simp only [templelaw0_SameTexts.l0]
    rw [if_pos (by omega), if_pos (by omega), if_pos (by omega), if_pos trivial, wrap_nat i (by omega)]
theorem sameRawItems_self (l : List S48) (hl : l.length < 9223372036854775807) : Ev (fun k => templelaw0_SameRawItems.f k l l) true := by
  refine Ev.congr (f := fun k => templelaw0_SameRawItems.l0 k l l ((0 : Nat) : Int)) (fun k => ?_) (ev_down (l := fun k i => templelaw0_SameRawItems.l0 k l l (i : Int)) (n := l.length) ?_ ?_ 0 (Nat.zero_le _))
  · unfold templelaw0_SameRawItems.f
    rw [if_pos rfl]
    rfl
  · refine Ev.step (f := fun _ => some true) (fun k => ?_) (Ev.now _)
    simp only [templelaw0_SameRawItems.l0]
    rw [if_neg (by omega)]
  · intro i hi ih
    refine Ev.step (fun k => ?_) ih
    simp only [templelaw0_SameRawItems.l0]
    rw [if_pos (by omega), if_pos (by omega), if_pos (by omega), if_neg (by simp), wrap_nat i (by omega)]
theorem sameConjs_self (l : List S46) (hl : l.length < 9223372036854775807) (hi : ∀ c ∈ l, c.f1.length < 9223372036854775807) : Ev (fun k => templelaw0_sameConjs.f k l l) true := by
  refine Ev.congr (f := fun k => templelaw0_sameConjs.l0 k l l ((0 : Nat) : Int)) (fun k => ?_) (ev_down (l := fun k i => templelaw0_sameConjs.l0 k l l (i : Int)) (n := l.length) ?_ ?_ 0 (Nat.zero_le _))
  · unfold templelaw0_sameConjs.f
    rw [if_pos rfl]
    rfl
  · refine Ev.step (f := fun _ => some true) (fun k => ?_) (Ev.now _)
    simp only [templelaw0_sameConjs.l0]
    rw [if_neg (by omega)]
  · intro i hlt ih
    have hr : rd_T46 l (i : Int) = l[i] := by
      unfold rd_T46
      rw [Int.toNat_natCast, List.getD_eq_getElem?_getD, List.getElem?_eq_getElem hlt]
      rfl
    obtain ⟨K1, e1⟩ := sameRawItems_self l[i].f1 (hi _ (List.getElem_mem hlt))
    obtain ⟨K2, e2⟩ := ih
    dsimp only at e1 e2
    refine ⟨K1 + K2 + 1, fun k hk => ?_⟩
    obtain ⟨k, rfl⟩ : ∃ j, k = j + 1 := ⟨k - 1, by omega⟩
    simp only [templelaw0_sameConjs.l0]
    rw [if_pos (by omega), if_pos (by omega), if_pos (by omega), if_neg (by simp), hr, e1 k (by omega), Option.bind_some, if_pos rfl, wrap_nat i (by omega), e2 k (by omega)]
theorem sameDef_self (d : S42) (hl : d.f1.length < 9223372036854775807) (ha : ∀ a ∈ d.f1, a.length < 9223372036854775807 ∧ ∀ c ∈ a, c.f1.length < 9223372036854775807) : Ev (fun k => templelaw0_sameDef.f k d.f0 d.f1 d.f0 d.f1) true := by
  refine Ev.congr (f := fun k => templelaw0_sameDef.j0 k false d.f0 d.f1 d.f0 d.f1) (fun k => ?_) (Ev.step (f := fun k => templelaw0_sameDef.l0 k ((0 : Nat) : Int) d.f0 d.f1 d.f0 d.f1) (fun k => ?_) (ev_down (l := fun k i => templelaw0_sameDef.l0 k (i : Int) d.f0 d.f1 d.f0 d.f1) (n := d.f1.length) ?_ ?_ 0 (Nat.zero_le _)))
  · unfold templelaw0_sameDef.f
    rw [if_pos rfl]
    simp
  · simp only [templelaw0_sameDef.j0]
    rw [if_neg (by simp)]
    rfl
  · refine Ev.step (f := fun _ => some true) (fun k => ?_) (Ev.now _)
    simp only [templelaw0_sameDef.l0]
    rw [if_neg (by omega)]
  · intro i hlt ih
    have hr : rd_L8 d.f1 (i : Int) = d.f1[i] := by
      unfold rd_L8
      rw [Int.toNat_natCast, List.getD_eq_getElem?_getD, List.getElem?_eq_getElem hlt]
      rfl
    obtain ⟨h1, h2⟩ := ha _ (List.getElem_mem hlt)
    obtain ⟨K1, e1⟩ := sameConjs_self d.f1[i] h1 h2
    obtain ⟨K2, e2⟩ := ih
    dsimp only at e1 e2
    refine ⟨K1 + K2 + 1, fun k hk => ?_⟩
    obtain ⟨k, rfl⟩ : ∃ j, k = j + 1 := ⟨k - 1, by omega⟩
    simp only [templelaw0_sameDef.l0]
    rw [if_pos (by omega), if_pos (by omega), if_pos (by omega), hr, e1 k (by omega), Option.bind_some, if_pos rfl, wrap_nat i (by omega), e2 k (by omega)]
/-- Declarations of sizes that any machine holds. -/
structure RawSized (starts : List ByteArray) (defs : List S42) : Prop where
  hs : starts.length < 9223372036854775807
  hd : defs.length < 9223372036854775807
  hb : ∀ d ∈ defs, d.f1.length < 9223372036854775807 ∧ ∀ a ∈ d.f1, a.length < 9223372036854775807 ∧ ∀ c ∈ a, c.f1.length < 9223372036854775807
theorem sameRaw_self (starts : List ByteArray) (defs : List S42) (h : RawSized starts defs) : Ev (fun k => templelaw0_SameRaw.f k starts defs starts defs) true := by
  have hl := h.hd
  have key : Ev (fun k => templelaw0_SameRaw.l0 k ((0 : Nat) : Int) starts defs starts defs) true := by
    refine ev_down (l := fun k i => templelaw0_SameRaw.l0 k (i : Int) starts defs starts defs) (n := defs.length) ?_ ?_ 0 (Nat.zero_le _)
    · refine Ev.step (f := fun _ => some true) (fun k => ?_) (Ev.now _)
      simp only [templelaw0_SameRaw.l0]
      rw [if_neg (by omega)]
    · intro i hlt ih
      have hr : rd_T42 defs (i : Int) = defs[i] := by
        unfold rd_T42
        rw [Int.toNat_natCast, List.getD_eq_getElem?_getD, List.getElem?_eq_getElem hlt]
        rfl
      obtain ⟨h1, h2⟩ := h.hb _ (List.getElem_mem hlt)
      obtain ⟨K1, e1⟩ := sameDef_self defs[i] h1 h2
      obtain ⟨K2, e2⟩ := ih
      dsimp only at e1 e2
      refine ⟨K1 + K2 + 1, fun k hk => ?_⟩
      obtain ⟨k, rfl⟩ : ∃ j, k = j + 1 := ⟨k - 1, by omega⟩
      simp only [templelaw0_SameRaw.l0]
      rw [if_pos (by omega), if_pos (by omega), if_pos (by omega), hr, e1 k (by omega), Option.bind_some, if_pos rfl, wrap_nat i (by omega), e2 k (by omega)]
  obtain ⟨K1, e1⟩ := sameTexts_self starts h.hs
  obtain ⟨K2, e2⟩ := key
  dsimp only at e1 e2
  refine ⟨K1 + K2 + 1, fun k hk => ?_⟩
  obtain ⟨k, rfl⟩ : ∃ j, k = j + 1 := ⟨k - 1, by omega⟩
  dsimp only
  unfold templelaw0_SameRaw.f
  rw [e1 (k + 1) (by omega), Option.bind_some, if_pos rfl]
  simp only [templelaw0_SameRaw.j0]
  rw [if_neg (by simp)]
  exact e2 k (by omega)
end Go.Proofs.Ytmpilejhnolafaa.PPJ
