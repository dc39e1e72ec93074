/- Plain: SameGrammar says yes to equal grammars and no to others. -/
import Derived.Test.YtimmkmfcpfjgfaaL5UBase
namespace Go.Proofs.Ytimmkmfcpfjgfaa.PSU
open Go.RowKit Go.Proofs.YtimmkmfcpfjgfaaW.PrintWords Go.Proofs.YtimmkmfcpfjgfaaW.PrintLast
set_option linter.unusedVariables false
def Dec (g : Nat → Option Bool) (p : Prop) : Prop := ∃ r, Ev g r ∧ (r = true ↔ p)
theorem Dec.congr {g : Nat → Option Bool} {p q : Prop} (h : Dec g p) (e : p ↔ q) : Dec g q := by
  obtain ⟨r, h1, h2⟩ := h
  exact ⟨r, h1, h2.trans e⟩
theorem Dec.ev {g f : Nat → Option Bool} {p : Prop} (h : Dec g p) (e : ∀ r, Ev g r → Ev f r) : Dec f p := by
  obtain ⟨r, h1, h2⟩ := h
  exact ⟨r, e r h1, h2⟩
theorem Dec.no {g : Nat → Option Bool} {p : Prop} (h : Ev g false) (e : ¬ p) : Dec g p := ⟨false, h, ⟨fun h => (by cases h), fun h => absurd h e⟩⟩
theorem dec_loop (L : Nat → Nat → Option Bool) (n : Nat) (P : Nat → Prop) (hend : Ev (fun k => L k n) true)
    (hstep : ∀ i, i < n → (P i ∧ (∀ r, Ev (fun k => L k (i + 1)) r → Ev (fun k => L k i) r)) ∨ (¬ P i ∧ Ev (fun k => L k i) false)) : Dec (fun k => L k 0) (∀ i, i < n → P i) := by
  have key : ∀ d i, i + d = n → Dec (fun k => L k i) (∀ j, i ≤ j → j < n → P j) := by
    intro d
    induction d with
    | zero =>
      intro i hi
      obtain rfl : i = n := by omega
      exact ⟨true, hend, ⟨fun _ j h1 h2 => by omega, fun _ => rfl⟩⟩
    | succ d ih =>
      intro i hi
      rcases hstep i (by omega) with ⟨h1, h2⟩ | ⟨h1, h2⟩
      · refine ((ih (i + 1) (by omega)).ev h2).congr ⟨fun h j hj hjn => ?_, fun h j hj hjn => h j (by omega) hjn⟩
        by_cases e : j = i
        · subst e
          exact h1
        · exact h j (by omega) hjn
      · exact Dec.no h2 (fun h => h1 (h i (Nat.le_refl _) (by omega)))
  exact (key n 0 (by omega)).congr ⟨fun h i hi => h i (Nat.zero_le _) hi, fun h j _ hj => h j hj⟩
theorem list_all {α : Type} {a b : List α} (hl : a.length = b.length) : a = b ↔ ∀ i, i < a.length → a[i]? = b[i]? := by
  constructor
  · rintro rfl _ _
    rfl
  · intro h
    apply List.ext_getElem? 
    intro i
    rcases Nat.lt_or_ge i a.length with hi | hi
    · exact h i hi
    · rw [List.getElem?_eq_none hi, List.getElem?_eq_none (by omega)]
theorem sameTexts_dec (a b : List ByteArray) (hl : a.length < 9223372036854775807) : Dec (fun k => templelaw0_SameTexts.f k a b) (a = b) := by
  by_cases e : a.length = b.length
  · refine (((dec_loop (fun k i => templelaw0_SameTexts.l0 k a b (i : Int)) a.length (fun i => a[i]? = b[i]?) ?_ ?_).congr (list_all e).symm).ev (fun r h => Ev.congr (fun k => ?_) h))
    · refine Ev.step (f := fun _ => some true) (fun k => ?_) (Ev.now _)
      simp only [templelaw0_SameTexts.l0]
      rw [if_neg (by omega)]
    · intro i hi
      have e1 : rdOf ByteArray.empty a (i : Int) = a[i] := rd_str a i hi
      have e2 : rdOf ByteArray.empty b (i : Int) = b[i] := rd_str b i (by omega)
      by_cases q : a[i] = b[i]
      · refine .inl ⟨by rw [List.getElem?_eq_getElem hi, List.getElem?_eq_getElem (by omega), q], fun r h => Ev.step (fun k => ?_) h⟩
        simp only [templelaw0_SameTexts.l0]
        rw [if_pos (by omega), if_pos (by omega), if_pos (by omega), e1, e2, if_pos (by rw [q]), wrap_nat i (by omega)]
      · refine .inr ⟨fun h => q ?_, Ev.step (f := fun _ => some false) (fun k => ?_) (Ev.now _)⟩
        · rw [List.getElem?_eq_getElem hi, List.getElem?_eq_getElem (by omega)] at h
          exact Option.some.inj h
        · simp only [templelaw0_SameTexts.l0]
          rw [if_pos (by omega), if_pos (by omega), if_pos (by omega), e1, e2, if_neg (fun h => q (toList_inj.1 h))]
    · unfold templelaw0_SameTexts.f
      rw [if_pos (by omega)]
      rfl
  · refine Dec.no (Ev.congr (f := fun _ => some false) (fun k => ?_) (Ev.now _)) (fun h => e (by rw [h]))
    unfold templelaw0_SameTexts.f
    rw [if_neg (by omega)]
theorem sameSymbols_dec (a b : List S38) (hl : a.length < 9223372036854775807) : Dec (fun k => templelaw0_SameSymbols.f k a b) (a = b) := by
  by_cases e : a.length = b.length
  · refine (((dec_loop (fun k i => templelaw0_SameSymbols.l0 k a b (i : Int)) a.length (fun i => a[i]? = b[i]?) ?_ ?_).congr (list_all e).symm).ev (fun r h => Ev.congr (fun k => ?_) h))
    · refine Ev.step (f := fun _ => some true) (fun k => ?_) (Ev.now _)
      simp only [templelaw0_SameSymbols.l0]
      rw [if_neg (by omega)]
    · intro i hi
      have e1 := rd_sym a i hi
      have e2 := rd_sym b i (by omega)
      by_cases q : a[i] = b[i]
      · refine .inl ⟨by rw [List.getElem?_eq_getElem hi, List.getElem?_eq_getElem (by omega), q], fun r h => Ev.step (fun k => ?_) h⟩
        simp only [templelaw0_SameSymbols.l0]
        rw [if_pos (by omega), if_pos (by omega), if_pos (by omega), e1, e2, q, if_neg (by simp), wrap_nat i (by omega)]
      · refine .inr ⟨fun h => q ?_, Ev.step (f := fun _ => some false) (fun k => ?_) (Ev.now _)⟩
        · rw [List.getElem?_eq_getElem hi, List.getElem?_eq_getElem (by omega)] at h
          exact Option.some.inj h
        · simp only [templelaw0_SameSymbols.l0]
          rw [if_pos (by omega), if_pos (by omega), if_pos (by omega), e1, e2, if_pos]
          rcases ha : a[i] with ⟨x0, x1, x2⟩
          rcases hb : b[i] with ⟨y0, y1, y2⟩
          rw [ha, hb] at q
          by_cases q0 : x0 = y0
          · by_cases q1 : x1 = y1
            · by_cases q2 : x2 = y2
              · exact absurd (by rw [q0, q1, q2]) q
              · simp [q2]
            · simp [q1]
          · simp [q0]
    · unfold templelaw0_SameSymbols.f
      rw [if_pos (by omega)]
      rfl
  · refine Dec.no (Ev.congr (f := fun _ => some false) (fun k => ?_) (Ev.now _)) (fun h => e (by rw [h]))
    unfold templelaw0_SameSymbols.f
    rw [if_neg (by omega)]
theorem sameRule_dec (x y : S44) (hl : x.f1.length < 9223372036854775807) (hsy : ∀ c ∈ x.f1, c.f1.length < 9223372036854775807) : Dec (fun k => templelaw0_SameRule.f k x.f0 x.f1 y.f0 y.f1) (x = y) := by
  by_cases e : x.f0 = y.f0 ∧ x.f1.length = y.f1.length
  · obtain ⟨e0, e⟩ := e
    refine (((dec_loop (fun k i => templelaw0_SameRule.l0 k (i : Int) x.f0 x.f1 y.f0 y.f1) x.f1.length (fun i => x.f1[i]? = y.f1[i]?) ?_ ?_).congr ⟨fun h => ?_, fun h i hi => by rw [h]⟩).ev (fun r h => Ev.congr (f := fun k => templelaw0_SameRule.j0 k false x.f0 x.f1 y.f0 y.f1) (fun k => ?_) (Ev.step (fun k => ?_) h)))
    · refine Ev.step (f := fun _ => some true) (fun k => ?_) (Ev.now _)
      simp only [templelaw0_SameRule.l0]
      rw [if_neg (by omega)]
    · intro i hi
      have e1 := rd_conj x.f1 i hi
      have e2 := rd_conj y.f1 i (by omega)
      by_cases q0 : x.f1[i].f0 = y.f1[i].f0
      · obtain ⟨r, ⟨K1, h1⟩, h2⟩ := sameSymbols_dec x.f1[i].f1 y.f1[i].f1 (hsy _ (List.getElem_mem hi))
        dsimp only at h1
        cases r with
        | true =>
          have q1 := h2.1 rfl
          refine .inl ⟨?_, fun r h => ?_⟩
          · rw [List.getElem?_eq_getElem hi, List.getElem?_eq_getElem (by omega)]
            congr 1
            rcases ha : x.f1[i] with ⟨a0, a1⟩
            rcases hb : y.f1[i] with ⟨b0, b1⟩
            rw [ha, hb] at q0 q1
            dsimp only at q0 q1
            rw [q0, q1]
          · obtain ⟨K2, h⟩ := h
            dsimp only at h
            refine ⟨K1 + K2 + 1, fun k hk => ?_⟩
            obtain ⟨k, rfl⟩ : ∃ j, k = j + 1 := ⟨k - 1, by omega⟩
            simp only [templelaw0_SameRule.l0]
            rw [if_pos (by omega), if_pos (by omega), if_pos (by omega), e1, e2, if_neg (by simp [q0]), h1 k (by omega), Option.bind_some, if_pos rfl, wrap_nat i (by omega), h k (by omega)]
        | false =>
          refine .inr ⟨fun h => ?_, K1 + 1, fun k hk => ?_⟩
          · rw [List.getElem?_eq_getElem hi, List.getElem?_eq_getElem (by omega)] at h
            have := h2.2 (by rw [Option.some.inj h])
            cases this
          · obtain ⟨k, rfl⟩ : ∃ j, k = j + 1 := ⟨k - 1, by omega⟩
            simp only [templelaw0_SameRule.l0]
            rw [if_pos (by omega), if_pos (by omega), if_pos (by omega), e1, e2, if_neg (by simp [q0]), h1 k (by omega), Option.bind_some, if_neg (by decide)]
      · refine .inr ⟨fun h => ?_, Ev.step (f := fun _ => some false) (fun k => ?_) (Ev.now _)⟩
        · rw [List.getElem?_eq_getElem hi, List.getElem?_eq_getElem (by omega)] at h
          exact q0 (by rw [Option.some.inj h])
        · simp only [templelaw0_SameRule.l0]
          rw [if_pos (by omega), if_pos (by omega), if_pos (by omega), e1, e2, if_pos (by simp [q0])]
    · cases x
      cases y
      dsimp only at h e0 e
      rw [e0, (list_all e).2 h]
    · unfold templelaw0_SameRule.f
      rw [if_pos e0]
      congr 1
      rw [bne_eq_false_iff_eq]
      omega
    · simp only [templelaw0_SameRule.j0]
      rw [if_neg (by simp)]
      rfl
  · refine Dec.no (Ev.congr (f := fun k => templelaw0_SameRule.j0 k true x.f0 x.f1 y.f0 y.f1) (fun k => ?_) (Ev.step (f := fun _ => some false) (fun k => ?_) (Ev.now _))) (fun h => e (by rw [h]; exact ⟨rfl, rfl⟩))
    · unfold templelaw0_SameRule.f
      by_cases q : x.f0 = y.f0
      · rw [if_pos q]
        congr 1
        rw [bne_iff_ne]
        exact fun h => e ⟨q, by omega⟩
      · rw [if_neg q]
    · simp only [templelaw0_SameRule.j0]
      rw [if_pos trivial]
theorem sameGrammar_dec (a a' : Int) (nm nm' : List ByteArray) (rs rs' : List S44) (hs : gramSized nm rs) : Dec (fun k => templelaw0_SameGrammar.f k a nm rs a' nm' rs') (a = a' ∧ nm = nm' ∧ rs = rs') := by
  obtain ⟨h1, h2, h3⟩ := hs
  have bad : ∀ g : Nat → Option Bool, (∀ k, g (k + 1) = templelaw0_SameGrammar.j0 (k + 1) true a nm rs a' nm' rs') → Ev g false := fun g hg => ⟨1, fun k hk => by
    obtain ⟨k, rfl⟩ : ∃ j, k = j + 1 := ⟨k - 1, by omega⟩
    rw [hg]
    simp only [templelaw0_SameGrammar.j0]
    rw [if_pos trivial]⟩
  by_cases ea : a = a'
  · obtain ⟨r, ⟨K1, e1⟩, e2⟩ := sameTexts_dec nm nm' (by omega)
    dsimp only at e1
    cases r with
    | false =>
      have en : ¬ nm = nm' := fun h => by cases e2.2 h
      refine Dec.no ⟨K1 + 1, fun k hk => ?_⟩ (fun h => en h.2.1)
      obtain ⟨k, rfl⟩ : ∃ j, k = j + 1 := ⟨k - 1, by omega⟩
      dsimp only
      unfold templelaw0_SameGrammar.f
      rw [if_pos ea, e1 (k + 1) (by omega), Option.bind_some, if_neg (by decide)]
      simp only [templelaw0_SameGrammar.j0]
      rw [if_pos trivial]
    | true =>
      have en := e2.1 rfl
      by_cases el : rs.length = rs'.length
      · refine (((dec_loop (fun k i => templelaw0_SameGrammar.l0 k (i : Int) a nm rs a' nm' rs') rs.length (fun i => rs[i]? = rs'[i]?) ?_ ?_).congr ⟨fun h => ⟨ea, en, (list_all el).2 h⟩, fun h i hi => by rw [h.2.2]⟩).ev (fun r h => ?_))
        · refine Ev.step (f := fun _ => some true) (fun k => ?_) (Ev.now _)
          simp only [templelaw0_SameGrammar.l0]
          rw [if_neg (by omega)]
        · intro i hi
          obtain ⟨h4, h5⟩ := h3 _ (List.getElem_mem hi)
          have g1 := rd_rule rs i hi
          have g2 := rd_rule rs' i (by omega)
          obtain ⟨r, ⟨K2, e3⟩, e4⟩ := sameRule_dec rs[i] rs'[i] (by omega) (fun c hc => by have := h5 c hc; omega)
          dsimp only at e3
          cases r with
          | true =>
            refine .inl ⟨by rw [List.getElem?_eq_getElem hi, List.getElem?_eq_getElem (by omega), e4.1 rfl], fun r h => ?_⟩
            obtain ⟨K3, h⟩ := h
            dsimp only at h
            refine ⟨K2 + K3 + 1, fun k hk => ?_⟩
            obtain ⟨k, rfl⟩ : ∃ j, k = j + 1 := ⟨k - 1, by omega⟩
            simp only [templelaw0_SameGrammar.l0]
            rw [if_pos (by omega), if_pos (by omega), if_pos (by omega), g1, g2, e3 k (by omega), Option.bind_some, if_pos rfl, wrap_nat i (by omega), h k (by omega)]
          | false =>
            refine .inr ⟨fun h => ?_, K2 + 1, fun k hk => ?_⟩
            · rw [List.getElem?_eq_getElem hi, List.getElem?_eq_getElem (by omega)] at h
              have := e4.2 (Option.some.inj h)
              cases this
            · obtain ⟨k, rfl⟩ : ∃ j, k = j + 1 := ⟨k - 1, by omega⟩
              simp only [templelaw0_SameGrammar.l0]
              rw [if_pos (by omega), if_pos (by omega), if_pos (by omega), g1, g2, e3 k (by omega), Option.bind_some, if_neg (by decide)]
        · obtain ⟨K3, h⟩ := h
          refine ⟨K1 + K3 + 1, fun k hk => ?_⟩
          obtain ⟨k, rfl⟩ : ∃ j, k = j + 1 := ⟨k - 1, by omega⟩
          dsimp only at h ⊢
          unfold templelaw0_SameGrammar.f
          rw [if_pos ea, e1 (k + 1) (by omega), Option.bind_some, if_pos rfl]
          simp only [templelaw0_SameGrammar.j0]
          rw [if_neg (by rw [bne_iff_ne]; omega)]
          exact h k (by omega)
      · refine Dec.no ⟨K1 + 1, fun k hk => ?_⟩ (fun h => el (by rw [h.2.2]))
        obtain ⟨k, rfl⟩ : ∃ j, k = j + 1 := ⟨k - 1, by omega⟩
        dsimp only
        unfold templelaw0_SameGrammar.f
        rw [if_pos ea, e1 (k + 1) (by omega), Option.bind_some, if_pos rfl]
        simp only [templelaw0_SameGrammar.j0]
        rw [if_pos (by rw [bne_iff_ne]; omega)]
  · refine Dec.no (bad _ (fun k => ?_)) (fun h => ea h.1)
    unfold templelaw0_SameGrammar.f
    rw [if_neg ea]
end Go.Proofs.Ytimmkmfcpfjgfaa.PSU
