/- Places, copies, likeness, spoiling: the plain side. -/
import Derived.Test.YtfnfodhppobljaaL10
import Derived.Test.YtfnfodhppobljaaPL10x5
import Derived.Test.YtfnfodhppobljaaPL10x8
import Derived.Test.YtfnfodhppobljaaPL10x8
import Derived.Test.YtfnfodhppobljaaPL10x10
namespace Go.Proofs.Ytfnfodhppobljaa.PL10
open Go.RowKit Go.Proofs.YtfnfodhppobljaaW.PrintWords Go.Proofs.YtfnfodhppobljaaW.PrintLast
set_option linter.unusedVariables false
set_option linter.unusedSimpArgs false
abbrev Pl := S47
def plC (i j : Int) (n : Nat) : List Pl := (List.range n).map fun (m : Nat) => (⟨i, j, (m : Int)⟩ : Pl)
def plR (i : Int) : Nat → List S45 → List Pl
  | _, [] => []
  | j, c :: cs => plC i (j : Int) (c.f1.length + 1) ++ plR i (j + 1) cs
def plG : Nat → List S42 → List Pl
  | _, [] => []
  | i, r :: rs => plR (i : Int) 0 r.f1 ++ plG (i + 1) rs
theorem plC_succ (i j : Int) (n : Nat) : plC i j (n + 1) = plC i j n ++ [⟨i, j, (n : Int)⟩] := by
  unfold plC
  rw [List.range_succ, List.map_append]
  rfl
theorem plC_length (i j : Int) (n : Nat) : (plC i j n).length = n := by unfold plC; simp
section
variable {g : Nat → Option ((List Pl) × Int)} {R : (List Pl) × Int}
/-! the program's -/
theorem seqs_l2 (a : Int) (nm : List ByteArray) (rs : List S42) (i j x13 x14 x23 x24 : Int) (n : Nat) (hn : n < 9223372036854775807) (R : (List Pl) × Int) :
    ∀ (d m : Nat) (pre : List Pl), m + d = n → (pre ++ plC i j n).length < 5864062014805 → Ev (fun k => seqs_Places.l1 k (pre ++ plC i j n) i x13 x14 x23 (wrap64 (x24 + 1)) a nm rs) R →
      Ev (fun k => seqs_Places.l2 k (pre ++ plC i j m) i j x13 x14 x23 x24 (n : Int) (m : Int) a nm rs) R := by
  intro d
  induction d with
  | zero =>
    intro m pre hm hb hc
    obtain rfl : m = n := by omega
    refine Ev.step (fun k => ?_) hc
    simp only [seqs_Places.l2]
    rw [if_neg (by omega)]
  | succ d ih =>
    intro m pre hm hb hc
    refine Ev.step (fun k => ?_) (ih (m + 1) pre (by omega) hb hc)
    simp only [seqs_Places.l2]
    rw [List.length_append, plC_length] at hb
    rw [if_pos (by omega), if_pos (by rw [List.length_append, plC_length]; omega), wrap_nat m (by omega), plC_succ, List.append_assoc]
theorem seqs_l1 (a : Int) (nm : List ByteArray) (rs : List S42) (i : Nat) (hi : i < rs.length) (x13 x14 : Int) (hsz : rs[i].f1.length < 1000000) (hsy : ∀ c ∈ rs[i].f1, c.f1.length < 1000000) (R : (List Pl) × Int) :
    ∀ (d j : Nat) (pre : List Pl), j + d = rs[i].f1.length → (pre ++ plR (i : Int) j (rs[i].f1.drop j)).length < 5864062014805 → Ev (fun k => seqs_Places.l0 k (pre ++ plR (i : Int) j (rs[i].f1.drop j)) x13 (wrap64 (x14 + 1)) a nm rs) R →
      Ev (fun k => seqs_Places.l1 k pre (i : Int) x13 x14 (rs[i].f1.length : Int) (j : Int) a nm rs) R := by
  intro d
  induction d with
  | zero =>
    intro j pre hj hb hc
    rw [show rs[i].f1.drop j = [] from List.drop_eq_nil_iff.2 (by omega)] at hc
    unfold plR at hc
    rw [List.append_nil] at hc
    refine Ev.step (fun k => ?_) hc
    simp only [seqs_Places.l1]
    rw [if_neg (by omega)]
  | succ d ih =>
    intro j pre hj hb hc
    have hlt : j < rs[i].f1.length := by omega
    rw [List.drop_eq_getElem_cons hlt] at hc hb
    unfold plR at hc hb
    have h1 := hsy _ (List.getElem_mem hlt)
    rw [← List.append_assoc] at hc hb
    have := ih (j + 1) (pre ++ plC (i : Int) (j : Int) (rs[i].f1[j].f1.length + 1)) (by omega) hb hc
    refine Ev.step (f := fun k => seqs_Places.l2 k (pre ++ plC (i : Int) (j : Int) 0) (i : Int) (j : Int) x13 x14 (rs[i].f1.length : Int) (j : Int) ((rs[i].f1[j].f1.length + 1 : Nat) : Int) ((0 : Nat) : Int) a nm rs) (fun k => ?_) ?_
    · simp only [seqs_Places.l1]
      rw [rd_rule rs i hi, rd_conj _ j hlt]
      rw [if_pos (by omega), if_pos (by omega), if_pos (by omega), if_pos (by omega), if_pos (by omega), wrap_nat _ (by omega)]
      unfold plC
      simp
    · refine seqs_l2 a nm rs _ _ _ _ _ _ _ (by omega) R (rs[i].f1[j].f1.length + 1) 0 pre (by omega) (by rw [List.length_append] at hb; omega) ?_
      rw [wrap_nat j (by omega)]
      exact this
theorem seqs_l0 (a : Int) (nm : List ByteArray) (rs : List S42) (hl : rs.length < 1000000) (hsz : ∀ r ∈ rs, r.f1.length < 1000000 ∧ ∀ c ∈ r.f1, c.f1.length < 1000000) :
    ∀ (d i : Nat) (pre : List Pl), i + d = rs.length → (pre ++ plG i (rs.drop i)).length < 5864062014805 → Ev (fun k => seqs_Places.l0 k pre (rs.length : Int) (i : Int) a nm rs) (pre ++ plG i (rs.drop i), 0) := by
  intro d
  induction d with
  | zero =>
    intro i pre hi hb
    rw [show rs.drop i = [] from List.drop_eq_nil_iff.2 (by omega)]
    unfold plG
    rw [List.append_nil]
    refine Ev.step (f := fun _ => some (pre, 0)) (fun k => ?_) (Ev.now _)
    simp only [seqs_Places.l0]
    rw [if_neg (by omega)]
  | succ d ih =>
    intro i pre hi hb
    have hlt : i < rs.length := by omega
    rw [List.drop_eq_getElem_cons hlt] at hb ⊢
    unfold plG at hb ⊢
    rw [← List.append_assoc] at hb ⊢
    obtain ⟨h1, h2⟩ := hsz _ (List.getElem_mem hlt)
    refine Ev.step (f := fun k => seqs_Places.l1 k pre (i : Int) (rs.length : Int) (i : Int) (rs[i].f1.length : Int) ((0 : Nat) : Int) a nm rs) (fun k => ?_) ?_
    · simp only [seqs_Places.l0]
      rw [rd_rule rs i hlt, if_pos (by omega), if_pos (by omega), if_pos (by omega)]
      rfl
    · refine seqs_l1 a nm rs i hlt _ _ h1 h2 _ rs[i].f1.length 0 pre (by omega) (by rw [List.length_append] at hb; rw [List.drop_zero]; omega) ?_
      rw [wrap_nat i (by omega), List.drop_zero]
      exact ih (i + 1) _ (by omega) hb
/-! the document's -/
theorem ref6_l2 (a : Int) (nm : List ByteArray) (rs : List S42) (i j : Nat) (hi : i < rs.length) (hj : j < rs[i].f1.length) (hn : rs[i].f1[j].f1.length < 1000000) (R : (List Pl) × Int) :
    ∀ (d m : Nat) (pre : List Pl), m + d = rs[i].f1[j].f1.length + 1 → (pre ++ plC (i : Int) (j : Int) (rs[i].f1[j].f1.length + 1)).length < 5864062014805 → Ev (fun k => templeref6_Places.l1 k (pre ++ plC (i : Int) (j : Int) (rs[i].f1[j].f1.length + 1)) (i : Int) (wrap64 ((j : Int) + 1)) a nm rs) R →
      Ev (fun k => templeref6_Places.l2 k (pre ++ plC (i : Int) (j : Int) m) (i : Int) (j : Int) (m : Int) a nm rs) R := by
  intro d
  induction d with
  | zero =>
    intro m pre hm hb hc
    obtain rfl : m = rs[i].f1[j].f1.length + 1 := by omega
    refine Ev.step (fun k => ?_) hc
    simp only [templeref6_Places.l2]
    rw [rd_rule rs i hi, rd_conj _ j hj, if_pos (by omega), if_pos (by omega), if_pos (by omega), if_pos (by omega), if_neg (by omega)]
  | succ d ih =>
    intro m pre hm hb hc
    refine Ev.step (fun k => ?_) (ih (m + 1) pre (by omega) hb hc)
    simp only [templeref6_Places.l2]
    rw [List.length_append, plC_length] at hb
    rw [rd_rule rs i hi, rd_conj _ j hj, if_pos (by omega), if_pos (by omega), if_pos (by omega), if_pos (by omega), if_pos (by omega), if_pos (by rw [List.length_append, plC_length]; omega), wrap_nat m (by omega), plC_succ, List.append_assoc]
theorem ref6_l1 (a : Int) (nm : List ByteArray) (rs : List S42) (i : Nat) (hi : i < rs.length) (hsz : rs[i].f1.length < 1000000) (hsy : ∀ c ∈ rs[i].f1, c.f1.length < 1000000) (R : (List Pl) × Int) :
    ∀ (d j : Nat) (pre : List Pl), j + d = rs[i].f1.length → (pre ++ plR (i : Int) j (rs[i].f1.drop j)).length < 5864062014805 → Ev (fun k => templeref6_Places.l0 k (pre ++ plR (i : Int) j (rs[i].f1.drop j)) (wrap64 ((i : Int) + 1)) a nm rs) R →
      Ev (fun k => templeref6_Places.l1 k pre (i : Int) (j : Int) a nm rs) R := by
  intro d
  induction d with
  | zero =>
    intro j pre hj hb hc
    rw [show rs[i].f1.drop j = [] from List.drop_eq_nil_iff.2 (by omega)] at hc
    unfold plR at hc
    rw [List.append_nil] at hc
    refine Ev.step (fun k => ?_) hc
    simp only [templeref6_Places.l1]
    rw [rd_rule rs i hi, if_pos (by omega), if_pos (by omega), if_neg (by omega)]
  | succ d ih =>
    intro j pre hj hb hc
    have hlt : j < rs[i].f1.length := by omega
    rw [List.drop_eq_getElem_cons hlt] at hc hb
    unfold plR at hc hb
    have h1 := hsy _ (List.getElem_mem hlt)
    rw [← List.append_assoc] at hc hb
    have := ih (j + 1) (pre ++ plC (i : Int) (j : Int) (rs[i].f1[j].f1.length + 1)) (by omega) hb hc
    refine Ev.step (f := fun k => templeref6_Places.l2 k (pre ++ plC (i : Int) (j : Int) 0) (i : Int) (j : Int) ((0 : Nat) : Int) a nm rs) (fun k => ?_) ?_
    · simp only [templeref6_Places.l1]
      rw [rd_rule rs i hi]
      rw [if_pos (by omega), if_pos (by omega), if_pos (by omega)]
      unfold plC
      simp
    · refine ref6_l2 a nm rs i j hi hlt h1 R (rs[i].f1[j].f1.length + 1) 0 pre (by omega) (by rw [List.length_append] at hb; omega) ?_
      rw [wrap_nat j (by omega)]
      exact this
theorem ref6_l0 (a : Int) (nm : List ByteArray) (rs : List S42) (hl : rs.length < 1000000) (hsz : ∀ r ∈ rs, r.f1.length < 1000000 ∧ ∀ c ∈ r.f1, c.f1.length < 1000000) :
    ∀ (d i : Nat) (pre : List Pl), i + d = rs.length → (pre ++ plG i (rs.drop i)).length < 5864062014805 → Ev (fun k => templeref6_Places.l0 k pre (i : Int) a nm rs) (pre ++ plG i (rs.drop i), 0) := by
  intro d
  induction d with
  | zero =>
    intro i pre hi hb
    rw [show rs.drop i = [] from List.drop_eq_nil_iff.2 (by omega)]
    unfold plG
    rw [List.append_nil]
    refine Ev.step (f := fun _ => some (pre, 0)) (fun k => ?_) (Ev.now _)
    simp only [templeref6_Places.l0]
    rw [if_neg (by omega)]
  | succ d ih =>
    intro i pre hi hb
    have hlt : i < rs.length := by omega
    rw [List.drop_eq_getElem_cons hlt] at hb ⊢
    unfold plG at hb ⊢
    rw [← List.append_assoc] at hb ⊢
    obtain ⟨h1, h2⟩ := hsz _ (List.getElem_mem hlt)
    refine Ev.step (f := fun k => templeref6_Places.l1 k pre (i : Int) ((0 : Nat) : Int) a nm rs) (fun k => ?_) ?_
    · simp only [templeref6_Places.l0]
      rw [if_pos (by omega)]
      rfl
    · refine ref6_l1 a nm rs i hlt h1 h2 _ rs[i].f1.length 0 pre (by omega) (by rw [List.length_append] at hb; rw [List.drop_zero]; omega) ?_
      rw [wrap_nat i (by omega), List.drop_zero]
      exact ih (i + 1) _ (by omega) hb
end
/-! sizes -/
theorem may_sizes {a : Int} {nm : List ByteArray} {rs : List S42} (h : mayB a nm rs = true) : nm.length ≤ 64 ∧ rs.length ≤ 256 ∧ ∀ r ∈ rs, r.f1.length ≤ 8 ∧ ∀ c ∈ r.f1, c.f1.length ≤ 64 := by
  unfold mayB namesOk at h
  simp only [Bool.and_eq_true, decide_eq_true_eq] at h
  have key : ∀ (l : List S42) (n x s : Int), rulesFrom n x s l = true → ∀ r ∈ l, ruleB n r = true := by
    intro l
    induction l with
    | nil => intro n x s _ r hr; cases hr
    | cons y ys ih =>
      intro n x s e r hr
      unfold rulesFrom at e
      simp only [Bool.and_eq_true] at e
      rcases List.mem_cons.1 hr with rfl | hr
      · exact e.1.1
      · exact ih _ _ _ e.2 r hr
  refine ⟨h.1.1.1.1.2, h.1.1.2.2.2.2, fun r hr => ?_⟩
  have hb := key _ _ _ _ h.1.2 r hr
  unfold ruleB at hb
  simp only [Bool.and_eq_true, decide_eq_true_eq, List.all_eq_true] at hb
  refine ⟨hb.1.2, fun c hc => ?_⟩
  have := hb.2 c hc
  unfold conjB at this
  simp only [Bool.and_eq_true, decide_eq_true_eq] at this
  exact this.1
theorem plR_length (i : Int) : ∀ (l : List S45) (j : Nat), (∀ c ∈ l, c.f1.length ≤ 64) → (plR i j l).length ≤ 65 * l.length
  | [], j, _ => by unfold plR; simp
  | c :: cs, j, h => by
    have := plR_length i cs (j + 1) (fun c hc => h c (List.mem_cons_of_mem _ hc))
    have h1 := h c List.mem_cons_self
    unfold plR
    rw [List.length_append, plC_length, List.length_cons]
    omega
theorem plG_length : ∀ (l : List S42) (i : Nat), (∀ r ∈ l, r.f1.length ≤ 8 ∧ ∀ c ∈ r.f1, c.f1.length ≤ 64) → (plG i l).length ≤ 520 * l.length
  | [], i, _ => by unfold plG; simp
  | r :: rs, i, h => by
    have := plG_length rs (i + 1) (fun c hc => h c (List.mem_cons_of_mem _ hc))
    obtain ⟨h1, h2⟩ := h r List.mem_cons_self
    have h3 := plR_length (i : Int) r.f1 0 h2
    unfold plG
    rw [List.length_append, List.length_cons]
    omega
def placesB (a : Int) (nm : List ByteArray) (rs : List S42) : List Pl × Int := if mayB a nm rs then (plG 0 rs, 0) else ([], 1000)
theorem places_len (a : Int) (nm : List ByteArray) (rs : List S42) : (placesB a nm rs).1.length ≤ 133120 := by
  unfold placesB
  by_cases h : mayB a nm rs = true
  · rw [if_pos h]
    obtain ⟨_, h1, h2⟩ := may_sizes h
    have := plG_length rs 0 h2
    show (plG 0 rs).length ≤ _
    omega
  · rw [if_neg h]
    simp
theorem seqs_Places_ev (a : Int) (nm : List ByteArray) (rs : List S42) : Ev (fun k => seqs_Places.f k a nm rs) (placesB a nm rs) := by
  unfold seqs_Places.f placesB
  cases h : mayB a nm rs with
  | false => exact Ev.congr (fun k => by unfold gram_May.f; rw [h, Option.bind_some, if_neg (by simp)]; rfl) (Ev.now _)
  | true =>
    obtain ⟨_, h1, h2⟩ := may_sizes h
    have hl := plG_length rs 0 h2
    refine Ev.congr (f := fun k => seqs_Places.l0 k ([] : List Pl) (rs.length : Int) ((0 : Nat) : Int) a nm rs) (fun k => by unfold gram_May.f; rw [h, Option.bind_some, if_pos rfl]; rfl) ?_
    have := seqs_l0 a nm rs (by omega) (fun r hr => ⟨by have := (h2 r hr).1; omega, fun c hc => by have := (h2 r hr).2 c hc; omega⟩) rs.length 0 [] (by omega) (by rw [List.nil_append, List.drop_zero]; omega)
    rw [List.nil_append, List.drop_zero] at this
    exact this
theorem ref6_Places_ev (a : Int) (nm : List ByteArray) (rs : List S42) : Ev (fun k => templeref6_Places.f k a nm rs) (placesB a nm rs) := by
  obtain ⟨K1, e1⟩ := ref_May a nm rs
  dsimp only at e1
  unfold placesB
  cases h : mayB a nm rs with
  | false =>
    rw [h] at e1
    exact ⟨K1, fun k hk => by show templeref6_Places.f k a nm rs = _; unfold templeref6_Places.f; rw [e1 k hk, Option.bind_some, if_neg (by simp)]; rfl⟩
  | true =>
    rw [h] at e1
    obtain ⟨_, h1, h2⟩ := may_sizes h
    have hl := plG_length rs 0 h2
    have := ref6_l0 a nm rs (by omega) (fun r hr => ⟨by have := (h2 r hr).1; omega, fun c hc => by have := (h2 r hr).2 c hc; omega⟩) rs.length 0 [] (by omega) (by rw [List.nil_append, List.drop_zero]; omega)
    rw [List.nil_append, List.drop_zero] at this
    obtain ⟨K2, e2⟩ := this
    refine ⟨K1 + K2, fun k hk => ?_⟩
    show templeref6_Places.f k a nm rs = _
    unfold templeref6_Places.f
    rw [e1 k (by omega), Option.bind_some, if_pos rfl]
    exact e2 k (by omega)
/-! likeness -/
theorem rd_pl (l : List Pl) (i : Nat) (h : i < l.length) : rd_T47 l (i : Int) = l[i] := by
  unfold rd_T47
  rw [Int.toNat_natCast, List.getD_eq_getElem?_getD, List.getElem?_eq_getElem h]
  rfl
theorem samePlaces_self (l : List Pl) (hl : l.length < 9223372036854775807) : Ev (fun k => templelaw0_SamePlaces.f k l l) true := by
  have key : ∀ d i : Nat, i + d = l.length → Ev (fun k => templelaw0_SamePlaces.l0 k l l (i : Int)) true := by
    intro d
    induction d with
    | zero =>
      intro i hi
      refine Ev.step (f := fun _ => some true) (fun k => ?_) (Ev.now _)
      simp only [templelaw0_SamePlaces.l0]
      rw [if_neg (by omega)]
    | succ d ih =>
      intro i hi
      refine Ev.step (f := fun k => templelaw0_SamePlaces.l0 k l l ((i + 1 : Nat) : Int)) (fun k => ?_) (ih (i + 1) (by omega))
      simp only [templelaw0_SamePlaces.l0]
      rw [if_pos (by omega), if_pos (by omega), if_pos (by omega), if_neg (by simp), wrap_nat i (by omega)]
  refine Ev.congr (f := fun k => templelaw0_SamePlaces.l0 k l l ((0 : Nat) : Int)) (fun k => ?_) (key l.length 0 (by omega))
  unfold templelaw0_SamePlaces.f
  rw [if_pos rfl]
  rfl
theorem spoilPlaces_ev (l : List Pl) (hl : l.length < 9223372036854775807) : ∃ r, Ev (fun k => templelaw0_SpoilPlaces.f k l) r := by
  have key : ∀ (d i : Nat) (x : List Pl), x.length = l.length → i + d = l.length → ∃ r, Ev (fun k => templelaw0_SpoilPlaces.l0 k x (i : Int)) r := by
    intro d
    induction d with
    | zero =>
      intro i x hx hi
      refine ⟨x, Ev.step (f := fun _ => some x) (fun k => ?_) (Ev.now _)⟩
      simp only [templelaw0_SpoilPlaces.l0]
      rw [if_neg (by omega)]
    | succ d ih =>
      intro i x hx hi
      obtain ⟨r, hr⟩ := ih (i + 1) (x.set i (⟨Go.bits .xor .i64 ((rd_T47 x (i : Int)).f0) 90, (rd_T47 x (i : Int)).f1, (rd_T47 x (i : Int)).f2⟩ : Pl)) (by rw [List.length_set]; exact hx) (by omega)
      refine ⟨r, Ev.step (fun k => ?_) hr⟩
      simp only [templelaw0_SpoilPlaces.l0]
      rw [if_pos (by omega), if_pos (by omega), wrap_nat i (by omega), Int.toNat_natCast]
  obtain ⟨r, hr⟩ := key l.length 0 l rfl (by omega)
  exact ⟨r, hr⟩
end Go.Proofs.Ytfnfodhppobljaa.PL10
