/- The laws of layer 10, plain. -/
import Derived.Test.YtfnfodhppobljaaL10Places
import Derived.Test.YtfnfodhppobljaaL10Copy
import Derived.Test.YtfnfodhppobljaaPL10x11
import Derived.Test.YtfnfodhppobljaaPL10x11
import Derived.Test.YtfnfodhppobljaaPL10x11
import Derived.Test.YtfnfodhppobljaaPL10x8
namespace Go.Proofs.Ytfnfodhppobljaa.PL10
open Go.RowKit Go.Proofs.YtfnfodhppobljaaW.PrintWords Go.Proofs.YtfnfodhppobljaaW.PrintLast
set_option linter.unusedVariables false
set_option linter.unusedSimpArgs false
theorem count_ev (a : Int) (nm : List ByteArray) (rs : List S42) : Ev (fun k => seqs_Count.f k a nm rs) ((placesB a nm rs).1.length : Int) := by
  obtain ⟨K1, e1⟩ := seqs_Places_ev a nm rs
  dsimp only at e1
  refine ⟨K1, fun k hk => ?_⟩
  dsimp only
  unfold seqs_Count.f
  rw [e1 k hk, Option.bind_some]
theorem nameS : nameOk ⟨#[83]⟩ = true := by
  unfold nameOk
  rw [ByteArray.toList_eq]
  decide
theorem awakeMay : mayB 0 [(⟨#[83]⟩ : ByteArray)] [(⟨0, [⟨false, []⟩, ⟨false, [⟨0, 0, 0⟩]⟩]⟩ : S42)] = true := by
  unfold mayB namesOk namesFrom namesFrom
  rw [nameS]
  decide
theorem awake_ev : Ev (fun k => templelaw10_awake.f k) true := by
  have p1 : placesB 0 [(⟨#[83]⟩ : ByteArray)] [(⟨0, [⟨false, []⟩, ⟨false, [⟨0, 0, 0⟩]⟩]⟩ : S42)] = ([⟨0, 0, 0⟩, ⟨0, 1, 0⟩, ⟨0, 1, 1⟩], 0) := by
    unfold placesB
    rw [awakeMay, if_pos rfl]
    rfl
  have p2 : placesB 0 [] [] = ([], 1000) := by
    unfold placesB
    rw [show mayB 0 [] [] = false from by unfold mayB namesOk; rfl]
    rfl
  obtain ⟨K1, e1⟩ := seqs_Places_ev 0 [(⟨#[83]⟩ : ByteArray)] [(⟨0, [⟨false, []⟩, ⟨false, [⟨0, 0, 0⟩]⟩]⟩ : S42)]
  obtain ⟨K2, e2⟩ := seqs_Places_ev 0 [] []
  obtain ⟨K3, e3⟩ := count_ev 0 [(⟨#[83]⟩ : ByteArray)] [(⟨0, [⟨false, []⟩, ⟨false, [⟨0, 0, 0⟩]⟩]⟩ : S42)]
  obtain ⟨K4, e4⟩ := count_ev 0 [] []
  obtain ⟨K5, e5⟩ := samePlaces_self [⟨0, 0, 0⟩, ⟨0, 1, 0⟩, ⟨0, 1, 1⟩] (by decide)
  dsimp only at e1 e2 e3 e4 e5
  rw [p1] at e1 e3
  rw [p2] at e2 e4
  refine ⟨K1 + K2 + K3 + K4 + K5, fun k hk => ?_⟩
  dsimp only
  unfold templelaw10_awake.f
  rw [Option.bind_some, Option.bind_some, e1 k (by omega), Option.bind_some, e2 k (by omega), Option.bind_some, e5 k (by omega), Option.bind_some, if_pos rfl]
  unfold templelaw0_Num.f
  rw [Option.bind_some, if_pos rfl, Option.bind_some, if_pos rfl, e3 k (by omega), Option.bind_some, if_pos (by decide), e4 k (by omega), Option.bind_some]
  rfl
theorem rests_law (a : Int) (nm : List ByteArray) (rs : List S42) (hs : gramSized nm rs) : ∃ k, templelaw10_Rests.f k a nm rs = some true := by
  obtain ⟨K1, e1⟩ := copy_ev a nm rs hs
  obtain ⟨K2, e2⟩ := seqs_Places_ev a nm rs
  obtain ⟨K3, e3⟩ := ref6_Places_ev a nm rs
  have hpl := places_len a nm rs
  obtain ⟨K4, e4⟩ := samePlaces_self (placesB a nm rs).1 (by omega)
  obtain ⟨K5, e5⟩ := count_ev a nm rs
  obtain ⟨K6, e6⟩ := sameGrammar_self a nm rs hs
  obtain ⟨R, K7, e7⟩ := spoilPlaces_ev (placesB a nm rs).1 (by omega)
  obtain ⟨K8, e8⟩ := awake_ev
  dsimp only at e1 e2 e3 e4 e5 e6 e7 e8
  refine ⟨K1 + K2 + K3 + K4 + K5 + K6 + K7 + K8, ?_⟩
  unfold templelaw10_Rests.f templelaw0_Num.f
  rw [e1 _ (by omega), Option.bind_some]
  dsimp only
  rw [e2 _ (by omega), Option.bind_some, e3 _ (by omega), Option.bind_some, e4 _ (by omega), Option.bind_some, if_pos rfl, Option.bind_some, if_pos rfl, e5 _ (by omega), Option.bind_some, if_pos rfl,
    e6 _ (by omega), Option.bind_some, if_pos rfl, e7 _ (by omega), Option.bind_some, Option.bind_some, e4 _ (by omega), Option.bind_some, if_pos rfl, e8 _ (by omega), Option.bind_some]
/-! the rows, one by one -/
theorem rr_l2 (a : Int) (nm : List ByteArray) (rs : List S42) (ps pre post : List Pl) (hpl : ps.length < 1000000) (i j : Nat) (hi : i < rs.length) (hj : j < rs[i].f1.length) (hn : rs[i].f1[j].f1.length < 1000000)
    (hps : ps = pre ++ (plC (i : Int) (j : Int) (rs[i].f1[j].f1.length + 1) ++ post))
    (hc : Ev (fun k => templelaw10_RestsRows.l1 k ps ((pre.length + (rs[i].f1[j].f1.length + 1) : Nat) : Int) (i : Int) (wrap64 ((j : Int) + 1)) a nm rs) true) :
    ∀ d m : Nat, m + d = rs[i].f1[j].f1.length + 1 → Ev (fun k => templelaw10_RestsRows.l2 k ps ((pre.length + m : Nat) : Int) (i : Int) (j : Int) (m : Int) a nm rs) true := by
  intro d
  induction d with
  | zero =>
    intro m hm
    obtain rfl : m = rs[i].f1[j].f1.length + 1 := by omega
    refine Ev.step (fun k => ?_) hc
    simp only [templelaw10_RestsRows.l2]
    rw [rd_rule rs i hi, rd_conj _ j hj, if_pos (by omega), if_pos (by omega), if_pos (by omega), if_pos (by omega), if_neg (by omega)]
  | succ d ih =>
    intro m hm
    have hlen : ps.length = pre.length + (rs[i].f1[j].f1.length + 1 + post.length) := by rw [hps, List.length_append, List.length_append, plC_length]
    have hlt : pre.length + m < ps.length := by omega
    have hget : ps[pre.length + m] = ⟨(i : Int), (j : Int), (m : Int)⟩ := by
      have h2 : ps[pre.length + m]? = some ⟨(i : Int), (j : Int), (m : Int)⟩ := by
        rw [hps, List.getElem?_append_right (by omega), Nat.add_sub_cancel_left, List.getElem?_append_left (by rw [plC_length]; omega)]
        unfold plC
        rw [List.getElem?_map, List.getElem?_range (by omega)]
        rfl
      rw [List.getElem?_eq_getElem hlt] at h2
      exact Option.some.inj h2
    refine Ev.step (fun k => ?_) (ih (m + 1) (by omega))
    simp only [templelaw10_RestsRows.l2]
    rw [rd_rule rs i hi, rd_conj _ j hj, if_pos (by omega), if_pos (by omega), if_pos (by omega), if_pos (by omega), if_pos (by omega), if_neg (by omega), if_pos (by omega), if_pos (by omega), rd_pl ps _ hlt, hget, if_neg (by simp), wrap_nat m (by omega), wrap_nat (pre.length + m) (by omega)]
    rfl
theorem rr_l1 (a : Int) (nm : List ByteArray) (rs : List S42) (ps : List Pl) (hpl : ps.length < 1000000) (i : Nat) (hi : i < rs.length) (hsz : rs[i].f1.length < 1000000) (hsy : ∀ c ∈ rs[i].f1, c.f1.length < 1000000) (post : List Pl) :
    ∀ (d j : Nat) (pre : List Pl), j + d = rs[i].f1.length → ps = pre ++ (plR (i : Int) j (rs[i].f1.drop j) ++ post) → Ev (fun k => templelaw10_RestsRows.l0 k ps (((pre ++ plR (i : Int) j (rs[i].f1.drop j)).length : Nat) : Int) (wrap64 ((i : Int) + 1)) a nm rs) true →
      Ev (fun k => templelaw10_RestsRows.l1 k ps (pre.length : Int) (i : Int) (j : Int) a nm rs) true := by
  intro d
  induction d with
  | zero =>
    intro j pre hj hps hc
    rw [show rs[i].f1.drop j = [] from List.drop_eq_nil_iff.2 (by omega)] at hc
    unfold plR at hc
    rw [List.append_nil] at hc
    refine Ev.step (fun k => ?_) hc
    simp only [templelaw10_RestsRows.l1]
    rw [rd_rule rs i hi, if_pos (by omega), if_pos (by omega), if_neg (by omega)]
  | succ d ih =>
    intro j pre hj hps hc
    have hlt : j < rs[i].f1.length := by omega
    rw [List.drop_eq_getElem_cons hlt] at hc hps
    unfold plR at hc hps
    have h1 := hsy _ (List.getElem_mem hlt)
    rw [← List.append_assoc] at hc
    have hps2 := hps
    rw [List.append_assoc, ← List.append_assoc] at hps2
    have := ih (j + 1) (pre ++ plC (i : Int) (j : Int) (rs[i].f1[j].f1.length + 1)) (by omega) hps2 hc
    refine Ev.step (f := fun k => templelaw10_RestsRows.l2 k ps ((pre.length + 0 : Nat) : Int) (i : Int) (j : Int) ((0 : Nat) : Int) a nm rs) (fun k => ?_) ?_
    · simp only [templelaw10_RestsRows.l1]
      rw [rd_rule rs i hi, if_pos (by omega), if_pos (by omega), if_pos (by omega)]
      rfl
    · refine rr_l2 a nm rs ps pre (plR (i : Int) (j + 1) (rs[i].f1.drop (j + 1)) ++ post) hpl i j hi hlt h1 (by rw [hps, List.append_assoc]) ?_ (rs[i].f1[j].f1.length + 1) 0 (by omega)
      rw [List.length_append, plC_length] at this
      rw [wrap_nat j (by omega)]
      exact this
theorem rr_l0 (a : Int) (nm : List ByteArray) (rs : List S42) (hm : mayB a nm rs = true) :
    ∀ (d i : Nat) (pre : List Pl), i + d = rs.length → plG 0 rs = pre ++ plG i (rs.drop i) → Ev (fun k => templelaw10_RestsRows.l0 k (plG 0 rs) (pre.length : Int) (i : Int) a nm rs) true := by
  obtain ⟨_, g1, g2⟩ := may_sizes hm
  have hl := plG_length rs 0 g2
  have hp : (placesB a nm rs).1 = plG 0 rs := by unfold placesB; rw [hm, if_pos rfl]
  intro d
  induction d with
  | zero =>
    intro i pre hi hps
    rw [show rs.drop i = [] from List.drop_eq_nil_iff.2 (by omega)] at hps
    unfold plG at hps
    rw [List.append_nil] at hps
    obtain ⟨K1, e1⟩ := count_ev a nm rs
    dsimp only at e1
    rw [hp] at e1
    refine ⟨K1 + 1, fun k hk => ?_⟩
    obtain ⟨k, rfl⟩ : ∃ j, k = j + 1 := ⟨k - 1, by omega⟩
    simp only [templelaw10_RestsRows.l0]
    have e2 := e1 k (by omega)
    have e3 : (pre.length : Int) = ((plG 0 rs).length : Int) := by
      have : plG 0 rs = pre := by
        rw [← hps]
        cases rs with
        | nil => rfl
        | cons _ _ => rfl
      rw [this]
    rw [if_neg (by omega), if_pos e3, e2, Option.bind_some, e3]
    simp
  | succ d ih =>
    intro i pre hi hps
    have hlt : i < rs.length := by omega
    rw [List.drop_eq_getElem_cons hlt] at hps
    have hps1 : plG 0 rs = pre ++ (plR (i : Int) 0 rs[i].f1 ++ plG (i + 1) (rs.drop (i + 1))) := by
      rw [hps]
      rfl
    obtain ⟨h1, h2⟩ := g2 _ (List.getElem_mem hlt)
    have := ih (i + 1) (pre ++ plR (i : Int) 0 rs[i].f1) (by omega) (by rw [hps1, List.append_assoc])
    refine Ev.step (f := fun k => templelaw10_RestsRows.l1 k (plG 0 rs) (pre.length : Int) (i : Int) ((0 : Nat) : Int) a nm rs) (fun k => ?_) ?_
    · simp only [templelaw10_RestsRows.l0]
      rw [if_pos (by omega)]
      rfl
    · refine rr_l1 a nm rs _ (by omega) i hlt (by omega) (fun c hc => by have := h2 c hc; omega) (plG (i + 1) (rs.drop (i + 1))) rs[i].f1.length 0 pre (by omega) (by rw [List.drop_zero]; exact hps1) ?_
      rw [wrap_nat i (by omega), List.drop_zero]
      exact this
theorem restsRows_law (a : Int) (nm : List ByteArray) (rs : List S42) : ∃ k, templelaw10_RestsRows.f k a nm rs = some true := by
  obtain ⟨K1, e1⟩ := awake_ev
  obtain ⟨K2, e2⟩ := seqs_Places_ev a nm rs
  obtain ⟨K3, e3⟩ := ref_May a nm rs
  obtain ⟨K4, e4⟩ := count_ev a nm rs
  dsimp only at e1 e2 e3 e4
  unfold placesB at e2 e4
  cases hm : mayB a nm rs with
  | false =>
    rw [hm, if_neg (by simp)] at e2 e4
    rw [hm] at e3
    refine ⟨K1 + K2 + K3 + K4, ?_⟩
    unfold templelaw10_RestsRows.f templelaw0_Num.f
    rw [e1 _ (by omega), Option.bind_some, if_pos rfl, e2 _ (by omega), Option.bind_some, Option.bind_some, if_neg (by simp), e3 _ (by omega), Option.bind_some, if_neg (by simp), e4 _ (by omega), Option.bind_some]
    rfl
  | true =>
    rw [hm, if_pos rfl] at e2 e4
    obtain ⟨K5, e5⟩ := rr_l0 a nm rs hm rs.length 0 [] (by omega) (by rw [List.drop_zero, List.nil_append])
    dsimp only at e5
    refine ⟨K1 + K2 + K3 + K4 + K5, ?_⟩
    unfold templelaw10_RestsRows.f templelaw0_Num.f
    rw [e1 _ (by omega), Option.bind_some, if_pos rfl, e2 _ (by omega), Option.bind_some, Option.bind_some, if_pos rfl]
    exact e5 _ (by omega)
end Go.Proofs.Ytfnfodhppobljaa.PL10
