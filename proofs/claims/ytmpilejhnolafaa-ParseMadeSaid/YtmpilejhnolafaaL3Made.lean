/- Layer 3, plain: a text put together of its parts is what it was made of (ParseMade). -/
import Derived.Test.YtmpilejhnolafaaL3Pc
import Derived.Test.YtmpilejhnolafaaL3Awake
import Derived.Test.YtmpilejhnolafaaPPMx9
namespace Go.Proofs.Ytmpilejhnolafaa.PPM
open Go.RowKit Go.Proofs.YtmpilejhnolafaaW.PrintWords Go.Proofs.YtmpilejhnolafaaW.PrintLast
set_option linter.unusedVariables false
set_option linter.unusedSimpArgs false
def qn : ByteArray := ⟨#[81]⟩
def p3 (j : Int) : ByteArray := rdOf ByteArray.empty [(⟨#[32, 81, 32]⟩ : ByteArray), (⟨#[34, 97, 98, 34]⟩ : ByteArray), (⟨#[39, 97, 39, 46, 46, 39, 99, 39]⟩ : ByteArray)] j
def it3 (j : Int) : S48 := rd_T48 [(⟨0, (⟨#[81]⟩ : ByteArray), 0, 0⟩ : S48), (⟨1, (⟨#[97, 98]⟩ : ByteArray), 0, 0⟩ : S48), (⟨2, (⟨#[]⟩ : ByteArray), 97, 99⟩ : S48)] j
def tk3 (j : Int) : TokK := ((it3 j).f0, (it3 j).f1, (it3 j).f2, (it3 j).f3)
theorem txt_ab (y : BL) : txtL (97 :: 98 :: 34 :: y) = some ([97, 98], y) := by
  rw [txtL_some (x := (97, 98 :: 34 :: y)) (by simp) (by rfl), txtL_some (x := (98, 34 :: y)) (by simp) (by rfl), txtL_end (by rfl)]
  rfl
theorem pc_p3 (j : Int) (h0 : 0 ≤ j) (h1 : j < 3) : Pc (bl (p3 j)) [tk3 j] ∧ (p3 j).size ≤ 8 ∧ isItemB (tk3 j).1 = true := by
  have h : j = 0 ∨ j = 1 ∨ j = 2 := by omega
  rcases h with rfl | rfl | rfl
  · refine ⟨?_, by decide, by decide⟩
    rw [show bl (p3 0) = [32] ++ [81, 32] from by decide, show [tk3 0] = [] ++ [(0, (⟨#[81]⟩ : ByteArray), 0, 0)] from rfl]
    exact pc_app (pc_blank (by decide)) (pc_cons (r := [32]) (by decide) (by decide) (fun y => by rfl) (pc_blank (by decide)))
  · refine ⟨?_, by decide, by decide⟩
    rw [show bl (p3 1) = [34, 97, 98, 34] from by decide, show [tk3 1] = [(1, (⟨#[97, 98]⟩ : ByteArray), 0, 0)] from rfl]
    refine pc_cons (r := []) (by decide) (by decide) (fun y => ?_) pc_nil
    dsimp only [tokL]
    rw [if_neg (by decide), if_pos rfl]
    show (match txtL (97 :: 98 :: 34 :: y) with | none => _ | some x => _) = _
    rw [txt_ab]
    rfl
  · refine ⟨?_, by decide, by decide⟩
    rw [show bl (p3 2) = [39, 97, 39, 46, 46, 39, 99, 39] from by decide, show [tk3 2] = [(2, (⟨#[]⟩ : ByteArray), 97, 99)] from rfl]
    exact pc_cons (r := []) (by decide) (by decide) (fun y => by rfl) pc_nil
theorem pc_sign (c k : Int) (h1 : ¬ blankI c = true) (h2 : ¬ c = 35) (ht : ∀ y, tokL (c :: ([] ++ y)) = .inl (k, ⟨#[]⟩, 0, 0, [] ++ y)) : Pc [c] [(k, ⟨#[]⟩, 0, 0)] := pc_cons h1 h2 ht pc_nil
theorem pc_qend : Pc [81, 59] [(0, qn, 0, 0), (8, ⟨#[]⟩, 0, 0)] := pc_cons (r := [59]) (by decide) (by decide) (fun y => by rfl) (pc_cons (r := []) (by decide) (by decide) (fun y => rfl) pc_nil)
theorem pc_head : Pc [115, 116, 97, 114, 116, 32, 81, 32, 59, 32, 81, 61] [(3, ⟨#[]⟩, 0, 0), (0, qn, 0, 0), (8, ⟨#[]⟩, 0, 0), (0, qn, 0, 0), (4, ⟨#[]⟩, 0, 0)] := by
  have b : ∀ {c : Int} {r : BL} {ks : List TokK}, blankI c = true → Pc r ks → Pc (c :: r) ks := fun {c} {r} {ks} h hr => pc_app (l := [c]) (ks := []) (pc_blank h) hr
  exact pc_cons (r := [32, 81, 32, 59, 32, 81, 61]) (by decide) (by decide) (fun y => by rfl) (b (by decide) (pc_cons (r := [32, 59, 32, 81, 61]) (by decide) (by decide) (fun y => by rfl) (b (by decide) (pc_cons (r := [32, 81, 61]) (by decide) (by decide) (fun y => by rfl) (b (by decide) (pc_cons (r := [61]) (by decide) (by decide) (fun y => by rfl) (pc_cons (r := []) (by decide) (by decide) (fun y => by rfl) pc_nil)))))))
section
variable (S : List ByteArray) (nm : ByteArray) (bs : List (List S46)) (cs : List S46) (neg : Bool) (its : List S48)
def D6 : List S42 := [⟨nm, bs ++ [cs ++ [⟨neg, its⟩]]⟩]
def D4 : List S42 := [⟨nm, bs ++ [cs]⟩]
theorem kinds {k : Int} (h : isItemB k = true) : k ≠ 5 ∧ k ≠ 6 ∧ k ≠ 8 ∧ k ≠ 7 := by
  have := isItem_kind h
  omega
theorem run_6i (x : TokK) (hx : isItemB x.1 = true) : okP (runP ([x].map tokE) 6 S (D6 nm bs cs neg its)) = some (6, S, D6 nm bs cs neg (its ++ [itemP (tokE x)])) := by
  obtain ⟨h5, h6, h8, _⟩ := kinds hx
  have e : takeP 6 S (D6 nm bs cs neg its) (tokE x) = some (6, S, addItem (tokE x) ([] ++ [⟨nm, bs ++ [cs ++ [⟨neg, its⟩]]⟩])) := by
    unfold takeP
    rw [if_neg (by decide), if_neg (by decide), if_neg (by decide), if_neg (by decide), if_neg (by decide), if_neg (by decide), if_neg (show ¬ (tokE x).f0 = 5 from h5), if_neg (show ¬ (tokE x).f0 = 6 from h6), if_neg (show ¬ (tokE x).f0 = 8 from h8), if_pos (show isItemB (tokE x).f0 = true from hx)]
    rfl
  rw [addItem_at] at e
  show okP (runP (tokE x :: []) 6 S _) = _
  rw [runP_cons, e]
  rfl
theorem run_4i (x : TokK) (hx : isItemB x.1 = true) : okP (runP ([x].map tokE) 4 S (D4 nm bs cs)) = some (6, S, D6 nm bs cs false [itemP (tokE x)]) := by
  obtain ⟨_, _, _, h7⟩ := kinds hx
  have e : takeP 4 S (D4 nm bs cs) (tokE x) = some (6, S, addItem (tokE x) (addConj false ([] ++ [⟨nm, bs ++ [cs]⟩]))) := by
    unfold takeP
    rw [if_neg (by decide), if_neg (by decide), if_neg (by decide), if_neg (by decide), if_pos rfl, if_neg (show ¬ (tokE x).f0 = 7 from h7), if_pos (show isItemB (tokE x).f0 = true from hx)]
    rfl
  rw [addConj_at, addItem_at] at e
  show okP (runP (tokE x :: []) 4 S _) = _
  rw [runP_cons, e]
  rfl
theorem run_4n (x : TokK) (hx : isItemB x.1 = true) : okP (runP ([((7, ⟨#[]⟩, 0, 0) : TokK), x].map tokE) 4 S (D4 nm bs cs)) = some (6, S, D6 nm bs cs true [itemP (tokE x)]) := by
  have e0 : takeP 4 S (D4 nm bs cs) (tokE (7, ⟨#[]⟩, 0, 0)) = some (5, S, addConj true ([] ++ [⟨nm, bs ++ [cs]⟩])) := rfl
  rw [addConj_at] at e0
  have e : takeP 5 S ([] ++ [⟨nm, bs ++ [cs ++ [⟨true, []⟩]]⟩]) (tokE x) = some (6, S, addItem (tokE x) ([] ++ [⟨nm, bs ++ [cs ++ [⟨true, []⟩]]⟩])) := by
    unfold takeP
    rw [if_neg (by decide), if_neg (by decide), if_neg (by decide), if_neg (by decide), if_neg (by decide), if_pos rfl, if_pos (show isItemB (tokE x).f0 = true from hx)]
  rw [addItem_at] at e
  show okP (runP (tokE (7, ⟨#[]⟩, 0, 0) :: tokE x :: []) 4 S _) = _
  rw [runP_cons, e0]
  show okP (runP (tokE x :: []) 5 S _) = _
  rw [runP_cons, e]
  rfl
theorem run_6and : okP (runP ([((6, ⟨#[]⟩, 0, 0) : TokK)].map tokE) 6 S (D6 nm bs cs neg its)) = some (4, S, D4 nm bs (cs ++ [⟨neg, its⟩])) := rfl
theorem run_6bar : okP (runP ([((5, ⟨#[]⟩, 0, 0) : TokK)].map tokE) 6 S (D6 nm bs cs neg its)) = some (4, S, D4 nm (bs ++ [cs ++ [⟨neg, its⟩]]) []) := by
  have e : takeP 6 S (D6 nm bs cs neg its) (tokE (5, ⟨#[]⟩, 0, 0)) = some (4, S, addAlt ([] ++ [⟨nm, bs ++ [cs ++ [⟨neg, its⟩]]⟩])) := rfl
  rw [addAlt_at] at e
  show okP (runP (tokE (5, ⟨#[]⟩, 0, 0) :: []) 6 S _) = _
  rw [runP_cons, e]
  rfl
theorem run_6end : okP (runP ([((8, ⟨#[]⟩, 0, 0) : TokK)].map tokE) 6 S (D6 nm bs cs neg its)) = some (0, S, D6 nm bs cs neg its) := rfl
theorem run_4end : okP (runP ([((0, qn, 0, 0) : TokK), (8, ⟨#[]⟩, 0, 0)].map tokE) 4 S (D4 nm bs cs)) = some (0, S, D6 nm bs cs false [⟨0, qn, 0, 0⟩]) := by
  have h := run_4i S nm bs cs (0, qn, 0, 0) (by decide)
  have := ok_app ([((0, qn, 0, 0) : TokK)].map tokE) ([((8, ⟨#[]⟩, 0, 0) : TokK)].map tokE) 4 S (D4 nm bs cs) h
  rw [← List.map_append] at this
  exact this.trans rfl
end
/-- What has been put together, and how it is read. -/
structure MI (s : ByteArray) (i : Nat) (item : Bool) (dA : List (List S46)) (alt : List S46) (neg : Bool) (its : List S48) : Prop where
  sz : s.size ≤ 12 + 10 * i
  l1 : dA.length ≤ i
  l2 : alt.length ≤ i
  l3 : its.length ≤ i
  run : ∃ ks, Pc (bl s) ks ∧ okP (runP (ks.map tokE) 0 [] []) = if item = true then some (6, [qn], D6 qn dA alt neg its) else some (4, [qn], D4 qn dA alt)
  no : item = false → neg = false ∧ its = []
  yes : item = true → its ≠ []
theorem MI.app {s : ByteArray} {i : Nat} {item : Bool} {dA : List (List S46)} {alt : List S46} {neg : Bool} {its : List S48} (h : MI s i item dA alt neg its) {p : ByteArray} {ks' : List TokK} {st : Int} {S' : List ByteArray} {D' : List S42} (hp : Pc (bl p) ks')
    (hr : okP (runP (ks'.map tokE) (if item = true then 6 else 4) [qn] (if item = true then D6 qn dA alt neg its else D4 qn dA alt)) = some (st, S', D')) : ∃ ks, Pc (bl (s ++ p)) ks ∧ okP (runP (ks.map tokE) 0 [] []) = some (st, S', D') := by
  obtain ⟨ks, h1, h2⟩ := h.run
  refine ⟨ks ++ ks', by rw [bl_app]; exact pc_app h1 hp, ?_⟩
  rw [List.map_append]
  cases item with
  | true => rw [ok_app _ _ _ _ _ (h2.trans (if_pos rfl))]; exact hr
  | false => rw [ok_app _ _ _ _ _ (h2.trans (if_neg (by decide)))]; exact hr
section
variable (xs : List Int)
theorem made_ok {s : ByteArray} {S : List ByteArray} {D : List S42} (hs : s.size ≤ 1000) (h : ∃ ks, Pc (bl s) ks ∧ okP (runP (ks.map tokE) 0 [] []) = some (0, S, D)) : ∃ K, ∀ k, K ≤ k → note_Parse.f k s = some (S, D, 0, 0) ∧ templelaw0_SameRaw.f k S D S D = some true := by
  obtain ⟨ks, hp, hr⟩ := h
  obtain ⟨e, hz⟩ := parse_of_pc hp (by omega) hr
  obtain ⟨K1, h1⟩ := parse_ev s
  obtain ⟨K2, h2⟩ := sameRaw_self S D hz
  rw [e] at h1
  dsimp only at h1 h2
  exact ⟨K1 + K2, fun k hk => ⟨h1 k (by omega), h2 k (by omega)⟩⟩
theorem made_fin (s : ByteArray) (i : Nat) (hi : i ≤ 40) (x8 : Int) (item : Bool) (dA : List (List S46)) (alt : List S46) (neg : Bool) (its : List S48) (h : MI s i item dA alt neg its) : Ev (fun k => templelaw3_ParseMade.j1 k xs s alt item x8 false qn dA neg its) true := by
  have hsz := h.sz
  have l1 := h.l1
  have l2 := h.l2
  have l3 := h.l3
  have num : ∀ x : Int, templelaw0_Num.f x = some x := fun _ => rfl
  cases item with
  | true =>
    have hr := h.app (p := ⟨#[59]⟩) (ks' := [(8, ⟨#[]⟩, 0, 0)]) (by rw [show bl ⟨#[59]⟩ = [59] from by decide]; exact pc_cons (r := []) (by decide) (by decide) (fun y => rfl) pc_nil) (run_6end [qn] qn dA alt neg its)
    obtain ⟨K, hK⟩ := made_ok (by rw [ByteArray.size_append]; show s.size + 1 ≤ 1000; omega) hr
    refine ⟨K + 1, fun k hk => ?_⟩
    obtain ⟨k, rfl⟩ : ∃ j, k = j + 1 := ⟨k - 1, by omega⟩
    obtain ⟨g1, g2⟩ := hK k (by omega)
    simp only [templelaw3_ParseMade.j1]
    rw [if_neg (by decide), if_pos trivial, if_pos (by omega), if_pos (by omega), if_pos (by omega)]
    exact st_bind3 g1 (st_bind3 (num _) ((if_pos rfl).trans (st_bind3 g2 rfl)))
  | false =>
    obtain ⟨rfl, rfl⟩ := h.no rfl
    have hr := h.app (p := ⟨#[81, 59]⟩) (ks' := [(0, qn, 0, 0), (8, ⟨#[]⟩, 0, 0)]) (by rw [show bl ⟨#[81, 59]⟩ = [81, 59] from by decide]; exact pc_qend) (run_4end [qn] qn dA alt)
    have es : (s ++ (⟨#[81]⟩ : ByteArray)) ++ (⟨#[59]⟩ : ByteArray) = s ++ (⟨#[81, 59]⟩ : ByteArray) := by
      rw [ByteArray.append_assoc]
      rfl
    obtain ⟨K, hK⟩ := made_ok (by rw [ByteArray.size_append]; show s.size + 2 ≤ 1000; omega) hr
    refine ⟨K + 1, fun k hk => ?_⟩
    obtain ⟨k, rfl⟩ : ∃ j, k = j + 1 := ⟨k - 1, by omega⟩
    obtain ⟨g1, g2⟩ := hK k (by omega)
    simp only [templelaw3_ParseMade.j1]
    rw [if_neg (by decide), if_neg (by decide), if_pos (by omega), if_pos (by simp), if_pos (by omega), if_pos (by omega), if_pos (by rw [ByteArray.size_append]; show s.size + 1 + 1 ≤ _; omega), es]
    exact st_bind3 g1 (st_bind3 (num _) ((if_pos rfl).trans (st_bind3 g2 rfl)))
theorem ix6 (v : Int) : 0 ≤ wrap64 (Int.tmod (IntKind.u64.wrap v) 6) ∧ wrap64 (Int.tmod (IntKind.u64.wrap v) 6) < 6 := by
  have h : IntKind.u64.wrap v = v % 18446744073709551616 := rfl
  rw [Int.tmod_eq_emod_of_nonneg (by rw [h]; omega)]
  unfold wrap64
  rw [h]
  omega
def MG (i : Nat) : Prop := ∀ (s : ByteArray) (item : Bool) (dA : List (List S46)) (alt : List S46) (neg : Bool) (its : List S48), MI s i item dA alt neg its → Ev (fun k => templelaw3_ParseMade.l0 k xs s alt item (i : Int) qn dA neg its) true
theorem sz2 (a b : ByteArray) : (a ++ b).size = a.size + b.size := ByteArray.size_append
/-- An item comes. -/
theorem made_item (s : ByteArray) (i : Nat) (hi : i < 40) (k6 : Int) (k0 : 0 ≤ k6) (k1 : k6 < 6) (item : Bool) (dA : List (List S46)) (alt : List S46) (neg : Bool) (its : List S48) (h : MI s i item dA alt neg its) (ih : MG xs (i + 1)) : Ev (fun k => templelaw3_ParseMade.j2 k xs s alt item (i : Int) k6 true qn dA neg its) true := by
  have hsz := h.sz
  have l1 := h.l1
  have l2 := h.l2
  have l3 := h.l3
  have hw := wrap_nat i (by omega)
  have j0 : 0 ≤ Int.tmod k6 3 := by rw [Int.tmod_eq_emod_of_nonneg k0]; omega
  have j1 : Int.tmod k6 3 < 3 := by rw [Int.tmod_eq_emod_of_nonneg k0]; omega
  generalize hj : Int.tmod k6 3 = j at j0 j1
  obtain ⟨q1, q2, q3⟩ := pc_p3 j j0 j1
  have eit : itemP (tokE (tk3 j)) = it3 j := rfl
  cases item with
  | true =>
    have hne := h.yes rfl
    have b := ih (s ++ p3 j) true dA alt neg (its ++ [it3 j]) ⟨by rw [sz2]; omega, by omega, by omega, by simp; omega, by
      rw [if_pos rfl, ← eit]
      exact h.app q1 (run_6i [qn] qn dA alt neg its (tk3 j) q3), fun e => (by cases e), fun _ => by simp⟩
    refine Ev.step (fun k => ?_) b
    simp only [templelaw3_ParseMade.j2]
    rw [if_pos trivial, if_pos trivial, Option.bind_some, hj, if_pos j0, if_pos (by simp only [List.length_cons, List.length_nil]; omega), Option.bind_some, if_pos (by simp only [List.length_cons, List.length_nil]; omega), if_pos (by show s.size + (p3 j).size ≤ _; omega), if_pos (by omega), hw]
    rfl
  | false =>
    obtain ⟨rfl, rfl⟩ := h.no rfl
    by_cases ho : Go.bits .and .i64 k6 1 = 1
    · have b := ih ((s ++ (⟨#[126]⟩ : ByteArray)) ++ p3 j) true dA alt true [it3 j] ⟨by rw [sz2, sz2]; show s.size + 1 + _ ≤ _; omega, by omega, by omega, by simp, by
        rw [if_pos rfl, ← eit, ByteArray.append_assoc]
        refine h.app (ks' := [(7, ⟨#[]⟩, 0, 0)] ++ [tk3 j]) ?_ (run_4n [qn] qn dA alt (tk3 j) q3)
        rw [bl_app, show bl ⟨#[126]⟩ = [126] from by decide]
        exact pc_app (pc_cons (r := []) (by decide) (by decide) (fun y => rfl) pc_nil) q1, fun e => (by cases e), fun _ => by simp⟩
      refine Ev.step (fun k => ?_) b
      simp only [templelaw3_ParseMade.j2]
      rw [if_pos trivial, if_neg (by decide), if_pos (by simp), if_pos ho, if_pos (by omega), Option.bind_some, hj, if_pos j0, if_pos (by simp only [List.length_cons, List.length_nil]; omega), Option.bind_some, if_pos (by simp only [List.length_cons, List.length_nil]; omega), if_pos (by show (s ++ _ : ByteArray).size + (p3 j).size ≤ _; rw [sz2]; show s.size + 1 + _ ≤ _; omega), if_pos (by simp), hw]
      rfl
    · have b := ih (s ++ p3 j) true dA alt false [it3 j] ⟨by rw [sz2]; omega, by omega, by omega, by simp, by
        rw [if_pos rfl, ← eit]
        exact h.app q1 (run_4i [qn] qn dA alt (tk3 j) q3), fun e => (by cases e), fun _ => by simp⟩
      refine Ev.step (fun k => ?_) b
      simp only [templelaw3_ParseMade.j2]
      rw [if_pos trivial, if_neg (by decide), if_pos (by simp), if_neg ho, Option.bind_some, hj, if_pos j0, if_pos (by simp only [List.length_cons, List.length_nil]; omega), Option.bind_some, if_pos (by simp only [List.length_cons, List.length_nil]; omega), if_pos (by show s.size + (p3 j).size ≤ _; omega), if_pos (by simp), hw]
      rfl
/-- A conjunct or an alternative ends. -/
theorem made_sign (s : ByteArray) (i : Nat) (hi : i < 40) (k6 : Int) (k0 : 3 ≤ k6) (k1 : k6 < 6) (dA : List (List S46)) (alt : List S46) (neg : Bool) (its : List S48) (h : MI s i true dA alt neg its) (ih : MG xs (i + 1)) : Ev (fun k => templelaw3_ParseMade.j2 k xs s alt true (i : Int) k6 false qn dA neg its) true := by
  have hsz := h.sz
  have l1 := h.l1
  have l2 := h.l2
  have l3 := h.l3
  have hw := wrap_nat i (by omega)
  have hand : Ev (fun k => templelaw3_ParseMade.l0 k xs (s ++ (⟨#[38]⟩ : ByteArray)) (alt ++ [⟨neg, its⟩]) false ((i + 1 : Nat) : Int) qn dA false []) true := ih (s ++ (⟨#[38]⟩ : ByteArray)) false dA (alt ++ [⟨neg, its⟩]) false [] ⟨by rw [sz2]; show s.size + 1 ≤ _; omega, by omega, by simp; omega, by simp, by
    rw [if_neg (by decide)]
    refine h.app (ks' := [(6, ⟨#[]⟩, 0, 0)]) ?_ (run_6and [qn] qn dA alt neg its)
    rw [show bl ⟨#[38]⟩ = [38] from by decide]
    exact pc_cons (r := []) (by decide) (by decide) (fun y => rfl) pc_nil, fun _ => ⟨rfl, rfl⟩, fun e => (by cases e)⟩
  by_cases h3 : k6 = 3
  · refine Ev.step (fun k => ?_) hand
    simp only [templelaw3_ParseMade.j2]
    rw [if_neg (by decide), if_pos h3, if_pos (by omega), if_pos (by omega), hw]
  by_cases h4 : k6 = 4
  · refine Ev.step (fun k => ?_) hand
    simp only [templelaw3_ParseMade.j2]
    rw [if_neg (by decide), if_neg h3, if_pos h4, if_pos (by omega), if_pos (by omega), hw]
  have b := ih (s ++ (⟨#[124]⟩ : ByteArray)) false (dA ++ [alt ++ [⟨neg, its⟩]]) [] false [] ⟨by rw [sz2]; show s.size + 1 ≤ _; omega, by simp; omega, by simp, by simp, by
    rw [if_neg (by decide)]
    refine h.app (ks' := [(5, ⟨#[]⟩, 0, 0)]) ?_ (run_6bar [qn] qn dA alt neg its)
    rw [show bl ⟨#[124]⟩ = [124] from by decide]
    exact pc_cons (r := []) (by decide) (by decide) (fun y => rfl) pc_nil, fun _ => ⟨rfl, rfl⟩, fun e => (by cases e)⟩
  refine Ev.step (fun k => ?_) b
  simp only [templelaw3_ParseMade.j2]
  rw [if_neg (by decide), if_neg h3, if_neg h4, if_pos (by omega), if_pos (by omega), if_pos (by omega), hw]
theorem made_l0 : ∀ (n i : Nat), 40 - i ≤ n → i ≤ 40 → MG xs i := by
  intro n
  induction n with
  | zero =>
    intro i hn hi s item dA alt neg its h
    obtain rfl : i = 40 := by omega
    refine Ev.step (fun k => ?_) (made_fin xs s 40 (Nat.le_refl _) ((40 : Nat) : Int) item dA alt neg its h)
    simp only [templelaw3_ParseMade.l0]
    split
    · congr 1
    · rfl
  | succ n ih =>
    intro i hn hi s item dA alt neg its h
    by_cases hlt : i < xs.length
    case neg =>
      refine Ev.step (fun k => ?_) (made_fin xs s i hi (i : Int) item dA alt neg its h)
      simp only [templelaw3_ParseMade.l0]
      rw [if_neg (by omega)]
    by_cases h40 : i < 40
    case neg =>
      refine Ev.step (fun k => ?_) (made_fin xs s i hi (i : Int) item dA alt neg its h)
      simp only [templelaw3_ParseMade.l0]
      rw [if_pos (by omega), decide_eq_false (by omega)]
    have ih := ih (i + 1) (by omega) (by omega)
    obtain ⟨k0, k1⟩ := ix6 (rd xs (i : Int))
    generalize hk : wrap64 (Int.tmod (IntKind.u64.wrap (rd xs (i : Int))) 6) = k6 at k0 k1
    refine Ev.step (f := fun k => templelaw3_ParseMade.j1 k xs s alt item (i : Int) true qn dA neg its) (fun k => ?_) ?_
    · simp only [templelaw3_ParseMade.l0]
      rw [if_pos (by omega), decide_eq_true (by omega)]
    by_cases h3 : k6 < 3
    · refine Ev.step (fun k => ?_) (made_item xs s i h40 k6 k0 k1 item dA alt neg its h ih)
      simp only [templelaw3_ParseMade.j1]
      rw [if_pos trivial, if_pos (by omega), if_pos (by omega), hk, if_pos h3]
    · cases item with
      | false =>
        refine Ev.step (fun k => ?_) (made_item xs s i h40 k6 k0 k1 false dA alt neg its h ih)
        simp only [templelaw3_ParseMade.j1]
        rw [if_pos trivial, if_pos (by omega), if_pos (by omega), hk, if_neg h3]
        rfl
      | true =>
        refine Ev.step (fun k => ?_) (made_sign xs s i h40 k6 (by omega) k1 dA alt neg its h ih)
        simp only [templelaw3_ParseMade.j1]
        rw [if_pos trivial, if_pos (by omega), if_pos (by omega), hk, if_neg h3]
        rfl
end
theorem made_pure (xs : List Int) : ∃ k, templelaw3_ParseMade.f k xs = some true := by
  obtain ⟨K1, h1⟩ := awake3
  obtain ⟨K2, h2⟩ := made_l0 xs 40 0 (by omega) (by omega) ⟨#[115, 116, 97, 114, 116, 32, 81, 32, 59, 32, 81, 61]⟩ false [] [] false [] ⟨by decide, by simp, by simp, by simp, by
    rw [if_neg (by decide)]
    exact ⟨[(3, ⟨#[]⟩, 0, 0), (0, qn, 0, 0), (8, ⟨#[]⟩, 0, 0), (0, qn, 0, 0), (4, ⟨#[]⟩, 0, 0)], by rw [show bl ⟨#[115, 116, 97, 114, 116, 32, 81, 32, 59, 32, 81, 61]⟩ = [115, 116, 97, 114, 116, 32, 81, 32, 59, 32, 81, 61] from by decide]; exact pc_head, rfl⟩, fun _ => ⟨rfl, rfl⟩, fun e => (by cases e)⟩
  refine ⟨K1 + K2, ?_⟩
  unfold templelaw3_ParseMade.f
  exact st_bind3 (h1 _ (by omega)) ((if_pos rfl).trans (h2 _ (by omega)))
end Go.Proofs.Ytmpilejhnolafaa.PPM
