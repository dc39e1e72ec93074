/- Layer 3, plain: two texts that parse make both's declarations (ParseJoins). -/
import Derived.Test.YtmpilejhnolafaaL3Parse
import Derived.Test.YtmpilejhnolafaaL3Pc
import Derived.Test.YtmpilejhnolafaaL3Awake
import Derived.Test.YtmpilejhnolafaaPPJx9
namespace Go.Proofs.Ytmpilejhnolafaa.PPJ
open Go.RowKit Go.Proofs.YtmpilejhnolafaaW.PrintWords Go.Proofs.YtmpilejhnolafaaW.PrintLast
set_option linter.unusedVariables false
set_option linter.unusedSimpArgs false
theorem runP_mov (d : Int) : ∀ (us : List TokN) (st : Int) (S : List ByteArray) (D : List S42),
    runP ((us.map (movT d)).map toTok) st S D = match runP (us.map toTok) st S D with | .inl q => .inl q | .inr e => .inr (e + d)
  | [], _, _, _ => rfl
  | u :: us, st, S, D => by
    rw [List.map_cons, List.map_cons, List.map_cons, runP_cons, runP_cons, show takeP st S D (toTok (movT d u)) = takeP st S D (toTok u) from rfl]
    cases takeP st S D (toTok u) with
    | none => rfl
    | some q => exact runP_mov d us q.1 q.2.1 q.2.2
/-- What two texts make, one behind the other. -/
theorem parse_join {s t : ByteArray} {S : List ByteArray} {D : List S42} {p : Int} (h : parseB s = (S, D, p, 0)) (hl : s.size + 1 + t.size ≤ 65536) :
    parseB (s ++ ⟨#[10]⟩ ++ t) = if (parseB t).2.2.2 = 0 then (S ++ (parseB t).1, D ++ (parseB t).2.1, 0, 0) else ([], [], (parseB t).2.2.1 + ((s.size : Int) + 1), (parseB t).2.2.2) := by
  have hsz : (s ++ ⟨#[10]⟩ ++ t).size = s.size + 1 + t.size := by rw [ByteArray.size_append, ByteArray.size_append]; rfl
  have hbl : bl (s ++ ⟨#[10]⟩ ++ t) = bl s ++ 10 :: bl t := by
    rw [bl_app, bl_app, List.append_assoc]
    rfl
  unfold parseB at h
  rw [if_neg (by omega)] at h
  cases hx : lexL s.size (bl s) with
  | inr e =>
    rw [hx] at h
    simp at h
  | inl ts =>
    rw [hx] at h
    dsimp only at h
    unfold parseL at h
    cases hr : runP (ts.map toTok) 0 [] [] with
    | inr e =>
      rw [hr] at h
      simp at h
    | inl q =>
      rw [hr] at h
      dsimp only at h
      by_cases hq : q.1 = 0
      case neg =>
        rw [if_neg hq] at h
        simp at h
      rw [if_pos hq] at h
      injection h with h1 h2
      injection h2 with h2 h3
      obtain ⟨q1, q2, q3⟩ := q
      dsimp only at hq h1 h2
      subst hq h1 h2
      have hj := lexL_join (bl t) (bl s).length (bl s) (s.size + 1 + t.size) s.size ts (Nat.le_refl _) (by rw [bl_length]) hx
      have hm := lexL_mov (s.size + 1) (bl t).length (bl t) (s.size + 1 + t.size) t.size (Nat.le_refl _) (by omega)
      have hb : parseB (s ++ ⟨#[10]⟩ ++ t) = match lexL (s.size + 1 + t.size) (bl s ++ 10 :: bl t) with | .inr e => ([], [], e.1, 300) | .inl us => parseL ((s.size + 1 + t.size : Nat) : Int) (us.map toTok) := by
        unfold parseB
        rw [hsz, hbl, if_neg (by omega)]
        cases lexL (s.size + 1 + t.size) (bl s ++ 10 :: bl t) <;> rfl
      have ht : parseB t = match lexL t.size (bl t) with | .inr e => ([], [], e.1, 300) | .inl us => parseL (t.size : Int) (us.map toTok) := by
        unfold parseB
        rw [if_neg (by omega)]
        cases lexL t.size (bl t) <;> rfl
      cases hy : lexL t.size (bl t) with
      | inr e =>
        rw [hy] at ht hm
        rw [ht, hb, hj, hm]
        dsimp only [movR, joinR]
        rw [if_neg (by decide)]
        congr 3
      | inl us =>
        rw [hy] at ht hm
        dsimp only at ht
        rw [hb, hj, hm]
        dsimp only [movR, joinR]
        rw [List.map_append]
        unfold parseL at ht ⊢
        rw [runP_app, hr]
        dsimp only
        have hf := runP_front q2 q3 ((us.map (movT ((s.size + 1 : Nat) : Int))).map toTok) 0 [] [] (Int.le_refl _) (fun h => absurd h (by decide))
        rw [List.append_nil, List.append_nil] at hf
        rw [hf, runP_mov]
        cases hz : runP (us.map toTok) 0 [] [] with
        | inl z =>
          rw [hz] at ht
          dsimp only at ht ⊢
          by_cases h0 : z.1 = 0
          · rw [if_pos h0] at ht
            rw [ht, if_pos h0, if_pos rfl]
          · rw [if_neg h0] at ht
            rw [ht, if_neg h0, if_neg (show ¬ (300 : Int) = 0 by decide)]
            dsimp only
            congr 3
            omega
        | inr e =>
          rw [hz] at ht
          dsimp only at ht ⊢
          rw [ht, if_neg (show ¬ (300 : Int) = 0 by decide)]
          rfl
theorem run_inr : ∀ (ts : List S60) (st : Int) (S : List ByteArray) (D : List S42) (a : Int), runP ts st S D = .inr a → ∃ t ∈ ts, a = t.f1
  | [], _, _, _, a, h => by cases h
  | t :: ts, st, S, D, a, h => by
    rw [runP_cons] at h
    cases hq : takeP st S D t with
    | none =>
      rw [hq] at h
      exact ⟨t, List.mem_cons_self, (Sum.inr.inj h).symm⟩
    | some q =>
      rw [hq] at h
      obtain ⟨u, hu, e⟩ := run_inr ts q.1 q.2.1 q.2.2 a h
      exact ⟨u, List.mem_cons_of_mem _ hu, e⟩
theorem parseB_cases (s : ByteArray) (hs : s.size ≤ 65536) :
    (∃ ts S D, lexL s.size (bl s) = .inl ts ∧ runP (ts.map toTok) 0 [] [] = .inl (0, S, D) ∧ parseB s = (S, D, 0, 0)) ∨ ∃ p : Int, parseB s = ([], [], p, 300) ∧ 0 ≤ p ∧ p ≤ (s.size : Int) := by
  obtain ⟨f1, f2⟩ := lexL_facts (bl s).length (bl s) s.size (Nat.le_refl _) (by rw [bl_length]; exact Nat.le_refl _)
  unfold parseB
  rw [if_neg (by omega)]
  cases hx : lexL s.size (bl s) with
  | inr e => exact .inr ⟨e.1, rfl, (f2 e hx).2.1, (f2 e hx).2.2⟩
  | inl ts =>
    dsimp only
    unfold parseL
    cases hr : runP (ts.map toTok) 0 [] [] with
    | inr a =>
      obtain ⟨t, ht, rfl⟩ := run_inr _ _ _ _ _ hr
      obtain ⟨x, hx2, rfl⟩ := List.mem_map.1 ht
      exact .inr ⟨_, rfl, ((f1 ts hx).2 x hx2).1, ((f1 ts hx).2 x hx2).2⟩
    | inl q =>
      obtain ⟨q0, q1, q2⟩ := q
      dsimp only
      by_cases h0 : q0 = 0
      · rw [if_pos h0]
        subst h0
        exact .inl ⟨ts, q1, q2, rfl, hr, rfl⟩
      · rw [if_neg h0]
        exact .inr ⟨_, rfl, by omega, by omega⟩
theorem sized_of {s : ByteArray} (hs : s.size ≤ 65536) {ts : List TokN} {S : List ByteArray} {D : List S42} (h : lexL s.size (bl s) = .inl ts) (hr : runP (ts.map toTok) 0 [] [] = .inl (0, S, D)) : RawSized S D := by
  have hl := ((lexL_facts (bl s).length (bl s) s.size (Nat.le_refl _) (by rw [bl_length]; exact Nat.le_refl _)).1 ts h).1
  rw [bl_length] at hl
  have hsh := runP_shape _ 0 0 [] [] _ shp0 hr
  rw [List.length_map] at hsh
  have h1 := hsh.hs
  have h2 := hsh.hd
  dsimp only at h1 h2
  refine ⟨by omega, by omega, fun d hd => ⟨?_, fun a ha => ⟨?_, fun c hc => ?_⟩⟩⟩
  · have := hsh.alts d hd
    omega
  · have := hsh.conjs d hd a ha
    omega
  · have := hsh.items d hd a ha c hc
    omega
theorem sized_app {S S' : List ByteArray} {D D' : List S42} (h : RawSized S D) (h' : RawSized S' D') (h1 : S.length + S'.length ≤ 800000) (h2 : D.length + D'.length ≤ 800000) : RawSized (S ++ S') (D ++ D') := by
  obtain ⟨a1, a2, a3⟩ := h
  obtain ⟨b1, b2, b3⟩ := h'
  refine ⟨by rw [List.length_append]; omega, by rw [List.length_append]; omega, fun d hd => ?_⟩
  rcases List.mem_append.1 hd with hd | hd
  · exact a3 d hd
  · exact b3 d hd
theorem joins_len {s : ByteArray} (hs : s.size ≤ 65536) {ts : List TokN} {S : List ByteArray} {D : List S42} (h : lexL s.size (bl s) = .inl ts) (hr : runP (ts.map toTok) 0 [] [] = .inl (0, S, D)) : S.length ≤ 65536 ∧ D.length ≤ 65536 := by
  have hl := ((lexL_facts (bl s).length (bl s) s.size (Nat.le_refl _) (by rw [bl_length]; exact Nat.le_refl _)).1 ts h).1
  rw [bl_length] at hl
  have hsh := runP_shape _ 0 0 [] [] _ shp0 hr
  rw [List.length_map] at hsh
  have h1 := hsh.hs
  have h2 := hsh.hd
  dsimp only at h1 h2
  omega
theorem joins_row (s : ByteArray) (hs0 : s.size ≤ 140737488351232) (t : ByteArray) (ht0 : t.size ≤ 140737488351232) : ∃ k, templelaw3_ParseJoins.f k s t = some true := by
  obtain ⟨K1, h1⟩ := awake3
  obtain ⟨K2, h2⟩ := parse_ev s
  obtain ⟨K3, h3⟩ := parse_ev t
  obtain ⟨K4, h4⟩ := parse_ev (s ++ ⟨#[10]⟩ ++ t)
  dsimp only at h1 h2 h3 h4
  have hw : wrap64 (65536 - (t.size : Int)) = 65536 - (t.size : Int) := by unfold wrap64; omega
  by_cases hl : wrap64 (65536 - (t.size : Int)) ≤ (s.size : Int)
  · refine ⟨K1 + K2 + K3, ?_⟩
    unfold templelaw3_ParseJoins.f
    exact st_bind3 (h1 _ (by omega)) ((if_pos rfl).trans (st_bind3 (h2 _ (by omega)) (st_bind3 (h3 _ (by omega)) (if_pos hl))))
  have hl2 := hl
  rw [hw] at hl2
  clear hw
  have hst : s.size + t.size < 65536 := by omega
  rcases parseB_cases s (by omega) with ⟨ts, S, D, hx, hr, hB⟩ | ⟨p, hB, p0, p1⟩
  case inr =>
    refine ⟨K1 + K2 + K3 + K4, ?_⟩
    unfold templelaw3_ParseJoins.f
    rw [hB] at h2
    exact st_bind3 (h1 _ (by omega)) ((if_pos rfl).trans (st_bind3 (h2 _ (by omega)) (st_bind3 (h3 _ (by omega)) ((if_neg hl).trans ((if_pos hst).trans (st_bind3 (h4 _ (by omega)) ((if_neg (by show ¬ (300 : Int) = 0; decide)).trans (if_pos ⟨p0, p1, rfl⟩))))))))
  have hj := parse_join hB (by omega : s.size + 1 + t.size ≤ 65536)
  rw [hB] at h2
  rcases parseB_cases t (by omega) with ⟨ts', S', D', hx', hr', hB'⟩ | ⟨p, hB', p0, p1⟩
  case inr =>
    refine ⟨K1 + K2 + K3 + K4, ?_⟩
    rw [hB'] at hj h3
    dsimp only at hj
    rw [if_neg (by decide)] at hj
    rw [hj] at h4
    unfold templelaw3_ParseJoins.f
    exact st_bind3 (h1 _ (by omega)) ((if_pos rfl).trans (st_bind3 (h2 _ (by omega)) (st_bind3 (h3 _ (by omega)) ((if_neg hl).trans ((if_pos hst).trans (st_bind3 (h4 _ (by omega)) ((if_pos rfl).trans ((if_neg (by show ¬ (300 : Int) = 0; decide)).trans (if_pos ⟨rfl, rfl, p0, by dsimp only; omega⟩)))))))))
  obtain ⟨l1, l2⟩ := joins_len (by omega) hx hr
  obtain ⟨l3, l4⟩ := joins_len (by omega) hx' hr'
  obtain ⟨K5, h5⟩ := sameRaw_self (S ++ S') (D ++ D') (sized_app (sized_of (by omega) hx hr) (sized_of (by omega) hx' hr') (by omega) (by omega))
  dsimp only at h5
  refine ⟨K1 + K2 + K3 + K4 + K5, ?_⟩
  rw [hB'] at hj h3
  dsimp only at hj
  rw [if_pos rfl] at hj
  rw [hj] at h4
  unfold templelaw3_ParseJoins.f
  exact st_bind3 (h1 _ (by omega)) ((if_pos rfl).trans (st_bind3 (h2 _ (by omega)) (st_bind3 (h3 _ (by omega)) ((if_neg hl).trans ((if_pos hst).trans (st_bind3 (h4 _ (by omega)) ((if_pos rfl).trans ((if_pos rfl).trans ((if_pos ⟨by dsimp only; omega, by dsimp only; omega, rfl⟩).trans (st_bind3 (h5 _ (by omega)) (if_pos rfl)))))))))))
end Go.Proofs.Ytmpilejhnolafaa.PPJ
