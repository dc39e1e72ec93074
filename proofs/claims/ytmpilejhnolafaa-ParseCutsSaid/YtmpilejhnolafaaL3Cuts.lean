/- Layer 3, plain: a text that is cut (ParseCuts). -/
import Derived.Test.YtmpilejhnolafaaL3Pc
import Derived.Test.YtmpilejhnolafaaL3Awake
import Derived.Test.YtmpilejhnolafaaPPCx9
namespace Go.Proofs.Ytmpilejhnolafaa.PPC
open Go.RowKit Go.Proofs.YtmpilejhnolafaaW.PrintWords Go.Proofs.YtmpilejhnolafaaW.PrintLast
set_option linter.unusedVariables false
set_option linter.unusedSimpArgs false
theorem rngL_cut {l : BL} {x : Int × Int × BL} (w : BL) (hr : x.2.2 ≠ []) (h46 : ¬ x.2.2.head? = some 46) (h : rngL l = some x) : rngL (l ++ w) = some (x.1, x.2.1, x.2.2 ++ w) := by
  unfold rngL at h
  cases he : endL l with
  | none =>
    rw [he] at h
    cases h
  | some y =>
    rw [he] at h
    dsimp only at h
    unfold rngL
    rw [endL_app w he]
    dsimp only
    by_cases h1 : y.2.head? = some 46 ∧ y.2.tail.head? = some 46
    · rw [if_pos h1] at h
      obtain ⟨f1, f2⟩ := head_app w h1.1
      obtain ⟨f3, f4⟩ := head_app w h1.2
      rw [if_pos ⟨f1, by rw [f2]; exact f3⟩, f2, f4]
      cases hz : endL y.2.tail.tail with
      | none =>
        rw [hz] at h
        cases h
      | some z =>
        rw [hz] at h
        obtain rfl := Option.some.inj h
        rw [endL_app w hz]
        rfl
    · rw [if_neg h1] at h
      obtain rfl := Option.some.inj h
      dsimp only at hr h46 ⊢
      rw [if_neg]
      rintro ⟨q1, _⟩
      generalize y.2 = m at *
      cases m with
      | nil => exact hr rfl
      | cons a m => exact h46 q1
theorem takeWhile_cut (p : Int → Bool) (w : BL) : ∀ l : BL, l.dropWhile p ≠ [] → (l ++ w).takeWhile p = l.takeWhile p ∧ (l ++ w).dropWhile p = l.dropWhile p ++ w
  | [], h => absurd rfl h
  | x :: l, h => by
    rw [List.dropWhile_cons] at h
    rw [List.cons_append, List.takeWhile_cons, List.dropWhile_cons, List.takeWhile_cons, List.dropWhile_cons]
    cases hp : p x with
    | true =>
      rw [hp] at h
      obtain ⟨h1, h2⟩ := takeWhile_cut p w l h
      rw [h1, h2]
      exact ⟨rfl, rfl⟩
    | false => exact ⟨rfl, rfl⟩
theorem tokL_cut {l : BL} {x : Int × ByteArray × Int × Int × BL} (w : BL) (hw : x.1 = 8 ∨ x.2.2.2.2 ≠ [] ∧ ¬ x.2.2.2.2.head? = some 46) (h : tokL l = .inl x) : tokL (l ++ w) = .inl (x.1, x.2.1, x.2.2.1, x.2.2.2.1, x.2.2.2.2 ++ w) := by
  cases l with
  | nil => simp [tokL] at h
  | cons c r =>
    rw [List.cons_append]
    dsimp only [tokL] at h ⊢
    by_cases h0 : 0 ≤ signI c
    · rw [if_pos h0] at h ⊢
      obtain rfl := Sum.inl.inj h
      rfl
    rw [if_neg h0] at h ⊢
    by_cases h1 : c = 34
    · rw [if_pos h1] at h ⊢
      cases ht : txtL r with
      | none =>
        rw [ht] at h
        cases h
      | some y =>
        rw [ht] at h
        obtain rfl := Sum.inl.inj h
        rw [txtL_app w r.length r y (Nat.le_refl _) ht]
    rw [if_neg h1] at h ⊢
    by_cases h2 : c = 39
    · rw [if_pos h2] at h ⊢
      cases ht : rngL (c :: r) with
      | none =>
        rw [ht] at h
        cases h
      | some y =>
        rw [ht] at h
        obtain rfl := Sum.inl.inj h
        dsimp only at hw
        have hw := hw.resolve_left (by decide)
        have := rngL_cut w hw.1 hw.2 ht
        rw [List.cons_append] at this
        rw [this]
    rw [if_neg h2] at h ⊢
    by_cases h3 : letterI c = true
    · rw [if_pos h3] at h ⊢
      by_cases h4 : 32 < ((c :: r).takeWhile moreI).length
      · rw [if_pos h4] at h
        cases h
      rw [if_neg h4] at h
      by_cases h5 : strOfNums ((c :: r).takeWhile moreI) = ⟨#[115, 116, 97, 114, 116]⟩
      · rw [if_pos h5] at h
        obtain rfl := Sum.inl.inj h
        dsimp only at hw
        have hw := hw.resolve_left (by decide)
        have tw := takeWhile_cut moreI w (c :: r) hw.1
        rw [List.cons_append] at tw
        rw [tw.1, tw.2, if_neg h4, if_pos h5]
      · rw [if_neg h5] at h
        obtain rfl := Sum.inl.inj h
        dsimp only at hw
        have hw := hw.resolve_left (by decide)
        have tw := takeWhile_cut moreI w (c :: r) hw.1
        rw [List.cons_append] at tw
        rw [tw.1, tw.2, if_neg h4, if_neg h5]
    · rw [if_neg h3] at h
      cases h
theorem skipL_cut (w : BL) : ∀ (n : Nat) (l : BL), l.length ≤ n → skipL l ≠ [] → skipL (l ++ w) = skipL l ++ w := by
  intro n
  induction n with
  | zero =>
    intro l hn h
    obtain rfl : l = [] := List.length_eq_zero_iff.1 (by omega)
    exact absurd skipL_nil h
  | succ n ih =>
    intro l hn h
    cases l with
    | nil => exact absurd skipL_nil h
    | cons c r =>
      rw [List.length_cons] at hn
      rw [List.cons_append]
      by_cases h1 : blankI c = true
      · rw [skipL_blank h1] at h ⊢
        rw [skipL_blank h1]
        exact ih r (by omega) h
      by_cases h2 : c = 35
      · rw [skipL_note h2] at h ⊢
        rw [skipL_note h2]
        have hne : r.dropWhile (fun x => !(x == 10)) ≠ [] := fun e => by
          rw [e] at h
          exact h skipL_nil
        rw [(takeWhile_cut (fun x => !(x == 10)) w r hne).2]
        have := dropWhile_le (fun x => !(x == 10)) r
        exact ih _ (by omega) h
      · rw [skipL_stop h1 h2, skipL_stop h1 h2]
        rfl
theorem lex_46 {l : BL} (h : l.head? = some 46) (M : Nat) : ∃ e, lexL M l = .inr e := by
  cases l with
  | nil => cases h
  | cons c r =>
    obtain rfl : c = 46 := Option.some.inj h
    have hs : skipL (46 :: r) = 46 :: r := skipL_stop (by decide) (by decide)
    exact ⟨_, lexL_bad (by rw [hs]; simp) (by rw [hs]; rfl)⟩
/-- A text's beginning that ends with a sign ';', or has no token: its tokens begin the whole's. -/
theorem lex_cut (w : BL) (N : Nat) : ∀ (n : Nat) (l : BL) (M : Nat) (us : List TokN), l.length ≤ n → lexL M l = .inl us → (∀ x, us.getLast? = some x → x.1 = 8) → ∃ (rest : BL) (vs : List TokN), lexL N (l ++ w) = joinR vs (lexL N rest) ∧ vs.map er = us.map er := by
  intro n
  have none_ : ∀ (l : BL) (M : Nat) (us : List TokN), skipL l = [] → lexL M l = .inl us → ∃ (rest : BL) (vs : List TokN), lexL N (l ++ w) = joinR vs (lexL N rest) ∧ vs.map er = us.map er := fun l M us h0 h => by
    rw [lexL_end h0] at h
    obtain rfl := Sum.inl.inj h
    exact ⟨l ++ w, [], by rw [joinR_nil], rfl⟩
  induction n with
  | zero =>
    intro l M us hn h hlast
    obtain rfl : l = [] := List.length_eq_zero_iff.1 (by omega)
    exact none_ [] M us skipL_nil h
  | succ n ih =>
    intro l M us hn h hlast
    by_cases h0 : skipL l = []
    · exact none_ l M us h0 h
    have hle := skipL_le l.length l (Nat.le_refl _)
    have hsk := skipL_cut w l.length l (Nat.le_refl _) h0
    cases hx : tokL (skipL l) with
    | inr e =>
      rw [lexL_bad h0 hx] at h
      cases h
    | inl x =>
      have hlt := tokL_lt (k := x.1) (t := x.2.1) (lo := x.2.2.1) (hi := x.2.2.2.1) (r := x.2.2.2.2) hx
      rw [lexL_tok h0 hx] at h
      cases hy : lexL M x.2.2.2.2 with
      | inr e => rw [hy] at h; cases h
      | inl ys =>
        rw [hy] at h
        obtain rfl := Sum.inl.inj h
        have hcond : x.1 = 8 ∨ x.2.2.2.2 ≠ [] ∧ ¬ x.2.2.2.2.head? = some 46 := by
          by_cases hr : x.2.2.2.2 = []
          · refine .inl ?_
            rw [hr, lexL_end skipL_nil] at hy
            obtain rfl := Sum.inl.inj hy
            exact hlast _ rfl
          · refine .inr ⟨hr, fun e => ?_⟩
            obtain ⟨e', he⟩ := lex_46 e M
            rw [hy] at he
            cases he
        have ht := tokL_cut w hcond hx
        obtain ⟨rest, vs, e1, e2⟩ := ih x.2.2.2.2 M ys (by omega) hy (fun z hz => by
          refine hlast z ?_
          cases ys with
          | nil => cases hz
          | cons a ys => rw [List.getLast?_cons_cons]; exact hz)
        have hne : skipL (l ++ w) ≠ [] := by rw [hsk]; simp [h0]
        rw [← hsk] at ht
        refine ⟨rest, (x.1, (N : Int) - ((skipL (l ++ w)).length : Int), x.2.1, x.2.2.1, x.2.2.2.1) :: vs, ?_, by rw [List.map_cons, List.map_cons, e2]; rfl⟩
        rw [lexL_tok hne ht]
        dsimp only
        rw [e1]
        cases lexL N rest <;> rfl
/-! The automaton: what ends at a beginning -/
theorem take_zero {st : Int} {S S' : List ByteArray} {D D' : List S42} {t : S60} (h : takeP st S D t = some (0, S', D')) : t.f0 = 8 := by
  unfold takeP at h
  repeat' split at h
  all_goals first
    | assumption
    | (cases h; done)
    | (injection h with h; injection h with h _; exact absurd h (by decide))
theorem run_last : ∀ (ts : List TokN) (st : Int) (S S' : List ByteArray) (D D' : List S42), runP (ts.map toTok) st S D = .inl (0, S', D') → ∀ x, ts.getLast? = some x → x.1 = 8
  | [], _, _, _, _, _, _, x, hx => by cases hx
  | [t], st, S, S', D, D', h, x, hx => by
    obtain rfl := Option.some.inj hx
    rw [List.map_cons, List.map_nil, runP_cons] at h
    cases hq : takeP st S D (toTok t) with
    | none => rw [hq] at h; cases h
    | some q =>
      rw [hq] at h
      have : q = (0, S', D') := Sum.inl.inj h
      rw [this] at hq
      exact take_zero hq
  | t :: u :: ts, st, S, S', D, D', h, x, hx => by
    rw [List.map_cons, runP_cons] at h
    rw [List.getLast?_cons_cons] at hx
    cases hq : takeP st S D (toTok t) with
    | none => rw [hq] at h; cases h
    | some q =>
      rw [hq] at h
      exact run_last (u :: ts) q.1 q.2.1 S' q.2.2 D' h x hx
theorem run_inr : ∀ (ts : List S60) (st : Int) (S : List ByteArray) (D : List S42) (a : Int), runP ts st S D = .inr a → ∃ t ∈ ts, a = t.f1
  | [], _, _, _, a, h => by cases h
  | t :: ts, st, S, D, a, h => by
    rw [runP_cons] at h
    cases hq : takeP st S D t with
    | none =>
      rw [hq] at h
      exact ⟨t, List.mem_cons_self, (Sum.inr.inj h).symm⟩
    | some q =>
      rw [hq] at h
      obtain ⟨u, hu, e⟩ := run_inr ts q.1 q.2.1 q.2.2 a h
      exact ⟨u, List.mem_cons_of_mem _ hu, e⟩
/-- What Parse may answer. -/
theorem parseB_cases (s : ByteArray) (hs : s.size ≤ 65536) :
    (∃ ts S D, lexL s.size (bl s) = .inl ts ∧ runP (ts.map toTok) 0 [] [] = .inl (0, S, D) ∧ parseB s = (S, D, 0, 0)) ∨ ∃ p : Int, parseB s = ([], [], p, 300) ∧ 0 ≤ p ∧ p ≤ (s.size : Int) := by
  obtain ⟨f1, f2⟩ := lexL_facts (bl s).length (bl s) s.size (Nat.le_refl _) (by rw [bl_length]; exact Nat.le_refl _)
  unfold parseB
  rw [if_neg (by omega)]
  cases hx : lexL s.size (bl s) with
  | inr e => exact .inr ⟨e.1, rfl, (f2 e hx).2.1, (f2 e hx).2.2⟩
  | inl ts =>
    dsimp only
    unfold parseL
    cases hr : runP (ts.map toTok) 0 [] [] with
    | inr a =>
      obtain ⟨t, ht, rfl⟩ := run_inr _ _ _ _ _ hr
      obtain ⟨x, hx2, rfl⟩ := List.mem_map.1 ht
      exact .inr ⟨_, rfl, ((f1 ts hx).2 x hx2).1, ((f1 ts hx).2 x hx2).2⟩
    | inl q =>
      obtain ⟨q0, q1, q2⟩ := q
      dsimp only
      by_cases h0 : q0 = 0
      · rw [if_pos h0]
        subst h0
        exact .inl ⟨ts, q1, q2, rfl, hr, rfl⟩
      · rw [if_neg h0]
        exact .inr ⟨_, rfl, by omega, by omega⟩
theorem sized_of {s : ByteArray} (hs : s.size ≤ 65536) {ts : List TokN} {S : List ByteArray} {D : List S42} (h : lexL s.size (bl s) = .inl ts) (hr : runP (ts.map toTok) 0 [] [] = .inl (0, S, D)) : RawSized S D := by
  have hl := ((lexL_facts (bl s).length (bl s) s.size (Nat.le_refl _) (by rw [bl_length]; exact Nat.le_refl _)).1 ts h).1
  rw [bl_length] at hl
  have hsh := runP_shape _ 0 0 [] [] _ shp0 hr
  rw [List.length_map] at hsh
  have h1 := hsh.hs
  have h2 := hsh.hd
  dsimp only at h1 h2
  refine ⟨by omega, by omega, fun d hd => ⟨?_, fun a ha => ⟨?_, fun c hc => ?_⟩⟩⟩
  · have := hsh.alts d hd
    omega
  · have := hsh.conjs d hd a ha
    omega
  · have := hsh.items d hd a ha c hc
    omega
/-- A beginning that parses declares a beginning. -/
theorem cut_front (s p : ByteArray) (w : BL) (hp : bl s = bl p ++ w) {ts us : List TokN} {S S' : List ByteArray} {D D' : List S42} (hs : lexL s.size (bl s) = .inl ts) (hr : runP (ts.map toTok) 0 [] [] = .inl (0, S, D))
    (hs' : lexL p.size (bl p) = .inl us) (hr' : runP (us.map toTok) 0 [] [] = .inl (0, S', D')) : ∃ S2 D2, S = S' ++ S2 ∧ D = D' ++ D2 := by
  obtain ⟨rest, vs, e1, e2⟩ := lex_cut w s.size (bl p).length (bl p) p.size us (Nat.le_refl _) hs' (run_last us 0 [] S' [] D' hr')
  rw [← hp, hs] at e1
  cases hz : lexL s.size rest with
  | inr e => rw [hz] at e1; cases e1
  | inl zs =>
    rw [hz] at e1
    have e1 : ts = vs ++ zs := Sum.inl.inj e1
    have hv : okP (runP (vs.map toTok) 0 [] []) = some (0, S', D') := by rw [run_er, e2, ← run_er, hr']; rfl
    have h1 := congrArg okP hr
    rw [e1, List.map_append, ok_app _ _ _ _ _ hv] at h1
    have h2 := runP_front S' D' (zs.map toTok) 0 [] [] (by omega) (fun h => absurd h (by omega))
    rw [List.append_nil, List.append_nil] at h2
    rw [h2] at h1
    cases hq : runP (zs.map toTok) 0 [] [] with
    | inr e => rw [hq] at h1; cases h1
    | inl q =>
      rw [hq] at h1
      have h3 := Option.some.inj h1
      injection h3 with _ h3
      injection h3 with h3 h4
      exact ⟨q.2.1, q.2.2, h3.symm, h4.symm⟩
theorem cut_ix (v : Int) (n : Nat) (hn : n ≤ 3000) : IntKind.u64.wrap (wrap64 ((n : Int) + 1)) ≠ 0 ∧ 0 ≤ wrap64 (Int.tmod (IntKind.u64.wrap v) (IntKind.u64.wrap (wrap64 ((n : Int) + 1)))) ∧ wrap64 (Int.tmod (IntKind.u64.wrap v) (IntKind.u64.wrap (wrap64 ((n : Int) + 1)))) ≤ n := by
  have h : ∀ x, IntKind.u64.wrap x = x % 18446744073709551616 := fun _ => rfl
  have e : IntKind.u64.wrap (wrap64 ((n : Int) + 1)) = (n : Int) + 1 := by
    rw [h]
    unfold wrap64
    omega
  rw [e, Int.tmod_eq_emod_of_nonneg (by rw [h]; omega)]
  have h1 := Int.emod_nonneg (IntKind.u64.wrap v) (show (n : Int) + 1 ≠ 0 by omega)
  have h2 := Int.emod_lt_of_pos (IntKind.u64.wrap v) (show (0 : Int) < (n : Int) + 1 by omega)
  generalize IntKind.u64.wrap v % ((n : Int) + 1) = m at *
  unfold wrap64
  omega
theorem bl_cut (s : ByteArray) (j : Nat) (h : j ≤ s.size) : bl s = bl (s.extract 0 j) ++ (bl s).drop j ∧ (s.extract 0 j).size = j := by
  have e : bl (s.extract 0 j) = (bl s).take j := by
    rw [bl_data, bl_data, ← List.map_take]
    congr 1
    rw [ByteArray.data_extract, Array.toList_extract]
    simp
  exact ⟨by rw [e, List.take_append_drop], by rw [ByteArray.size_extract]; omega⟩
theorem cuts_pure (s : ByteArray) (v : Int) : ∃ k, templelaw3_ParseCuts.f k s v = some true := by
  obtain ⟨K1, h1⟩ := awake3
  obtain ⟨K2, h2⟩ := parse_ev s
  dsimp only at h1 h2
  have num : ∀ x : Int, templelaw0_Num.f x = some x := fun _ => rfl
  have skip : ∀ (k : Nat) (S : List ByteArray) (D : List S42), templelaw3_ParseCuts.j0 (k + 1) s v true S D = some true := fun k S D => by
    simp only [templelaw3_ParseCuts.j0]
    rw [if_pos trivial]
  by_cases hbig : 3000 < s.size
  · refine ⟨K1 + K2 + 1, ?_⟩
    unfold templelaw3_ParseCuts.f
    refine st_bind3 (h1 _ (by omega)) ((if_pos rfl).trans (st_bind3 (h2 _ (by omega)) (st_bind3 (num _) ?_)))
    split
    · rw [decide_eq_true (by omega)]
      exact skip _ _ _
    · exact skip _ _ _
  rcases parseB_cases s (by omega) with ⟨ts, S, D, hl, hr, hB⟩ | ⟨p, hB, _⟩
  case inr =>
    refine ⟨K1 + K2 + 1, ?_⟩
    unfold templelaw3_ParseCuts.f
    rw [hB] at h2
    refine st_bind3 (h1 _ (by omega)) ((if_pos rfl).trans (st_bind3 (h2 _ (by omega)) (st_bind3 (num _) ((if_neg (by show ¬ (300 : Int) = 0; decide)).trans (skip _ _ _)))))
  obtain ⟨i0, i1, i2⟩ := cut_ix v s.size (by omega)
  generalize hj : wrap64 (Int.tmod (IntKind.u64.wrap v) (IntKind.u64.wrap (wrap64 ((s.size : Int) + 1)))) = j at i1 i2
  obtain ⟨c1, c2⟩ := bl_cut s j.toNat (by omega)
  obtain ⟨K3, h3⟩ := parse_ev (s.extract 0 j.toNat)
  dsimp only at h3
  rw [hB] at h2
  have go : ∀ (k : Nat), K3 ≤ k → (∀ R : List ByteArray × List S42 × Int × Int, parseB (s.extract 0 j.toNat) = R → (templelaw0_Num.f R.2.2.2).bind (fun t407 => (if t407 = 0 then (if (R.2.1.length : Int) ≤ (D.length : Int) then (if (R.1.length : Int) ≤ (S.length : Int) then (if 0 ≤ (R.1.length : Int) then (if 0 ≤ (R.2.1.length : Int) then ((templelaw0_SameRaw.f k R.1 R.2.1 (S.take ((R.1.length : Int) : Int).toNat) (D.take ((R.2.1.length : Int) : Int).toNat)).bind fun t416 => (some t416)) else (none)) else (none)) else (none)) else (none)) else ((templelaw0_Num.f R.2.2.2).bind fun t417 => (if t417 = 300 then (if R.2.2.1 ≤ j then (some ((R.2.1.length : Int) == 0)) else (none)) else (none))))) = some true) → templelaw3_ParseCuts.j0 (k + 1) s v (decide ((s.size : Int) > 3000)) S D = some true := fun k hk hh => by
    simp only [templelaw3_ParseCuts.j0]
    rw [decide_eq_false (by omega), if_neg (by decide), if_neg i0, hj, if_pos i1, if_pos i2, h3 k hk, Option.bind_some]
    exact hh _ rfl
  rcases parseB_cases (s.extract 0 j.toNat) (by omega) with ⟨us, S', D', hl', hr', hB'⟩ | ⟨p, hB', hp0, hp1⟩
  · obtain ⟨S2, D2, rfl, rfl⟩ := cut_front s (s.extract 0 j.toNat) _ c1 hl hr hl' hr'
    obtain ⟨K4, h4⟩ := sameRaw_self S' D' (sized_of (by omega) hl' hr')
    dsimp only at h4
    refine ⟨K1 + K2 + K3 + K4 + 1, ?_⟩
    unfold templelaw3_ParseCuts.f
    refine st_bind3 (h1 _ (by omega)) ((if_pos rfl).trans (st_bind3 (h2 _ (by omega)) (st_bind3 (num _) ((if_pos rfl).trans (go _ (by omega) (fun R hR => ?_))))))
    rw [hB'] at hR
    subst hR
    refine st_bind3 (num _) ((if_pos rfl).trans ((if_pos (by show (D'.length : Int) ≤ ((D' ++ D2).length : Int); rw [List.length_append]; omega)).trans ((if_pos (by show (S'.length : Int) ≤ ((S' ++ S2).length : Int); rw [List.length_append]; omega)).trans ((if_pos (by omega)).trans ((if_pos (by omega)).trans ?_)))))
    have e1 : (S' ++ S2).take ((S'.length : Int) : Int).toNat = S' := by simp
    have e2 : (D' ++ D2).take ((D'.length : Int) : Int).toNat = D' := by simp
    show (templelaw0_SameRaw.f _ S' D' ((S' ++ S2).take ((S'.length : Int) : Int).toNat) ((D' ++ D2).take ((D'.length : Int) : Int).toNat)).bind _ = _
    rw [e1, e2]
    exact st_bind3 (h4 _ (by omega)) rfl
  · refine ⟨K1 + K2 + K3 + 1, ?_⟩
    unfold templelaw3_ParseCuts.f
    refine st_bind3 (h1 _ (by omega)) ((if_pos rfl).trans (st_bind3 (h2 _ (by omega)) (st_bind3 (num _) ((if_pos rfl).trans (go _ (by omega) (fun R hR => ?_))))))
    rw [hB'] at hR
    subst hR
    refine st_bind3 (num _) ((if_neg (by show ¬ (300 : Int) = 0; decide)).trans (st_bind3 (num _) ((if_pos rfl).trans ((if_pos (by dsimp only; omega)).trans rfl))))
end Go.Proofs.Ytmpilejhnolafaa.PPC
