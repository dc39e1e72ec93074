/- Layer 3, plain: texts put together of pieces. -/
import Derived.Test.YtmpilejhnolafaaL3Parse
import Derived.Test.YtmpilejhnolafaaL3Same
namespace Go.Proofs.Ytmpilejhnolafaa.PPJ
open Go.RowKit Go.Proofs.YtmpilejhnolafaaW.PrintWords Go.Proofs.YtmpilejhnolafaaW.PrintLast
set_option linter.unusedVariables false
set_option linter.unusedSimpArgs false
/-- A token without its place. -/
abbrev TokK := Int × ByteArray × Int × Int
def er (x : TokN) : TokK := (x.1, x.2.2)
def tokE (k : TokK) : S60 := ⟨k.1, 0, k.2.1, k.2.2.1, k.2.2.2⟩
/-- A text whose tokens are these, whatever stands behind it. -/
def Pc (l : BL) (ks : List TokK) : Prop := ∀ (y : BL) (M : Nat), ∃ ts : List TokN, lexL M (l ++ y) = joinR ts (lexL M y) ∧ ts.map er = ks
theorem joinR_nil (x : List TokN ⊕ (Int × Int)) : joinR [] x = x := by cases x <;> rfl
theorem joinR_two {ts us : List TokN} (x : List TokN ⊕ (Int × Int)) : joinR ts (joinR us x) = joinR (ts ++ us) x := by
  cases x with
  | inl v => simp [joinR]
  | inr e => rfl
theorem pc_nil : Pc [] [] := fun y M => ⟨[], by rw [List.nil_append, joinR_nil], rfl⟩
theorem pc_app {l p : BL} {ks ks' : List TokK} (h : Pc l ks) (h' : Pc p ks') : Pc (l ++ p) (ks ++ ks') := fun y M => by
  obtain ⟨ts, e, m⟩ := h (p ++ y) M
  obtain ⟨us, e', m'⟩ := h' y M
  exact ⟨ts ++ us, by rw [List.append_assoc, e, e', joinR_two], by rw [List.map_append, m, m']⟩
theorem pc_blank {c : Int} (h : blankI c = true) : Pc [c] [] := fun y M => ⟨[], by rw [joinR_nil]; exact lexL_eq (skipL_blank h), rfl⟩
theorem pc_cons {c : Int} {p r : BL} {ks : List TokK} {k : Int} {v : ByteArray} {lo hi : Int} (h1 : ¬ blankI c = true) (h2 : ¬ c = 35) (ht : ∀ y, tokL (c :: (p ++ y)) = .inl (k, v, lo, hi, r ++ y)) (hr : Pc r ks) : Pc (c :: p) ((k, v, lo, hi) :: ks) := fun y M => by
  obtain ⟨ts, e, m⟩ := hr y M
  have hs : skipL (c :: (p ++ y)) = c :: (p ++ y) := skipL_stop h1 h2
  have hl := lexL_tok (n := M) (l := c :: (p ++ y)) (by rw [hs]; simp) (by rw [hs]; exact ht y)
  refine ⟨(k, (M : Int) - ((skipL (c :: (p ++ y))).length : Int), v, lo, hi) :: ts, ?_, by rw [List.map_cons, m]; rfl⟩
  rw [List.cons_append, hl]
  dsimp only
  rw [e]
  cases lexL M y <;> rfl
def okP {α β : Type} : α ⊕ β → Option α
  | .inl q => some q
  | .inr _ => none
theorem run_er : ∀ (ts : List TokN) (st : Int) (S : List ByteArray) (D : List S42), okP (runP (ts.map toTok) st S D) = okP (runP ((ts.map er).map tokE) st S D)
  | [], _, _, _ => rfl
  | t :: ts, st, S, D => by
    rw [List.map_cons, List.map_cons, List.map_cons, runP_cons, runP_cons, show takeP st S D (tokE (er t)) = takeP st S D (toTok t) from rfl]
    cases takeP st S D (toTok t) with
    | none => rfl
    | some q => exact run_er ts q.1 q.2.1 q.2.2
theorem ok_app (us vs : List S60) (st : Int) (S : List ByteArray) (D : List S42) {st' : Int} {S' : List ByteArray} {D' : List S42} (h : okP (runP us st S D) = some (st', S', D')) : okP (runP (us ++ vs) st S D) = okP (runP vs st' S' D') := by
  rw [runP_app]
  cases hr : runP us st S D with
  | inr e => rw [hr] at h; cases h
  | inl q =>
    rw [hr] at h
    obtain rfl := Option.some.inj h
    rfl
/-- What such a text is parsed to. -/
theorem parse_of_pc {s : ByteArray} {ks : List TokK} (h : Pc (bl s) ks) (hs : s.size ≤ 60000) {S : List ByteArray} {D : List S42} (hr : okP (runP (ks.map tokE) 0 [] []) = some (0, S, D)) : parseB s = (S, D, 0, 0) ∧ RawSized S D := by
  obtain ⟨ts, e, m⟩ := h [] s.size
  rw [List.append_nil, lexL_end skipL_nil] at e
  have e : lexL s.size (bl s) = .inl ts := by
    rw [e]
    show Sum.inl (ts ++ []) = _
    rw [List.append_nil]
  have hk := run_er ts 0 [] []
  rw [m, hr] at hk
  have hrun : runP (ts.map toTok) 0 [] [] = .inl (0, S, D) := by
    cases hx : runP (ts.map toTok) 0 [] [] with
    | inr e => rw [hx] at hk; cases hk
    | inl q =>
      rw [hx] at hk
      rw [Option.some.inj hk]
  refine ⟨?_, ?_⟩
  · unfold parseB
    rw [if_neg (by omega), e]
    show parseL (s.size : Int) (ts.map toTok) = _
    unfold parseL
    rw [hrun]
    rfl
  · have hl := ((lexL_facts (bl s).length (bl s) s.size (Nat.le_refl _) (by rw [bl_length]; exact Nat.le_refl _)).1 ts e).1
    rw [bl_length] at hl
    have hsh := runP_shape _ 0 0 [] [] _ shp0 hrun
    rw [List.length_map] at hsh
    have h1 := hsh.hs
    have h2 := hsh.hd
    dsimp only at h1 h2
    refine ⟨by omega, by omega, fun d hd => ⟨?_, fun a ha => ⟨?_, fun c hc => ?_⟩⟩⟩
    · have := hsh.alts d hd
      omega
    · have := hsh.conjs d hd a ha
      omega
    · have := hsh.items d hd a ha c hc
      omega
theorem st_bind3 {α β : Type} {o : Option α} {f : α → Option β} {a : α} {r : Option β} (h : o = some a) (g : f a = r) : o.bind f = r := by rw [h]; exact g
end Go.Proofs.Ytmpilejhnolafaa.PPJ
