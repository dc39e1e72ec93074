/- Layer 5, plain: any grammar's text is the document's (Shows). -/
import Derived.Test.YtimmkmfcpfjgfaaL10Copy
import Derived.Test.YtimmkmfcpfjgfaaL5Help
import Derived.Test.YtimmkmfcpfjgfaaPSAx12
namespace Go.Proofs.Ytimmkmfcpfjgfaa.PSA
open Go.RowKit Go.Proofs.YtimmkmfcpfjgfaaW.PrintWords Go.Proofs.YtimmkmfcpfjgfaaW.PrintLast
set_option linter.unusedVariables false
theorem ev_two {α : Type} {g : Nat → Option α} {r : α} (K : Nat) (h : g K = some r) (hm : ∀ k, LeO (g k) (g (k + 1))) : Ev g r := by
  refine ⟨K, fun k hk => ?_⟩
  obtain ⟨d, rfl⟩ : ∃ d, k = K + d := ⟨k - K, by omega⟩
  clear hk
  induction d with
  | zero => exact h
  | succ d ih => exact hm _ _ ih
set_option maxRecDepth 100000 in
theorem shown34 : ∀ n, n < 256 → templeref1_shown.f 3 ((n : Nat) : Int) 34 = some ⟨(chT n.toUInt8 34).toArray⟩ := by decide +kernel
set_option maxRecDepth 100000 in
theorem shown39 : ∀ n, n < 256 → templeref1_shown.f 3 ((n : Nat) : Int) 39 = some ⟨(chT n.toUInt8 39).toArray⟩ := by decide +kernel
theorem shown_ev (c : Int) (h0 : 0 ≤ c) (h1 : c ≤ 255) (q : UInt8) (hq : q = 34 ∨ q = 39) : Ev (fun k => templeref1_shown.f k c (q.toNat : Int)) ⟨(chT (b8 c) q).toArray⟩ := by
  refine ev_two 3 ?_ (fun k => templeref1_shown.mono _ _ k)
  have e : c = ((c.toNat : Nat) : Int) := by omega
  rcases hq with rfl | rfl
  · have := shown34 c.toNat (by omega)
    rw [← e] at this
    exact this
  · have := shown39 c.toNat (by omega)
    rw [← e] at this
    exact this
theorem addP_ne (ns : List ByteArray) (P : List Part) (s : S38) : addP ns P s ≠ [] := by
  unfold addP
  split
  · simp
  · split
    · simp
    · split
      · rename_i b hb
        intro h
        have := congrArg List.length h
        rw [List.length_set] at this
        have hne : P ≠ [] := fun e => by rw [e] at hb; simp at hb
        exact hne (List.eq_nil_of_length_eq_zero this)
      · simp
theorem addsP_ne (ns : List ByteArray) (q : List S38) (h : q ≠ []) : addsP ns q ≠ [] := by
  have hl : 0 < q.length := List.length_pos_iff.2 h
  have h1 := addsP_take ns q (q.length - 1) (by omega)
  rw [show q.length - 1 + 1 = q.length from by omega, List.take_length] at h1
  rw [h1]
  exact addP_ne _ _ _
theorem addsP_step (ns : List ByteArray) (q : List S38) (i : Nat) (h : i < q.length) : addsP ns (q.take (i + 1)) = addP ns (addsP ns (q.take i)) q[i] := addsP_take ns q i h
def isB (s : S38) : Prop := s.f0 < 0 ∧ s.f1 = s.f2
def noLast (P : List Part) : Prop := ∀ s, P.getLast? ≠ some (.single s)
section
variable (st : Int) (ns : List ByteArray) (rs : List S44) (q : List S38)
/-- The text of the parts of the first i symbols, whole; the next symbol begins a part. -/
structure AA (i : Nat) (x : ByteArray) : Prop where
  txt : x.data.toList = partsT (addsP ns (q.take i))
  emp : x.toList = [] ↔ addsP ns (q.take i) = []
  cut : ∀ h : i < q.length, isB q[i] → noLast (addsP ns (q.take i))
  size : x.size ≤ 50 * i
/-- In the midst of a text. -/
structure BB (j : Nat) (x : ByteArray) (P0 : List Part) (s : ByteArray) : Prop where
  last : noLast P0
  txt : x.data.toList = sepT [32] partT P0 ++ ((if P0 = [] then [] else [32]) ++ ([34] ++ singT s.data.toList))
  parts : addsP ns (q.take j) = if s.size = 0 then P0 else P0 ++ [.single s]
  size : x.size ≤ 50 * j + 2
  size2 : s.size ≠ 0 → x.size + 10 ≤ 50 * j
end
theorem addP_byte (ns : List ByteArray) (P0 : List Part) (s : ByteArray) (c : S38) (hb : isB c) (hl : noLast P0) : addP ns (if s.size = 0 then P0 else P0 ++ [.single s]) c = P0 ++ [.single (s ++ ⟨#[b8 c.f1]⟩)] := by
  obtain ⟨h0, h1⟩ := hb
  unfold addP
  rw [if_neg (by omega), if_neg (by omega)]
  by_cases hs : s.size = 0
  · rw [if_pos hs]
    have e : s = ⟨#[]⟩ := by
      cases s with
      | mk d =>
        have : d.size = 0 := hs
        rw [Array.size_eq_zero_iff.1 this]
    split
    · rename_i b hb2
      exact absurd hb2 (hl b)
    · rw [e]
      rfl
  · rw [if_neg hs, List.getLast?_concat]
    show (P0 ++ [Part.single s]).set ((P0 ++ [Part.single s]).length - 1) _ = _
    simp
theorem singT_app (s : ByteArray) (c : UInt8) : singT (s ++ ⟨#[c]⟩).data.toList = singT s.data.toList ++ chT c 34 := by
  rw [dl_append]
  unfold singT
  rw [List.flatMap_append]
  simp
theorem mk_size (l : List UInt8) : ByteArray.size ⟨l.toArray⟩ = l.length := by simp [ByteArray.size]
theorem noLast_call (P : List Part) (s : ByteArray) : noLast (P ++ [.call s]) := fun b => by rw [List.getLast?_concat]; simp
theorem noLast_span (P : List Part) (a b : UInt8) : noLast (P ++ [.span a b]) := fun b => by rw [List.getLast?_concat]; simp
theorem ba_eq {x : ByteArray} {l : List UInt8} (h : x.data.toList = l) : x = ⟨l.toArray⟩ := by
  cases x with
  | mk d =>
    have h2 : d.toList = l := h
    rw [← h2, Array.toArray_toList]
theorem isB_of {n : Int} {s : S38} (h : symB n s = true) (h0 : s.f0 < 0) : 0 ≤ s.f1 ∧ s.f1 ≤ s.f2 ∧ s.f2 ≤ 255 := by
  unfold symB at h
  split at h
  · exact of_decide_eq_true h
  · have := of_decide_eq_true h
    omega
theorem isN_of {n : Int} {s : S38} (h : symB n s = true) (h0 : 0 ≤ s.f0) : s.f0 < n := by
  unfold symB at h
  split at h
  · omega
  · have := of_decide_eq_true h
    omega
section
variable (st : Int) (ns : List ByteArray) (rs : List S44) (q : List S38)
def RR : ByteArray := ⟨(partsT (addsP ns q)).toArray⟩
def C0 (i : Nat) : Prop := ∀ x, AA ns q i x → Ev (fun k => templeref1_seq.l0 k q x (i : Int) st ns rs) (RR ns q)
def C1 (j : Nat) : Prop := ∀ x P0 s, BB ns q j x P0 s → (s.size = 0 → ∃ h : j < q.length, isB q[j]) → Ev (fun k => templeref1_seq.l1 k q x (j : Int) st ns rs) (RR ns q)
variable (hns : ∀ n ∈ ns, 1 ≤ n.size ∧ n.size ≤ 32) (hq : q.all (symB ns.length) = true) (hl : q.length ≤ 64)
include hq hl in
theorem l1_byte (j : Nat) (h : j < q.length) (hb : isB q[j]) (hC : C1 st ns rs q (j + 1)) (x : ByteArray) (P0 : List Part) (s : ByteArray) (hB : BB ns q j x P0 s) : Ev (fun k => templeref1_seq.l1 k q x (j : Int) st ns rs) (RR ns q) := by
  have hs := List.all_eq_true.1 hq _ (List.getElem_mem h)
  have hr := isB_of hs hb.1
  have hrd := rd_sym q j h
  have hstep := addsP_step ns q j h
  generalize q[j] = c at *
  obtain ⟨K1, h1⟩ := shown_ev c.f1 hr.1 (by omega) 34 (.inl rfl)
  have hc4 := chT_len (b8 c.f1) 34
  have hc1 := chT_pos (b8 c.f1) 34
  have esz : ByteArray.size ⟨(chT (b8 c.f1) 34).toArray⟩ = (chT (b8 c.f1) 34).length := mk_size _
  have hw : wrap64 ((j : Int) + 1) = ((j + 1 : Nat) : Int) := by unfold wrap64; omega
  obtain ⟨K2, h2⟩ := hC (x ++ ⟨(chT (b8 c.f1) 34).toArray⟩) P0 (s ++ ⟨#[b8 c.f1]⟩) ⟨hB.last, by
      rw [dl_append, hB.txt, singT_app]
      simp, by
      rw [hstep, hB.parts, addP_byte ns P0 s c hb hB.last, if_neg (by rw [ByteArray.size_append, sz1]; omega)], by
      have := hB.size
      rw [ByteArray.size_append, esz]
      omega, fun _ => by
      have := hB.size
      rw [ByteArray.size_append, esz]
      omega⟩ (fun e => by rw [ByteArray.size_append, sz1] at e; omega)
  refine ⟨K1 + K2 + 1, fun k hk => ?_⟩
  obtain ⟨m, rfl⟩ : ∃ m, k = m + 1 := ⟨k - 1, by omega⟩
  have g1 := h1 m (by omega)
  have g2 := h2 m (by omega)
  have hsz := hB.size
  show templeref1_seq.l1 (m + 1) q x (j : Int) st ns rs = some (RR ns q)
  rw [templeref1_seq.l1, hrd, hw]
  refine st_pos (by omega) (st_pos (by omega) (st_pos hb.1 (st_pos hb.2 (st_bind g1 (st_pos ?_ g2)))))
  rw [esz]
  omega
include hns hq hl in
theorem j1_ev (i : Nat) (h : i < q.length) (hC0 : C0 st ns rs q (i + 1)) (hC1 : isB q[i] → ∀ x P0 s, BB ns q i x P0 s → Ev (fun k => templeref1_seq.l1 k q x (i : Int) st ns rs) (RR ns q)) (x : ByteArray) (hcut : isB q[i] → noLast (addsP ns (q.take i)))
    (htxt : x.data.toList = partsT (addsP ns (q.take i)) ++ (if addsP ns (q.take i) = [] then [] else [32])) (hsz : x.size ≤ 50 * i + 1) : Ev (fun k => templeref1_seq.j1 k q x (i : Int) st ns rs) (RR ns q) := by
  have hs := List.all_eq_true.1 hq _ (List.getElem_mem h)
  have hrd := rd_sym q i h
  have hstep := addsP_step ns q i h
  have hw : wrap64 ((i : Int) + 1) = ((i + 1 : Nat) : Int) := by unfold wrap64; omega
  generalize q[i] = c at *
  generalize hP : addsP ns (q.take i) = P at *
  by_cases h0 : 0 ≤ c.f0
  · have hn := isN_of hs h0
    have hnm : rdOf ByteArray.empty ns c.f0 = nmAt ns c.f0 := rfl
    have hmem : nmAt ns c.f0 ∈ ns := by
      unfold nmAt
      rw [List.getD_eq_getElem?_getD, List.getElem?_eq_getElem (show c.f0.toNat < ns.length from by omega)]
      exact List.getElem_mem _
    obtain ⟨n1, n2⟩ := hns _ hmem
    have ha : addP ns P c = P ++ [.call (nmAt ns c.f0)] := by unfold addP; rw [if_pos h0]
    obtain ⟨K2, h2⟩ := hC0 (x ++ nmAt ns c.f0) ⟨by
        rw [hstep, ha, dl_append, htxt]
        unfold partsT
        rw [sepT_append, List.append_assoc]
        rfl, by
        rw [hstep, ha]
        exact ⟨fun e => absurd e (toList_ne (by rw [ByteArray.size_append]; omega)), fun e => by simp at e⟩, fun _ _ => by rw [hstep, ha]; exact noLast_call _ _, by rw [ByteArray.size_append]; omega⟩
    refine ⟨K2 + 1, fun k hk => ?_⟩
    obtain ⟨m, rfl⟩ : ∃ m, k = m + 1 := ⟨k - 1, by omega⟩
    have g2 := h2 m (by omega)
    show templeref1_seq.j1 (m + 1) q x (i : Int) st ns rs = some (RR ns q)
    rw [templeref1_seq.j1, hrd, hw, hnm]
    exact st_pos (by omega) (st_pos (by omega) (st_pos h0 (st_pos h0 (st_pos hn (st_pos (by omega) g2)))))
  · have hr := isB_of hs (by omega)
    by_cases h12 : c.f1 < c.f2
    · have ha : addP ns P c = P ++ [.span (b8 c.f1) (b8 c.f2)] := by unfold addP; rw [if_neg h0, if_pos h12]
      obtain ⟨Ka, ha1⟩ := shown_ev c.f1 hr.1 (by omega) 39 (.inr rfl)
      obtain ⟨Kb, hb1⟩ := shown_ev c.f2 (by omega) hr.2.2 39 (.inr rfl)
      have la := chT_len (b8 c.f1) 39
      have lb := chT_len (b8 c.f2) 39
      have ea : ByteArray.size ⟨(chT (b8 c.f1) 39).toArray⟩ = (chT (b8 c.f1) 39).length := mk_size _
      have eb : ByteArray.size ⟨(chT (b8 c.f2) 39).toArray⟩ = (chT (b8 c.f2) 39).length := mk_size _
      have e39 := sz1 39
      have e4 : ByteArray.size ⟨#[39, 46, 46, 39]⟩ = 4 := rfl
      obtain ⟨K2, h2⟩ := hC0 (((((x ++ (⟨#[39]⟩ : ByteArray)) ++ ⟨(chT (b8 c.f1) 39).toArray⟩) ++ (⟨#[39, 46, 46, 39]⟩ : ByteArray)) ++ ⟨(chT (b8 c.f2) 39).toArray⟩) ++ (⟨#[39]⟩ : ByteArray)) ⟨by
          rw [hstep, ha, dl_append, dl_append, dl_append, dl_append, dl_append, htxt]
          unfold partsT
          rw [sepT_append, show partT (.span (b8 c.f1) (b8 c.f2)) = ([39] ++ chT (b8 c.f1) 39 ++ [39]) ++ [46, 46] ++ ([39] ++ chT (b8 c.f2) 39 ++ [39]) from rfl]
          simp, by
          rw [hstep, ha]
          exact ⟨fun e => absurd e (toList_ne (by rw [ByteArray.size_append]; omega)), fun e => by simp at e⟩, fun _ _ => by rw [hstep, ha]; exact noLast_span _ _ _, by
          simp only [ByteArray.size_append, ea, eb, e39, e4]
          omega⟩
      refine ⟨Ka + Kb + K2 + 1, fun k hk => ?_⟩
      obtain ⟨m, rfl⟩ : ∃ m, k = m + 1 := ⟨k - 1, by omega⟩
      have ga := ha1 m (by omega)
      have gb := hb1 m (by omega)
      have g2 := h2 m (by omega)
      show templeref1_seq.j1 (m + 1) q x (i : Int) st ns rs = some (RR ns q)
      rw [templeref1_seq.j1, hrd, hw]
      refine st_pos (by omega) (st_pos (by omega) (st_neg (by omega) (st_pos h12 (st_pos (by omega) (st_bind ga (st_pos ?_ (st_pos ?_ (st_bind gb (st_pos ?_ (st_pos ?_ g2))))))))))
      · simp only [ByteArray.size_append, ea, e39]; omega
      · simp only [ByteArray.size_append, ea, e39]; omega
      · simp only [ByteArray.size_append, ea, eb, e39, e4]; omega
      · simp only [ByteArray.size_append, ea, eb, e39, e4]; omega
    · have hb : isB c := ⟨by omega, by omega⟩
      obtain ⟨K2, h2⟩ := hC1 hb (x ++ ⟨#[34]⟩) P ⟨#[]⟩ ⟨hcut hb, by
          rw [dl_append, htxt]
          unfold partsT
          rw [List.append_assoc]
          rfl, hP, by rw [ByteArray.size_append, sz1]; omega, fun e => absurd rfl e⟩
      refine ⟨K2 + 1, fun k hk => ?_⟩
      obtain ⟨m, rfl⟩ : ∃ m, k = m + 1 := ⟨k - 1, by omega⟩
      have g2 := h2 m (by omega)
      show templeref1_seq.j1 (m + 1) q x (i : Int) st ns rs = some (RR ns q)
      rw [templeref1_seq.j1, hrd]
      exact st_pos (by omega) (st_pos (by omega) (st_neg (by omega) (st_neg h12 (st_pos (by omega) g2))))
theorem l1_exit (j : Nat) (hl : j ≤ 64) (hC : C0 st ns rs q j) (x : ByteArray) (P0 : List Part) (s : ByteArray) (hB : BB ns q j x P0 s) (hs : s.size ≠ 0) (hn : ∀ h : j < q.length, ¬ isB q[j]) : Ev (fun k => templeref1_seq.l1 k q x (j : Int) st ns rs) (RR ns q) := by
  have hsz := hB.size
  have hsz2 := hB.size2 hs
  have hp := hB.parts
  rw [if_neg hs] at hp
  obtain ⟨K2, h2⟩ := hC (x ++ ⟨#[34]⟩) ⟨by
      rw [hp, dl_append, hB.txt]
      unfold partsT
      rw [sepT_append, show partT (.single s) = [34] ++ singT s.data.toList ++ [34] from rfl]
      simp, by
      rw [hp]
      exact ⟨fun e => absurd e (toList_ne (by rw [ByteArray.size_append, sz1]; omega)), fun e => by simp at e⟩, fun h hb => absurd hb (hn h), by rw [ByteArray.size_append, sz1]; omega⟩
  refine ⟨K2 + 1, fun k hk => ?_⟩
  obtain ⟨m, rfl⟩ : ∃ m, k = m + 1 := ⟨k - 1, by omega⟩
  have g2 := h2 m (by omega)
  show templeref1_seq.l1 (m + 1) q x (j : Int) st ns rs = some (RR ns q)
  rw [templeref1_seq.l1]
  by_cases h : j < q.length
  · have hrd := rd_sym q j h
    rw [hrd]
    refine st_pos (by omega) (st_pos (by omega) ?_)
    by_cases h0 : q[j].f0 < 0
    · have h1 : ¬ q[j].f1 = q[j].f2 := fun e => hn h ⟨h0, e⟩
      exact st_pos h0 (st_neg h1 (st_pos (by omega) g2))
    · exact st_neg h0 (st_pos (by omega) g2)
  · exact st_neg (by omega) (st_pos (by omega) g2)
include hns hq hl in
theorem seq_all : ∀ d i, i + d = q.length → C0 st ns rs q i ∧ C1 st ns rs q i := by
  intro d
  induction d with
  | zero =>
    intro i hi
    obtain rfl : i = q.length := by omega
    have c0 : C0 st ns rs q q.length := by
      intro x hA
      refine ⟨1, fun k hk => ?_⟩
      obtain ⟨m, rfl⟩ : ∃ m, k = m + 1 := ⟨k - 1, by omega⟩
      show templeref1_seq.l0 (m + 1) q x ((q.length : Nat) : Int) st ns rs = some (RR ns q)
      rw [templeref1_seq.l0]
      refine st_neg (by omega) ?_
      have := hA.txt
      rw [List.take_length] at this
      rw [ba_eq this]
      rfl
    refine ⟨c0, fun x P0 s hB hs => ?_⟩
    refine l1_exit st ns rs q q.length hl c0 x P0 s hB ?_ (fun h => absurd h (Nat.lt_irrefl _))
    intro e
    obtain ⟨h, _⟩ := hs e
    exact absurd h (Nat.lt_irrefl _)
  | succ d ih =>
    intro i hi
    have h : i < q.length := by omega
    obtain ⟨a0, a1⟩ := ih (i + 1) (by omega)
    have lb : isB q[i] → ∀ x P0 s, BB ns q i x P0 s → Ev (fun k => templeref1_seq.l1 k q x (i : Int) st ns rs) (RR ns q) := fun hb x P0 s hB => l1_byte st ns rs q hq hl i h hb a1 x P0 s hB
    have c0 : C0 st ns rs q i := by
      intro x hA
      have hsz := hA.size
      by_cases ht : x.toList = []
      · obtain ⟨K2, h2⟩ := j1_ev st ns rs q hns hq hl i h a0 lb x (hA.cut h) (by rw [hA.txt, if_pos (hA.emp.1 ht), List.append_nil]) (by omega)
        refine ⟨K2 + 1, fun k hk => ?_⟩
        obtain ⟨m, rfl⟩ : ∃ m, k = m + 1 := ⟨k - 1, by omega⟩
        have g2 := h2 m (by omega)
        show templeref1_seq.l0 (m + 1) q x (i : Int) st ns rs = some (RR ns q)
        rw [templeref1_seq.l0]
        exact st_pos (by omega) (st_pos ht g2)
      · obtain ⟨K2, h2⟩ := j1_ev st ns rs q hns hq hl i h a0 lb (x ++ ⟨#[32]⟩) (hA.cut h) (by rw [dl_append, hA.txt, if_neg (fun e => ht (hA.emp.2 e))]) (by rw [ByteArray.size_append, sz1]; omega)
        refine ⟨K2 + 1, fun k hk => ?_⟩
        obtain ⟨m, rfl⟩ : ∃ m, k = m + 1 := ⟨k - 1, by omega⟩
        have g2 := h2 m (by omega)
        show templeref1_seq.l0 (m + 1) q x (i : Int) st ns rs = some (RR ns q)
        rw [templeref1_seq.l0]
        exact st_pos (by omega) (st_neg ht (st_pos (by omega) g2))
    refine ⟨c0, fun x P0 s hB hs => ?_⟩
    by_cases hb : isB q[i]
    · exact lb hb x P0 s hB
    · refine l1_exit st ns rs q i (by omega) c0 x P0 s hB ?_ (fun _ => hb)
      intro e
      obtain ⟨_, h2⟩ := hs e
      exact hb h2
include hns hq hl in
theorem seq_ev : Ev (fun k => templeref1_seq.f k st ns rs q) ⟨(partsT (partsL ns q)).toArray⟩ := by
  by_cases hz : q.length = 0
  · have e : q = [] := List.eq_nil_of_length_eq_zero hz
    subst e
    refine ⟨0, fun k _ => ?_⟩
    show templeref1_seq.f k st ns rs [] = _
    unfold templeref1_seq.f
    exact st_pos rfl rfl
  · have hne : q ≠ [] := fun e => hz (by rw [e]; rfl)
    have hp : partsL ns q = addsP ns q := by unfold partsL; rw [if_neg (addsP_ne ns q hne)]
    obtain ⟨K, hK⟩ := (seq_all st ns rs q hns hq hl q.length 0 (by omega)).1 ⟨#[]⟩ ⟨rfl, ⟨fun _ => rfl, fun _ => toList_nil.2 rfl⟩, fun _ _ s => by simp [addsP], by show (0 : Nat) ≤ _; omega⟩
    refine ⟨K, fun k hk => ?_⟩
    show templeref1_seq.f k st ns rs q = _
    unfold templeref1_seq.f
    rw [hp]
    exact st_neg (by omega) (hK k hk)
end
theorem conjB_facts {n : Int} {c : S41} (h : conjB n c = true) : c.f1.length ≤ 64 ∧ c.f1.all (symB n) = true := by
  unfold conjB at h
  rw [Bool.and_eq_true, decide_eq_true_eq] at h
  exact h
section
variable (st : Int) (ns : List ByteArray) (rs : List S44)
variable (hns : ∀ n ∈ ns, 1 ≤ n.size ∧ n.size ≤ 32)
include hns in
theorem rule_ev (h : Int) (cs : List S41) (hc : cs.all (conjB ns.length) = true) (hl : cs.length ≤ 8) : Ev (fun k => templeref1_rule.f k st ns rs h cs) ⟨(ruleT ns ⟨h, cs⟩).toArray⟩ := by
  have key : ∀ d i, i + d = cs.length → ∀ x : ByteArray, x.data.toList = sepT [32, 38, 32] (conjT ns) (cs.take i) → x.size ≤ 20000 * i → Ev (fun k => templeref1_rule.l0 k x (i : Int) st ns rs h cs) ⟨(ruleT ns ⟨h, cs⟩).toArray⟩ := by
    intro d
    induction d with
    | zero =>
      intro i hi x hx hsz
      refine ⟨1, fun k hk => ?_⟩
      obtain ⟨m, rfl⟩ : ∃ m, k = m + 1 := ⟨k - 1, by omega⟩
      show templeref1_rule.l0 (m + 1) x (i : Int) st ns rs h cs = _
      rw [templeref1_rule.l0]
      refine st_neg (by omega) ?_
      rw [show i = cs.length from by omega, List.take_length] at hx
      rw [ba_eq hx]
      rfl
    | succ d ih =>
      intro i hi x hx hsz
      have hlt : i < cs.length := by omega
      have hcb := conjB_facts (List.all_eq_true.1 hc _ (List.getElem_mem hlt))
      have hrd := rd_conj cs i hlt
      have htk := sepT_take [32, 38, 32] (conjT ns) cs i hlt
      have hbd := conjT_bound ns (fun n hn => (hns n hn).2) cs[i] hcb.1
      have hw : wrap64 ((i : Int) + 1) = ((i + 1 : Nat) : Int) := by unfold wrap64; omega
      generalize cs[i] = c at *
      obtain ⟨Ks, hs⟩ := seq_ev st ns rs c.f1 hns hcb.2 hcb.1
      have e1 : ByteArray.size ⟨(partsT (partsL ns c.f1)).toArray⟩ = (partsT (partsL ns c.f1)).length := mk_size _
      have e2 : (conjT ns c).length = (negT c.f0).length + (partsT (partsL ns c.f1)).length := List.length_append
      have e3 : ByteArray.size ⟨#[32, 38, 32]⟩ = 3 := rfl
      have e4 := sz1 126
      by_cases h0 : 0 < i
      · rw [if_pos h0] at htk
        by_cases hn : c.f0 = true
        · have hng : negT c.f0 = [126] := by unfold negT; rw [if_pos hn]
          obtain ⟨K2, h2⟩ := ih (i + 1) (by omega) (((x ++ ⟨#[32, 38, 32]⟩) ++ ⟨#[126]⟩) ++ ⟨(partsT (partsL ns c.f1)).toArray⟩) (by
            rw [htk, dl_append, dl_append, dl_append, hx]
            unfold conjT
            rw [hng]
            simp) (by simp only [ByteArray.size_append, e1, e3, e4]; omega)
          refine ⟨Ks + K2 + 1, fun k hk => ?_⟩
          obtain ⟨m, rfl⟩ : ∃ m, k = m + 1 := ⟨k - 1, by omega⟩
          show templeref1_rule.l0 (m + 1) x (i : Int) st ns rs h cs = _
          rw [templeref1_rule.l0, hrd, hw]
          refine st_pos (by omega) (st_pos (by omega) (st_pos (by omega) (st_pos (by omega) (st_pos hn (st_pos ?_ (st_bind (hs m (by omega)) (st_pos ?_ (h2 m (by omega)))))))))
          · simp only [ByteArray.size_append, e3]; omega
          · simp only [ByteArray.size_append, e1, e3, e4]; omega
        · have hng : negT c.f0 = [] := by unfold negT; rw [if_neg hn]
          obtain ⟨K2, h2⟩ := ih (i + 1) (by omega) ((x ++ ⟨#[32, 38, 32]⟩) ++ ⟨(partsT (partsL ns c.f1)).toArray⟩) (by
            rw [htk, dl_append, dl_append, hx]
            unfold conjT
            rw [hng]
            simp) (by simp only [ByteArray.size_append, e1, e3]; omega)
          refine ⟨Ks + K2 + 1, fun k hk => ?_⟩
          obtain ⟨m, rfl⟩ : ∃ m, k = m + 1 := ⟨k - 1, by omega⟩
          show templeref1_rule.l0 (m + 1) x (i : Int) st ns rs h cs = _
          rw [templeref1_rule.l0, hrd, hw]
          refine st_pos (by omega) (st_pos (by omega) (st_pos (by omega) (st_pos (by omega) (st_neg hn (st_bind (hs m (by omega)) (st_pos ?_ (h2 m (by omega))))))))
          · simp only [ByteArray.size_append, e1, e3]; omega
      · rw [if_neg h0] at htk
        by_cases hn : c.f0 = true
        · have hng : negT c.f0 = [126] := by unfold negT; rw [if_pos hn]
          obtain ⟨K2, h2⟩ := ih (i + 1) (by omega) ((x ++ ⟨#[126]⟩) ++ ⟨(partsT (partsL ns c.f1)).toArray⟩) (by
            rw [htk, dl_append, dl_append, hx]
            unfold conjT
            rw [hng]
            simp) (by simp only [ByteArray.size_append, e1, e4]; omega)
          refine ⟨Ks + K2 + 1, fun k hk => ?_⟩
          obtain ⟨m, rfl⟩ : ∃ m, k = m + 1 := ⟨k - 1, by omega⟩
          show templeref1_rule.l0 (m + 1) x (i : Int) st ns rs h cs = _
          rw [templeref1_rule.l0, hrd, hw]
          refine st_pos (by omega) (st_neg (by omega) (st_pos (by omega) (st_pos hn (st_pos (by omega) (st_bind (hs m (by omega)) (st_pos ?_ (h2 m (by omega))))))))
          · simp only [ByteArray.size_append, e1, e4]; omega
        · have hng : negT c.f0 = [] := by unfold negT; rw [if_neg hn]
          obtain ⟨K2, h2⟩ := ih (i + 1) (by omega) (x ++ ⟨(partsT (partsL ns c.f1)).toArray⟩) (by
            rw [htk, dl_append, hx]
            unfold conjT
            rw [hng]
            simp) (by simp only [ByteArray.size_append, e1]; omega)
          refine ⟨Ks + K2 + 1, fun k hk => ?_⟩
          obtain ⟨m, rfl⟩ : ∃ m, k = m + 1 := ⟨k - 1, by omega⟩
          show templeref1_rule.l0 (m + 1) x (i : Int) st ns rs h cs = _
          rw [templeref1_rule.l0, hrd, hw]
          refine st_pos (by omega) (st_neg (by omega) (st_pos (by omega) (st_neg hn (st_bind (hs m (by omega)) (st_pos ?_ (h2 m (by omega)))))))
          · simp only [e1]; omega
  obtain ⟨K, hK⟩ := key cs.length 0 (by omega) ⟨#[]⟩ (by cases cs <;> rfl) (by show (0 : Nat) ≤ _; omega)
  exact ⟨K, fun k hk => hK k hk⟩
end
section
variable (st : Int) (ns : List ByteArray) (rs : List S44)
theorem show_l0 (hns : ∀ n ∈ ns, 1 ≤ n.size ∧ n.size ≤ 32) (hr : ∀ x ∈ rs, ruleB ns.length x = true ∧ 0 ≤ x.f0 ∧ x.f0 < ns.length) (hl : rs.length ≤ 256) : ∀ d i, i + d = rs.length → ∀ x : ByteArray, x.data.toList = headT st ns ++ roundsT ns rs i → x.size ≤ 100 + 140000 * i → Ev (fun k => templeref1_Show.l0 k x (i : Int) st ns rs) ((⟨(showT st ns rs).toArray⟩ : ByteArray), (0 : Int)) := by
  intro d
  induction d with
  | zero =>
    intro i hi x hx hsz
    refine ⟨1, fun k hk => ?_⟩
    obtain ⟨m, rfl⟩ : ∃ m, k = m + 1 := ⟨k - 1, by omega⟩
    show templeref1_Show.l0 (m + 1) x (i : Int) st ns rs = _
    rw [templeref1_Show.l0]
    refine st_neg (by omega) ?_
    rw [show i = rs.length from by omega] at hx
    rw [ba_eq hx]
    rfl
  | succ d ih =>
    intro i hi x hx hsz
    have hlt : i < rs.length := by omega
    have hrd : rd_T44 rs (i : Int) = rAt rs i := rfl
    have hm : rAt rs i ∈ rs := by
      rw [show rAt rs i = rs[i] from rd_rule rs i hlt]
      exact List.getElem_mem hlt
    obtain ⟨r1, r2, r3⟩ := hr _ hm
    have hbd := ruleT_bound ns (fun n hn => (hns n hn).2) ns.length _ r1
    have hrl := ruleB_len r1
    have hra := ruleB_all r1
    have hstep : roundsT ns rs (i + 1) = roundsT ns rs i ++ topT ns rs i ++ ruleT ns (rAt rs i) ++ botT rs i := rfl
    have hw : wrap64 ((i : Int) + 1) = ((i + 1 : Nat) : Int) := by unfold wrap64; omega
    have hnm : rdOf ByteArray.empty ns (rAt rs i).f0 = nmAt ns (rAt rs i).f0 := rfl
    have hns2 := nmAt_size ns (fun n hn => (hns n hn).2) (rAt rs i).f0
    have hnx : rd_T44 rs (((i + 1 : Nat) : Int)) = rAt rs (i + 1) := rfl
    obtain ⟨Kr, hR⟩ := rule_ev st ns rs hns (rAt rs i).f0 (rAt rs i).f1 hra hrl
    have eR : (⟨(ruleT ns ⟨(rAt rs i).f0, (rAt rs i).f1⟩).toArray⟩ : ByteArray) = ⟨(ruleT ns (rAt rs i)).toArray⟩ := rfl
    rw [eR] at hR
    have e1 : ByteArray.size ⟨(ruleT ns (rAt rs i)).toArray⟩ = (ruleT ns (rAt rs i)).length := mk_size _
    have e2 : ByteArray.size ⟨#[59, 10]⟩ = 2 := rfl
    have e3 : ByteArray.size ⟨#[32, 61, 32]⟩ = 3 := rfl
    have e4 : ByteArray.size ⟨#[32, 124, 32]⟩ = 3 := rfl
    -- behind the rule's text
    have fin : ∀ y : ByteArray, y.data.toList = headT st ns ++ roundsT ns rs i ++ topT ns rs i ++ ruleT ns (rAt rs i) → y.size ≤ 139000 + 100 + 140000 * i → ∃ K, ∀ m, K ≤ m →
        (i + 1 = rs.length → templeref1_Show.l0 m (y ++ ⟨#[59, 10]⟩) ((i + 1 : Nat) : Int) st ns rs = some ((⟨(showT st ns rs).toArray⟩ : ByteArray), (0 : Int))) ∧
        (i + 1 < rs.length → (rAt rs (i + 1)).f0 = (rAt rs i).f0 → templeref1_Show.l0 m y ((i + 1 : Nat) : Int) st ns rs = some ((⟨(showT st ns rs).toArray⟩ : ByteArray), (0 : Int))) ∧
        (i + 1 < rs.length → ¬ (rAt rs (i + 1)).f0 = (rAt rs i).f0 → templeref1_Show.l0 m (y ++ ⟨#[59, 10]⟩) ((i + 1 : Nat) : Int) st ns rs = some ((⟨(showT st ns rs).toArray⟩ : ByteArray), (0 : Int))) := by
      intro y hy hysz
      have hbot : botT rs i = if i + 1 = rs.length ∨ (rAt rs (i + 1)).f0 ≠ (rAt rs i).f0 then [59, 10] else [] := rfl
      by_cases hc : i + 1 = rs.length ∨ (rAt rs (i + 1)).f0 ≠ (rAt rs i).f0
      · rw [if_pos hc] at hbot
        obtain ⟨K, hK⟩ := ih (i + 1) (by omega) (y ++ ⟨#[59, 10]⟩) (by rw [dl_append, hy, hstep, hbot]; simp) (by rw [ByteArray.size_append, e2]; omega)
        exact ⟨K, fun m hm => ⟨fun _ => hK m hm, fun h1 h2 => absurd hc (fun h => h.elim (fun q => by omega) (fun q => q h2)), fun _ _ => hK m hm⟩⟩
      · rw [if_neg hc] at hbot
        obtain ⟨K, hK⟩ := ih (i + 1) (by omega) y (by rw [hy, hstep, hbot]; simp) (by omega)
        exact ⟨K, fun m hm => ⟨fun h => absurd (.inl h) hc, fun _ _ => hK m hm, fun _ h => absurd (.inr h) hc⟩⟩
    have htop : topT ns rs i = if i = 0 ∨ (rAt rs (i - 1)).f0 ≠ (rAt rs i).f0 then (nmAt ns (rAt rs i).f0).data.toList ++ [32, 61, 32] else [32, 124, 32] := rfl
    have j1y : i = 0 ∨ (rAt rs (i - 1)).f0 ≠ (rAt rs i).f0 → ∃ K, ∀ k, K ≤ k → templeref1_Show.j1 k x (i : Int) true st ns rs (rAt rs i).f0 (rAt rs i).f1 = some ((⟨(showT st ns rs).toArray⟩ : ByteArray), (0 : Int)) := by
      intro hc
      rw [if_pos hc] at htop
      obtain ⟨Kf, hf⟩ := fin (((x ++ nmAt ns (rAt rs i).f0) ++ ⟨#[32, 61, 32]⟩) ++ ⟨(ruleT ns (rAt rs i)).toArray⟩) (by rw [dl_append, dl_append, dl_append, hx, htop]; simp) (by simp only [ByteArray.size_append, e1, e3]; omega)
      refine ⟨Kr + Kf + 1, fun k hk => ?_⟩
      obtain ⟨m, rfl⟩ : ∃ m, k = m + 1 := ⟨k - 1, by omega⟩
      obtain ⟨f1, f2, f3⟩ := hf m (by omega)
      rw [templeref1_Show.j1, hw, hnx, hnm]
      refine st_pos rfl (st_pos r2 (st_pos r3 (st_pos (by omega) (st_pos (by rw [ByteArray.size_append]; omega) (st_bind (hR m (by omega)) (st_pos (by simp only [ByteArray.size_append, e1, e3]; omega) ?_))))))
      by_cases hl1 : i + 1 = rs.length
      · exact st_pos (by omega) (st_pos (by simp only [ByteArray.size_append, e1, e3]; omega) (f1 hl1))
      · refine st_neg (by omega) (st_pos (by omega) (st_pos (by omega) ?_))
        by_cases hh : (rAt rs (i + 1)).f0 = (rAt rs i).f0
        · exact st_pos hh (f2 (by omega) hh)
        · exact st_neg hh (st_pos (by simp only [ByteArray.size_append, e1, e3]; omega) (f3 (by omega) hh))
    have j1n : ¬ (i = 0 ∨ (rAt rs (i - 1)).f0 ≠ (rAt rs i).f0) → ∃ K, ∀ k, K ≤ k → templeref1_Show.j1 k x (i : Int) false st ns rs (rAt rs i).f0 (rAt rs i).f1 = some ((⟨(showT st ns rs).toArray⟩ : ByteArray), (0 : Int)) := by
      intro hc
      rw [if_neg hc] at htop
      obtain ⟨Kf, hf⟩ := fin ((x ++ ⟨#[32, 124, 32]⟩) ++ ⟨(ruleT ns (rAt rs i)).toArray⟩) (by rw [dl_append, dl_append, hx, htop]) (by simp only [ByteArray.size_append, e1, e4]; omega)
      refine ⟨Kr + Kf + 1, fun k hk => ?_⟩
      obtain ⟨m, rfl⟩ : ∃ m, k = m + 1 := ⟨k - 1, by omega⟩
      obtain ⟨f1, f2, f3⟩ := hf m (by omega)
      rw [templeref1_Show.j1, hw, hnx]
      refine st_neg (by decide) (st_pos (by omega) (st_bind (hR m (by omega)) (st_pos (by simp only [ByteArray.size_append, e1, e4]; omega) ?_)))
      by_cases hl1 : i + 1 = rs.length
      · exact st_pos (by omega) (st_pos (by simp only [ByteArray.size_append, e1, e4]; omega) (f1 hl1))
      · refine st_neg (by omega) (st_pos (by omega) (st_pos (by omega) ?_))
        by_cases hh : (rAt rs (i + 1)).f0 = (rAt rs i).f0
        · exact st_pos hh (f2 (by omega) hh)
        · exact st_neg hh (st_pos (by simp only [ByteArray.size_append, e1, e4]; omega) (f3 (by omega) hh))
    by_cases h0 : i = 0
    · obtain ⟨K, hK⟩ := j1y (.inl h0)
      refine ⟨K + 1, fun k hk => ?_⟩
      obtain ⟨m, rfl⟩ : ∃ m, k = m + 1 := ⟨k - 1, by omega⟩
      show templeref1_Show.l0 (m + 1) x (i : Int) st ns rs = _
      rw [templeref1_Show.l0, hrd]
      exact st_pos (by omega) (st_pos (by omega) (st_pos (by omega) (hK m (by omega))))
    · have hw1 : wrap64 ((i : Int) - 1) = ((i - 1 : Nat) : Int) := by unfold wrap64; omega
      have hpr : rd_T44 rs (((i - 1 : Nat) : Int)) = rAt rs (i - 1) := rfl
      by_cases hp : (rAt rs (i - 1)).f0 = (rAt rs i).f0
      · obtain ⟨K, hK⟩ := j1n (fun h => h.elim h0 (fun q => q hp))
        refine ⟨K + 1, fun k hk => ?_⟩
        obtain ⟨m, rfl⟩ : ∃ m, k = m + 1 := ⟨k - 1, by omega⟩
        show templeref1_Show.l0 (m + 1) x (i : Int) st ns rs = _
        rw [templeref1_Show.l0, hrd, hw1, hpr, show ((rAt rs (i - 1)).f0 != (rAt rs i).f0) = false from bne_eq_false_iff_eq.2 hp]
        exact st_pos (by omega) (st_pos (by omega) (st_neg (by omega) (st_pos (by omega) (st_pos (by omega) (hK m (by omega))))))
      · obtain ⟨K, hK⟩ := j1y (.inr hp)
        refine ⟨K + 1, fun k hk => ?_⟩
        obtain ⟨m, rfl⟩ : ∃ m, k = m + 1 := ⟨k - 1, by omega⟩
        show templeref1_Show.l0 (m + 1) x (i : Int) st ns rs = _
        rw [templeref1_Show.l0, hrd, hw1, hpr, show ((rAt rs (i - 1)).f0 != (rAt rs i).f0) = true from bne_iff_ne.2 hp]
        exact st_pos (by omega) (st_pos (by omega) (st_neg (by omega) (st_pos (by omega) (st_pos (by omega) (hK m (by omega))))))
theorem namesFrom_pos : ∀ (xs seen : List ByteArray), namesFrom seen xs = true → ∀ x ∈ xs, 1 ≤ x.size
  | [], _, _ => by simp
  | y :: ys, seen, h => by
    unfold namesFrom at h
    rw [Bool.and_eq_true, Bool.and_eq_true] at h
    intro x hx
    rcases List.mem_cons.1 hx with rfl | hx
    · have h1 := h.1.1
      unfold nameOk at h1
      rw [Bool.and_eq_true] at h1
      have := of_decide_eq_true h1.1
      omega
    · exact namesFrom_pos ys _ h.2 x hx
theorem refShow_ev : Ev (fun k => templeref1_Show.f k st ns rs) (if mayB st ns rs then ((⟨(showT st ns rs).toArray⟩ : ByteArray), (0 : Int)) else (⟨#[]⟩, 500)) := by
  obtain ⟨K1, h1⟩ := ref_May st ns rs
  cases hm : mayB st ns rs with
  | false =>
    rw [hm] at h1
    refine ⟨K1, fun k hk => ?_⟩
    show templeref1_Show.f k st ns rs = _
    unfold templeref1_Show.f
    exact st_bind (h1 k hk) (st_neg (by decide) rfl)
  | true =>
    rw [hm] at h1
    obtain ⟨f1, f2, f3, f4, f5, f6, f7⟩ := mayB_facts hm
    have hpos : ∀ n ∈ ns, 1 ≤ n.size := by
      unfold mayB namesOk at hm
      rw [Bool.and_eq_true, Bool.and_eq_true, Bool.and_eq_true, Bool.and_eq_true] at hm
      exact namesFrom_pos ns [] hm.1.1.1.2
    have hsz := nmAt_size ns f1 st
    have e1 : ByteArray.size ⟨#[115, 116, 97, 114, 116, 32]⟩ = 6 := rfl
    have e2 : ByteArray.size ⟨#[59, 10]⟩ = 2 := rfl
    have hnm : rdOf ByteArray.empty ns st = nmAt ns st := rfl
    obtain ⟨K2, h2⟩ := show_l0 st ns rs (fun n hn => ⟨hpos n hn, f1 n hn⟩) f7 f5 rs.length 0 (by omega) ((⟨#[115, 116, 97, 114, 116, 32]⟩ ++ nmAt ns st) ++ ⟨#[59, 10]⟩) (by
      rw [dl_append, dl_append]
      simp [headT, roundsT]) (by simp only [ByteArray.size_append, e1, e2]; omega)
    refine ⟨K1 + K2, fun k hk => ?_⟩
    show templeref1_Show.f k st ns rs = _
    unfold templeref1_Show.f
    rw [hnm]
    exact st_bind (h1 k (by omega)) (st_pos rfl (st_pos f2 (st_pos f3 (st_pos (by omega) (st_pos (by rw [ByteArray.size_append, e1]; omega) (h2 k (by omega)))))))
end
end Go.Proofs.Ytimmkmfcpfjgfaa.PSA
