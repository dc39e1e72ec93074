/- Layer 3, plain: starts and definitions stand in their rows, however they are mixed (ParseStarts). -/
import Derived.Test.YtmpilejhnolafaaL3Pc
import Derived.Test.YtmpilejhnolafaaL3Awake
import Derived.Test.YtmpilejhnolafaaPPSx9
namespace Go.Proofs.Ytmpilejhnolafaa.PPS
open Go.RowKit Go.Proofs.YtmpilejhnolafaaW.PrintWords Go.Proofs.YtmpilejhnolafaaW.PrintLast
set_option linter.unusedVariables false
set_option linter.unusedSimpArgs false
def nm3 (j : Int) : ByteArray := rdOf ByteArray.empty [(⟨#[97]⟩ : ByteArray), (⟨#[66]⟩ : ByteArray), (⟨#[95, 48]⟩ : ByteArray)] j
theorem pc_semi : Pc [59] [(8, ⟨#[]⟩, 0, 0)] := pc_cons (r := []) (by decide) (by decide) (fun y => rfl) pc_nil
theorem pc_start : Pc [115, 116, 97, 114, 116, 32] [(3, ⟨#[]⟩, 0, 0)] := pc_cons (r := [32]) (by decide) (by decide) (fun y => by rfl) (pc_blank (by decide))
theorem pc_end : Pc [61, 34, 34, 59, 10] [(4, ⟨#[]⟩, 0, 0), (1, ⟨#[]⟩, 0, 0), (8, ⟨#[]⟩, 0, 0)] := by
  refine pc_cons (r := [34, 34, 59, 10]) (by decide) (by decide) (fun y => rfl) (pc_cons (r := [59, 10]) (by decide) (by decide) (fun y => ?_) (pc_cons (r := [10]) (by decide) (by decide) (fun y => rfl) (pc_blank (by decide))))
  dsimp only [tokL]
  rw [if_neg (by decide), if_pos rfl, txtL_end (by rfl)]
  rfl
theorem pc_name (j : Int) (h0 : 0 ≤ j) (h1 : j < 3) (r : BL) (ks : List TokK) (c : Int) (hc : c = 59 ∨ c = 61) (hr : Pc (c :: r) ks) : Pc (bl (nm3 j) ++ c :: r) ((0, nm3 j, 0, 0) :: ks) := by
  have h : j = 0 ∨ j = 1 ∨ j = 2 := by omega
  rcases h with rfl | rfl | rfl
  · have e : bl (nm3 0) = [97] := by decide
    rw [e]
    rcases hc with rfl | rfl
    · exact pc_cons (by decide) (by decide) (fun y => by rfl) hr
    · exact pc_cons (by decide) (by decide) (fun y => by rfl) hr
  · have e : bl (nm3 1) = [66] := by decide
    rw [e]
    rcases hc with rfl | rfl
    · exact pc_cons (by decide) (by decide) (fun y => by rfl) hr
    · exact pc_cons (by decide) (by decide) (fun y => by rfl) hr
  · have e : bl (nm3 2) = [95, 48] := by decide
    rw [e]
    rcases hc with rfl | rfl
    · exact pc_cons (by decide) (by decide) (fun y => by rfl) hr
    · exact pc_cons (by decide) (by decide) (fun y => by rfl) hr
theorem run_start (nm : ByteArray) (S : List ByteArray) (D : List S42) : okP (runP ([(3, ⟨#[]⟩, 0, 0), (0, nm, 0, 0), (8, ⟨#[]⟩, 0, 0)].map tokE) 0 S D) = some (0, S ++ [nm], D) := rfl
theorem run_def (nm : ByteArray) (S : List ByteArray) (D : List S42) : okP (runP ([(0, nm, 0, 0), (4, ⟨#[]⟩, 0, 0), (1, ⟨#[]⟩, 0, 0), (8, ⟨#[]⟩, 0, 0)].map tokE) 0 S D) = some (0, S, D ++ [⟨nm, [[⟨false, [⟨1, ⟨#[]⟩, 0, 0⟩]⟩]]⟩]) := by
  have e1 : takeP 0 S D (tokE (0, nm, 0, 0)) = some (3, S, D ++ [⟨nm, [[]]⟩]) := rfl
  have e2 : takeP 3 S (D ++ [⟨nm, [[]]⟩]) (tokE (4, ⟨#[]⟩, 0, 0)) = some (4, S, D ++ [⟨nm, [[]]⟩]) := rfl
  have e3 : takeP 4 S (D ++ [⟨nm, [[]]⟩]) (tokE (1, ⟨#[]⟩, 0, 0)) = some (6, S, addItem (tokE (1, ⟨#[]⟩, 0, 0)) (addConj false (D ++ [⟨nm, [] ++ [[]]⟩]))) := rfl
  have e4 : ∀ D', takeP 6 S D' (tokE (8, ⟨#[]⟩, 0, 0)) = some (0, S, D') := fun _ => rfl
  rw [addConj_at, addItem_at] at e3
  simp only [List.map_cons, List.map_nil, runP_cons, e1, e2, e3, e4]
  rfl
section
variable (xs : List Int)
def PSg : Prop := ∀ (s : ByteArray) (i : Nat) (S : List ByteArray) (D : List S42) (ks : List TokK), i ≤ 30 → s.size ≤ 20 * i → Pc (bl s) ks → okP (runP (ks.map tokE) 0 [] []) = some (0, S, D) → S.length ≤ i → D.length ≤ i → Ev (fun k => templelaw3_ParseStarts.l0 k xs s (i : Int) S D) true
theorem starts_fin (s : ByteArray) (i : Int) (S : List ByteArray) (D : List S42) (ks : List TokK) (hs : s.size ≤ 1000) (hp : Pc (bl s) ks) (hr : okP (runP (ks.map tokE) 0 [] []) = some (0, S, D)) : Ev (fun k => templelaw3_ParseStarts.j1 k xs s i false S D) true := by
  obtain ⟨e, hz⟩ := parse_of_pc hp (by omega) hr
  obtain ⟨K1, h1⟩ := parse_ev s
  obtain ⟨K2, h2⟩ := sameRaw_self S D hz
  rw [e] at h1
  dsimp only at h1 h2
  refine ⟨K1 + K2 + 1, fun k hk => ?_⟩
  obtain ⟨k, rfl⟩ : ∃ j, k = j + 1 := ⟨k - 1, by omega⟩
  simp only [templelaw3_ParseStarts.j1]
  rw [if_neg (by simp), h1 k (by omega), Option.bind_some]
  refine st_bind3 (show templelaw0_Num.f 0 = some 0 from rfl) ((if_pos rfl).trans (st_bind3 (h2 k (by omega)) rfl))
theorem ix3 (v : Int) : 0 ≤ wrap64 (Int.tmod (IntKind.u64.wrap v) 3) ∧ wrap64 (Int.tmod (IntKind.u64.wrap v) 3) < 3 := by
  have h : IntKind.u64.wrap v = v % 18446744073709551616 := rfl
  rw [Int.tmod_eq_emod_of_nonneg (by rw [h]; omega)]
  unfold wrap64
  rw [h]
  omega
theorem nm3_size (j : Int) (h0 : 0 ≤ j) (h1 : j < 3) : (nm3 j).size ≤ 2 := by
  have h : j = 0 ∨ j = 1 ∨ j = 2 := by omega
  rcases h with rfl | rfl | rfl <;> decide
theorem sz_lit (a : Array UInt8) : ByteArray.size ⟨a⟩ = a.size := rfl
theorem starts_step (s : ByteArray) (i : Nat) (S : List ByteArray) (D : List S42) (ks : List TokK) (hi : i < 30) (hlt : i < xs.length) (hs : s.size ≤ 20 * i) (hp : Pc (bl s) ks) (hr : okP (runP (ks.map tokE) 0 [] []) = some (0, S, D)) (hS : S.length ≤ i) (hD : D.length ≤ i)
    (ih : ∀ (s : ByteArray) (S : List ByteArray) (D : List S42) (ks : List TokK), s.size ≤ 20 * (i + 1) → Pc (bl s) ks → okP (runP (ks.map tokE) 0 [] []) = some (0, S, D) → S.length ≤ i + 1 → D.length ≤ i + 1 → Ev (fun k => templelaw3_ParseStarts.l0 k xs s ((i + 1 : Nat) : Int) S D) true) : Ev (fun k => templelaw3_ParseStarts.j1 k xs s (i : Int) true S D) true := by
  obtain ⟨x0, x1⟩ := ix3 (rd xs (i : Int))
  generalize hj : wrap64 (Int.tmod (IntKind.u64.wrap (rd xs (i : Int))) 3) = j at x0 x1
  have hn := nm3_size j x0 x1
  have hw := wrap_nat i (by omega)
  by_cases h4 : Go.bits .and .i64 (rd xs (i : Int)) 4 = 4
  · have b := ih (((s ++ (⟨#[115, 116, 97, 114, 116, 32]⟩ : ByteArray)) ++ nm3 j) ++ (⟨#[59]⟩ : ByteArray)) (S ++ [nm3 j]) D (ks ++ ([(3, ⟨#[]⟩, 0, 0)] ++ [(0, nm3 j, 0, 0), (8, ⟨#[]⟩, 0, 0)])) (by simp only [ByteArray.size_append, sz_lit]; simp; omega) (by
      have := pc_app hp (pc_app pc_start (pc_name j x0 x1 [] _ 59 (.inl rfl) pc_semi))
      rw [bl_app, bl_app, bl_app, List.append_assoc, List.append_assoc]
      exact this) (by
      rw [List.map_append, ok_app _ _ _ _ _ hr]
      exact run_start (nm3 j) S D) (by simp; omega) (by omega)
    refine Ev.step (fun k => ?_) b
    simp only [templelaw3_ParseStarts.j1]
    rw [if_pos trivial, Option.bind_some, if_pos (by omega), if_pos (by omega), hj, if_pos x0, if_pos (by simp only [List.length_cons, List.length_nil]; omega), if_pos h4, if_pos (by omega), if_pos (by show (s ++ _ : ByteArray).size + (nm3 j).size ≤ _; simp only [ByteArray.size_append, sz_lit]; simp; omega), if_pos (by show ((s ++ _ : ByteArray) ++ nm3 j).size + 1 ≤ _; simp only [ByteArray.size_append, sz_lit]; simp; omega), if_pos (by omega), hw]
    rfl
  · have b := ih ((s ++ nm3 j) ++ (⟨#[61, 34, 34, 59, 10]⟩ : ByteArray)) S (D ++ [⟨nm3 j, [[⟨false, [⟨1, ⟨#[]⟩, 0, 0⟩]⟩]]⟩]) (ks ++ ((0, nm3 j, 0, 0) :: [(4, ⟨#[]⟩, 0, 0), (1, ⟨#[]⟩, 0, 0), (8, ⟨#[]⟩, 0, 0)])) (by simp only [ByteArray.size_append, sz_lit]; simp; omega) (by
      have := pc_app hp (pc_name j x0 x1 _ _ 61 (.inr rfl) pc_end)
      rw [bl_app, bl_app, List.append_assoc]
      exact this) (by
      rw [List.map_append, ok_app _ _ _ _ _ hr]
      exact run_def (nm3 j) S D) (by omega) (by simp; omega)
    refine Ev.step (fun k => ?_) b
    simp only [templelaw3_ParseStarts.j1]
    rw [if_pos trivial, Option.bind_some, if_pos (by omega), if_pos (by omega), hj, if_pos x0, if_pos (by simp only [List.length_cons, List.length_nil]; omega), if_neg h4, if_pos (by show s.size + (nm3 j).size ≤ _; omega), if_pos (by show (s ++ nm3 j : ByteArray).size + 5 ≤ _; simp only [ByteArray.size_append]; omega), if_pos (by omega), hw]
    rfl
theorem starts_l0 : ∀ (n i : Nat) (s : ByteArray) (S : List ByteArray) (D : List S42) (ks : List TokK), 30 - i ≤ n → i ≤ 30 → s.size ≤ 20 * i → Pc (bl s) ks → okP (runP (ks.map tokE) 0 [] []) = some (0, S, D) → S.length ≤ i → D.length ≤ i → Ev (fun k => templelaw3_ParseStarts.l0 k xs s (i : Int) S D) true := by
  intro n
  induction n with
  | zero =>
    intro i s S D ks hn hi hs hp hr hS hD
    obtain rfl : i = 30 := by omega
    by_cases hlt : (30 : Nat) < xs.length
    · refine Ev.step (fun k => ?_) (starts_fin xs s ((30 : Nat) : Int) S D ks (by omega) hp hr)
      simp only [templelaw3_ParseStarts.l0]
      rw [if_pos (by omega)]
      congr 1
    · refine Ev.step (fun k => ?_) (starts_fin xs s ((30 : Nat) : Int) S D ks (by omega) hp hr)
      simp only [templelaw3_ParseStarts.l0]
      rw [if_neg (by omega)]
  | succ n ih =>
    intro i s S D ks hn hi hs hp hr hS hD
    by_cases hlt : i < xs.length
    · by_cases h30 : i < 30
      · refine Ev.step (fun k => ?_) (starts_step xs s i S D ks h30 hlt hs hp hr hS hD (fun s S D ks a b c d e => ih (i + 1) s S D ks (by omega) (by omega) a b c d e))
        simp only [templelaw3_ParseStarts.l0]
        rw [if_pos (by omega), decide_eq_true (by omega)]
      · refine Ev.step (fun k => ?_) (starts_fin xs s (i : Int) S D ks (by omega) hp hr)
        simp only [templelaw3_ParseStarts.l0]
        rw [if_pos (by omega), decide_eq_false (by omega)]
    · refine Ev.step (fun k => ?_) (starts_fin xs s (i : Int) S D ks (by omega) hp hr)
      simp only [templelaw3_ParseStarts.l0]
      rw [if_neg (by omega)]
end
theorem starts_pure (xs : List Int) : ∃ k, templelaw3_ParseStarts.f k xs = some true := by
  obtain ⟨K1, h1⟩ := awake3
  obtain ⟨K2, h2⟩ := starts_l0 xs 30 0 ⟨#[]⟩ [] [] [] (by omega) (by omega) (by decide) (by rw [show bl ⟨#[]⟩ = [] from by decide]; exact pc_nil) rfl (by simp) (by simp)
  refine ⟨K1 + K2, ?_⟩
  unfold templelaw3_ParseStarts.f
  exact st_bind3 (h1 _ (by omega)) ((if_pos rfl).trans (h2 _ (by omega)))
end Go.Proofs.Ytmpilejhnolafaa.PPS
