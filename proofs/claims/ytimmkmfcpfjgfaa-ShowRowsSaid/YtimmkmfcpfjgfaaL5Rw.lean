/- Layer 5, plain: names in their row (ShowRows). -/
import Derived.Test.YtimmkmfcpfjgfaaL5Groups
import Derived.Test.YtimmkmfcpfjgfaaPSRx5
namespace Go.Proofs.Ytimmkmfcpfjgfaa.PSR
open Go.RowKit Go.Proofs.YtimmkmfcpfjgfaaW.PrintWords Go.Proofs.YtimmkmfcpfjgfaaW.PrintLast
set_option linter.unusedVariables false
theorem ev_two {α : Type} {g : Nat → Option α} {r : α} (K : Nat) (h : g K = some r) (hm : ∀ k, LeO (g k) (g (k + 1))) : Ev g r := by
  refine ⟨K, fun k hk => ?_⟩
  obtain ⟨d, rfl⟩ : ∃ d, k = K + d := ⟨k - K, by omega⟩
  clear hk
  induction d with
  | zero => exact h
  | succ d ih => exact hm _ _ ih
theorem and3 (a : Int) : Go.bits .and .i64 a 3 = a % 4 := by
  have h : Go.bits .and .i64 a 3 = IntKind.i64.wrap (((BitVec.ofInt 64 a) &&& (BitVec.ofNat 64 3)).toNat : Int) := rfl
  rw [h, BitVec.toNat_and, BitVec.toNat_ofInt, BitVec.toNat_ofNat]
  have e : (a % (2 ^ 64 : Nat)).toNat &&& 3 % 2 ^ 64 = (a % (2 ^ 64 : Nat)).toNat % 4 := by
    rw [show 3 % 2 ^ 64 = 2 ^ 2 - 1 from by decide, Nat.and_two_pow_sub_one_eq_mod]
  rw [e, IntKind.wrap_i64]
  have e2 : ((2 ^ 64 : Nat) : Int) = 18446744073709551616 := by decide
  rw [e2]
  omega
def nmI (i : Nat) : ByteArray := ⟨#[110, (48 + i).toUInt8]⟩
def decI (i : Nat) : ByteArray := ⟨#[(48 + i).toUInt8]⟩
def nms (k : Nat) : List ByteArray := (List.range k).map nmI
theorem dec_all : ∀ i, i < 4 → templeref0_Decimal.f 9 ((i : Nat) : Int) = some (decI i) := by decide +kernel
theorem dec_ev (i : Nat) (h : i < 4) : Ev (fun k => templeref0_Decimal.f k (i : Int)) (decI i) := ev_two 9 (dec_all i h) (fun k => templeref0_Decimal.mono _ k)
def cj (i j c : Nat) : S41 := ⟨Go.bits .and .i64 (wrap64 ((c : Int) + (j : Int))) 1 == 1, [⟨(i : Int), 0, 0⟩, ⟨-1, 120, 120⟩, ⟨-1, 121, 121⟩]⟩
def rl (i cnt j : Nat) : S44 := ⟨(i : Int), (List.range (cnt + 1)).map (cj i j)⟩
def grpI (mm cc : Nat → Nat) (i : Nat) : List S44 := (List.range (mm i)).map (rl i (cc i))
theorem nms_at (k i : Nat) (h : i < k) : nmAt (nms k) (i : Int) = nmI i := by
  unfold nmAt nms
  rw [Int.toNat_natCast, List.getD_eq_getElem?_getD, List.getElem?_map, List.getElem?_range h]
  rfl
theorem cj_txt (k i j c : Nat) (h : i < k) : conjT (nms k) (cj i j c) = negT (cj i j c).f0 ++ ((nmI i).data.toList ++ [32, 34, 120, 121, 34]) := by
  have hn := nms_at k i h
  have e : addsP (nms k) (cj i j c).f1 = [.call (nmI i), .single ⟨#[120, 121]⟩] := by
    show addP (nms k) (addP (nms k) (addP (nms k) [] ⟨(i : Int), 0, 0⟩) ⟨-1, 120, 120⟩) ⟨-1, 121, 121⟩ = _
    rw [show addP (nms k) [] ⟨(i : Int), 0, 0⟩ = [.call (nmAt (nms k) (i : Int))] from by unfold addP; rw [if_pos (by show (0 : Int) ≤ (i : Int); omega)]; rfl, hn]
    rfl
  have e2 : partsL (nms k) (cj i j c).f1 = [.call (nmI i), .single ⟨#[120, 121]⟩] := by
    unfold partsL
    rw [e]
    rfl
  unfold conjT
  rw [e2]
  rfl
theorem st2_bind {α β : Type} {o : Option α} {f : α → Option β} {a : α} {r : Option β} (h : o = some a) (g : f a = r) : o.bind f = r := st_bind h g
theorem range_map_succ {β : Type} (f : Nat → β) (c : Nat) : (List.range (c + 1)).map f = (List.range c).map f ++ [f c] := by
  rw [List.range_succ, List.map_append]
  rfl
theorem range_map_nil {β : Type} (f : Nat → β) (c : Nat) : (List.range c).map f = [] ↔ c = 0 := by
  constructor
  · intro h
    have := congrArg List.length h
    rw [List.length_map, List.length_range] at this
    exact this
  · rintro rfl
    rfl
section
variable (x0 : List Int) (a1 : Int) (K : Nat) (s : Int)
theorem l2_ev (i j cc mm : Nat) (hi : i < K) (hK : K ≤ 4) (hj : j < 4) (hcc : cc ≤ 3) (HC1 : Aside0 (Go.bits .and .i64 (shr .i64 a1 (i : Int)) 3 = (cc : Int))) (names : List ByteArray) (rules : List S44) (hr : rules.length ≤ 100) (X : List UInt8) (B : Nat) (hB : B ≤ 1000000)
    (next : ∀ x : ByteArray, x.data.toList = X ++ ruleT (nms K) (rl i cc j) → x.size ≤ B + 100 → Ev (fun k => templelaw5_ShowRows.l1 k x0 a1 (K : Int) x (i : Int) (mm : Int) ((j + 1 : Nat) : Int) s names (rules ++ [rl i cc j])) true) :
    ∀ d c, c + d = cc + 1 → ∀ x : ByteArray, x.data.toList = X ++ sepT [32, 38, 32] (conjT (nms K)) ((List.range c).map (cj i j)) → x.size ≤ B + 20 * c → Ev (fun k => templelaw5_ShowRows.l2 k x0 a1 (K : Int) x (i : Int) (mm : Int) (j : Int) (c : Int) s names rules (i : Int) ((List.range c).map (cj i j))) true := by
  intro d
  induction d with
  | zero =>
    intro c hc x hx hsz
    obtain rfl : c = cc + 1 := by omega
    obtain ⟨K1, h1⟩ := next x hx (by omega)
    refine ⟨K1 + 1, fun k hk => ?_⟩
    obtain ⟨m, rfl⟩ : ∃ m, k = m + 1 := ⟨k - 1, by omega⟩
    show templelaw5_ShowRows.l2 (m + 1) x0 a1 (K : Int) x (i : Int) (mm : Int) (j : Int) ((cc + 1 : Nat) : Int) s names rules (i : Int) _ = some true
    rw [templelaw5_ShowRows.l2, HC1.out, show wrap64 ((j : Int) + 1) = ((j + 1 : Nat) : Int) from by unfold wrap64; omega]
    exact st_pos (by omega) (st_neg (by omega) (st_pos (by omega) (h1 m (by omega))))
  | succ d ih =>
    intro c hc x hx hsz
    have HW : Aside0 (wrap64 ((c : Int) + 1) = ((c + 1 : Nat) : Int)) := ⟨by unfold wrap64; omega⟩
    obtain ⟨Z, hZ⟩ : ∃ Z, Go.bits .and .i64 (wrap64 ((c : Int) + (j : Int))) 1 = Z := ⟨_, rfl⟩
    have HZ := Aside0.mk hZ
    have hf0 : (cj i j c).f0 = (Z == 1) := by unfold cj; rw [hZ]
    have hcj : (⟨Z == 1, [⟨(i : Int), 0, 0⟩, ⟨-1, 120, 120⟩, ⟨-1, 121, 121⟩]⟩ : S41) = cj i j c := by unfold cj; rw [hZ]
    clear hZ
    have hlen : ((List.range c).map (cj i j)).length = c := by rw [List.length_map, List.length_range]
    obtain ⟨Kd, hd⟩ := dec_ev i (by omega)
    have hsep : sepT [32, 38, 32] (conjT (nms K)) ((List.range (c + 1)).map (cj i j)) = sepT [32, 38, 32] (conjT (nms K)) ((List.range c).map (cj i j)) ++ ((if (List.range c).map (cj i j) = [] then [] else [32, 38, 32]) ++ (negT (cj i j c).f0 ++ ((nmI i).data.toList ++ [32, 34, 120, 121, 34]))) := by
      rw [range_map_succ, sepT_append, cj_txt K i j c hi]
    have eA : ByteArray.size ⟨#[32, 38, 32]⟩ = 3 := rfl
    have eN := sz1 126
    have en := sz1 110
    have eX : ByteArray.size ⟨#[32, 34, 120, 121, 34]⟩ = 5 := rfl
    have eD : (decI i).size = 1 := rfl
    have eDl : (decI i).data.toList = [(48 + i).toUInt8] := rfl
    have eNl : (nmI i).data.toList = [110, (48 + i).toUInt8] := rfl
    have step : ∀ y : ByteArray, y.data.toList = x.data.toList ++ ((if (List.range c).map (cj i j) = [] then [] else [32, 38, 32]) ++ (negT (cj i j c).f0 ++ ((nmI i).data.toList ++ [32, 34, 120, 121, 34]))) → y.size ≤ x.size + 20 → ∃ K1, ∀ m, K1 ≤ m → templelaw5_ShowRows.l2 m x0 a1 (K : Int) y (i : Int) (mm : Int) (j : Int) ((c + 1 : Nat) : Int) s names rules (i : Int) ((List.range c).map (cj i j) ++ [⟨Z == 1, [⟨(i : Int), 0, 0⟩, ⟨-1, 120, 120⟩, ⟨-1, 121, 121⟩]⟩]) = some true := by
      intro y hy hysz
      rw [hcj]
      obtain ⟨K1, h1⟩ := ih (c + 1) (by omega) y (by rw [hy, hx, hsep, List.append_assoc]) (by omega)
      rw [range_map_succ] at h1
      exact ⟨K1, h1⟩
    by_cases h0 : 0 < c
    · have hne : ¬ (List.range c).map (cj i j) = [] := fun h => by have := (range_map_nil _ _).1 h; omega
      rw [if_neg hne] at step
      by_cases hn : Z = 1
      · have hng : negT (cj i j c).f0 = [126] := by rw [hf0]; exact if_pos (beq_iff_eq.2 hn)
        rw [hng] at step
        obtain ⟨K1, h1⟩ := step (((((x ++ ⟨#[32, 38, 32]⟩) ++ ⟨#[126]⟩) ++ ⟨#[110]⟩) ++ decI i) ++ ⟨#[32, 34, 120, 121, 34]⟩) (by simp only [dl_append, eDl, eNl]; simp) (by simp only [ByteArray.size_append, eA, eN, en, eX, eD]; omega)
        refine ⟨Kd + K1 + 1, fun k hk => ?_⟩
        obtain ⟨m, rfl⟩ : ∃ m, k = m + 1 := ⟨k - 1, by omega⟩
        show templelaw5_ShowRows.l2 (m + 1) x0 a1 (K : Int) x (i : Int) (mm : Int) (j : Int) (c : Int) s names rules (i : Int) _ = some true
        rw [templelaw5_ShowRows.l2, HC1.out, HW.out, HZ.out]
        refine st_pos (by omega) <| st_pos (by omega) <| st_pos (by omega) <| st_pos (by omega) <| st_pos hn <| st_pos ?_ <| st_pos ?_ <| st_bind (hd m (by omega)) <| st_pos ?_ <| st_pos ?_ <| st_pos (by omega) <| h1 m (by omega)
        all_goals (first | omega | (simp only [ByteArray.size_append, eA, eN, en, eX, eD]; omega))
      · have hng : negT (cj i j c).f0 = [] := by rw [hf0]; exact if_neg (fun h => hn (beq_iff_eq.1 h))
        rw [hng] at step
        obtain ⟨K1, h1⟩ := step ((((x ++ ⟨#[32, 38, 32]⟩) ++ ⟨#[110]⟩) ++ decI i) ++ ⟨#[32, 34, 120, 121, 34]⟩) (by simp only [dl_append, eDl, eNl]; simp) (by simp only [ByteArray.size_append, eA, eN, en, eX, eD]; omega)
        refine ⟨Kd + K1 + 1, fun k hk => ?_⟩
        obtain ⟨m, rfl⟩ : ∃ m, k = m + 1 := ⟨k - 1, by omega⟩
        show templelaw5_ShowRows.l2 (m + 1) x0 a1 (K : Int) x (i : Int) (mm : Int) (j : Int) (c : Int) s names rules (i : Int) _ = some true
        rw [templelaw5_ShowRows.l2, HC1.out, HW.out, HZ.out]
        refine st_pos (by omega) <| st_pos (by omega) <| st_pos (by omega) <| st_pos (by omega) <| st_neg hn <| st_pos ?_ <| st_bind (hd m (by omega)) <| st_pos ?_ <| st_pos ?_ <| st_pos (by omega) <| h1 m (by omega)
        all_goals (first | omega | (simp only [ByteArray.size_append, eA, eN, en, eX, eD]; omega))
    · have hemp : (List.range c).map (cj i j) = [] := (range_map_nil _ _).2 (by omega)
      rw [if_pos hemp] at step
      by_cases hn : Z = 1
      · have hng : negT (cj i j c).f0 = [126] := by rw [hf0]; exact if_pos (beq_iff_eq.2 hn)
        rw [hng] at step
        obtain ⟨K1, h1⟩ := step ((((x ++ ⟨#[126]⟩) ++ ⟨#[110]⟩) ++ decI i) ++ ⟨#[32, 34, 120, 121, 34]⟩) (by simp only [dl_append, eDl, eNl]; simp) (by simp only [ByteArray.size_append, eA, eN, en, eX, eD]; omega)
        refine ⟨Kd + K1 + 1, fun k hk => ?_⟩
        obtain ⟨m, rfl⟩ : ∃ m, k = m + 1 := ⟨k - 1, by omega⟩
        show templelaw5_ShowRows.l2 (m + 1) x0 a1 (K : Int) x (i : Int) (mm : Int) (j : Int) (c : Int) s names rules (i : Int) _ = some true
        rw [templelaw5_ShowRows.l2, HC1.out, HW.out, HZ.out]
        refine st_pos (by omega) <| st_pos (by omega) <| st_neg (by omega) <| st_pos hn <| st_pos ?_ <| st_pos ?_ <| st_bind (hd m (by omega)) <| st_pos ?_ <| st_pos ?_ <| st_pos (by omega) <| h1 m (by omega)
        all_goals (first | omega | (simp only [ByteArray.size_append, eA, eN, en, eX, eD]; omega))
      · have hng : negT (cj i j c).f0 = [] := by rw [hf0]; exact if_neg (fun h => hn (beq_iff_eq.1 h))
        rw [hng] at step
        obtain ⟨K1, h1⟩ := step (((x ++ ⟨#[110]⟩) ++ decI i) ++ ⟨#[32, 34, 120, 121, 34]⟩) (by simp only [dl_append, eDl, eNl]; simp) (by simp only [ByteArray.size_append, eA, eN, en, eX, eD]; omega)
        refine ⟨Kd + K1 + 1, fun k hk => ?_⟩
        obtain ⟨m, rfl⟩ : ∃ m, k = m + 1 := ⟨k - 1, by omega⟩
        show templelaw5_ShowRows.l2 (m + 1) x0 a1 (K : Int) x (i : Int) (mm : Int) (j : Int) (c : Int) s names rules (i : Int) _ = some true
        rw [templelaw5_ShowRows.l2, HC1.out, HW.out, HZ.out]
        refine st_pos (by omega) <| st_pos (by omega) <| st_neg (by omega) <| st_neg hn <| st_pos ?_ <| st_bind (hd m (by omega)) <| st_pos ?_ <| st_pos ?_ <| st_pos (by omega) <| h1 m (by omega)
        all_goals (first | omega | (simp only [ByteArray.size_append, eA, eN, en, eX, eD]; omega))
theorem rl_txt (i cc j : Nat) (hi : i < K) (hcc : cc ≤ 3) : (ruleT (nms K) (rl i cc j)).length ≤ 60 := by
  have h := sepT_bound [32, 38, 32] (conjT (nms K)) 8 (rl i cc j).f1 (fun c hc => by
    obtain ⟨n, _, rfl⟩ := List.mem_map.1 hc
    rw [cj_txt K i j n hi]
    have h1 : (negT (cj i j n).f0).length ≤ 1 := by unfold negT; split <;> simp
    have h2 : (nmI i).data.toList.length = 2 := rfl
    simp only [List.length_append, List.length_cons, List.length_nil]
    omega)
  have hl : (rl i cc j).f1.length = cc + 1 := by show ((List.range (cc + 1)).map (cj i j)).length = _; rw [List.length_map, List.length_range]
  have h3 : (rl i cc j).f1.length * ([32, 38, 32].length + 8) ≤ 4 * 11 := Nat.mul_le_mul (by omega) (by decide)
  have h4 : (ruleT (nms K) (rl i cc j)).length ≤ (rl i cc j).f1.length * ([32, 38, 32].length + 8) := h
  omega
theorem l1_ev (i cc mm : Nat) (hi : i < K) (hK : K ≤ 4) (hmm : mm ≤ 4) (hcc : cc ≤ 3) (HC1 : Aside0 (Go.bits .and .i64 (shr .i64 a1 (i : Int)) 3 = (cc : Int))) (names : List ByteArray) (rules : List S44) (hr : rules.length ≤ 50) (Y : List UInt8) (B : Nat) (hB : B ≤ 500000)
    (next : ∀ x : ByteArray, x.data.toList = Y ++ sepT [32, 124, 32] (ruleT (nms K)) ((List.range mm).map (rl i cc)) ++ [59, 10] → x.size ≤ B + 1000 → Ev (fun k => templelaw5_ShowRows.l0 k x0 a1 (K : Int) x ((i + 1 : Nat) : Int) s names (rules ++ (List.range mm).map (rl i cc))) true) :
    ∀ d j, j + d = mm → ∀ x : ByteArray, x.data.toList = Y ++ sepT [32, 124, 32] (ruleT (nms K)) ((List.range j).map (rl i cc)) → x.size ≤ B + 200 * j → Ev (fun k => templelaw5_ShowRows.l1 k x0 a1 (K : Int) x (i : Int) (mm : Int) (j : Int) s names (rules ++ (List.range j).map (rl i cc))) true := by
  intro d
  induction d with
  | zero =>
    intro j hj x hx hsz
    obtain rfl : j = mm := by omega
    have e2 : ByteArray.size ⟨#[59, 10]⟩ = 2 := rfl
    obtain ⟨K1, h1⟩ := next (x ++ ⟨#[59, 10]⟩) (by rw [dl_append, hx]) (by rw [ByteArray.size_append, e2]; omega)
    refine ⟨K1 + 1, fun k hk => ?_⟩
    obtain ⟨m, rfl⟩ : ∃ m, k = m + 1 := ⟨k - 1, by omega⟩
    show templelaw5_ShowRows.l1 (m + 1) x0 a1 (K : Int) x (i : Int) (j : Int) (j : Int) s names _ = some true
    rw [templelaw5_ShowRows.l1, show wrap64 ((i : Int) + 1) = ((i + 1 : Nat) : Int) from by unfold wrap64; omega]
    exact st_neg (by omega) <| st_pos (by omega) <| h1 m (by omega)
  | succ d ih =>
    intro j hj x hx hsz
    have e3 : ByteArray.size ⟨#[32, 124, 32]⟩ = 3 := rfl
    have hlen : (rules ++ (List.range j).map (rl i cc)).length = rules.length + j := by rw [List.length_append, List.length_map, List.length_range]
    have inner : ∀ y : ByteArray, y.data.toList = x.data.toList ++ (if (List.range j).map (rl i cc) = [] then [] else [32, 124, 32]) → y.size ≤ x.size + 3 → ∃ K1, ∀ m, K1 ≤ m → templelaw5_ShowRows.j3 m x0 a1 (K : Int) y (i : Int) (mm : Int) (j : Int) s names (rules ++ (List.range j).map (rl i cc)) = some true := by
      intro y hy hysz
      obtain ⟨K1, h1⟩ := l2_ev x0 a1 K s i j cc mm hi hK (by omega) hcc HC1 names (rules ++ (List.range j).map (rl i cc)) (by omega) y.data.toList (B + 200 * j + 3) (by omega) (fun z hz hzs => by
        have h2 := ih (j + 1) (by omega) z (by rw [hz, hy, hx, range_map_succ, sepT_append]; simp only [List.append_assoc]) (by omega)
        rw [range_map_succ, ← List.append_assoc] at h2
        exact h2) (cc + 1) 0 (by omega) y (by simp [sepT]) (by omega)
      refine ⟨K1 + 1, fun m hm => ?_⟩
      obtain ⟨q, rfl⟩ : ∃ q, m = q + 1 := ⟨m - 1, by omega⟩
      rw [templelaw5_ShowRows.j3]
      exact h1 q (by omega)
    by_cases h0 : 0 < j
    · have hne : ¬ (List.range j).map (rl i cc) = [] := fun h => by have := (range_map_nil _ _).1 h; omega
      obtain ⟨K1, h1⟩ := inner (x ++ ⟨#[32, 124, 32]⟩) (by rw [dl_append, if_neg hne]) (by rw [ByteArray.size_append, e3]; omega)
      refine ⟨K1 + 1, fun k hk => ?_⟩
      obtain ⟨m, rfl⟩ : ∃ m, k = m + 1 := ⟨k - 1, by omega⟩
      show templelaw5_ShowRows.l1 (m + 1) x0 a1 (K : Int) x (i : Int) (mm : Int) (j : Int) s names _ = some true
      rw [templelaw5_ShowRows.l1]
      exact st_pos (by omega) <| st_pos (by omega) <| st_pos (by omega) <| h1 m (by omega)
    · have hemp : (List.range j).map (rl i cc) = [] := (range_map_nil _ _).2 (by omega)
      obtain ⟨K1, h1⟩ := inner x (by rw [if_pos hemp, List.append_nil]) (by omega)
      refine ⟨K1 + 1, fun k hk => ?_⟩
      obtain ⟨m, rfl⟩ : ∃ m, k = m + 1 := ⟨k - 1, by omega⟩
      show templelaw5_ShowRows.l1 (m + 1) x0 a1 (K : Int) x (i : Int) (mm : Int) (j : Int) s names _ = some true
      rw [templelaw5_ShowRows.l1]
      exact st_pos (by omega) <| st_neg (by omega) <| h1 m (by omega)
end
end Go.Proofs.Ytimmkmfcpfjgfaa.PSR
