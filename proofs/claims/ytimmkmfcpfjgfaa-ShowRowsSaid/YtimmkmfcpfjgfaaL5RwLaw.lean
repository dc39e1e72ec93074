/- Layer 5, plain: ShowRows answers true. -/
import Derived.Test.YtimmkmfcpfjgfaaL5Rw
namespace Go.Proofs.Ytimmkmfcpfjgfaa.PSR
open Go.RowKit Go.Proofs.YtimmkmfcpfjgfaaW.PrintWords Go.Proofs.YtimmkmfcpfjgfaaW.PrintLast
set_option linter.unusedVariables false
theorem rw_ba {x : ByteArray} {l : List UInt8} (h : x.data.toList = l) : x = ⟨l.toArray⟩ := by
  cases x
  subst h
  simp
theorem nmI_eq (i : Nat) : (⟨#[110]⟩ : ByteArray) ++ decI i = nmI i := rw_ba (l := [110, (48 + i).toUInt8]) (by rw [dl_append]; rfl)
theorem nms_succ (i : Nat) : nms (i + 1) = nms i ++ [nmI i] := range_map_succ _ _
theorem nms_len (i : Nat) : (nms i).length = i := by unfold nms; rw [List.length_map, List.length_range]
theorem nms_ok (K : Nat) (h1 : 1 ≤ K) (h : K ≤ 4) : namesOk (nms K) = true := by
  have h2 : K = 1 ∨ K = 2 ∨ K = 3 ∨ K = 4 := by omega
  rcases h2 with rfl | rfl | rfl | rfl <;> decide +kernel
theorem rw_cnt (m : Nat) : ∀ cs : List S41, (∀ c ∈ cs, c.f1.length ≤ m) → cntR cs ≤ m * cs.length
  | [], _ => by simp [cntR]
  | c :: cs, h => by
    have h1 := rw_cnt m cs (fun d hd => h d (List.mem_cons_of_mem _ hd))
    have h2 := h c List.mem_cons_self
    have e : cntR (c :: cs) = c.f1.length + cntR cs := by simp [cntR]
    rw [e, List.length_cons, Nat.mul_succ]
    omega
theorem rf_grp (n j : Int) (R : List S44) : ∀ (L : List S44), (∀ r ∈ L, r.f0 = j ∧ ruleB n r = true ∧ cntR r.f1 ≤ 12) → L ≠ [] → ∀ h a : Int, h ≤ j → j ≤ h + 1 → a + 12 * L.length ≤ 1024 → (∀ a', a' ≤ a + 12 * L.length → rulesFrom n j a' R = true) → rulesFrom n h a (L ++ R) = true
  | [], _, hn, _, _, _, _, _, _ => absurd rfl hn
  | x :: xs, hL, _, h, a, h1, h2, h3, hR => by
    obtain ⟨e0, e1, e2⟩ := hL x List.mem_cons_self
    rw [List.length_cons] at h3 hR
    show rulesFrom n h a (x :: (xs ++ R)) = true
    unfold rulesFrom
    rw [e1, e0, Bool.true_and, Bool.and_eq_true]
    refine ⟨decide_eq_true ⟨h1, h2, by omega⟩, ?_⟩
    cases xs with
    | nil => exact hR _ (by rw [List.length_nil]; omega)
    | cons y ys => exact rf_grp n j R (y :: ys) (fun r hr => hL r (List.mem_cons_of_mem _ hr)) (by simp) j _ (Int.le_refl _) (by omega) (by omega) (fun a' ha => hR a' (by omega))
theorem rf_grps (n : Int) (grp : Nat → List S44) (hg : ∀ j : Nat, (j : Int) < n → ∀ r ∈ grp j, r.f0 = (j : Int) ∧ ruleB n r = true ∧ cntR r.f1 ≤ 12) (hne : ∀ j, grp j ≠ []) (hl : ∀ j, (grp j).length ≤ 4) :
    ∀ k : Nat, (k : Int) ≤ n → k ≤ 16 → ∀ R, (∀ a', a' ≤ 12 * ((grps grp k).length : Int) → rulesFrom n ((k : Int) - 1) a' R = true) → rulesFrom n (-1) 0 (grps grp k ++ R) = true ∧ (grps grp k).length ≤ 4 * k
  | 0, _, _, R, hR => ⟨hR 0 (by show (0 : Int) ≤ 12 * 0; decide), by show 0 ≤ 0; decide⟩
  | k + 1, hk, hk2, R, hR => by
    have hlk : (grps grp k).length ≤ 4 * k := by
      clear hR hk hg hne
      induction k with
      | zero => exact Nat.le_refl _
      | succ k ih =>
        have := ih (by omega)
        have := hl k
        rw [grps, List.length_append]
        omega
    have hlk1 : (grps grp (k + 1)).length = (grps grp k).length + (grp k).length := by rw [grps, List.length_append]
    have := hl k
    have h := rf_grps n grp hg hne hl k (by omega) (by omega) (grp k ++ R) (fun a' ha => by
      refine rf_grp n (k : Int) R (grp k) (hg k (by omega)) (hne k) _ _ (by omega) (by omega) (by omega) (fun a2 ha2 => ?_)
      have h2 := hR a2 (by rw [hlk1]; omega)
      rwa [show (((k + 1 : Nat) : Int) - 1) = (k : Int) from by omega] at h2)
    rw [show grps grp (k + 1) = grps grp k ++ grp k from rfl, List.append_assoc]
    exact ⟨h.1, by rw [List.length_append]; omega⟩
theorem rl_rule (i cc j K : Nat) (hi : i < K) (hcc : cc ≤ 3) : (rl i cc j).f0 = (i : Int) ∧ ruleB (K : Int) (rl i cc j) = true ∧ cntR (rl i cc j).f1 ≤ 12 := by
  have hl : (rl i cc j).f1.length = cc + 1 := by show ((List.range (cc + 1)).map (cj i j)).length = _; rw [List.length_map, List.length_range]
  refine ⟨rfl, ?_, ?_⟩
  · unfold ruleB
    rw [Bool.and_eq_true]
    refine ⟨decide_eq_true (by omega), ?_⟩
    rw [List.all_eq_true]
    intro c hc
    obtain ⟨n, _, rfl⟩ := List.mem_map.1 hc
    unfold conjB
    rw [Bool.and_eq_true]
    refine ⟨decide_eq_true (by show 3 ≤ 64; decide), ?_⟩
    have h1 : symB (K : Int) ⟨(i : Int), 0, 0⟩ = true := by
      unfold symB
      rw [if_neg (by show ¬ (i : Int) = -1; omega)]
      exact decide_eq_true ⟨by show (0 : Int) ≤ (i : Int); omega, by show (i : Int) < (K : Int); omega, rfl, rfl⟩
    show ([⟨(i : Int), 0, 0⟩, ⟨-1, 120, 120⟩, ⟨-1, 121, 121⟩] : List S38).all (symB (K : Int)) = true
    rw [List.all_cons, h1]
    rfl
  · have h := rw_cnt 3 (rl i cc j).f1 (fun c hc => by
      obtain ⟨n, _, rfl⟩ := List.mem_map.1 hc
      exact Nat.le_refl _)
    rw [hl] at h
    omega
section
variable (mm cc : Nat → Nat) (hm1 : ∀ i, 1 ≤ mm i) (hm : ∀ i, mm i ≤ 4) (hc : ∀ i, cc i ≤ 3)
include hm1 in
theorem grpI_ne (j : Nat) : grpI mm cc j ≠ [] := fun h => by
  have := (range_map_nil _ _).1 h
  have := hm1 j
  omega
theorem grpI_len (j : Nat) : (grpI mm cc j).length = mm j := by unfold grpI; rw [List.length_map, List.length_range]
theorem grpI_head (j : Nat) : ∀ r ∈ grpI mm cc j, r.f0 = (j : Int) := fun r hr => by
  obtain ⟨t, _, rfl⟩ := List.mem_map.1 hr
  rfl
include hm1 hm hc in
theorem rw_may (K σ : Nat) (hK1 : 1 ≤ K) (hK : K ≤ 4) (hσ : σ < K) : mayB (σ : Int) (nms K) (grps (grpI mm cc) K) = true := by
  have hr := rf_grps (K : Int) (grpI mm cc) (fun j hj r hr => by
    obtain ⟨t, _, rfl⟩ := List.mem_map.1 hr
    exact rl_rule j (cc j) t K (by omega) (hc j)) (grpI_ne mm cc hm1) (fun j => by rw [grpI_len]; exact hm j) K (Int.le_refl _) (by omega) [] (fun a' _ => by unfold rulesFrom; exact beq_self_eq_true _)
  rw [List.append_nil] at hr
  obtain ⟨B, hB⟩ := grps_split (grpI mm cc) K 0 (by omega)
  have hh : ((grps (grpI mm cc) K).headD z44).f0 = 0 ∧ 1 ≤ (grps (grpI mm cc) K).length := by
    rw [hB]
    show (([] ++ grpI mm cc 0 ++ B).headD _).f0 = 0 ∧ _
    cases hg : grpI mm cc 0 with
    | nil => exact absurd hg (grpI_ne mm cc hm1 0)
    | cons a t =>
      have := grpI_head mm cc 0 a (by rw [hg]; exact List.mem_cons_self)
      exact ⟨this, by rw [List.length_append, List.length_append, List.length_cons]; omega⟩
  unfold mayB
  rw [nms_ok K hK1 hK, nms_len, hr.1, hh.1, Bool.true_and, Bool.and_true, decide_eq_true (by omega : (0 : Int) ≤ σ ∧ (σ : Int) < (K : Int) ∧ 1 ≤ (grps (grpI mm cc) K).length ∧ (grps (grpI mm cc) K).length ≤ 256)]
  rfl
end
def mmN (x0 : List Int) (i : Nat) : Nat := if i < x0.length then (1 + (rd x0 (i : Int)) % 4).toNat else 1
def ccN (a1 : Int) (i : Nat) : Nat := (shr .i64 a1 (i : Int) % 4).toNat
theorem mmN_ge (x0 : List Int) (i : Nat) : 1 ≤ mmN x0 i := by unfold mmN; split <;> omega
theorem mmN_le (x0 : List Int) (i : Nat) : mmN x0 i ≤ 4 := by unfold mmN; split <;> omega
theorem ccN_le (a1 : Int) (i : Nat) : ccN a1 i ≤ 3 := by unfold ccN; omega
section
variable (x0 : List Int) (a1 : Int) (K σ : Nat) (hK1 : 1 ≤ K) (hK : K ≤ 4) (hσ : σ < K)
include hK1 hK hσ in
theorem l0_ev : ∀ d i, i + d = K → ∀ x : ByteArray, x.data.toList = headT (σ : Int) (nms K) ++ grpsT (nms K) (grpI (mmN x0) (ccN a1)) i → x.size ≤ 100 + 2000 * i → Ev (fun k => templelaw5_ShowRows.l0 k x0 a1 (K : Int) x (i : Int) (σ : Int) (nms i) (grps (grpI (mmN x0) (ccN a1)) i)) true := by
  intro d
  induction d with
  | zero =>
    intro i hi x hx hsz
    obtain rfl : i = K := by omega
    have hmay := rw_may (mmN x0) (ccN a1) (mmN_ge x0) (mmN_le x0) (ccN_le a1) i σ hK1 hK hσ
    have hs : show_Show.f (σ : Int) (nms i) (grps (grpI (mmN x0) (ccN a1)) i) = some (⟨(showT (σ : Int) (nms i) (grps (grpI (mmN x0) (ccN a1)) i)).toArray⟩, 0) := by
      unfold show_Show.f
      rw [if_pos hmay]
    have ht := show_grps (nms i) (grpI (mmN x0) (ccN a1)) (grpI_head _ _) (grpI_ne _ _ (mmN_ge x0)) (σ : Int) i
    have hxe : x = ⟨(showT (σ : Int) (nms i) (grps (grpI (mmN x0) (ccN a1)) i)).toArray⟩ := rw_ba (by rw [hx, ht])
    refine ⟨1, fun k hk => ?_⟩
    obtain ⟨m, rfl⟩ : ∃ m, k = m + 1 := ⟨k - 1, by omega⟩
    show templelaw5_ShowRows.l0 (m + 1) x0 a1 (i : Int) x (i : Int) (σ : Int) _ _ = some true
    rw [templelaw5_ShowRows.l0]
    refine st_neg (by omega) <| st_bind hs <| st_bind (a := 0) rfl <| st_pos rfl ?_
    rw [← hxe]
    exact congrArg some (beq_self_eq_true _)
  | succ d ih =>
    intro i hi x hx hsz
    have hiK : i < K := by omega
    have H1 : Aside0 (wrap64 (1 + Go.bits .and .i64 (rd x0 (i : Int)) 3) = 1 + (rd x0 (i : Int)) % 4) := ⟨by rw [and3]; unfold wrap64; omega⟩
    have HC1 : Aside0 (Go.bits .and .i64 (shr .i64 a1 (i : Int)) 3 = (ccN a1 i : Int)) := ⟨by rw [and3]; unfold ccN; omega⟩
    obtain ⟨Kd, hd⟩ := dec_ev i (by omega)
    have en := sz1 110
    have e3 : ByteArray.size ⟨#[32, 61, 32]⟩ = 3 := rfl
    have eD : (decI i).size = 1 := rfl
    have eNl : (nmI i).data.toList = [110, (48 + i).toUInt8] := rfl
    have hlen : (grps (grpI (mmN x0) (ccN a1)) i).length ≤ 4 * i := by
      have : ∀ k, (grps (grpI (mmN x0) (ccN a1)) k).length ≤ 4 * k := by
        intro k
        induction k with
        | zero => exact Nat.le_refl _
        | succ k ih =>
          have := mmN_le x0 k
          rw [grps, List.length_append, grpI_len]
          omega
      exact this i
    obtain ⟨y, hy⟩ : ∃ y, y = ((x ++ ⟨#[110]⟩) ++ decI i) ++ ⟨#[32, 61, 32]⟩ := ⟨_, rfl⟩
    have hyl : y.data.toList = x.data.toList ++ ((nmI i).data.toList ++ [32, 61, 32]) := by
      rw [hy, dl_append, dl_append, dl_append, eNl, List.append_assoc, List.append_assoc]
      rfl
    have hys : y.size = x.size + 5 := by rw [hy]; simp only [ByteArray.size_append, en, e3, eD]
    obtain ⟨K1, h1⟩ := l1_ev x0 a1 K (σ : Int) i (ccN a1 i) (mmN x0 i) hiK hK (mmN_le x0 i) (ccN_le a1 i) HC1 (nms (i + 1)) (grps (grpI (mmN x0) (ccN a1)) i) (by omega) y.data.toList (100 + 2000 * i + 5) (by omega) (fun z hz hzs => by
      refine ih (i + 1) (by omega) z ?_ (Nat.le_trans hzs (by clear hzs hz hyl hys hy hx HC1 H1; omega))
      rw [hz, hyl, hx]
      show _ = headT (σ : Int) (nms K) ++ (grpsT (nms K) (grpI (mmN x0) (ccN a1)) i ++ grpT (nms K) (grpI (mmN x0) (ccN a1)) i)
      unfold grpT
      rw [nms_at K i hiK]
      simp only [List.append_assoc]
      rfl) (mmN x0 i) 0 (by omega) y (by simp [sepT]) (by omega)
    have hnm : nms i ++ [(⟨#[110]⟩ : ByteArray) ++ decI i] = nms (i + 1) := by rw [nmI_eq, nms_succ]
    have key : ∀ m, K1 + 1 ≤ m → templelaw5_ShowRows.j1 m x0 a1 (K : Int) y (i : Int) (mmN x0 i : Int) (σ : Int) (nms (i + 1)) (grps (grpI (mmN x0) (ccN a1)) i) = some true := by
      intro m hm
      obtain ⟨q, rfl⟩ : ∃ q, m = q + 1 := ⟨m - 1, by omega⟩
      rw [templelaw5_ShowRows.j1]
      have h2 := h1 q (by omega)
      rwa [show (List.range 0).map (rl i (ccN a1 i)) = [] from rfl, List.append_nil] at h2
    refine ⟨Kd + K1 + 2, fun k hk => ?_⟩
    obtain ⟨m, rfl⟩ : ∃ m, k = m + 1 := ⟨k - 1, by omega⟩
    show templelaw5_ShowRows.l0 (m + 1) x0 a1 (K : Int) x (i : Int) (σ : Int) _ _ = some true
    rw [templelaw5_ShowRows.l0, H1.out]
    refine st_pos (by omega) <| st_bind (hd m (by omega)) <| st_pos (by rw [eD]; decide) <| st_pos (by rw [nms_len]; omega) ?_
    rw [hnm]
    refine st_bind rfl <| st_pos (by omega) <| st_bind (hd m (by omega)) <| st_pos (by rw [ByteArray.size_append, en, eD]; omega) <| st_pos (by rw [ByteArray.size_append, ByteArray.size_append, en, eD]; omega) ?_
    rw [← hy]
    by_cases hlt : (i : Int) < (x0.length : Int)
    · refine st_pos hlt <| st_pos (by omega) ?_
      rw [show 1 + (rd x0 (i : Int)) % 4 = (mmN x0 i : Int) from by unfold mmN; rw [if_pos (by omega)]; omega]
      exact key m (by omega)
    · refine st_neg hlt ?_
      have h2 := key m (by omega)
      rwa [show (mmN x0 i : Int) = 1 from by unfold mmN; rw [if_neg (by omega)]; rfl] at h2
end
theorem u64_mod (a : Int) (K : Nat) (h1 : 1 ≤ K) (h : K ≤ 4) : ∃ σ : Nat, σ < K ∧ wrap64 (Int.tmod (IntKind.u64.wrap a) (K : Int)) = (σ : Int) := by
  have h0 : 0 ≤ IntKind.u64.wrap a := by unfold IntKind.wrap; simp [IntKind.signed, IntKind.bits]; omega
  have e : Int.tmod (IntKind.u64.wrap a) (K : Int) = IntKind.u64.wrap a % (K : Int) := Int.tmod_eq_emod_of_nonneg h0
  have l1 : 0 ≤ IntKind.u64.wrap a % (K : Int) := Int.emod_nonneg _ (by omega)
  have l2 : IntKind.u64.wrap a % (K : Int) < (K : Int) := Int.emod_lt_of_pos _ (by omega)
  refine ⟨(IntKind.u64.wrap a % (K : Int)).toNat, by omega, ?_⟩
  rw [e]
  generalize IntKind.u64.wrap a % (K : Int) = z at l1 l2
  unfold wrap64
  omega
theorem ShowRows_true : templelaw5_ShowRows.Pure := by
  intro l0 a1 a2 _ _ _ _ _
  obtain ⟨K, hK⟩ : ∃ K : Nat, K = 1 + l0.length % 4 := ⟨_, rfl⟩
  have hk1 : wrap64 (1 + (Go.bits .and .i64 (l0.length : Int) 3)) = (K : Int) := by rw [and3]; unfold wrap64; omega
  have hk2 : IntKind.u64.wrap (K : Int) = (K : Int) := by unfold IntKind.wrap; simp [IntKind.signed, IntKind.bits]; omega
  obtain ⟨σ, hσ, hs⟩ := u64_mod a2 K (by omega) (by omega)
  obtain ⟨Kd, hd⟩ := dec_ev σ (by omega)
  have e7 : ByteArray.size ⟨#[115, 116, 97, 114, 116, 32, 110]⟩ = 7 := rfl
  have e2 : ByteArray.size ⟨#[59, 10]⟩ = 2 := rfl
  have eD : (decI σ).size = 1 := rfl
  obtain ⟨K1, h1⟩ := l0_ev l0 a1 K σ (by omega) (by omega) hσ K 0 (by omega) (((⟨#[115, 116, 97, 114, 116, 32, 110]⟩ : ByteArray) ++ decI σ) ++ ⟨#[59, 10]⟩) (by
    unfold headT
    rw [nms_at K σ hσ, dl_append, dl_append]
    rfl) (by simp only [ByteArray.size_append, e7, e2, eD]; omega)
  refine ⟨Kd + K1, ?_⟩
  unfold templelaw5_ShowRows.f
  rw [hk1, hk2, hs]
  refine st_bind awake5 <| st_pos rfl <| st_neg (by omega) <| st_bind (hd _ (by omega)) <| st_pos (by rw [eD]; decide) <| st_pos (by rw [ByteArray.size_append, e7, eD]; decide) ?_
  exact h1 _ (by omega)
end Go.Proofs.Ytimmkmfcpfjgfaa.PSR
