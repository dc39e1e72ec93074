/- Counting bits. Plain Lean, no program. -/
import Derived.Test.YtldoicmbacppeaaBits
namespace Go.Proofs.Ytldoicmbacppeaa

/-- How many numbers below n are p's. -/
def cntb (p : Nat → Bool) : Nat → Nat
  | 0 => 0
  | n + 1 => cntb p n + if p n then 1 else 0
theorem cntb_shift (p : Nat → Bool) : ∀ n, cntb p (n + 1) = (if p 0 then 1 else 0) + cntb (fun j => p (j + 1)) n
  | 0 => by simp [cntb]
  | n + 1 => by
    have ih := cntb_shift p n
    rw [show cntb p (n + 1 + 1) = cntb p (n + 1) + (if p (n + 1) then 1 else 0) from rfl, ih]
    show _ = (if p 0 then 1 else 0) + (cntb (fun j => p (j + 1)) n + if p (n + 1) then 1 else 0)
    omega
theorem cntb_congr {p q : Nat → Bool} : ∀ {n : Nat}, (∀ j, j < n → p j = q j) → cntb p n = cntb q n
  | 0, _ => rfl
  | n + 1, h => by
    unfold cntb
    rw [cntb_congr (fun j hj => h j (by omega)), h n (by omega)]
theorem cntb_add (p : Nat → Bool) (m : Nat) : ∀ n, cntb p (m + n) = cntb p m + cntb (fun j => p (m + j)) n
  | 0 => by simp [cntb]
  | n + 1 => by
    have ih := cntb_add p m n
    show cntb p (m + n) + (if p (m + n) then 1 else 0) = _
    rw [ih]
    show _ = cntb p m + (cntb (fun j => p (m + j)) n + if p (m + n) then 1 else 0)
    omega
theorem cntb_le (p : Nat → Bool) : ∀ n, cntb p n ≤ n
  | 0 => Nat.le_refl _
  | n + 1 => by have := cntb_le p n; unfold cntb; split <;> omega

/-- How many bits of n are set. -/
def popc (n : Nat) : Nat := if h : n = 0 then 0 else n % 2 + popc (n / 2)
termination_by n
decreasing_by omega
theorem popc_zero : popc 0 = 0 := by rw [popc]; simp
theorem popc_step (n : Nat) : popc n = n % 2 + popc (n / 2) := by
  by_cases h : n = 0
  · subst h; simp [popc_zero]
  · rw [popc]; simp [h]
theorem popc_cnt : ∀ (k n : Nat), n < 2 ^ k → popc n = cntb (fun j => n.testBit j) k
  | 0, n, h => by
    have : n = 0 := by simpa using h
    subst this
    simp [popc_zero, cntb]
  | k + 1, n, h => by
    rw [popc_step, cntb_shift, popc_cnt k (n / 2) (by rw [Nat.pow_succ] at h; omega)]
    congr 1
    · rw [Nat.testBit_zero]
      rcases Nat.mod_two_eq_zero_or_one n with e | e <;> simp [e]
    · exact cntb_congr (fun j _ => by rw [Nat.testBit_succ])
theorem popc_pos {n : Nat} (h : 0 < n) : 0 < popc n := by
  induction n using Nat.strongRecOn with
  | _ n ih =>
    rw [popc_step]
    by_cases e : n % 2 = 0
    · have := ih (n / 2) (by omega) (by omega)
      omega
    · omega
theorem popc_and (n : Nat) (h : 0 < n) : popc (n &&& (n - 1)) + 1 = popc n := by
  induction n using Nat.strongRecOn with
  | _ n ih =>
    have hm : (n &&& (n - 1)) % 2 = 0 := by
      have h1 := Nat.testBit_and n (n - 1) 0
      rw [Nat.testBit_zero, Nat.testBit_zero, Nat.testBit_zero] at h1
      have h2 : decide ((n &&& (n - 1)) % 2 = 1) = false := by
        rw [h1]
        rcases Nat.mod_two_eq_zero_or_one n with e | e
        · rw [e]; rfl
        · have e2 : (n - 1) % 2 = 0 := by omega
          rw [e2]; simp
      have h3 := of_decide_eq_false h2
      omega
    have hd : (n &&& (n - 1)) / 2 = n / 2 &&& (n - 1) / 2 := Nat.and_div_two
    rw [popc_step (n &&& (n - 1)), hm, hd, popc_step n]
    rcases Nat.mod_two_eq_zero_or_one n with e | e
    · have e2 : (n - 1) / 2 = n / 2 - 1 := by omega
      have := ih (n / 2) (by omega) (by omega)
      rw [e2]
      omega
    · have e2 : (n - 1) / 2 = n / 2 := by omega
      rw [e2, Nat.and_self]
      omega
/-- The bytes of four words are as many as their bits. -/
theorem popc4 {a b c d : Int} (h : wf4 a b c d) : popc a.toNat + popc b.toNat + popc c.toNat + popc d.toNat = cntb (memb a b c d) 256 := by
  have key : ∀ (i : Nat) (x : Int), isw x → wd a b c d i = x → popc x.toNat = cntb (fun j => memb a b c d (64 * i + j)) 64 := by
    intro i x hx he
    obtain ⟨n, rfl, hn⟩ := nat_of hx
    rw [Int.toNat_natCast, popc_cnt 64 n hn]
    apply cntb_congr
    intro j hj
    unfold memb
    have h1 : (64 * i + j) / 64 = i := by omega
    have h2 : (64 * i + j) % 64 = j := by omega
    rw [h1, h2, he, Int.toNat_natCast]
  rw [key 0 a h.1 rfl, key 1 b h.2.1 rfl, key 2 c h.2.2.1 rfl, key 3 d h.2.2.2 rfl]
  have e1 := cntb_add (memb a b c d) 64 64
  have e2 := cntb_add (memb a b c d) 128 64
  have e3 := cntb_add (memb a b c d) 192 64
  have e0 : cntb (fun j => memb a b c d (64 * 0 + j)) 64 = cntb (memb a b c d) 64 := cntb_congr (fun j _ => by simp)
  simp only [Nat.reduceAdd, Nat.reduceMul] at *
  omega

/-- The bytes from lo to hi. -/
def rangeP (lo hi : Int) (k : Nat) : Bool := decide (lo ≤ (k : Int) ∧ (k : Int) ≤ hi)
theorem setW_empty {lo hi : Int} (h : hi < lo) (i : Nat) : setW (rangeP lo hi) i = 0 := by
  have e : ∀ n, bsum (fun j => rangeP lo hi (64 * i + j)) n = 0 := by
    intro n
    induction n with
    | zero => rfl
    | succ n ih =>
      unfold bsum
      rw [ih]
      have : rangeP lo hi (64 * i + n) = false := by
        unfold rangeP
        simp
        omega
      simp [this]
  unfold setW
  rw [e]
  rfl
theorem setW_false (i : Nat) : setW (fun _ => false) i = 0 := by
  have e : ∀ n, bsum (fun _ => false) n = 0 := by
    intro n
    induction n with
    | zero => rfl
    | succ n ih => unfold bsum; rw [ih]; rfl
  unfold setW
  rw [e]
  rfl
theorem setW_same {lo c : Int} {i : Nat} (hc0 : 0 ≤ c) (hi : ¬ c / 64 = i) : setW (rangeP lo (c - 1)) i = setW (rangeP lo c) i := by
  unfold setW
  congr 1
  apply bsum_congr
  intro j hj
  unfold rangeP
  rw [decide_eq_decide]
  omega
theorem shl_bit {c : Int} (hc0 : 0 ≤ c) : IntKind.u64.wrap (2 ^ (c % 64).toNat) = ((2 ^ (c % 64).toNat : Nat) : Int) := by
  have h : (c % 64).toNat < 64 := by omega
  have h2 : 2 ^ (c % 64).toNat < 2 ^ 64 := Nat.pow_lt_pow_right (by decide) h
  have e : (2 : Nat) ^ 64 = 18446744073709551616 := by decide
  rw [show ((2 : Int) ^ (c % 64).toNat) = ((2 ^ (c % 64).toNat : Nat) : Int) from by simp]
  exact wrap_u64 _ (Int.natCast_nonneg _) (by omega)
theorem setW_step {lo c : Int} {i : Nat} (hc0 : 0 ≤ c) (hlo : lo ≤ c) (hi : c / 64 = i) : bits .or .u64 (setW (rangeP lo (c - 1)) i) (IntKind.u64.wrap (2 ^ (c % 64).toNat)) = setW (rangeP lo c) i := by
  have h : (c % 64).toNat < 64 := by omega
  have h2 : 2 ^ (c % 64).toNat < 2 ^ 64 := Nat.pow_lt_pow_right (by decide) h
  rw [shl_bit hc0]
  unfold setW
  rw [u64_or _ _ (bsum_lt _ _) h2]
  congr 1
  apply eq_of_bits (Nat.or_lt_two_pow (bsum_lt _ _) h2) (bsum_lt _ _)
  intro j hj
  rw [Nat.testBit_or, bsum_testBit, bsum_testBit, Nat.testBit_two_pow]
  unfold rangeP
  rw [Bool.eq_iff_iff]
  simp only [Bool.or_eq_true, Bool.and_eq_true, decide_eq_true_eq]
  omega
theorem popc_le {x : Nat} (h : x < 2 ^ 64) : popc x ≤ 64 := by
  rw [popc_cnt 64 x h]
  exact cntb_le _ _
def psum (a b c d : Nat) : Nat → Nat
  | 0 => 0
  | 1 => popc a
  | 2 => popc a + popc b
  | 3 => popc a + popc b + popc c
  | _ => popc a + popc b + popc c + popc d
theorem psum_le {a b c d : Nat} (ha : a < 2 ^ 64) (hb : b < 2 ^ 64) (hc : c < 2 ^ 64) (hd : d < 2 ^ 64) (j : Nat) : psum a b c d j ≤ 256 := by
  have := popc_le ha
  have := popc_le hb
  have := popc_le hc
  have := popc_le hd
  unfold psum
  split <;> omega
theorem u64_dec {x : Nat} (h : x < 2 ^ 64) (h0 : 0 < x) : bits .and .u64 (x : Int) ((x : Int) - 1) = ((x &&& (x - 1) : Nat) : Int) := by
  rw [show ((x : Int) - 1) = ((x - 1 : Nat) : Int) from by omega]
  exact u64_and x (x - 1) h (by omega)
/-- Or (0), And (1), Minus (any other). -/
def mixOp (how a b : Int) : Int := if how = 0 then bits .or .u64 a b else if how = 1 then bits .and .u64 a b else bits .andNot .u64 a b
end Go.Proofs.Ytldoicmbacppeaa
