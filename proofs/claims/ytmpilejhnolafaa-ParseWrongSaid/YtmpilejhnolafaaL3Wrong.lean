/- Layer 3, plain: texts that are none, and where (ParseWrong). -/
import Derived.Test.YtmpilejhnolafaaL3Awake
import Derived.Test.YtmpilejhnolafaaPPWx8
namespace Go.Proofs.Ytmpilejhnolafaa.PPW
open Go.RowKit Go.Proofs.YtmpilejhnolafaaW.PrintWords Go.Proofs.YtmpilejhnolafaaW.PrintLast
set_option linter.unusedVariables false
set_option maxRecDepth 100000 in
theorem wrong_all : ∀ n, n < 20 → templelaw3_ParseWrong.f 64 ((n : Nat) : Int) = some true := by decide +kernel
theorem wrong_ix (x : Int) (h0 : 0 ≤ x) (h1 : x < 18446744073709551616) : wrap64 (Int.tmod x 20) = x % 20 := by
  rw [Int.tmod_eq_emod_of_nonneg h0]
  unfold wrap64
  omega
theorem u64_range (a : Int) : 0 ≤ IntKind.u64.wrap a ∧ IntKind.u64.wrap a < 18446744073709551616 := by
  have h : IntKind.u64.wrap a = a % 18446744073709551616 := rfl
  rw [h]
  omega
theorem u64_small (n : Nat) (h : n < 20) : IntKind.u64.wrap (n : Int) = n := by
  have h : IntKind.u64.wrap (n : Int) = (n : Int) % 18446744073709551616 := rfl
  rw [h]
  omega
theorem ParseWrong_true : templelaw3_ParseWrong.Pure := by
  intro a0 _
  refine ⟨64, ?_⟩
  obtain ⟨r0, r1⟩ := u64_range a0
  have h := wrong_all (IntKind.u64.wrap a0 % 20).toNat (by omega)
  have e : (((IntKind.u64.wrap a0 % 20).toNat : Nat) : Int) = IntKind.u64.wrap a0 % 20 := by omega
  have e2 := u64_small (IntKind.u64.wrap a0 % 20).toNat (by omega)
  rw [e] at h e2
  unfold templelaw3_ParseWrong.f at h ⊢
  rw [e2, wrong_ix _ (by omega) (by omega), show IntKind.u64.wrap a0 % 20 % 20 = IntKind.u64.wrap a0 % 20 from by omega] at h
  rw [wrong_ix _ r0 r1]
  exact h
end Go.Proofs.Ytmpilejhnolafaa.PPW
