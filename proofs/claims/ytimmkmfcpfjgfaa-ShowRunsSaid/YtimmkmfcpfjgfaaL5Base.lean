/- Layer 5, plain: awake; each byte (ShowBytes). -/
import Derived.Test.YtimmkmfcpfjgfaaPS5x39
import Derived.Test.YtimmkmfcpfjgfaaPS5x37
namespace Go.Proofs.Ytimmkmfcpfjgfaa.PS5
open Go.RowKit Go.Proofs.YtimmkmfcpfjgfaaW.PrintWords Go.Proofs.YtimmkmfcpfjgfaaW.PrintLast
set_option linter.unusedVariables false
set_option maxRecDepth 100000 in
theorem awake5 : templelaw5_awake.f = some true := by decide +kernel
theorem i64_and255 (a : Int) : Go.bits .and .i64 a 255 = a % 256 := by
  have h : Go.bits .and .i64 a 255 = IntKind.i64.wrap (((BitVec.ofInt 64 a) &&& (BitVec.ofNat 64 255)).toNat : Int) := rfl
  rw [h, BitVec.toNat_and, BitVec.toNat_ofInt, BitVec.toNat_ofNat]
  have e : (a % (2 ^ 64 : Nat)).toNat &&& 255 % 2 ^ 64 = (a % (2 ^ 64 : Nat)).toNat % 256 := by
    rw [show 255 % 2 ^ 64 = 2 ^ 8 - 1 from by decide, Nat.and_two_pow_sub_one_eq_mod]
  rw [e, IntKind.wrap_i64]
  have e2 : ((2 ^ 64 : Nat) : Int) = 18446744073709551616 := by decide
  rw [e2]
  omega
set_option maxRecDepth 100000 in
theorem bytes_all : ∀ n, n < 256 → templelaw5_ShowBytes.f 5 ((n : Nat) : Int) = some true := by decide +kernel
theorem ShowBytes_true : templelaw5_ShowBytes.Pure := by
  intro a0 _
  refine ⟨5, ?_⟩
  have h := bytes_all (a0 % 256).toNat (by omega)
  have e : (((a0 % 256).toNat : Nat) : Int) = a0 % 256 := by omega
  unfold templelaw5_ShowBytes.f at h ⊢
  rw [i64_and255] at h ⊢
  rwa [e, show a0 % 256 % 256 = a0 % 256 from by omega] at h
end Go.Proofs.Ytimmkmfcpfjgfaa.PS5
