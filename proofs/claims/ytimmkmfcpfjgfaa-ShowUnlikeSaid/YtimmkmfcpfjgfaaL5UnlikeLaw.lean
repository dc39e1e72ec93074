/- Layer 5, plain: grammars that are not the same have other texts (ShowUnlike). -/
import Derived.Test.YtimmkmfcpfjgfaaL5Unlike
import Derived.Test.YtimmkmfcpfjgfaaL5Same
import Derived.Test.YtimmkmfcpfjgfaaL5Help
import Derived.Test.YtimmkmfcpfjgfaaPSUx6
namespace Go.Proofs.Ytimmkmfcpfjgfaa.PSU
open Go.RowKit Go.Proofs.YtimmkmfcpfjgfaaW.PrintWords Go.Proofs.YtimmkmfcpfjgfaaW.PrintLast
set_option linter.unusedVariables false
theorem unlike_law (a : Int) (nm : List ByteArray) (rs : List S44) (b : Int) (mn : List ByteArray) (rt : List S44) (hs : gramSized nm rs) : ∃ k, templelaw5_ShowUnlike.f k a nm rs b mn rt = some true := by
  obtain ⟨r, ⟨K, h⟩, e⟩ := sameGrammar_dec a b nm mn rs rt hs
  dsimp only at h
  refine ⟨K, ?_⟩
  have h := h K (Nat.le_refl _)
  have hS : ∀ (a : Int) (nm : List ByteArray) (rs : List S44), show_Show.f a nm rs = some (if mayB a nm rs then ((⟨(showT a nm rs).toArray⟩ : ByteArray), (0 : Int)) else (⟨#[]⟩, 500)) := fun _ _ _ => rfl
  unfold templelaw5_ShowUnlike.f
  refine st_bind awake5 (st_pos rfl (st_bind (hS a nm rs) (st_bind (hS b mn rt) ?_)))
  have num : ∀ x : Int, templelaw0_Num.f x = some x := fun _ => rfl
  have e500 : ¬ (500 : Int) = 0 := by decide
  cases ma : mayB a nm rs with
  | false => exact st_bind (num 500) (st_neg e500 rfl)
  | true =>
    cases mb : mayB b mn rt with
    | false => exact st_bind (num 0) (st_pos rfl (st_bind (num 500) (st_neg e500 rfl)))
    | true =>
      refine st_bind (num 0) (st_pos rfl (st_bind (num 0) (st_pos rfl (st_bind h ?_))))
      have key : ((⟨(showT a nm rs).toArray⟩ : ByteArray).toList == (⟨(showT b mn rt).toArray⟩ : ByteArray).toList) = r := by
        rw [Bool.eq_iff_iff, beq_iff_eq, toList_inj, e]
        constructor
        · intro h2
          have h3 := congrArg (fun x : ByteArray => x.data.toList) h2
          exact show_inj ma mb h3
        · rintro ⟨rfl, rfl, rfl⟩
          rfl
      show some ((_ : Bool) == r) = some true
      congr 1
      rw [beq_iff_eq]
      exact key
end Go.Proofs.Ytimmkmfcpfjgfaa.PSU
