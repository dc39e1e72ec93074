/- Layer 5, plain: the law Shows answers true. -/
import Derived.Test.YtimmkmfcpfjgfaaL5Shows
import Derived.Test.YtimmkmfcpfjgfaaPSAx14
namespace Go.Proofs.Ytimmkmfcpfjgfaa.PSA
open Go.RowKit Go.Proofs.YtimmkmfcpfjgfaaW.PrintWords Go.Proofs.YtimmkmfcpfjgfaaW.PrintLast
set_option linter.unusedVariables false
theorem shows_law (a : Int) (nm : List ByteArray) (rs : List S44) (hs : gramSized nm rs) : ∃ k, templelaw5_Shows.f k a nm rs = some true := by
  obtain ⟨K1, h1⟩ := copy_ev a nm rs hs
  obtain ⟨K2, h2⟩ := refShow_ev a nm rs
  obtain ⟨K3, h3⟩ := sameGrammar_self a nm rs hs
  have g1 := h1 (K1 + K2 + K3) (by omega)
  have g2 := h2 (K1 + K2 + K3) (by omega)
  have g3 := h3 (K1 + K2 + K3) (by omega)
  refine ⟨K1 + K2 + K3, ?_⟩
  have hS : show_Show.f a nm rs = some (if mayB a nm rs then ((⟨(showT a nm rs).toArray⟩ : ByteArray), (0 : Int)) else (⟨#[]⟩, 500)) := rfl
  unfold templelaw5_Shows.f
  refine st_bind g1 (st_bind hS (st_bind g2 (st_pos rfl (st_bind (show templelaw0_Num.f _ = some _ from rfl) (st_pos rfl (st_bind g3 (st_pos rfl ?_)))))))
  rw [awake5]
  rfl
end Go.Proofs.Ytimmkmfcpfjgfaa.PSA
