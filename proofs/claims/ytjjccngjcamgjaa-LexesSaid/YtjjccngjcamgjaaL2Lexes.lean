/- Lexes: any text. -/
import Derived.Test.YtjjccngjcamgjaaL2Same
import Derived.Test.YtjjccngjcamgjaaL2Ref3
import Derived.Test.YtjjccngjcamgjaaPLAx7
namespace Go.Proofs.Ytjjccngjcamgjaa.PLA
open Go.RowKit Go.Proofs.YtjjccngjcamgjaaW.PrintWords Go.Proofs.YtjjccngjcamgjaaW.PrintLast
set_option linter.unusedVariables false
set_option linter.unusedSimpArgs false
theorem lexes_pure (s : ByteArray) : ∃ k, templelaw2_Lexes.f k s = some true := by
  obtain ⟨K1, e1⟩ := lex_ev s
  obtain ⟨K2, e2⟩ := rlex_ev s
  obtain ⟨K3, e3⟩ := same_refl (lexB s).1 (Nat.le_trans (lexB_len s) (by decide))
  obtain ⟨K4, e4⟩ := awake_ev
  refine ⟨K1 + K2 + K3 + K4, ?_⟩
  have g1 := e1 (K1 + K2 + K3 + K4) (by omega)
  have g2 := e2 (K1 + K2 + K3 + K4) (by omega)
  have g3 := e3 (K1 + K2 + K3 + K4) (by omega)
  have g4 := e4 (K1 + K2 + K3 + K4) (by omega)
  dsimp only at g1 g2 g3 g4
  unfold templelaw2_Lexes.f
  exact st_bind g1 (st_bind g2 (st_bind g3 (st_pos rfl (st_pos rfl (st_bind (num_eq _) (st_pos rfl (st_bind g4 rfl)))))))
end Go.Proofs.Ytjjccngjcamgjaa.PLA
