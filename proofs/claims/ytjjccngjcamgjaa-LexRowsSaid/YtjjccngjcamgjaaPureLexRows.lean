/- LexRows, plain: tokens of all kinds in any row, with blanks between, are these. -/
import Derived.Test.YtjjccngjcamgjaaL2Rows2
namespace Go.Proofs.Ytjjccngjcamgjaa.Pure
theorem LexRows : Go.Proofs.Ytjjccngjcamgjaa.PLE.templelaw2_LexRows.Pure := Go.Proofs.Ytjjccngjcamgjaa.PLE.lexRows_Pure
end Go.Proofs.Ytjjccngjcamgjaa.Pure
