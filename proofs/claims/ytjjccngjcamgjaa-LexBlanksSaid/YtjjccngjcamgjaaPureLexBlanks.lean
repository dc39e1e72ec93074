/- LexBlanks, plain: blanks and comments ahead turn nothing but places. -/
import Derived.Test.YtjjccngjcamgjaaL2Blanks
namespace Go.Proofs.Ytjjccngjcamgjaa.Pure
theorem LexBlanks : Go.Proofs.Ytjjccngjcamgjaa.PLC.templelaw2_LexBlanks.Pure := Go.Proofs.Ytjjccngjcamgjaa.PLC.lexBlanks_Pure
end Go.Proofs.Ytjjccngjcamgjaa.Pure
