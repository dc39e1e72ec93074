/- Texts: the first place of a byte. -/
import Derived.Test.YtjjccngjcamgjaaWWords
import Derived.Lib.Bytealg
import Derived.Laws.Strings
set_option linter.unusedVariables false
namespace Go.Proofs.Ytjjccngjcamgjaa
open Go.Proofs.YtjjccngjcamgjaaW.PrintWords
/-- The first place of a byte in a text; -1: none. -/
def idxB (s : ByteArray) (c : Int) : Int := Lib.indexByte s.data.toList c.toNat.toUInt8
end Go.Proofs.Ytjjccngjcamgjaa
