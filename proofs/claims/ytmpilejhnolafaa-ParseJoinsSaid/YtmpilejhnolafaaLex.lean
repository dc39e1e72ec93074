import Derived.Test.YtmpilejhnolafaaWWords
import Derived.Lib.Bytealg
import Derived.Laws.Strings
set_option linter.unusedVariables false
namespace Go.Proofs.Ytmpilejhnolafaa
open Go.Proofs.YtmpilejhnolafaaW.PrintWords
def idxB (s : ByteArray) (c : Int) : Int := Lib.indexByte s.data.toList c.toNat.toUInt8
end Go.Proofs.Ytmpilejhnolafaa
