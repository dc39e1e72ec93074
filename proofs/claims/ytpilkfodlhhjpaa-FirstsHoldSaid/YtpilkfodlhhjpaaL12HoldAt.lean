/- The law FirstsHold at what came in. -/
import Derived.Test.YtpilkfodlhhjpaaL12Hold
import Derived.Test.YtpilkfodlhhjpaaOFH
namespace Go.Proofs.Ytpilkfodlhhjpaa.PFH
open Go.RowKit Go.Proofs.YtpilkfodlhhjpaaW.PrintWords Go.Proofs.YtpilkfodlhhjpaaW.PrintLast
set_option linter.unusedVariables false
theorem firstsHold_row (a : Int) (nm : List ByteArray) (rs : List S55) (h : G25 a nm rs) : ∃ k, templelaw12_FirstsHold.f k a nm rs = some true := firstsHold_law a nm rs
end Go.Proofs.Ytpilkfodlhhjpaa.PFH
