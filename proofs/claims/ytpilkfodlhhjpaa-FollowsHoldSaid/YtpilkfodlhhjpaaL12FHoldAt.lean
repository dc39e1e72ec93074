/- The law FollowsHold at what came in. -/
import Derived.Test.YtpilkfodlhhjpaaL12FollowsHold
import Derived.Test.YtpilkfodlhhjpaaOFW
namespace Go.Proofs.Ytpilkfodlhhjpaa.PFW
open Go.RowKit Go.Proofs.YtpilkfodlhhjpaaW.PrintWords Go.Proofs.YtpilkfodlhhjpaaW.PrintLast
set_option linter.unusedVariables false
theorem followsHold_row (a : Int) (nm : List ByteArray) (rs : List S55) (h : G25 a nm rs) : ∃ k, templelaw12_FollowsHold.f k a nm rs = some true := followsHold_law a nm rs
end Go.Proofs.Ytpilkfodlhhjpaa.PFW
