/- ShowRuns, plain: bytes one by one are one text, ranges and names stand alone. -/
import Derived.Test.YtimmkmfcpfjgfaaL5Runs
namespace Go.Proofs.Ytimmkmfcpfjgfaa.Pure
theorem ShowRuns : Go.Proofs.Ytimmkmfcpfjgfaa.PS5.templelaw5_ShowRuns.Pure := Go.Proofs.Ytimmkmfcpfjgfaa.PS5.ShowRuns_true
end Go.Proofs.Ytimmkmfcpfjgfaa.Pure
