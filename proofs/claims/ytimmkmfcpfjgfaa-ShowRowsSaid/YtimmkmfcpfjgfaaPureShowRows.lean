/- ShowRows, plain: names stand in their row, their rules behind them, alternatives with a bar, conjuncts with a sign between. -/
import Derived.Test.YtimmkmfcpfjgfaaL5RwLaw
namespace Go.Proofs.Ytimmkmfcpfjgfaa.Pure
theorem ShowRows : Go.Proofs.Ytimmkmfcpfjgfaa.PSR.templelaw5_ShowRows.Pure := Go.Proofs.Ytimmkmfcpfjgfaa.PSR.ShowRows_true
end Go.Proofs.Ytimmkmfcpfjgfaa.Pure
