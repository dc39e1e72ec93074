/- ShowBytes, plain: each byte in a text, and as a range's end, is shown as it must. -/
import Derived.Test.YtimmkmfcpfjgfaaL5Base
namespace Go.Proofs.Ytimmkmfcpfjgfaa.Pure
theorem ShowBytes : Go.Proofs.Ytimmkmfcpfjgfaa.PS5.templelaw5_ShowBytes.Pure := Go.Proofs.Ytimmkmfcpfjgfaa.PS5.ShowBytes_true
end Go.Proofs.Ytimmkmfcpfjgfaa.Pure
