/- Layer 4: GramLimits, plain: proved in L4Limits. -/
import Derived.Test.YtdjnpgigdchfkaaL4Limits
namespace Go.Proofs.Ytdjnpgigdchfkaa.Pure
theorem GramLimits : Go.Proofs.Ytdjnpgigdchfkaa.PGL.templelaw4_GramLimits.Pure := Go.Proofs.Ytdjnpgigdchfkaa.PGL.GramLimits
end Go.Proofs.Ytdjnpgigdchfkaa.Pure
