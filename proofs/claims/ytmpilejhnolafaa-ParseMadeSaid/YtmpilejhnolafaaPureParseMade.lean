/- The law ParseMade, plain. -/
import Derived.Test.YtmpilejhnolafaaL3Made
namespace Go.Proofs.Ytmpilejhnolafaa.Pure
theorem ParseMade : Go.Proofs.Ytmpilejhnolafaa.PPM.templelaw3_ParseMade.Pure := fun l0 _ _ _ => Go.Proofs.Ytmpilejhnolafaa.PPM.made_pure l0
end Go.Proofs.Ytmpilejhnolafaa.Pure
