/- The law ParseStarts, plain. -/
import Derived.Test.YtmpilejhnolafaaL3Starts
namespace Go.Proofs.Ytmpilejhnolafaa.Pure
theorem ParseStarts : Go.Proofs.Ytmpilejhnolafaa.PPS.templelaw3_ParseStarts.Pure := fun l0 _ _ _ => Go.Proofs.Ytmpilejhnolafaa.PPS.starts_pure l0
end Go.Proofs.Ytmpilejhnolafaa.Pure
