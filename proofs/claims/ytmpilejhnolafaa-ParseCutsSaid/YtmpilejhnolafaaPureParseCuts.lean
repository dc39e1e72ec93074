/- The law ParseCuts, plain. -/
import Derived.Test.YtmpilejhnolafaaL3Cuts
namespace Go.Proofs.Ytmpilejhnolafaa.Pure
theorem ParseCuts : Go.Proofs.Ytmpilejhnolafaa.PPC.templelaw3_ParseCuts.Pure := fun a0 a1 _ _ => Go.Proofs.Ytmpilejhnolafaa.PPC.cuts_pure a0 a1
end Go.Proofs.Ytmpilejhnolafaa.Pure
