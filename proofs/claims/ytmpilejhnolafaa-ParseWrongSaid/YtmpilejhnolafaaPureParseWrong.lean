/- The law ParseWrong, plain. -/
import Derived.Test.YtmpilejhnolafaaL3Wrong
namespace Go.Proofs.Ytmpilejhnolafaa.Pure
theorem ParseWrong : Go.Proofs.Ytmpilejhnolafaa.PPW.templelaw3_ParseWrong.Pure := Go.Proofs.Ytmpilejhnolafaa.PPW.ParseWrong_true
end Go.Proofs.Ytmpilejhnolafaa.Pure
