/- The law ShowUnlike at what came in. -/
import Derived.Test.YtimmkmfcpfjgfaaL5UnlikeLaw
import Derived.Test.YtimmkmfcpfjgfaaOSU
namespace Go.Proofs.Ytimmkmfcpfjgfaa.PSU
open Go.RowKit Go.Proofs.YtimmkmfcpfjgfaaW.PrintWords Go.Proofs.YtimmkmfcpfjgfaaW.PrintLast
theorem gramSized_of {a : Int} {nm : List ByteArray} {rs : List S44} (h : G25 a nm rs) : gramSized nm rs := by
  obtain ⟨_, ⟨h1, _⟩, h2, h3⟩ := h
  refine ⟨by omega, by omega, fun r hr => ?_⟩
  obtain ⟨_, h4, h5⟩ := h3 r hr
  refine ⟨by omega, fun c hc => ?_⟩
  obtain ⟨_, h6, _⟩ := h5 c hc
  omega
theorem unlike_row (a : Int) (nm : List ByteArray) (rs : List S44) (h : G25 a nm rs) (b : Int) (mn : List ByteArray) (rt : List S44) (_ : G25 b mn rt) : ∃ k, templelaw5_ShowUnlike.f k a nm rs b mn rt = some true := unlike_law a nm rs b mn rt (gramSized_of h)
end Go.Proofs.Ytimmkmfcpfjgfaa.PSU
