/- The law Shows at what came in. -/
import Derived.Test.YtimmkmfcpfjgfaaL5ShowsLaw
import Derived.Test.YtimmkmfcpfjgfaaOSA
namespace Go.Proofs.Ytimmkmfcpfjgfaa.PSA
open Go.RowKit Go.Proofs.YtimmkmfcpfjgfaaW.PrintWords Go.Proofs.YtimmkmfcpfjgfaaW.PrintLast
theorem gramSized_of {a : Int} {nm : List ByteArray} {rs : List S44} (h : G25 a nm rs) : gramSized nm rs := by
  obtain ⟨_, ⟨h1, _⟩, h2, h3⟩ := h
  refine ⟨by omega, by omega, fun r hr => ?_⟩
  obtain ⟨_, h4, h5⟩ := h3 r hr
  refine ⟨by omega, fun c hc => ?_⟩
  obtain ⟨_, h6, _⟩ := h5 c hc
  omega
theorem shows_row (a : Int) (nm : List ByteArray) (rs : List S44) (h : G25 a nm rs) : ∃ k, templelaw5_Shows.f k a nm rs = some true := shows_law a nm rs (gramSized_of h)

end Go.Proofs.Ytimmkmfcpfjgfaa.PSA
