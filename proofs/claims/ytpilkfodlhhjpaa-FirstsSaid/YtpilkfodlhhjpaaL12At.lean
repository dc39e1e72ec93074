/- The law Firsts at what came in. -/
import Derived.Test.YtpilkfodlhhjpaaL12Firsts
import Derived.Test.YtpilkfodlhhjpaaOFA
namespace Go.Proofs.Ytpilkfodlhhjpaa.PFA
open Go.RowKit Go.Proofs.YtpilkfodlhhjpaaW.PrintWords Go.Proofs.YtpilkfodlhhjpaaW.PrintLast
theorem gramSized_of {a : Int} {nm : List ByteArray} {rs : List S55} (h : G25 a nm rs) : gramSized nm rs := by
  obtain ⟨_, ⟨h1, _⟩, h2, h3⟩ := h
  refine ⟨by omega, by omega, fun r hr => ?_⟩
  obtain ⟨_, h4, h5⟩ := h3 r hr
  refine ⟨by omega, fun c hc => ?_⟩
  obtain ⟨_, h6, _⟩ := h5 c hc
  omega
theorem firsts_row (a : Int) (nm : List ByteArray) (rs : List S55) (h : G25 a nm rs) : ∃ k, templelaw12_Firsts.f k a nm rs = some true := firsts_law a nm rs (gramSized_of h)

end Go.Proofs.Ytpilkfodlhhjpaa.PFA
