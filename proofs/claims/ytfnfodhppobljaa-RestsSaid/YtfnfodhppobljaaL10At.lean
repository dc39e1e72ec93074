/- Layer 10's laws at what came in. -/
import Derived.Test.YtfnfodhppobljaaL10Laws
import Derived.Test.YtfnfodhppobljaaOL10
namespace Go.Proofs.Ytfnfodhppobljaa.PL10
open Go.RowKit Go.Proofs.YtfnfodhppobljaaW.PrintWords Go.Proofs.YtfnfodhppobljaaW.PrintLast
theorem gramSized_of {a : Int} {nm : List ByteArray} {rs : List S42} (h : G25 a nm rs) : gramSized nm rs := by
  obtain ⟨_, ⟨h1, _⟩, h2, h3⟩ := h
  refine ⟨by omega, by omega, fun r hr => ?_⟩
  obtain ⟨_, h4, h5⟩ := h3 r hr
  refine ⟨by omega, fun c hc => ?_⟩
  obtain ⟨_, h6, _⟩ := h5 c hc
  omega
theorem rests_row (a : Int) (nm : List ByteArray) (rs : List S42) (h : G25 a nm rs) : ∃ k, templelaw10_Rests.f k a nm rs = some true := rests_law a nm rs (gramSized_of h)
theorem restsRows_row (a : Int) (nm : List ByteArray) (rs : List S42) (h : G25 a nm rs) : ∃ k, templelaw10_RestsRows.f k a nm rs = some true := restsRows_law a nm rs
end Go.Proofs.Ytfnfodhppobljaa.PL10
