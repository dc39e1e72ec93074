/- Layer 4: BuildTells over what came in, where its bulk is small. -/
import Derived.Test.YtdjnpgigdchfkaaL4Tells
import Derived.Test.YtdjnpgigdchfkaaL4Small
namespace Go.Proofs.Ytdjnpgigdchfkaa.PBT
open Go.RowKit Go.Proofs.YtdjnpgigdchfkaaW.PrintWords
theorem tells_row (l0 : List ByteArray) (l1 : List S45) (hG : G25 l0 l1) (hB : ((l0.map (fun y => (y.size + 1))).sum + 1) + (((l1.map (fun y => B45 y)).sum + 1)) + 1 ≤ 1048576) : ∃ k, templelaw4_BuildTells.f k l0 l1 = some true :=
  tells_ev l0 l1 (small_of_bulk l1 (by omega))
end Go.Proofs.Ytdjnpgigdchfkaa.PBT
