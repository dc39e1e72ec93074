/- Layer 12, plain: the law Firsts answers true. -/
import Derived.Test.YtpilkfodlhhjpaaL12Base
import Derived.Test.YtpilkfodlhhjpaaPFAx20
namespace Go.Proofs.Ytpilkfodlhhjpaa.PFA
open Go.RowKit Go.Proofs.YtpilkfodlhhjpaaW.PrintWords Go.Proofs.YtpilkfodlhhjpaaW.PrintLast
set_option linter.unusedVariables false
theorem firsts_law (a : Int) (nm : List ByteArray) (rs : List S55) (hs : gramSized nm rs) : ∃ k, templelaw12_Firsts.f k a nm rs = some true := by
  have hn : nm.length < 4611686018427387904 := by have := hs.1; omega
  obtain ⟨K1, h1⟩ := copy_ev a nm rs hs
  obtain ⟨K2, h2⟩ := refEmpty_ev a nm rs
  obtain ⟨K3, h3⟩ := refFirst_ev a nm rs
  obtain ⟨K4, h4⟩ := refFollow_ev a nm rs
  obtain ⟨K5, h5⟩ := sameGrammar_self a nm rs hs
  obtain ⟨K6, h6⟩ := awake12
  have hE : first_Empty.f a nm rs = some (if mayB a nm rs then (emptyL nm rs, 0) else ([], 1200)) := rfl
  have hF : first_First.f a nm rs = some (if mayB a nm rs then (firstL nm rs, 0) else ([], 1200)) := rfl
  have hW : first_Follow.f a nm rs = some (if mayB a nm rs then (followL a nm rs, 0) else ([], 1200)) := rfl
  generalize hvE : (if mayB a nm rs then (emptyL nm rs, (0 : Int)) else ([], 1200)) = vE at *
  generalize hvF : (if mayB a nm rs then (firstL nm rs, (0 : Int)) else ([], 1200)) = vF at *
  generalize hvW : (if mayB a nm rs then (followL a nm rs, (0 : Int)) else ([], 1200)) = vW at *
  have lE : vE.1.length < 9223372036854775807 := by
    rw [← hvE]
    split
    · show (emptyL nm rs).length < _; rw [emptyL_len]; omega
    · show 0 < _; omega
  have lF : vF.1.length < 9223372036854775807 := by
    rw [← hvF]
    split
    · show (firstL nm rs).length < _; rw [(firstL_in nm rs).1]; omega
    · show 0 < _; omega
  have lW : vW.1.length < 9223372036854775807 := by
    rw [← hvW]
    split
    · show (followL a nm rs).length < _; rw [(followL_in a nm rs).1]; omega
    · show 0 < _; omega
  clear hvE hvF hvW
  obtain ⟨K7, h7⟩ := sameBools_self vE.1 lE
  obtain ⟨K8, h8⟩ := sameSets_self vF.1 lF
  obtain ⟨K9, h9⟩ := sameFollows_self vW.1 lW
  obtain ⟨k, hk⟩ : ∃ k, k = K1 + K2 + K3 + K4 + K5 + K6 + K7 + K8 + K9 := ⟨_, rfl⟩
  refine ⟨k, ?_⟩
  unfold templelaw12_Firsts.f
  refine st_bind (h1 k (by omega)) <| st_bind hE <| st_bind (h2 k (by omega)) <| st_bind hF <| st_bind (h3 k (by omega)) <| st_bind hW <| st_bind (h4 k (by omega)) <| st_bind (h7 k (by omega)) <| st_pos rfl <| st_bind (show templelaw0_Num.f _ = some _ from rfl) <| st_pos rfl <| st_bind (h8 k (by omega)) <| st_pos rfl <| st_bind (show templelaw0_Num.f _ = some _ from rfl) <| st_pos rfl <| st_bind (h9 k (by omega)) <| st_pos rfl <| st_bind (show templelaw0_Num.f _ = some _ from rfl) <| st_pos rfl <| st_bind (h5 k (by omega)) <| st_pos rfl ?_
  exact st_bind (h6 k (by omega)) rfl
end Go.Proofs.Ytpilkfodlhhjpaa.PFA
