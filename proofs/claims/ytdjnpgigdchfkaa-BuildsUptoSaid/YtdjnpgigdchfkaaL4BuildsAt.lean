/- Layer 4: Builds over what came in, where its bulk is small: the two Builds answer alike, what is handed in stays, what is answered is new each time. -/
import Derived.Test.YtdjnpgigdchfkaaL4Ref
import Derived.Test.YtdjnpgigdchfkaaL4CopyRaw
import Derived.Test.YtdjnpgigdchfkaaL10CopyE
import Derived.Test.YtdjnpgigdchfkaaL4Awake
import Derived.Test.YtdjnpgigdchfkaaL4Small
import Derived.Test.YtdjnpgigdchfkaaPBSx16
import Derived.Test.YtdjnpgigdchfkaaOBS
namespace Go.Proofs.Ytdjnpgigdchfkaa.PBS
open Go.RowKit Go.Proofs.YtdjnpgigdchfkaaW.PrintWords Go.Proofs.YtdjnpgigdchfkaaW.PrintLast
set_option linter.unusedVariables false
theorem st_then {α β : Type} {o : Option α} {f : α → Option β} {a : α} {r : Option β} (h : o = some a) (g : f a = r) : o.bind f = r := by rw [h]; exact g
theorem names_small : ∀ {l P : List ByteArray}, namesFrom P l = true → ∀ y ∈ l, y.size ≤ 32
  | x :: xs, P, h, y, hy => by
    unfold namesFrom at h
    rw [Bool.and_eq_true, Bool.and_eq_true] at h
    rcases List.mem_cons.1 hy with rfl | hy
    · have := h.1.1
      unfold nameOk at this
      rw [Bool.and_eq_true, decide_eq_true_eq] at this
      exact this.1.2.1
    · exact names_small h.2 y hy
theorem may_names {a : Int} {N : List ByteArray} {l : List S51} (h : mayB a N l = true) : N.length ≤ 64 ∧ ∀ y ∈ N, y.size ≤ 32 := by
  unfold mayB at h
  rw [Bool.and_eq_true, Bool.and_eq_true, Bool.and_eq_true] at h
  have := h.1.1.1
  unfold namesOk at this
  rw [Bool.and_eq_true, decide_eq_true_eq] at this
  exact ⟨this.1.2, names_small this.2⟩
theorem may_sized {a : Int} {N : List ByteArray} {l : List S51} (h : mayB a N l = true) : gramSized N l := by
  obtain ⟨h1, h2⟩ := may_rules h
  refine ⟨by have := (may_names h).1; omega, by omega, fun r hr => ?_⟩
  have hb := h2 r hr
  unfold ruleB at hb
  rw [Bool.and_eq_true, decide_eq_true_eq, List.all_eq_true] at hb
  refine ⟨by omega, fun c hc => ?_⟩
  have := hb.2 c hc
  unfold conjB at this
  rw [Bool.and_eq_true, decide_eq_true_eq] at this
  omega
theorem build_sized (l0 : List ByteArray) (l1 : List S45) : gramSized (buildL l0 l1).2.1 (buildL l0 l1).2.2.1 ∧ ∀ y ∈ (buildL l0 l1).2.1, y.size ≤ 1000000 := by
  have nil : gramSized [] [] ∧ ∀ y ∈ ([] : List ByteArray), y.size ≤ 1000000 := ⟨⟨by simp, by simp, by simp⟩, by simp⟩
  unfold buildL
  split
  · exact nil
  split
  · exact nil
  split
  · exact nil
  split
  · exact nil
  split
  · exact nil
  split
  · rename_i h
    exact ⟨may_sized h, fun y hy => Nat.le_trans ((may_names h).2 y hy) (by decide)⟩
  · exact nil
theorem gramSized_of {a : Int} {nm : List ByteArray} {rs : List S51} (h : G28 a nm rs) : gramSized nm rs := by
  obtain ⟨_, ⟨h1, _⟩, h2, h3⟩ := h
  refine ⟨by omega, by omega, fun r hr => ?_⟩
  obtain ⟨_, h4, h5⟩ := h3 r hr
  refine ⟨by omega, fun c hc => ?_⟩
  obtain ⟨_, h6, _⟩ := h5 c hc
  omega
theorem len_bulk (l : List ByteArray) : l.length ≤ (l.map (fun y => (y.size + 1))).sum := len_le l (fun x _ => by omega)
theorem builds_row (l0 : List ByteArray) (l1 : List S45) (hG : G25 l0 l1) (a : Int) (g1 : List ByteArray) (g2 : List S51) (hG2 : G28 a g1 g2)
    (hB : (((l0.map (fun y => (y.size + 1))).sum + 1) + (((l1.map (fun y => B45 y)).sum + 1)) + 1) + (1 + (((g1.map (fun y => (y.size + 1))).sum + 1) + (((g2.map (fun y => B51 y)).sum + 1))) + 1) ≤ 1048576) : ∃ k, templelaw4_Builds.f k l0 l1 a g1 g2 = some true := by
  have hs := small_of_bulk l1 (by omega)
  have h0 : l0.length ≤ 1048576 := Nat.le_trans (len_bulk l0) (by omega)
  obtain ⟨K1, e1⟩ := copyRaw_ev l0 l1 h0 hs
  obtain ⟨K2, e2⟩ := build_ev l0 l1 hs
  obtain ⟨K3, e3⟩ := ref_Build l0 l1 hs
  obtain ⟨b1, b2⟩ := build_sized l0 l1
  have e4 := templelaw0_SameGrammar.self (buildL l0 l1).1 (buildL l0 l1).2.1 (buildL l0 l1).2.2.1
  have e5 := templelaw0_SameRaw.self l0 l1
  have hg := gramSized_of hG2
  obtain ⟨K6, e6⟩ := copy_ev a g1 g2 hg
  obtain ⟨K7, e7⟩ := ref_May a g1 g2
  have e8 := templelaw0_SameGrammar.self a g1 g2
  obtain ⟨K9, e9⟩ := awake4
  dsimp only at e1 e2 e3 e6 e7 e9
  refine ⟨K1 + K2 + K3 + K6 + K7 + K9, ?_⟩
  unfold templelaw4_Builds.f
  refine st_then (e1 _ (by omega)) (st_then (e2 _ (by omega)) (st_then (e3 _ (by omega)) (st_then e4 ?_)))
  rw [if_pos ⟨rfl, rfl, rfl, List.all_eq_true.2 (fun y hy => decide_eq_true (b2 y hy))⟩]
  refine st_then e5 ((if_pos rfl).trans (st_then (e6 _ (by omega)) (st_then (a := mayB a g1 g2) rfl (st_then (e7 _ (by omega)) ((if_pos rfl).trans (st_then e8 ((if_pos rfl).trans (st_then (e9 _ (by omega)) (if_pos rfl)))))))))
end Go.Proofs.Ytdjnpgigdchfkaa.PBS
