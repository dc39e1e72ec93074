/- Texts out of numbers, and back. -/
import Derived.Test.YtjjccngjcamgjaaL2App
import Derived.Test.YtjjccngjcamgjaaL2Pos
namespace Go.Proofs.Ytjjccngjcamgjaa.PLD
open Go.RowKit Go.Proofs.YtjjccngjcamgjaaW.PrintWords Go.Proofs.YtjjccngjcamgjaaW.PrintLast
set_option linter.unusedVariables false
set_option linter.unusedSimpArgs false
theorem str_bl (s : ByteArray) : strOfNums (bl s) = s := by
  apply ByteArray.ext
  apply Array.toList_inj.1
  unfold strOfNums
  rw [bl_data, List.map_map]
  rw [show ((fun n : Int => UInt8.ofNat n.toNat) ∘ fun b : UInt8 => (b.toNat : Int)) = id from by
    funext b
    simp]
  simp
theorem bl_str (l : BL) (h : ∀ x ∈ l, 0 ≤ x ∧ x ≤ 255) : bl (strOfNums l) = l := by
  rw [bl_data]
  unfold strOfNums
  dsimp only
  rw [List.map_map]
  conv => rhs; rw [← List.map_id l]
  apply List.map_congr_left
  intro x hx
  have := h x hx
  simp only [Function.comp_apply, id_eq, UInt8.toNat_ofNat']
  omega
theorem bl_tail (s : ByteArray) (p : Nat) : bl (s.extract p s.size) = (bl s).drop p := by
  rw [bl_data, bl_data, ext_data, List.map_drop]
theorem str_size (l : BL) : (strOfNums l).size = l.length := by
  unfold strOfNums
  show (List.toArray _).size = _
  simp
theorem tw_all (p : Int → Bool) : ∀ l : BL, (∀ x ∈ l, p x = true) → l.takeWhile p = l ∧ l.dropWhile p = []
  | [], _ => ⟨rfl, rfl⟩
  | x :: l, h => by
    have h1 := h x (List.mem_cons_self ..)
    have h2 := tw_all p l (fun y hy => h y (List.mem_cons_of_mem _ hy))
    rw [List.takeWhile_cons, List.dropWhile_cons, h1, if_pos rfl, if_pos rfl, h2.1, h2.2]
    exact ⟨rfl, rfl⟩
theorem and_range (a : Int) (m : Nat) (hm : m < 2 ^ 62) : 0 ≤ Go.bits .and .i64 a (m : Int) ∧ Go.bits .and .i64 a (m : Int) ≤ (m : Int) := by
  have h : Go.bits .and .i64 a (m : Int) = IntKind.i64.wrap ((BitVec.ofInt 64 a &&& BitVec.ofInt 64 (m : Int)).toNat : Int) := rfl
  rw [h, BitVec.ofInt_natCast, BitVec.toNat_and, BitVec.toNat_ofNat, Nat.mod_eq_of_lt (Nat.lt_of_lt_of_le hm (Nat.pow_le_pow_right (by decide) (by decide)))]
  have h2 : (BitVec.ofInt 64 a).toNat &&& m ≤ m := Nat.and_le_right
  generalize (BitVec.ofInt 64 a).toNat &&& m = c at *
  have h3 : IntKind.i64.wrap (c : Int) = wrap64 (c : Int) := i64_w _
  rw [h3, wrap_ok _ (by omega) (by omega)]
  omega
end Go.Proofs.Ytjjccngjcamgjaa.PLD
