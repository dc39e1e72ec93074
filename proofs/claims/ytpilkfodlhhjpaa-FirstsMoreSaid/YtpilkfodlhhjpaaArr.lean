import Derived.ChangeKeysEq
import Derived.WalkKit
set_option linter.unusedVariables false
namespace Go.Proofs.Ytpilkfodlhhjpaa
theorem eqi_nil {P : Program} {w : World} {d n : Nat} {e : TypeId} {xs ys : Array Value} : (Op.eqItems d e n xs ys []).run P w = .ok true w := by simp [Op.eqItems]
theorem eqi_cons {P : Program} {w : World} {d n i : Nat} {e : TypeId} {xs ys : Array Value} {is : List Nat} {a b : Value} {r s : Bool} (ha : (part e xs (i * n)).run P w = .ok a w) (hb : (part e ys (i * n)).run P w = .ok b w) (he : (Op.equalIn d e a b).run P w = .ok r w) (hr : (Op.eqItems d e n xs ys is).run P w = .ok s w) :
    (Op.eqItems d e n xs ys (i :: is)).run P w = .ok (r && s) w := by
  simp only [Op.eqItems, Sem.run_bind, ha, hb, he, Result.andThen_ok]
  cases r
  · simp
  · simpa using hr
theorem eqi_last {P : Program} {w : World} {d n i : Nat} {e : TypeId} {xs ys : Array Value} {a b : Value} {r : Bool} (ha : (part e xs (i * n)).run P w = .ok a w) (hb : (part e ys (i * n)).run P w = .ok b w) (he : (Op.equalIn d e a b).run P w = .ok r w) :
    (Op.eqItems d e n xs ys [i]).run P w = .ok r w := by
  have h := eqi_cons ha hb he (eqi_nil (d := d) (n := n) (e := e) (xs := xs) (ys := ys))
  rwa [Bool.and_true] at h
end Go.Proofs.Ytpilkfodlhhjpaa
