/- Steps of a region that draws its order, run by a list: the list tells what comes up, one text serves all steps. No condition. -/
import Derived.Test.YtenpjddjmhjdoaaVMore
import Derived.Test.YtenpjddjmhjdoaaVTab
import Derived.Test.YtenpjddjmhjdoaaVLast
namespace Go.Proofs.Ytenpjddjmhjdoaa.M
open Go.RowKit Go.Proofs.YtenpjddjmhjdoaaW.PrintWords Go.Proofs.YtenpjddjmhjdoaaW.PrintLast Go.Proofs.YtenpjddjmhjdoaaW.PrintMore
def Todo (_ : List (Nat × Nat)) (p : Prop) : Prop := p
theorem todo_ {p : Prop} (is : List (Nat × Nat)) (h : Todo is p) : p := h
theorem tend_ {p : Prop} (h : p) : Todo [] p := h
section
variable {P : Program} {ops : Array Oper} {Q : Exit → Act → World → Prop} {md : Region.Mode} {S : World → Prop} {ds : List Nat} {is : List (Nat × Nat)} {T : Bool × List (List Nat × List Nat)} {B : List Nat} {i : Nat} {n : Nat} {oi : Oper} {v : Value} {fuel : Nat} {l : Array Bool} {a : Act} {w : World}
theorem pu_ (hT : Aside0 (rtab md ops = T)) (hi : ops[i]? = some oi) (hN : oi.dst = some n) (hc : anyT T l.toList (l.toList.set i true) i = true) (hQ : ∀ c a w, Q (.panic c) (a.put oi.dst v) w → Q (.panic c) a w) (hy : Yields P ops oi v a) {a' : Act} (ha : a.put (some n) v = a')
    (h : Todo is (wpAnyLast P md ops Q S ds fuel (l.setIfInBounds i true) a' w)) : Todo ((i, n) :: is) (wpAnyLast P md ops Q S ds (fuel + 1) l a w) :=
  pure_ _ hi hN (any_of hT.out (by rw [Array.toList_setIfInBounds]; exact hc)) hQ hy ha h
theorem ta_ (hT : Aside0 (rtab md ops = T)) (hB : Aside0 (waitsOk T.2 B = true)) (hi : ops[i]? = some oi) (hN : oi.dst = some n) (hc : takeW T B ds l.toList (l.toList.set i true) i = true) (hQ : ∀ c a w, Q (.panic c) (a.put oi.dst v) w → Q (.panic c) a w) (hy : YieldsIf P ops S oi v a) (hS : S w) {a' : Act} (ha : a.put (some n) v = a')
    (h : Todo is (wpAnyLast P md ops Q S ds fuel (l.setIfInBounds i true) a' w)) : Todo ((i, n) :: is) (wpAnyLast P md ops Q S ds (fuel + 1) l a w) :=
  take_ _ hi hN (take_ofW hT.out hB.out (by rw [Array.toList_setIfInBounds]; exact hc)) hQ hy hS ha h
end
end Go.Proofs.Ytenpjddjmhjdoaa.M
