/- Words of the walks: what our texts name. -/
import Derived.Test.YtenpjddjmhjdoaaVWords
import Derived.Laws.StructEq
namespace Go.Proofs.YtenpjddjmhjdoaaW.PrintWords
open Go.RowKit
section
variable {P : Program} {d : Nat} {xs ys : Array Value} {f : Field} {fs : List Field} {a b : Value} {r s : Bool} {w : World}
end
end Go.Proofs.YtenpjddjmhjdoaaW.PrintWords
