/- Words of the walks: what our texts name. -/
import Derived.Test.YtockllljeeakaaaVWords
import Derived.Laws.StructEq
namespace Go.Proofs.YtockllljeeakaaaW.PrintWords
open Go.RowKit
section
variable {P : Program} {d : Nat} {xs ys : Array Value} {f : Field} {fs : List Field} {a b : Value} {r s : Bool} {w : World}
end
end Go.Proofs.YtockllljeeakaaaW.PrintWords
