/- Words of the walks: what our texts name. -/
import Derived.Test.YtenpjddjmhjdoaaVTab
namespace Go.Proofs.YtenpjddjmhjdoaaW.PrintLast
section
variable {P : Program} {ops : Array Oper} {Q : Exit → Act → World → Prop} {md : Region.Mode} {S : World → Prop} {ds : List Nat} {T : Bool × List (List Nat × List Nat)}
end
end Go.Proofs.YtenpjddjmhjdoaaW.PrintLast
