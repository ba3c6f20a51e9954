/- Words of the walks: what our texts name. -/
import Derived.Test.YtenpjddjmhjdoaaVInv
import Derived.Test.YtenpjddjmhjdoaaVFootNe
namespace Go.Proofs.YtenpjddjmhjdoaaW.PrintWords
open Go.RowKit
end Go.Proofs.YtenpjddjmhjdoaaW.PrintWords
namespace Go.Proofs.YtenpjddjmhjdoaaW.PrintLast
section
variable {ops : Array Oper} {a : Act} {o og : Oper} {g : Nat} {t : Tmp} {u : Bool}
end
end Go.Proofs.YtenpjddjmhjdoaaW.PrintLast
