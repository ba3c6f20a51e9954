/- Words of the walks: what our texts name. -/
import Derived.Test.YtenpjddjmhjdoaaDoorVInv
import Derived.Test.YtenpjddjmhjdoaaDoorVFootNe
namespace Go.Proofs.YtenpjddjmhjdoaaDoorW.PrintWords
open Go.RowKit
end Go.Proofs.YtenpjddjmhjdoaaDoorW.PrintWords
namespace Go.Proofs.YtenpjddjmhjdoaaDoorW.PrintLast
section
variable {ops : Array Oper} {a : Act} {o og : Oper} {g : Nat} {t : Tmp} {u : Bool}
end
end Go.Proofs.YtenpjddjmhjdoaaDoorW.PrintLast
