/- Words of the walks: what our texts name. -/
import Derived.Test.YtockllljeeakaaaDoorVInv
import Derived.Test.YtockllljeeakaaaDoorVFootNe
namespace Go.Proofs.YtockllljeeakaaaDoorW.PrintWords
open Go.RowKit
end Go.Proofs.YtockllljeeakaaaDoorW.PrintWords
namespace Go.Proofs.YtockllljeeakaaaDoorW.PrintLast
section
variable {ops : Array Oper} {a : Act} {o og : Oper} {g : Nat} {t : Tmp} {u : Bool}
end
end Go.Proofs.YtockllljeeakaaaDoorW.PrintLast
