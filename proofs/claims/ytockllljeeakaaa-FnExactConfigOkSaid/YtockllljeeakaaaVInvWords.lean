/- Words of the walks: what our texts name. -/
import Derived.Test.YtockllljeeakaaaVInv
import Derived.Test.YtockllljeeakaaaVFootNe
namespace Go.Proofs.YtockllljeeakaaaW.PrintWords
open Go.RowKit
end Go.Proofs.YtockllljeeakaaaW.PrintWords
namespace Go.Proofs.YtockllljeeakaaaW.PrintLast
section
variable {ops : Array Oper} {a : Act} {o og : Oper} {g : Nat} {t : Tmp} {u : Bool}
end
end Go.Proofs.YtockllljeeakaaaW.PrintLast
