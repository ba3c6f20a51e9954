/- Words of the walks: what our texts name. -/
import Derived.Test.YtmigpeaiepdmbaaDoorVInv
import Derived.Test.YtmigpeaiepdmbaaDoorVFootNe
namespace Go.Proofs.YtmigpeaiepdmbaaDoorW.PrintWords
open Go.RowKit
end Go.Proofs.YtmigpeaiepdmbaaDoorW.PrintWords
namespace Go.Proofs.YtmigpeaiepdmbaaDoorW.PrintLast
section
variable {ops : Array Oper} {a : Act} {o og : Oper} {g : Nat} {t : Tmp} {u : Bool}
end
end Go.Proofs.YtmigpeaiepdmbaaDoorW.PrintLast
