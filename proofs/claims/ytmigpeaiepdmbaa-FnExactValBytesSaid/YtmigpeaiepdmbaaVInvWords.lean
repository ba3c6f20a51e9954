/- Words of the walks: what our texts name. -/
import Derived.Test.YtmigpeaiepdmbaaVInv
import Derived.Test.YtmigpeaiepdmbaaVFootNe
namespace Go.Proofs.YtmigpeaiepdmbaaW.PrintWords
open Go.RowKit
end Go.Proofs.YtmigpeaiepdmbaaW.PrintWords
namespace Go.Proofs.YtmigpeaiepdmbaaW.PrintLast
section
variable {ops : Array Oper} {a : Act} {o og : Oper} {g : Nat} {t : Tmp} {u : Bool}
end
end Go.Proofs.YtmigpeaiepdmbaaW.PrintLast
