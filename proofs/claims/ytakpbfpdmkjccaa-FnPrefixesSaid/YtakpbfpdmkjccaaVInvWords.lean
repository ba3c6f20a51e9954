/- Words of the walks: what our texts name. -/
import Derived.Test.YtakpbfpdmkjccaaVInv
import Derived.Test.YtakpbfpdmkjccaaVFootNe
namespace Go.Proofs.YtakpbfpdmkjccaaW.PrintWords
open Go.RowKit
end Go.Proofs.YtakpbfpdmkjccaaW.PrintWords
namespace Go.Proofs.YtakpbfpdmkjccaaW.PrintLast
section
variable {ops : Array Oper} {a : Act} {o og : Oper} {g : Nat} {t : Tmp} {u : Bool}
end
end Go.Proofs.YtakpbfpdmkjccaaW.PrintLast
