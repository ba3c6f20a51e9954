/- Words of the walks: what our texts name. -/
import Derived.Test.YtockllljeeakaaaDoorVTab
namespace Go.Proofs.YtockllljeeakaaaDoorW.PrintLast
section
variable {P : Program} {ops : Array Oper} {Q : Exit → Act → World → Prop} {md : Region.Mode} {S : World → Prop} {ds : List Nat} {T : Bool × List (List Nat × List Nat)}
end
end Go.Proofs.YtockllljeeakaaaDoorW.PrintLast
