/- Words of the walks: what our texts name. -/
import Derived.Test.YtockllljeeakaaaDoorVWords
namespace Go.Proofs.YtockllljeeakaaaDoorW.PrintWords
open Go.RowKit
section
variable {P : Program} {ops : Array Oper} {rest : List Oper} {o : Oper} {a : Act} {Q : Exit → Act → World → Prop} {W : World}
end
end Go.Proofs.YtockllljeeakaaaDoorW.PrintWords
