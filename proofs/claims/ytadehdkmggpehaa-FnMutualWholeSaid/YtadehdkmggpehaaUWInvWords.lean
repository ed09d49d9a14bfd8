import Derived.Test.YtadehdkmggpehaaUWInv
import Derived.Test.YtadehdkmggpehaaUWFootNe
namespace Go.Proofs.YtadehdkmggpehaaW.PrintWords
open Go.RowKit
end Go.Proofs.YtadehdkmggpehaaW.PrintWords
namespace Go.Proofs.YtadehdkmggpehaaW.PrintLast
section
variable {ops : Array Oper} {a : Act} {o og : Oper} {g : Nat} {t : Tmp} {u : Bool}
end
end Go.Proofs.YtadehdkmggpehaaW.PrintLast

