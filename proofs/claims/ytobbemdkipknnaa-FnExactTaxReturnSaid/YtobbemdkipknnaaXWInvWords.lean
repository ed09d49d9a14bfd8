import Derived.Test.YtobbemdkipknnaaXWInv
import Derived.Test.YtobbemdkipknnaaXWFootNe
namespace Go.Proofs.YtobbemdkipknnaaW.PrintWords
open Go.RowKit
end Go.Proofs.YtobbemdkipknnaaW.PrintWords
namespace Go.Proofs.YtobbemdkipknnaaW.PrintLast
section
variable {ops : Array Oper} {a : Act} {o og : Oper} {g : Nat} {t : Tmp} {u : Bool}
end
end Go.Proofs.YtobbemdkipknnaaW.PrintLast

