import Derived.Test.YtmpknbdbichdiaaLWInv
import Derived.Test.YtmpknbdbichdiaaLWFootNe
namespace Go.Proofs.YtmpknbdbichdiaaW.PrintWords
open Go.RowKit
end Go.Proofs.YtmpknbdbichdiaaW.PrintWords
namespace Go.Proofs.YtmpknbdbichdiaaW.PrintLast
section
variable {ops : Array Oper} {a : Act} {o og : Oper} {g : Nat} {t : Tmp} {u : Bool}
end
end Go.Proofs.YtmpknbdbichdiaaW.PrintLast

