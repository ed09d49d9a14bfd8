import Derived.Test.YtmpknbdbichdiaaBWInv
import Derived.Test.YtmpknbdbichdiaaBWFootNe
namespace Go.Proofs.YtmpknbdbichdiaaW.PrintWords
open Go.RowKit
end Go.Proofs.YtmpknbdbichdiaaW.PrintWords
namespace Go.Proofs.YtmpknbdbichdiaaW.PrintLast
section
variable {ops : Array Oper} {a : Act} {o og : Oper} {g : Nat} {t : Tmp} {u : Bool}
end
end Go.Proofs.YtmpknbdbichdiaaW.PrintLast

