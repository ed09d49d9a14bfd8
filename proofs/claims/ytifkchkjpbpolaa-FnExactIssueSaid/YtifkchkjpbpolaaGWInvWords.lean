import Derived.Test.YtifkchkjpbpolaaGWInv
import Derived.Test.YtifkchkjpbpolaaGWFootNe
namespace Go.Proofs.YtifkchkjpbpolaaW.PrintWords
open Go.RowKit
end Go.Proofs.YtifkchkjpbpolaaW.PrintWords
namespace Go.Proofs.YtifkchkjpbpolaaW.PrintLast
section
variable {ops : Array Oper} {a : Act} {o og : Oper} {g : Nat} {t : Tmp} {u : Bool}
end
end Go.Proofs.YtifkchkjpbpolaaW.PrintLast

