import Derived.Test.YtfkakbpjddgmeaaHWInv
import Derived.Test.YtfkakbpjddgmeaaHWFootNe
namespace Go.Proofs.YtfkakbpjddgmeaaW.PrintWords
open Go.RowKit
end Go.Proofs.YtfkakbpjddgmeaaW.PrintWords
namespace Go.Proofs.YtfkakbpjddgmeaaW.PrintLast
section
variable {ops : Array Oper} {a : Act} {o og : Oper} {g : Nat} {t : Tmp} {u : Bool}
end
end Go.Proofs.YtfkakbpjddgmeaaW.PrintLast

