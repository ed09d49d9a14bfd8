import Derived.Test.YtnbecbgpefmcoaaVWInv
import Derived.Test.YtnbecbgpefmcoaaVWFootNe
namespace Go.Proofs.YtnbecbgpefmcoaaW.PrintWords
open Go.RowKit
end Go.Proofs.YtnbecbgpefmcoaaW.PrintWords
namespace Go.Proofs.YtnbecbgpefmcoaaW.PrintLast
section
variable {ops : Array Oper} {a : Act} {o og : Oper} {g : Nat} {t : Tmp} {u : Bool}
end
end Go.Proofs.YtnbecbgpefmcoaaW.PrintLast

