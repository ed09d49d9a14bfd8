import Derived.Test.YtjnmfadnkbflfaaPWInv
import Derived.Test.YtjnmfadnkbflfaaPWFootNe
namespace Go.Proofs.YtjnmfadnkbflfaaW.PrintWords
open Go.RowKit
end Go.Proofs.YtjnmfadnkbflfaaW.PrintWords
namespace Go.Proofs.YtjnmfadnkbflfaaW.PrintLast
section
variable {ops : Array Oper} {a : Act} {o og : Oper} {g : Nat} {t : Tmp} {u : Bool}
end
end Go.Proofs.YtjnmfadnkbflfaaW.PrintLast

