import Derived.Lib.OthersKept
import Derived.WalkMore
import Derived.Test.YtobbemdkipknnaaXMapWords
set_option linter.unusedVariables false
set_option linter.unusedSimpArgs false
namespace Go.Proofs.Ytobbemdkipknnaa.IterWords
open Go Go.RowKit Go.Proofs.YtobbemdkipknnaaW.PrintWords Go.Proofs.YtobbemdkipknnaaW.PrintLast Go.Proofs.YtobbemdkipknnaaW.PrintMore Go.Proofs.Ytobbemdkipknnaa.MapWords Go.Lib
section
variable {P : Program} {ops : Array Oper} {rest : List Oper} {o : Oper} {a : Act} {Q : Exit → Act → World → Prop} {W : World}
end
namespace Kd
section
variable {α : Type} {d : Kd α} {e g p : Nat} {s : ByteArray} {w w1 : World} {base : Nat} {ok : Nat → Prop} {v : Value} {xs : List α}
end
section
variable {κ ε : Type} [DecidableEq κ] {m : MK κ ε} {e g p : Nat} {s : ByteArray} {w w1 : World} {base : Nat} {ok : Nat → Prop} {v : Value} {xs : List (κ × ε)}
end
end Kd
end Go.Proofs.Ytobbemdkipknnaa.IterWords

