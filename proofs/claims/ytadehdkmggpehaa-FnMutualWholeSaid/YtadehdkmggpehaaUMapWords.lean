import Derived.Maps.OwnSet
import Derived.Maps.OwnOps
import Derived.Maps.RangeWalk
import Derived.WideKeyEntry
import Derived.WideKeyPair
import Derived.DeepKeys4
import Derived.Test.YtadehdkmggpehaaUWMore
import Derived.Test.YtadehdkmggpehaaUWAt
import Derived.Test.YtadehdkmggpehaaUWLast
import Derived.Test.YtadehdkmggpehaaUWShare
import Derived.Test.YtadehdkmggpehaaUWKept
set_option linter.unusedVariables false
set_option linter.unusedSimpArgs false
namespace Go.Proofs.Ytadehdkmggpehaa.MapWords
open Go Go.RowKit Go.Proofs.YtadehdkmggpehaaW.PrintWords Go.Proofs.YtadehdkmggpehaaW.PrintLast Go.Proofs.YtadehdkmggpehaaW.PrintMore
open Go.Maps (Keyed)
open Go.ChangeMaps
structure MK (κ ε : Type) [DecidableEq κ] where
  P : Program
  t : Nat
  k : Nat
  e : Nat
  law : Keyed P k
  ut : P.underlying t = some (.map k e)
  encK : κ → Value
  litK : κ → Lit
  okK : κ → Prop
  key : ∀ x, okK x → keyOf P k (encK x) = some (litK x)
  inj : ∀ x y, okK x → okK y → litK x = litK y → x = y
  isk : ∀ x, WideAt.IsKeyLit (litK x)
  encE : ε → Value
  datE : ε → DataW Unit
  okE : ε → Prop
  zE : ε
  okz : okE zE
  elem : ∀ x, okE x → plainElem P e (encE x) = some (datE x, [])
  einv : ∀ v z, plainElem (H := Unit) P e v = some z → ∃ x, v = encE x ∧ z = (datE x, []) ∧ okE x
  einj : ∀ x y, datE x = datE y → x = y
  zero : ∀ w, (zeroValue e).run P w = .ok (encE zE) w
  E : List Nat := []
namespace Kd
section
variable {κ ε : Type} [DecidableEq κ]
variable {m : MK κ ε} {e : Nat} {w w1 : World} {base : Nat} {ok ok' : Nat → Prop} {u v : Value} {xs : List (κ × ε)}
end
section
variable {κ ε : Type} [DecidableEq κ] {m : MK κ ε} {e : Nat} {base : Nat} {ok : Nat → Prop} {u v : Value} {xs : List (κ × ε)}
variable {P : Program} {ops : Array Oper} {rest : List Oper} {o : Oper} {a : Act} {Q : Exit → Act → World → Prop} {W : World}
end
end Kd
section
variable {κ ε : Type} [DecidableEq κ] {m : MK κ ε} {P : Program} {ops : Array Oper} {rest : List Oper} {o : Oper} {a : Act} {Q : Exit → Act → World → Prop} {W : World}
end
section
variable {κ : Type} [DecidableEq κ] {m : MK κ Int} {w : World} {v : Value} {xs : List (κ × Int)} {r : Nat} {left : Lit → Bool} {cnt : Nat}
end
end Go.Proofs.Ytadehdkmggpehaa.MapWords

