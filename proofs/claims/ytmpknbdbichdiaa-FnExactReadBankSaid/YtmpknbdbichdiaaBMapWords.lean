import Derived.Maps.OwnSet
import Derived.Maps.OwnOps
import Derived.Maps.RangeWalk
import Derived.WideKeyEntry
import Derived.WideKeyPair
import Derived.DeepKeys4
import Derived.Test.YtmpknbdbichdiaaBWMore
import Derived.Test.YtmpknbdbichdiaaBWAt
import Derived.Test.YtmpknbdbichdiaaBWLast
import Derived.Test.YtmpknbdbichdiaaBWShare
import Derived.Test.YtmpknbdbichdiaaBWKept
set_option linter.unusedVariables false
set_option linter.unusedSimpArgs false
namespace Go.Proofs.Ytmpknbdbichdiaa.MapWords
open Go Go.RowKit Go.Proofs.YtmpknbdbichdiaaW.PrintWords Go.Proofs.YtmpknbdbichdiaaW.PrintLast Go.Proofs.YtmpknbdbichdiaaW.PrintMore
open Go.Maps (Keyed)
open Go.ChangeMaps
structure MK (κ ε : Type) [DecidableEq κ] where
  P : Program
  t : Nat
  k : Nat
  e : Nat
  law : Keyed P k
  ut : P.underlying t = some (.map k e)
  encK : κ → Value
  litK : κ → Lit
  okK : κ → Prop
  key : ∀ x, okK x → keyOf P k (encK x) = some (litK x)
  inj : ∀ x y, okK x → okK y → litK x = litK y → x = y
  isk : ∀ x, WideAt.IsKeyLit (litK x)
  encE : ε → Value
  datE : ε → DataW Unit
  okE : ε → Prop
  zE : ε
  okz : okE zE
  elem : ∀ x, okE x → plainElem P e (encE x) = some (datE x, [])
  einv : ∀ v z, plainElem (H := Unit) P e v = some z → ∃ x, v = encE x ∧ z = (datE x, []) ∧ okE x
  einj : ∀ x y, datE x = datE y → x = y
  zero : ∀ w, (zeroValue e).run P w = .ok (encE zE) w
  E : List Nat := []
def mget {κ ε : Type} [DecidableEq κ] (z : ε) : List (κ × ε) → κ → ε
  | [], _ => z
  | (k', v) :: r, k => if k' = k then v else mget z r k
def mhas {κ ε : Type} [DecidableEq κ] : List (κ × ε) → κ → Bool
  | [], _ => false
  | (k', _) :: r, k => if k' = k then true else mhas r k
def YK {κ ε : Type} [DecidableEq κ] (m : MK κ ε) (D : DataW Unit) (xs : List (κ × ε)) : Prop :=
  (∀ x, m.okK x → D.atKey (m.litK x) (m.datE m.zE) = m.datE (mget m.zE xs x) ∧ Maps.has D (m.litK x) = mhas xs x) ∧ (∀ p ∈ xs, m.okK p.1) ∧ ∀ kl, Maps.has D kl = true → ∃ x, m.okK x ∧ kl = m.litK x
namespace Kd
section
variable {κ ε : Type} [DecidableEq κ]
def Y (m : MK κ ε) (_t : Nat) (w : World) (base : Nat) (ok : Nat → Prop) (v : Value) (xs : List (κ × ε)) : Prop :=
  ∃ b D, v = .map (some b) ∧ ok b ∧ base ≤ b ∧ w.ownsMap m.P m.k (plainElem (H := Unit) m.P m.e) b xs.length D ∧ YK m D xs
variable {m : MK κ ε} {e : Nat} {w w1 : World} {base : Nat} {ok ok' : Nat → Prop} {u v : Value} {xs : List (κ × ε)}
end
section
variable {κ ε : Type} [DecidableEq κ] {m : MK κ ε} {e : Nat} {base : Nat} {ok : Nat → Prop} {u v : Value} {xs : List (κ × ε)}
variable {P : Program} {ops : Array Oper} {rest : List Oper} {o : Oper} {a : Act} {Q : Exit → Act → World → Prop} {W : World}
end
end Kd
section
variable {κ ε : Type} [DecidableEq κ] {m : MK κ ε} {P : Program} {ops : Array Oper} {rest : List Oper} {o : Oper} {a : Act} {Q : Exit → Act → World → Prop} {W : World}
end
section
variable {κ : Type} [DecidableEq κ] {m : MK κ Int} {w : World} {v : Value} {xs : List (κ × Int)} {r : Nat} {left : Lit → Bool} {cnt : Nat}
end
end Go.Proofs.Ytmpknbdbichdiaa.MapWords

