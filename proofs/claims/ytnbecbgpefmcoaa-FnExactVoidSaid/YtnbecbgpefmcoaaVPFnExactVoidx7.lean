import Derived.Test.YtnbecbgpefmcoaaVPFnExactVoidx0
import Derived.Test.YtnbecbgpefmcoaaVPFnExactVoidx6
import Derived.Test.YtnbecbgpefmcoaaVSlimWords
namespace Go.Proofs.Ytnbecbgpefmcoaa.PFnExactVoid
open Go.Proofs.Ytnbecbgpefmcoaa.SlimWords
open Go.RowKit Go.Proofs.YtnbecbgpefmcoaaW.PrintWords Go.Proofs.YtnbecbgpefmcoaaW.PrintLast Go.Proofs.YtnbecbgpefmcoaaW.PrintMore Go.Proofs.Ytnbecbgpefmcoaa.MapWords
attribute [local go_sem] max2_int min2_int max_two min_two max_three min_three max_four min_four
set_option linter.unusedVariables false
set_option linter.unusedSimpArgs false
private abbrev I' := true
private abbrev O' := false
private abbrev L0' : Array Bool := #[O',O',O',O',O',O',O',O',O',O',O',O',O',O',O',O',O',O',O',O',O',O',O',O',O',O',O',O',O',O',O',O',O',O',O',O',O',O',O',O',O',O',O',O',O',O',O',O',O']
private abbrev L1' : Array Bool := #[I',O',O',O',O',O',O',O',O',O',O',O',O',O',O',O',O',O',O',O',O',O',O',O',O',O',O',O',O',O',O',O',O',O',O',O',O',O',O',O',O',O',O',O',O',O',O',O',O']
private abbrev L2' : Array Bool := #[I',I',O',O',O',O',O',O',O',O',O',O',O',O',O',O',O',O',O',O',O',O',O',O',O',O',O',O',O',O',O',O',O',O',O',O',O',O',O',O',O',O',O',O',O',O',O',O',O']
private abbrev L3' : Array Bool := #[I',I',I',O',O',O',O',O',O',O',O',O',O',O',O',O',O',O',O',O',O',O',O',O',O',O',O',O',O',O',O',O',O',O',O',O',O',O',O',O',O',O',O',O',O',O',O',O',O']
private abbrev L4' : Array Bool := #[I',I',I',I',O',O',O',O',O',O',O',O',O',O',O',O',O',O',O',O',O',O',O',O',O',O',O',O',O',O',O',O',O',O',O',O',O',O',O',O',O',O',O',O',O',O',O',O',O']
private abbrev L5' : Array Bool := #[I',I',I',I',I',O',O',O',O',O',O',O',O',O',O',O',O',O',O',O',O',O',O',O',O',O',O',O',O',O',O',O',O',O',O',O',O',O',O',O',O',O',O',O',O',O',O',O',O']
private abbrev L6' : Array Bool := #[I',I',I',I',I',I',O',O',O',O',O',O',O',O',O',O',O',O',O',O',O',O',O',O',O',O',O',O',O',O',O',O',O',O',O',O',O',O',O',O',O',O',O',O',O',O',O',O',O']
private abbrev L7' : Array Bool := #[I',I',I',I',I',I',I',O',O',O',O',O',O',O',O',O',O',O',O',O',O',O',O',O',O',O',O',O',O',O',O',O',O',O',O',O',O',O',O',O',O',O',O',O',O',O',O',O',O']
private abbrev L8' : Array Bool := #[I',I',I',I',I',I',I',I',O',O',O',O',O',O',O',O',O',O',O',O',O',O',O',O',O',O',O',O',O',O',O',O',O',O',O',O',O',O',O',O',O',O',O',O',O',O',O',O',O']
private abbrev L9' : Array Bool := #[I',I',I',I',I',I',I',I',I',O',O',O',O',O',O',O',O',O',O',O',O',O',O',O',O',O',O',O',O',O',O',O',O',O',O',O',O',O',O',O',O',O',O',O',O',O',O',O',O']
private abbrev L10' : Array Bool := #[I',I',I',I',I',I',I',I',I',I',O',O',O',O',O',O',O',O',O',O',O',O',O',O',O',O',O',O',O',O',O',O',O',O',O',O',O',O',O',O',O',O',O',O',O',O',O',O',O']
private abbrev L11' : Array Bool := #[I',I',I',I',I',I',I',I',I',I',I',O',O',O',O',O',O',O',O',O',O',O',O',O',O',O',O',O',O',O',O',O',O',O',O',O',O',O',O',O',O',O',O',O',O',O',O',O',O']
private abbrev L12' : Array Bool := #[I',I',I',I',I',I',I',I',I',I',I',I',O',O',O',O',O',O',O',O',O',O',O',O',O',O',O',O',O',O',O',O',O',O',O',O',O',O',O',O',O',O',O',O',O',O',O',O',O']
private abbrev L13' : Array Bool := #[I',I',I',I',I',I',I',I',I',I',I',I',I',O',O',O',O',O',O',O',O',O',O',O',O',O',O',O',O',O',O',O',O',O',O',O',O',O',O',O',O',O',O',O',O',O',O',O',O']
private abbrev L14' : Array Bool := #[I',I',I',I',I',I',I',I',I',I',I',I',I',I',O',O',O',O',O',O',O',O',O',O',O',O',O',O',O',O',O',O',O',O',O',O',O',O',O',O',O',O',O',O',O',O',O',O',O']
private abbrev L15' : Array Bool := #[I',I',I',I',I',I',I',I',I',I',I',I',I',I',I',O',O',O',O',O',O',O',O',O',O',O',O',O',O',O',O',O',O',O',O',O',O',O',O',O',O',O',O',O',O',O',O',O',O']
private abbrev L16' : Array Bool := #[I',I',I',I',I',I',I',I',I',I',I',I',I',I',I',I',O',O',O',O',O',O',O',O',O',O',O',O',O',O',O',O',O',O',O',O',O',O',O',O',O',O',O',O',O',O',O',O',O']
private abbrev L17' : Array Bool := #[I',I',I',I',I',I',I',I',I',I',I',I',I',I',I',I',I',O',O',O',O',O',O',O',O',O',O',O',O',O',O',O',O',O',O',O',O',O',O',O',O',O',O',O',O',O',O',O',O']
private abbrev L18' : Array Bool := #[I',I',I',I',I',I',I',I',I',I',I',I',I',I',I',I',I',I',O',O',O',O',O',O',O',O',O',O',O',O',O',O',O',O',O',O',O',O',O',O',O',O',O',O',O',O',O',O',O']
private abbrev L19' : Array Bool := #[I',I',I',I',I',I',I',I',I',I',I',I',I',I',I',I',I',I',I',O',O',O',O',O',O',O',O',O',O',O',O',O',O',O',O',O',O',O',O',O',O',O',O',O',O',O',O',O',O']
private abbrev L20' : Array Bool := #[I',I',I',I',I',I',I',I',I',I',I',I',I',I',I',I',I',I',I',I',O',O',O',O',O',O',O',O',O',O',O',O',O',O',O',O',O',O',O',O',O',O',O',O',O',O',O',O',O']
private abbrev L21' : Array Bool := #[I',I',I',I',I',I',I',I',I',I',I',I',I',I',I',I',I',I',I',I',I',O',O',O',O',O',O',O',O',O',O',O',O',O',O',O',O',O',O',O',O',O',O',O',O',O',O',O',O']
private abbrev L22' : Array Bool := #[I',I',I',I',I',I',I',I',I',I',I',I',I',I',I',I',I',I',I',I',I',I',O',O',O',O',O',O',O',O',O',O',O',O',O',O',O',O',O',O',O',O',O',O',O',O',O',O',O']
private abbrev L23' : Array Bool := #[I',I',I',I',I',I',I',I',I',I',I',I',I',I',I',I',I',I',I',I',I',I',I',O',O',O',O',O',O',O',O',O',O',O',O',O',O',O',O',O',O',O',O',O',O',O',O',O',O']
private abbrev L24' : Array Bool := #[I',I',I',I',I',I',I',I',I',I',I',I',I',I',I',I',I',I',I',I',I',I',I',I',O',O',O',O',O',O',O',O',O',O',O',O',O',O',O',O',O',O',O',O',O',O',O',O',O']
private abbrev L25' : Array Bool := #[I',I',I',I',I',I',I',I',I',I',I',I',I',I',I',I',I',I',I',I',I',I',I',I',I',O',O',O',O',O',O',O',O',O',O',O',O',O',O',O',O',O',O',O',O',O',O',O',O']
private abbrev L26' : Array Bool := #[I',I',I',I',I',I',I',I',I',I',I',I',I',I',I',I',I',I',I',I',I',I',I',I',I',I',O',O',O',O',O',O',O',O',O',O',O',O',O',O',O',O',O',O',O',O',O',O',O']
private abbrev L27' : Array Bool := #[I',I',I',I',I',I',I',I',I',I',I',I',I',I',I',I',I',I',I',I',I',I',I',I',I',I',I',O',O',O',O',O',O',O',O',O',O',O',O',O',O',O',O',O',O',O',O',O',O']
private abbrev L28' : Array Bool := #[I',I',I',I',I',I',I',I',I',I',I',I',I',I',I',I',I',I',I',I',I',I',I',I',I',I',I',I',O',O',O',O',O',O',O',O',O',O',O',O',O',O',O',O',O',O',O',O',O']
private abbrev L29' : Array Bool := #[I',I',I',I',I',I',I',I',I',I',I',I',I',I',I',I',I',I',I',I',I',I',I',I',I',I',I',I',I',O',O',O',O',O',O',O',O',O',O',O',O',O',O',O',O',O',O',O',O']
private abbrev L30' : Array Bool := #[I',I',I',I',I',I',I',I',I',I',I',I',I',I',I',I',I',I',I',I',I',I',I',I',I',I',I',I',I',I',O',O',O',O',O',O',O',O',O',O',O',O',O',O',O',O',O',O',O']
private abbrev L31' : Array Bool := #[I',I',I',I',I',I',I',I',I',I',I',I',I',I',I',I',I',I',I',I',I',I',I',I',I',I',I',I',I',I',I',O',O',O',O',O',O',O',O',O',O',O',O',O',O',O',O',O',O']
private abbrev L32' : Array Bool := #[I',I',I',I',I',I',I',I',I',I',I',I',I',I',I',I',I',I',I',I',I',I',I',I',I',I',I',I',I',I',I',I',O',O',O',O',O',O',O',O',O',O',O',O',O',O',O',O',O']
private abbrev L33' : Array Bool := #[I',I',I',I',I',I',I',I',I',I',I',I',I',I',I',I',I',I',I',I',I',I',I',I',I',I',I',I',I',I',I',I',I',O',O',O',O',O',O',O',O',O',O',O',O',O',O',O',O']
private abbrev L34' : Array Bool := #[I',I',I',I',I',I',I',I',I',I',I',I',I',I',I',I',I',I',I',I',I',I',I',I',I',I',I',I',I',I',I',I',I',I',O',O',O',O',O',O',O',O',O',O',O',O',O',O',O']
private abbrev L35' : Array Bool := #[I',I',I',I',I',I',I',I',I',I',I',I',I',I',I',I',I',I',I',I',I',I',I',I',I',I',I',I',I',I',I',I',I',I',I',O',O',O',O',O',O',O',O',O',O',O',O',O',O']
private abbrev L36' : Array Bool := #[I',I',I',I',I',I',I',I',I',I',I',I',I',I',I',I',I',I',I',I',I',I',I',I',I',I',I',I',I',I',I',I',I',I',I',I',O',O',O',O',O',O',O',O',O',O',O',O',O']
private abbrev L37' : Array Bool := #[I',I',I',I',I',I',I',I',I',I',I',I',I',I',I',I',I',I',I',I',I',I',I',I',I',I',I',I',I',I',I',I',I',I',I',I',I',O',O',O',O',O',O',O',O',O',O',O',O']
private abbrev L38' : Array Bool := #[I',I',I',I',I',I',I',I',I',I',I',I',I',I',I',I',I',I',I',I',I',I',I',I',I',I',I',I',I',I',I',I',I',I',I',I',I',I',O',O',O',O',O',O',O',O',O',O',O']
private abbrev L39' : Array Bool := #[I',I',I',I',I',I',I',I',I',I',I',I',I',I',I',I',I',I',I',I',I',I',I',I',I',I',I',I',I',I',I',I',I',I',I',I',I',I',I',O',O',O',O',O',O',O',O',O',O']
private abbrev L40' : Array Bool := #[I',I',I',I',I',I',I',I',I',I',I',I',I',I',I',I',I',I',I',I',I',I',I',I',I',I',I',I',I',I',I',I',I',I',I',I',I',I',I',I',O',O',O',O',O',O',O',O',O']
private abbrev L41' : Array Bool := #[I',I',I',I',I',I',I',I',I',I',I',I',I',I',I',I',I',I',I',I',I',I',I',I',I',I',I',I',I',I',I',I',I',I',I',I',I',I',I',I',I',O',O',O',O',O',O',O',O']
private abbrev L42' : Array Bool := #[I',I',I',I',I',I',I',I',I',I',I',I',I',I',I',I',I',I',I',I',I',I',I',I',I',I',I',I',I',I',I',I',I',I',I',I',I',I',I',I',I',I',O',O',O',O',O',O',O']
private abbrev L43' : Array Bool := #[I',I',I',I',I',I',I',I',I',I',I',I',I',I',I',I',I',I',I',I',I',I',I',I',I',I',I',I',I',I',I',I',I',I',I',I',I',I',I',I',I',I',I',O',O',O',O',O',O']
private abbrev L44' : Array Bool := #[I',I',I',I',I',I',I',I',I',I',I',I',I',I',I',I',I',I',I',I',I',I',I',I',I',I',I',I',I',I',I',I',I',I',I',I',I',I',I',I',I',I',I',I',O',O',O',O',O']
private abbrev L45' : Array Bool := #[I',I',I',I',I',I',I',I',I',I',I',I',I',I',I',I',I',I',I',I',I',I',I',I',I',I',I',I',I',I',I',I',I',I',I',I',I',I',I',I',I',I',I',I',I',O',O',O',O']
private abbrev L46' : Array Bool := #[I',I',I',I',I',I',I',I',I',I',I',I',I',I',I',I',I',I',I',I',I',I',I',I',I',I',I',I',I',I',I',I',I',I',I',I',I',I',I',I',I',I',I',I',I',I',O',O',O']
private abbrev L47' : Array Bool := #[I',I',I',I',I',I',I',I',I',I',I',I',I',I',I',I',I',I',I',I',I',I',I',I',I',I',I',I',I',I',I',I',I',I',I',I',I',I',I',I',I',I',I',I',I',I',I',O',O']
private abbrev L48' : Array Bool := #[I',I',I',I',I',I',I',I',I',I',I',I',I',I',I',I',I',I',I',I',I',I',I',I',I',I',I',I',I',I',I',I',I',I',I',I',I',I',I',I',I',I',I',I',I',I',I',I',O']
private abbrev L49' : Array Bool := #[I',I',I',I',I',I',I',I',I',I',I',I',I',I',I',I',I',I',I',I',I',I',I',I',I',I',I',I',I',I',I',I',I',I',I',I',I',I',I',I',I',I',I',I',I',I',I',I',I']
private abbrev L50' : Array Bool := #[I',I',I',I',I',O',I',O',O',O',O',O',O',O',O',O',O',O',O',O',O',O',O',O',O',O',O',O',O',O',O',O',O',O',O',O',O',O',O',O',O',O',O',O',O',O',O',O',O']
private abbrev L51' : Array Bool := #[I',I',I',I',I',I',I',I',I',I',I',I',I',O',I',O',O',O',O',O',O',O',O',O',O',O',O',O',O',O',O',O',O',O',O',O',O',O',O',O',O',O',O',O',O',O',O',O',O']
private abbrev L52' : Array Bool := #[I',I',I',I',I',I',I',I',I',I',I',I',I',O',I',I',O',O',O',O',O',O',O',O',O',O',O',O',O',O',O',O',O',O',O',O',O',O',O',O',O',O',O',O',O',O',O',O',O']
private abbrev L53' : Array Bool := #[I',I',I',I',I',I',I',I',I',I',I',I',I',I',I',I',I',I',I',I',I',I',I',O',O',I',O',O',O',O',O',O',O',O',O',O',O',O',O',O',O',O',O',O',O',O',O',O',O']
private abbrev L54' : Array Bool := #[I',I',I',I',I',I',I',I',I',I',I',I',I',I',I',I',I',I',I',I',I',I',I',O',O',I',O',I',O',O',O',O',O',O',O',O',O',O',O',O',O',O',O',O',O',O',O',O',O']
private abbrev L55' : Array Bool := #[I',I',I',I',I',I',I',I',I',I',I',I',I',I',I',I',I',I',I',I',I',I',I',I',O',I',O',I',O',O',O',O',O',O',O',O',O',O',O',O',O',O',O',O',O',O',O',O',O']
private abbrev L56' : Array Bool := #[I',I',I',I',I',I',I',I',I',I',I',I',I',I',I',I',I',I',I',I',I',I',I',I',O',I',I',I',O',O',O',O',O',O',O',O',O',O',O',O',O',O',O',O',O',O',O',O',O']
private abbrev L57' : Array Bool := #[I',I',I',I',I',I',I',I',I',I',I',I',I',I',I',I',I',I',I',I',I',I',I',I',O',I',I',I',I',O',O',O',O',O',O',O',O',O',O',O',O',O',O',O',O',O',O',O',O']
private abbrev L58' : Array Bool := #[I',I',I',I',I',I',I',I',I',I',I',I',I',I',I',I',I',I',I',I',I',I',I',I',O',I',I',I',I',I',O',O',O',O',O',O',O',O',O',O',O',O',O',O',O',O',O',O',O']
private abbrev L59' : Array Bool := #[I',I',I',I',I',I',I',I',I',I',I',I',I',I',I',I',I',I',I',I',I',I',I',I',O',I',I',I',I',I',I',O',O',O',O',O',O',O',O',O',O',O',O',O',O',O',O',O',O']
private abbrev L60' : Array Bool := #[I',I',I',I',I',I',I',I',I',I',I',I',I',I',I',I',I',I',I',I',I',I',I',I',O',I',I',I',I',I',I',I',O',O',O',O',O',O',O',O',O',O',O',O',O',O',O',O',O']
private abbrev L61' : Array Bool := #[I',I',I',I',I',I',I',I',I',I',I',I',I',I',I',I',I',I',I',I',I',I',I',I',I',I',I',I',I',I',I',I',I',I',I',I',I',I',I',I',I',I',O',I',O',O',O',O',O']
private abbrev L62' : Array Bool := #[I',I',I',I',I',I',I',I',I',I',I',I',I',I',I',I',I',I',I',I',I',I',I',I',I',I',I',I',I',I',I',I',I',I',I',I',I',I',I',I',I',I',O',I',I',O',O',O',O']
mutual
def impl_RegisterOk.j0 : Nat → Bool → List (S304) → List (S230) → Option (Bool)
  | 0, _, _, _ => none
  | k + 1, x19, x195000, x195001 => if x19 = true then (some false) else (impl_RegisterOk.l0 k (([] : List ((ByteArray × Bool)))) x195000 (x195000.length : Int) 0 x195000 x195001)
def impl_RegisterOk.l0 : Nat → List ((ByteArray × Bool)) → List (S304) → Int → Int → List (S304) → List (S230) → Option (Bool)
  | 0, _, _, _, _, _, _ => none
  | k + 1, x3, x22, x23, x24, x195000, x195001 => if x24 < x23 then (if 0 ≤ x24 then (if x24 < (x22.length : Int) then ((impl_NameOk.f k ((rd_T304 x22 x24).f0)).bind fun t200 => (if t200 = true then ((impl_between.f ((rd_T304 x22 x24).f1) 1 8).bind fun t201 => (if t201 = true then (if ((rd_T304 x22 x24).f0).size ≤ 9223372036854775807 then (if (mget false x3 ((rd_T304 x22 x24).f0)) = true then (some false) else (if x3.length < 140737488355328 then (impl_RegisterOk.l0 k (((rd_T304 x22 x24).f0, true) :: x3) x22 x23 (wrap64 (x24 + 1)) x195000 x195001) else (none))) else (none)) else (some false))) else (some false))) else (none)) else (none)) else (impl_RegisterOk.l1 k (([] : List ((Int × Int)))) (([] : List ((Int × Int)))) x195001 (x195001.length : Int) 0 x195000 x195001)
def impl_RegisterOk.l1 : Nat → List ((Int × Int)) → List ((Int × Int)) → List (S230) → Int → Int → List (S304) → List (S230) → Option (Bool)
  | 0, _, _, _, _, _, _, _ => none
  | k + 1, x6, x7, x51, x52, x53, x195000, x195001 => if x53 < x52 then (if 0 ≤ x53 then (if x53 < (x51.length : Int) then (if ((rd_T230 x51 x53).f0) < 0 then (some false) else (if ((rd_T230 x51 x53).f0) ≥ (x195000.length : Int) then (some false) else (if -9223372036854775808 ≤ ((rd_T230 x51 x53).f0) then (if ((rd_T230 x51 x53).f0) ≤ 9223372036854775807 then (if ((rd_T230 x51 x53).f1) = (wrap64 ((mget 0 x6 ((rd_T230 x51 x53).f0)) + 1)) then ((impl_digitsIn.f k ((rd_T230 x51 x53).f1)).bind fun t213 => (if 0 ≤ ((rd_T230 x51 x53).f0) then (if ((rd_T230 x51 x53).f0) < (x195000.length : Int) then (if t213 > ((rd_T304 x195000 ((rd_T230 x51 x53).f0)).f1) then (some false) else ((impl_isDay.f ((rd_T230 x51 x53).f2)).bind fun t215 => (if t215 = true then (if ((rd_T230 x51 x53).f2) < (mget 0 x7 ((rd_T230 x51 x53).f0)) then (some false) else (if x6.length < 140737488355328 then (if -9223372036854775808 ≤ ((rd_T230 x51 x53).f2) then (if ((rd_T230 x51 x53).f2) ≤ 9223372036854775807 then (if x7.length < 140737488355328 then (impl_RegisterOk.l1 k (((rd_T230 x51 x53).f0, wrap64 ((mget 0 x6 ((rd_T230 x51 x53).f0)) + 1)) :: x6) (((rd_T230 x51 x53).f0, (rd_T230 x51 x53).f2) :: x7) x51 x52 (wrap64 (x53 + 1)) x195000 x195001) else (none)) else (none)) else (none)) else (none))) else (some false)))) else (none)) else (none))) else (some false)) else (none)) else (none)))) else (none)) else (none)) else (some true)
end
def impl_RegisterOk.f (k : Nat) (l0_0 : List (S304)) (l0_1 : List (S230)) : Option (Bool) := if (l0_0.length : Int) > 20 then (impl_RegisterOk.j0 k true l0_0 l0_1) else (impl_RegisterOk.j0 k (decide ((l0_1.length : Int) > 400)) l0_0 l0_1)
theorem impl_RegisterOk.mono_l : ∀ k, (∀ y0 y1 y2, LeO (impl_RegisterOk.j0 k y0 y1 y2) (impl_RegisterOk.j0 (k + 1) y0 y1 y2)) ∧ (∀ y0 y1 y2 y3 y4 y5, LeO (impl_RegisterOk.l0 k y0 y1 y2 y3 y4 y5) (impl_RegisterOk.l0 (k + 1) y0 y1 y2 y3 y4 y5)) ∧ (∀ y0 y1 y2 y3 y4 y5 y6, LeO (impl_RegisterOk.l1 k y0 y1 y2 y3 y4 y5 y6) (impl_RegisterOk.l1 (k + 1) y0 y1 y2 y3 y4 y5 y6))
  | 0 => ⟨fun _ _ _ r h => by simp [impl_RegisterOk.j0] at h, fun _ _ _ _ _ _ r h => by simp [impl_RegisterOk.l0] at h, fun _ _ _ _ _ _ _ r h => by simp [impl_RegisterOk.l1] at h⟩
  | k + 1 => by
    obtain ⟨ih0, ih1, ih2⟩ := impl_RegisterOk.mono_l k
    refine ⟨?_, ?_, ?_⟩
    · intro y0 y1 y2
      unfold impl_RegisterOk.j0
      repeat' first
      | (with_reducible exact ih0 _ _ _)
      | (with_reducible exact ih1 _ _ _ _ _ _)
      | (with_reducible exact ih2 _ _ _ _ _ _ _)
      | (with_reducible exact impl_NameOk.mono _ _)
      | (with_reducible exact impl_digitsIn.mono _ _)
      | (with_reducible exact LeO.refl _)
      | (with_reducible exact LeO.none _)
      | (with_reducible refine LeO.ite ?_ ?_)
      | (with_reducible refine LeO.bind ?_ (fun _ => ?_))
      | exact ih0 _ _ _
      | exact ih1 _ _ _ _ _ _
      | exact ih2 _ _ _ _ _ _ _
      | exact impl_NameOk.mono _ _
      | exact impl_digitsIn.mono _ _
      | exact LeO.none _
      | refine LeO.ite ?_ ?_
      | refine LeO.bind ?_ (fun _ => ?_)
    · intro y0 y1 y2 y3 y4 y5
      unfold impl_RegisterOk.l0
      repeat' first
      | (with_reducible exact ih0 _ _ _)
      | (with_reducible exact ih1 _ _ _ _ _ _)
      | (with_reducible exact ih2 _ _ _ _ _ _ _)
      | (with_reducible exact impl_NameOk.mono _ _)
      | (with_reducible exact impl_digitsIn.mono _ _)
      | (with_reducible exact LeO.refl _)
      | (with_reducible exact LeO.none _)
      | (with_reducible refine LeO.ite ?_ ?_)
      | (with_reducible refine LeO.bind ?_ (fun _ => ?_))
      | exact ih0 _ _ _
      | exact ih1 _ _ _ _ _ _
      | exact ih2 _ _ _ _ _ _ _
      | exact impl_NameOk.mono _ _
      | exact impl_digitsIn.mono _ _
      | exact LeO.none _
      | refine LeO.ite ?_ ?_
      | refine LeO.bind ?_ (fun _ => ?_)
    · intro y0 y1 y2 y3 y4 y5 y6
      unfold impl_RegisterOk.l1
      repeat' first
      | (with_reducible exact ih0 _ _ _)
      | (with_reducible exact ih1 _ _ _ _ _ _)
      | (with_reducible exact ih2 _ _ _ _ _ _ _)
      | (with_reducible exact impl_NameOk.mono _ _)
      | (with_reducible exact impl_digitsIn.mono _ _)
      | (with_reducible exact LeO.refl _)
      | (with_reducible exact LeO.none _)
      | (with_reducible refine LeO.ite ?_ ?_)
      | (with_reducible refine LeO.bind ?_ (fun _ => ?_))
      | exact ih0 _ _ _
      | exact ih1 _ _ _ _ _ _
      | exact ih2 _ _ _ _ _ _ _
      | exact impl_NameOk.mono _ _
      | exact impl_digitsIn.mono _ _
      | exact LeO.none _
      | refine LeO.ite ?_ ?_
      | refine LeO.bind ?_ (fun _ => ?_)
theorem impl_RegisterOk.mono : ∀ a0 a1 k, LeO (impl_RegisterOk.f k a0 a1) (impl_RegisterOk.f (k + 1) a0 a1) := by
 intro a0 a1 k
 obtain ⟨ih0, ih1, ih2⟩ := impl_RegisterOk.mono_l k
 unfold impl_RegisterOk.f
 repeat' first
     | (with_reducible exact ih0 _ _ _)
     | (with_reducible exact ih1 _ _ _ _ _ _)
     | (with_reducible exact ih2 _ _ _ _ _ _ _)
     | (with_reducible exact impl_NameOk.mono _ _)
     | (with_reducible exact impl_digitsIn.mono _ _)
     | (with_reducible exact LeO.refl _)
     | (with_reducible exact LeO.none _)
     | (with_reducible refine LeO.ite ?_ ?_)
     | (with_reducible refine LeO.bind ?_ (fun _ => ?_))
     | exact ih0 _ _ _
     | exact ih1 _ _ _ _ _ _
     | exact ih2 _ _ _ _ _ _ _
     | exact impl_NameOk.mono _ _
     | exact impl_digitsIn.mono _ _
     | exact LeO.none _
     | refine LeO.ite ?_ ?_
     | refine LeO.bind ?_ (fun _ => ?_)
def impl_RegisterOk.T16 : Bool × List (List Nat × List Nat) := (true, [([], []), ([0], [0]), ([1], [1]), ([2], [2]), ([3], [3]), ([4, 3], [3, 4]), ([3], [3]), ([6, 3], [3, 6]), ([7, 3], [3, 7]), ([5, 8, 3], [3, 5, 8]), ([3, 9], [3, 9]), ([10, 3], [10]), ([11], [11]), ([12, 11], [11, 12]), ([11], [11]), ([11], [11]), ([15, 11], [11, 15]), ([14, 16, 11], [11, 14, 16]), ([17, 11], [11, 17]), ([13, 18, 11], [11, 13, 18]), ([11, 19], [11, 19]), ([20, 11], [20]), ([21], [21]), ([22, 21], [21, 22]), ([23, 21, 21], [21, 23]), ([21], [21]), ([25, 21], [21, 25]), ([21], [21]), ([27, 21], [21, 27]), ([26, 28, 21], [21, 26, 28]), ([29, 21], [21, 29]), ([30, 21], [21, 30]), ([24, 31, 21], [21, 24, 31]), ([21, 32], [21, 32]), ([33, 24], [33]), ([34], [34]), ([35, 34], [34, 35]), ([36, 34, 34], [34, 36]), ([37, 34], [34, 37]), ([34, 38], [34, 38]), ([39, 37], [39]), ([40], [40]), ([41, 40], [40, 41]), ([40], [40]), ([40], [40]), ([44, 40], [40, 44]), ([43, 45, 40], [40, 43, 45]), ([42, 46, 40], [40, 42, 46]), ([40, 47], [40, 47])])
def impl_RegisterOk.B16 : List Nat := [0, 1, 3, 7, 15, 31, 15, 79, 207, 511, 1023, 2047, 4095, 8191, 4095, 4095, 36863, 118783, 249855, 524287, 1048575, 2097151, 4194303, 8388607, 16777215, 4194303, 37748735, 4194303, 138412031, 507510783, 1044381695, 2118123519, 4294967295, 8589934591, 17179869183, 34359738367, 68719476735, 137438953471, 274877906943, 549755813887, 1099511627775, 2199023255551, 4398046511103, 2199023255551, 2199023255551, 19791209299967, 63771674411007, 140737488355327, 281474976710655]
theorem impl_RegisterOk.tab16 : rtab .any (opsOf Try.f152 16) = impl_RegisterOk.T16 := by kernel_rfl
theorem impl_RegisterOk.bits16 : waitsOk impl_RegisterOk.T16.2 impl_RegisterOk.B16 = true := by kernel_rfl
set_option maxHeartbeats 8000000 in
set_option maxRecDepth 100000 in
theorem impl_RegisterOk.calls (k : Nat) (A0_0 : Option Addr) (c0_0 : Nat) (l0_0 : List (S304)) (A0_1 : Option Addr) (c0_1 : Nat) (l0_1 : List (S230)) (r : Bool) (w : World) (hr0_0 : Kd.C k304 w A0_0 l0_0.length l0_0) (hc0_0 : l0_0.length ≤ c0_0) (hr0_1 : Kd.C k230 w A0_1 l0_1.length l0_1) (hc0_1 : l0_1.length ≤ c0_1) (h : impl_RegisterOk.f k l0_0 l0_1 = some r) :
    Calls Try.prog 152 #[.agg #[.slice A0_0 l0_0.length c0_0, .slice A0_1 l0_1.length c0_1]] w fun e w' => e = .returned (.bool r) ∧ Below w.heap.size w w' := by
 have hu86 := Try.underlying86
 have hu304 := Try.underlying304
 have hu230 := Try.underlying230
 have HR0_0 := Aside0.mk hr0_0
 have HC0_0 := Aside0.mk hc0_0
 clear hr0_0 hc0_0
 have HR0_1 := Aside0.mk hr0_1
 have HC0_1 := Aside0.mk hc0_1
 clear hr0_1 hc0_1
 have HB := aZ (Below.refl w.heap.size w)
 have H : (if (l0_0.length : Int) > 20 then (impl_RegisterOk.j0 k true l0_0 l0_1) else (impl_RegisterOk.j0 k (decide ((l0_1.length : Int) > 400)) l0_0 l0_1)) = some r := h
 clear h
 have HC2 := Aside0.mk H
 clear H
 go_enter Try.func152, Try.ntmps152
 go_upto_region 1 with (first | ((with_reducible refine gate_dst (N := 1) rfl ?_); (try (refine gate_guard (by rfl) ?_; dsimp only)); refine box_event ?hg (N := 1) ?hd (cs := #[.slice A0_0 l0_0.length c0_0, .slice A0_1 l0_1.length c0_1]) (t := 86) ?hr ?_; (case hd => rfl); (case hg => rfl); (case hr => first | (go_simp; done) | (go_simp; rfl)); intro gb194 hg w3 hbox hb; have BK194 := aZ (hbox); have GW194 := aZ ((by rw [hg]; exact (below_size (lZB HB.out)) : w.heap.size ≤ gb194)); have GE194 := aZ ((by rw [hg]; exact (below_size (lZB HB.out)) : w.heap.size ≤ gb194)); replace HB := aZ (below_step (lZB HB.out) hb); clear hb hbox hg))
 (try simp only [Act.put, sZ1, sZ2, sZ3])
 go_cut [19] (fun v19 wc => ∃ (kq : Nat) (x19_1 : Bool), v19 = .bool x19_1 ∧ Aside0 (impl_RegisterOk.j0 kq x19_1 l0_0 l0_1 = some r) ∧ Aside0 (kq ≤ k) ∧ Aside0 (wc.heap[gb194]? = some (.cells #[(.slice A0_0 l0_0.length c0_0), (.slice A0_1 l0_1.length c0_1)] 86 (0, 0))) ∧ Aside0 (Below w.heap.size w wc))
 case first =>
  have H := HC2.out
  clear HC2
  by_cases c4 : (l0_0.length : Int) > 20
  ·rw [if_pos c4] at H
   have c4b0 : decide (20 < (l0_0.length : Int)) = true := decide_eq_true c4
   have c4b1 : decide (20 < l0_0.length) = true := decide_eq_true (by omega)
   clear c4
   (first | rw [c4b0] | (simp only [i64_w, i32_w]; rw [c4b0]) | skip)
   have H' := Aside0.mk H
   clear H
   have hcz5_0 : w3.cell? ⟨gb194, 0, none⟩ = some (.slice A0_0 l0_0.length c0_0) := (blk_cell BK194.out 0).trans rfl
   have hcz5_1 : w3.cell? ⟨gb194, 1, none⟩ = some (.slice A0_1 l0_1.length c0_1) := (blk_cell BK194.out 1).trans rfl
   have hfz5_0 := blk_frozen BK194.out 0
   have hfz5_1 := blk_frozen BK194.out 1
   go_wp2
   go_meet
   case rel => exact ⟨_, (true), tZB, H', ⟨by first | omega | exact Nat.le_refl _⟩, ⟨bkZ BK194.out⟩, ⟨bZ⟩⟩
  rw [if_neg c4] at H
  have c4b0 : decide (20 < (l0_0.length : Int)) = false := decide_eq_false c4
  have c4b1 : decide (20 < l0_0.length) = false := decide_eq_false (by omega)
  clear c4
  (first | rw [c4b0] | (simp only [i64_w, i32_w]; rw [c4b0]) | skip)
  have H' := Aside0.mk H
  clear H
  have hcz6_0 : w3.cell? ⟨gb194, 0, none⟩ = some (.slice A0_0 l0_0.length c0_0) := (blk_cell BK194.out 0).trans rfl
  have hcz6_1 : w3.cell? ⟨gb194, 1, none⟩ = some (.slice A0_1 l0_1.length c0_1) := (blk_cell BK194.out 1).trans rfl
  have hfz6_0 := blk_frozen BK194.out 0
  have hfz6_1 := blk_frozen BK194.out 1
  go_wp2
  go_meet
  case rel => exact ⟨_, (decide ((l0_1.length : Int) > 400)), tZB, H', ⟨by first | omega | exact Nat.le_refl _⟩, ⟨bkZ BK194.out⟩, ⟨bZ⟩⟩
 case rest =>
  clear HC2
  try clear c1
  try clear p2
  try clear c4
  try clear c4b0
  try clear c4b1
  try clear hcz5_0
  try clear hcz5_1
  try clear hcz6_0
  try clear hcz6_1
  try clear hfz5_0
  try clear hfz5_1
  try clear hfz6_0
  try clear hfz6_1
  obtain ⟨kq, x19_1, rfl, HA, HJ1, BK194, HB⟩ := hcut
  cases kq with
  | zero => exact absurd HA.out (by simp [impl_RegisterOk.j0])
  | succ kj1 =>
   have H := HA.out
   clear HA
   simp only [impl_RegisterOk.j0] at H
   by_cases c7 : x19_1 = true
   ·subst c7
    have H1 : (some false) = some r := by rw [if_pos rfl] at H; exact H
    clear H
    have H := H1
    clear H1
    obtain rfl := Option.some.inj H
    go_wp2
    go_ret
    exact ⟨tZC, bZ⟩
   replace c7 := Bool.eq_false_iff.mpr c7
   subst c7
   have H1 : (impl_RegisterOk.l0 kj1 (([] : List ((ByteArray × Bool)))) l0_0 (l0_0.length : Int) 0 l0_0 l0_1) = some r := by rw [if_neg (show ¬ (false = true) by decide)] at H; exact H
   clear H
   have H := H1
   clear H1
   obtain ⟨y195, hy195⟩ : ∃ y_ : List ((ByteArray × Bool)), y_ = (([] : List ((ByteArray × Bool)))) := ⟨_, rfl⟩
   replace H : (impl_RegisterOk.l0 kj1 y195 l0_0 (l0_0.length : Int) 0 l0_0 l0_1) = some r := by first | (rw [hy195]; with_reducible exact H) | (have H2_ := (Option.bind_some _ _).symm.trans H; rw [hy195]; with_reducible exact H2_) | (have H2_ := (Option.bind_some _ _).symm.trans H; with_reducible exact H2_) | with_reducible exact H | (rw [hy195]; exact H) | exact H
   have Ny195 := Aside0.mk hy195
   clear hy195
   have H' := Aside0.mk H
   clear H
   go_wp2_with (first | ((with_reducible refine gate_dst (N := 20) rfl ?_); (try (refine gate_guard (by rfl) ?_; dsimp only)); refine Kd.Y_make my295 295 rfl rfl rfl ?_; intro v196 w8 ho9 hb; rw [← Ny195.out] at ho9; have HO197 := aZ (Kd.Y_lower ho9 (below_size bZ)); replace BK194 := aZ (blk_below (bkZ BK194.out) hb); replace HB := aZ (below_step bZ hb); clear hb ho9; have hcz10_0 : w8.cell? ⟨gb194, 0, none⟩ = some (.slice A0_0 l0_0.length c0_0) := (blk_cell BK194.out 0).trans rfl; have hcz10_1 : w8.cell? ⟨gb194, 1, none⟩ = some (.slice A0_1 l0_1.length c0_1) := (blk_cell BK194.out 1).trans rfl; have hfz10_0 := blk_frozen BK194.out 0; have hfz10_1 := blk_frozen BK194.out 1))
   go_loopg [24] kj1 (fun kq v24 w' => ∃ (x3_2 : List ((ByteArray × Bool))) (x24_2 : Int), v24 = .int .i64 x24_2 ∧ Aside0 (impl_RegisterOk.l0 kq x3_2 l0_0 (l0_0.length : Int) x24_2 l0_0 l0_1 = some r) ∧ Aside0 (kq ≤ kj1) ∧ Aside0 (Kd.Y my295 295 w' w.heap.size (fun _ => True) v196 x3_2) ∧ Aside0 (w'.heap[gb194]? = some (.cells #[(.slice A0_0 l0_0.length c0_0), (.slice A0_1 l0_1.length c0_1)] 86 (0, 0))) ∧ Aside0 (Below w.heap.size w w'))
   case atStart => exact ⟨(y195), (0), tZB, H', ⟨Nat.le_refl _⟩, ⟨lZY HO197.out⟩, ⟨bkZ BK194.out⟩, ⟨bZ⟩⟩
   case round =>
    clear H'
    try clear c1
    try clear p2
    try clear c4
    try clear c4b0
    try clear c4b1
    try clear c7
    try clear hcz10_0
    try clear hcz10_1
    try clear hcz5_0
    try clear hcz5_1
    try clear hcz6_0
    try clear hcz6_1
    try clear hfz10_0
    try clear hfz10_1
    try clear hfz5_0
    try clear hfz5_1
    try clear hfz6_0
    try clear hfz6_1
    try clear p2
    obtain ⟨x3_2, x24_2, rfl, HA, HK2, HO_3, BK194, HB⟩ := hrel
    cases gk with
    | zero => exact absurd HA.out (by simp [impl_RegisterOk.l0])
    | succ k2 =>
     have H := HA.out
     clear HA
     simp only [impl_RegisterOk.l0] at H
     by_cases c11 : x24_2 < (l0_0.length : Int)
     ·rw [if_pos c11] at H
      have c11b0 := decide_eq_true c11
      clear c11
      by_cases c12 : 0 ≤ x24_2
      rotate_left
      ·rw [if_neg c12] at H
       exact absurd H (by simp)
      rw [if_pos c12] at H
      have c12b0 := decide_eq_true c12
      clear c12
      by_cases c13 : x24_2 < (l0_0.length : Int)
      rotate_left
      ·rw [if_neg c13] at H
       exact absurd H (by simp)
      rw [if_pos c13] at H
      have c13b0 := decide_eq_true c13
      clear c13
      replace H := Option.bind_eq_some_iff.mp H
      obtain ⟨t200, A140, H⟩ := H
      replace H : (if t200 = true then ((impl_between.f ((rd_T304 l0_0 x24_2).f1) 1 8).bind fun t201 => (if t201 = true then (if ((rd_T304 l0_0 x24_2).f0).size ≤ 9223372036854775807 then (if (mget false x3_2 ((rd_T304 l0_0 x24_2).f0)) = true then (some false) else (if x3_2.length < 140737488355328 then (impl_RegisterOk.l0 k2 (((rd_T304 l0_0 x24_2).f0, true) :: x3_2) l0_0 (l0_0.length : Int) (wrap64 (x24_2 + 1)) l0_0 l0_1) else (none))) else (none)) else (some false))) else (some false)) = some r := H
      have A14 := Aside0.mk A140
      clear A140
      by_cases c15 : t200 = true
      rotate_left
      ·replace c15 := Bool.eq_false_iff.mpr c15
       subst c15
       have H1 : (some false) = some r := by rw [if_neg (show ¬ (false = true) by decide)] at H; exact H
       clear H
       have H := H1
       clear H1
       obtain rfl := Option.some.inj H
       have p198 : 0 ≤ (x24_2 : Int) := of_decide_eq_true tZE
       have q198 : x24_2 < (l0_0.length : Int) := of_decide_eq_true tZE
       obtain ⟨ad198, e198, hx198_0, hx198_1⟩ := at_T304 HR0_0.out x24_2 p198 q198
       cases e198
       replace hx198_0 := cZ HB hx198_0
       replace hx198_1 := cZ HB hx198_1
       replace p198 := eq_true p198
       replace q198 := eq_true q198
       go_wp2_with (first | ((with_reducible refine gate_dst (N := 5) rfl ?_); (try (refine gate_guard (by rfl) ?_; dsimp only)); refine box_event ?hg (N := 5) ?hd (cs := #[.string (⟨#[]⟩ : ByteArray), .int .i64 0]) (t := 304) ?hr ?_; (case hd => rfl); (case hg => rfl); (case hr => first | (go_simp; done) | (go_simp; rfl)); intro gb199 hg w37 hbox hb; replace HO_3 := aZ (Kd.Y_below (lZY HO_3.out) hb); have BK199 := aZ (hbox); have GW199 := aZ ((by rw [hg]; exact (below_size bZ) : w.heap.size ≤ gb199)); have GE199 := aZ ((by rw [hg]; exact (below_size bZ) : w.heap.size ≤ gb199)); replace HB := aZ (below_step bZ hb); have NB194_199 := aZ ((by rw [hg]; exact Nat.ne_of_lt (blk_lt (bkZ BK194.out)) : gb194 ≠ gb199)); have NB199_194 := aZ ((by rw [hg]; exact Nat.ne_of_gt (blk_lt (bkZ BK194.out)) : gb199 ≠ gb194)); replace BK194 := aZ (blk_below (bkZ BK194.out) hb); clear hb hbox hg; have hnb38 := NB199_194.out; have hnc38 := NB194_199.out; have hcz39_0 : w37.cell? ⟨gb199, 0, none⟩ = some (.string (⟨#[]⟩ : ByteArray)) := (blk_cell BK199.out 0).trans rfl; have hcz39_1 : w37.cell? ⟨gb199, 1, none⟩ = some (.int .i64 0) := (blk_cell BK199.out 1).trans rfl; have hfz39_0 := blk_frozen BK199.out 0; have hfz39_1 := blk_frozen BK199.out 1) | ((with_reducible refine gate_callee (f := 194) rfl ?_); refine goesL_ (some 30) rfl rfl Try.func194 kZ rfl #[.string ((rd_T304 l0_0 x24_2).f0)] rfl tZA ?_; (with_reducible refine (impl_NameOk.calls k2 ((rd_T304 l0_0 x24_2).f0) false _ A14.out).mono ?_); rintro e w' ⟨rfl, ⟨nd, rfl⟩⟩; refine ⟨_, rfl, ?_⟩))
       go_ret
       exact ⟨tZC, bZ⟩
      subst c15
      have H1 : ((impl_between.f ((rd_T304 l0_0 x24_2).f1) 1 8).bind fun t201 => (if t201 = true then (if ((rd_T304 l0_0 x24_2).f0).size ≤ 9223372036854775807 then (if (mget false x3_2 ((rd_T304 l0_0 x24_2).f0)) = true then (some false) else (if x3_2.length < 140737488355328 then (impl_RegisterOk.l0 k2 (((rd_T304 l0_0 x24_2).f0, true) :: x3_2) l0_0 (l0_0.length : Int) (wrap64 (x24_2 + 1)) l0_0 l0_1) else (none))) else (none)) else (some false))) = some r := by rw [if_pos rfl] at H; exact H
      clear H
      have H := H1
      clear H1
      replace H := Option.bind_eq_some_iff.mp H
      obtain ⟨t201, A160, H⟩ := H
      replace H : (if t201 = true then (if ((rd_T304 l0_0 x24_2).f0).size ≤ 9223372036854775807 then (if (mget false x3_2 ((rd_T304 l0_0 x24_2).f0)) = true then (some false) else (if x3_2.length < 140737488355328 then (impl_RegisterOk.l0 k2 (((rd_T304 l0_0 x24_2).f0, true) :: x3_2) l0_0 (l0_0.length : Int) (wrap64 (x24_2 + 1)) l0_0 l0_1) else (none))) else (none)) else (some false)) = some r := H
      have A16 := Aside0.mk A160
      clear A160
      by_cases c17 : t201 = true
      rotate_left
      ·replace c17 := Bool.eq_false_iff.mpr c17
       subst c17
       have H1 : (some false) = some r := by rw [if_neg (show ¬ (false = true) by decide)] at H; exact H
       clear H
       have H := H1
       clear H1
       obtain rfl := Option.some.inj H
       have p198 : 0 ≤ (x24_2 : Int) := of_decide_eq_true tZE
       have q198 : x24_2 < (l0_0.length : Int) := of_decide_eq_true tZE
       obtain ⟨ad198, e198, hx198_0, hx198_1⟩ := at_T304 HR0_0.out x24_2 p198 q198
       cases e198
       replace hx198_0 := cZ HB hx198_0
       replace hx198_1 := cZ HB hx198_1
       replace p198 := eq_true p198
       replace q198 := eq_true q198
       go_wp2_with (first | ((with_reducible refine gate_dst (N := 5) rfl ?_); (try (refine gate_guard (by rfl) ?_; dsimp only)); refine box_event ?hg (N := 5) ?hd (cs := #[.string (⟨#[]⟩ : ByteArray), .int .i64 0]) (t := 304) ?hr ?_; (case hd => rfl); (case hg => rfl); (case hr => first | (go_simp; done) | (go_simp; rfl)); intro gb199 hg w34 hbox hb; replace HO_3 := aZ (Kd.Y_below (lZY HO_3.out) hb); have BK199 := aZ (hbox); have GW199 := aZ ((by rw [hg]; exact (below_size bZ) : w.heap.size ≤ gb199)); have GE199 := aZ ((by rw [hg]; exact (below_size bZ) : w.heap.size ≤ gb199)); replace HB := aZ (below_step bZ hb); have NB194_199 := aZ ((by rw [hg]; exact Nat.ne_of_lt (blk_lt (bkZ BK194.out)) : gb194 ≠ gb199)); have NB199_194 := aZ ((by rw [hg]; exact Nat.ne_of_gt (blk_lt (bkZ BK194.out)) : gb199 ≠ gb194)); replace BK194 := aZ (blk_below (bkZ BK194.out) hb); clear hb hbox hg; have hnb35 := NB199_194.out; have hnc35 := NB194_199.out; have hcz36_0 : w34.cell? ⟨gb199, 0, none⟩ = some (.string (⟨#[]⟩ : ByteArray)) := (blk_cell BK199.out 0).trans rfl; have hcz36_1 : w34.cell? ⟨gb199, 1, none⟩ = some (.int .i64 0) := (blk_cell BK199.out 1).trans rfl; have hfz36_0 := blk_frozen BK199.out 0; have hfz36_1 := blk_frozen BK199.out 1) | ((with_reducible refine gate_callee (f := 194) rfl ?_); refine goesL_ (some 30) rfl rfl Try.func194 kZ rfl #[.string ((rd_T304 l0_0 x24_2).f0)] rfl tZA ?_; (with_reducible refine (impl_NameOk.calls k2 ((rd_T304 l0_0 x24_2).f0) true _ A14.out).mono ?_); rintro e w' ⟨rfl, ⟨nd, rfl⟩⟩; refine ⟨_, rfl, ?_⟩) | (go_at_call 112; (with_reducible refine (impl_between.calls ((rd_T304 l0_0 x24_2).f1) 1 8 false _ A16.out).mono ?_); rintro e w' ⟨rfl, ⟨nd, rfl⟩⟩))
       go_ret
       exact ⟨tZC, bZ⟩
      subst c17
      have H1 : (if ((rd_T304 l0_0 x24_2).f0).size ≤ 9223372036854775807 then (if (mget false x3_2 ((rd_T304 l0_0 x24_2).f0)) = true then (some false) else (if x3_2.length < 140737488355328 then (impl_RegisterOk.l0 k2 (((rd_T304 l0_0 x24_2).f0, true) :: x3_2) l0_0 (l0_0.length : Int) (wrap64 (x24_2 + 1)) l0_0 l0_1) else (none))) else (none)) = some r := by rw [if_pos rfl] at H; exact H
      clear H
      have H := H1
      clear H1
      by_cases c18 : ((rd_T304 l0_0 x24_2).f0).size ≤ 9223372036854775807
      rotate_left
      ·rw [if_neg c18] at H
       exact absurd H (by simp)
      rw [if_pos c18] at H
      have c18b0 := eq_true c18
      have c18b1 := decide_eq_true c18
      try have c18b2 := eq_false (Nat.not_lt.2 c18)
      clear c18
      obtain ⟨y202, hy202⟩ : ∃ y_ : Bool, y_ = (mget false x3_2 ((rd_T304 l0_0 x24_2).f0)) := ⟨_, rfl⟩
      replace H : (if y202 = true then (some false) else (if x3_2.length < 140737488355328 then (impl_RegisterOk.l0 k2 (((rd_T304 l0_0 x24_2).f0, true) :: x3_2) l0_0 (l0_0.length : Int) (wrap64 (x24_2 + 1)) l0_0 l0_1) else (none))) = some r := by first | (rw [hy202]; with_reducible exact H) | (have H2_ := (Option.bind_some _ _).symm.trans H; rw [hy202]; with_reducible exact H2_) | (have H2_ := (Option.bind_some _ _).symm.trans H; with_reducible exact H2_) | with_reducible exact H | (rw [hy202]; exact H) | exact H
      have Ny202 := Aside0.mk hy202
      clear hy202
      by_cases c19 : y202 = true
      ·subst c19
       have H1 : (some false) = some r := by rw [if_pos rfl] at H; exact H
       clear H
       have H := H1
       clear H1
       obtain rfl := Option.some.inj H
       have p198 : 0 ≤ (x24_2 : Int) := of_decide_eq_true tZE
       have q198 : x24_2 < (l0_0.length : Int) := of_decide_eq_true tZE
       obtain ⟨ad198, e198, hx198_0, hx198_1⟩ := at_T304 HR0_0.out x24_2 p198 q198
       cases e198
       replace hx198_0 := cZ HB hx198_0
       replace hx198_1 := cZ HB hx198_1
       replace p198 := eq_true p198
       replace q198 := eq_true q198
       go_wp2_with (first | ((with_reducible refine gate_dst (N := 5) rfl ?_); (try (refine gate_guard (by rfl) ?_; dsimp only)); refine box_event ?hg (N := 5) ?hd (cs := #[.string (⟨#[]⟩ : ByteArray), .int .i64 0]) (t := 304) ?hr ?_; (case hd => rfl); (case hg => rfl); (case hr => first | (go_simp; done) | (go_simp; rfl)); intro gb199 hg w20 hbox hb; replace HO_3 := aZ (Kd.Y_below (lZY HO_3.out) hb); have BK199 := aZ (hbox); have GW199 := aZ ((by rw [hg]; exact (below_size bZ) : w.heap.size ≤ gb199)); have GE199 := aZ ((by rw [hg]; exact (below_size bZ) : w.heap.size ≤ gb199)); replace HB := aZ (below_step bZ hb); have NB194_199 := aZ ((by rw [hg]; exact Nat.ne_of_lt (blk_lt (bkZ BK194.out)) : gb194 ≠ gb199)); have NB199_194 := aZ ((by rw [hg]; exact Nat.ne_of_gt (blk_lt (bkZ BK194.out)) : gb199 ≠ gb194)); replace BK194 := aZ (blk_below (bkZ BK194.out) hb); clear hb hbox hg; have hnb21 := NB199_194.out; have hnc21 := NB194_199.out; have hcz22_0 : w20.cell? ⟨gb199, 0, none⟩ = some (.string (⟨#[]⟩ : ByteArray)) := (blk_cell BK199.out 0).trans rfl; have hcz22_1 : w20.cell? ⟨gb199, 1, none⟩ = some (.int .i64 0) := (blk_cell BK199.out 1).trans rfl; have hfz22_0 := blk_frozen BK199.out 0; have hfz22_1 := blk_frozen BK199.out 1) | ((with_reducible refine gate_store (t := 304) (p := 5) rfl ?_); refine store_event (t := 304) (p := 5) (v := ?vo_w23) (w1 := ((w20.setCell ⟨gb199, 0, none⟩ (.string ((rd_T304 l0_0 x24_2).f0))).setCell ⟨gb199, 1, none⟩ (.int .i64 ((rd_T304 l0_0 x24_2).f1)))) ?hg ?ho ?hn ?hr ?_; (case ho => rfl); (case hg => rfl); (case hn => rfl); (case hr => first | (go_simp; done) | (go_simp; rfl)); intro w23 hw; replace HO_3 : Aside0 (Kd.Y my295 295 w23 w.heap.size (fun _ => True) v196 x3_2) := ⟨(by rw [hw]; exact (by (with_reducible repeat (first | apply Kd.Y_alloc | apply Kd.Y_drewN | apply Kd.Y_drew)); exact Kd.Y_mono (Kd.Y_far (p := ⟨gb199, 1, none⟩) (Kd.Y_far (p := ⟨gb199, 0, none⟩) (Kd.Y_types HO_3.out BK199.out (by decide)) (fun _ hk => hk.2) (.string ((rd_T304 l0_0 x24_2).f0))) (fun _ hk => hk.2) (.int .i64 ((rd_T304 l0_0 x24_2).f1))) (fun _ hk => trivial)))⟩; replace BK194 : Aside0 (w23.heap[gb194]? = some (.cells #[.slice (some ad198) l0_0.length c0_0, .slice A0_1 l0_1.length c0_1] 86 (0, 0))) := ⟨(by rw [hw]; exact (by (with_reducible repeat (first | refine blk_drewN ?_ _ | refine blk_drew ?_ | refine blk_alloc ?_ _)); refine blk_far ?_ NB194_199.out _; (with_reducible repeat (first | refine blk_drewN ?_ _ | refine blk_drew ?_ | refine blk_alloc ?_ _)); refine blk_far ?_ NB194_199.out _; (with_reducible repeat (first | refine blk_drewN ?_ _ | refine blk_drew ?_ | refine blk_alloc ?_ _)); exact BK194.out))⟩; replace BK199 : Aside0 (w23.heap[gb199]? = some (.cells #[.string ((rd_T304 l0_0 x24_2).f0), .int .i64 ((rd_T304 l0_0 x24_2).f1)] 304 (0, 0))) := ⟨(by rw [hw]; exact (by (with_reducible repeat (first | refine blk_drewN ?_ _ | refine blk_drew ?_ | refine blk_alloc ?_ _)); refine blk_put (cs := #[.string ((rd_T304 l0_0 x24_2).f0), .int .i64 0]) ?_ 1 _ rfl; (with_reducible repeat (first | refine blk_drewN ?_ _ | refine blk_drew ?_ | refine blk_alloc ?_ _)); refine blk_put (cs := #[.string (⟨#[]⟩ : ByteArray), .int .i64 0]) ?_ 0 _ rfl; (with_reducible repeat (first | refine blk_drewN ?_ _ | refine blk_drew ?_ | refine blk_alloc ?_ _)); exact BK199.out))⟩; replace HB : Aside0 (Below w.heap.size w w23) := ⟨(by rw [hw]; exact bZ)⟩; clear hw; have hcz24_0 : w23.cell? ⟨gb199, 0, none⟩ = some (.string ((rd_T304 l0_0 x24_2).f0)) := (blk_cell BK199.out 0).trans rfl; have hcz24_1 : w23.cell? ⟨gb199, 1, none⟩ = some (.int .i64 ((rd_T304 l0_0 x24_2).f1)) := (blk_cell BK199.out 1).trans rfl; have hfz24_0 := blk_frozen BK199.out 0; have hfz24_1 := blk_frozen BK199.out 1) | ((with_reducible refine gate_callee (f := 194) rfl ?_); refine goesL_ (some 30) rfl rfl Try.func194 kZ rfl #[.string ((rd_T304 l0_0 x24_2).f0)] rfl tZA ?_; (with_reducible refine (impl_NameOk.calls k2 ((rd_T304 l0_0 x24_2).f0) true _ A14.out).mono ?_); rintro e w' ⟨rfl, ⟨nd, rfl⟩⟩; refine ⟨_, rfl, ?_⟩) | (go_at_call 112; (with_reducible refine (impl_between.calls ((rd_T304 l0_0 x24_2).f1) 1 8 true _ A16.out).mono ?_); rintro e w' ⟨rfl, ⟨nd, rfl⟩⟩; have hcv25 := Kd.Y_get (e := 295) (HO_3.out) ((rd_T304 l0_0 x24_2).f0) (show okS _ from ((of_decide_eq_true tZE) : ((rd_T304 l0_0 x24_2).f0).size ≤ 9223372036854775807)); have hcv25d := fun n_ => Kd.Y_get (e := 295) (Kd.Y_drewN (HO_3.out) n_) ((rd_T304 l0_0 x24_2).f0) (show okS _ from ((of_decide_eq_true tZE) : ((rd_T304 l0_0 x24_2).f0).size ≤ 9223372036854775807)); have hcv25e := fun m_ n_ => Kd.Y_get (e := 295) (Kd.Y_drewN (Kd.Y_drewN (HO_3.out) m_) n_) ((rd_T304 l0_0 x24_2).f0) (show okS _ from ((of_decide_eq_true tZE) : ((rd_T304 l0_0 x24_2).f0).size ≤ 9223372036854775807)); simp only [my295, mkSB, mkSI, mkIB, mkII] at hcv25 hcv25d hcv25e; rw [← Ny202.out] at hcv25 hcv25d hcv25e))
       go_ret
       exact ⟨tZC, bZ⟩
      replace c19 := Bool.eq_false_iff.mpr c19
      subst c19
      have H1 : (if x3_2.length < 140737488355328 then (impl_RegisterOk.l0 k2 (((rd_T304 l0_0 x24_2).f0, true) :: x3_2) l0_0 (l0_0.length : Int) (wrap64 (x24_2 + 1)) l0_0 l0_1) else (none)) = some r := by rw [if_neg (show ¬ (false = true) by decide)] at H; exact H
      clear H
      have H := H1
      clear H1
      by_cases c26 : x3_2.length < 140737488355328
      rotate_left
      ·rw [if_neg c26] at H
       exact absurd H (by simp)
      rw [if_pos c26] at H
      have LMc26 := Aside0.mk c26
      clear c26
      obtain ⟨y203, hy203⟩ : ∃ y_ : List ((ByteArray × Bool)), y_ = (((rd_T304 l0_0 x24_2).f0, true) :: x3_2) := ⟨_, rfl⟩
      replace H : (impl_RegisterOk.l0 k2 y203 l0_0 (l0_0.length : Int) (wrap64 (x24_2 + 1)) l0_0 l0_1) = some r := by first | (rw [hy203]; with_reducible exact H) | (have H2_ := (Option.bind_some _ _).symm.trans H; rw [hy203]; with_reducible exact H2_) | (have H2_ := (Option.bind_some _ _).symm.trans H; with_reducible exact H2_) | with_reducible exact H | (rw [hy203]; exact H) | exact H
      have Ny203 := Aside0.mk hy203
      clear hy203
      have H' := Aside0.mk H
      clear H
      have p198 : 0 ≤ (x24_2 : Int) := of_decide_eq_true tZE
      have q198 : x24_2 < (l0_0.length : Int) := of_decide_eq_true tZE
      obtain ⟨ad198, e198, hx198_0, hx198_1⟩ := at_T304 HR0_0.out x24_2 p198 q198
      cases e198
      replace hx198_0 := cZ HB hx198_0
      replace hx198_1 := cZ HB hx198_1
      replace p198 := eq_true p198
      replace q198 := eq_true q198
      go_wp2_with (first | ((with_reducible refine gate_dst (N := 5) rfl ?_); (try (refine gate_guard (by rfl) ?_; dsimp only)); refine box_event ?hg (N := 5) ?hd (cs := #[.string (⟨#[]⟩ : ByteArray), .int .i64 0]) (t := 304) ?hr ?_; (case hd => rfl); (case hg => rfl); (case hr => first | (go_simp; done) | (go_simp; rfl)); intro gb199 hg w27 hbox hb; replace HO_3 := aZ (Kd.Y_below (lZY HO_3.out) hb); have BK199 := aZ (hbox); have GW199 := aZ ((by rw [hg]; exact (below_size bZ) : w.heap.size ≤ gb199)); have GE199 := aZ ((by rw [hg]; exact (below_size bZ) : w.heap.size ≤ gb199)); replace HB := aZ (below_step bZ hb); have NB194_199 := aZ ((by rw [hg]; exact Nat.ne_of_lt (blk_lt (bkZ BK194.out)) : gb194 ≠ gb199)); have NB199_194 := aZ ((by rw [hg]; exact Nat.ne_of_gt (blk_lt (bkZ BK194.out)) : gb199 ≠ gb194)); replace BK194 := aZ (blk_below (bkZ BK194.out) hb); clear hb hbox hg; have hnb28 := NB199_194.out; have hnc28 := NB194_199.out; have hcz29_0 : w27.cell? ⟨gb199, 0, none⟩ = some (.string (⟨#[]⟩ : ByteArray)) := (blk_cell BK199.out 0).trans rfl; have hcz29_1 : w27.cell? ⟨gb199, 1, none⟩ = some (.int .i64 0) := (blk_cell BK199.out 1).trans rfl; have hfz29_0 := blk_frozen BK199.out 0; have hfz29_1 := blk_frozen BK199.out 1) | ((with_reducible refine gate_store (t := 304) (p := 5) rfl ?_); refine store_event (t := 304) (p := 5) (v := ?vo_w30) (w1 := ((w27.setCell ⟨gb199, 0, none⟩ (.string ((rd_T304 l0_0 x24_2).f0))).setCell ⟨gb199, 1, none⟩ (.int .i64 ((rd_T304 l0_0 x24_2).f1)))) ?hg ?ho ?hn ?hr ?_; (case ho => rfl); (case hg => rfl); (case hn => rfl); (case hr => first | (go_simp; done) | (go_simp; rfl)); intro w30 hw; replace HO_3 : Aside0 (Kd.Y my295 295 w30 w.heap.size (fun _ => True) v196 x3_2) := ⟨(by rw [hw]; exact (by (with_reducible repeat (first | apply Kd.Y_alloc | apply Kd.Y_drewN | apply Kd.Y_drew)); exact Kd.Y_mono (Kd.Y_far (p := ⟨gb199, 1, none⟩) (Kd.Y_far (p := ⟨gb199, 0, none⟩) (Kd.Y_types HO_3.out BK199.out (by decide)) (fun _ hk => hk.2) (.string ((rd_T304 l0_0 x24_2).f0))) (fun _ hk => hk.2) (.int .i64 ((rd_T304 l0_0 x24_2).f1))) (fun _ hk => trivial)))⟩; replace BK194 : Aside0 (w30.heap[gb194]? = some (.cells #[.slice (some ad198) l0_0.length c0_0, .slice A0_1 l0_1.length c0_1] 86 (0, 0))) := ⟨(by rw [hw]; exact (by (with_reducible repeat (first | refine blk_drewN ?_ _ | refine blk_drew ?_ | refine blk_alloc ?_ _)); refine blk_far ?_ NB194_199.out _; (with_reducible repeat (first | refine blk_drewN ?_ _ | refine blk_drew ?_ | refine blk_alloc ?_ _)); refine blk_far ?_ NB194_199.out _; (with_reducible repeat (first | refine blk_drewN ?_ _ | refine blk_drew ?_ | refine blk_alloc ?_ _)); exact BK194.out))⟩; replace BK199 : Aside0 (w30.heap[gb199]? = some (.cells #[.string ((rd_T304 l0_0 x24_2).f0), .int .i64 ((rd_T304 l0_0 x24_2).f1)] 304 (0, 0))) := ⟨(by rw [hw]; exact (by (with_reducible repeat (first | refine blk_drewN ?_ _ | refine blk_drew ?_ | refine blk_alloc ?_ _)); refine blk_put (cs := #[.string ((rd_T304 l0_0 x24_2).f0), .int .i64 0]) ?_ 1 _ rfl; (with_reducible repeat (first | refine blk_drewN ?_ _ | refine blk_drew ?_ | refine blk_alloc ?_ _)); refine blk_put (cs := #[.string (⟨#[]⟩ : ByteArray), .int .i64 0]) ?_ 0 _ rfl; (with_reducible repeat (first | refine blk_drewN ?_ _ | refine blk_drew ?_ | refine blk_alloc ?_ _)); exact BK199.out))⟩; replace HB : Aside0 (Below w.heap.size w w30) := ⟨(by rw [hw]; exact bZ)⟩; clear hw; have hcz31_0 : w30.cell? ⟨gb199, 0, none⟩ = some (.string ((rd_T304 l0_0 x24_2).f0)) := (blk_cell BK199.out 0).trans rfl; have hcz31_1 : w30.cell? ⟨gb199, 1, none⟩ = some (.int .i64 ((rd_T304 l0_0 x24_2).f1)) := (blk_cell BK199.out 1).trans rfl; have hfz31_0 := blk_frozen BK199.out 0; have hfz31_1 := blk_frozen BK199.out 1) | ((with_reducible refine gate_callee (f := 194) rfl ?_); refine goesL_ (some 30) rfl rfl Try.func194 kZ rfl #[.string ((rd_T304 l0_0 x24_2).f0)] rfl tZA ?_; (with_reducible refine (impl_NameOk.calls k2 ((rd_T304 l0_0 x24_2).f0) true _ A14.out).mono ?_); rintro e w' ⟨rfl, ⟨nd, rfl⟩⟩; refine ⟨_, rfl, ?_⟩) | (go_at_call 112; (with_reducible refine (impl_between.calls ((rd_T304 l0_0 x24_2).f1) 1 8 true _ A16.out).mono ?_); rintro e w' ⟨rfl, ⟨nd, rfl⟩⟩; have hcv32 := Kd.Y_get (e := 295) (HO_3.out) ((rd_T304 l0_0 x24_2).f0) (show okS _ from ((of_decide_eq_true tZE) : ((rd_T304 l0_0 x24_2).f0).size ≤ 9223372036854775807)); have hcv32d := fun n_ => Kd.Y_get (e := 295) (Kd.Y_drewN (HO_3.out) n_) ((rd_T304 l0_0 x24_2).f0) (show okS _ from ((of_decide_eq_true tZE) : ((rd_T304 l0_0 x24_2).f0).size ≤ 9223372036854775807)); have hcv32e := fun m_ n_ => Kd.Y_get (e := 295) (Kd.Y_drewN (Kd.Y_drewN (HO_3.out) m_) n_) ((rd_T304 l0_0 x24_2).f0) (show okS _ from ((of_decide_eq_true tZE) : ((rd_T304 l0_0 x24_2).f0).size ≤ 9223372036854775807)); simp only [my295, mkSB, mkSI, mkIB, mkII] at hcv32 hcv32d hcv32e; rw [← Ny202.out] at hcv32 hcv32d hcv32e) | ((with_reducible refine Kd.gate_mupd (t := 295) (p := (.tmp 44)) (x := (.tmp 46)) (y := (.const (.bool true))) rfl ?_); refine Kd.Y_put my295 (t := 295) (base := w.heap.size) (ok := (fun _ => True)) rfl rfl (.tmp 44) (.tmp 46) (.const (.bool true)) rfl rfl v196 x3_2 ((rd_T304 l0_0 x24_2).f0) true rfl (by first | rfl | (go_simp; done) | (go_simp; rfl)) (by first | rfl | (go_simp; done) | (go_simp; rfl)) ?aO (show okS _ from ((of_decide_eq_true tZE) : ((rd_T304 l0_0 x24_2).f0).size ≤ 9223372036854775807)) trivial LMc26.out ?_; (case aO => exact (lZY HO_3.out)); intro w33 ho hg; rw [← Ny203.out] at ho; replace BK194 := aZ (Kd.blk_turn (e := 295) (bkZ BK194.out) (lZY HO_3.out) hg); replace BK199 := aZ (Kd.blk_turn (e := 295) (bkZ BK199.out) (lZY HO_3.out) hg); replace HB := aZ (Kd.below_turn (e := 295) (lZY HO_3.out) bZ (Nat.le_refl _) hg); have HO204 := aZ (ho); clear HO_3; clear ho hg))
      go_roundg k2
      case measure => have := HJ1.out; have := HK2.out; omega
      case rel => exact ⟨(y203), (wrap64 (x24_2 + 1)), tZB, H', ⟨by have := HJ1.out; have := HK2.out; omega⟩, ⟨lZY HO204.out⟩, ⟨bkZ BK194.out⟩, ⟨bZ⟩⟩
     rw [if_neg c11] at H
     have c11b0 := decide_eq_false c11
     clear c11
     obtain ⟨y205, hy205⟩ : ∃ y_ : List ((Int × Int)), y_ = (([] : List ((Int × Int)))) := ⟨_, rfl⟩
     replace H : (impl_RegisterOk.l1 k2 y205 (([] : List ((Int × Int)))) l0_1 (l0_1.length : Int) 0 l0_0 l0_1) = some r := by first | (rw [hy205]; with_reducible exact H) | (have H2_ := (Option.bind_some _ _).symm.trans H; rw [hy205]; with_reducible exact H2_) | (have H2_ := (Option.bind_some _ _).symm.trans H; with_reducible exact H2_) | with_reducible exact H | (rw [hy205]; exact H) | exact H
     have Ny205 := Aside0.mk hy205
     clear hy205
     obtain ⟨y208, hy208⟩ : ∃ y_ : List ((Int × Int)), y_ = (([] : List ((Int × Int)))) := ⟨_, rfl⟩
     replace H : (impl_RegisterOk.l1 k2 y205 y208 l0_1 (l0_1.length : Int) 0 l0_0 l0_1) = some r := by first | (rw [hy208]; with_reducible exact H) | (have H2_ := (Option.bind_some _ _).symm.trans H; rw [hy208]; with_reducible exact H2_) | (have H2_ := (Option.bind_some _ _).symm.trans H; with_reducible exact H2_) | with_reducible exact H | (rw [hy208]; exact H) | exact H
     have Ny208 := Aside0.mk hy208
     clear hy208
     have H' := Aside0.mk H
     clear H
     go_wp2_with (first | ((with_reducible refine gate_dst (N := 48) rfl ?_); (try (refine gate_guard (by rfl) ?_; dsimp only)); refine Kd.Y_make my308 308 rfl rfl rfl ?_; intro v206 w40 ho41 hb; rw [← Ny205.out] at ho41; replace HO_3 := aZ (Kd.Y_below (lZY HO_3.out) hb); have HO207 := aZ (Kd.Y_lower ho41 (below_size bZ)); replace BK194 := aZ (blk_below (bkZ BK194.out) hb); replace HB := aZ (below_step bZ hb); clear hb ho41) | ((with_reducible refine gate_dst (N := 49) rfl ?_); (try (refine gate_guard (by rfl) ?_; dsimp only)); refine Kd.Y_make my308 308 rfl rfl rfl ?_; intro v209 w42 ho43 hb; rw [← Ny208.out] at ho43; replace HO_3 := aZ (Kd.Y_below (lZY HO_3.out) hb); have HO210 := aZ (Kd.Y_lower (Kd.Y_new' ho43 (Kd.Y_lt (lZY HO207.out))) (below_size bZ)); replace HO207 := aZ (Kd.Y_elder' (lZY HO207.out) (Kd.Y_base ho43) hb); replace BK194 := aZ (blk_below (bkZ BK194.out) hb); replace HB := aZ (below_step bZ hb); clear hb ho43; have hcz44_0 : w42.cell? ⟨gb194, 0, none⟩ = some (.slice A0_0 l0_0.length c0_0) := (blk_cell BK194.out 0).trans rfl; have hcz44_1 : w42.cell? ⟨gb194, 1, none⟩ = some (.slice A0_1 l0_1.length c0_1) := (blk_cell BK194.out 1).trans rfl; have hfz44_0 := blk_frozen BK194.out 0; have hfz44_1 := blk_frozen BK194.out 1))
     go_loopg [53] k2 (fun kq v53 w' => ∃ (x6_3 : List ((Int × Int))) (x7_3 : List ((Int × Int))) (x53_3 : Int), v53 = .int .i64 x53_3 ∧ Aside0 (impl_RegisterOk.l1 kq x6_3 x7_3 l0_1 (l0_1.length : Int) x53_3 l0_0 l0_1 = some r) ∧ Aside0 (kq ≤ k2) ∧ Aside0 (Kd.Y my308 308 w' w.heap.size (fun k_ => some k_ ≠ mapBlock v209) v206 x6_3) ∧ Aside0 (Kd.Y my308 308 w' w.heap.size (fun k_ => some k_ ≠ mapBlock v206) v209 x7_3) ∧ Aside0 (w'.heap[gb194]? = some (.cells #[(.slice A0_0 l0_0.length c0_0), (.slice A0_1 l0_1.length c0_1)] 86 (0, 0))) ∧ Aside0 (Below w.heap.size w w'))
     case atStart => exact ⟨(y205), (y208), (0), tZB, H', ⟨Nat.le_refl _⟩, ⟨by (with_reducible repeat (first | apply Kd.Y_alloc | apply Kd.Y_drewN | apply Kd.Y_drew)); exact Kd.Y_mono HO207.out (fun _ hk => hk.2)⟩, ⟨by (with_reducible repeat (first | apply Kd.Y_alloc | apply Kd.Y_drewN | apply Kd.Y_drew)); exact Kd.Y_mono HO210.out (fun _ hk => hk.2)⟩, ⟨bkZ BK194.out⟩, ⟨bZ⟩⟩
     case round =>
      clear H'
      try clear c1
      try clear p1
      try clear q1
      try clear hx1
      try clear c2
      try clear p2
      try clear hcv2
      try clear c3
      try clear hcv3
      try clear c4
      try clear c4b0
      try clear c4b1
      try clear p6
      try clear c7
      try clear c11
      try clear c11b0
      try clear c12
      try clear c12b0
      try clear c13
      try clear c13b0
      try clear c15
      try clear c17
      try clear c18
      try clear c18b0
      try clear c18b1
      try clear c18b2
      try clear c19
      try clear p19
      try clear q19
      try clear hx19
      try clear c21
      try clear hcv25
      try clear c26
      try clear c28
      try clear hcv32
      try clear c35
      try clear c38
      try clear hcz10_0
      try clear hcz10_1
      try clear hcz22_0
      try clear hcz22_1
      try clear hcz24_0
      try clear hcz24_1
      try clear hcz29_0
      try clear hcz29_1
      try clear hcz31_0
      try clear hcz31_1
      try clear hcz36_0
      try clear hcz36_1
      try clear hcz39_0
      try clear hcz39_1
      try clear hcz44_0
      try clear hcz44_1
      try clear hcz5_0
      try clear hcz5_1
      try clear hcz6_0
      try clear hcz6_1
      try clear hfz10_0
      try clear hfz10_1
      try clear hfz22_0
      try clear hfz22_1
      try clear hfz24_0
      try clear hfz24_1
      try clear hfz29_0
      try clear hfz29_1
      try clear hfz31_0
      try clear hfz31_1
      try clear hfz36_0
      try clear hfz36_1
      try clear hfz39_0
      try clear hfz39_1
      try clear hfz44_0
      try clear hfz44_1
      try clear hfz5_0
      try clear hfz5_1
      try clear hfz6_0
      try clear hfz6_1
      try clear hx198_0
      try clear hx198_1
      try clear p198
      try clear p2
      try clear q198
      obtain ⟨x6_3, x7_3, x53_3, rfl, HA, HK3, HO_6, HO_7, BK194, HB⟩ := hrel
      cases gk with
      | zero => exact absurd HA.out (by simp [impl_RegisterOk.l1])
      | succ k3 =>
       have H := HA.out
       clear HA
       simp only [impl_RegisterOk.l1] at H
       by_cases c45 : x53_3 < (l0_1.length : Int)
       rotate_left
       ·rw [if_neg c45] at H
        have c45b0 := decide_eq_false c45
        clear c45
        obtain rfl := Option.some.inj H
        go_wp2
        go_ret
        exact ⟨tZC, bZ⟩
       rw [if_pos c45] at H
       have c45b0 := decide_eq_true c45
       clear c45
       by_cases c46 : 0 ≤ x53_3
       rotate_left
       ·rw [if_neg c46] at H
        exact absurd H (by simp)
       rw [if_pos c46] at H
       have c46b0 := decide_eq_true c46
       clear c46
       by_cases c47 : x53_3 < (l0_1.length : Int)
       rotate_left
       ·rw [if_neg c47] at H
        exact absurd H (by simp)
       rw [if_pos c47] at H
       have c47b0 := decide_eq_true c47
       clear c47
       by_cases c48 : ((rd_T230 l0_1 x53_3).f0) < 0
       ·rw [if_pos c48] at H
        have c48b0 := decide_eq_true c48
        clear c48
        obtain rfl := Option.some.inj H
        have p211 : 0 ≤ (x53_3 : Int) := of_decide_eq_true tZE
        have q211 : x53_3 < (l0_1.length : Int) := of_decide_eq_true tZE
        obtain ⟨ad211, e211, hx211_0, hx211_1, hx211_2, hx211_3⟩ := at_T230 HR0_1.out x53_3 p211 q211
        cases e211
        replace hx211_0 := cZ HB hx211_0
        replace hx211_1 := cZ HB hx211_1
        replace hx211_2 := cZ HB hx211_2
        replace hx211_3 := cZ HB hx211_3
        replace p211 := eq_true p211
        replace q211 := eq_true q211
        try go_wp2_with (first | ((with_reducible refine gate_dst (N := 9) rfl ?_); (try (refine gate_guard (by rfl) ?_; dsimp only)); refine box_event ?hg (N := 9) ?hd (cs := #[.int .i64 0, .int .i64 0, .int .i64 0, .bool false]) (t := 230) ?hr ?_; (case hd => rfl); (case hg => rfl); (case hr => first | (go_simp; done) | (go_simp; rfl)); intro gb212 hg w49 hbox hb; replace HO_6 := aZ (Kd.Y_below (lZY HO_6.out) hb); replace HO_7 := aZ (Kd.Y_below (lZY HO_7.out) hb); have BK212 := aZ (hbox); have GW212 := aZ ((by rw [hg]; exact (below_size bZ) : w.heap.size ≤ gb212)); have GE212 := aZ ((by rw [hg]; exact (below_size bZ) : w.heap.size ≤ gb212)); replace HB := aZ (below_step bZ hb); have NB194_212 := aZ ((by rw [hg]; exact Nat.ne_of_lt (blk_lt (bkZ BK194.out)) : gb194 ≠ gb212)); have NB212_194 := aZ ((by rw [hg]; exact Nat.ne_of_gt (blk_lt (bkZ BK194.out)) : gb212 ≠ gb194)); replace BK194 := aZ (blk_below (bkZ BK194.out) hb); clear hb hbox hg; have hnb50 := NB212_194.out; have hnc50 := NB194_212.out; have hcz51_0 : w49.cell? ⟨gb212, 0, none⟩ = some (.int .i64 0) := (blk_cell BK212.out 0).trans rfl; have hcz51_1 : w49.cell? ⟨gb212, 1, none⟩ = some (.int .i64 0) := (blk_cell BK212.out 1).trans rfl; have hcz51_2 : w49.cell? ⟨gb212, 2, none⟩ = some (.int .i64 0) := (blk_cell BK212.out 2).trans rfl; have hcz51_3 : w49.cell? ⟨gb212, 3, none⟩ = some (.bool false) := (blk_cell BK212.out 3).trans rfl; have hfz51_0 := blk_frozen BK212.out 0; have hfz51_1 := blk_frozen BK212.out 1; have hfz51_2 := blk_frozen BK212.out 2; have hfz51_3 := blk_frozen BK212.out 3))
        have n0_ : Aside0 (Kd.Y my308 308 ((((w49.setCell ⟨gb212, 0, none⟩ (.int .i64 ((rd_T230 l0_1 x53_3).f0))).setCell ⟨gb212, 1, none⟩ (.int .i64 ((rd_T230 l0_1 x53_3).f1))).setCell ⟨gb212, 2, none⟩ (.int .i64 ((rd_T230 l0_1 x53_3).f2))).setCell ⟨gb212, 3, none⟩ (.bool ((rd_T230 l0_1 x53_3).f3))) w.heap.size (fun k_ => some k_ ≠ mapBlock v209) v206 x6_3) := ⟨by (with_reducible repeat (first | apply Kd.Y_alloc | apply Kd.Y_drewN | apply Kd.Y_drew)); exact Kd.Y_mono (Kd.Y_far (p := ⟨gb212, 3, none⟩) (Kd.Y_far (p := ⟨gb212, 2, none⟩) (Kd.Y_far (p := ⟨gb212, 1, none⟩) (Kd.Y_far (p := ⟨gb212, 0, none⟩) (Kd.Y_types HO_6.out BK212.out (by decide)) (fun _ hk => hk.2) (.int .i64 ((rd_T230 l0_1 x53_3).f0))) (fun _ hk => hk.2) (.int .i64 ((rd_T230 l0_1 x53_3).f1))) (fun _ hk => hk.2) (.int .i64 ((rd_T230 l0_1 x53_3).f2))) (fun _ hk => hk.2) (.bool ((rd_T230 l0_1 x53_3).f3))) (fun _ hk => hk.1)⟩
        have n1_ : Aside0 (Kd.Y my308 308 ((((w49.setCell ⟨gb212, 0, none⟩ (.int .i64 ((rd_T230 l0_1 x53_3).f0))).setCell ⟨gb212, 1, none⟩ (.int .i64 ((rd_T230 l0_1 x53_3).f1))).setCell ⟨gb212, 2, none⟩ (.int .i64 ((rd_T230 l0_1 x53_3).f2))).setCell ⟨gb212, 3, none⟩ (.bool ((rd_T230 l0_1 x53_3).f3))) w.heap.size (fun k_ => some k_ ≠ mapBlock v206) v209 x7_3) := ⟨by (with_reducible repeat (first | apply Kd.Y_alloc | apply Kd.Y_drewN | apply Kd.Y_drew)); exact Kd.Y_mono (Kd.Y_far (p := ⟨gb212, 3, none⟩) (Kd.Y_far (p := ⟨gb212, 2, none⟩) (Kd.Y_far (p := ⟨gb212, 1, none⟩) (Kd.Y_far (p := ⟨gb212, 0, none⟩) (Kd.Y_types HO_7.out BK212.out (by decide)) (fun _ hk => hk.2) (.int .i64 ((rd_T230 l0_1 x53_3).f0))) (fun _ hk => hk.2) (.int .i64 ((rd_T230 l0_1 x53_3).f1))) (fun _ hk => hk.2) (.int .i64 ((rd_T230 l0_1 x53_3).f2))) (fun _ hk => hk.2) (.bool ((rd_T230 l0_1 x53_3).f3))) (fun _ hk => hk.1)⟩
        have n2_ : Aside0 (((((w49.setCell ⟨gb212, 0, none⟩ (.int .i64 ((rd_T230 l0_1 x53_3).f0))).setCell ⟨gb212, 1, none⟩ (.int .i64 ((rd_T230 l0_1 x53_3).f1))).setCell ⟨gb212, 2, none⟩ (.int .i64 ((rd_T230 l0_1 x53_3).f2))).setCell ⟨gb212, 3, none⟩ (.bool ((rd_T230 l0_1 x53_3).f3))).heap[gb194]? = some (.cells #[.slice A0_0 l0_0.length c0_0, .slice (some ad211) l0_1.length c0_1] 86 (0, 0))) := ⟨by (with_reducible repeat (first | refine blk_drewN ?_ _ | refine blk_drew ?_ | refine blk_alloc ?_ _)); refine blk_far ?_ NB194_212.out _; (with_reducible repeat (first | refine blk_drewN ?_ _ | refine blk_drew ?_ | refine blk_alloc ?_ _)); refine blk_far ?_ NB194_212.out _; (with_reducible repeat (first | refine blk_drewN ?_ _ | refine blk_drew ?_ | refine blk_alloc ?_ _)); refine blk_far ?_ NB194_212.out _; (with_reducible repeat (first | refine blk_drewN ?_ _ | refine blk_drew ?_ | refine blk_alloc ?_ _)); refine blk_far ?_ NB194_212.out _; (with_reducible repeat (first | refine blk_drewN ?_ _ | refine blk_drew ?_ | refine blk_alloc ?_ _)); exact BK194.out⟩
        have n3_ : Aside0 (((((w49.setCell ⟨gb212, 0, none⟩ (.int .i64 ((rd_T230 l0_1 x53_3).f0))).setCell ⟨gb212, 1, none⟩ (.int .i64 ((rd_T230 l0_1 x53_3).f1))).setCell ⟨gb212, 2, none⟩ (.int .i64 ((rd_T230 l0_1 x53_3).f2))).setCell ⟨gb212, 3, none⟩ (.bool ((rd_T230 l0_1 x53_3).f3))).heap[gb212]? = some (.cells #[.int .i64 ((rd_T230 l0_1 x53_3).f0), .int .i64 ((rd_T230 l0_1 x53_3).f1), .int .i64 ((rd_T230 l0_1 x53_3).f2), .bool ((rd_T230 l0_1 x53_3).f3)] 230 (0, 0))) := ⟨by (with_reducible repeat (first | refine blk_drewN ?_ _ | refine blk_drew ?_ | refine blk_alloc ?_ _)); refine blk_put (cs := #[.int .i64 ((rd_T230 l0_1 x53_3).f0), .int .i64 ((rd_T230 l0_1 x53_3).f1), .int .i64 ((rd_T230 l0_1 x53_3).f2), .bool false]) ?_ 3 _ rfl; (with_reducible repeat (first | refine blk_drewN ?_ _ | refine blk_drew ?_ | refine blk_alloc ?_ _)); refine blk_put (cs := #[.int .i64 ((rd_T230 l0_1 x53_3).f0), .int .i64 ((rd_T230 l0_1 x53_3).f1), .int .i64 0, .bool false]) ?_ 2 _ rfl; (with_reducible repeat (first | refine blk_drewN ?_ _ | refine blk_drew ?_ | refine blk_alloc ?_ _)); refine blk_put (cs := #[.int .i64 ((rd_T230 l0_1 x53_3).f0), .int .i64 0, .int .i64 0, .bool false]) ?_ 1 _ rfl; (with_reducible repeat (first | refine blk_drewN ?_ _ | refine blk_drew ?_ | refine blk_alloc ?_ _)); refine blk_put (cs := #[.int .i64 0, .int .i64 0, .int .i64 0, .bool false]) ?_ 0 _ rfl; (with_reducible repeat (first | refine blk_drewN ?_ _ | refine blk_drew ?_ | refine blk_alloc ?_ _)); exact BK212.out⟩
        have n4_ : Aside0 (Below w.heap.size w ((((w49.setCell ⟨gb212, 0, none⟩ (.int .i64 ((rd_T230 l0_1 x53_3).f0))).setCell ⟨gb212, 1, none⟩ (.int .i64 ((rd_T230 l0_1 x53_3).f1))).setCell ⟨gb212, 2, none⟩ (.int .i64 ((rd_T230 l0_1 x53_3).f2))).setCell ⟨gb212, 3, none⟩ (.bool ((rd_T230 l0_1 x53_3).f3)))) := ⟨bZ⟩
        (try clear HO_6)
        (try clear HO_7)
        (try clear BK194)
        (try clear BK212)
        (try clear HB)
        generalize ((((w49.setCell ⟨gb212, 0, none⟩ (.int .i64 ((rd_T230 l0_1 x53_3).f0))).setCell ⟨gb212, 1, none⟩ (.int .i64 ((rd_T230 l0_1 x53_3).f1))).setCell ⟨gb212, 2, none⟩ (.int .i64 ((rd_T230 l0_1 x53_3).f2))).setCell ⟨gb212, 3, none⟩ (.bool ((rd_T230 l0_1 x53_3).f3))) = w52 at n0_ n1_ n2_ n3_ n4_ ⊢
        have HO_6 := n0_
        have HO_7 := n1_
        have BK194 := n2_
        have BK212 := n3_
        have HB := n4_
        clear n0_ n1_ n2_ n3_ n4_
        replace HO_6 := aZ (Kd.Y_drew HO_6.out)
        replace HO_7 := aZ (Kd.Y_drew HO_7.out)
        replace BK194 := aZ (blk_drew BK194.out)
        replace BK212 := aZ (blk_drew BK212.out)
        replace HB := aZ (below_drew1 HB.out)
        refine start_ (n := 49) (S := fun w' => w'.cell? ⟨gb212, 0, none⟩ = some (.int .i64 ((rd_T230 l0_1 x53_3).f0)) ∧ w'.cell? ⟨gb212, 1, none⟩ = some (.int .i64 ((rd_T230 l0_1 x53_3).f1)) ∧ w'.cell? ⟨gb212, 2, none⟩ = some (.int .i64 ((rd_T230 l0_1 x53_3).f2)) ∧ w'.cell? ⟨gb212, 3, none⟩ = some (.bool ((rd_T230 l0_1 x53_3).f3))) (ds := []) L0' kZ rfl rfl ⟨(blk_cell BK212.out 0).trans rfl, (blk_cell BK212.out 1).trans rfl, (blk_cell BK212.out 2).trans rfl, (blk_cell BK212.out 3).trans rfl⟩ (fun hHeld => ?_); refine with_tabW impl_RegisterOk.tab16 impl_RegisterOk.bits16 (fun HT_ HW_ => ?_)
        generalize w52.drew = w53 at HO_6 HO_7 BK194 BK212 HB hHeld ⊢
        refine pure_ (i := 0) (N := some 57) (v := ?_) (a' := ?_) L1' rfl rfl (any_of HT_.out kZ) (fun _ _ _ h => h) (Or.inl ⟨by rfl, ?_⟩) ?_ ?_
        rotate_left
        ·intro w'
         go_simp
         with_reducible rfl
        rotate_left
        ·simp only [Act.put, sZ1, sZ2, sZ3, i64_w, i32_w]
         rfl
        refine take_ (i := 1) (N := some 58) (v := ?_) (a' := ?_) L2' rfl rfl (take_ofW HT_.out HW_.out kZ) (fun _ _ _ h => h) (Or.inl ⟨by rfl, ?_⟩) hHeld ?_ ?_
        rotate_left
        ·rintro w' ⟨s0, s1, s2, s3⟩
         go_simp
         with_reducible rfl
        rotate_left
        ·simp only [Act.put, sZ1, sZ2, sZ3, i64_w, i32_w]
         rfl
        refine pure_ (i := 2) (N := some 59) (v := ?_) (a' := ?_) L3' rfl rfl (any_of HT_.out kZ) (fun _ _ _ h => h) (Or.inl ⟨by rfl, ?_⟩) ?_ ?_
        rotate_left
        ·intro w'
         go_simp
         with_reducible rfl
        rotate_left
        ·simp only [Act.put, sZ1, sZ2, sZ3, i64_w, i32_w]
         rfl
        refine pure_ (i := 3) (N := some 60) (v := ?_) (a' := ?_) L4' rfl rfl (any_of HT_.out kZ) (fun _ _ _ h => h) (Or.inl ⟨by rfl, ?_⟩) ?_ ?_
        rotate_left
        ·intro w'
         go_simp
         with_reducible rfl
        rotate_left
        ·simp only [Act.put, sZ1, sZ2, sZ3, i64_w, i32_w]
         rfl
        refine pure_ (i := 4) (N := some 61) (v := undef) (a' := ?_) L5' rfl rfl (any_of HT_.out kZ) (fun _ _ _ h => h) (Or.inr ⟨by rfl, rfl⟩) ?_ ?_
        rotate_left
        ·simp only [Act.put, sZ1, sZ2, sZ3, i64_w, i32_w]
         rfl
        refine pure_ (i := 5) (N := some 62) (v := undef) (a' := ?_) L6' rfl rfl (any_of HT_.out kZ) (fun _ _ _ h => h) (Or.inr ⟨by rfl, rfl⟩) ?_ ?_
        rotate_left
        ·simp only [Act.put, sZ1, sZ2, sZ3, i64_w, i32_w]
         rfl
        refine pure_ (i := 6) (N := some 63) (v := undef) (a' := ?_) L7' rfl rfl (any_of HT_.out kZ) (fun _ _ _ h => h) (Or.inr ⟨by rfl, rfl⟩) ?_ ?_
        rotate_left
        ·simp only [Act.put, sZ1, sZ2, sZ3, i64_w, i32_w]
         rfl
        refine pure_ (i := 7) (N := some 64) (v := undef) (a' := ?_) L8' rfl rfl (any_of HT_.out kZ) (fun _ _ _ h => h) (Or.inr ⟨by rfl, rfl⟩) ?_ ?_
        rotate_left
        ·simp only [Act.put, sZ1, sZ2, sZ3, i64_w, i32_w]
         rfl
        refine pure_ (i := 8) (N := some 65) (v := undef) (a' := ?_) L9' rfl rfl (any_of HT_.out kZ) (fun _ _ _ h => h) (Or.inr ⟨by rfl, rfl⟩) ?_ ?_
        rotate_left
        ·simp only [Act.put, sZ1, sZ2, sZ3, i64_w, i32_w]
         rfl
        refine pure_ (i := 9) (N := some 66) (v := undef) (a' := ?_) L10' rfl rfl (any_of HT_.out kZ) (fun _ _ _ h => h) (Or.inr ⟨by rfl, rfl⟩) ?_ ?_
        rotate_left
        ·simp only [Act.put, sZ1, sZ2, sZ3, i64_w, i32_w]
         rfl
        refine pure_ (i := 10) (N := some 67) (v := ?_) (a' := ?_) L11' rfl rfl (any_of HT_.out kZ) (fun _ _ _ h => h) (Or.inl ⟨by rfl, ?_⟩) ?_ ?_
        rotate_left
        ·intro w'
         go_simp
         with_reducible rfl
        rotate_left
        ·simp only [Act.put, sZ1, sZ2, sZ3, i64_w, i32_w]
         rfl
        refine pure_ (i := 11) (N := some 68) (v := ?_) (a' := ?_) L12' rfl rfl (any_of HT_.out kZ) (fun _ _ _ h => h) (Or.inl ⟨by rfl, ?_⟩) ?_ ?_
        rotate_left
        ·intro w'
         go_simp
         with_reducible rfl
        rotate_left
        ·simp only [Act.put, sZ1, sZ2, sZ3, i64_w, i32_w]
         rfl
        refine pure_ (i := 12) (N := some 69) (v := undef) (a' := ?_) L13' rfl rfl (any_of HT_.out kZ) (fun _ _ _ h => h) (Or.inr ⟨by rfl, rfl⟩) ?_ ?_
        rotate_left
        ·simp only [Act.put, sZ1, sZ2, sZ3, i64_w, i32_w]
         rfl
        refine pure_ (i := 13) (N := some 70) (v := undef) (a' := ?_) L14' rfl rfl (any_of HT_.out kZ) (fun _ _ _ h => h) (Or.inr ⟨by rfl, rfl⟩) ?_ ?_
        rotate_left
        ·simp only [Act.put, sZ1, sZ2, sZ3, i64_w, i32_w]
         rfl
        refine pure_ (i := 14) (N := some 71) (v := undef) (a' := ?_) L15' rfl rfl (any_of HT_.out kZ) (fun _ _ _ h => h) (Or.inr ⟨by rfl, rfl⟩) ?_ ?_
        rotate_left
        ·simp only [Act.put, sZ1, sZ2, sZ3, i64_w, i32_w]
         rfl
        refine pure_ (i := 15) (N := some 72) (v := undef) (a' := ?_) L16' rfl rfl (any_of HT_.out kZ) (fun _ _ _ h => h) (Or.inr ⟨by rfl, rfl⟩) ?_ ?_
        rotate_left
        ·simp only [Act.put, sZ1, sZ2, sZ3, i64_w, i32_w]
         rfl
        refine pure_ (i := 16) (N := some 73) (v := undef) (a' := ?_) L17' rfl rfl (any_of HT_.out kZ) (fun _ _ _ h => h) (Or.inr ⟨by rfl, rfl⟩) ?_ ?_
        rotate_left
        ·simp only [Act.put, sZ1, sZ2, sZ3, i64_w, i32_w]
         rfl
        refine pure_ (i := 17) (N := some 74) (v := undef) (a' := ?_) L18' rfl rfl (any_of HT_.out kZ) (fun _ _ _ h => h) (Or.inr ⟨by rfl, rfl⟩) ?_ ?_
        rotate_left
        ·simp only [Act.put, sZ1, sZ2, sZ3, i64_w, i32_w]
         rfl
        refine pure_ (i := 18) (N := some 75) (v := undef) (a' := ?_) L19' rfl rfl (any_of HT_.out kZ) (fun _ _ _ h => h) (Or.inr ⟨by rfl, rfl⟩) ?_ ?_
        rotate_left
        ·simp only [Act.put, sZ1, sZ2, sZ3, i64_w, i32_w]
         rfl
        refine pure_ (i := 19) (N := some 76) (v := undef) (a' := ?_) L20' rfl rfl (any_of HT_.out kZ) (fun _ _ _ h => h) (Or.inr ⟨by rfl, rfl⟩) ?_ ?_
        rotate_left
        ·simp only [Act.put, sZ1, sZ2, sZ3, i64_w, i32_w]
         rfl
        refine pure_ (i := 20) (N := some 77) (v := ?_) (a' := ?_) L21' rfl rfl (any_of HT_.out kZ) (fun _ _ _ h => h) (Or.inl ⟨by rfl, ?_⟩) ?_ ?_
        rotate_left
        ·intro w'
         go_simp
         with_reducible rfl
        rotate_left
        ·simp only [Act.put, sZ1, sZ2, sZ3, i64_w, i32_w]
         rfl
        refine pure_ (i := 21) (N := some 78) (v := ?_) (a' := ?_) L22' rfl rfl (any_of HT_.out kZ) (fun _ _ _ h => h) (Or.inl ⟨by rfl, ?_⟩) ?_ ?_
        rotate_left
        ·intro w'
         go_simp
         with_reducible rfl
        rotate_left
        ·simp only [Act.put, sZ1, sZ2, sZ3, i64_w, i32_w]
         rfl
        refine pure_ (i := 22) (N := some 79) (v := undef) (a' := ?_) L23' rfl rfl (any_of HT_.out kZ) (fun _ _ _ h => h) (Or.inr ⟨by rfl, rfl⟩) ?_ ?_
        rotate_left
        ·simp only [Act.put, sZ1, sZ2, sZ3, i64_w, i32_w]
         rfl
        refine pure_ (i := 23) (N := some 80) (v := undef) (a' := ?_) L24' rfl rfl (any_of HT_.out kZ) (fun _ _ _ h => h) (Or.inr ⟨by rfl, rfl⟩) ?_ ?_
        rotate_left
        ·simp only [Act.put, sZ1, sZ2, sZ3, i64_w, i32_w]
         rfl
        refine pure_ (i := 24) (N := some 81) (v := undef) (a' := ?_) L25' rfl rfl (any_of HT_.out kZ) (fun _ _ _ h => h) (Or.inr ⟨by rfl, rfl⟩) ?_ ?_
        rotate_left
        ·simp only [Act.put, sZ1, sZ2, sZ3, i64_w, i32_w]
         rfl
        refine pure_ (i := 25) (N := some 82) (v := undef) (a' := ?_) L26' rfl rfl (any_of HT_.out kZ) (fun _ _ _ h => h) (Or.inr ⟨by rfl, rfl⟩) ?_ ?_
        rotate_left
        ·simp only [Act.put, sZ1, sZ2, sZ3, i64_w, i32_w]
         rfl
        refine pure_ (i := 26) (N := some 83) (v := undef) (a' := ?_) L27' rfl rfl (any_of HT_.out kZ) (fun _ _ _ h => h) (Or.inr ⟨by rfl, rfl⟩) ?_ ?_
        rotate_left
        ·simp only [Act.put, sZ1, sZ2, sZ3, i64_w, i32_w]
         rfl
        refine pure_ (i := 27) (N := some 84) (v := undef) (a' := ?_) L28' rfl rfl (any_of HT_.out kZ) (fun _ _ _ h => h) (Or.inr ⟨by rfl, rfl⟩) ?_ ?_
        rotate_left
        ·simp only [Act.put, sZ1, sZ2, sZ3, i64_w, i32_w]
         rfl
        refine pure_ (i := 28) (N := some 85) (v := undef) (a' := ?_) L29' rfl rfl (any_of HT_.out kZ) (fun _ _ _ h => h) (Or.inr ⟨by rfl, rfl⟩) ?_ ?_
        rotate_left
        ·simp only [Act.put, sZ1, sZ2, sZ3, i64_w, i32_w]
         rfl
        refine pure_ (i := 29) (N := some 86) (v := undef) (a' := ?_) L30' rfl rfl (any_of HT_.out kZ) (fun _ _ _ h => h) (Or.inr ⟨by rfl, rfl⟩) ?_ ?_
        rotate_left
        ·simp only [Act.put, sZ1, sZ2, sZ3, i64_w, i32_w]
         rfl
        refine pure_ (i := 30) (N := some 87) (v := undef) (a' := ?_) L31' rfl rfl (any_of HT_.out kZ) (fun _ _ _ h => h) (Or.inr ⟨by rfl, rfl⟩) ?_ ?_
        rotate_left
        ·simp only [Act.put, sZ1, sZ2, sZ3, i64_w, i32_w]
         rfl
        refine pure_ (i := 31) (N := some 88) (v := undef) (a' := ?_) L32' rfl rfl (any_of HT_.out kZ) (fun _ _ _ h => h) (Or.inr ⟨by rfl, rfl⟩) ?_ ?_
        rotate_left
        ·simp only [Act.put, sZ1, sZ2, sZ3, i64_w, i32_w]
         rfl
        refine pure_ (i := 32) (N := some 89) (v := undef) (a' := ?_) L33' rfl rfl (any_of HT_.out kZ) (fun _ _ _ h => h) (Or.inr ⟨by rfl, rfl⟩) ?_ ?_
        rotate_left
        ·simp only [Act.put, sZ1, sZ2, sZ3, i64_w, i32_w]
         rfl
        refine pure_ (i := 33) (N := some 90) (v := ?_) (a' := ?_) L34' rfl rfl (any_of HT_.out kZ) (fun _ _ _ h => h) (Or.inl ⟨by rfl, ?_⟩) ?_ ?_
        rotate_left
        ·intro w'
         go_simp
         with_reducible rfl
        rotate_left
        ·simp only [Act.put, sZ1, sZ2, sZ3, i64_w, i32_w]
         rfl
        refine pure_ (i := 34) (N := some 91) (v := ?_) (a' := ?_) L35' rfl rfl (any_of HT_.out kZ) (fun _ _ _ h => h) (Or.inl ⟨by rfl, ?_⟩) ?_ ?_
        rotate_left
        ·intro w'
         go_simp
         with_reducible rfl
        rotate_left
        ·simp only [Act.put, sZ1, sZ2, sZ3, i64_w, i32_w]
         rfl
        refine pure_ (i := 35) (N := some 92) (v := undef) (a' := ?_) L36' rfl rfl (any_of HT_.out kZ) (fun _ _ _ h => h) (Or.inr ⟨by rfl, rfl⟩) ?_ ?_
        rotate_left
        ·simp only [Act.put, sZ1, sZ2, sZ3, i64_w, i32_w]
         rfl
        refine pure_ (i := 36) (N := some 93) (v := undef) (a' := ?_) L37' rfl rfl (any_of HT_.out kZ) (fun _ _ _ h => h) (Or.inr ⟨by rfl, rfl⟩) ?_ ?_
        rotate_left
        ·simp only [Act.put, sZ1, sZ2, sZ3, i64_w, i32_w]
         rfl
        refine pure_ (i := 37) (N := some 94) (v := undef) (a' := ?_) L38' rfl rfl (any_of HT_.out kZ) (fun _ _ _ h => h) (Or.inr ⟨by rfl, rfl⟩) ?_ ?_
        rotate_left
        ·simp only [Act.put, sZ1, sZ2, sZ3, i64_w, i32_w]
         rfl
        refine pure_ (i := 38) (N := some 95) (v := undef) (a' := ?_) L39' rfl rfl (any_of HT_.out kZ) (fun _ _ _ h => h) (Or.inr ⟨by rfl, rfl⟩) ?_ ?_
        rotate_left
        ·simp only [Act.put, sZ1, sZ2, sZ3, i64_w, i32_w]
         rfl
        refine pure_ (i := 39) (N := some 96) (v := ?_) (a' := ?_) L40' rfl rfl (any_of HT_.out kZ) (fun _ _ _ h => h) (Or.inl ⟨by rfl, ?_⟩) ?_ ?_
        rotate_left
        ·intro w'
         go_simp
         with_reducible rfl
        rotate_left
        ·simp only [Act.put, sZ1, sZ2, sZ3, i64_w, i32_w]
         rfl
        refine pure_ (i := 40) (N := some 97) (v := ?_) (a' := ?_) L41' rfl rfl (any_of HT_.out kZ) (fun _ _ _ h => h) (Or.inl ⟨by rfl, ?_⟩) ?_ ?_
        rotate_left
        ·intro w'
         go_simp
         with_reducible rfl
        rotate_left
        ·simp only [Act.put, sZ1, sZ2, sZ3, i64_w, i32_w]
         rfl
        refine pure_ (i := 41) (N := some 98) (v := undef) (a' := ?_) L42' rfl rfl (any_of HT_.out kZ) (fun _ _ _ h => h) (Or.inr ⟨by rfl, rfl⟩) ?_ ?_
        rotate_left
        ·simp only [Act.put, sZ1, sZ2, sZ3, i64_w, i32_w]
         rfl
        refine pure_ (i := 42) (N := some 99) (v := undef) (a' := ?_) L43' rfl rfl (any_of HT_.out kZ) (fun _ _ _ h => h) (Or.inr ⟨by rfl, rfl⟩) ?_ ?_
        rotate_left
        ·simp only [Act.put, sZ1, sZ2, sZ3, i64_w, i32_w]
         rfl
        refine pure_ (i := 43) (N := some 100) (v := undef) (a' := ?_) L44' rfl rfl (any_of HT_.out kZ) (fun _ _ _ h => h) (Or.inr ⟨by rfl, rfl⟩) ?_ ?_
        rotate_left
        ·simp only [Act.put, sZ1, sZ2, sZ3, i64_w, i32_w]
         rfl
        refine pure_ (i := 44) (N := some 101) (v := undef) (a' := ?_) L45' rfl rfl (any_of HT_.out kZ) (fun _ _ _ h => h) (Or.inr ⟨by rfl, rfl⟩) ?_ ?_
        rotate_left
        ·simp only [Act.put, sZ1, sZ2, sZ3, i64_w, i32_w]
         rfl
        refine pure_ (i := 45) (N := some 102) (v := undef) (a' := ?_) L46' rfl rfl (any_of HT_.out kZ) (fun _ _ _ h => h) (Or.inr ⟨by rfl, rfl⟩) ?_ ?_
        rotate_left
        ·simp only [Act.put, sZ1, sZ2, sZ3, i64_w, i32_w]
         rfl
        refine pure_ (i := 46) (N := some 103) (v := undef) (a' := ?_) L47' rfl rfl (any_of HT_.out kZ) (fun _ _ _ h => h) (Or.inr ⟨by rfl, rfl⟩) ?_ ?_
        rotate_left
        ·simp only [Act.put, sZ1, sZ2, sZ3, i64_w, i32_w]
         rfl
        refine pure_ (i := 47) (N := some 104) (v := undef) (a' := ?_) L48' rfl rfl (any_of HT_.out kZ) (fun _ _ _ h => h) (Or.inr ⟨by rfl, rfl⟩) ?_ ?_
        rotate_left
        ·simp only [Act.put, sZ1, sZ2, sZ3, i64_w, i32_w]
         rfl
        refine pure_ (i := 48) (N := some 105) (v := ?_) (a' := ?_) L49' rfl rfl (any_of HT_.out kZ) (fun _ _ _ h => h) (Or.inl ⟨by rfl, ?_⟩) ?_ ?_
        rotate_left
        ·intro w'
         go_simp
         with_reducible rfl
        rotate_left
        ·simp only [Act.put, sZ1, sZ2, sZ3, i64_w, i32_w]
         rfl
        refine done_ (done_of HT_.out kZ) ?_
        try go_wp2
        go_ret
        exact ⟨tZC, bZ⟩
       rw [if_neg c48] at H
       have c48b0 := decide_eq_false c48
       clear c48
       by_cases c54 : ((rd_T230 l0_1 x53_3).f0) ≥ (l0_0.length : Int)
       ·rw [if_pos c54] at H
        have c54b0 : decide ((l0_0.length : Int) ≤ ((rd_T230 l0_1 x53_3).f0)) = true := decide_eq_true c54
        clear c54
        obtain rfl := Option.some.inj H
        have p211 : 0 ≤ (x53_3 : Int) := of_decide_eq_true tZE
        have q211 : x53_3 < (l0_1.length : Int) := of_decide_eq_true tZE
        obtain ⟨ad211, e211, hx211_0, hx211_1, hx211_2, hx211_3⟩ := at_T230 HR0_1.out x53_3 p211 q211
        cases e211
        replace hx211_0 := cZ HB hx211_0
        replace hx211_1 := cZ HB hx211_1
        replace hx211_2 := cZ HB hx211_2
        replace hx211_3 := cZ HB hx211_3
        replace p211 := eq_true p211
        replace q211 := eq_true q211
        try go_wp2_with (first | ((with_reducible refine gate_dst (N := 9) rfl ?_); (try (refine gate_guard (by rfl) ?_; dsimp only)); refine box_event ?hg (N := 9) ?hd (cs := #[.int .i64 0, .int .i64 0, .int .i64 0, .bool false]) (t := 230) ?hr ?_; (case hd => rfl); (case hg => rfl); (case hr => first | (go_simp; done) | (go_simp; rfl)); intro gb212 hg w55 hbox hb; replace HO_6 := aZ (Kd.Y_below (lZY HO_6.out) hb); replace HO_7 := aZ (Kd.Y_below (lZY HO_7.out) hb); have BK212 := aZ (hbox); have GW212 := aZ ((by rw [hg]; exact (below_size bZ) : w.heap.size ≤ gb212)); have GE212 := aZ ((by rw [hg]; exact (below_size bZ) : w.heap.size ≤ gb212)); replace HB := aZ (below_step bZ hb); have NB194_212 := aZ ((by rw [hg]; exact Nat.ne_of_lt (blk_lt (bkZ BK194.out)) : gb194 ≠ gb212)); have NB212_194 := aZ ((by rw [hg]; exact Nat.ne_of_gt (blk_lt (bkZ BK194.out)) : gb212 ≠ gb194)); replace BK194 := aZ (blk_below (bkZ BK194.out) hb); clear hb hbox hg; have hnb56 := NB212_194.out; have hnc56 := NB194_212.out; have hcz57_0 : w55.cell? ⟨gb212, 0, none⟩ = some (.int .i64 0) := (blk_cell BK212.out 0).trans rfl; have hcz57_1 : w55.cell? ⟨gb212, 1, none⟩ = some (.int .i64 0) := (blk_cell BK212.out 1).trans rfl; have hcz57_2 : w55.cell? ⟨gb212, 2, none⟩ = some (.int .i64 0) := (blk_cell BK212.out 2).trans rfl; have hcz57_3 : w55.cell? ⟨gb212, 3, none⟩ = some (.bool false) := (blk_cell BK212.out 3).trans rfl; have hfz57_0 := blk_frozen BK212.out 0; have hfz57_1 := blk_frozen BK212.out 1; have hfz57_2 := blk_frozen BK212.out 2; have hfz57_3 := blk_frozen BK212.out 3))
        have n0_ : Aside0 (Kd.Y my308 308 ((((w55.setCell ⟨gb212, 0, none⟩ (.int .i64 ((rd_T230 l0_1 x53_3).f0))).setCell ⟨gb212, 1, none⟩ (.int .i64 ((rd_T230 l0_1 x53_3).f1))).setCell ⟨gb212, 2, none⟩ (.int .i64 ((rd_T230 l0_1 x53_3).f2))).setCell ⟨gb212, 3, none⟩ (.bool ((rd_T230 l0_1 x53_3).f3))) w.heap.size (fun k_ => some k_ ≠ mapBlock v209) v206 x6_3) := ⟨by (with_reducible repeat (first | apply Kd.Y_alloc | apply Kd.Y_drewN | apply Kd.Y_drew)); exact Kd.Y_mono (Kd.Y_far (p := ⟨gb212, 3, none⟩) (Kd.Y_far (p := ⟨gb212, 2, none⟩) (Kd.Y_far (p := ⟨gb212, 1, none⟩) (Kd.Y_far (p := ⟨gb212, 0, none⟩) (Kd.Y_types HO_6.out BK212.out (by decide)) (fun _ hk => hk.2) (.int .i64 ((rd_T230 l0_1 x53_3).f0))) (fun _ hk => hk.2) (.int .i64 ((rd_T230 l0_1 x53_3).f1))) (fun _ hk => hk.2) (.int .i64 ((rd_T230 l0_1 x53_3).f2))) (fun _ hk => hk.2) (.bool ((rd_T230 l0_1 x53_3).f3))) (fun _ hk => hk.1)⟩
        have n1_ : Aside0 (Kd.Y my308 308 ((((w55.setCell ⟨gb212, 0, none⟩ (.int .i64 ((rd_T230 l0_1 x53_3).f0))).setCell ⟨gb212, 1, none⟩ (.int .i64 ((rd_T230 l0_1 x53_3).f1))).setCell ⟨gb212, 2, none⟩ (.int .i64 ((rd_T230 l0_1 x53_3).f2))).setCell ⟨gb212, 3, none⟩ (.bool ((rd_T230 l0_1 x53_3).f3))) w.heap.size (fun k_ => some k_ ≠ mapBlock v206) v209 x7_3) := ⟨by (with_reducible repeat (first | apply Kd.Y_alloc | apply Kd.Y_drewN | apply Kd.Y_drew)); exact Kd.Y_mono (Kd.Y_far (p := ⟨gb212, 3, none⟩) (Kd.Y_far (p := ⟨gb212, 2, none⟩) (Kd.Y_far (p := ⟨gb212, 1, none⟩) (Kd.Y_far (p := ⟨gb212, 0, none⟩) (Kd.Y_types HO_7.out BK212.out (by decide)) (fun _ hk => hk.2) (.int .i64 ((rd_T230 l0_1 x53_3).f0))) (fun _ hk => hk.2) (.int .i64 ((rd_T230 l0_1 x53_3).f1))) (fun _ hk => hk.2) (.int .i64 ((rd_T230 l0_1 x53_3).f2))) (fun _ hk => hk.2) (.bool ((rd_T230 l0_1 x53_3).f3))) (fun _ hk => hk.1)⟩
        have n2_ : Aside0 (((((w55.setCell ⟨gb212, 0, none⟩ (.int .i64 ((rd_T230 l0_1 x53_3).f0))).setCell ⟨gb212, 1, none⟩ (.int .i64 ((rd_T230 l0_1 x53_3).f1))).setCell ⟨gb212, 2, none⟩ (.int .i64 ((rd_T230 l0_1 x53_3).f2))).setCell ⟨gb212, 3, none⟩ (.bool ((rd_T230 l0_1 x53_3).f3))).heap[gb194]? = some (.cells #[.slice A0_0 l0_0.length c0_0, .slice (some ad211) l0_1.length c0_1] 86 (0, 0))) := ⟨by (with_reducible repeat (first | refine blk_drewN ?_ _ | refine blk_drew ?_ | refine blk_alloc ?_ _)); refine blk_far ?_ NB194_212.out _; (with_reducible repeat (first | refine blk_drewN ?_ _ | refine blk_drew ?_ | refine blk_alloc ?_ _)); refine blk_far ?_ NB194_212.out _; (with_reducible repeat (first | refine blk_drewN ?_ _ | refine blk_drew ?_ | refine blk_alloc ?_ _)); refine blk_far ?_ NB194_212.out _; (with_reducible repeat (first | refine blk_drewN ?_ _ | refine blk_drew ?_ | refine blk_alloc ?_ _)); refine blk_far ?_ NB194_212.out _; (with_reducible repeat (first | refine blk_drewN ?_ _ | refine blk_drew ?_ | refine blk_alloc ?_ _)); exact BK194.out⟩
        have n3_ : Aside0 (((((w55.setCell ⟨gb212, 0, none⟩ (.int .i64 ((rd_T230 l0_1 x53_3).f0))).setCell ⟨gb212, 1, none⟩ (.int .i64 ((rd_T230 l0_1 x53_3).f1))).setCell ⟨gb212, 2, none⟩ (.int .i64 ((rd_T230 l0_1 x53_3).f2))).setCell ⟨gb212, 3, none⟩ (.bool ((rd_T230 l0_1 x53_3).f3))).heap[gb212]? = some (.cells #[.int .i64 ((rd_T230 l0_1 x53_3).f0), .int .i64 ((rd_T230 l0_1 x53_3).f1), .int .i64 ((rd_T230 l0_1 x53_3).f2), .bool ((rd_T230 l0_1 x53_3).f3)] 230 (0, 0))) := ⟨by (with_reducible repeat (first | refine blk_drewN ?_ _ | refine blk_drew ?_ | refine blk_alloc ?_ _)); refine blk_put (cs := #[.int .i64 ((rd_T230 l0_1 x53_3).f0), .int .i64 ((rd_T230 l0_1 x53_3).f1), .int .i64 ((rd_T230 l0_1 x53_3).f2), .bool false]) ?_ 3 _ rfl; (with_reducible repeat (first | refine blk_drewN ?_ _ | refine blk_drew ?_ | refine blk_alloc ?_ _)); refine blk_put (cs := #[.int .i64 ((rd_T230 l0_1 x53_3).f0), .int .i64 ((rd_T230 l0_1 x53_3).f1), .int .i64 0, .bool false]) ?_ 2 _ rfl; (with_reducible repeat (first | refine blk_drewN ?_ _ | refine blk_drew ?_ | refine blk_alloc ?_ _)); refine blk_put (cs := #[.int .i64 ((rd_T230 l0_1 x53_3).f0), .int .i64 0, .int .i64 0, .bool false]) ?_ 1 _ rfl; (with_reducible repeat (first | refine blk_drewN ?_ _ | refine blk_drew ?_ | refine blk_alloc ?_ _)); refine blk_put (cs := #[.int .i64 0, .int .i64 0, .int .i64 0, .bool false]) ?_ 0 _ rfl; (with_reducible repeat (first | refine blk_drewN ?_ _ | refine blk_drew ?_ | refine blk_alloc ?_ _)); exact BK212.out⟩
        have n4_ : Aside0 (Below w.heap.size w ((((w55.setCell ⟨gb212, 0, none⟩ (.int .i64 ((rd_T230 l0_1 x53_3).f0))).setCell ⟨gb212, 1, none⟩ (.int .i64 ((rd_T230 l0_1 x53_3).f1))).setCell ⟨gb212, 2, none⟩ (.int .i64 ((rd_T230 l0_1 x53_3).f2))).setCell ⟨gb212, 3, none⟩ (.bool ((rd_T230 l0_1 x53_3).f3)))) := ⟨bZ⟩
        (try clear HO_6)
        (try clear HO_7)
        (try clear BK194)
        (try clear BK212)
        (try clear HB)
        generalize ((((w55.setCell ⟨gb212, 0, none⟩ (.int .i64 ((rd_T230 l0_1 x53_3).f0))).setCell ⟨gb212, 1, none⟩ (.int .i64 ((rd_T230 l0_1 x53_3).f1))).setCell ⟨gb212, 2, none⟩ (.int .i64 ((rd_T230 l0_1 x53_3).f2))).setCell ⟨gb212, 3, none⟩ (.bool ((rd_T230 l0_1 x53_3).f3))) = w58 at n0_ n1_ n2_ n3_ n4_ ⊢
        have HO_6 := n0_
        have HO_7 := n1_
        have BK194 := n2_
        have BK212 := n3_
        have HB := n4_
        clear n0_ n1_ n2_ n3_ n4_
        replace HO_6 := aZ (Kd.Y_drew HO_6.out)
        replace HO_7 := aZ (Kd.Y_drew HO_7.out)
        replace BK194 := aZ (blk_drew BK194.out)
        replace BK212 := aZ (blk_drew BK212.out)
        replace HB := aZ (below_drew1 HB.out)
        refine start_ (n := 49) (S := fun w' => w'.cell? ⟨gb212, 0, none⟩ = some (.int .i64 ((rd_T230 l0_1 x53_3).f0)) ∧ w'.cell? ⟨gb212, 1, none⟩ = some (.int .i64 ((rd_T230 l0_1 x53_3).f1)) ∧ w'.cell? ⟨gb212, 2, none⟩ = some (.int .i64 ((rd_T230 l0_1 x53_3).f2)) ∧ w'.cell? ⟨gb212, 3, none⟩ = some (.bool ((rd_T230 l0_1 x53_3).f3)) ∧ w'.cell? ⟨gb194, 0, none⟩ = some (.slice A0_0 l0_0.length c0_0) ∧ w'.cell? ⟨gb194, 1, none⟩ = some (.slice (some ad211) l0_1.length c0_1)) (ds := []) L0' kZ rfl rfl ⟨(blk_cell BK212.out 0).trans rfl, (blk_cell BK212.out 1).trans rfl, (blk_cell BK212.out 2).trans rfl, (blk_cell BK212.out 3).trans rfl, (blk_cell BK194.out 0).trans rfl, (blk_cell BK194.out 1).trans rfl⟩ (fun hHeld => ?_); refine with_tabW impl_RegisterOk.tab16 impl_RegisterOk.bits16 (fun HT_ HW_ => ?_)
        generalize w58.drew = w59 at HO_6 HO_7 BK194 BK212 HB hHeld ⊢
        refine pure_ (i := 0) (N := some 57) (v := ?_) (a' := ?_) L1' rfl rfl (any_of HT_.out kZ) (fun _ _ _ h => h) (Or.inl ⟨by rfl, ?_⟩) ?_ ?_
        rotate_left
        ·intro w'
         go_simp
         with_reducible rfl
        rotate_left
        ·simp only [Act.put, sZ1, sZ2, sZ3, i64_w, i32_w]
         rfl
        refine take_ (i := 1) (N := some 58) (v := ?_) (a' := ?_) L2' rfl rfl (take_ofW HT_.out HW_.out kZ) (fun _ _ _ h => h) (Or.inl ⟨by rfl, ?_⟩) hHeld ?_ ?_
        rotate_left
        ·rintro w' ⟨s0, s1, s2, s3, s4, s5⟩
         go_simp
         with_reducible rfl
        rotate_left
        ·simp only [Act.put, sZ1, sZ2, sZ3, i64_w, i32_w]
         rfl
        refine pure_ (i := 2) (N := some 59) (v := ?_) (a' := ?_) L3' rfl rfl (any_of HT_.out kZ) (fun _ _ _ h => h) (Or.inl ⟨by rfl, ?_⟩) ?_ ?_
        rotate_left
        ·intro w'
         go_simp
         with_reducible rfl
        rotate_left
        ·simp only [Act.put, sZ1, sZ2, sZ3, i64_w, i32_w]
         rfl
        refine pure_ (i := 3) (N := some 60) (v := ?_) (a' := ?_) L4' rfl rfl (any_of HT_.out kZ) (fun _ _ _ h => h) (Or.inl ⟨by rfl, ?_⟩) ?_ ?_
        rotate_left
        ·intro w'
         go_simp
         with_reducible rfl
        rotate_left
        ·simp only [Act.put, sZ1, sZ2, sZ3, i64_w, i32_w]
         rfl
        refine pure_ (i := 4) (N := some 61) (v := ?_) (a' := ?_) L5' rfl rfl (any_of HT_.out kZ) (fun _ _ _ h => h) (Or.inl ⟨by rfl, ?_⟩) ?_ ?_
        rotate_left
        ·intro w'
         go_simp
         with_reducible rfl
        rotate_left
        ·simp only [Act.put, sZ1, sZ2, sZ3, i64_w, i32_w]
         rfl
        refine pure_ (i := 6) (N := some 63) (v := ?_) (a' := ?_) L50' rfl rfl (any_of HT_.out kZ) (fun _ _ _ h => h) (Or.inl ⟨by rfl, ?_⟩) ?_ ?_
        rotate_left
        ·intro w'
         go_simp
         with_reducible rfl
        rotate_left
        ·simp only [Act.put, sZ1, sZ2, sZ3, i64_w, i32_w]
         rfl
        refine take_ (i := 5) (N := some 62) (v := ?_) (a' := ?_) L7' rfl rfl (take_ofW HT_.out HW_.out kZ) (fun _ _ _ h => h) (Or.inl ⟨by rfl, ?_⟩) hHeld ?_ ?_
        rotate_left
        ·rintro w' ⟨s0, s1, s2, s3, s4, s5⟩
         go_simp
         with_reducible rfl
        rotate_left
        ·simp only [Act.put, sZ1, sZ2, sZ3, i64_w, i32_w]
         rfl
        refine take_ (i := 7) (N := some 64) (v := ?_) (a' := ?_) L8' rfl rfl (take_ofW HT_.out HW_.out kZ) (fun _ _ _ h => h) (Or.inl ⟨by rfl, ?_⟩) hHeld ?_ ?_
        rotate_left
        ·rintro w' ⟨s0, s1, s2, s3, s4, s5⟩
         go_simp
         with_reducible rfl
        rotate_left
        ·simp only [Act.put, sZ1, sZ2, sZ3, i64_w, i32_w]
         rfl
        refine pure_ (i := 8) (N := some 65) (v := ?_) (a' := ?_) L9' rfl rfl (any_of HT_.out kZ) (fun _ _ _ h => h) (Or.inl ⟨by rfl, ?_⟩) ?_ ?_
        rotate_left
        ·intro w'
         go_simp
         with_reducible rfl
        rotate_left
        ·simp only [Act.put, sZ1, sZ2, sZ3, i64_w, i32_w]
         rfl
        refine pure_ (i := 9) (N := some 66) (v := ?_) (a' := ?_) L10' rfl rfl (any_of HT_.out kZ) (fun _ _ _ h => h) (Or.inl ⟨by rfl, ?_⟩) ?_ ?_
        rotate_left
        ·intro w'
         go_simp
         with_reducible rfl
        rotate_left
        ·simp only [Act.put, sZ1, sZ2, sZ3, i64_w, i32_w]
         rfl
        refine pure_ (i := 10) (N := some 67) (v := ?_) (a' := ?_) L11' rfl rfl (any_of HT_.out kZ) (fun _ _ _ h => h) (Or.inl ⟨by rfl, ?_⟩) ?_ ?_
        rotate_left
        ·intro w'
         go_simp
         with_reducible rfl
        rotate_left
        ·simp only [Act.put, sZ1, sZ2, sZ3, i64_w, i32_w]
         rfl
        refine pure_ (i := 11) (N := some 68) (v := ?_) (a' := ?_) L12' rfl rfl (any_of HT_.out kZ) (fun _ _ _ h => h) (Or.inl ⟨by rfl, ?_⟩) ?_ ?_
        rotate_left
        ·intro w'
         go_simp
         with_reducible rfl
        rotate_left
        ·simp only [Act.put, sZ1, sZ2, sZ3, i64_w, i32_w]
         rfl
        refine pure_ (i := 12) (N := some 69) (v := undef) (a' := ?_) L13' rfl rfl (any_of HT_.out kZ) (fun _ _ _ h => h) (Or.inr ⟨by rfl, rfl⟩) ?_ ?_
        rotate_left
        ·simp only [Act.put, sZ1, sZ2, sZ3, i64_w, i32_w]
         rfl
        refine pure_ (i := 13) (N := some 70) (v := undef) (a' := ?_) L14' rfl rfl (any_of HT_.out kZ) (fun _ _ _ h => h) (Or.inr ⟨by rfl, rfl⟩) ?_ ?_
        rotate_left
        ·simp only [Act.put, sZ1, sZ2, sZ3, i64_w, i32_w]
         rfl
        refine pure_ (i := 14) (N := some 71) (v := undef) (a' := ?_) L15' rfl rfl (any_of HT_.out kZ) (fun _ _ _ h => h) (Or.inr ⟨by rfl, rfl⟩) ?_ ?_
        rotate_left
        ·simp only [Act.put, sZ1, sZ2, sZ3, i64_w, i32_w]
         rfl
        refine pure_ (i := 15) (N := some 72) (v := undef) (a' := ?_) L16' rfl rfl (any_of HT_.out kZ) (fun _ _ _ h => h) (Or.inr ⟨by rfl, rfl⟩) ?_ ?_
        rotate_left
        ·simp only [Act.put, sZ1, sZ2, sZ3, i64_w, i32_w]
         rfl
        refine pure_ (i := 16) (N := some 73) (v := undef) (a' := ?_) L17' rfl rfl (any_of HT_.out kZ) (fun _ _ _ h => h) (Or.inr ⟨by rfl, rfl⟩) ?_ ?_
        rotate_left
        ·simp only [Act.put, sZ1, sZ2, sZ3, i64_w, i32_w]
         rfl
        refine pure_ (i := 17) (N := some 74) (v := undef) (a' := ?_) L18' rfl rfl (any_of HT_.out kZ) (fun _ _ _ h => h) (Or.inr ⟨by rfl, rfl⟩) ?_ ?_
        rotate_left
        ·simp only [Act.put, sZ1, sZ2, sZ3, i64_w, i32_w]
         rfl
        refine pure_ (i := 18) (N := some 75) (v := undef) (a' := ?_) L19' rfl rfl (any_of HT_.out kZ) (fun _ _ _ h => h) (Or.inr ⟨by rfl, rfl⟩) ?_ ?_
        rotate_left
        ·simp only [Act.put, sZ1, sZ2, sZ3, i64_w, i32_w]
         rfl
        refine pure_ (i := 19) (N := some 76) (v := undef) (a' := ?_) L20' rfl rfl (any_of HT_.out kZ) (fun _ _ _ h => h) (Or.inr ⟨by rfl, rfl⟩) ?_ ?_
        rotate_left
        ·simp only [Act.put, sZ1, sZ2, sZ3, i64_w, i32_w]
         rfl
        refine pure_ (i := 20) (N := some 77) (v := ?_) (a' := ?_) L21' rfl rfl (any_of HT_.out kZ) (fun _ _ _ h => h) (Or.inl ⟨by rfl, ?_⟩) ?_ ?_
        rotate_left
        ·intro w'
         go_simp
         with_reducible rfl
        rotate_left
        ·simp only [Act.put, sZ1, sZ2, sZ3, i64_w, i32_w]
         rfl
        refine pure_ (i := 21) (N := some 78) (v := ?_) (a' := ?_) L22' rfl rfl (any_of HT_.out kZ) (fun _ _ _ h => h) (Or.inl ⟨by rfl, ?_⟩) ?_ ?_
        rotate_left
        ·intro w'
         go_simp
         with_reducible rfl
        rotate_left
        ·simp only [Act.put, sZ1, sZ2, sZ3, i64_w, i32_w]
         rfl
        refine pure_ (i := 22) (N := some 79) (v := undef) (a' := ?_) L23' rfl rfl (any_of HT_.out kZ) (fun _ _ _ h => h) (Or.inr ⟨by rfl, rfl⟩) ?_ ?_
        rotate_left
        ·simp only [Act.put, sZ1, sZ2, sZ3, i64_w, i32_w]
         rfl
        refine pure_ (i := 23) (N := some 80) (v := undef) (a' := ?_) L24' rfl rfl (any_of HT_.out kZ) (fun _ _ _ h => h) (Or.inr ⟨by rfl, rfl⟩) ?_ ?_
        rotate_left
        ·simp only [Act.put, sZ1, sZ2, sZ3, i64_w, i32_w]
         rfl
        refine pure_ (i := 24) (N := some 81) (v := undef) (a' := ?_) L25' rfl rfl (any_of HT_.out kZ) (fun _ _ _ h => h) (Or.inr ⟨by rfl, rfl⟩) ?_ ?_
        rotate_left
        ·simp only [Act.put, sZ1, sZ2, sZ3, i64_w, i32_w]
         rfl
        refine pure_ (i := 25) (N := some 82) (v := undef) (a' := ?_) L26' rfl rfl (any_of HT_.out kZ) (fun _ _ _ h => h) (Or.inr ⟨by rfl, rfl⟩) ?_ ?_
        rotate_left
        ·simp only [Act.put, sZ1, sZ2, sZ3, i64_w, i32_w]
         rfl
        refine pure_ (i := 26) (N := some 83) (v := undef) (a' := ?_) L27' rfl rfl (any_of HT_.out kZ) (fun _ _ _ h => h) (Or.inr ⟨by rfl, rfl⟩) ?_ ?_
        rotate_left
        ·simp only [Act.put, sZ1, sZ2, sZ3, i64_w, i32_w]
         rfl
        refine pure_ (i := 27) (N := some 84) (v := undef) (a' := ?_) L28' rfl rfl (any_of HT_.out kZ) (fun _ _ _ h => h) (Or.inr ⟨by rfl, rfl⟩) ?_ ?_
        rotate_left
        ·simp only [Act.put, sZ1, sZ2, sZ3, i64_w, i32_w]
         rfl
        refine pure_ (i := 28) (N := some 85) (v := undef) (a' := ?_) L29' rfl rfl (any_of HT_.out kZ) (fun _ _ _ h => h) (Or.inr ⟨by rfl, rfl⟩) ?_ ?_
        rotate_left
        ·simp only [Act.put, sZ1, sZ2, sZ3, i64_w, i32_w]
         rfl
        refine pure_ (i := 29) (N := some 86) (v := undef) (a' := ?_) L30' rfl rfl (any_of HT_.out kZ) (fun _ _ _ h => h) (Or.inr ⟨by rfl, rfl⟩) ?_ ?_
        rotate_left
        ·simp only [Act.put, sZ1, sZ2, sZ3, i64_w, i32_w]
         rfl
        refine pure_ (i := 30) (N := some 87) (v := undef) (a' := ?_) L31' rfl rfl (any_of HT_.out kZ) (fun _ _ _ h => h) (Or.inr ⟨by rfl, rfl⟩) ?_ ?_
        rotate_left
        ·simp only [Act.put, sZ1, sZ2, sZ3, i64_w, i32_w]
         rfl
        refine pure_ (i := 31) (N := some 88) (v := undef) (a' := ?_) L32' rfl rfl (any_of HT_.out kZ) (fun _ _ _ h => h) (Or.inr ⟨by rfl, rfl⟩) ?_ ?_
        rotate_left
        ·simp only [Act.put, sZ1, sZ2, sZ3, i64_w, i32_w]
         rfl
        refine pure_ (i := 32) (N := some 89) (v := undef) (a' := ?_) L33' rfl rfl (any_of HT_.out kZ) (fun _ _ _ h => h) (Or.inr ⟨by rfl, rfl⟩) ?_ ?_
        rotate_left
        ·simp only [Act.put, sZ1, sZ2, sZ3, i64_w, i32_w]
         rfl
        refine pure_ (i := 33) (N := some 90) (v := ?_) (a' := ?_) L34' rfl rfl (any_of HT_.out kZ) (fun _ _ _ h => h) (Or.inl ⟨by rfl, ?_⟩) ?_ ?_
        rotate_left
        ·intro w'
         go_simp
         with_reducible rfl
        rotate_left
        ·simp only [Act.put, sZ1, sZ2, sZ3, i64_w, i32_w]
         rfl
        refine pure_ (i := 34) (N := some 91) (v := ?_) (a' := ?_) L35' rfl rfl (any_of HT_.out kZ) (fun _ _ _ h => h) (Or.inl ⟨by rfl, ?_⟩) ?_ ?_
        rotate_left
        ·intro w'
         go_simp
         with_reducible rfl
        rotate_left
        ·simp only [Act.put, sZ1, sZ2, sZ3, i64_w, i32_w]
         rfl
        refine pure_ (i := 35) (N := some 92) (v := undef) (a' := ?_) L36' rfl rfl (any_of HT_.out kZ) (fun _ _ _ h => h) (Or.inr ⟨by rfl, rfl⟩) ?_ ?_
        rotate_left
        ·simp only [Act.put, sZ1, sZ2, sZ3, i64_w, i32_w]
         rfl
        refine pure_ (i := 36) (N := some 93) (v := undef) (a' := ?_) L37' rfl rfl (any_of HT_.out kZ) (fun _ _ _ h => h) (Or.inr ⟨by rfl, rfl⟩) ?_ ?_
        rotate_left
        ·simp only [Act.put, sZ1, sZ2, sZ3, i64_w, i32_w]
         rfl
        refine pure_ (i := 37) (N := some 94) (v := undef) (a' := ?_) L38' rfl rfl (any_of HT_.out kZ) (fun _ _ _ h => h) (Or.inr ⟨by rfl, rfl⟩) ?_ ?_
        rotate_left
        ·simp only [Act.put, sZ1, sZ2, sZ3, i64_w, i32_w]
         rfl
        refine pure_ (i := 38) (N := some 95) (v := undef) (a' := ?_) L39' rfl rfl (any_of HT_.out kZ) (fun _ _ _ h => h) (Or.inr ⟨by rfl, rfl⟩) ?_ ?_
        rotate_left
        ·simp only [Act.put, sZ1, sZ2, sZ3, i64_w, i32_w]
         rfl
        refine pure_ (i := 39) (N := some 96) (v := ?_) (a' := ?_) L40' rfl rfl (any_of HT_.out kZ) (fun _ _ _ h => h) (Or.inl ⟨by rfl, ?_⟩) ?_ ?_
        rotate_left
        ·intro w'
         go_simp
         with_reducible rfl
        rotate_left
        ·simp only [Act.put, sZ1, sZ2, sZ3, i64_w, i32_w]
         rfl
        refine pure_ (i := 40) (N := some 97) (v := ?_) (a' := ?_) L41' rfl rfl (any_of HT_.out kZ) (fun _ _ _ h => h) (Or.inl ⟨by rfl, ?_⟩) ?_ ?_
        rotate_left
        ·intro w'
         go_simp
         with_reducible rfl
        rotate_left
        ·simp only [Act.put, sZ1, sZ2, sZ3, i64_w, i32_w]
         rfl
        refine pure_ (i := 41) (N := some 98) (v := undef) (a' := ?_) L42' rfl rfl (any_of HT_.out kZ) (fun _ _ _ h => h) (Or.inr ⟨by rfl, rfl⟩) ?_ ?_
        rotate_left
        ·simp only [Act.put, sZ1, sZ2, sZ3, i64_w, i32_w]
         rfl
        refine pure_ (i := 42) (N := some 99) (v := undef) (a' := ?_) L43' rfl rfl (any_of HT_.out kZ) (fun _ _ _ h => h) (Or.inr ⟨by rfl, rfl⟩) ?_ ?_
        rotate_left
        ·simp only [Act.put, sZ1, sZ2, sZ3, i64_w, i32_w]
         rfl
        refine pure_ (i := 43) (N := some 100) (v := undef) (a' := ?_) L44' rfl rfl (any_of HT_.out kZ) (fun _ _ _ h => h) (Or.inr ⟨by rfl, rfl⟩) ?_ ?_
        rotate_left
        ·simp only [Act.put, sZ1, sZ2, sZ3, i64_w, i32_w]
         rfl
        refine pure_ (i := 44) (N := some 101) (v := undef) (a' := ?_) L45' rfl rfl (any_of HT_.out kZ) (fun _ _ _ h => h) (Or.inr ⟨by rfl, rfl⟩) ?_ ?_
        rotate_left
        ·simp only [Act.put, sZ1, sZ2, sZ3, i64_w, i32_w]
         rfl
        refine pure_ (i := 45) (N := some 102) (v := undef) (a' := ?_) L46' rfl rfl (any_of HT_.out kZ) (fun _ _ _ h => h) (Or.inr ⟨by rfl, rfl⟩) ?_ ?_
        rotate_left
        ·simp only [Act.put, sZ1, sZ2, sZ3, i64_w, i32_w]
         rfl
        refine pure_ (i := 46) (N := some 103) (v := undef) (a' := ?_) L47' rfl rfl (any_of HT_.out kZ) (fun _ _ _ h => h) (Or.inr ⟨by rfl, rfl⟩) ?_ ?_
        rotate_left
        ·simp only [Act.put, sZ1, sZ2, sZ3, i64_w, i32_w]
         rfl
        refine pure_ (i := 47) (N := some 104) (v := undef) (a' := ?_) L48' rfl rfl (any_of HT_.out kZ) (fun _ _ _ h => h) (Or.inr ⟨by rfl, rfl⟩) ?_ ?_
        rotate_left
        ·simp only [Act.put, sZ1, sZ2, sZ3, i64_w, i32_w]
         rfl
        refine pure_ (i := 48) (N := some 105) (v := ?_) (a' := ?_) L49' rfl rfl (any_of HT_.out kZ) (fun _ _ _ h => h) (Or.inl ⟨by rfl, ?_⟩) ?_ ?_
        rotate_left
        ·intro w'
         go_simp
         with_reducible rfl
        rotate_left
        ·simp only [Act.put, sZ1, sZ2, sZ3, i64_w, i32_w]
         rfl
        refine done_ (done_of HT_.out kZ) ?_
        try go_wp2
        go_ret
        exact ⟨tZC, bZ⟩
       rw [if_neg c54] at H
       have c54b0 : decide ((l0_0.length : Int) ≤ ((rd_T230 l0_1 x53_3).f0)) = false := decide_eq_false c54
       clear c54
       by_cases c60 : -9223372036854775808 ≤ ((rd_T230 l0_1 x53_3).f0)
       rotate_left
       ·rw [if_neg c60] at H
        exact absurd H (by simp)
       rw [if_pos c60] at H
       have c60b0 := eq_true c60
       have c60b1 := decide_eq_true c60
       clear c60
       by_cases c61 : ((rd_T230 l0_1 x53_3).f0) ≤ 9223372036854775807
       rotate_left
       ·rw [if_neg c61] at H
        exact absurd H (by simp)
       rw [if_pos c61] at H
       have c61b0 := eq_true c61
       have c61b1 := decide_eq_true c61
       try have c61b2 := eq_false (Nat.not_lt.2 c61)
       clear c61
       by_cases c62 : ((rd_T230 l0_1 x53_3).f1) = (wrap64 ((mget 0 x6_3 ((rd_T230 l0_1 x53_3).f0)) + 1))
       rotate_left
       ·rw [if_neg c62] at H
        have c62b0 : (((rd_T230 l0_1 x53_3).f1) == (wrap64 ((mget 0 x6_3 ((rd_T230 l0_1 x53_3).f0)) + 1))) = false := beq_eq_false_iff_ne.mpr c62
        have c62b1 : (((rd_T230 l0_1 x53_3).f1) != (wrap64 ((mget 0 x6_3 ((rd_T230 l0_1 x53_3).f0)) + 1))) = true := bne_iff_ne.mpr c62
        obtain rfl := Option.some.inj H
        have p211 : 0 ≤ (x53_3 : Int) := of_decide_eq_true tZE
        have q211 : x53_3 < (l0_1.length : Int) := of_decide_eq_true tZE
        obtain ⟨ad211, e211, hx211_0, hx211_1, hx211_2, hx211_3⟩ := at_T230 HR0_1.out x53_3 p211 q211
        cases e211
        replace hx211_0 := cZ HB hx211_0
        replace hx211_1 := cZ HB hx211_1
        replace hx211_2 := cZ HB hx211_2
        replace hx211_3 := cZ HB hx211_3
        replace p211 := eq_true p211
        replace q211 := eq_true q211
        try go_wp2_with (first | ((with_reducible refine gate_dst (N := 9) rfl ?_); (try (refine gate_guard (by rfl) ?_; dsimp only)); refine box_event ?hg (N := 9) ?hd (cs := #[.int .i64 0, .int .i64 0, .int .i64 0, .bool false]) (t := 230) ?hr ?_; (case hd => rfl); (case hg => rfl); (case hr => first | (go_simp; done) | (go_simp; rfl)); intro gb212 hg w103 hbox hb; replace HO_6 := aZ (Kd.Y_below (lZY HO_6.out) hb); replace HO_7 := aZ (Kd.Y_below (lZY HO_7.out) hb); have BK212 := aZ (hbox); have GW212 := aZ ((by rw [hg]; exact (below_size bZ) : w.heap.size ≤ gb212)); have GE212 := aZ ((by rw [hg]; exact (below_size bZ) : w.heap.size ≤ gb212)); replace HB := aZ (below_step bZ hb); have NB194_212 := aZ ((by rw [hg]; exact Nat.ne_of_lt (blk_lt (bkZ BK194.out)) : gb194 ≠ gb212)); have NB212_194 := aZ ((by rw [hg]; exact Nat.ne_of_gt (blk_lt (bkZ BK194.out)) : gb212 ≠ gb194)); replace BK194 := aZ (blk_below (bkZ BK194.out) hb); clear hb hbox hg; have hnb104 := NB212_194.out; have hnc104 := NB194_212.out; have hcz105_0 : w103.cell? ⟨gb212, 0, none⟩ = some (.int .i64 0) := (blk_cell BK212.out 0).trans rfl; have hcz105_1 : w103.cell? ⟨gb212, 1, none⟩ = some (.int .i64 0) := (blk_cell BK212.out 1).trans rfl; have hcz105_2 : w103.cell? ⟨gb212, 2, none⟩ = some (.int .i64 0) := (blk_cell BK212.out 2).trans rfl; have hcz105_3 : w103.cell? ⟨gb212, 3, none⟩ = some (.bool false) := (blk_cell BK212.out 3).trans rfl; have hfz105_0 := blk_frozen BK212.out 0; have hfz105_1 := blk_frozen BK212.out 1; have hfz105_2 := blk_frozen BK212.out 2; have hfz105_3 := blk_frozen BK212.out 3))
        have n0_ : Aside0 (Kd.Y my308 308 ((((w103.setCell ⟨gb212, 0, none⟩ (.int .i64 ((rd_T230 l0_1 x53_3).f0))).setCell ⟨gb212, 1, none⟩ (.int .i64 ((rd_T230 l0_1 x53_3).f1))).setCell ⟨gb212, 2, none⟩ (.int .i64 ((rd_T230 l0_1 x53_3).f2))).setCell ⟨gb212, 3, none⟩ (.bool ((rd_T230 l0_1 x53_3).f3))) w.heap.size (fun k_ => some k_ ≠ mapBlock v209) v206 x6_3) := ⟨by (with_reducible repeat (first | apply Kd.Y_alloc | apply Kd.Y_drewN | apply Kd.Y_drew)); exact Kd.Y_mono (Kd.Y_far (p := ⟨gb212, 3, none⟩) (Kd.Y_far (p := ⟨gb212, 2, none⟩) (Kd.Y_far (p := ⟨gb212, 1, none⟩) (Kd.Y_far (p := ⟨gb212, 0, none⟩) (Kd.Y_types HO_6.out BK212.out (by decide)) (fun _ hk => hk.2) (.int .i64 ((rd_T230 l0_1 x53_3).f0))) (fun _ hk => hk.2) (.int .i64 ((rd_T230 l0_1 x53_3).f1))) (fun _ hk => hk.2) (.int .i64 ((rd_T230 l0_1 x53_3).f2))) (fun _ hk => hk.2) (.bool ((rd_T230 l0_1 x53_3).f3))) (fun _ hk => hk.1)⟩
        have n1_ : Aside0 (Kd.Y my308 308 ((((w103.setCell ⟨gb212, 0, none⟩ (.int .i64 ((rd_T230 l0_1 x53_3).f0))).setCell ⟨gb212, 1, none⟩ (.int .i64 ((rd_T230 l0_1 x53_3).f1))).setCell ⟨gb212, 2, none⟩ (.int .i64 ((rd_T230 l0_1 x53_3).f2))).setCell ⟨gb212, 3, none⟩ (.bool ((rd_T230 l0_1 x53_3).f3))) w.heap.size (fun k_ => some k_ ≠ mapBlock v206) v209 x7_3) := ⟨by (with_reducible repeat (first | apply Kd.Y_alloc | apply Kd.Y_drewN | apply Kd.Y_drew)); exact Kd.Y_mono (Kd.Y_far (p := ⟨gb212, 3, none⟩) (Kd.Y_far (p := ⟨gb212, 2, none⟩) (Kd.Y_far (p := ⟨gb212, 1, none⟩) (Kd.Y_far (p := ⟨gb212, 0, none⟩) (Kd.Y_types HO_7.out BK212.out (by decide)) (fun _ hk => hk.2) (.int .i64 ((rd_T230 l0_1 x53_3).f0))) (fun _ hk => hk.2) (.int .i64 ((rd_T230 l0_1 x53_3).f1))) (fun _ hk => hk.2) (.int .i64 ((rd_T230 l0_1 x53_3).f2))) (fun _ hk => hk.2) (.bool ((rd_T230 l0_1 x53_3).f3))) (fun _ hk => hk.1)⟩
        have n2_ : Aside0 (((((w103.setCell ⟨gb212, 0, none⟩ (.int .i64 ((rd_T230 l0_1 x53_3).f0))).setCell ⟨gb212, 1, none⟩ (.int .i64 ((rd_T230 l0_1 x53_3).f1))).setCell ⟨gb212, 2, none⟩ (.int .i64 ((rd_T230 l0_1 x53_3).f2))).setCell ⟨gb212, 3, none⟩ (.bool ((rd_T230 l0_1 x53_3).f3))).heap[gb194]? = some (.cells #[.slice A0_0 l0_0.length c0_0, .slice (some ad211) l0_1.length c0_1] 86 (0, 0))) := ⟨by (with_reducible repeat (first | refine blk_drewN ?_ _ | refine blk_drew ?_ | refine blk_alloc ?_ _)); refine blk_far ?_ NB194_212.out _; (with_reducible repeat (first | refine blk_drewN ?_ _ | refine blk_drew ?_ | refine blk_alloc ?_ _)); refine blk_far ?_ NB194_212.out _; (with_reducible repeat (first | refine blk_drewN ?_ _ | refine blk_drew ?_ | refine blk_alloc ?_ _)); refine blk_far ?_ NB194_212.out _; (with_reducible repeat (first | refine blk_drewN ?_ _ | refine blk_drew ?_ | refine blk_alloc ?_ _)); refine blk_far ?_ NB194_212.out _; (with_reducible repeat (first | refine blk_drewN ?_ _ | refine blk_drew ?_ | refine blk_alloc ?_ _)); exact BK194.out⟩
        have n3_ : Aside0 (((((w103.setCell ⟨gb212, 0, none⟩ (.int .i64 ((rd_T230 l0_1 x53_3).f0))).setCell ⟨gb212, 1, none⟩ (.int .i64 ((rd_T230 l0_1 x53_3).f1))).setCell ⟨gb212, 2, none⟩ (.int .i64 ((rd_T230 l0_1 x53_3).f2))).setCell ⟨gb212, 3, none⟩ (.bool ((rd_T230 l0_1 x53_3).f3))).heap[gb212]? = some (.cells #[.int .i64 ((rd_T230 l0_1 x53_3).f0), .int .i64 ((rd_T230 l0_1 x53_3).f1), .int .i64 ((rd_T230 l0_1 x53_3).f2), .bool ((rd_T230 l0_1 x53_3).f3)] 230 (0, 0))) := ⟨by (with_reducible repeat (first | refine blk_drewN ?_ _ | refine blk_drew ?_ | refine blk_alloc ?_ _)); refine blk_put (cs := #[.int .i64 ((rd_T230 l0_1 x53_3).f0), .int .i64 ((rd_T230 l0_1 x53_3).f1), .int .i64 ((rd_T230 l0_1 x53_3).f2), .bool false]) ?_ 3 _ rfl; (with_reducible repeat (first | refine blk_drewN ?_ _ | refine blk_drew ?_ | refine blk_alloc ?_ _)); refine blk_put (cs := #[.int .i64 ((rd_T230 l0_1 x53_3).f0), .int .i64 ((rd_T230 l0_1 x53_3).f1), .int .i64 0, .bool false]) ?_ 2 _ rfl; (with_reducible repeat (first | refine blk_drewN ?_ _ | refine blk_drew ?_ | refine blk_alloc ?_ _)); refine blk_put (cs := #[.int .i64 ((rd_T230 l0_1 x53_3).f0), .int .i64 0, .int .i64 0, .bool false]) ?_ 1 _ rfl; (with_reducible repeat (first | refine blk_drewN ?_ _ | refine blk_drew ?_ | refine blk_alloc ?_ _)); refine blk_put (cs := #[.int .i64 0, .int .i64 0, .int .i64 0, .bool false]) ?_ 0 _ rfl; (with_reducible repeat (first | refine blk_drewN ?_ _ | refine blk_drew ?_ | refine blk_alloc ?_ _)); exact BK212.out⟩
        have n4_ : Aside0 (Below w.heap.size w ((((w103.setCell ⟨gb212, 0, none⟩ (.int .i64 ((rd_T230 l0_1 x53_3).f0))).setCell ⟨gb212, 1, none⟩ (.int .i64 ((rd_T230 l0_1 x53_3).f1))).setCell ⟨gb212, 2, none⟩ (.int .i64 ((rd_T230 l0_1 x53_3).f2))).setCell ⟨gb212, 3, none⟩ (.bool ((rd_T230 l0_1 x53_3).f3)))) := ⟨bZ⟩
        (try clear HO_6)
        (try clear HO_7)
        (try clear BK194)
        (try clear BK212)
        (try clear HB)
        generalize ((((w103.setCell ⟨gb212, 0, none⟩ (.int .i64 ((rd_T230 l0_1 x53_3).f0))).setCell ⟨gb212, 1, none⟩ (.int .i64 ((rd_T230 l0_1 x53_3).f1))).setCell ⟨gb212, 2, none⟩ (.int .i64 ((rd_T230 l0_1 x53_3).f2))).setCell ⟨gb212, 3, none⟩ (.bool ((rd_T230 l0_1 x53_3).f3))) = w106 at n0_ n1_ n2_ n3_ n4_ ⊢
        have HO_6 := n0_
        have HO_7 := n1_
        have BK194 := n2_
        have BK212 := n3_
        have HB := n4_
        clear n0_ n1_ n2_ n3_ n4_
        replace HO_6 := aZ (Kd.Y_drew HO_6.out)
        replace HO_7 := aZ (Kd.Y_drew HO_7.out)
        replace BK194 := aZ (blk_drew BK194.out)
        replace BK212 := aZ (blk_drew BK212.out)
        replace HB := aZ (below_drew1 HB.out)
        refine start_ (n := 49) (S := fun w' => w'.cell? ⟨gb212, 0, none⟩ = some (.int .i64 ((rd_T230 l0_1 x53_3).f0)) ∧ w'.cell? ⟨gb212, 1, none⟩ = some (.int .i64 ((rd_T230 l0_1 x53_3).f1)) ∧ w'.cell? ⟨gb212, 2, none⟩ = some (.int .i64 ((rd_T230 l0_1 x53_3).f2)) ∧ w'.cell? ⟨gb212, 3, none⟩ = some (.bool ((rd_T230 l0_1 x53_3).f3)) ∧ w'.cell? ⟨gb194, 0, none⟩ = some (.slice A0_0 l0_0.length c0_0) ∧ w'.cell? ⟨gb194, 1, none⟩ = some (.slice (some ad211) l0_1.length c0_1) ∧ (Instr.lookup 308 v206 (.int .i64 ((rd_T230 l0_1 x53_3).f0)) false).run Try.prog w' = .ok (.int .i64 (mget 0 x6_3 ((rd_T230 l0_1 x53_3).f0))) w') (ds := []) L0' kZ rfl rfl ⟨(blk_cell BK212.out 0).trans rfl, (blk_cell BK212.out 1).trans rfl, (blk_cell BK212.out 2).trans rfl, (blk_cell BK212.out 3).trans rfl, (blk_cell BK194.out 0).trans rfl, (blk_cell BK194.out 1).trans rfl, (Kd.Y_get (m := my308) (e := 308) (lZY HO_6.out) ((rd_T230 l0_1 x53_3).f0) (show okI _ from ⟨((of_decide_eq_true tZE) : -9223372036854775808 ≤ ((rd_T230 l0_1 x53_3).f0)), ((of_decide_eq_true tZE) : ((rd_T230 l0_1 x53_3).f0) ≤ 9223372036854775807)⟩))⟩ (fun hHeld => ?_); refine with_tabW impl_RegisterOk.tab16 impl_RegisterOk.bits16 (fun HT_ HW_ => ?_)
        generalize w106.drew = w107 at HO_6 HO_7 BK194 BK212 HB hHeld ⊢
        refine pure_ (i := 0) (N := some 57) (v := ?_) (a' := ?_) L1' rfl rfl (any_of HT_.out kZ) (fun _ _ _ h => h) (Or.inl ⟨by rfl, ?_⟩) ?_ ?_
        rotate_left
        ·intro w'
         go_simp
         with_reducible rfl
        rotate_left
        ·simp only [Act.put, sZ1, sZ2, sZ3, i64_w, i32_w]
         rfl
        refine take_ (i := 1) (N := some 58) (v := ?_) (a' := ?_) L2' rfl rfl (take_ofW HT_.out HW_.out kZ) (fun _ _ _ h => h) (Or.inl ⟨by rfl, ?_⟩) hHeld ?_ ?_
        rotate_left
        ·rintro w' ⟨s0, s1, s2, s3, s4, s5, s6⟩
         go_simp
         with_reducible rfl
        rotate_left
        ·simp only [Act.put, sZ1, sZ2, sZ3, i64_w, i32_w]
         rfl
        refine pure_ (i := 2) (N := some 59) (v := ?_) (a' := ?_) L3' rfl rfl (any_of HT_.out kZ) (fun _ _ _ h => h) (Or.inl ⟨by rfl, ?_⟩) ?_ ?_
        rotate_left
        ·intro w'
         go_simp
         with_reducible rfl
        rotate_left
        ·simp only [Act.put, sZ1, sZ2, sZ3, i64_w, i32_w]
         rfl
        refine pure_ (i := 3) (N := some 60) (v := ?_) (a' := ?_) L4' rfl rfl (any_of HT_.out kZ) (fun _ _ _ h => h) (Or.inl ⟨by rfl, ?_⟩) ?_ ?_
        rotate_left
        ·intro w'
         go_simp
         with_reducible rfl
        rotate_left
        ·simp only [Act.put, sZ1, sZ2, sZ3, i64_w, i32_w]
         rfl
        refine pure_ (i := 4) (N := some 61) (v := ?_) (a' := ?_) L5' rfl rfl (any_of HT_.out kZ) (fun _ _ _ h => h) (Or.inl ⟨by rfl, ?_⟩) ?_ ?_
        rotate_left
        ·intro w'
         go_simp
         with_reducible rfl
        rotate_left
        ·simp only [Act.put, sZ1, sZ2, sZ3, i64_w, i32_w]
         rfl
        refine pure_ (i := 6) (N := some 63) (v := ?_) (a' := ?_) L50' rfl rfl (any_of HT_.out kZ) (fun _ _ _ h => h) (Or.inl ⟨by rfl, ?_⟩) ?_ ?_
        rotate_left
        ·intro w'
         go_simp
         with_reducible rfl
        rotate_left
        ·simp only [Act.put, sZ1, sZ2, sZ3, i64_w, i32_w]
         rfl
        refine take_ (i := 5) (N := some 62) (v := ?_) (a' := ?_) L7' rfl rfl (take_ofW HT_.out HW_.out kZ) (fun _ _ _ h => h) (Or.inl ⟨by rfl, ?_⟩) hHeld ?_ ?_
        rotate_left
        ·rintro w' ⟨s0, s1, s2, s3, s4, s5, s6⟩
         go_simp
         with_reducible rfl
        rotate_left
        ·simp only [Act.put, sZ1, sZ2, sZ3, i64_w, i32_w]
         rfl
        refine take_ (i := 7) (N := some 64) (v := ?_) (a' := ?_) L8' rfl rfl (take_ofW HT_.out HW_.out kZ) (fun _ _ _ h => h) (Or.inl ⟨by rfl, ?_⟩) hHeld ?_ ?_
        rotate_left
        ·rintro w' ⟨s0, s1, s2, s3, s4, s5, s6⟩
         go_simp
         with_reducible rfl
        rotate_left
        ·simp only [Act.put, sZ1, sZ2, sZ3, i64_w, i32_w]
         rfl
        refine pure_ (i := 8) (N := some 65) (v := ?_) (a' := ?_) L9' rfl rfl (any_of HT_.out kZ) (fun _ _ _ h => h) (Or.inl ⟨by rfl, ?_⟩) ?_ ?_
        rotate_left
        ·intro w'
         go_simp
         with_reducible rfl
        rotate_left
        ·simp only [Act.put, sZ1, sZ2, sZ3, i64_w, i32_w]
         rfl
        refine pure_ (i := 9) (N := some 66) (v := ?_) (a' := ?_) L10' rfl rfl (any_of HT_.out kZ) (fun _ _ _ h => h) (Or.inl ⟨by rfl, ?_⟩) ?_ ?_
        rotate_left
        ·intro w'
         go_simp
         with_reducible rfl
        rotate_left
        ·simp only [Act.put, sZ1, sZ2, sZ3, i64_w, i32_w]
         rfl
        refine pure_ (i := 10) (N := some 67) (v := ?_) (a' := ?_) L11' rfl rfl (any_of HT_.out kZ) (fun _ _ _ h => h) (Or.inl ⟨by rfl, ?_⟩) ?_ ?_
        rotate_left
        ·intro w'
         go_simp
         with_reducible rfl
        rotate_left
        ·simp only [Act.put, sZ1, sZ2, sZ3, i64_w, i32_w]
         rfl
        refine pure_ (i := 11) (N := some 68) (v := ?_) (a' := ?_) L12' rfl rfl (any_of HT_.out kZ) (fun _ _ _ h => h) (Or.inl ⟨by rfl, ?_⟩) ?_ ?_
        rotate_left
        ·intro w'
         go_simp
         with_reducible rfl
        rotate_left
        ·simp only [Act.put, sZ1, sZ2, sZ3, i64_w, i32_w]
         rfl
        refine pure_ (i := 12) (N := some 69) (v := ?_) (a' := ?_) L13' rfl rfl (any_of HT_.out kZ) (fun _ _ _ h => h) (Or.inl ⟨by rfl, ?_⟩) ?_ ?_
        rotate_left
        ·intro w'
         go_simp
         with_reducible rfl
        rotate_left
        ·simp only [Act.put, sZ1, sZ2, sZ3, i64_w, i32_w]
         rfl
        refine pure_ (i := 14) (N := some 71) (v := ?_) (a' := ?_) L51' rfl rfl (any_of HT_.out kZ) (fun _ _ _ h => h) (Or.inl ⟨by rfl, ?_⟩) ?_ ?_
        rotate_left
        ·intro w'
         go_simp
         with_reducible rfl
        rotate_left
        ·simp only [Act.put, sZ1, sZ2, sZ3, i64_w, i32_w]
         rfl
        refine pure_ (i := 15) (N := some 72) (v := ?_) (a' := ?_) L52' rfl rfl (any_of HT_.out kZ) (fun _ _ _ h => h) (Or.inl ⟨by rfl, ?_⟩) ?_ ?_
        rotate_left
        ·intro w'
         go_simp
         with_reducible rfl
        rotate_left
        ·simp only [Act.put, sZ1, sZ2, sZ3, i64_w, i32_w]
         rfl
        refine take_ (i := 13) (N := some 70) (v := ?_) (a' := ?_) L16' rfl rfl (take_ofW HT_.out HW_.out kZ) (fun _ _ _ h => h) (Or.inl ⟨by rfl, ?_⟩) hHeld ?_ ?_
        rotate_left
        ·rintro w' ⟨s0, s1, s2, s3, s4, s5, s6⟩
         go_simp
         with_reducible rfl
        rotate_left
        ·simp only [Act.put, sZ1, sZ2, sZ3, i64_w, i32_w]
         rfl
        refine take_ (i := 16) (N := some 73) (v := ?_) (a' := ?_) L17' rfl rfl (take_ofW HT_.out HW_.out kZ) (fun _ _ _ h => h) (Or.inl ⟨by rfl, ?_⟩) hHeld ?_ ?_
        rotate_left
        ·rintro w' ⟨s0, s1, s2, s3, s4, s5, s6⟩
         go_simp
         with_reducible rfl
        rotate_left
        ·simp only [Act.put, sZ1, sZ2, sZ3, i64_w, i32_w]
         rfl
        refine take_ (i := 17) (N := some 74) (v := ?_) (a' := ?_) L18' rfl rfl (take_ofW HT_.out HW_.out kZ) (fun _ _ _ h => h) (Or.inl ⟨by rfl, ?_⟩) hHeld ?_ ?_
        rotate_left
        ·rintro w' ⟨s0, s1, s2, s3, s4, s5, s6⟩
         go_simp
         with_reducible rfl
        rotate_left
        ·simp only [Act.put, sZ1, sZ2, sZ3, i64_w, i32_w]
         rfl
        refine pure_ (i := 18) (N := some 75) (v := ?_) (a' := ?_) L19' rfl rfl (any_of HT_.out kZ) (fun _ _ _ h => h) (Or.inl ⟨by rfl, ?_⟩) ?_ ?_
        rotate_left
        ·intro w'
         go_simp
         with_reducible rfl
        rotate_left
        ·simp only [Act.put, sZ1, sZ2, sZ3, i64_w, i32_w]
         rfl
        refine pure_ (i := 19) (N := some 76) (v := ?_) (a' := ?_) L20' rfl rfl (any_of HT_.out kZ) (fun _ _ _ h => h) (Or.inl ⟨by rfl, ?_⟩) ?_ ?_
        rotate_left
        ·intro w'
         go_simp
         with_reducible rfl
        rotate_left
        ·simp only [Act.put, sZ1, sZ2, sZ3, i64_w, i32_w]
         rfl
        refine pure_ (i := 20) (N := some 77) (v := ?_) (a' := ?_) L21' rfl rfl (any_of HT_.out kZ) (fun _ _ _ h => h) (Or.inl ⟨by rfl, ?_⟩) ?_ ?_
        rotate_left
        ·intro w'
         go_simp
         with_reducible rfl
        rotate_left
        ·simp only [Act.put, sZ1, sZ2, sZ3, i64_w, i32_w]
         rfl
        refine pure_ (i := 21) (N := some 78) (v := ?_) (a' := ?_) L22' rfl rfl (any_of HT_.out kZ) (fun _ _ _ h => h) (Or.inl ⟨by rfl, ?_⟩) ?_ ?_
        rotate_left
        ·intro w'
         go_simp
         with_reducible rfl
        rotate_left
        ·simp only [Act.put, sZ1, sZ2, sZ3, i64_w, i32_w]
         rfl
        refine pure_ (i := 22) (N := some 79) (v := undef) (a' := ?_) L23' rfl rfl (any_of HT_.out kZ) (fun _ _ _ h => h) (Or.inr ⟨by rfl, rfl⟩) ?_ ?_
        rotate_left
        ·simp only [Act.put, sZ1, sZ2, sZ3, i64_w, i32_w]
         rfl
        refine pure_ (i := 23) (N := some 80) (v := undef) (a' := ?_) L24' rfl rfl (any_of HT_.out kZ) (fun _ _ _ h => h) (Or.inr ⟨by rfl, rfl⟩) ?_ ?_
        rotate_left
        ·simp only [Act.put, sZ1, sZ2, sZ3, i64_w, i32_w]
         rfl
        refine pure_ (i := 24) (N := some 81) (v := undef) (a' := ?_) L25' rfl rfl (any_of HT_.out kZ) (fun _ _ _ h => h) (Or.inr ⟨by rfl, rfl⟩) ?_ ?_
        rotate_left
        ·simp only [Act.put, sZ1, sZ2, sZ3, i64_w, i32_w]
         rfl
        refine pure_ (i := 25) (N := some 82) (v := undef) (a' := ?_) L26' rfl rfl (any_of HT_.out kZ) (fun _ _ _ h => h) (Or.inr ⟨by rfl, rfl⟩) ?_ ?_
        rotate_left
        ·simp only [Act.put, sZ1, sZ2, sZ3, i64_w, i32_w]
         rfl
        refine pure_ (i := 26) (N := some 83) (v := undef) (a' := ?_) L27' rfl rfl (any_of HT_.out kZ) (fun _ _ _ h => h) (Or.inr ⟨by rfl, rfl⟩) ?_ ?_
        rotate_left
        ·simp only [Act.put, sZ1, sZ2, sZ3, i64_w, i32_w]
         rfl
        refine pure_ (i := 27) (N := some 84) (v := undef) (a' := ?_) L28' rfl rfl (any_of HT_.out kZ) (fun _ _ _ h => h) (Or.inr ⟨by rfl, rfl⟩) ?_ ?_
        rotate_left
        ·simp only [Act.put, sZ1, sZ2, sZ3, i64_w, i32_w]
         rfl
        refine pure_ (i := 28) (N := some 85) (v := undef) (a' := ?_) L29' rfl rfl (any_of HT_.out kZ) (fun _ _ _ h => h) (Or.inr ⟨by rfl, rfl⟩) ?_ ?_
        rotate_left
        ·simp only [Act.put, sZ1, sZ2, sZ3, i64_w, i32_w]
         rfl
        refine pure_ (i := 29) (N := some 86) (v := undef) (a' := ?_) L30' rfl rfl (any_of HT_.out kZ) (fun _ _ _ h => h) (Or.inr ⟨by rfl, rfl⟩) ?_ ?_
        rotate_left
        ·simp only [Act.put, sZ1, sZ2, sZ3, i64_w, i32_w]
         rfl
        refine pure_ (i := 30) (N := some 87) (v := undef) (a' := ?_) L31' rfl rfl (any_of HT_.out kZ) (fun _ _ _ h => h) (Or.inr ⟨by rfl, rfl⟩) ?_ ?_
        rotate_left
        ·simp only [Act.put, sZ1, sZ2, sZ3, i64_w, i32_w]
         rfl
        refine pure_ (i := 31) (N := some 88) (v := undef) (a' := ?_) L32' rfl rfl (any_of HT_.out kZ) (fun _ _ _ h => h) (Or.inr ⟨by rfl, rfl⟩) ?_ ?_
        rotate_left
        ·simp only [Act.put, sZ1, sZ2, sZ3, i64_w, i32_w]
         rfl
        refine pure_ (i := 32) (N := some 89) (v := undef) (a' := ?_) L33' rfl rfl (any_of HT_.out kZ) (fun _ _ _ h => h) (Or.inr ⟨by rfl, rfl⟩) ?_ ?_
        rotate_left
        ·simp only [Act.put, sZ1, sZ2, sZ3, i64_w, i32_w]
         rfl
        refine pure_ (i := 33) (N := some 90) (v := ?_) (a' := ?_) L34' rfl rfl (any_of HT_.out kZ) (fun _ _ _ h => h) (Or.inl ⟨by rfl, ?_⟩) ?_ ?_
        rotate_left
        ·intro w'
         go_simp
         with_reducible rfl
        rotate_left
        ·simp only [Act.put, sZ1, sZ2, sZ3, i64_w, i32_w]
         rfl
        refine pure_ (i := 34) (N := some 91) (v := ?_) (a' := ?_) L35' rfl rfl (any_of HT_.out kZ) (fun _ _ _ h => h) (Or.inl ⟨by rfl, ?_⟩) ?_ ?_
        rotate_left
        ·intro w'
         go_simp
         with_reducible rfl
        rotate_left
        ·simp only [Act.put, sZ1, sZ2, sZ3, i64_w, i32_w]
         rfl
        refine pure_ (i := 35) (N := some 92) (v := undef) (a' := ?_) L36' rfl rfl (any_of HT_.out kZ) (fun _ _ _ h => h) (Or.inr ⟨by rfl, rfl⟩) ?_ ?_
        rotate_left
        ·simp only [Act.put, sZ1, sZ2, sZ3, i64_w, i32_w]
         rfl
        refine pure_ (i := 36) (N := some 93) (v := undef) (a' := ?_) L37' rfl rfl (any_of HT_.out kZ) (fun _ _ _ h => h) (Or.inr ⟨by rfl, rfl⟩) ?_ ?_
        rotate_left
        ·simp only [Act.put, sZ1, sZ2, sZ3, i64_w, i32_w]
         rfl
        refine pure_ (i := 37) (N := some 94) (v := undef) (a' := ?_) L38' rfl rfl (any_of HT_.out kZ) (fun _ _ _ h => h) (Or.inr ⟨by rfl, rfl⟩) ?_ ?_
        rotate_left
        ·simp only [Act.put, sZ1, sZ2, sZ3, i64_w, i32_w]
         rfl
        refine pure_ (i := 38) (N := some 95) (v := undef) (a' := ?_) L39' rfl rfl (any_of HT_.out kZ) (fun _ _ _ h => h) (Or.inr ⟨by rfl, rfl⟩) ?_ ?_
        rotate_left
        ·simp only [Act.put, sZ1, sZ2, sZ3, i64_w, i32_w]
         rfl
        refine pure_ (i := 39) (N := some 96) (v := ?_) (a' := ?_) L40' rfl rfl (any_of HT_.out kZ) (fun _ _ _ h => h) (Or.inl ⟨by rfl, ?_⟩) ?_ ?_
        rotate_left
        ·intro w'
         go_simp
         with_reducible rfl
        rotate_left
        ·simp only [Act.put, sZ1, sZ2, sZ3, i64_w, i32_w]
         rfl
        refine pure_ (i := 40) (N := some 97) (v := ?_) (a' := ?_) L41' rfl rfl (any_of HT_.out kZ) (fun _ _ _ h => h) (Or.inl ⟨by rfl, ?_⟩) ?_ ?_
        rotate_left
        ·intro w'
         go_simp
         with_reducible rfl
        rotate_left
        ·simp only [Act.put, sZ1, sZ2, sZ3, i64_w, i32_w]
         rfl
        refine pure_ (i := 41) (N := some 98) (v := undef) (a' := ?_) L42' rfl rfl (any_of HT_.out kZ) (fun _ _ _ h => h) (Or.inr ⟨by rfl, rfl⟩) ?_ ?_
        rotate_left
        ·simp only [Act.put, sZ1, sZ2, sZ3, i64_w, i32_w]
         rfl
        refine pure_ (i := 42) (N := some 99) (v := undef) (a' := ?_) L43' rfl rfl (any_of HT_.out kZ) (fun _ _ _ h => h) (Or.inr ⟨by rfl, rfl⟩) ?_ ?_
        rotate_left
        ·simp only [Act.put, sZ1, sZ2, sZ3, i64_w, i32_w]
         rfl
        refine pure_ (i := 43) (N := some 100) (v := undef) (a' := ?_) L44' rfl rfl (any_of HT_.out kZ) (fun _ _ _ h => h) (Or.inr ⟨by rfl, rfl⟩) ?_ ?_
        rotate_left
        ·simp only [Act.put, sZ1, sZ2, sZ3, i64_w, i32_w]
         rfl
        refine pure_ (i := 44) (N := some 101) (v := undef) (a' := ?_) L45' rfl rfl (any_of HT_.out kZ) (fun _ _ _ h => h) (Or.inr ⟨by rfl, rfl⟩) ?_ ?_
        rotate_left
        ·simp only [Act.put, sZ1, sZ2, sZ3, i64_w, i32_w]
         rfl
        refine pure_ (i := 45) (N := some 102) (v := undef) (a' := ?_) L46' rfl rfl (any_of HT_.out kZ) (fun _ _ _ h => h) (Or.inr ⟨by rfl, rfl⟩) ?_ ?_
        rotate_left
        ·simp only [Act.put, sZ1, sZ2, sZ3, i64_w, i32_w]
         rfl
        refine pure_ (i := 46) (N := some 103) (v := undef) (a' := ?_) L47' rfl rfl (any_of HT_.out kZ) (fun _ _ _ h => h) (Or.inr ⟨by rfl, rfl⟩) ?_ ?_
        rotate_left
        ·simp only [Act.put, sZ1, sZ2, sZ3, i64_w, i32_w]
         rfl
        refine pure_ (i := 47) (N := some 104) (v := undef) (a' := ?_) L48' rfl rfl (any_of HT_.out kZ) (fun _ _ _ h => h) (Or.inr ⟨by rfl, rfl⟩) ?_ ?_
        rotate_left
        ·simp only [Act.put, sZ1, sZ2, sZ3, i64_w, i32_w]
         rfl
        refine pure_ (i := 48) (N := some 105) (v := ?_) (a' := ?_) L49' rfl rfl (any_of HT_.out kZ) (fun _ _ _ h => h) (Or.inl ⟨by rfl, ?_⟩) ?_ ?_
        rotate_left
        ·intro w'
         go_simp
         with_reducible rfl
        rotate_left
        ·simp only [Act.put, sZ1, sZ2, sZ3, i64_w, i32_w]
         rfl
        refine done_ (done_of HT_.out kZ) ?_
        try go_wp2
        go_ret
        exact ⟨tZC, bZ⟩
       rw [if_pos c62] at H
       have c62b0 : (((rd_T230 l0_1 x53_3).f1) == (wrap64 ((mget 0 x6_3 ((rd_T230 l0_1 x53_3).f0)) + 1))) = true := beq_iff_eq.mpr c62
       have c62b1 : (((rd_T230 l0_1 x53_3).f1) != (wrap64 ((mget 0 x6_3 ((rd_T230 l0_1 x53_3).f0)) + 1))) = false := bne_eq_false_iff_eq.mpr c62
       clear c62
       replace H := Option.bind_eq_some_iff.mp H
       obtain ⟨t213, A630, H⟩ := H
       replace H : (if 0 ≤ ((rd_T230 l0_1 x53_3).f0) then (if ((rd_T230 l0_1 x53_3).f0) < (l0_0.length : Int) then (if t213 > ((rd_T304 l0_0 ((rd_T230 l0_1 x53_3).f0)).f1) then (some false) else ((impl_isDay.f ((rd_T230 l0_1 x53_3).f2)).bind fun t215 => (if t215 = true then (if ((rd_T230 l0_1 x53_3).f2) < (mget 0 x7_3 ((rd_T230 l0_1 x53_3).f0)) then (some false) else (if x6_3.length < 140737488355328 then (if -9223372036854775808 ≤ ((rd_T230 l0_1 x53_3).f2) then (if ((rd_T230 l0_1 x53_3).f2) ≤ 9223372036854775807 then (if x7_3.length < 140737488355328 then (impl_RegisterOk.l1 k3 (((rd_T230 l0_1 x53_3).f0, wrap64 ((mget 0 x6_3 ((rd_T230 l0_1 x53_3).f0)) + 1)) :: x6_3) (((rd_T230 l0_1 x53_3).f0, (rd_T230 l0_1 x53_3).f2) :: x7_3) l0_1 (l0_1.length : Int) (wrap64 (x53_3 + 1)) l0_0 l0_1) else (none)) else (none)) else (none)) else (none))) else (some false)))) else (none)) else (none)) = some r := H
       have A63 := Aside0.mk A630
       clear A630
       by_cases c64 : 0 ≤ ((rd_T230 l0_1 x53_3).f0)
       rotate_left
       ·rw [if_neg c64] at H
        exact absurd H (by simp)
       rw [if_pos c64] at H
       have c64b0 := decide_eq_true c64
       clear c64
       by_cases c65 : ((rd_T230 l0_1 x53_3).f0) < (l0_0.length : Int)
       rotate_left
       ·rw [if_neg c65] at H
        exact absurd H (by simp)
       rw [if_pos c65] at H
       have c65b0 := decide_eq_true c65
       clear c65
       by_cases c66 : t213 > ((rd_T304 l0_0 ((rd_T230 l0_1 x53_3).f0)).f1)
       ·rw [if_pos c66] at H
        have c66b0 : decide (((rd_T304 l0_0 ((rd_T230 l0_1 x53_3).f0)).f1) < t213) = true := decide_eq_true c66
        clear c66
        obtain rfl := Option.some.inj H
        have p211 : 0 ≤ (x53_3 : Int) := of_decide_eq_true tZE
        have q211 : x53_3 < (l0_1.length : Int) := of_decide_eq_true tZE
        obtain ⟨ad211, e211, hx211_0, hx211_1, hx211_2, hx211_3⟩ := at_T230 HR0_1.out x53_3 p211 q211
        cases e211
        replace hx211_0 := cZ HB hx211_0
        replace hx211_1 := cZ HB hx211_1
        replace hx211_2 := cZ HB hx211_2
        replace hx211_3 := cZ HB hx211_3
        replace p211 := eq_true p211
        replace q211 := eq_true q211
        try go_wp2_with (first | ((with_reducible refine gate_dst (N := 9) rfl ?_); (try (refine gate_guard (by rfl) ?_; dsimp only)); refine box_event ?hg (N := 9) ?hd (cs := #[.int .i64 0, .int .i64 0, .int .i64 0, .bool false]) (t := 230) ?hr ?_; (case hd => rfl); (case hg => rfl); (case hr => first | (go_simp; done) | (go_simp; rfl)); intro gb212 hg w67 hbox hb; replace HO_6 := aZ (Kd.Y_below (lZY HO_6.out) hb); replace HO_7 := aZ (Kd.Y_below (lZY HO_7.out) hb); have BK212 := aZ (hbox); have GW212 := aZ ((by rw [hg]; exact (below_size bZ) : w.heap.size ≤ gb212)); have GE212 := aZ ((by rw [hg]; exact (below_size bZ) : w.heap.size ≤ gb212)); replace HB := aZ (below_step bZ hb); have NB194_212 := aZ ((by rw [hg]; exact Nat.ne_of_lt (blk_lt (bkZ BK194.out)) : gb194 ≠ gb212)); have NB212_194 := aZ ((by rw [hg]; exact Nat.ne_of_gt (blk_lt (bkZ BK194.out)) : gb212 ≠ gb194)); replace BK194 := aZ (blk_below (bkZ BK194.out) hb); clear hb hbox hg; have hnb68 := NB212_194.out; have hnc68 := NB194_212.out; have hcz69_0 : w67.cell? ⟨gb212, 0, none⟩ = some (.int .i64 0) := (blk_cell BK212.out 0).trans rfl; have hcz69_1 : w67.cell? ⟨gb212, 1, none⟩ = some (.int .i64 0) := (blk_cell BK212.out 1).trans rfl; have hcz69_2 : w67.cell? ⟨gb212, 2, none⟩ = some (.int .i64 0) := (blk_cell BK212.out 2).trans rfl; have hcz69_3 : w67.cell? ⟨gb212, 3, none⟩ = some (.bool false) := (blk_cell BK212.out 3).trans rfl; have hfz69_0 := blk_frozen BK212.out 0; have hfz69_1 := blk_frozen BK212.out 1; have hfz69_2 := blk_frozen BK212.out 2; have hfz69_3 := blk_frozen BK212.out 3))
        have n0_ : Aside0 (Kd.Y my308 308 ((((w67.setCell ⟨gb212, 0, none⟩ (.int .i64 ((rd_T230 l0_1 x53_3).f0))).setCell ⟨gb212, 1, none⟩ (.int .i64 ((rd_T230 l0_1 x53_3).f1))).setCell ⟨gb212, 2, none⟩ (.int .i64 ((rd_T230 l0_1 x53_3).f2))).setCell ⟨gb212, 3, none⟩ (.bool ((rd_T230 l0_1 x53_3).f3))) w.heap.size (fun k_ => some k_ ≠ mapBlock v209) v206 x6_3) := ⟨by (with_reducible repeat (first | apply Kd.Y_alloc | apply Kd.Y_drewN | apply Kd.Y_drew)); exact Kd.Y_mono (Kd.Y_far (p := ⟨gb212, 3, none⟩) (Kd.Y_far (p := ⟨gb212, 2, none⟩) (Kd.Y_far (p := ⟨gb212, 1, none⟩) (Kd.Y_far (p := ⟨gb212, 0, none⟩) (Kd.Y_types HO_6.out BK212.out (by decide)) (fun _ hk => hk.2) (.int .i64 ((rd_T230 l0_1 x53_3).f0))) (fun _ hk => hk.2) (.int .i64 ((rd_T230 l0_1 x53_3).f1))) (fun _ hk => hk.2) (.int .i64 ((rd_T230 l0_1 x53_3).f2))) (fun _ hk => hk.2) (.bool ((rd_T230 l0_1 x53_3).f3))) (fun _ hk => hk.1)⟩
        have n1_ : Aside0 (Kd.Y my308 308 ((((w67.setCell ⟨gb212, 0, none⟩ (.int .i64 ((rd_T230 l0_1 x53_3).f0))).setCell ⟨gb212, 1, none⟩ (.int .i64 ((rd_T230 l0_1 x53_3).f1))).setCell ⟨gb212, 2, none⟩ (.int .i64 ((rd_T230 l0_1 x53_3).f2))).setCell ⟨gb212, 3, none⟩ (.bool ((rd_T230 l0_1 x53_3).f3))) w.heap.size (fun k_ => some k_ ≠ mapBlock v206) v209 x7_3) := ⟨by (with_reducible repeat (first | apply Kd.Y_alloc | apply Kd.Y_drewN | apply Kd.Y_drew)); exact Kd.Y_mono (Kd.Y_far (p := ⟨gb212, 3, none⟩) (Kd.Y_far (p := ⟨gb212, 2, none⟩) (Kd.Y_far (p := ⟨gb212, 1, none⟩) (Kd.Y_far (p := ⟨gb212, 0, none⟩) (Kd.Y_types HO_7.out BK212.out (by decide)) (fun _ hk => hk.2) (.int .i64 ((rd_T230 l0_1 x53_3).f0))) (fun _ hk => hk.2) (.int .i64 ((rd_T230 l0_1 x53_3).f1))) (fun _ hk => hk.2) (.int .i64 ((rd_T230 l0_1 x53_3).f2))) (fun _ hk => hk.2) (.bool ((rd_T230 l0_1 x53_3).f3))) (fun _ hk => hk.1)⟩
        have n2_ : Aside0 (((((w67.setCell ⟨gb212, 0, none⟩ (.int .i64 ((rd_T230 l0_1 x53_3).f0))).setCell ⟨gb212, 1, none⟩ (.int .i64 ((rd_T230 l0_1 x53_3).f1))).setCell ⟨gb212, 2, none⟩ (.int .i64 ((rd_T230 l0_1 x53_3).f2))).setCell ⟨gb212, 3, none⟩ (.bool ((rd_T230 l0_1 x53_3).f3))).heap[gb194]? = some (.cells #[.slice A0_0 l0_0.length c0_0, .slice (some ad211) l0_1.length c0_1] 86 (0, 0))) := ⟨by (with_reducible repeat (first | refine blk_drewN ?_ _ | refine blk_drew ?_ | refine blk_alloc ?_ _)); refine blk_far ?_ NB194_212.out _; (with_reducible repeat (first | refine blk_drewN ?_ _ | refine blk_drew ?_ | refine blk_alloc ?_ _)); refine blk_far ?_ NB194_212.out _; (with_reducible repeat (first | refine blk_drewN ?_ _ | refine blk_drew ?_ | refine blk_alloc ?_ _)); refine blk_far ?_ NB194_212.out _; (with_reducible repeat (first | refine blk_drewN ?_ _ | refine blk_drew ?_ | refine blk_alloc ?_ _)); refine blk_far ?_ NB194_212.out _; (with_reducible repeat (first | refine blk_drewN ?_ _ | refine blk_drew ?_ | refine blk_alloc ?_ _)); exact BK194.out⟩
        have n3_ : Aside0 (((((w67.setCell ⟨gb212, 0, none⟩ (.int .i64 ((rd_T230 l0_1 x53_3).f0))).setCell ⟨gb212, 1, none⟩ (.int .i64 ((rd_T230 l0_1 x53_3).f1))).setCell ⟨gb212, 2, none⟩ (.int .i64 ((rd_T230 l0_1 x53_3).f2))).setCell ⟨gb212, 3, none⟩ (.bool ((rd_T230 l0_1 x53_3).f3))).heap[gb212]? = some (.cells #[.int .i64 ((rd_T230 l0_1 x53_3).f0), .int .i64 ((rd_T230 l0_1 x53_3).f1), .int .i64 ((rd_T230 l0_1 x53_3).f2), .bool ((rd_T230 l0_1 x53_3).f3)] 230 (0, 0))) := ⟨by (with_reducible repeat (first | refine blk_drewN ?_ _ | refine blk_drew ?_ | refine blk_alloc ?_ _)); refine blk_put (cs := #[.int .i64 ((rd_T230 l0_1 x53_3).f0), .int .i64 ((rd_T230 l0_1 x53_3).f1), .int .i64 ((rd_T230 l0_1 x53_3).f2), .bool false]) ?_ 3 _ rfl; (with_reducible repeat (first | refine blk_drewN ?_ _ | refine blk_drew ?_ | refine blk_alloc ?_ _)); refine blk_put (cs := #[.int .i64 ((rd_T230 l0_1 x53_3).f0), .int .i64 ((rd_T230 l0_1 x53_3).f1), .int .i64 0, .bool false]) ?_ 2 _ rfl; (with_reducible repeat (first | refine blk_drewN ?_ _ | refine blk_drew ?_ | refine blk_alloc ?_ _)); refine blk_put (cs := #[.int .i64 ((rd_T230 l0_1 x53_3).f0), .int .i64 0, .int .i64 0, .bool false]) ?_ 1 _ rfl; (with_reducible repeat (first | refine blk_drewN ?_ _ | refine blk_drew ?_ | refine blk_alloc ?_ _)); refine blk_put (cs := #[.int .i64 0, .int .i64 0, .int .i64 0, .bool false]) ?_ 0 _ rfl; (with_reducible repeat (first | refine blk_drewN ?_ _ | refine blk_drew ?_ | refine blk_alloc ?_ _)); exact BK212.out⟩
        have n4_ : Aside0 (Below w.heap.size w ((((w67.setCell ⟨gb212, 0, none⟩ (.int .i64 ((rd_T230 l0_1 x53_3).f0))).setCell ⟨gb212, 1, none⟩ (.int .i64 ((rd_T230 l0_1 x53_3).f1))).setCell ⟨gb212, 2, none⟩ (.int .i64 ((rd_T230 l0_1 x53_3).f2))).setCell ⟨gb212, 3, none⟩ (.bool ((rd_T230 l0_1 x53_3).f3)))) := ⟨bZ⟩
        (try clear HO_6)
        (try clear HO_7)
        (try clear BK194)
        (try clear BK212)
        (try clear HB)
        generalize ((((w67.setCell ⟨gb212, 0, none⟩ (.int .i64 ((rd_T230 l0_1 x53_3).f0))).setCell ⟨gb212, 1, none⟩ (.int .i64 ((rd_T230 l0_1 x53_3).f1))).setCell ⟨gb212, 2, none⟩ (.int .i64 ((rd_T230 l0_1 x53_3).f2))).setCell ⟨gb212, 3, none⟩ (.bool ((rd_T230 l0_1 x53_3).f3))) = w70 at n0_ n1_ n2_ n3_ n4_ ⊢
        have HO_6 := n0_
        have HO_7 := n1_
        have BK194 := n2_
        have BK212 := n3_
        have HB := n4_
        clear n0_ n1_ n2_ n3_ n4_
        replace HO_6 := aZ (Kd.Y_drew HO_6.out)
        replace HO_7 := aZ (Kd.Y_drew HO_7.out)
        replace BK194 := aZ (blk_drew BK194.out)
        replace BK212 := aZ (blk_drew BK212.out)
        replace HB := aZ (below_drew1 HB.out)
        have p214 : 0 ≤ (((rd_T230 l0_1 x53_3).f0) : Int) := of_decide_eq_true tZE
        have q214 : ((rd_T230 l0_1 x53_3).f0) < (l0_0.length : Int) := of_decide_eq_true tZE
        obtain ⟨ad214, e214, hx214_0, hx214_1⟩ := at_T304 HR0_0.out ((rd_T230 l0_1 x53_3).f0) p214 q214
        have hw214_1 := hx214_1
        have hw214_0 := hx214_0
        cases e214
        replace hx214_0 := cZ HB hx214_0
        replace hx214_1 := cZ HB hx214_1
        replace p214 := eq_true p214
        replace q214 := eq_true q214
        refine start_ (n := 49) (S := fun w' => w'.cell? ⟨gb212, 0, none⟩ = some (.int .i64 ((rd_T230 l0_1 x53_3).f0)) ∧ w'.cell? ⟨gb212, 1, none⟩ = some (.int .i64 ((rd_T230 l0_1 x53_3).f1)) ∧ w'.cell? ⟨gb212, 2, none⟩ = some (.int .i64 ((rd_T230 l0_1 x53_3).f2)) ∧ w'.cell? ⟨gb212, 3, none⟩ = some (.bool ((rd_T230 l0_1 x53_3).f3)) ∧ w'.cell? ⟨gb194, 0, none⟩ = some (.slice (some ad214) l0_0.length c0_0) ∧ w'.cell? ⟨gb194, 1, none⟩ = some (.slice (some ad211) l0_1.length c0_1) ∧ (Instr.lookup 308 v206 (.int .i64 ((rd_T230 l0_1 x53_3).f0)) false).run Try.prog w' = .ok (.int .i64 (mget 0 x6_3 ((rd_T230 l0_1 x53_3).f0))) w' ∧ w'.cell? (ad214.add ((((rd_T230 l0_1 x53_3).f0)).toNat * 2)) = some (.string ((rd_T304 l0_0 ((rd_T230 l0_1 x53_3).f0)).f0)) ∧ w'.cell? ⟨(ad214.add ((((rd_T230 l0_1 x53_3).f0)).toNat * 2)).block, (ad214.add ((((rd_T230 l0_1 x53_3).f0)).toNat * 2)).off + 1, none⟩ = some (.int .i64 ((rd_T304 l0_0 ((rd_T230 l0_1 x53_3).f0)).f1))) (ds := []) L0' kZ rfl rfl ⟨(blk_cell BK212.out 0).trans rfl, (blk_cell BK212.out 1).trans rfl, (blk_cell BK212.out 2).trans rfl, (blk_cell BK212.out 3).trans rfl, (blk_cell BK194.out 0).trans rfl, (blk_cell BK194.out 1).trans rfl, (Kd.Y_get (m := my308) (e := 308) (lZY HO_6.out) ((rd_T230 l0_1 x53_3).f0) (show okI _ from ⟨((of_decide_eq_true tZE) : -9223372036854775808 ≤ ((rd_T230 l0_1 x53_3).f0)), ((of_decide_eq_true tZE) : ((rd_T230 l0_1 x53_3).f0) ≤ 9223372036854775807)⟩)), ((HB.out.cell (World.block_lt_of_cell? w _ hw214_0)).trans hw214_0), ((HB.out.cell (World.block_lt_of_cell? w _ hw214_1)).trans hw214_1)⟩ (fun hHeld => ?_); refine with_tabW impl_RegisterOk.tab16 impl_RegisterOk.bits16 (fun HT_ HW_ => ?_)
        generalize w70.drew = w71 at HO_6 HO_7 BK194 BK212 HB hx214_0 hx214_1 hHeld ⊢
        refine pure_ (i := 0) (N := some 57) (v := ?_) (a' := ?_) L1' rfl rfl (any_of HT_.out kZ) (fun _ _ _ h => h) (Or.inl ⟨by rfl, ?_⟩) ?_ ?_
        rotate_left
        ·intro w'
         go_simp
         with_reducible rfl
        rotate_left
        ·simp only [Act.put, sZ1, sZ2, sZ3, i64_w, i32_w]
         rfl
        refine take_ (i := 1) (N := some 58) (v := ?_) (a' := ?_) L2' rfl rfl (take_ofW HT_.out HW_.out kZ) (fun _ _ _ h => h) (Or.inl ⟨by rfl, ?_⟩) hHeld ?_ ?_
        rotate_left
        ·rintro w' ⟨s0, s1, s2, s3, s4, s5, s6, s7, s8⟩
         go_simp
         with_reducible rfl
        rotate_left
        ·simp only [Act.put, sZ1, sZ2, sZ3, i64_w, i32_w]
         rfl
        refine pure_ (i := 2) (N := some 59) (v := ?_) (a' := ?_) L3' rfl rfl (any_of HT_.out kZ) (fun _ _ _ h => h) (Or.inl ⟨by rfl, ?_⟩) ?_ ?_
        rotate_left
        ·intro w'
         go_simp
         with_reducible rfl
        rotate_left
        ·simp only [Act.put, sZ1, sZ2, sZ3, i64_w, i32_w]
         rfl
        refine pure_ (i := 3) (N := some 60) (v := ?_) (a' := ?_) L4' rfl rfl (any_of HT_.out kZ) (fun _ _ _ h => h) (Or.inl ⟨by rfl, ?_⟩) ?_ ?_
        rotate_left
        ·intro w'
         go_simp
         with_reducible rfl
        rotate_left
        ·simp only [Act.put, sZ1, sZ2, sZ3, i64_w, i32_w]
         rfl
        refine pure_ (i := 4) (N := some 61) (v := ?_) (a' := ?_) L5' rfl rfl (any_of HT_.out kZ) (fun _ _ _ h => h) (Or.inl ⟨by rfl, ?_⟩) ?_ ?_
        rotate_left
        ·intro w'
         go_simp
         with_reducible rfl
        rotate_left
        ·simp only [Act.put, sZ1, sZ2, sZ3, i64_w, i32_w]
         rfl
        refine pure_ (i := 6) (N := some 63) (v := ?_) (a' := ?_) L50' rfl rfl (any_of HT_.out kZ) (fun _ _ _ h => h) (Or.inl ⟨by rfl, ?_⟩) ?_ ?_
        rotate_left
        ·intro w'
         go_simp
         with_reducible rfl
        rotate_left
        ·simp only [Act.put, sZ1, sZ2, sZ3, i64_w, i32_w]
         rfl
        refine take_ (i := 5) (N := some 62) (v := ?_) (a' := ?_) L7' rfl rfl (take_ofW HT_.out HW_.out kZ) (fun _ _ _ h => h) (Or.inl ⟨by rfl, ?_⟩) hHeld ?_ ?_
        rotate_left
        ·rintro w' ⟨s0, s1, s2, s3, s4, s5, s6, s7, s8⟩
         go_simp
         with_reducible rfl
        rotate_left
        ·simp only [Act.put, sZ1, sZ2, sZ3, i64_w, i32_w]
         rfl
        refine take_ (i := 7) (N := some 64) (v := ?_) (a' := ?_) L8' rfl rfl (take_ofW HT_.out HW_.out kZ) (fun _ _ _ h => h) (Or.inl ⟨by rfl, ?_⟩) hHeld ?_ ?_
        rotate_left
        ·rintro w' ⟨s0, s1, s2, s3, s4, s5, s6, s7, s8⟩
         go_simp
         with_reducible rfl
        rotate_left
        ·simp only [Act.put, sZ1, sZ2, sZ3, i64_w, i32_w]
         rfl
        refine pure_ (i := 8) (N := some 65) (v := ?_) (a' := ?_) L9' rfl rfl (any_of HT_.out kZ) (fun _ _ _ h => h) (Or.inl ⟨by rfl, ?_⟩) ?_ ?_
        rotate_left
        ·intro w'
         go_simp
         with_reducible rfl
        rotate_left
        ·simp only [Act.put, sZ1, sZ2, sZ3, i64_w, i32_w]
         rfl
        refine pure_ (i := 9) (N := some 66) (v := ?_) (a' := ?_) L10' rfl rfl (any_of HT_.out kZ) (fun _ _ _ h => h) (Or.inl ⟨by rfl, ?_⟩) ?_ ?_
        rotate_left
        ·intro w'
         go_simp
         with_reducible rfl
        rotate_left
        ·simp only [Act.put, sZ1, sZ2, sZ3, i64_w, i32_w]
         rfl
        refine pure_ (i := 10) (N := some 67) (v := ?_) (a' := ?_) L11' rfl rfl (any_of HT_.out kZ) (fun _ _ _ h => h) (Or.inl ⟨by rfl, ?_⟩) ?_ ?_
        rotate_left
        ·intro w'
         go_simp
         with_reducible rfl
        rotate_left
        ·simp only [Act.put, sZ1, sZ2, sZ3, i64_w, i32_w]
         rfl
        refine pure_ (i := 11) (N := some 68) (v := ?_) (a' := ?_) L12' rfl rfl (any_of HT_.out kZ) (fun _ _ _ h => h) (Or.inl ⟨by rfl, ?_⟩) ?_ ?_
        rotate_left
        ·intro w'
         go_simp
         with_reducible rfl
        rotate_left
        ·simp only [Act.put, sZ1, sZ2, sZ3, i64_w, i32_w]
         rfl
        refine pure_ (i := 12) (N := some 69) (v := ?_) (a' := ?_) L13' rfl rfl (any_of HT_.out kZ) (fun _ _ _ h => h) (Or.inl ⟨by rfl, ?_⟩) ?_ ?_
        rotate_left
        ·intro w'
         go_simp
         with_reducible rfl
        rotate_left
        ·simp only [Act.put, sZ1, sZ2, sZ3, i64_w, i32_w]
         rfl
        refine pure_ (i := 14) (N := some 71) (v := ?_) (a' := ?_) L51' rfl rfl (any_of HT_.out kZ) (fun _ _ _ h => h) (Or.inl ⟨by rfl, ?_⟩) ?_ ?_
        rotate_left
        ·intro w'
         go_simp
         with_reducible rfl
        rotate_left
        ·simp only [Act.put, sZ1, sZ2, sZ3, i64_w, i32_w]
         rfl
        refine pure_ (i := 15) (N := some 72) (v := ?_) (a' := ?_) L52' rfl rfl (any_of HT_.out kZ) (fun _ _ _ h => h) (Or.inl ⟨by rfl, ?_⟩) ?_ ?_
        rotate_left
        ·intro w'
         go_simp
         with_reducible rfl
        rotate_left
        ·simp only [Act.put, sZ1, sZ2, sZ3, i64_w, i32_w]
         rfl
        refine take_ (i := 13) (N := some 70) (v := ?_) (a' := ?_) L16' rfl rfl (take_ofW HT_.out HW_.out kZ) (fun _ _ _ h => h) (Or.inl ⟨by rfl, ?_⟩) hHeld ?_ ?_
        rotate_left
        ·rintro w' ⟨s0, s1, s2, s3, s4, s5, s6, s7, s8⟩
         go_simp
         with_reducible rfl
        rotate_left
        ·simp only [Act.put, sZ1, sZ2, sZ3, i64_w, i32_w]
         rfl
        refine take_ (i := 16) (N := some 73) (v := ?_) (a' := ?_) L17' rfl rfl (take_ofW HT_.out HW_.out kZ) (fun _ _ _ h => h) (Or.inl ⟨by rfl, ?_⟩) hHeld ?_ ?_
        rotate_left
        ·rintro w' ⟨s0, s1, s2, s3, s4, s5, s6, s7, s8⟩
         go_simp
         with_reducible rfl
        rotate_left
        ·simp only [Act.put, sZ1, sZ2, sZ3, i64_w, i32_w]
         rfl
        refine take_ (i := 17) (N := some 74) (v := ?_) (a' := ?_) L18' rfl rfl (take_ofW HT_.out HW_.out kZ) (fun _ _ _ h => h) (Or.inl ⟨by rfl, ?_⟩) hHeld ?_ ?_
        rotate_left
        ·rintro w' ⟨s0, s1, s2, s3, s4, s5, s6, s7, s8⟩
         go_simp
         with_reducible rfl
        rotate_left
        ·simp only [Act.put, sZ1, sZ2, sZ3, i64_w, i32_w]
         rfl
        refine pure_ (i := 18) (N := some 75) (v := ?_) (a' := ?_) L19' rfl rfl (any_of HT_.out kZ) (fun _ _ _ h => h) (Or.inl ⟨by rfl, ?_⟩) ?_ ?_
        rotate_left
        ·intro w'
         go_simp
         with_reducible rfl
        rotate_left
        ·simp only [Act.put, sZ1, sZ2, sZ3, i64_w, i32_w]
         rfl
        refine pure_ (i := 19) (N := some 76) (v := ?_) (a' := ?_) L20' rfl rfl (any_of HT_.out kZ) (fun _ _ _ h => h) (Or.inl ⟨by rfl, ?_⟩) ?_ ?_
        rotate_left
        ·intro w'
         go_simp
         with_reducible rfl
        rotate_left
        ·simp only [Act.put, sZ1, sZ2, sZ3, i64_w, i32_w]
         rfl
        refine pure_ (i := 20) (N := some 77) (v := ?_) (a' := ?_) L21' rfl rfl (any_of HT_.out kZ) (fun _ _ _ h => h) (Or.inl ⟨by rfl, ?_⟩) ?_ ?_
        rotate_left
        ·intro w'
         go_simp
         with_reducible rfl
        rotate_left
        ·simp only [Act.put, sZ1, sZ2, sZ3, i64_w, i32_w]
         rfl
        refine pure_ (i := 21) (N := some 78) (v := ?_) (a' := ?_) L22' rfl rfl (any_of HT_.out kZ) (fun _ _ _ h => h) (Or.inl ⟨by rfl, ?_⟩) ?_ ?_
        rotate_left
        ·intro w'
         go_simp
         with_reducible rfl
        rotate_left
        ·simp only [Act.put, sZ1, sZ2, sZ3, i64_w, i32_w]
         rfl
        refine pure_ (i := 22) (N := some 79) (v := ?_) (a' := ?_) L23' rfl rfl (any_of HT_.out kZ) (fun _ _ _ h => h) (Or.inl ⟨by rfl, ?_⟩) ?_ ?_
        rotate_left
        ·intro w'
         go_simp
         with_reducible rfl
        rotate_left
        ·simp only [Act.put, sZ1, sZ2, sZ3, i64_w, i32_w]
         rfl
        refine pure_ (i := 25) (N := some 82) (v := ?_) (a' := ?_) L53' rfl rfl (any_of HT_.out kZ) (fun _ _ _ h => h) (Or.inl ⟨by rfl, ?_⟩) ?_ ?_
        rotate_left
        ·intro w'
         go_simp
         with_reducible rfl
        rotate_left
        ·simp only [Act.put, sZ1, sZ2, sZ3, i64_w, i32_w]
         rfl
        refine pure_ (i := 27) (N := some 84) (v := ?_) (a' := ?_) L54' rfl rfl (any_of HT_.out kZ) (fun _ _ _ h => h) (Or.inl ⟨by rfl, ?_⟩) ?_ ?_
        rotate_left
        ·intro w'
         go_simp
         with_reducible rfl
        rotate_left
        ·simp only [Act.put, sZ1, sZ2, sZ3, i64_w, i32_w]
         rfl
        refine take_ (i := 23) (N := some 80) (v := ?_) (a' := ?_) L55' rfl rfl (take_ofW HT_.out HW_.out kZ) (fun _ _ _ h => h) (Or.inl ⟨by rfl, ?_⟩) hHeld ?_ ?_
        rotate_left
        ·rintro w' ⟨s0, s1, s2, s3, s4, s5, s6, s7, s8⟩
         go_simp
         with_reducible rfl
        rotate_left
        ·simp only [Act.put, sZ1, sZ2, sZ3, i64_w, i32_w]
         rfl
        refine take_ (i := 26) (N := some 83) (v := ?_) (a' := ?_) L56' rfl rfl (take_ofW HT_.out HW_.out kZ) (fun _ _ _ h => h) (Or.inl ⟨by rfl, ?_⟩) hHeld ?_ ?_
        rotate_left
        ·rintro w' ⟨s0, s1, s2, s3, s4, s5, s6, s7, s8⟩
         go_simp
         with_reducible rfl
        rotate_left
        ·simp only [Act.put, sZ1, sZ2, sZ3, i64_w, i32_w]
         rfl
        refine take_ (i := 28) (N := some 85) (v := ?_) (a' := ?_) L57' rfl rfl (take_ofW HT_.out HW_.out kZ) (fun _ _ _ h => h) (Or.inl ⟨by rfl, ?_⟩) hHeld ?_ ?_
        rotate_left
        ·rintro w' ⟨s0, s1, s2, s3, s4, s5, s6, s7, s8⟩
         go_simp
         with_reducible rfl
        rotate_left
        ·simp only [Act.put, sZ1, sZ2, sZ3, i64_w, i32_w]
         rfl
        refine pure_ (i := 29) (N := some 86) (v := ?_) (a' := ?_) L58' rfl rfl (any_of HT_.out kZ) (fun _ _ _ h => h) (Or.inl ⟨by rfl, ?_⟩) ?_ ?_
        rotate_left
        ·intro w'
         go_simp
         with_reducible rfl
        rotate_left
        ·simp only [Act.put, sZ1, sZ2, sZ3, i64_w, i32_w]
         rfl
        refine pure_ (i := 30) (N := some 87) (v := ?_) (a' := ?_) L59' rfl rfl (any_of HT_.out kZ) (fun _ _ _ h => h) (Or.inl ⟨by rfl, ?_⟩) ?_ ?_
        rotate_left
        ·intro w'
         go_simp
         with_reducible rfl
        rotate_left
        ·simp only [Act.put, sZ1, sZ2, sZ3, i64_w, i32_w]
         rfl
        refine take_ (i := 31) (N := some 88) (v := ?_) (a' := ?_) L60' rfl rfl (take_ofW HT_.out HW_.out kZ) (fun _ _ _ h => h) (Or.inl ⟨by rfl, ?_⟩) hHeld ?_ ?_
        rotate_left
        ·rintro w' ⟨s0, s1, s2, s3, s4, s5, s6, s7, s8⟩
         go_simp
         with_reducible rfl
        rotate_left
        ·simp only [Act.put, sZ1, sZ2, sZ3, i64_w, i32_w]
         rfl
        refine one_ (i := 24) (N := some 81) L32' rfl rfl (one_of HT_.out kZ) (by decide) (fun K hK => ?_)
        refine goes_ Try.func226 kZ rfl #[.int .i64 ((rd_T230 l0_1 x53_3).f1)] (by rfl) rfl rfl tZA ?_
        with_reducible refine (impl_digitsIn.calls k3 ((rd_T230 l0_1 x53_3).f1) t213 _ A63.out).mono ?_
        rintro e w72 ⟨rfl, hb⟩
        refine ⟨_, rfl, ?_⟩
        replace HO_6 := aZ (Kd.Y_below (lZY HO_6.out) hb)
        replace HO_7 := aZ (Kd.Y_below (lZY HO_7.out) hb)
        replace BK194 := aZ (blk_below (bkZ BK194.out) hb)
        replace BK212 := aZ (blk_below (bkZ BK212.out) hb)
        replace HB := aZ (below_step bZ hb)
        (try clear hb)
        (try clear hb2)
        (try clear hk)
        (try clear hi)
        refine hK.out _ _ ⟨(blk_cell BK212.out 0).trans rfl, (blk_cell BK212.out 1).trans rfl, (blk_cell BK212.out 2).trans rfl, (blk_cell BK212.out 3).trans rfl, (blk_cell BK194.out 0).trans rfl, (blk_cell BK194.out 1).trans rfl, (Kd.Y_get (m := my308) (e := 308) (lZY HO_6.out) ((rd_T230 l0_1 x53_3).f0) (show okI _ from ⟨((of_decide_eq_true tZE) : -9223372036854775808 ≤ ((rd_T230 l0_1 x53_3).f0)), ((of_decide_eq_true tZE) : ((rd_T230 l0_1 x53_3).f0) ≤ 9223372036854775807)⟩)), ((HB.out.cell (World.block_lt_of_cell? w _ hw214_0)).trans hw214_0), ((HB.out.cell (World.block_lt_of_cell? w _ hw214_1)).trans hw214_1)⟩ (fun hHeld => ?_)
        clear hK K
        refine norm_ (a' := ?_) ?_ ?_
        rotate_left
        ·show Act.put _ (some 81) _ = _
         simp only [Act.put, sZ1, sZ2, sZ3, i64_w, i32_w]
         rfl
        refine pure_ (i := 32) (N := some 89) (v := ?_) (a' := ?_) L33' rfl rfl (any_of HT_.out kZ) (fun _ _ _ h => h) (Or.inl ⟨by rfl, ?_⟩) ?_ ?_
        rotate_left
        ·intro w'
         go_simp
         with_reducible rfl
        rotate_left
        ·simp only [Act.put, sZ1, sZ2, sZ3, i64_w, i32_w]
         rfl
        refine pure_ (i := 33) (N := some 90) (v := ?_) (a' := ?_) L34' rfl rfl (any_of HT_.out kZ) (fun _ _ _ h => h) (Or.inl ⟨by rfl, ?_⟩) ?_ ?_
        rotate_left
        ·intro w'
         go_simp
         with_reducible rfl
        rotate_left
        ·simp only [Act.put, sZ1, sZ2, sZ3, i64_w, i32_w]
         rfl
        refine pure_ (i := 34) (N := some 91) (v := ?_) (a' := ?_) L35' rfl rfl (any_of HT_.out kZ) (fun _ _ _ h => h) (Or.inl ⟨by rfl, ?_⟩) ?_ ?_
        rotate_left
        ·intro w'
         go_simp
         with_reducible rfl
        rotate_left
        ·simp only [Act.put, sZ1, sZ2, sZ3, i64_w, i32_w]
         rfl
        refine pure_ (i := 35) (N := some 92) (v := undef) (a' := ?_) L36' rfl rfl (any_of HT_.out kZ) (fun _ _ _ h => h) (Or.inr ⟨by rfl, rfl⟩) ?_ ?_
        rotate_left
        ·simp only [Act.put, sZ1, sZ2, sZ3, i64_w, i32_w]
         rfl
        refine pure_ (i := 36) (N := some 93) (v := undef) (a' := ?_) L37' rfl rfl (any_of HT_.out kZ) (fun _ _ _ h => h) (Or.inr ⟨by rfl, rfl⟩) ?_ ?_
        rotate_left
        ·simp only [Act.put, sZ1, sZ2, sZ3, i64_w, i32_w]
         rfl
        refine pure_ (i := 37) (N := some 94) (v := undef) (a' := ?_) L38' rfl rfl (any_of HT_.out kZ) (fun _ _ _ h => h) (Or.inr ⟨by rfl, rfl⟩) ?_ ?_
        rotate_left
        ·simp only [Act.put, sZ1, sZ2, sZ3, i64_w, i32_w]
         rfl
        refine pure_ (i := 38) (N := some 95) (v := undef) (a' := ?_) L39' rfl rfl (any_of HT_.out kZ) (fun _ _ _ h => h) (Or.inr ⟨by rfl, rfl⟩) ?_ ?_
        rotate_left
        ·simp only [Act.put, sZ1, sZ2, sZ3, i64_w, i32_w]
         rfl
        refine pure_ (i := 39) (N := some 96) (v := ?_) (a' := ?_) L40' rfl rfl (any_of HT_.out kZ) (fun _ _ _ h => h) (Or.inl ⟨by rfl, ?_⟩) ?_ ?_
        rotate_left
        ·intro w'
         go_simp
         with_reducible rfl
        rotate_left
        ·simp only [Act.put, sZ1, sZ2, sZ3, i64_w, i32_w]
         rfl
        refine pure_ (i := 40) (N := some 97) (v := ?_) (a' := ?_) L41' rfl rfl (any_of HT_.out kZ) (fun _ _ _ h => h) (Or.inl ⟨by rfl, ?_⟩) ?_ ?_
        rotate_left
        ·intro w'
         go_simp
         with_reducible rfl
        rotate_left
        ·simp only [Act.put, sZ1, sZ2, sZ3, i64_w, i32_w]
         rfl
        refine pure_ (i := 41) (N := some 98) (v := undef) (a' := ?_) L42' rfl rfl (any_of HT_.out kZ) (fun _ _ _ h => h) (Or.inr ⟨by rfl, rfl⟩) ?_ ?_
        rotate_left
        ·simp only [Act.put, sZ1, sZ2, sZ3, i64_w, i32_w]
         rfl
        refine pure_ (i := 42) (N := some 99) (v := undef) (a' := ?_) L43' rfl rfl (any_of HT_.out kZ) (fun _ _ _ h => h) (Or.inr ⟨by rfl, rfl⟩) ?_ ?_
        rotate_left
        ·simp only [Act.put, sZ1, sZ2, sZ3, i64_w, i32_w]
         rfl
        refine pure_ (i := 43) (N := some 100) (v := undef) (a' := ?_) L44' rfl rfl (any_of HT_.out kZ) (fun _ _ _ h => h) (Or.inr ⟨by rfl, rfl⟩) ?_ ?_
        rotate_left
        ·simp only [Act.put, sZ1, sZ2, sZ3, i64_w, i32_w]
         rfl
        refine pure_ (i := 44) (N := some 101) (v := undef) (a' := ?_) L45' rfl rfl (any_of HT_.out kZ) (fun _ _ _ h => h) (Or.inr ⟨by rfl, rfl⟩) ?_ ?_
        rotate_left
        ·simp only [Act.put, sZ1, sZ2, sZ3, i64_w, i32_w]
         rfl
        refine pure_ (i := 45) (N := some 102) (v := undef) (a' := ?_) L46' rfl rfl (any_of HT_.out kZ) (fun _ _ _ h => h) (Or.inr ⟨by rfl, rfl⟩) ?_ ?_
        rotate_left
        ·simp only [Act.put, sZ1, sZ2, sZ3, i64_w, i32_w]
         rfl
        refine pure_ (i := 46) (N := some 103) (v := undef) (a' := ?_) L47' rfl rfl (any_of HT_.out kZ) (fun _ _ _ h => h) (Or.inr ⟨by rfl, rfl⟩) ?_ ?_
        rotate_left
        ·simp only [Act.put, sZ1, sZ2, sZ3, i64_w, i32_w]
         rfl
        refine pure_ (i := 47) (N := some 104) (v := undef) (a' := ?_) L48' rfl rfl (any_of HT_.out kZ) (fun _ _ _ h => h) (Or.inr ⟨by rfl, rfl⟩) ?_ ?_
        rotate_left
        ·simp only [Act.put, sZ1, sZ2, sZ3, i64_w, i32_w]
         rfl
        refine pure_ (i := 48) (N := some 105) (v := ?_) (a' := ?_) L49' rfl rfl (any_of HT_.out kZ) (fun _ _ _ h => h) (Or.inl ⟨by rfl, ?_⟩) ?_ ?_
        rotate_left
        ·intro w'
         go_simp
         with_reducible rfl
        rotate_left
        ·simp only [Act.put, sZ1, sZ2, sZ3, i64_w, i32_w]
         rfl
        refine done_ (done_of HT_.out kZ) ?_
        try go_wp2
        go_ret
        exact ⟨tZC, bZ⟩
       rw [if_neg c66] at H
       have c66b0 : decide (((rd_T304 l0_0 ((rd_T230 l0_1 x53_3).f0)).f1) < t213) = false := decide_eq_false c66
       clear c66
       replace H := Option.bind_eq_some_iff.mp H
       obtain ⟨t215, A730, H⟩ := H
       replace H : (if t215 = true then (if ((rd_T230 l0_1 x53_3).f2) < (mget 0 x7_3 ((rd_T230 l0_1 x53_3).f0)) then (some false) else (if x6_3.length < 140737488355328 then (if -9223372036854775808 ≤ ((rd_T230 l0_1 x53_3).f2) then (if ((rd_T230 l0_1 x53_3).f2) ≤ 9223372036854775807 then (if x7_3.length < 140737488355328 then (impl_RegisterOk.l1 k3 (((rd_T230 l0_1 x53_3).f0, wrap64 ((mget 0 x6_3 ((rd_T230 l0_1 x53_3).f0)) + 1)) :: x6_3) (((rd_T230 l0_1 x53_3).f0, (rd_T230 l0_1 x53_3).f2) :: x7_3) l0_1 (l0_1.length : Int) (wrap64 (x53_3 + 1)) l0_0 l0_1) else (none)) else (none)) else (none)) else (none))) else (some false)) = some r := H
       have A73 := Aside0.mk A730
       clear A730
       by_cases c74 : t215 = true
       rotate_left
       ·replace c74 := Bool.eq_false_iff.mpr c74
        subst c74
        have H1 : (some false) = some r := by rw [if_neg (show ¬ (false = true) by decide)] at H; exact H
        clear H
        have H := H1
        clear H1
        obtain rfl := Option.some.inj H
        have p211 : 0 ≤ (x53_3 : Int) := of_decide_eq_true tZE
        have q211 : x53_3 < (l0_1.length : Int) := of_decide_eq_true tZE
        obtain ⟨ad211, e211, hx211_0, hx211_1, hx211_2, hx211_3⟩ := at_T230 HR0_1.out x53_3 p211 q211
        cases e211
        replace hx211_0 := cZ HB hx211_0
        replace hx211_1 := cZ HB hx211_1
        replace hx211_2 := cZ HB hx211_2
        replace hx211_3 := cZ HB hx211_3
        replace p211 := eq_true p211
        replace q211 := eq_true q211
        try go_wp2_with (first | ((with_reducible refine gate_dst (N := 9) rfl ?_); (try (refine gate_guard (by rfl) ?_; dsimp only)); refine box_event ?hg (N := 9) ?hd (cs := #[.int .i64 0, .int .i64 0, .int .i64 0, .bool false]) (t := 230) ?hr ?_; (case hd => rfl); (case hg => rfl); (case hr => first | (go_simp; done) | (go_simp; rfl)); intro gb212 hg w97 hbox hb; replace HO_6 := aZ (Kd.Y_below (lZY HO_6.out) hb); replace HO_7 := aZ (Kd.Y_below (lZY HO_7.out) hb); have BK212 := aZ (hbox); have GW212 := aZ ((by rw [hg]; exact (below_size bZ) : w.heap.size ≤ gb212)); have GE212 := aZ ((by rw [hg]; exact (below_size bZ) : w.heap.size ≤ gb212)); replace HB := aZ (below_step bZ hb); have NB194_212 := aZ ((by rw [hg]; exact Nat.ne_of_lt (blk_lt (bkZ BK194.out)) : gb194 ≠ gb212)); have NB212_194 := aZ ((by rw [hg]; exact Nat.ne_of_gt (blk_lt (bkZ BK194.out)) : gb212 ≠ gb194)); replace BK194 := aZ (blk_below (bkZ BK194.out) hb); clear hb hbox hg; have hnb98 := NB212_194.out; have hnc98 := NB194_212.out; have hcz99_0 : w97.cell? ⟨gb212, 0, none⟩ = some (.int .i64 0) := (blk_cell BK212.out 0).trans rfl; have hcz99_1 : w97.cell? ⟨gb212, 1, none⟩ = some (.int .i64 0) := (blk_cell BK212.out 1).trans rfl; have hcz99_2 : w97.cell? ⟨gb212, 2, none⟩ = some (.int .i64 0) := (blk_cell BK212.out 2).trans rfl; have hcz99_3 : w97.cell? ⟨gb212, 3, none⟩ = some (.bool false) := (blk_cell BK212.out 3).trans rfl; have hfz99_0 := blk_frozen BK212.out 0; have hfz99_1 := blk_frozen BK212.out 1; have hfz99_2 := blk_frozen BK212.out 2; have hfz99_3 := blk_frozen BK212.out 3))
        have n0_ : Aside0 (Kd.Y my308 308 ((((w97.setCell ⟨gb212, 0, none⟩ (.int .i64 ((rd_T230 l0_1 x53_3).f0))).setCell ⟨gb212, 1, none⟩ (.int .i64 ((rd_T230 l0_1 x53_3).f1))).setCell ⟨gb212, 2, none⟩ (.int .i64 ((rd_T230 l0_1 x53_3).f2))).setCell ⟨gb212, 3, none⟩ (.bool ((rd_T230 l0_1 x53_3).f3))) w.heap.size (fun k_ => some k_ ≠ mapBlock v209) v206 x6_3) := ⟨by (with_reducible repeat (first | apply Kd.Y_alloc | apply Kd.Y_drewN | apply Kd.Y_drew)); exact Kd.Y_mono (Kd.Y_far (p := ⟨gb212, 3, none⟩) (Kd.Y_far (p := ⟨gb212, 2, none⟩) (Kd.Y_far (p := ⟨gb212, 1, none⟩) (Kd.Y_far (p := ⟨gb212, 0, none⟩) (Kd.Y_types HO_6.out BK212.out (by decide)) (fun _ hk => hk.2) (.int .i64 ((rd_T230 l0_1 x53_3).f0))) (fun _ hk => hk.2) (.int .i64 ((rd_T230 l0_1 x53_3).f1))) (fun _ hk => hk.2) (.int .i64 ((rd_T230 l0_1 x53_3).f2))) (fun _ hk => hk.2) (.bool ((rd_T230 l0_1 x53_3).f3))) (fun _ hk => hk.1)⟩
        have n1_ : Aside0 (Kd.Y my308 308 ((((w97.setCell ⟨gb212, 0, none⟩ (.int .i64 ((rd_T230 l0_1 x53_3).f0))).setCell ⟨gb212, 1, none⟩ (.int .i64 ((rd_T230 l0_1 x53_3).f1))).setCell ⟨gb212, 2, none⟩ (.int .i64 ((rd_T230 l0_1 x53_3).f2))).setCell ⟨gb212, 3, none⟩ (.bool ((rd_T230 l0_1 x53_3).f3))) w.heap.size (fun k_ => some k_ ≠ mapBlock v206) v209 x7_3) := ⟨by (with_reducible repeat (first | apply Kd.Y_alloc | apply Kd.Y_drewN | apply Kd.Y_drew)); exact Kd.Y_mono (Kd.Y_far (p := ⟨gb212, 3, none⟩) (Kd.Y_far (p := ⟨gb212, 2, none⟩) (Kd.Y_far (p := ⟨gb212, 1, none⟩) (Kd.Y_far (p := ⟨gb212, 0, none⟩) (Kd.Y_types HO_7.out BK212.out (by decide)) (fun _ hk => hk.2) (.int .i64 ((rd_T230 l0_1 x53_3).f0))) (fun _ hk => hk.2) (.int .i64 ((rd_T230 l0_1 x53_3).f1))) (fun _ hk => hk.2) (.int .i64 ((rd_T230 l0_1 x53_3).f2))) (fun _ hk => hk.2) (.bool ((rd_T230 l0_1 x53_3).f3))) (fun _ hk => hk.1)⟩
        have n2_ : Aside0 (((((w97.setCell ⟨gb212, 0, none⟩ (.int .i64 ((rd_T230 l0_1 x53_3).f0))).setCell ⟨gb212, 1, none⟩ (.int .i64 ((rd_T230 l0_1 x53_3).f1))).setCell ⟨gb212, 2, none⟩ (.int .i64 ((rd_T230 l0_1 x53_3).f2))).setCell ⟨gb212, 3, none⟩ (.bool ((rd_T230 l0_1 x53_3).f3))).heap[gb194]? = some (.cells #[.slice A0_0 l0_0.length c0_0, .slice (some ad211) l0_1.length c0_1] 86 (0, 0))) := ⟨by (with_reducible repeat (first | refine blk_drewN ?_ _ | refine blk_drew ?_ | refine blk_alloc ?_ _)); refine blk_far ?_ NB194_212.out _; (with_reducible repeat (first | refine blk_drewN ?_ _ | refine blk_drew ?_ | refine blk_alloc ?_ _)); refine blk_far ?_ NB194_212.out _; (with_reducible repeat (first | refine blk_drewN ?_ _ | refine blk_drew ?_ | refine blk_alloc ?_ _)); refine blk_far ?_ NB194_212.out _; (with_reducible repeat (first | refine blk_drewN ?_ _ | refine blk_drew ?_ | refine blk_alloc ?_ _)); refine blk_far ?_ NB194_212.out _; (with_reducible repeat (first | refine blk_drewN ?_ _ | refine blk_drew ?_ | refine blk_alloc ?_ _)); exact BK194.out⟩
        have n3_ : Aside0 (((((w97.setCell ⟨gb212, 0, none⟩ (.int .i64 ((rd_T230 l0_1 x53_3).f0))).setCell ⟨gb212, 1, none⟩ (.int .i64 ((rd_T230 l0_1 x53_3).f1))).setCell ⟨gb212, 2, none⟩ (.int .i64 ((rd_T230 l0_1 x53_3).f2))).setCell ⟨gb212, 3, none⟩ (.bool ((rd_T230 l0_1 x53_3).f3))).heap[gb212]? = some (.cells #[.int .i64 ((rd_T230 l0_1 x53_3).f0), .int .i64 ((rd_T230 l0_1 x53_3).f1), .int .i64 ((rd_T230 l0_1 x53_3).f2), .bool ((rd_T230 l0_1 x53_3).f3)] 230 (0, 0))) := ⟨by (with_reducible repeat (first | refine blk_drewN ?_ _ | refine blk_drew ?_ | refine blk_alloc ?_ _)); refine blk_put (cs := #[.int .i64 ((rd_T230 l0_1 x53_3).f0), .int .i64 ((rd_T230 l0_1 x53_3).f1), .int .i64 ((rd_T230 l0_1 x53_3).f2), .bool false]) ?_ 3 _ rfl; (with_reducible repeat (first | refine blk_drewN ?_ _ | refine blk_drew ?_ | refine blk_alloc ?_ _)); refine blk_put (cs := #[.int .i64 ((rd_T230 l0_1 x53_3).f0), .int .i64 ((rd_T230 l0_1 x53_3).f1), .int .i64 0, .bool false]) ?_ 2 _ rfl; (with_reducible repeat (first | refine blk_drewN ?_ _ | refine blk_drew ?_ | refine blk_alloc ?_ _)); refine blk_put (cs := #[.int .i64 ((rd_T230 l0_1 x53_3).f0), .int .i64 0, .int .i64 0, .bool false]) ?_ 1 _ rfl; (with_reducible repeat (first | refine blk_drewN ?_ _ | refine blk_drew ?_ | refine blk_alloc ?_ _)); refine blk_put (cs := #[.int .i64 0, .int .i64 0, .int .i64 0, .bool false]) ?_ 0 _ rfl; (with_reducible repeat (first | refine blk_drewN ?_ _ | refine blk_drew ?_ | refine blk_alloc ?_ _)); exact BK212.out⟩
        have n4_ : Aside0 (Below w.heap.size w ((((w97.setCell ⟨gb212, 0, none⟩ (.int .i64 ((rd_T230 l0_1 x53_3).f0))).setCell ⟨gb212, 1, none⟩ (.int .i64 ((rd_T230 l0_1 x53_3).f1))).setCell ⟨gb212, 2, none⟩ (.int .i64 ((rd_T230 l0_1 x53_3).f2))).setCell ⟨gb212, 3, none⟩ (.bool ((rd_T230 l0_1 x53_3).f3)))) := ⟨bZ⟩
        (try clear HO_6)
        (try clear HO_7)
        (try clear BK194)
        (try clear BK212)
        (try clear HB)
        generalize ((((w97.setCell ⟨gb212, 0, none⟩ (.int .i64 ((rd_T230 l0_1 x53_3).f0))).setCell ⟨gb212, 1, none⟩ (.int .i64 ((rd_T230 l0_1 x53_3).f1))).setCell ⟨gb212, 2, none⟩ (.int .i64 ((rd_T230 l0_1 x53_3).f2))).setCell ⟨gb212, 3, none⟩ (.bool ((rd_T230 l0_1 x53_3).f3))) = w100 at n0_ n1_ n2_ n3_ n4_ ⊢
        have HO_6 := n0_
        have HO_7 := n1_
        have BK194 := n2_
        have BK212 := n3_
        have HB := n4_
        clear n0_ n1_ n2_ n3_ n4_
        replace HO_6 := aZ (Kd.Y_drew HO_6.out)
        replace HO_7 := aZ (Kd.Y_drew HO_7.out)
        replace BK194 := aZ (blk_drew BK194.out)
        replace BK212 := aZ (blk_drew BK212.out)
        replace HB := aZ (below_drew1 HB.out)
        have p214 : 0 ≤ (((rd_T230 l0_1 x53_3).f0) : Int) := of_decide_eq_true tZE
        have q214 : ((rd_T230 l0_1 x53_3).f0) < (l0_0.length : Int) := of_decide_eq_true tZE
        obtain ⟨ad214, e214, hx214_0, hx214_1⟩ := at_T304 HR0_0.out ((rd_T230 l0_1 x53_3).f0) p214 q214
        have hw214_1 := hx214_1
        have hw214_0 := hx214_0
        cases e214
        replace hx214_0 := cZ HB hx214_0
        replace hx214_1 := cZ HB hx214_1
        replace p214 := eq_true p214
        replace q214 := eq_true q214
        refine start_ (n := 49) (S := fun w' => w'.cell? ⟨gb212, 0, none⟩ = some (.int .i64 ((rd_T230 l0_1 x53_3).f0)) ∧ w'.cell? ⟨gb212, 1, none⟩ = some (.int .i64 ((rd_T230 l0_1 x53_3).f1)) ∧ w'.cell? ⟨gb212, 2, none⟩ = some (.int .i64 ((rd_T230 l0_1 x53_3).f2)) ∧ w'.cell? ⟨gb212, 3, none⟩ = some (.bool ((rd_T230 l0_1 x53_3).f3)) ∧ w'.cell? ⟨gb194, 0, none⟩ = some (.slice (some ad214) l0_0.length c0_0) ∧ w'.cell? ⟨gb194, 1, none⟩ = some (.slice (some ad211) l0_1.length c0_1) ∧ (Instr.lookup 308 v206 (.int .i64 ((rd_T230 l0_1 x53_3).f0)) false).run Try.prog w' = .ok (.int .i64 (mget 0 x6_3 ((rd_T230 l0_1 x53_3).f0))) w' ∧ w'.cell? (ad214.add ((((rd_T230 l0_1 x53_3).f0)).toNat * 2)) = some (.string ((rd_T304 l0_0 ((rd_T230 l0_1 x53_3).f0)).f0)) ∧ w'.cell? ⟨(ad214.add ((((rd_T230 l0_1 x53_3).f0)).toNat * 2)).block, (ad214.add ((((rd_T230 l0_1 x53_3).f0)).toNat * 2)).off + 1, none⟩ = some (.int .i64 ((rd_T304 l0_0 ((rd_T230 l0_1 x53_3).f0)).f1))) (ds := []) L0' kZ rfl rfl ⟨(blk_cell BK212.out 0).trans rfl, (blk_cell BK212.out 1).trans rfl, (blk_cell BK212.out 2).trans rfl, (blk_cell BK212.out 3).trans rfl, (blk_cell BK194.out 0).trans rfl, (blk_cell BK194.out 1).trans rfl, (Kd.Y_get (m := my308) (e := 308) (lZY HO_6.out) ((rd_T230 l0_1 x53_3).f0) (show okI _ from ⟨((of_decide_eq_true tZE) : -9223372036854775808 ≤ ((rd_T230 l0_1 x53_3).f0)), ((of_decide_eq_true tZE) : ((rd_T230 l0_1 x53_3).f0) ≤ 9223372036854775807)⟩)), ((HB.out.cell (World.block_lt_of_cell? w _ hw214_0)).trans hw214_0), ((HB.out.cell (World.block_lt_of_cell? w _ hw214_1)).trans hw214_1)⟩ (fun hHeld => ?_); refine with_tabW impl_RegisterOk.tab16 impl_RegisterOk.bits16 (fun HT_ HW_ => ?_)
        generalize w100.drew = w101 at HO_6 HO_7 BK194 BK212 HB hx214_0 hx214_1 hHeld ⊢
        refine pure_ (i := 0) (N := some 57) (v := ?_) (a' := ?_) L1' rfl rfl (any_of HT_.out kZ) (fun _ _ _ h => h) (Or.inl ⟨by rfl, ?_⟩) ?_ ?_
        rotate_left
        ·intro w'
         go_simp
         with_reducible rfl
        rotate_left
        ·simp only [Act.put, sZ1, sZ2, sZ3, i64_w, i32_w]
         rfl
        refine take_ (i := 1) (N := some 58) (v := ?_) (a' := ?_) L2' rfl rfl (take_ofW HT_.out HW_.out kZ) (fun _ _ _ h => h) (Or.inl ⟨by rfl, ?_⟩) hHeld ?_ ?_
        rotate_left
        ·rintro w' ⟨s0, s1, s2, s3, s4, s5, s6, s7, s8⟩
         go_simp
         with_reducible rfl
        rotate_left
        ·simp only [Act.put, sZ1, sZ2, sZ3, i64_w, i32_w]
         rfl
        refine pure_ (i := 2) (N := some 59) (v := ?_) (a' := ?_) L3' rfl rfl (any_of HT_.out kZ) (fun _ _ _ h => h) (Or.inl ⟨by rfl, ?_⟩) ?_ ?_
        rotate_left
        ·intro w'
         go_simp
         with_reducible rfl
        rotate_left
        ·simp only [Act.put, sZ1, sZ2, sZ3, i64_w, i32_w]
         rfl
        refine pure_ (i := 3) (N := some 60) (v := ?_) (a' := ?_) L4' rfl rfl (any_of HT_.out kZ) (fun _ _ _ h => h) (Or.inl ⟨by rfl, ?_⟩) ?_ ?_
        rotate_left
        ·intro w'
         go_simp
         with_reducible rfl
        rotate_left
        ·simp only [Act.put, sZ1, sZ2, sZ3, i64_w, i32_w]
         rfl
        refine pure_ (i := 4) (N := some 61) (v := ?_) (a' := ?_) L5' rfl rfl (any_of HT_.out kZ) (fun _ _ _ h => h) (Or.inl ⟨by rfl, ?_⟩) ?_ ?_
        rotate_left
        ·intro w'
         go_simp
         with_reducible rfl
        rotate_left
        ·simp only [Act.put, sZ1, sZ2, sZ3, i64_w, i32_w]
         rfl
        refine pure_ (i := 6) (N := some 63) (v := ?_) (a' := ?_) L50' rfl rfl (any_of HT_.out kZ) (fun _ _ _ h => h) (Or.inl ⟨by rfl, ?_⟩) ?_ ?_
        rotate_left
        ·intro w'
         go_simp
         with_reducible rfl
        rotate_left
        ·simp only [Act.put, sZ1, sZ2, sZ3, i64_w, i32_w]
         rfl
        refine take_ (i := 5) (N := some 62) (v := ?_) (a' := ?_) L7' rfl rfl (take_ofW HT_.out HW_.out kZ) (fun _ _ _ h => h) (Or.inl ⟨by rfl, ?_⟩) hHeld ?_ ?_
        rotate_left
        ·rintro w' ⟨s0, s1, s2, s3, s4, s5, s6, s7, s8⟩
         go_simp
         with_reducible rfl
        rotate_left
        ·simp only [Act.put, sZ1, sZ2, sZ3, i64_w, i32_w]
         rfl
        refine take_ (i := 7) (N := some 64) (v := ?_) (a' := ?_) L8' rfl rfl (take_ofW HT_.out HW_.out kZ) (fun _ _ _ h => h) (Or.inl ⟨by rfl, ?_⟩) hHeld ?_ ?_
        rotate_left
        ·rintro w' ⟨s0, s1, s2, s3, s4, s5, s6, s7, s8⟩
         go_simp
         with_reducible rfl
        rotate_left
        ·simp only [Act.put, sZ1, sZ2, sZ3, i64_w, i32_w]
         rfl
        refine pure_ (i := 8) (N := some 65) (v := ?_) (a' := ?_) L9' rfl rfl (any_of HT_.out kZ) (fun _ _ _ h => h) (Or.inl ⟨by rfl, ?_⟩) ?_ ?_
        rotate_left
        ·intro w'
         go_simp
         with_reducible rfl
        rotate_left
        ·simp only [Act.put, sZ1, sZ2, sZ3, i64_w, i32_w]
         rfl
        refine pure_ (i := 9) (N := some 66) (v := ?_) (a' := ?_) L10' rfl rfl (any_of HT_.out kZ) (fun _ _ _ h => h) (Or.inl ⟨by rfl, ?_⟩) ?_ ?_
        rotate_left
        ·intro w'
         go_simp
         with_reducible rfl
        rotate_left
        ·simp only [Act.put, sZ1, sZ2, sZ3, i64_w, i32_w]
         rfl
        refine pure_ (i := 10) (N := some 67) (v := ?_) (a' := ?_) L11' rfl rfl (any_of HT_.out kZ) (fun _ _ _ h => h) (Or.inl ⟨by rfl, ?_⟩) ?_ ?_
        rotate_left
        ·intro w'
         go_simp
         with_reducible rfl
        rotate_left
        ·simp only [Act.put, sZ1, sZ2, sZ3, i64_w, i32_w]
         rfl
        refine pure_ (i := 11) (N := some 68) (v := ?_) (a' := ?_) L12' rfl rfl (any_of HT_.out kZ) (fun _ _ _ h => h) (Or.inl ⟨by rfl, ?_⟩) ?_ ?_
        rotate_left
        ·intro w'
         go_simp
         with_reducible rfl
        rotate_left
        ·simp only [Act.put, sZ1, sZ2, sZ3, i64_w, i32_w]
         rfl
        refine pure_ (i := 12) (N := some 69) (v := ?_) (a' := ?_) L13' rfl rfl (any_of HT_.out kZ) (fun _ _ _ h => h) (Or.inl ⟨by rfl, ?_⟩) ?_ ?_
        rotate_left
        ·intro w'
         go_simp
         with_reducible rfl
        rotate_left
        ·simp only [Act.put, sZ1, sZ2, sZ3, i64_w, i32_w]
         rfl
        refine pure_ (i := 14) (N := some 71) (v := ?_) (a' := ?_) L51' rfl rfl (any_of HT_.out kZ) (fun _ _ _ h => h) (Or.inl ⟨by rfl, ?_⟩) ?_ ?_
        rotate_left
        ·intro w'
         go_simp
         with_reducible rfl
        rotate_left
        ·simp only [Act.put, sZ1, sZ2, sZ3, i64_w, i32_w]
         rfl
        refine pure_ (i := 15) (N := some 72) (v := ?_) (a' := ?_) L52' rfl rfl (any_of HT_.out kZ) (fun _ _ _ h => h) (Or.inl ⟨by rfl, ?_⟩) ?_ ?_
        rotate_left
        ·intro w'
         go_simp
         with_reducible rfl
        rotate_left
        ·simp only [Act.put, sZ1, sZ2, sZ3, i64_w, i32_w]
         rfl
        refine take_ (i := 13) (N := some 70) (v := ?_) (a' := ?_) L16' rfl rfl (take_ofW HT_.out HW_.out kZ) (fun _ _ _ h => h) (Or.inl ⟨by rfl, ?_⟩) hHeld ?_ ?_
        rotate_left
        ·rintro w' ⟨s0, s1, s2, s3, s4, s5, s6, s7, s8⟩
         go_simp
         with_reducible rfl
        rotate_left
        ·simp only [Act.put, sZ1, sZ2, sZ3, i64_w, i32_w]
         rfl
        refine take_ (i := 16) (N := some 73) (v := ?_) (a' := ?_) L17' rfl rfl (take_ofW HT_.out HW_.out kZ) (fun _ _ _ h => h) (Or.inl ⟨by rfl, ?_⟩) hHeld ?_ ?_
        rotate_left
        ·rintro w' ⟨s0, s1, s2, s3, s4, s5, s6, s7, s8⟩
         go_simp
         with_reducible rfl
        rotate_left
        ·simp only [Act.put, sZ1, sZ2, sZ3, i64_w, i32_w]
         rfl
        refine take_ (i := 17) (N := some 74) (v := ?_) (a' := ?_) L18' rfl rfl (take_ofW HT_.out HW_.out kZ) (fun _ _ _ h => h) (Or.inl ⟨by rfl, ?_⟩) hHeld ?_ ?_
        rotate_left
        ·rintro w' ⟨s0, s1, s2, s3, s4, s5, s6, s7, s8⟩
         go_simp
         with_reducible rfl
        rotate_left
        ·simp only [Act.put, sZ1, sZ2, sZ3, i64_w, i32_w]
         rfl
        refine pure_ (i := 18) (N := some 75) (v := ?_) (a' := ?_) L19' rfl rfl (any_of HT_.out kZ) (fun _ _ _ h => h) (Or.inl ⟨by rfl, ?_⟩) ?_ ?_
        rotate_left
        ·intro w'
         go_simp
         with_reducible rfl
        rotate_left
        ·simp only [Act.put, sZ1, sZ2, sZ3, i64_w, i32_w]
         rfl
        refine pure_ (i := 19) (N := some 76) (v := ?_) (a' := ?_) L20' rfl rfl (any_of HT_.out kZ) (fun _ _ _ h => h) (Or.inl ⟨by rfl, ?_⟩) ?_ ?_
        rotate_left
        ·intro w'
         go_simp
         with_reducible rfl
        rotate_left
        ·simp only [Act.put, sZ1, sZ2, sZ3, i64_w, i32_w]
         rfl
        refine pure_ (i := 20) (N := some 77) (v := ?_) (a' := ?_) L21' rfl rfl (any_of HT_.out kZ) (fun _ _ _ h => h) (Or.inl ⟨by rfl, ?_⟩) ?_ ?_
        rotate_left
        ·intro w'
         go_simp
         with_reducible rfl
        rotate_left
        ·simp only [Act.put, sZ1, sZ2, sZ3, i64_w, i32_w]
         rfl
        refine pure_ (i := 21) (N := some 78) (v := ?_) (a' := ?_) L22' rfl rfl (any_of HT_.out kZ) (fun _ _ _ h => h) (Or.inl ⟨by rfl, ?_⟩) ?_ ?_
        rotate_left
        ·intro w'
         go_simp
         with_reducible rfl
        rotate_left
        ·simp only [Act.put, sZ1, sZ2, sZ3, i64_w, i32_w]
         rfl
        refine pure_ (i := 22) (N := some 79) (v := ?_) (a' := ?_) L23' rfl rfl (any_of HT_.out kZ) (fun _ _ _ h => h) (Or.inl ⟨by rfl, ?_⟩) ?_ ?_
        rotate_left
        ·intro w'
         go_simp
         with_reducible rfl
        rotate_left
        ·simp only [Act.put, sZ1, sZ2, sZ3, i64_w, i32_w]
         rfl
        refine pure_ (i := 25) (N := some 82) (v := ?_) (a' := ?_) L53' rfl rfl (any_of HT_.out kZ) (fun _ _ _ h => h) (Or.inl ⟨by rfl, ?_⟩) ?_ ?_
        rotate_left
        ·intro w'
         go_simp
         with_reducible rfl
        rotate_left
        ·simp only [Act.put, sZ1, sZ2, sZ3, i64_w, i32_w]
         rfl
        refine pure_ (i := 27) (N := some 84) (v := ?_) (a' := ?_) L54' rfl rfl (any_of HT_.out kZ) (fun _ _ _ h => h) (Or.inl ⟨by rfl, ?_⟩) ?_ ?_
        rotate_left
        ·intro w'
         go_simp
         with_reducible rfl
        rotate_left
        ·simp only [Act.put, sZ1, sZ2, sZ3, i64_w, i32_w]
         rfl
        refine take_ (i := 23) (N := some 80) (v := ?_) (a' := ?_) L55' rfl rfl (take_ofW HT_.out HW_.out kZ) (fun _ _ _ h => h) (Or.inl ⟨by rfl, ?_⟩) hHeld ?_ ?_
        rotate_left
        ·rintro w' ⟨s0, s1, s2, s3, s4, s5, s6, s7, s8⟩
         go_simp
         with_reducible rfl
        rotate_left
        ·simp only [Act.put, sZ1, sZ2, sZ3, i64_w, i32_w]
         rfl
        refine take_ (i := 26) (N := some 83) (v := ?_) (a' := ?_) L56' rfl rfl (take_ofW HT_.out HW_.out kZ) (fun _ _ _ h => h) (Or.inl ⟨by rfl, ?_⟩) hHeld ?_ ?_
        rotate_left
        ·rintro w' ⟨s0, s1, s2, s3, s4, s5, s6, s7, s8⟩
         go_simp
         with_reducible rfl
        rotate_left
        ·simp only [Act.put, sZ1, sZ2, sZ3, i64_w, i32_w]
         rfl
        refine take_ (i := 28) (N := some 85) (v := ?_) (a' := ?_) L57' rfl rfl (take_ofW HT_.out HW_.out kZ) (fun _ _ _ h => h) (Or.inl ⟨by rfl, ?_⟩) hHeld ?_ ?_
        rotate_left
        ·rintro w' ⟨s0, s1, s2, s3, s4, s5, s6, s7, s8⟩
         go_simp
         with_reducible rfl
        rotate_left
        ·simp only [Act.put, sZ1, sZ2, sZ3, i64_w, i32_w]
         rfl
        refine pure_ (i := 29) (N := some 86) (v := ?_) (a' := ?_) L58' rfl rfl (any_of HT_.out kZ) (fun _ _ _ h => h) (Or.inl ⟨by rfl, ?_⟩) ?_ ?_
        rotate_left
        ·intro w'
         go_simp
         with_reducible rfl
        rotate_left
        ·simp only [Act.put, sZ1, sZ2, sZ3, i64_w, i32_w]
         rfl
        refine pure_ (i := 30) (N := some 87) (v := ?_) (a' := ?_) L59' rfl rfl (any_of HT_.out kZ) (fun _ _ _ h => h) (Or.inl ⟨by rfl, ?_⟩) ?_ ?_
        rotate_left
        ·intro w'
         go_simp
         with_reducible rfl
        rotate_left
        ·simp only [Act.put, sZ1, sZ2, sZ3, i64_w, i32_w]
         rfl
        refine take_ (i := 31) (N := some 88) (v := ?_) (a' := ?_) L60' rfl rfl (take_ofW HT_.out HW_.out kZ) (fun _ _ _ h => h) (Or.inl ⟨by rfl, ?_⟩) hHeld ?_ ?_
        rotate_left
        ·rintro w' ⟨s0, s1, s2, s3, s4, s5, s6, s7, s8⟩
         go_simp
         with_reducible rfl
        rotate_left
        ·simp only [Act.put, sZ1, sZ2, sZ3, i64_w, i32_w]
         rfl
        refine one_ (i := 24) (N := some 81) L32' rfl rfl (one_of HT_.out kZ) (by decide) (fun K hK => ?_)
        refine goes_ Try.func226 kZ rfl #[.int .i64 ((rd_T230 l0_1 x53_3).f1)] (by rfl) rfl rfl tZA ?_
        with_reducible refine (impl_digitsIn.calls k3 ((rd_T230 l0_1 x53_3).f1) t213 _ A63.out).mono ?_
        rintro e w102 ⟨rfl, hb⟩
        refine ⟨_, rfl, ?_⟩
        replace HO_6 := aZ (Kd.Y_below (lZY HO_6.out) hb)
        replace HO_7 := aZ (Kd.Y_below (lZY HO_7.out) hb)
        replace BK194 := aZ (blk_below (bkZ BK194.out) hb)
        replace BK212 := aZ (blk_below (bkZ BK212.out) hb)
        replace HB := aZ (below_step bZ hb)
        (try clear hb)
        (try clear hb2)
        (try clear hk)
        (try clear hi)
        refine hK.out _ _ ⟨(blk_cell BK212.out 0).trans rfl, (blk_cell BK212.out 1).trans rfl, (blk_cell BK212.out 2).trans rfl, (blk_cell BK212.out 3).trans rfl, (blk_cell BK194.out 0).trans rfl, (blk_cell BK194.out 1).trans rfl, (Kd.Y_get (m := my308) (e := 308) (lZY HO_6.out) ((rd_T230 l0_1 x53_3).f0) (show okI _ from ⟨((of_decide_eq_true tZE) : -9223372036854775808 ≤ ((rd_T230 l0_1 x53_3).f0)), ((of_decide_eq_true tZE) : ((rd_T230 l0_1 x53_3).f0) ≤ 9223372036854775807)⟩)), ((HB.out.cell (World.block_lt_of_cell? w _ hw214_0)).trans hw214_0), ((HB.out.cell (World.block_lt_of_cell? w _ hw214_1)).trans hw214_1)⟩ (fun hHeld => ?_)
        clear hK K
        refine norm_ (a' := ?_) ?_ ?_
        rotate_left
        ·show Act.put _ (some 81) _ = _
         simp only [Act.put, sZ1, sZ2, sZ3, i64_w, i32_w]
         rfl
        refine pure_ (i := 32) (N := some 89) (v := ?_) (a' := ?_) L33' rfl rfl (any_of HT_.out kZ) (fun _ _ _ h => h) (Or.inl ⟨by rfl, ?_⟩) ?_ ?_
        rotate_left
        ·intro w'
         go_simp
         with_reducible rfl
        rotate_left
        ·simp only [Act.put, sZ1, sZ2, sZ3, i64_w, i32_w]
         rfl
        refine pure_ (i := 33) (N := some 90) (v := ?_) (a' := ?_) L34' rfl rfl (any_of HT_.out kZ) (fun _ _ _ h => h) (Or.inl ⟨by rfl, ?_⟩) ?_ ?_
        rotate_left
        ·intro w'
         go_simp
         with_reducible rfl
        rotate_left
        ·simp only [Act.put, sZ1, sZ2, sZ3, i64_w, i32_w]
         rfl
        refine pure_ (i := 34) (N := some 91) (v := ?_) (a' := ?_) L35' rfl rfl (any_of HT_.out kZ) (fun _ _ _ h => h) (Or.inl ⟨by rfl, ?_⟩) ?_ ?_
        rotate_left
        ·intro w'
         go_simp
         with_reducible rfl
        rotate_left
        ·simp only [Act.put, sZ1, sZ2, sZ3, i64_w, i32_w]
         rfl
        refine pure_ (i := 35) (N := some 92) (v := ?_) (a' := ?_) L36' rfl rfl (any_of HT_.out kZ) (fun _ _ _ h => h) (Or.inl ⟨by rfl, ?_⟩) ?_ ?_
        rotate_left
        ·intro w'
         go_simp
         with_reducible rfl
        rotate_left
        ·simp only [Act.put, sZ1, sZ2, sZ3, i64_w, i32_w]
         rfl
        refine take_ (i := 36) (N := some 93) (v := ?_) (a' := ?_) L37' rfl rfl (take_ofW HT_.out HW_.out kZ) (fun _ _ _ h => h) (Or.inl ⟨by rfl, ?_⟩) hHeld ?_ ?_
        rotate_left
        ·rintro w' ⟨s0, s1, s2, s3, s4, s5, s6, s7, s8⟩
         go_simp
         with_reducible rfl
        rotate_left
        ·simp only [Act.put, sZ1, sZ2, sZ3, i64_w, i32_w]
         rfl
        refine one_ (i := 37) (N := some 94) L38' rfl rfl (one_of HT_.out kZ) (by decide) (fun K hK => ?_)
        refine goes_ Try.func113 kZ rfl #[.int .i64 ((rd_T230 l0_1 x53_3).f2)] (by rfl) rfl rfl tZA ?_
        with_reducible refine (impl_isDay.calls ((rd_T230 l0_1 x53_3).f2) false _ A73.out).mono ?_
        rintro e w' ⟨rfl, ⟨nd, rfl⟩⟩
        refine ⟨_, rfl, ?_⟩
        refine hK.out _ _ ⟨(blk_cell BK212.out 0).trans rfl, (blk_cell BK212.out 1).trans rfl, (blk_cell BK212.out 2).trans rfl, (blk_cell BK212.out 3).trans rfl, (blk_cell BK194.out 0).trans rfl, (blk_cell BK194.out 1).trans rfl, (Kd.Y_get (m := my308) (e := 308) (lZY HO_6.out) ((rd_T230 l0_1 x53_3).f0) (show okI _ from ⟨((of_decide_eq_true tZE) : -9223372036854775808 ≤ ((rd_T230 l0_1 x53_3).f0)), ((of_decide_eq_true tZE) : ((rd_T230 l0_1 x53_3).f0) ≤ 9223372036854775807)⟩)), ((HB.out.cell (World.block_lt_of_cell? w _ hw214_0)).trans hw214_0), ((HB.out.cell (World.block_lt_of_cell? w _ hw214_1)).trans hw214_1)⟩ (fun hHeld => ?_)
        clear hK K
        refine norm_ (a' := ?_) ?_ ?_
        rotate_left
        ·show Act.put _ (some 94) _ = _
         simp only [Act.put, sZ1, sZ2, sZ3, i64_w, i32_w]
         rfl
        refine pure_ (i := 38) (N := some 95) (v := ?_) (a' := ?_) L39' rfl rfl (any_of HT_.out kZ) (fun _ _ _ h => h) (Or.inl ⟨by rfl, ?_⟩) ?_ ?_
        rotate_left
        ·intro w'
         go_simp
         with_reducible rfl
        rotate_left
        ·simp only [Act.put, sZ1, sZ2, sZ3, i64_w, i32_w]
         rfl
        refine pure_ (i := 39) (N := some 96) (v := ?_) (a' := ?_) L40' rfl rfl (any_of HT_.out kZ) (fun _ _ _ h => h) (Or.inl ⟨by rfl, ?_⟩) ?_ ?_
        rotate_left
        ·intro w'
         go_simp
         with_reducible rfl
        rotate_left
        ·simp only [Act.put, sZ1, sZ2, sZ3, i64_w, i32_w]
         rfl
        refine pure_ (i := 40) (N := some 97) (v := ?_) (a' := ?_) L41' rfl rfl (any_of HT_.out kZ) (fun _ _ _ h => h) (Or.inl ⟨by rfl, ?_⟩) ?_ ?_
        rotate_left
        ·intro w'
         go_simp
         with_reducible rfl
        rotate_left
        ·simp only [Act.put, sZ1, sZ2, sZ3, i64_w, i32_w]
         rfl
        refine pure_ (i := 41) (N := some 98) (v := undef) (a' := ?_) L42' rfl rfl (any_of HT_.out kZ) (fun _ _ _ h => h) (Or.inr ⟨by rfl, rfl⟩) ?_ ?_
        rotate_left
        ·simp only [Act.put, sZ1, sZ2, sZ3, i64_w, i32_w]
         rfl
        refine pure_ (i := 42) (N := some 99) (v := undef) (a' := ?_) L43' rfl rfl (any_of HT_.out kZ) (fun _ _ _ h => h) (Or.inr ⟨by rfl, rfl⟩) ?_ ?_
        rotate_left
        ·simp only [Act.put, sZ1, sZ2, sZ3, i64_w, i32_w]
         rfl
        refine pure_ (i := 43) (N := some 100) (v := undef) (a' := ?_) L44' rfl rfl (any_of HT_.out kZ) (fun _ _ _ h => h) (Or.inr ⟨by rfl, rfl⟩) ?_ ?_
        rotate_left
        ·simp only [Act.put, sZ1, sZ2, sZ3, i64_w, i32_w]
         rfl
        refine pure_ (i := 44) (N := some 101) (v := undef) (a' := ?_) L45' rfl rfl (any_of HT_.out kZ) (fun _ _ _ h => h) (Or.inr ⟨by rfl, rfl⟩) ?_ ?_
        rotate_left
        ·simp only [Act.put, sZ1, sZ2, sZ3, i64_w, i32_w]
         rfl
        refine pure_ (i := 45) (N := some 102) (v := undef) (a' := ?_) L46' rfl rfl (any_of HT_.out kZ) (fun _ _ _ h => h) (Or.inr ⟨by rfl, rfl⟩) ?_ ?_
        rotate_left
        ·simp only [Act.put, sZ1, sZ2, sZ3, i64_w, i32_w]
         rfl
        refine pure_ (i := 46) (N := some 103) (v := undef) (a' := ?_) L47' rfl rfl (any_of HT_.out kZ) (fun _ _ _ h => h) (Or.inr ⟨by rfl, rfl⟩) ?_ ?_
        rotate_left
        ·simp only [Act.put, sZ1, sZ2, sZ3, i64_w, i32_w]
         rfl
        refine pure_ (i := 47) (N := some 104) (v := undef) (a' := ?_) L48' rfl rfl (any_of HT_.out kZ) (fun _ _ _ h => h) (Or.inr ⟨by rfl, rfl⟩) ?_ ?_
        rotate_left
        ·simp only [Act.put, sZ1, sZ2, sZ3, i64_w, i32_w]
         rfl
        refine pure_ (i := 48) (N := some 105) (v := ?_) (a' := ?_) L49' rfl rfl (any_of HT_.out kZ) (fun _ _ _ h => h) (Or.inl ⟨by rfl, ?_⟩) ?_ ?_
        rotate_left
        ·intro w'
         go_simp
         with_reducible rfl
        rotate_left
        ·simp only [Act.put, sZ1, sZ2, sZ3, i64_w, i32_w]
         rfl
        refine done_ (done_of HT_.out kZ) ?_
        try go_wp2
        go_ret
        exact ⟨tZC, bZ⟩
       subst c74
       have H1 : (if ((rd_T230 l0_1 x53_3).f2) < (mget 0 x7_3 ((rd_T230 l0_1 x53_3).f0)) then (some false) else (if x6_3.length < 140737488355328 then (if -9223372036854775808 ≤ ((rd_T230 l0_1 x53_3).f2) then (if ((rd_T230 l0_1 x53_3).f2) ≤ 9223372036854775807 then (if x7_3.length < 140737488355328 then (impl_RegisterOk.l1 k3 (((rd_T230 l0_1 x53_3).f0, wrap64 ((mget 0 x6_3 ((rd_T230 l0_1 x53_3).f0)) + 1)) :: x6_3) (((rd_T230 l0_1 x53_3).f0, (rd_T230 l0_1 x53_3).f2) :: x7_3) l0_1 (l0_1.length : Int) (wrap64 (x53_3 + 1)) l0_0 l0_1) else (none)) else (none)) else (none)) else (none))) = some r := by rw [if_pos rfl] at H; exact H
       clear H
       have H := H1
       clear H1
       by_cases c75 : ((rd_T230 l0_1 x53_3).f2) < (mget 0 x7_3 ((rd_T230 l0_1 x53_3).f0))
       ·rw [if_pos c75] at H
        have c75b0 := decide_eq_true c75
        clear c75
        obtain rfl := Option.some.inj H
        have p211 : 0 ≤ (x53_3 : Int) := of_decide_eq_true tZE
        have q211 : x53_3 < (l0_1.length : Int) := of_decide_eq_true tZE
        obtain ⟨ad211, e211, hx211_0, hx211_1, hx211_2, hx211_3⟩ := at_T230 HR0_1.out x53_3 p211 q211
        cases e211
        replace hx211_0 := cZ HB hx211_0
        replace hx211_1 := cZ HB hx211_1
        replace hx211_2 := cZ HB hx211_2
        replace hx211_3 := cZ HB hx211_3
        replace p211 := eq_true p211
        replace q211 := eq_true q211
        try go_wp2_with (first | ((with_reducible refine gate_dst (N := 9) rfl ?_); (try (refine gate_guard (by rfl) ?_; dsimp only)); refine box_event ?hg (N := 9) ?hd (cs := #[.int .i64 0, .int .i64 0, .int .i64 0, .bool false]) (t := 230) ?hr ?_; (case hd => rfl); (case hg => rfl); (case hr => first | (go_simp; done) | (go_simp; rfl)); intro gb212 hg w76 hbox hb; replace HO_6 := aZ (Kd.Y_below (lZY HO_6.out) hb); replace HO_7 := aZ (Kd.Y_below (lZY HO_7.out) hb); have BK212 := aZ (hbox); have GW212 := aZ ((by rw [hg]; exact (below_size bZ) : w.heap.size ≤ gb212)); have GE212 := aZ ((by rw [hg]; exact (below_size bZ) : w.heap.size ≤ gb212)); replace HB := aZ (below_step bZ hb); have NB194_212 := aZ ((by rw [hg]; exact Nat.ne_of_lt (blk_lt (bkZ BK194.out)) : gb194 ≠ gb212)); have NB212_194 := aZ ((by rw [hg]; exact Nat.ne_of_gt (blk_lt (bkZ BK194.out)) : gb212 ≠ gb194)); replace BK194 := aZ (blk_below (bkZ BK194.out) hb); clear hb hbox hg; have hnb77 := NB212_194.out; have hnc77 := NB194_212.out; have hcz78_0 : w76.cell? ⟨gb212, 0, none⟩ = some (.int .i64 0) := (blk_cell BK212.out 0).trans rfl; have hcz78_1 : w76.cell? ⟨gb212, 1, none⟩ = some (.int .i64 0) := (blk_cell BK212.out 1).trans rfl; have hcz78_2 : w76.cell? ⟨gb212, 2, none⟩ = some (.int .i64 0) := (blk_cell BK212.out 2).trans rfl; have hcz78_3 : w76.cell? ⟨gb212, 3, none⟩ = some (.bool false) := (blk_cell BK212.out 3).trans rfl; have hfz78_0 := blk_frozen BK212.out 0; have hfz78_1 := blk_frozen BK212.out 1; have hfz78_2 := blk_frozen BK212.out 2; have hfz78_3 := blk_frozen BK212.out 3))
        have n0_ : Aside0 (Kd.Y my308 308 ((((w76.setCell ⟨gb212, 0, none⟩ (.int .i64 ((rd_T230 l0_1 x53_3).f0))).setCell ⟨gb212, 1, none⟩ (.int .i64 ((rd_T230 l0_1 x53_3).f1))).setCell ⟨gb212, 2, none⟩ (.int .i64 ((rd_T230 l0_1 x53_3).f2))).setCell ⟨gb212, 3, none⟩ (.bool ((rd_T230 l0_1 x53_3).f3))) w.heap.size (fun k_ => some k_ ≠ mapBlock v209) v206 x6_3) := ⟨by (with_reducible repeat (first | apply Kd.Y_alloc | apply Kd.Y_drewN | apply Kd.Y_drew)); exact Kd.Y_mono (Kd.Y_far (p := ⟨gb212, 3, none⟩) (Kd.Y_far (p := ⟨gb212, 2, none⟩) (Kd.Y_far (p := ⟨gb212, 1, none⟩) (Kd.Y_far (p := ⟨gb212, 0, none⟩) (Kd.Y_types HO_6.out BK212.out (by decide)) (fun _ hk => hk.2) (.int .i64 ((rd_T230 l0_1 x53_3).f0))) (fun _ hk => hk.2) (.int .i64 ((rd_T230 l0_1 x53_3).f1))) (fun _ hk => hk.2) (.int .i64 ((rd_T230 l0_1 x53_3).f2))) (fun _ hk => hk.2) (.bool ((rd_T230 l0_1 x53_3).f3))) (fun _ hk => hk.1)⟩
        have n1_ : Aside0 (Kd.Y my308 308 ((((w76.setCell ⟨gb212, 0, none⟩ (.int .i64 ((rd_T230 l0_1 x53_3).f0))).setCell ⟨gb212, 1, none⟩ (.int .i64 ((rd_T230 l0_1 x53_3).f1))).setCell ⟨gb212, 2, none⟩ (.int .i64 ((rd_T230 l0_1 x53_3).f2))).setCell ⟨gb212, 3, none⟩ (.bool ((rd_T230 l0_1 x53_3).f3))) w.heap.size (fun k_ => some k_ ≠ mapBlock v206) v209 x7_3) := ⟨by (with_reducible repeat (first | apply Kd.Y_alloc | apply Kd.Y_drewN | apply Kd.Y_drew)); exact Kd.Y_mono (Kd.Y_far (p := ⟨gb212, 3, none⟩) (Kd.Y_far (p := ⟨gb212, 2, none⟩) (Kd.Y_far (p := ⟨gb212, 1, none⟩) (Kd.Y_far (p := ⟨gb212, 0, none⟩) (Kd.Y_types HO_7.out BK212.out (by decide)) (fun _ hk => hk.2) (.int .i64 ((rd_T230 l0_1 x53_3).f0))) (fun _ hk => hk.2) (.int .i64 ((rd_T230 l0_1 x53_3).f1))) (fun _ hk => hk.2) (.int .i64 ((rd_T230 l0_1 x53_3).f2))) (fun _ hk => hk.2) (.bool ((rd_T230 l0_1 x53_3).f3))) (fun _ hk => hk.1)⟩
        have n2_ : Aside0 (((((w76.setCell ⟨gb212, 0, none⟩ (.int .i64 ((rd_T230 l0_1 x53_3).f0))).setCell ⟨gb212, 1, none⟩ (.int .i64 ((rd_T230 l0_1 x53_3).f1))).setCell ⟨gb212, 2, none⟩ (.int .i64 ((rd_T230 l0_1 x53_3).f2))).setCell ⟨gb212, 3, none⟩ (.bool ((rd_T230 l0_1 x53_3).f3))).heap[gb194]? = some (.cells #[.slice A0_0 l0_0.length c0_0, .slice (some ad211) l0_1.length c0_1] 86 (0, 0))) := ⟨by (with_reducible repeat (first | refine blk_drewN ?_ _ | refine blk_drew ?_ | refine blk_alloc ?_ _)); refine blk_far ?_ NB194_212.out _; (with_reducible repeat (first | refine blk_drewN ?_ _ | refine blk_drew ?_ | refine blk_alloc ?_ _)); refine blk_far ?_ NB194_212.out _; (with_reducible repeat (first | refine blk_drewN ?_ _ | refine blk_drew ?_ | refine blk_alloc ?_ _)); refine blk_far ?_ NB194_212.out _; (with_reducible repeat (first | refine blk_drewN ?_ _ | refine blk_drew ?_ | refine blk_alloc ?_ _)); refine blk_far ?_ NB194_212.out _; (with_reducible repeat (first | refine blk_drewN ?_ _ | refine blk_drew ?_ | refine blk_alloc ?_ _)); exact BK194.out⟩
        have n3_ : Aside0 (((((w76.setCell ⟨gb212, 0, none⟩ (.int .i64 ((rd_T230 l0_1 x53_3).f0))).setCell ⟨gb212, 1, none⟩ (.int .i64 ((rd_T230 l0_1 x53_3).f1))).setCell ⟨gb212, 2, none⟩ (.int .i64 ((rd_T230 l0_1 x53_3).f2))).setCell ⟨gb212, 3, none⟩ (.bool ((rd_T230 l0_1 x53_3).f3))).heap[gb212]? = some (.cells #[.int .i64 ((rd_T230 l0_1 x53_3).f0), .int .i64 ((rd_T230 l0_1 x53_3).f1), .int .i64 ((rd_T230 l0_1 x53_3).f2), .bool ((rd_T230 l0_1 x53_3).f3)] 230 (0, 0))) := ⟨by (with_reducible repeat (first | refine blk_drewN ?_ _ | refine blk_drew ?_ | refine blk_alloc ?_ _)); refine blk_put (cs := #[.int .i64 ((rd_T230 l0_1 x53_3).f0), .int .i64 ((rd_T230 l0_1 x53_3).f1), .int .i64 ((rd_T230 l0_1 x53_3).f2), .bool false]) ?_ 3 _ rfl; (with_reducible repeat (first | refine blk_drewN ?_ _ | refine blk_drew ?_ | refine blk_alloc ?_ _)); refine blk_put (cs := #[.int .i64 ((rd_T230 l0_1 x53_3).f0), .int .i64 ((rd_T230 l0_1 x53_3).f1), .int .i64 0, .bool false]) ?_ 2 _ rfl; (with_reducible repeat (first | refine blk_drewN ?_ _ | refine blk_drew ?_ | refine blk_alloc ?_ _)); refine blk_put (cs := #[.int .i64 ((rd_T230 l0_1 x53_3).f0), .int .i64 0, .int .i64 0, .bool false]) ?_ 1 _ rfl; (with_reducible repeat (first | refine blk_drewN ?_ _ | refine blk_drew ?_ | refine blk_alloc ?_ _)); refine blk_put (cs := #[.int .i64 0, .int .i64 0, .int .i64 0, .bool false]) ?_ 0 _ rfl; (with_reducible repeat (first | refine blk_drewN ?_ _ | refine blk_drew ?_ | refine blk_alloc ?_ _)); exact BK212.out⟩
        have n4_ : Aside0 (Below w.heap.size w ((((w76.setCell ⟨gb212, 0, none⟩ (.int .i64 ((rd_T230 l0_1 x53_3).f0))).setCell ⟨gb212, 1, none⟩ (.int .i64 ((rd_T230 l0_1 x53_3).f1))).setCell ⟨gb212, 2, none⟩ (.int .i64 ((rd_T230 l0_1 x53_3).f2))).setCell ⟨gb212, 3, none⟩ (.bool ((rd_T230 l0_1 x53_3).f3)))) := ⟨bZ⟩
        (try clear HO_6)
        (try clear HO_7)
        (try clear BK194)
        (try clear BK212)
        (try clear HB)
        generalize ((((w76.setCell ⟨gb212, 0, none⟩ (.int .i64 ((rd_T230 l0_1 x53_3).f0))).setCell ⟨gb212, 1, none⟩ (.int .i64 ((rd_T230 l0_1 x53_3).f1))).setCell ⟨gb212, 2, none⟩ (.int .i64 ((rd_T230 l0_1 x53_3).f2))).setCell ⟨gb212, 3, none⟩ (.bool ((rd_T230 l0_1 x53_3).f3))) = w79 at n0_ n1_ n2_ n3_ n4_ ⊢
        have HO_6 := n0_
        have HO_7 := n1_
        have BK194 := n2_
        have BK212 := n3_
        have HB := n4_
        clear n0_ n1_ n2_ n3_ n4_
        replace HO_6 := aZ (Kd.Y_drew HO_6.out)
        replace HO_7 := aZ (Kd.Y_drew HO_7.out)
        replace BK194 := aZ (blk_drew BK194.out)
        replace BK212 := aZ (blk_drew BK212.out)
        replace HB := aZ (below_drew1 HB.out)
        have p214 : 0 ≤ (((rd_T230 l0_1 x53_3).f0) : Int) := of_decide_eq_true tZE
        have q214 : ((rd_T230 l0_1 x53_3).f0) < (l0_0.length : Int) := of_decide_eq_true tZE
        obtain ⟨ad214, e214, hx214_0, hx214_1⟩ := at_T304 HR0_0.out ((rd_T230 l0_1 x53_3).f0) p214 q214
        have hw214_1 := hx214_1
        have hw214_0 := hx214_0
        cases e214
        replace hx214_0 := cZ HB hx214_0
        replace hx214_1 := cZ HB hx214_1
        replace p214 := eq_true p214
        replace q214 := eq_true q214
        refine start_ (n := 49) (S := fun w' => w'.cell? ⟨gb212, 0, none⟩ = some (.int .i64 ((rd_T230 l0_1 x53_3).f0)) ∧ w'.cell? ⟨gb212, 1, none⟩ = some (.int .i64 ((rd_T230 l0_1 x53_3).f1)) ∧ w'.cell? ⟨gb212, 2, none⟩ = some (.int .i64 ((rd_T230 l0_1 x53_3).f2)) ∧ w'.cell? ⟨gb212, 3, none⟩ = some (.bool ((rd_T230 l0_1 x53_3).f3)) ∧ w'.cell? ⟨gb194, 0, none⟩ = some (.slice (some ad214) l0_0.length c0_0) ∧ w'.cell? ⟨gb194, 1, none⟩ = some (.slice (some ad211) l0_1.length c0_1) ∧ (Instr.lookup 308 v206 (.int .i64 ((rd_T230 l0_1 x53_3).f0)) false).run Try.prog w' = .ok (.int .i64 (mget 0 x6_3 ((rd_T230 l0_1 x53_3).f0))) w' ∧ w'.cell? (ad214.add ((((rd_T230 l0_1 x53_3).f0)).toNat * 2)) = some (.string ((rd_T304 l0_0 ((rd_T230 l0_1 x53_3).f0)).f0)) ∧ w'.cell? ⟨(ad214.add ((((rd_T230 l0_1 x53_3).f0)).toNat * 2)).block, (ad214.add ((((rd_T230 l0_1 x53_3).f0)).toNat * 2)).off + 1, none⟩ = some (.int .i64 ((rd_T304 l0_0 ((rd_T230 l0_1 x53_3).f0)).f1)) ∧ (Instr.lookup 308 v209 (.int .i64 ((rd_T230 l0_1 x53_3).f0)) false).run Try.prog w' = .ok (.int .i64 (mget 0 x7_3 ((rd_T230 l0_1 x53_3).f0))) w') (ds := []) L0' kZ rfl rfl ⟨(blk_cell BK212.out 0).trans rfl, (blk_cell BK212.out 1).trans rfl, (blk_cell BK212.out 2).trans rfl, (blk_cell BK212.out 3).trans rfl, (blk_cell BK194.out 0).trans rfl, (blk_cell BK194.out 1).trans rfl, (Kd.Y_get (m := my308) (e := 308) (lZY HO_6.out) ((rd_T230 l0_1 x53_3).f0) (show okI _ from ⟨((of_decide_eq_true tZE) : -9223372036854775808 ≤ ((rd_T230 l0_1 x53_3).f0)), ((of_decide_eq_true tZE) : ((rd_T230 l0_1 x53_3).f0) ≤ 9223372036854775807)⟩)), ((HB.out.cell (World.block_lt_of_cell? w _ hw214_0)).trans hw214_0), ((HB.out.cell (World.block_lt_of_cell? w _ hw214_1)).trans hw214_1), (Kd.Y_get (m := my308) (e := 308) (lZY HO_7.out) ((rd_T230 l0_1 x53_3).f0) (show okI _ from ⟨((of_decide_eq_true tZE) : -9223372036854775808 ≤ ((rd_T230 l0_1 x53_3).f0)), ((of_decide_eq_true tZE) : ((rd_T230 l0_1 x53_3).f0) ≤ 9223372036854775807)⟩))⟩ (fun hHeld => ?_); refine with_tabW impl_RegisterOk.tab16 impl_RegisterOk.bits16 (fun HT_ HW_ => ?_)
        generalize w79.drew = w80 at HO_6 HO_7 BK194 BK212 HB hx214_0 hx214_1 hHeld ⊢
        refine pure_ (i := 0) (N := some 57) (v := ?_) (a' := ?_) L1' rfl rfl (any_of HT_.out kZ) (fun _ _ _ h => h) (Or.inl ⟨by rfl, ?_⟩) ?_ ?_
        rotate_left
        ·intro w'
         go_simp
         with_reducible rfl
        rotate_left
        ·simp only [Act.put, sZ1, sZ2, sZ3, i64_w, i32_w]
         rfl
        refine take_ (i := 1) (N := some 58) (v := ?_) (a' := ?_) L2' rfl rfl (take_ofW HT_.out HW_.out kZ) (fun _ _ _ h => h) (Or.inl ⟨by rfl, ?_⟩) hHeld ?_ ?_
        rotate_left
        ·rintro w' ⟨s0, s1, s2, s3, s4, s5, s6, s7, s8, s9⟩
         go_simp
         with_reducible rfl
        rotate_left
        ·simp only [Act.put, sZ1, sZ2, sZ3, i64_w, i32_w]
         rfl
        refine pure_ (i := 2) (N := some 59) (v := ?_) (a' := ?_) L3' rfl rfl (any_of HT_.out kZ) (fun _ _ _ h => h) (Or.inl ⟨by rfl, ?_⟩) ?_ ?_
        rotate_left
        ·intro w'
         go_simp
         with_reducible rfl
        rotate_left
        ·simp only [Act.put, sZ1, sZ2, sZ3, i64_w, i32_w]
         rfl
        refine pure_ (i := 3) (N := some 60) (v := ?_) (a' := ?_) L4' rfl rfl (any_of HT_.out kZ) (fun _ _ _ h => h) (Or.inl ⟨by rfl, ?_⟩) ?_ ?_
        rotate_left
        ·intro w'
         go_simp
         with_reducible rfl
        rotate_left
        ·simp only [Act.put, sZ1, sZ2, sZ3, i64_w, i32_w]
         rfl
        refine pure_ (i := 4) (N := some 61) (v := ?_) (a' := ?_) L5' rfl rfl (any_of HT_.out kZ) (fun _ _ _ h => h) (Or.inl ⟨by rfl, ?_⟩) ?_ ?_
        rotate_left
        ·intro w'
         go_simp
         with_reducible rfl
        rotate_left
        ·simp only [Act.put, sZ1, sZ2, sZ3, i64_w, i32_w]
         rfl
        refine pure_ (i := 6) (N := some 63) (v := ?_) (a' := ?_) L50' rfl rfl (any_of HT_.out kZ) (fun _ _ _ h => h) (Or.inl ⟨by rfl, ?_⟩) ?_ ?_
        rotate_left
        ·intro w'
         go_simp
         with_reducible rfl
        rotate_left
        ·simp only [Act.put, sZ1, sZ2, sZ3, i64_w, i32_w]
         rfl
        refine take_ (i := 5) (N := some 62) (v := ?_) (a' := ?_) L7' rfl rfl (take_ofW HT_.out HW_.out kZ) (fun _ _ _ h => h) (Or.inl ⟨by rfl, ?_⟩) hHeld ?_ ?_
        rotate_left
        ·rintro w' ⟨s0, s1, s2, s3, s4, s5, s6, s7, s8, s9⟩
         go_simp
         with_reducible rfl
        rotate_left
        ·simp only [Act.put, sZ1, sZ2, sZ3, i64_w, i32_w]
         rfl
        refine take_ (i := 7) (N := some 64) (v := ?_) (a' := ?_) L8' rfl rfl (take_ofW HT_.out HW_.out kZ) (fun _ _ _ h => h) (Or.inl ⟨by rfl, ?_⟩) hHeld ?_ ?_
        rotate_left
        ·rintro w' ⟨s0, s1, s2, s3, s4, s5, s6, s7, s8, s9⟩
         go_simp
         with_reducible rfl
        rotate_left
        ·simp only [Act.put, sZ1, sZ2, sZ3, i64_w, i32_w]
         rfl
        refine pure_ (i := 8) (N := some 65) (v := ?_) (a' := ?_) L9' rfl rfl (any_of HT_.out kZ) (fun _ _ _ h => h) (Or.inl ⟨by rfl, ?_⟩) ?_ ?_
        rotate_left
        ·intro w'
         go_simp
         with_reducible rfl
        rotate_left
        ·simp only [Act.put, sZ1, sZ2, sZ3, i64_w, i32_w]
         rfl
        refine pure_ (i := 9) (N := some 66) (v := ?_) (a' := ?_) L10' rfl rfl (any_of HT_.out kZ) (fun _ _ _ h => h) (Or.inl ⟨by rfl, ?_⟩) ?_ ?_
        rotate_left
        ·intro w'
         go_simp
         with_reducible rfl
        rotate_left
        ·simp only [Act.put, sZ1, sZ2, sZ3, i64_w, i32_w]
         rfl
        refine pure_ (i := 10) (N := some 67) (v := ?_) (a' := ?_) L11' rfl rfl (any_of HT_.out kZ) (fun _ _ _ h => h) (Or.inl ⟨by rfl, ?_⟩) ?_ ?_
        rotate_left
        ·intro w'
         go_simp
         with_reducible rfl
        rotate_left
        ·simp only [Act.put, sZ1, sZ2, sZ3, i64_w, i32_w]
         rfl
        refine pure_ (i := 11) (N := some 68) (v := ?_) (a' := ?_) L12' rfl rfl (any_of HT_.out kZ) (fun _ _ _ h => h) (Or.inl ⟨by rfl, ?_⟩) ?_ ?_
        rotate_left
        ·intro w'
         go_simp
         with_reducible rfl
        rotate_left
        ·simp only [Act.put, sZ1, sZ2, sZ3, i64_w, i32_w]
         rfl
        refine pure_ (i := 12) (N := some 69) (v := ?_) (a' := ?_) L13' rfl rfl (any_of HT_.out kZ) (fun _ _ _ h => h) (Or.inl ⟨by rfl, ?_⟩) ?_ ?_
        rotate_left
        ·intro w'
         go_simp
         with_reducible rfl
        rotate_left
        ·simp only [Act.put, sZ1, sZ2, sZ3, i64_w, i32_w]
         rfl
        refine pure_ (i := 14) (N := some 71) (v := ?_) (a' := ?_) L51' rfl rfl (any_of HT_.out kZ) (fun _ _ _ h => h) (Or.inl ⟨by rfl, ?_⟩) ?_ ?_
        rotate_left
        ·intro w'
         go_simp
         with_reducible rfl
        rotate_left
        ·simp only [Act.put, sZ1, sZ2, sZ3, i64_w, i32_w]
         rfl
        refine pure_ (i := 15) (N := some 72) (v := ?_) (a' := ?_) L52' rfl rfl (any_of HT_.out kZ) (fun _ _ _ h => h) (Or.inl ⟨by rfl, ?_⟩) ?_ ?_
        rotate_left
        ·intro w'
         go_simp
         with_reducible rfl
        rotate_left
        ·simp only [Act.put, sZ1, sZ2, sZ3, i64_w, i32_w]
         rfl
        refine take_ (i := 13) (N := some 70) (v := ?_) (a' := ?_) L16' rfl rfl (take_ofW HT_.out HW_.out kZ) (fun _ _ _ h => h) (Or.inl ⟨by rfl, ?_⟩) hHeld ?_ ?_
        rotate_left
        ·rintro w' ⟨s0, s1, s2, s3, s4, s5, s6, s7, s8, s9⟩
         go_simp
         with_reducible rfl
        rotate_left
        ·simp only [Act.put, sZ1, sZ2, sZ3, i64_w, i32_w]
         rfl
        refine take_ (i := 16) (N := some 73) (v := ?_) (a' := ?_) L17' rfl rfl (take_ofW HT_.out HW_.out kZ) (fun _ _ _ h => h) (Or.inl ⟨by rfl, ?_⟩) hHeld ?_ ?_
        rotate_left
        ·rintro w' ⟨s0, s1, s2, s3, s4, s5, s6, s7, s8, s9⟩
         go_simp
         with_reducible rfl
        rotate_left
        ·simp only [Act.put, sZ1, sZ2, sZ3, i64_w, i32_w]
         rfl
        refine take_ (i := 17) (N := some 74) (v := ?_) (a' := ?_) L18' rfl rfl (take_ofW HT_.out HW_.out kZ) (fun _ _ _ h => h) (Or.inl ⟨by rfl, ?_⟩) hHeld ?_ ?_
        rotate_left
        ·rintro w' ⟨s0, s1, s2, s3, s4, s5, s6, s7, s8, s9⟩
         go_simp
         with_reducible rfl
        rotate_left
        ·simp only [Act.put, sZ1, sZ2, sZ3, i64_w, i32_w]
         rfl
        refine pure_ (i := 18) (N := some 75) (v := ?_) (a' := ?_) L19' rfl rfl (any_of HT_.out kZ) (fun _ _ _ h => h) (Or.inl ⟨by rfl, ?_⟩) ?_ ?_
        rotate_left
        ·intro w'
         go_simp
         with_reducible rfl
        rotate_left
        ·simp only [Act.put, sZ1, sZ2, sZ3, i64_w, i32_w]
         rfl
        refine pure_ (i := 19) (N := some 76) (v := ?_) (a' := ?_) L20' rfl rfl (any_of HT_.out kZ) (fun _ _ _ h => h) (Or.inl ⟨by rfl, ?_⟩) ?_ ?_
        rotate_left
        ·intro w'
         go_simp
         with_reducible rfl
        rotate_left
        ·simp only [Act.put, sZ1, sZ2, sZ3, i64_w, i32_w]
         rfl
        refine pure_ (i := 20) (N := some 77) (v := ?_) (a' := ?_) L21' rfl rfl (any_of HT_.out kZ) (fun _ _ _ h => h) (Or.inl ⟨by rfl, ?_⟩) ?_ ?_
        rotate_left
        ·intro w'
         go_simp
         with_reducible rfl
        rotate_left
        ·simp only [Act.put, sZ1, sZ2, sZ3, i64_w, i32_w]
         rfl
        refine pure_ (i := 21) (N := some 78) (v := ?_) (a' := ?_) L22' rfl rfl (any_of HT_.out kZ) (fun _ _ _ h => h) (Or.inl ⟨by rfl, ?_⟩) ?_ ?_
        rotate_left
        ·intro w'
         go_simp
         with_reducible rfl
        rotate_left
        ·simp only [Act.put, sZ1, sZ2, sZ3, i64_w, i32_w]
         rfl
        refine pure_ (i := 22) (N := some 79) (v := ?_) (a' := ?_) L23' rfl rfl (any_of HT_.out kZ) (fun _ _ _ h => h) (Or.inl ⟨by rfl, ?_⟩) ?_ ?_
        rotate_left
        ·intro w'
         go_simp
         with_reducible rfl
        rotate_left
        ·simp only [Act.put, sZ1, sZ2, sZ3, i64_w, i32_w]
         rfl
        refine pure_ (i := 25) (N := some 82) (v := ?_) (a' := ?_) L53' rfl rfl (any_of HT_.out kZ) (fun _ _ _ h => h) (Or.inl ⟨by rfl, ?_⟩) ?_ ?_
        rotate_left
        ·intro w'
         go_simp
         with_reducible rfl
        rotate_left
        ·simp only [Act.put, sZ1, sZ2, sZ3, i64_w, i32_w]
         rfl
        refine pure_ (i := 27) (N := some 84) (v := ?_) (a' := ?_) L54' rfl rfl (any_of HT_.out kZ) (fun _ _ _ h => h) (Or.inl ⟨by rfl, ?_⟩) ?_ ?_
        rotate_left
        ·intro w'
         go_simp
         with_reducible rfl
        rotate_left
        ·simp only [Act.put, sZ1, sZ2, sZ3, i64_w, i32_w]
         rfl
        refine take_ (i := 23) (N := some 80) (v := ?_) (a' := ?_) L55' rfl rfl (take_ofW HT_.out HW_.out kZ) (fun _ _ _ h => h) (Or.inl ⟨by rfl, ?_⟩) hHeld ?_ ?_
        rotate_left
        ·rintro w' ⟨s0, s1, s2, s3, s4, s5, s6, s7, s8, s9⟩
         go_simp
         with_reducible rfl
        rotate_left
        ·simp only [Act.put, sZ1, sZ2, sZ3, i64_w, i32_w]
         rfl
        refine take_ (i := 26) (N := some 83) (v := ?_) (a' := ?_) L56' rfl rfl (take_ofW HT_.out HW_.out kZ) (fun _ _ _ h => h) (Or.inl ⟨by rfl, ?_⟩) hHeld ?_ ?_
        rotate_left
        ·rintro w' ⟨s0, s1, s2, s3, s4, s5, s6, s7, s8, s9⟩
         go_simp
         with_reducible rfl
        rotate_left
        ·simp only [Act.put, sZ1, sZ2, sZ3, i64_w, i32_w]
         rfl
        refine take_ (i := 28) (N := some 85) (v := ?_) (a' := ?_) L57' rfl rfl (take_ofW HT_.out HW_.out kZ) (fun _ _ _ h => h) (Or.inl ⟨by rfl, ?_⟩) hHeld ?_ ?_
        rotate_left
        ·rintro w' ⟨s0, s1, s2, s3, s4, s5, s6, s7, s8, s9⟩
         go_simp
         with_reducible rfl
        rotate_left
        ·simp only [Act.put, sZ1, sZ2, sZ3, i64_w, i32_w]
         rfl
        refine pure_ (i := 29) (N := some 86) (v := ?_) (a' := ?_) L58' rfl rfl (any_of HT_.out kZ) (fun _ _ _ h => h) (Or.inl ⟨by rfl, ?_⟩) ?_ ?_
        rotate_left
        ·intro w'
         go_simp
         with_reducible rfl
        rotate_left
        ·simp only [Act.put, sZ1, sZ2, sZ3, i64_w, i32_w]
         rfl
        refine pure_ (i := 30) (N := some 87) (v := ?_) (a' := ?_) L59' rfl rfl (any_of HT_.out kZ) (fun _ _ _ h => h) (Or.inl ⟨by rfl, ?_⟩) ?_ ?_
        rotate_left
        ·intro w'
         go_simp
         with_reducible rfl
        rotate_left
        ·simp only [Act.put, sZ1, sZ2, sZ3, i64_w, i32_w]
         rfl
        refine take_ (i := 31) (N := some 88) (v := ?_) (a' := ?_) L60' rfl rfl (take_ofW HT_.out HW_.out kZ) (fun _ _ _ h => h) (Or.inl ⟨by rfl, ?_⟩) hHeld ?_ ?_
        rotate_left
        ·rintro w' ⟨s0, s1, s2, s3, s4, s5, s6, s7, s8, s9⟩
         go_simp
         with_reducible rfl
        rotate_left
        ·simp only [Act.put, sZ1, sZ2, sZ3, i64_w, i32_w]
         rfl
        refine one_ (i := 24) (N := some 81) L32' rfl rfl (one_of HT_.out kZ) (by decide) (fun K hK => ?_)
        refine goes_ Try.func226 kZ rfl #[.int .i64 ((rd_T230 l0_1 x53_3).f1)] (by rfl) rfl rfl tZA ?_
        with_reducible refine (impl_digitsIn.calls k3 ((rd_T230 l0_1 x53_3).f1) t213 _ A63.out).mono ?_
        rintro e w81 ⟨rfl, hb⟩
        refine ⟨_, rfl, ?_⟩
        replace HO_6 := aZ (Kd.Y_below (lZY HO_6.out) hb)
        replace HO_7 := aZ (Kd.Y_below (lZY HO_7.out) hb)
        replace BK194 := aZ (blk_below (bkZ BK194.out) hb)
        replace BK212 := aZ (blk_below (bkZ BK212.out) hb)
        replace HB := aZ (below_step bZ hb)
        (try clear hb)
        (try clear hb2)
        (try clear hk)
        (try clear hi)
        refine hK.out _ _ ⟨(blk_cell BK212.out 0).trans rfl, (blk_cell BK212.out 1).trans rfl, (blk_cell BK212.out 2).trans rfl, (blk_cell BK212.out 3).trans rfl, (blk_cell BK194.out 0).trans rfl, (blk_cell BK194.out 1).trans rfl, (Kd.Y_get (m := my308) (e := 308) (lZY HO_6.out) ((rd_T230 l0_1 x53_3).f0) (show okI _ from ⟨((of_decide_eq_true tZE) : -9223372036854775808 ≤ ((rd_T230 l0_1 x53_3).f0)), ((of_decide_eq_true tZE) : ((rd_T230 l0_1 x53_3).f0) ≤ 9223372036854775807)⟩)), ((HB.out.cell (World.block_lt_of_cell? w _ hw214_0)).trans hw214_0), ((HB.out.cell (World.block_lt_of_cell? w _ hw214_1)).trans hw214_1), (Kd.Y_get (m := my308) (e := 308) (lZY HO_7.out) ((rd_T230 l0_1 x53_3).f0) (show okI _ from ⟨((of_decide_eq_true tZE) : -9223372036854775808 ≤ ((rd_T230 l0_1 x53_3).f0)), ((of_decide_eq_true tZE) : ((rd_T230 l0_1 x53_3).f0) ≤ 9223372036854775807)⟩))⟩ (fun hHeld => ?_)
        clear hK K
        refine norm_ (a' := ?_) ?_ ?_
        rotate_left
        ·show Act.put _ (some 81) _ = _
         simp only [Act.put, sZ1, sZ2, sZ3, i64_w, i32_w]
         rfl
        refine pure_ (i := 32) (N := some 89) (v := ?_) (a' := ?_) L33' rfl rfl (any_of HT_.out kZ) (fun _ _ _ h => h) (Or.inl ⟨by rfl, ?_⟩) ?_ ?_
        rotate_left
        ·intro w'
         go_simp
         with_reducible rfl
        rotate_left
        ·simp only [Act.put, sZ1, sZ2, sZ3, i64_w, i32_w]
         rfl
        refine pure_ (i := 33) (N := some 90) (v := ?_) (a' := ?_) L34' rfl rfl (any_of HT_.out kZ) (fun _ _ _ h => h) (Or.inl ⟨by rfl, ?_⟩) ?_ ?_
        rotate_left
        ·intro w'
         go_simp
         with_reducible rfl
        rotate_left
        ·simp only [Act.put, sZ1, sZ2, sZ3, i64_w, i32_w]
         rfl
        refine pure_ (i := 34) (N := some 91) (v := ?_) (a' := ?_) L35' rfl rfl (any_of HT_.out kZ) (fun _ _ _ h => h) (Or.inl ⟨by rfl, ?_⟩) ?_ ?_
        rotate_left
        ·intro w'
         go_simp
         with_reducible rfl
        rotate_left
        ·simp only [Act.put, sZ1, sZ2, sZ3, i64_w, i32_w]
         rfl
        refine pure_ (i := 35) (N := some 92) (v := ?_) (a' := ?_) L36' rfl rfl (any_of HT_.out kZ) (fun _ _ _ h => h) (Or.inl ⟨by rfl, ?_⟩) ?_ ?_
        rotate_left
        ·intro w'
         go_simp
         with_reducible rfl
        rotate_left
        ·simp only [Act.put, sZ1, sZ2, sZ3, i64_w, i32_w]
         rfl
        refine take_ (i := 36) (N := some 93) (v := ?_) (a' := ?_) L37' rfl rfl (take_ofW HT_.out HW_.out kZ) (fun _ _ _ h => h) (Or.inl ⟨by rfl, ?_⟩) hHeld ?_ ?_
        rotate_left
        ·rintro w' ⟨s0, s1, s2, s3, s4, s5, s6, s7, s8, s9⟩
         go_simp
         with_reducible rfl
        rotate_left
        ·simp only [Act.put, sZ1, sZ2, sZ3, i64_w, i32_w]
         rfl
        refine one_ (i := 37) (N := some 94) L38' rfl rfl (one_of HT_.out kZ) (by decide) (fun K hK => ?_)
        refine goes_ Try.func113 kZ rfl #[.int .i64 ((rd_T230 l0_1 x53_3).f2)] (by rfl) rfl rfl tZA ?_
        with_reducible refine (impl_isDay.calls ((rd_T230 l0_1 x53_3).f2) true _ A73.out).mono ?_
        rintro e w' ⟨rfl, ⟨nd, rfl⟩⟩
        refine ⟨_, rfl, ?_⟩
        refine hK.out _ _ ⟨(blk_cell BK212.out 0).trans rfl, (blk_cell BK212.out 1).trans rfl, (blk_cell BK212.out 2).trans rfl, (blk_cell BK212.out 3).trans rfl, (blk_cell BK194.out 0).trans rfl, (blk_cell BK194.out 1).trans rfl, (Kd.Y_get (m := my308) (e := 308) (lZY HO_6.out) ((rd_T230 l0_1 x53_3).f0) (show okI _ from ⟨((of_decide_eq_true tZE) : -9223372036854775808 ≤ ((rd_T230 l0_1 x53_3).f0)), ((of_decide_eq_true tZE) : ((rd_T230 l0_1 x53_3).f0) ≤ 9223372036854775807)⟩)), ((HB.out.cell (World.block_lt_of_cell? w _ hw214_0)).trans hw214_0), ((HB.out.cell (World.block_lt_of_cell? w _ hw214_1)).trans hw214_1), (Kd.Y_get (m := my308) (e := 308) (lZY HO_7.out) ((rd_T230 l0_1 x53_3).f0) (show okI _ from ⟨((of_decide_eq_true tZE) : -9223372036854775808 ≤ ((rd_T230 l0_1 x53_3).f0)), ((of_decide_eq_true tZE) : ((rd_T230 l0_1 x53_3).f0) ≤ 9223372036854775807)⟩))⟩ (fun hHeld => ?_)
        clear hK K
        refine norm_ (a' := ?_) ?_ ?_
        rotate_left
        ·show Act.put _ (some 94) _ = _
         simp only [Act.put, sZ1, sZ2, sZ3, i64_w, i32_w]
         rfl
        refine pure_ (i := 38) (N := some 95) (v := ?_) (a' := ?_) L39' rfl rfl (any_of HT_.out kZ) (fun _ _ _ h => h) (Or.inl ⟨by rfl, ?_⟩) ?_ ?_
        rotate_left
        ·intro w'
         go_simp
         with_reducible rfl
        rotate_left
        ·simp only [Act.put, sZ1, sZ2, sZ3, i64_w, i32_w]
         rfl
        refine pure_ (i := 39) (N := some 96) (v := ?_) (a' := ?_) L40' rfl rfl (any_of HT_.out kZ) (fun _ _ _ h => h) (Or.inl ⟨by rfl, ?_⟩) ?_ ?_
        rotate_left
        ·intro w'
         go_simp
         with_reducible rfl
        rotate_left
        ·simp only [Act.put, sZ1, sZ2, sZ3, i64_w, i32_w]
         rfl
        refine pure_ (i := 40) (N := some 97) (v := ?_) (a' := ?_) L41' rfl rfl (any_of HT_.out kZ) (fun _ _ _ h => h) (Or.inl ⟨by rfl, ?_⟩) ?_ ?_
        rotate_left
        ·intro w'
         go_simp
         with_reducible rfl
        rotate_left
        ·simp only [Act.put, sZ1, sZ2, sZ3, i64_w, i32_w]
         rfl
        refine pure_ (i := 41) (N := some 98) (v := ?_) (a' := ?_) L42' rfl rfl (any_of HT_.out kZ) (fun _ _ _ h => h) (Or.inl ⟨by rfl, ?_⟩) ?_ ?_
        rotate_left
        ·intro w'
         go_simp
         with_reducible rfl
        rotate_left
        ·simp only [Act.put, sZ1, sZ2, sZ3, i64_w, i32_w]
         rfl
        refine pure_ (i := 43) (N := some 100) (v := ?_) (a' := ?_) L61' rfl rfl (any_of HT_.out kZ) (fun _ _ _ h => h) (Or.inl ⟨by rfl, ?_⟩) ?_ ?_
        rotate_left
        ·intro w'
         go_simp
         with_reducible rfl
        rotate_left
        ·simp only [Act.put, sZ1, sZ2, sZ3, i64_w, i32_w]
         rfl
        refine pure_ (i := 44) (N := some 101) (v := ?_) (a' := ?_) L62' rfl rfl (any_of HT_.out kZ) (fun _ _ _ h => h) (Or.inl ⟨by rfl, ?_⟩) ?_ ?_
        rotate_left
        ·intro w'
         go_simp
         with_reducible rfl
        rotate_left
        ·simp only [Act.put, sZ1, sZ2, sZ3, i64_w, i32_w]
         rfl
        refine take_ (i := 42) (N := some 99) (v := ?_) (a' := ?_) L45' rfl rfl (take_ofW HT_.out HW_.out kZ) (fun _ _ _ h => h) (Or.inl ⟨by rfl, ?_⟩) hHeld ?_ ?_
        rotate_left
        ·rintro w' ⟨s0, s1, s2, s3, s4, s5, s6, s7, s8, s9⟩
         go_simp
         with_reducible rfl
        rotate_left
        ·simp only [Act.put, sZ1, sZ2, sZ3, i64_w, i32_w]
         rfl
        refine take_ (i := 45) (N := some 102) (v := ?_) (a' := ?_) L46' rfl rfl (take_ofW HT_.out HW_.out kZ) (fun _ _ _ h => h) (Or.inl ⟨by rfl, ?_⟩) hHeld ?_ ?_
        rotate_left
        ·rintro w' ⟨s0, s1, s2, s3, s4, s5, s6, s7, s8, s9⟩
         go_simp
         with_reducible rfl
        rotate_left
        ·simp only [Act.put, sZ1, sZ2, sZ3, i64_w, i32_w]
         rfl
        refine take_ (i := 46) (N := some 103) (v := ?_) (a' := ?_) L47' rfl rfl (take_ofW HT_.out HW_.out kZ) (fun _ _ _ h => h) (Or.inl ⟨by rfl, ?_⟩) hHeld ?_ ?_
        rotate_left
        ·rintro w' ⟨s0, s1, s2, s3, s4, s5, s6, s7, s8, s9⟩
         go_simp
         with_reducible rfl
        rotate_left
        ·simp only [Act.put, sZ1, sZ2, sZ3, i64_w, i32_w]
         rfl
        refine pure_ (i := 47) (N := some 104) (v := ?_) (a' := ?_) L48' rfl rfl (any_of HT_.out kZ) (fun _ _ _ h => h) (Or.inl ⟨by rfl, ?_⟩) ?_ ?_
        rotate_left
        ·intro w'
         go_simp
         with_reducible rfl
        rotate_left
        ·simp only [Act.put, sZ1, sZ2, sZ3, i64_w, i32_w]
         rfl
        refine pure_ (i := 48) (N := some 105) (v := ?_) (a' := ?_) L49' rfl rfl (any_of HT_.out kZ) (fun _ _ _ h => h) (Or.inl ⟨by rfl, ?_⟩) ?_ ?_
        rotate_left
        ·intro w'
         go_simp
         with_reducible rfl
        rotate_left
        ·simp only [Act.put, sZ1, sZ2, sZ3, i64_w, i32_w]
         rfl
        refine done_ (done_of HT_.out kZ) ?_
        try go_wp2
        go_ret
        exact ⟨tZC, bZ⟩
       rw [if_neg c75] at H
       have c75b0 := decide_eq_false c75
       clear c75
       by_cases c82 : x6_3.length < 140737488355328
       rotate_left
       ·rw [if_neg c82] at H
        exact absurd H (by simp)
       rw [if_pos c82] at H
       have LMc82 := Aside0.mk c82
       clear c82
       obtain ⟨y216, hy216⟩ : ∃ y_ : List ((Int × Int)), y_ = (((rd_T230 l0_1 x53_3).f0, wrap64 ((mget 0 x6_3 ((rd_T230 l0_1 x53_3).f0)) + 1)) :: x6_3) := ⟨_, rfl⟩
       replace H : (if -9223372036854775808 ≤ ((rd_T230 l0_1 x53_3).f2) then (if ((rd_T230 l0_1 x53_3).f2) ≤ 9223372036854775807 then (if x7_3.length < 140737488355328 then (impl_RegisterOk.l1 k3 y216 (((rd_T230 l0_1 x53_3).f0, (rd_T230 l0_1 x53_3).f2) :: x7_3) l0_1 (l0_1.length : Int) (wrap64 (x53_3 + 1)) l0_0 l0_1) else (none)) else (none)) else (none)) = some r := by first | (rw [hy216]; with_reducible exact H) | (have H2_ := (Option.bind_some _ _).symm.trans H; rw [hy216]; with_reducible exact H2_) | (have H2_ := (Option.bind_some _ _).symm.trans H; with_reducible exact H2_) | with_reducible exact H | (rw [hy216]; exact H) | exact H
       have Ny216 := Aside0.mk hy216
       clear hy216
       by_cases c83 : -9223372036854775808 ≤ ((rd_T230 l0_1 x53_3).f2)
       rotate_left
       ·rw [if_neg c83] at H
        exact absurd H (by simp)
       rw [if_pos c83] at H
       have c83b0 := eq_true c83
       have c83b1 := decide_eq_true c83
       clear c83
       by_cases c84 : ((rd_T230 l0_1 x53_3).f2) ≤ 9223372036854775807
       rotate_left
       ·rw [if_neg c84] at H
        exact absurd H (by simp)
       rw [if_pos c84] at H
       have c84b0 := eq_true c84
       have c84b1 := decide_eq_true c84
       try have c84b2 := eq_false (Nat.not_lt.2 c84)
       clear c84
       by_cases c85 : x7_3.length < 140737488355328
       rotate_left
       ·rw [if_neg c85] at H
        exact absurd H (by simp)
       rw [if_pos c85] at H
       have LMc85 := Aside0.mk c85
       clear c85
       obtain ⟨y218, hy218⟩ : ∃ y_ : List ((Int × Int)), y_ = (((rd_T230 l0_1 x53_3).f0, (rd_T230 l0_1 x53_3).f2) :: x7_3) := ⟨_, rfl⟩
       replace H : (impl_RegisterOk.l1 k3 y216 y218 l0_1 (l0_1.length : Int) (wrap64 (x53_3 + 1)) l0_0 l0_1) = some r := by first | (rw [hy218]; with_reducible exact H) | (have H2_ := (Option.bind_some _ _).symm.trans H; rw [hy218]; with_reducible exact H2_) | (have H2_ := (Option.bind_some _ _).symm.trans H; with_reducible exact H2_) | with_reducible exact H | (rw [hy218]; exact H) | exact H
       have Ny218 := Aside0.mk hy218
       clear hy218
       have H' := Aside0.mk H
       clear H
       have p211 : 0 ≤ (x53_3 : Int) := of_decide_eq_true tZE
       have q211 : x53_3 < (l0_1.length : Int) := of_decide_eq_true tZE
       obtain ⟨ad211, e211, hx211_0, hx211_1, hx211_2, hx211_3⟩ := at_T230 HR0_1.out x53_3 p211 q211
       cases e211
       replace hx211_0 := cZ HB hx211_0
       replace hx211_1 := cZ HB hx211_1
       replace hx211_2 := cZ HB hx211_2
       replace hx211_3 := cZ HB hx211_3
       replace p211 := eq_true p211
       replace q211 := eq_true q211
       try go_wp2_with (first | ((with_reducible refine gate_dst (N := 9) rfl ?_); (try (refine gate_guard (by rfl) ?_; dsimp only)); refine box_event ?hg (N := 9) ?hd (cs := #[.int .i64 0, .int .i64 0, .int .i64 0, .bool false]) (t := 230) ?hr ?_; (case hd => rfl); (case hg => rfl); (case hr => first | (go_simp; done) | (go_simp; rfl)); intro gb212 hg w86 hbox hb; replace HO_6 := aZ (Kd.Y_below (lZY HO_6.out) hb); replace HO_7 := aZ (Kd.Y_below (lZY HO_7.out) hb); have BK212 := aZ (hbox); have GW212 := aZ ((by rw [hg]; exact (below_size bZ) : w.heap.size ≤ gb212)); have GE212 := aZ ((by rw [hg]; exact (below_size bZ) : w.heap.size ≤ gb212)); replace HB := aZ (below_step bZ hb); have NB194_212 := aZ ((by rw [hg]; exact Nat.ne_of_lt (blk_lt (bkZ BK194.out)) : gb194 ≠ gb212)); have NB212_194 := aZ ((by rw [hg]; exact Nat.ne_of_gt (blk_lt (bkZ BK194.out)) : gb212 ≠ gb194)); replace BK194 := aZ (blk_below (bkZ BK194.out) hb); clear hb hbox hg; have hnb87 := NB212_194.out; have hnc87 := NB194_212.out; have hcz88_0 : w86.cell? ⟨gb212, 0, none⟩ = some (.int .i64 0) := (blk_cell BK212.out 0).trans rfl; have hcz88_1 : w86.cell? ⟨gb212, 1, none⟩ = some (.int .i64 0) := (blk_cell BK212.out 1).trans rfl; have hcz88_2 : w86.cell? ⟨gb212, 2, none⟩ = some (.int .i64 0) := (blk_cell BK212.out 2).trans rfl; have hcz88_3 : w86.cell? ⟨gb212, 3, none⟩ = some (.bool false) := (blk_cell BK212.out 3).trans rfl; have hfz88_0 := blk_frozen BK212.out 0; have hfz88_1 := blk_frozen BK212.out 1; have hfz88_2 := blk_frozen BK212.out 2; have hfz88_3 := blk_frozen BK212.out 3))
       have n0_ : Aside0 (Kd.Y my308 308 ((((w86.setCell ⟨gb212, 0, none⟩ (.int .i64 ((rd_T230 l0_1 x53_3).f0))).setCell ⟨gb212, 1, none⟩ (.int .i64 ((rd_T230 l0_1 x53_3).f1))).setCell ⟨gb212, 2, none⟩ (.int .i64 ((rd_T230 l0_1 x53_3).f2))).setCell ⟨gb212, 3, none⟩ (.bool ((rd_T230 l0_1 x53_3).f3))) w.heap.size (fun k_ => some k_ ≠ mapBlock v209) v206 x6_3) := ⟨by (with_reducible repeat (first | apply Kd.Y_alloc | apply Kd.Y_drewN | apply Kd.Y_drew)); exact Kd.Y_mono (Kd.Y_far (p := ⟨gb212, 3, none⟩) (Kd.Y_far (p := ⟨gb212, 2, none⟩) (Kd.Y_far (p := ⟨gb212, 1, none⟩) (Kd.Y_far (p := ⟨gb212, 0, none⟩) (Kd.Y_types HO_6.out BK212.out (by decide)) (fun _ hk => hk.2) (.int .i64 ((rd_T230 l0_1 x53_3).f0))) (fun _ hk => hk.2) (.int .i64 ((rd_T230 l0_1 x53_3).f1))) (fun _ hk => hk.2) (.int .i64 ((rd_T230 l0_1 x53_3).f2))) (fun _ hk => hk.2) (.bool ((rd_T230 l0_1 x53_3).f3))) (fun _ hk => hk.1)⟩
       have n1_ : Aside0 (Kd.Y my308 308 ((((w86.setCell ⟨gb212, 0, none⟩ (.int .i64 ((rd_T230 l0_1 x53_3).f0))).setCell ⟨gb212, 1, none⟩ (.int .i64 ((rd_T230 l0_1 x53_3).f1))).setCell ⟨gb212, 2, none⟩ (.int .i64 ((rd_T230 l0_1 x53_3).f2))).setCell ⟨gb212, 3, none⟩ (.bool ((rd_T230 l0_1 x53_3).f3))) w.heap.size (fun k_ => some k_ ≠ mapBlock v206) v209 x7_3) := ⟨by (with_reducible repeat (first | apply Kd.Y_alloc | apply Kd.Y_drewN | apply Kd.Y_drew)); exact Kd.Y_mono (Kd.Y_far (p := ⟨gb212, 3, none⟩) (Kd.Y_far (p := ⟨gb212, 2, none⟩) (Kd.Y_far (p := ⟨gb212, 1, none⟩) (Kd.Y_far (p := ⟨gb212, 0, none⟩) (Kd.Y_types HO_7.out BK212.out (by decide)) (fun _ hk => hk.2) (.int .i64 ((rd_T230 l0_1 x53_3).f0))) (fun _ hk => hk.2) (.int .i64 ((rd_T230 l0_1 x53_3).f1))) (fun _ hk => hk.2) (.int .i64 ((rd_T230 l0_1 x53_3).f2))) (fun _ hk => hk.2) (.bool ((rd_T230 l0_1 x53_3).f3))) (fun _ hk => hk.1)⟩
       have n2_ : Aside0 (((((w86.setCell ⟨gb212, 0, none⟩ (.int .i64 ((rd_T230 l0_1 x53_3).f0))).setCell ⟨gb212, 1, none⟩ (.int .i64 ((rd_T230 l0_1 x53_3).f1))).setCell ⟨gb212, 2, none⟩ (.int .i64 ((rd_T230 l0_1 x53_3).f2))).setCell ⟨gb212, 3, none⟩ (.bool ((rd_T230 l0_1 x53_3).f3))).heap[gb194]? = some (.cells #[.slice A0_0 l0_0.length c0_0, .slice (some ad211) l0_1.length c0_1] 86 (0, 0))) := ⟨by (with_reducible repeat (first | refine blk_drewN ?_ _ | refine blk_drew ?_ | refine blk_alloc ?_ _)); refine blk_far ?_ NB194_212.out _; (with_reducible repeat (first | refine blk_drewN ?_ _ | refine blk_drew ?_ | refine blk_alloc ?_ _)); refine blk_far ?_ NB194_212.out _; (with_reducible repeat (first | refine blk_drewN ?_ _ | refine blk_drew ?_ | refine blk_alloc ?_ _)); refine blk_far ?_ NB194_212.out _; (with_reducible repeat (first | refine blk_drewN ?_ _ | refine blk_drew ?_ | refine blk_alloc ?_ _)); refine blk_far ?_ NB194_212.out _; (with_reducible repeat (first | refine blk_drewN ?_ _ | refine blk_drew ?_ | refine blk_alloc ?_ _)); exact BK194.out⟩
       have n3_ : Aside0 (((((w86.setCell ⟨gb212, 0, none⟩ (.int .i64 ((rd_T230 l0_1 x53_3).f0))).setCell ⟨gb212, 1, none⟩ (.int .i64 ((rd_T230 l0_1 x53_3).f1))).setCell ⟨gb212, 2, none⟩ (.int .i64 ((rd_T230 l0_1 x53_3).f2))).setCell ⟨gb212, 3, none⟩ (.bool ((rd_T230 l0_1 x53_3).f3))).heap[gb212]? = some (.cells #[.int .i64 ((rd_T230 l0_1 x53_3).f0), .int .i64 ((rd_T230 l0_1 x53_3).f1), .int .i64 ((rd_T230 l0_1 x53_3).f2), .bool ((rd_T230 l0_1 x53_3).f3)] 230 (0, 0))) := ⟨by (with_reducible repeat (first | refine blk_drewN ?_ _ | refine blk_drew ?_ | refine blk_alloc ?_ _)); refine blk_put (cs := #[.int .i64 ((rd_T230 l0_1 x53_3).f0), .int .i64 ((rd_T230 l0_1 x53_3).f1), .int .i64 ((rd_T230 l0_1 x53_3).f2), .bool false]) ?_ 3 _ rfl; (with_reducible repeat (first | refine blk_drewN ?_ _ | refine blk_drew ?_ | refine blk_alloc ?_ _)); refine blk_put (cs := #[.int .i64 ((rd_T230 l0_1 x53_3).f0), .int .i64 ((rd_T230 l0_1 x53_3).f1), .int .i64 0, .bool false]) ?_ 2 _ rfl; (with_reducible repeat (first | refine blk_drewN ?_ _ | refine blk_drew ?_ | refine blk_alloc ?_ _)); refine blk_put (cs := #[.int .i64 ((rd_T230 l0_1 x53_3).f0), .int .i64 0, .int .i64 0, .bool false]) ?_ 1 _ rfl; (with_reducible repeat (first | refine blk_drewN ?_ _ | refine blk_drew ?_ | refine blk_alloc ?_ _)); refine blk_put (cs := #[.int .i64 0, .int .i64 0, .int .i64 0, .bool false]) ?_ 0 _ rfl; (with_reducible repeat (first | refine blk_drewN ?_ _ | refine blk_drew ?_ | refine blk_alloc ?_ _)); exact BK212.out⟩
       have n4_ : Aside0 (Below w.heap.size w ((((w86.setCell ⟨gb212, 0, none⟩ (.int .i64 ((rd_T230 l0_1 x53_3).f0))).setCell ⟨gb212, 1, none⟩ (.int .i64 ((rd_T230 l0_1 x53_3).f1))).setCell ⟨gb212, 2, none⟩ (.int .i64 ((rd_T230 l0_1 x53_3).f2))).setCell ⟨gb212, 3, none⟩ (.bool ((rd_T230 l0_1 x53_3).f3)))) := ⟨bZ⟩
       (try clear HO_6)
       (try clear HO_7)
       (try clear BK194)
       (try clear BK212)
       (try clear HB)
       generalize ((((w86.setCell ⟨gb212, 0, none⟩ (.int .i64 ((rd_T230 l0_1 x53_3).f0))).setCell ⟨gb212, 1, none⟩ (.int .i64 ((rd_T230 l0_1 x53_3).f1))).setCell ⟨gb212, 2, none⟩ (.int .i64 ((rd_T230 l0_1 x53_3).f2))).setCell ⟨gb212, 3, none⟩ (.bool ((rd_T230 l0_1 x53_3).f3))) = w89 at n0_ n1_ n2_ n3_ n4_ ⊢
       have HO_6 := n0_
       have HO_7 := n1_
       have BK194 := n2_
       have BK212 := n3_
       have HB := n4_
       clear n0_ n1_ n2_ n3_ n4_
       replace HO_6 := aZ (Kd.Y_drew HO_6.out)
       replace HO_7 := aZ (Kd.Y_drew HO_7.out)
       replace BK194 := aZ (blk_drew BK194.out)
       replace BK212 := aZ (blk_drew BK212.out)
       replace HB := aZ (below_drew1 HB.out)
       have p214 : 0 ≤ (((rd_T230 l0_1 x53_3).f0) : Int) := of_decide_eq_true tZE
       have q214 : ((rd_T230 l0_1 x53_3).f0) < (l0_0.length : Int) := of_decide_eq_true tZE
       obtain ⟨ad214, e214, hx214_0, hx214_1⟩ := at_T304 HR0_0.out ((rd_T230 l0_1 x53_3).f0) p214 q214
       have hw214_1 := hx214_1
       have hw214_0 := hx214_0
       cases e214
       replace hx214_0 := cZ HB hx214_0
       replace hx214_1 := cZ HB hx214_1
       replace p214 := eq_true p214
       replace q214 := eq_true q214
       refine start_ (n := 49) (S := fun w' => w'.cell? ⟨gb212, 0, none⟩ = some (.int .i64 ((rd_T230 l0_1 x53_3).f0)) ∧ w'.cell? ⟨gb212, 1, none⟩ = some (.int .i64 ((rd_T230 l0_1 x53_3).f1)) ∧ w'.cell? ⟨gb212, 2, none⟩ = some (.int .i64 ((rd_T230 l0_1 x53_3).f2)) ∧ w'.cell? ⟨gb212, 3, none⟩ = some (.bool ((rd_T230 l0_1 x53_3).f3)) ∧ w'.cell? ⟨gb194, 0, none⟩ = some (.slice (some ad214) l0_0.length c0_0) ∧ w'.cell? ⟨gb194, 1, none⟩ = some (.slice (some ad211) l0_1.length c0_1) ∧ (Instr.lookup 308 v206 (.int .i64 ((rd_T230 l0_1 x53_3).f0)) false).run Try.prog w' = .ok (.int .i64 (mget 0 x6_3 ((rd_T230 l0_1 x53_3).f0))) w' ∧ w'.cell? (ad214.add ((((rd_T230 l0_1 x53_3).f0)).toNat * 2)) = some (.string ((rd_T304 l0_0 ((rd_T230 l0_1 x53_3).f0)).f0)) ∧ w'.cell? ⟨(ad214.add ((((rd_T230 l0_1 x53_3).f0)).toNat * 2)).block, (ad214.add ((((rd_T230 l0_1 x53_3).f0)).toNat * 2)).off + 1, none⟩ = some (.int .i64 ((rd_T304 l0_0 ((rd_T230 l0_1 x53_3).f0)).f1)) ∧ (Instr.lookup 308 v209 (.int .i64 ((rd_T230 l0_1 x53_3).f0)) false).run Try.prog w' = .ok (.int .i64 (mget 0 x7_3 ((rd_T230 l0_1 x53_3).f0))) w') (ds := []) L0' kZ rfl rfl ⟨(blk_cell BK212.out 0).trans rfl, (blk_cell BK212.out 1).trans rfl, (blk_cell BK212.out 2).trans rfl, (blk_cell BK212.out 3).trans rfl, (blk_cell BK194.out 0).trans rfl, (blk_cell BK194.out 1).trans rfl, (Kd.Y_get (m := my308) (e := 308) (lZY HO_6.out) ((rd_T230 l0_1 x53_3).f0) (show okI _ from ⟨((of_decide_eq_true tZE) : -9223372036854775808 ≤ ((rd_T230 l0_1 x53_3).f0)), ((of_decide_eq_true tZE) : ((rd_T230 l0_1 x53_3).f0) ≤ 9223372036854775807)⟩)), ((HB.out.cell (World.block_lt_of_cell? w _ hw214_0)).trans hw214_0), ((HB.out.cell (World.block_lt_of_cell? w _ hw214_1)).trans hw214_1), (Kd.Y_get (m := my308) (e := 308) (lZY HO_7.out) ((rd_T230 l0_1 x53_3).f0) (show okI _ from ⟨((of_decide_eq_true tZE) : -9223372036854775808 ≤ ((rd_T230 l0_1 x53_3).f0)), ((of_decide_eq_true tZE) : ((rd_T230 l0_1 x53_3).f0) ≤ 9223372036854775807)⟩))⟩ (fun hHeld => ?_); refine with_tabW impl_RegisterOk.tab16 impl_RegisterOk.bits16 (fun HT_ HW_ => ?_)
       generalize w89.drew = w90 at HO_6 HO_7 BK194 BK212 HB hx214_0 hx214_1 hHeld ⊢
       refine pure_ (i := 0) (N := some 57) (v := ?_) (a' := ?_) L1' rfl rfl (any_of HT_.out kZ) (fun _ _ _ h => h) (Or.inl ⟨by rfl, ?_⟩) ?_ ?_
       rotate_left
       ·intro w'
        go_simp
        with_reducible rfl
       rotate_left
       ·simp only [Act.put, sZ1, sZ2, sZ3, i64_w, i32_w]
        rfl
       refine take_ (i := 1) (N := some 58) (v := ?_) (a' := ?_) L2' rfl rfl (take_ofW HT_.out HW_.out kZ) (fun _ _ _ h => h) (Or.inl ⟨by rfl, ?_⟩) hHeld ?_ ?_
       rotate_left
       ·rintro w' ⟨s0, s1, s2, s3, s4, s5, s6, s7, s8, s9⟩
        go_simp
        with_reducible rfl
       rotate_left
       ·simp only [Act.put, sZ1, sZ2, sZ3, i64_w, i32_w]
        rfl
       refine pure_ (i := 2) (N := some 59) (v := ?_) (a' := ?_) L3' rfl rfl (any_of HT_.out kZ) (fun _ _ _ h => h) (Or.inl ⟨by rfl, ?_⟩) ?_ ?_
       rotate_left
       ·intro w'
        go_simp
        with_reducible rfl
       rotate_left
       ·simp only [Act.put, sZ1, sZ2, sZ3, i64_w, i32_w]
        rfl
       refine pure_ (i := 3) (N := some 60) (v := ?_) (a' := ?_) L4' rfl rfl (any_of HT_.out kZ) (fun _ _ _ h => h) (Or.inl ⟨by rfl, ?_⟩) ?_ ?_
       rotate_left
       ·intro w'
        go_simp
        with_reducible rfl
       rotate_left
       ·simp only [Act.put, sZ1, sZ2, sZ3, i64_w, i32_w]
        rfl
       refine pure_ (i := 4) (N := some 61) (v := ?_) (a' := ?_) L5' rfl rfl (any_of HT_.out kZ) (fun _ _ _ h => h) (Or.inl ⟨by rfl, ?_⟩) ?_ ?_
       rotate_left
       ·intro w'
        go_simp
        with_reducible rfl
       rotate_left
       ·simp only [Act.put, sZ1, sZ2, sZ3, i64_w, i32_w]
        rfl
       refine pure_ (i := 6) (N := some 63) (v := ?_) (a' := ?_) L50' rfl rfl (any_of HT_.out kZ) (fun _ _ _ h => h) (Or.inl ⟨by rfl, ?_⟩) ?_ ?_
       rotate_left
       ·intro w'
        go_simp
        with_reducible rfl
       rotate_left
       ·simp only [Act.put, sZ1, sZ2, sZ3, i64_w, i32_w]
        rfl
       refine take_ (i := 5) (N := some 62) (v := ?_) (a' := ?_) L7' rfl rfl (take_ofW HT_.out HW_.out kZ) (fun _ _ _ h => h) (Or.inl ⟨by rfl, ?_⟩) hHeld ?_ ?_
       rotate_left
       ·rintro w' ⟨s0, s1, s2, s3, s4, s5, s6, s7, s8, s9⟩
        go_simp
        with_reducible rfl
       rotate_left
       ·simp only [Act.put, sZ1, sZ2, sZ3, i64_w, i32_w]
        rfl
       refine take_ (i := 7) (N := some 64) (v := ?_) (a' := ?_) L8' rfl rfl (take_ofW HT_.out HW_.out kZ) (fun _ _ _ h => h) (Or.inl ⟨by rfl, ?_⟩) hHeld ?_ ?_
       rotate_left
       ·rintro w' ⟨s0, s1, s2, s3, s4, s5, s6, s7, s8, s9⟩
        go_simp
        with_reducible rfl
       rotate_left
       ·simp only [Act.put, sZ1, sZ2, sZ3, i64_w, i32_w]
        rfl
       refine pure_ (i := 8) (N := some 65) (v := ?_) (a' := ?_) L9' rfl rfl (any_of HT_.out kZ) (fun _ _ _ h => h) (Or.inl ⟨by rfl, ?_⟩) ?_ ?_
       rotate_left
       ·intro w'
        go_simp
        with_reducible rfl
       rotate_left
       ·simp only [Act.put, sZ1, sZ2, sZ3, i64_w, i32_w]
        rfl
       refine pure_ (i := 9) (N := some 66) (v := ?_) (a' := ?_) L10' rfl rfl (any_of HT_.out kZ) (fun _ _ _ h => h) (Or.inl ⟨by rfl, ?_⟩) ?_ ?_
       rotate_left
       ·intro w'
        go_simp
        with_reducible rfl
       rotate_left
       ·simp only [Act.put, sZ1, sZ2, sZ3, i64_w, i32_w]
        rfl
       refine pure_ (i := 10) (N := some 67) (v := ?_) (a' := ?_) L11' rfl rfl (any_of HT_.out kZ) (fun _ _ _ h => h) (Or.inl ⟨by rfl, ?_⟩) ?_ ?_
       rotate_left
       ·intro w'
        go_simp
        with_reducible rfl
       rotate_left
       ·simp only [Act.put, sZ1, sZ2, sZ3, i64_w, i32_w]
        rfl
       refine pure_ (i := 11) (N := some 68) (v := ?_) (a' := ?_) L12' rfl rfl (any_of HT_.out kZ) (fun _ _ _ h => h) (Or.inl ⟨by rfl, ?_⟩) ?_ ?_
       rotate_left
       ·intro w'
        go_simp
        with_reducible rfl
       rotate_left
       ·simp only [Act.put, sZ1, sZ2, sZ3, i64_w, i32_w]
        rfl
       refine pure_ (i := 12) (N := some 69) (v := ?_) (a' := ?_) L13' rfl rfl (any_of HT_.out kZ) (fun _ _ _ h => h) (Or.inl ⟨by rfl, ?_⟩) ?_ ?_
       rotate_left
       ·intro w'
        go_simp
        with_reducible rfl
       rotate_left
       ·simp only [Act.put, sZ1, sZ2, sZ3, i64_w, i32_w]
        rfl
       refine pure_ (i := 14) (N := some 71) (v := ?_) (a' := ?_) L51' rfl rfl (any_of HT_.out kZ) (fun _ _ _ h => h) (Or.inl ⟨by rfl, ?_⟩) ?_ ?_
       rotate_left
       ·intro w'
        go_simp
        with_reducible rfl
       rotate_left
       ·simp only [Act.put, sZ1, sZ2, sZ3, i64_w, i32_w]
        rfl
       refine pure_ (i := 15) (N := some 72) (v := ?_) (a' := ?_) L52' rfl rfl (any_of HT_.out kZ) (fun _ _ _ h => h) (Or.inl ⟨by rfl, ?_⟩) ?_ ?_
       rotate_left
       ·intro w'
        go_simp
        with_reducible rfl
       rotate_left
       ·simp only [Act.put, sZ1, sZ2, sZ3, i64_w, i32_w]
        rfl
       refine take_ (i := 13) (N := some 70) (v := ?_) (a' := ?_) L16' rfl rfl (take_ofW HT_.out HW_.out kZ) (fun _ _ _ h => h) (Or.inl ⟨by rfl, ?_⟩) hHeld ?_ ?_
       rotate_left
       ·rintro w' ⟨s0, s1, s2, s3, s4, s5, s6, s7, s8, s9⟩
        go_simp
        with_reducible rfl
       rotate_left
       ·simp only [Act.put, sZ1, sZ2, sZ3, i64_w, i32_w]
        rfl
       refine take_ (i := 16) (N := some 73) (v := ?_) (a' := ?_) L17' rfl rfl (take_ofW HT_.out HW_.out kZ) (fun _ _ _ h => h) (Or.inl ⟨by rfl, ?_⟩) hHeld ?_ ?_
       rotate_left
       ·rintro w' ⟨s0, s1, s2, s3, s4, s5, s6, s7, s8, s9⟩
        go_simp
        with_reducible rfl
       rotate_left
       ·simp only [Act.put, sZ1, sZ2, sZ3, i64_w, i32_w]
        rfl
       refine take_ (i := 17) (N := some 74) (v := ?_) (a' := ?_) L18' rfl rfl (take_ofW HT_.out HW_.out kZ) (fun _ _ _ h => h) (Or.inl ⟨by rfl, ?_⟩) hHeld ?_ ?_
       rotate_left
       ·rintro w' ⟨s0, s1, s2, s3, s4, s5, s6, s7, s8, s9⟩
        go_simp
        with_reducible rfl
       rotate_left
       ·simp only [Act.put, sZ1, sZ2, sZ3, i64_w, i32_w]
        rfl
       refine pure_ (i := 18) (N := some 75) (v := ?_) (a' := ?_) L19' rfl rfl (any_of HT_.out kZ) (fun _ _ _ h => h) (Or.inl ⟨by rfl, ?_⟩) ?_ ?_
       rotate_left
       ·intro w'
        go_simp
        with_reducible rfl
       rotate_left
       ·simp only [Act.put, sZ1, sZ2, sZ3, i64_w, i32_w]
        rfl
       refine pure_ (i := 19) (N := some 76) (v := ?_) (a' := ?_) L20' rfl rfl (any_of HT_.out kZ) (fun _ _ _ h => h) (Or.inl ⟨by rfl, ?_⟩) ?_ ?_
       rotate_left
       ·intro w'
        go_simp
        with_reducible rfl
       rotate_left
       ·simp only [Act.put, sZ1, sZ2, sZ3, i64_w, i32_w]
        rfl
       refine pure_ (i := 20) (N := some 77) (v := ?_) (a' := ?_) L21' rfl rfl (any_of HT_.out kZ) (fun _ _ _ h => h) (Or.inl ⟨by rfl, ?_⟩) ?_ ?_
       rotate_left
       ·intro w'
        go_simp
        with_reducible rfl
       rotate_left
       ·simp only [Act.put, sZ1, sZ2, sZ3, i64_w, i32_w]
        rfl
       refine pure_ (i := 21) (N := some 78) (v := ?_) (a' := ?_) L22' rfl rfl (any_of HT_.out kZ) (fun _ _ _ h => h) (Or.inl ⟨by rfl, ?_⟩) ?_ ?_
       rotate_left
       ·intro w'
        go_simp
        with_reducible rfl
       rotate_left
       ·simp only [Act.put, sZ1, sZ2, sZ3, i64_w, i32_w]
        rfl
       refine pure_ (i := 22) (N := some 79) (v := ?_) (a' := ?_) L23' rfl rfl (any_of HT_.out kZ) (fun _ _ _ h => h) (Or.inl ⟨by rfl, ?_⟩) ?_ ?_
       rotate_left
       ·intro w'
        go_simp
        with_reducible rfl
       rotate_left
       ·simp only [Act.put, sZ1, sZ2, sZ3, i64_w, i32_w]
        rfl
       refine pure_ (i := 25) (N := some 82) (v := ?_) (a' := ?_) L53' rfl rfl (any_of HT_.out kZ) (fun _ _ _ h => h) (Or.inl ⟨by rfl, ?_⟩) ?_ ?_
       rotate_left
       ·intro w'
        go_simp
        with_reducible rfl
       rotate_left
       ·simp only [Act.put, sZ1, sZ2, sZ3, i64_w, i32_w]
        rfl
       refine pure_ (i := 27) (N := some 84) (v := ?_) (a' := ?_) L54' rfl rfl (any_of HT_.out kZ) (fun _ _ _ h => h) (Or.inl ⟨by rfl, ?_⟩) ?_ ?_
       rotate_left
       ·intro w'
        go_simp
        with_reducible rfl
       rotate_left
       ·simp only [Act.put, sZ1, sZ2, sZ3, i64_w, i32_w]
        rfl
       refine take_ (i := 23) (N := some 80) (v := ?_) (a' := ?_) L55' rfl rfl (take_ofW HT_.out HW_.out kZ) (fun _ _ _ h => h) (Or.inl ⟨by rfl, ?_⟩) hHeld ?_ ?_
       rotate_left
       ·rintro w' ⟨s0, s1, s2, s3, s4, s5, s6, s7, s8, s9⟩
        go_simp
        with_reducible rfl
       rotate_left
       ·simp only [Act.put, sZ1, sZ2, sZ3, i64_w, i32_w]
        rfl
       refine take_ (i := 26) (N := some 83) (v := ?_) (a' := ?_) L56' rfl rfl (take_ofW HT_.out HW_.out kZ) (fun _ _ _ h => h) (Or.inl ⟨by rfl, ?_⟩) hHeld ?_ ?_
       rotate_left
       ·rintro w' ⟨s0, s1, s2, s3, s4, s5, s6, s7, s8, s9⟩
        go_simp
        with_reducible rfl
       rotate_left
       ·simp only [Act.put, sZ1, sZ2, sZ3, i64_w, i32_w]
        rfl
       refine take_ (i := 28) (N := some 85) (v := ?_) (a' := ?_) L57' rfl rfl (take_ofW HT_.out HW_.out kZ) (fun _ _ _ h => h) (Or.inl ⟨by rfl, ?_⟩) hHeld ?_ ?_
       rotate_left
       ·rintro w' ⟨s0, s1, s2, s3, s4, s5, s6, s7, s8, s9⟩
        go_simp
        with_reducible rfl
       rotate_left
       ·simp only [Act.put, sZ1, sZ2, sZ3, i64_w, i32_w]
        rfl
       refine pure_ (i := 29) (N := some 86) (v := ?_) (a' := ?_) L58' rfl rfl (any_of HT_.out kZ) (fun _ _ _ h => h) (Or.inl ⟨by rfl, ?_⟩) ?_ ?_
       rotate_left
       ·intro w'
        go_simp
        with_reducible rfl
       rotate_left
       ·simp only [Act.put, sZ1, sZ2, sZ3, i64_w, i32_w]
        rfl
       refine pure_ (i := 30) (N := some 87) (v := ?_) (a' := ?_) L59' rfl rfl (any_of HT_.out kZ) (fun _ _ _ h => h) (Or.inl ⟨by rfl, ?_⟩) ?_ ?_
       rotate_left
       ·intro w'
        go_simp
        with_reducible rfl
       rotate_left
       ·simp only [Act.put, sZ1, sZ2, sZ3, i64_w, i32_w]
        rfl
       refine take_ (i := 31) (N := some 88) (v := ?_) (a' := ?_) L60' rfl rfl (take_ofW HT_.out HW_.out kZ) (fun _ _ _ h => h) (Or.inl ⟨by rfl, ?_⟩) hHeld ?_ ?_
       rotate_left
       ·rintro w' ⟨s0, s1, s2, s3, s4, s5, s6, s7, s8, s9⟩
        go_simp
        with_reducible rfl
       rotate_left
       ·simp only [Act.put, sZ1, sZ2, sZ3, i64_w, i32_w]
        rfl
       refine one_ (i := 24) (N := some 81) L32' rfl rfl (one_of HT_.out kZ) (by decide) (fun K hK => ?_)
       refine goes_ Try.func226 kZ rfl #[.int .i64 ((rd_T230 l0_1 x53_3).f1)] (by rfl) rfl rfl tZA ?_
       with_reducible refine (impl_digitsIn.calls k3 ((rd_T230 l0_1 x53_3).f1) t213 _ A63.out).mono ?_
       rintro e w91 ⟨rfl, hb⟩
       refine ⟨_, rfl, ?_⟩
       replace HO_6 := aZ (Kd.Y_below (lZY HO_6.out) hb)
       replace HO_7 := aZ (Kd.Y_below (lZY HO_7.out) hb)
       replace BK194 := aZ (blk_below (bkZ BK194.out) hb)
       replace BK212 := aZ (blk_below (bkZ BK212.out) hb)
       replace HB := aZ (below_step bZ hb)
       (try clear hb)
       (try clear hb2)
       (try clear hk)
       (try clear hi)
       refine hK.out _ _ ⟨(blk_cell BK212.out 0).trans rfl, (blk_cell BK212.out 1).trans rfl, (blk_cell BK212.out 2).trans rfl, (blk_cell BK212.out 3).trans rfl, (blk_cell BK194.out 0).trans rfl, (blk_cell BK194.out 1).trans rfl, (Kd.Y_get (m := my308) (e := 308) (lZY HO_6.out) ((rd_T230 l0_1 x53_3).f0) (show okI _ from ⟨((of_decide_eq_true tZE) : -9223372036854775808 ≤ ((rd_T230 l0_1 x53_3).f0)), ((of_decide_eq_true tZE) : ((rd_T230 l0_1 x53_3).f0) ≤ 9223372036854775807)⟩)), ((HB.out.cell (World.block_lt_of_cell? w _ hw214_0)).trans hw214_0), ((HB.out.cell (World.block_lt_of_cell? w _ hw214_1)).trans hw214_1), (Kd.Y_get (m := my308) (e := 308) (lZY HO_7.out) ((rd_T230 l0_1 x53_3).f0) (show okI _ from ⟨((of_decide_eq_true tZE) : -9223372036854775808 ≤ ((rd_T230 l0_1 x53_3).f0)), ((of_decide_eq_true tZE) : ((rd_T230 l0_1 x53_3).f0) ≤ 9223372036854775807)⟩))⟩ (fun hHeld => ?_)
       clear hK K
       refine norm_ (a' := ?_) ?_ ?_
       rotate_left
       ·show Act.put _ (some 81) _ = _
        simp only [Act.put, sZ1, sZ2, sZ3, i64_w, i32_w]
        rfl
       refine pure_ (i := 32) (N := some 89) (v := ?_) (a' := ?_) L33' rfl rfl (any_of HT_.out kZ) (fun _ _ _ h => h) (Or.inl ⟨by rfl, ?_⟩) ?_ ?_
       rotate_left
       ·intro w'
        go_simp
        with_reducible rfl
       rotate_left
       ·simp only [Act.put, sZ1, sZ2, sZ3, i64_w, i32_w]
        rfl
       refine pure_ (i := 33) (N := some 90) (v := ?_) (a' := ?_) L34' rfl rfl (any_of HT_.out kZ) (fun _ _ _ h => h) (Or.inl ⟨by rfl, ?_⟩) ?_ ?_
       rotate_left
       ·intro w'
        go_simp
        with_reducible rfl
       rotate_left
       ·simp only [Act.put, sZ1, sZ2, sZ3, i64_w, i32_w]
        rfl
       refine pure_ (i := 34) (N := some 91) (v := ?_) (a' := ?_) L35' rfl rfl (any_of HT_.out kZ) (fun _ _ _ h => h) (Or.inl ⟨by rfl, ?_⟩) ?_ ?_
       rotate_left
       ·intro w'
        go_simp
        with_reducible rfl
       rotate_left
       ·simp only [Act.put, sZ1, sZ2, sZ3, i64_w, i32_w]
        rfl
       refine pure_ (i := 35) (N := some 92) (v := ?_) (a' := ?_) L36' rfl rfl (any_of HT_.out kZ) (fun _ _ _ h => h) (Or.inl ⟨by rfl, ?_⟩) ?_ ?_
       rotate_left
       ·intro w'
        go_simp
        with_reducible rfl
       rotate_left
       ·simp only [Act.put, sZ1, sZ2, sZ3, i64_w, i32_w]
        rfl
       refine take_ (i := 36) (N := some 93) (v := ?_) (a' := ?_) L37' rfl rfl (take_ofW HT_.out HW_.out kZ) (fun _ _ _ h => h) (Or.inl ⟨by rfl, ?_⟩) hHeld ?_ ?_
       rotate_left
       ·rintro w' ⟨s0, s1, s2, s3, s4, s5, s6, s7, s8, s9⟩
        go_simp
        with_reducible rfl
       rotate_left
       ·simp only [Act.put, sZ1, sZ2, sZ3, i64_w, i32_w]
        rfl
       refine one_ (i := 37) (N := some 94) L38' rfl rfl (one_of HT_.out kZ) (by decide) (fun K hK => ?_)
       refine goes_ Try.func113 kZ rfl #[.int .i64 ((rd_T230 l0_1 x53_3).f2)] (by rfl) rfl rfl tZA ?_
       with_reducible refine (impl_isDay.calls ((rd_T230 l0_1 x53_3).f2) true _ A73.out).mono ?_
       rintro e w' ⟨rfl, ⟨nd, rfl⟩⟩
       refine ⟨_, rfl, ?_⟩
       refine hK.out _ _ ⟨(blk_cell BK212.out 0).trans rfl, (blk_cell BK212.out 1).trans rfl, (blk_cell BK212.out 2).trans rfl, (blk_cell BK212.out 3).trans rfl, (blk_cell BK194.out 0).trans rfl, (blk_cell BK194.out 1).trans rfl, (Kd.Y_get (m := my308) (e := 308) (lZY HO_6.out) ((rd_T230 l0_1 x53_3).f0) (show okI _ from ⟨((of_decide_eq_true tZE) : -9223372036854775808 ≤ ((rd_T230 l0_1 x53_3).f0)), ((of_decide_eq_true tZE) : ((rd_T230 l0_1 x53_3).f0) ≤ 9223372036854775807)⟩)), ((HB.out.cell (World.block_lt_of_cell? w _ hw214_0)).trans hw214_0), ((HB.out.cell (World.block_lt_of_cell? w _ hw214_1)).trans hw214_1), (Kd.Y_get (m := my308) (e := 308) (lZY HO_7.out) ((rd_T230 l0_1 x53_3).f0) (show okI _ from ⟨((of_decide_eq_true tZE) : -9223372036854775808 ≤ ((rd_T230 l0_1 x53_3).f0)), ((of_decide_eq_true tZE) : ((rd_T230 l0_1 x53_3).f0) ≤ 9223372036854775807)⟩))⟩ (fun hHeld => ?_)
       clear hK K
       refine norm_ (a' := ?_) ?_ ?_
       rotate_left
       ·show Act.put _ (some 94) _ = _
        simp only [Act.put, sZ1, sZ2, sZ3, i64_w, i32_w]
        rfl
       refine pure_ (i := 38) (N := some 95) (v := ?_) (a' := ?_) L39' rfl rfl (any_of HT_.out kZ) (fun _ _ _ h => h) (Or.inl ⟨by rfl, ?_⟩) ?_ ?_
       rotate_left
       ·intro w'
        go_simp
        with_reducible rfl
       rotate_left
       ·simp only [Act.put, sZ1, sZ2, sZ3, i64_w, i32_w]
        rfl
       refine pure_ (i := 39) (N := some 96) (v := ?_) (a' := ?_) L40' rfl rfl (any_of HT_.out kZ) (fun _ _ _ h => h) (Or.inl ⟨by rfl, ?_⟩) ?_ ?_
       rotate_left
       ·intro w'
        go_simp
        with_reducible rfl
       rotate_left
       ·simp only [Act.put, sZ1, sZ2, sZ3, i64_w, i32_w]
        rfl
       refine pure_ (i := 40) (N := some 97) (v := ?_) (a' := ?_) L41' rfl rfl (any_of HT_.out kZ) (fun _ _ _ h => h) (Or.inl ⟨by rfl, ?_⟩) ?_ ?_
       rotate_left
       ·intro w'
        go_simp
        with_reducible rfl
       rotate_left
       ·simp only [Act.put, sZ1, sZ2, sZ3, i64_w, i32_w]
        rfl
       refine pure_ (i := 41) (N := some 98) (v := ?_) (a' := ?_) L42' rfl rfl (any_of HT_.out kZ) (fun _ _ _ h => h) (Or.inl ⟨by rfl, ?_⟩) ?_ ?_
       rotate_left
       ·intro w'
        go_simp
        with_reducible rfl
       rotate_left
       ·simp only [Act.put, sZ1, sZ2, sZ3, i64_w, i32_w]
        rfl
       refine pure_ (i := 43) (N := some 100) (v := ?_) (a' := ?_) L61' rfl rfl (any_of HT_.out kZ) (fun _ _ _ h => h) (Or.inl ⟨by rfl, ?_⟩) ?_ ?_
       rotate_left
       ·intro w'
        go_simp
        with_reducible rfl
       rotate_left
       ·simp only [Act.put, sZ1, sZ2, sZ3, i64_w, i32_w]
        rfl
       refine pure_ (i := 44) (N := some 101) (v := ?_) (a' := ?_) L62' rfl rfl (any_of HT_.out kZ) (fun _ _ _ h => h) (Or.inl ⟨by rfl, ?_⟩) ?_ ?_
       rotate_left
       ·intro w'
        go_simp
        with_reducible rfl
       rotate_left
       ·simp only [Act.put, sZ1, sZ2, sZ3, i64_w, i32_w]
        rfl
       refine take_ (i := 42) (N := some 99) (v := ?_) (a' := ?_) L45' rfl rfl (take_ofW HT_.out HW_.out kZ) (fun _ _ _ h => h) (Or.inl ⟨by rfl, ?_⟩) hHeld ?_ ?_
       rotate_left
       ·rintro w' ⟨s0, s1, s2, s3, s4, s5, s6, s7, s8, s9⟩
        go_simp
        with_reducible rfl
       rotate_left
       ·simp only [Act.put, sZ1, sZ2, sZ3, i64_w, i32_w]
        rfl
       refine take_ (i := 45) (N := some 102) (v := ?_) (a' := ?_) L46' rfl rfl (take_ofW HT_.out HW_.out kZ) (fun _ _ _ h => h) (Or.inl ⟨by rfl, ?_⟩) hHeld ?_ ?_
       rotate_left
       ·rintro w' ⟨s0, s1, s2, s3, s4, s5, s6, s7, s8, s9⟩
        go_simp
        with_reducible rfl
       rotate_left
       ·simp only [Act.put, sZ1, sZ2, sZ3, i64_w, i32_w]
        rfl
       refine take_ (i := 46) (N := some 103) (v := ?_) (a' := ?_) L47' rfl rfl (take_ofW HT_.out HW_.out kZ) (fun _ _ _ h => h) (Or.inl ⟨by rfl, ?_⟩) hHeld ?_ ?_
       rotate_left
       ·rintro w' ⟨s0, s1, s2, s3, s4, s5, s6, s7, s8, s9⟩
        go_simp
        with_reducible rfl
       rotate_left
       ·simp only [Act.put, sZ1, sZ2, sZ3, i64_w, i32_w]
        rfl
       refine pure_ (i := 47) (N := some 104) (v := ?_) (a' := ?_) L48' rfl rfl (any_of HT_.out kZ) (fun _ _ _ h => h) (Or.inl ⟨by rfl, ?_⟩) ?_ ?_
       rotate_left
       ·intro w'
        go_simp
        with_reducible rfl
       rotate_left
       ·simp only [Act.put, sZ1, sZ2, sZ3, i64_w, i32_w]
        rfl
       refine pure_ (i := 48) (N := some 105) (v := ?_) (a' := ?_) L49' rfl rfl (any_of HT_.out kZ) (fun _ _ _ h => h) (Or.inl ⟨by rfl, ?_⟩) ?_ ?_
       rotate_left
       ·intro w'
        go_simp
        with_reducible rfl
       rotate_left
       ·simp only [Act.put, sZ1, sZ2, sZ3, i64_w, i32_w]
        rfl
       refine done_ (done_of HT_.out kZ) ?_
       have hcz92_0 : w91.cell? ⟨gb212, 0, none⟩ = some (.int .i64 ((rd_T230 l0_1 x53_3).f0)) := (blk_cell BK212.out 0).trans rfl
       have hcz92_1 : w91.cell? ⟨gb212, 1, none⟩ = some (.int .i64 ((rd_T230 l0_1 x53_3).f1)) := (blk_cell BK212.out 1).trans rfl
       have hcz92_2 : w91.cell? ⟨gb212, 2, none⟩ = some (.int .i64 ((rd_T230 l0_1 x53_3).f2)) := (blk_cell BK212.out 2).trans rfl
       have hcz92_3 : w91.cell? ⟨gb212, 3, none⟩ = some (.bool ((rd_T230 l0_1 x53_3).f3)) := (blk_cell BK212.out 3).trans rfl
       have hfz92_0 := blk_frozen BK212.out 0
       have hfz92_1 := blk_frozen BK212.out 1
       have hfz92_2 := blk_frozen BK212.out 2
       have hfz92_3 := blk_frozen BK212.out 3
       have hcv93 := Kd.Y_get (e := 308) (HO_6.out) ((rd_T230 l0_1 x53_3).f0) (show okI _ from ⟨((of_decide_eq_true tZE) : -9223372036854775808 ≤ ((rd_T230 l0_1 x53_3).f0)), ((of_decide_eq_true tZE) : ((rd_T230 l0_1 x53_3).f0) ≤ 9223372036854775807)⟩)
       have hcv93d := fun n_ => Kd.Y_get (e := 308) (Kd.Y_drewN (HO_6.out) n_) ((rd_T230 l0_1 x53_3).f0) (show okI _ from ⟨((of_decide_eq_true tZE) : -9223372036854775808 ≤ ((rd_T230 l0_1 x53_3).f0)), ((of_decide_eq_true tZE) : ((rd_T230 l0_1 x53_3).f0) ≤ 9223372036854775807)⟩)
       have hcv93e := fun m_ n_ => Kd.Y_get (e := 308) (Kd.Y_drewN (Kd.Y_drewN (HO_6.out) m_) n_) ((rd_T230 l0_1 x53_3).f0) (show okI _ from ⟨((of_decide_eq_true tZE) : -9223372036854775808 ≤ ((rd_T230 l0_1 x53_3).f0)), ((of_decide_eq_true tZE) : ((rd_T230 l0_1 x53_3).f0) ≤ 9223372036854775807)⟩)
       simp only [my308, mkSB, mkSI, mkIB, mkII] at hcv93 hcv93d hcv93e
       try go_wp2_with (first | ((with_reducible refine Kd.gate_mupd (t := 308) (p := (.tmp 106)) (x := (.tmp 108)) (y := (.tmp 110)) rfl ?_); refine Kd.Y_put my308 (t := 308) (base := w.heap.size) (ok := (fun k_ => some k_ ≠ mapBlock v209)) rfl rfl (.tmp 106) (.tmp 108) (.tmp 110) rfl rfl v206 x6_3 ((rd_T230 l0_1 x53_3).f0) (wrap64 ((mget 0 x6_3 ((rd_T230 l0_1 x53_3).f0)) + 1)) rfl (by first | rfl | (go_simp; done) | (go_simp; rfl)) (by first | rfl | (go_simp; done) | (go_simp; rfl)) ?aO (show okI _ from ⟨((of_decide_eq_true tZE) : -9223372036854775808 ≤ ((rd_T230 l0_1 x53_3).f0)), ((of_decide_eq_true tZE) : ((rd_T230 l0_1 x53_3).f0) ≤ 9223372036854775807)⟩) (show okI _ from by unfold okI wrap64; omega) LMc82.out ?_; (case aO => exact (lZY HO_6.out)); intro w94 ho hg; rw [← Ny216.out] at ho; replace HO_7 := aZ (Kd.Y_turn (e := 308) (lZY HO_7.out) hg (fun _ hk => hk)); replace BK194 := aZ (Kd.blk_turn (e := 308) (bkZ BK194.out) (lZY HO_6.out) hg); replace BK212 := aZ (Kd.blk_turn (e := 308) (bkZ BK212.out) (lZY HO_6.out) hg); replace HB := aZ (Kd.below_turn (e := 308) (lZY HO_6.out) bZ (Nat.le_refl _) hg); have HO217 := aZ (ho); clear HO_6; clear ho hg; have hcz95_0 : w94.cell? ⟨gb212, 0, none⟩ = some (.int .i64 ((rd_T230 l0_1 x53_3).f0)) := (blk_cell BK212.out 0).trans rfl; have hcz95_1 : w94.cell? ⟨gb212, 1, none⟩ = some (.int .i64 ((rd_T230 l0_1 x53_3).f1)) := (blk_cell BK212.out 1).trans rfl; have hcz95_2 : w94.cell? ⟨gb212, 2, none⟩ = some (.int .i64 ((rd_T230 l0_1 x53_3).f2)) := (blk_cell BK212.out 2).trans rfl; have hcz95_3 : w94.cell? ⟨gb212, 3, none⟩ = some (.bool ((rd_T230 l0_1 x53_3).f3)) := (blk_cell BK212.out 3).trans rfl; have hfz95_0 := blk_frozen BK212.out 0; have hfz95_1 := blk_frozen BK212.out 1; have hfz95_2 := blk_frozen BK212.out 2; have hfz95_3 := blk_frozen BK212.out 3) | ((with_reducible refine Kd.gate_mupd (t := 308) (p := (.tmp 111)) (x := (.tmp 113)) (y := (.tmp 115)) rfl ?_); refine Kd.Y_put my308 (t := 308) (base := w.heap.size) (ok := (fun k_ => some k_ ≠ mapBlock v206)) rfl rfl (.tmp 111) (.tmp 113) (.tmp 115) rfl rfl v209 x7_3 ((rd_T230 l0_1 x53_3).f0) ((rd_T230 l0_1 x53_3).f2) rfl (by first | rfl | (go_simp; done) | (go_simp; rfl)) (by first | rfl | (go_simp; done) | (go_simp; rfl)) ?aO (show okI _ from ⟨((of_decide_eq_true tZE) : -9223372036854775808 ≤ ((rd_T230 l0_1 x53_3).f0)), ((of_decide_eq_true tZE) : ((rd_T230 l0_1 x53_3).f0) ≤ 9223372036854775807)⟩) (show okI _ from ⟨((of_decide_eq_true tZE) : -9223372036854775808 ≤ ((rd_T230 l0_1 x53_3).f2)), ((of_decide_eq_true tZE) : ((rd_T230 l0_1 x53_3).f2) ≤ 9223372036854775807)⟩) LMc85.out ?_; (case aO => exact (lZY HO_7.out)); intro w96 ho hg; rw [← Ny218.out] at ho; replace BK194 := aZ (Kd.blk_turn (e := 308) (bkZ BK194.out) (lZY HO_7.out) hg); replace BK212 := aZ (Kd.blk_turn (e := 308) (bkZ BK212.out) (lZY HO_7.out) hg); replace HO217 := aZ (Kd.Y_turn (e := 308) (lZY HO217.out) hg (fun _ hk => hk)); replace HB := aZ (Kd.below_turn (e := 308) (lZY HO_7.out) bZ (Nat.le_refl _) hg); have HO219 := aZ (ho); clear HO_7; clear ho hg))
       go_roundg k3
       case measure => have := HJ1.out; have := HK2.out; have := HK3.out; omega
       case rel => exact ⟨(y216), (y218), (wrap64 (x53_3 + 1)), tZB, H', ⟨by have := HJ1.out; have := HK2.out; have := HK3.out; omega⟩, ⟨lZY HO217.out⟩, ⟨lZY HO219.out⟩, ⟨bkZ BK194.out⟩, ⟨bZ⟩⟩
end Go.Proofs.Ytnbecbgpefmcoaa.PFnExactVoid
