import Derived.Test.YtmpknbdbichdiaaBPFnExactReadBankx0
import Derived.Test.YtmpknbdbichdiaaBPFnExactReadBankx1
import Derived.Test.YtmpknbdbichdiaaBPFnExactReadBankx4
import Derived.Test.YtmpknbdbichdiaaBPFnExactReadBankx6
import Derived.Test.YtmpknbdbichdiaaBPFnExactReadBankx7
import Derived.Test.YtmpknbdbichdiaaBPFnExactReadBankx8
import Derived.Test.YtmpknbdbichdiaaBSlimWords
namespace Go.Proofs.Ytmpknbdbichdiaa.PFnExactReadBank
open Go.Proofs.Ytmpknbdbichdiaa.SlimWords
open Go.RowKit Go.Proofs.YtmpknbdbichdiaaW.PrintWords Go.Proofs.YtmpknbdbichdiaaW.PrintLast Go.Proofs.YtmpknbdbichdiaaW.PrintMore Go.Proofs.Ytmpknbdbichdiaa.MapWords Go.Proofs.Ytmpknbdbichdiaa.IterWords Go.Proofs.Ytmpknbdbichdiaa.MarkWords
attribute [local go_sem] max2_int min2_int max_two min_two max_three min_three max_four min_four
set_option linter.unusedVariables false
set_option linter.unusedSimpArgs false
private abbrev I' := true
private abbrev O' := false
private abbrev L0' : Array Bool := #[O',O',O',O',O',O',O',O',O',O',O',O',O',O',O',O',O',O',O',O',O']
private abbrev L1' : Array Bool := #[I',O',O',O',O',O',O',O',O',O',O',O',O',O',O',O',O',O',O',O',O']
private abbrev L2' : Array Bool := #[I',I',O',O',O',O',O',O',O',O',O',O',O',O',O',O',O',O',O',O',O']
private abbrev L3' : Array Bool := #[I',I',I',O',O',O',O',O',O',O',O',O',O',O',O',O',O',O',O',O',O']
private abbrev L4' : Array Bool := #[I',I',I',I',O',O',O',O',O',O',O',O',O',O',O',O',O',O',O',O',O']
private abbrev L5' : Array Bool := #[I',I',I',I',I',O',O',O',O',O',O',O',O',O',O',O',O',O',O',O',O']
private abbrev L6' : Array Bool := #[I',I',I',I',I',I',O',O',O',O',O',O',O',O',O',O',O',O',O',O',O']
private abbrev L7' : Array Bool := #[I',I',I',I',I',I',I',O',O',O',O',O',O',O',O',O',O',O',O',O',O']
private abbrev L8' : Array Bool := #[I',I',I',I',I',I',I',I',O',O',O',O',O',O',O',O',O',O',O',O',O']
private abbrev L9' : Array Bool := #[I',I',I',I',I',I',I',I',I',O',O',O',O',O',O',O',O',O',O',O',O']
private abbrev L10' : Array Bool := #[I',I',I',I',I',I',I',I',I',I',O',O',O',O',O',O',O',O',O',O',O']
private abbrev L11' : Array Bool := #[I',I',I',I',I',I',I',I',I',I',I',O',O',O',O',O',O',O',O',O',O']
private abbrev L12' : Array Bool := #[I',I',I',I',I',I',I',I',I',I',I',I',O',O',O',O',O',O',O',O',O']
private abbrev L13' : Array Bool := #[I',I',I',I',I',I',I',I',I',I',I',I',I',O',O',O',O',O',O',O',O']
private abbrev L14' : Array Bool := #[I',I',I',I',I',I',I',I',I',I',I',I',I',I',O',O',O',O',O',O',O']
private abbrev L15' : Array Bool := #[I',I',I',I',I',I',I',I',I',I',I',I',I',I',I',O',O',O',O',O',O']
private abbrev L16' : Array Bool := #[I',I',I',I',I',I',I',I',I',I',I',I',I',I',I',I',O',O',O',O',O']
private abbrev L17' : Array Bool := #[I',I',I',I',I',I',I',I',I',I',I',I',I',I',I',I',I',O',O',O',O']
private abbrev L18' : Array Bool := #[I',I',I',I',I',I',I',I',I',I',I',I',I',I',I',I',I',I',O',O',O']
private abbrev L19' : Array Bool := #[I',I',I',I',I',I',I',I',I',I',I',I',I',I',I',I',I',I',I',O',O']
private abbrev L20' : Array Bool := #[I',I',I',I',I',I',I',I',I',I',I',I',I',I',I',I',I',I',I',I',O']
private abbrev L21' : Array Bool := #[I',I',I',I',I',I',I',I',I',I',I',I',I',I',I',I',I',I',I',I',I']
private abbrev L22' : Array Bool := #[I',I',I',I',I',I',I',I',I',I',I',I',O',I',O',O',O',O',O',O',O']
private abbrev L23' : Array Bool := #[I',I',I',I',I',I',I',I',I',I',I',I',O',I',I',O',O',O',O',O',O']
private abbrev L24' : Array Bool := #[O',O',O',O',O',O',O',O',O',O',O']
private abbrev L25' : Array Bool := #[I',O',O',O',O',O',O',O',O',O',O']
private abbrev L26' : Array Bool := #[I',I',O',O',O',O',O',O',O',O',O']
private abbrev L27' : Array Bool := #[I',I',O',I',O',O',O',O',O',O',O']
private abbrev L28' : Array Bool := #[I',I',O',I',I',O',O',O',O',O',O']
private abbrev L29' : Array Bool := #[I',I',I',I',I',O',O',O',O',O',O']
private abbrev L30' : Array Bool := #[I',I',I',I',I',I',O',O',O',O',O']
private abbrev L31' : Array Bool := #[I',I',I',I',I',I',I',O',O',O',O']
private abbrev L32' : Array Bool := #[I',I',I',I',I',I',I',I',O',O',O']
private abbrev L33' : Array Bool := #[I',I',I',I',I',I',I',I',I',O',O']
private abbrev L34' : Array Bool := #[I',I',I',I',I',I',I',I',I',I',O']
private abbrev L35' : Array Bool := #[I',I',I',I',I',I',I',I',I',I',I']
private abbrev L36' : Array Bool := #[O',O',O',O',O',O',O',O',O',O',O',O',O',O',O',O',O',O',O',O',O',O',O']
private abbrev L37' : Array Bool := #[I',O',O',O',O',O',O',O',O',O',O',O',O',O',O',O',O',O',O',O',O',O',O']
private abbrev L38' : Array Bool := #[I',I',O',O',O',O',O',O',O',O',O',O',O',O',O',O',O',O',O',O',O',O',O']
private abbrev L39' : Array Bool := #[I',I',I',O',O',O',O',O',O',O',O',O',O',O',O',O',O',O',O',O',O',O',O']
private abbrev L40' : Array Bool := #[I',I',I',I',O',O',O',O',O',O',O',O',O',O',O',O',O',O',O',O',O',O',O']
private abbrev L41' : Array Bool := #[I',I',I',I',I',O',O',O',O',O',O',O',O',O',O',O',O',O',O',O',O',O',O']
private abbrev L42' : Array Bool := #[I',I',I',I',I',I',O',O',O',O',O',O',O',O',O',O',O',O',O',O',O',O',O']
private abbrev L43' : Array Bool := #[I',I',I',I',I',I',I',O',O',O',O',O',O',O',O',O',O',O',O',O',O',O',O']
private abbrev L44' : Array Bool := #[I',I',I',I',I',I',I',I',O',O',O',O',O',O',O',O',O',O',O',O',O',O',O']
private abbrev L45' : Array Bool := #[I',I',I',I',I',I',I',I',I',O',O',O',O',O',O',O',O',O',O',O',O',O',O']
private abbrev L46' : Array Bool := #[I',I',I',I',I',I',I',I',I',I',O',O',O',O',O',O',O',O',O',O',O',O',O']
private abbrev L47' : Array Bool := #[I',I',I',I',I',I',I',I',I',I',I',O',O',O',O',O',O',O',O',O',O',O',O']
private abbrev L48' : Array Bool := #[I',I',I',I',I',I',I',I',I',I',I',I',O',O',O',O',O',O',O',O',O',O',O']
private abbrev L49' : Array Bool := #[I',I',I',I',I',I',I',I',I',I',I',I',I',O',O',O',O',O',O',O',O',O',O']
private abbrev L50' : Array Bool := #[I',I',I',I',I',I',I',I',I',I',I',I',I',I',O',O',O',O',O',O',O',O',O']
private abbrev L51' : Array Bool := #[I',I',I',I',I',I',I',I',I',I',I',I',I',I',I',O',O',O',O',O',O',O',O']
private abbrev L52' : Array Bool := #[I',I',I',I',I',I',I',I',I',I',I',I',I',I',I',I',O',O',O',O',O',O',O']
private abbrev L53' : Array Bool := #[I',I',I',I',I',I',I',I',I',I',I',I',I',I',I',I',I',O',O',O',O',O',O']
private abbrev L54' : Array Bool := #[I',I',I',I',I',I',I',I',I',I',I',I',I',I',I',I',I',I',O',O',O',O',O']
private abbrev L55' : Array Bool := #[I',I',I',I',I',I',I',I',I',I',I',I',I',I',I',I',I',I',I',O',O',O',O']
private abbrev L56' : Array Bool := #[I',I',I',I',I',I',I',I',I',I',I',I',I',I',I',I',I',I',I',I',O',O',O']
private abbrev L57' : Array Bool := #[I',I',I',I',I',I',I',I',I',I',I',I',I',I',I',I',I',I',I',I',I',O',O']
private abbrev L58' : Array Bool := #[I',I',I',I',I',I',I',I',I',I',I',I',I',I',I',I',I',I',I',I',I',I',O']
private abbrev L59' : Array Bool := #[I',I',I',I',I',I',I',I',I',I',I',I',I',I',I',I',I',I',I',I',I',I',I']
private abbrev L60' : Array Bool := #[I',I',I',I',I',I',I',I',I',I',I',I',I',O',I',O',O',O',O',O',O',O',O']
private abbrev L61' : Array Bool := #[I',I',I',I',I',I',I',I',I',I',I',I',I',O',I',I',O',O',O',O',O',O',O']
private abbrev L62' : Array Bool := #[I',I',I',I',I',I',I',I',I',I',I',I',I',O',I',I',I',O',O',O',O',O',O']
private abbrev L63' : Array Bool := #[O',O',O',O',O',O',O',O',O',O',O',O',O',O',O',O',O',O',O']
private abbrev L64' : Array Bool := #[I',O',O',O',O',O',O',O',O',O',O',O',O',O',O',O',O',O',O']
private abbrev L65' : Array Bool := #[I',I',O',O',O',O',O',O',O',O',O',O',O',O',O',O',O',O',O']
private abbrev L66' : Array Bool := #[I',I',O',I',O',O',O',O',O',O',O',O',O',O',O',O',O',O',O']
private abbrev L67' : Array Bool := #[I',I',O',I',I',O',O',O',O',O',O',O',O',O',O',O',O',O',O']
private abbrev L68' : Array Bool := #[I',I',O',I',I',O',I',O',O',O',O',O',O',O',O',O',O',O',O']
private abbrev L69' : Array Bool := #[I',I',O',I',I',O',I',I',O',O',O',O',O',O',O',O',O',O',O']
private abbrev L70' : Array Bool := #[I',I',O',I',I',O',I',I',O',I',O',O',O',O',O',O',O',O',O']
private abbrev L71' : Array Bool := #[I',I',O',I',I',O',I',I',O',I',I',O',O',O',O',O',O',O',O']
private abbrev L72' : Array Bool := #[I',I',I',I',I',O',I',I',O',I',I',O',O',O',O',O',O',O',O']
private abbrev L73' : Array Bool := #[I',I',I',I',I',I',I',I',O',I',I',O',O',O',O',O',O',O',O']
private abbrev L74' : Array Bool := #[I',I',I',I',I',I',I',I',I',I',I',O',O',O',O',O',O',O',O']
private abbrev L75' : Array Bool := #[I',I',I',I',I',I',I',I',I',I',I',I',O',O',O',O',O',O',O']
private abbrev L76' : Array Bool := #[I',I',I',I',I',I',I',I',I',I',I',I',I',O',O',O',O',O',O']
private abbrev L77' : Array Bool := #[I',I',I',I',I',I',I',I',I',I',I',I',I',I',O',O',O',O',O']
private abbrev L78' : Array Bool := #[I',I',I',I',I',I',I',I',I',I',I',I',I',I',I',O',O',O',O']
private abbrev L79' : Array Bool := #[I',I',I',I',I',I',I',I',I',I',I',I',I',I',I',I',I',I',O']
private abbrev L80' : Array Bool := #[I',I',I',I',I',I',I',I',I',I',I',I',I',I',I',I',O',O',O']
private abbrev L81' : Array Bool := #[I',I',I',I',I',I',I',I',I',I',I',I',I',I',I',O',O',I',O']
private abbrev L82' : Array Bool := #[I',I',I',I',I',I',I',I',I',I',I',I',I',I',I',I',I',O',O']
private abbrev L83' : Array Bool := #[I',I',I',I',I',I',I',I',I',I',I',I',I',I',I',I',O',I',O']
private abbrev L84' : Array Bool := #[I',I',I',I',I',I',I',I',I',I',I',I',I',I',I',I',I',I',I']
mutual
def spec_ReadBank.j0 : Nat → ByteArray → List (S174) → List ByteArray → Bool → Option ((List (S174)) × Int × Int)
  | 0, _, _, _, _ => none
  | k + 1, x0, x5, x6, x25 => if x25 = true then (some (x5, 0, 1)) else (if 0 < (x6.length : Int) then ((spec_l11Split.f k (rdOf ByteArray.empty x6 0) (⟨#[124]⟩ : ByteArray)).bind fun t176 => (if (t176.length : Int) = 4 then (if 0 < (t176.length : Int) then (if (rdOf ByteArray.empty t176 0).toList = ([72] : List UInt8) then (if 0 ≤ (wrap64 (((rdOf ByteArray.empty x6 0).size : Int) - 1)) then (if (wrap64 (((rdOf ByteArray.empty x6 0).size : Int) - 1)) < ((rdOf ByteArray.empty x6 0).size : Int) then (spec_ReadBank.j1 k x0 x5 x6 t176 ((bt (rdOf ByteArray.empty x6 0) (wrap64 (((rdOf ByteArray.empty x6 0).size : Int) - 1))) != 10)) else (none)) else (none)) else (spec_ReadBank.j1 k x0 x5 x6 t176 true)) else (none)) else (spec_ReadBank.j1 k x0 x5 x6 t176 true))) else (none))
def spec_ReadBank.j1 : Nat → ByteArray → List (S174) → List ByteArray → List ByteArray → Bool → Option ((List (S174)) × Int × Int)
  | 0, _, _, _, _, _ => none
  | k + 1, x0, x5, x6, x7, x51 => if x51 = true then (some (x5, 0, 1)) else (if 1 < (x7.length : Int) then ((spec_l14Whole.f k (rdOf ByteArray.empty x7 1)).bind fun t183 => (if 2 < (x7.length : Int) then ((spec_l14Whole.f k (rdOf ByteArray.empty x7 2)).bind fun t185 => (if 3 < (x7.length : Int) then (if 0 ≤ (wrap64 (((rdOf ByteArray.empty x7 3).size : Int) - 1)) then (if (wrap64 (((rdOf ByteArray.empty x7 3).size : Int) - 1)) ≤ ((rdOf ByteArray.empty x7 3).size : Int) then ((spec_l14Money.f k ((rdOf ByteArray.empty x7 3).extract 0 ((wrap64 (((rdOf ByteArray.empty x7 3).size : Int) - 1)) : Int).toNat)).bind fun t188 => ((spec_l2Day.f t183).bind fun t189 => (if t189 = true then ((spec_l1In.f t185 1 100).bind fun t190 => (if t190 = true then (spec_ReadBank.j2 k x0 x5 x6 t183 t185 t188 (t188 == 0)) else (spec_ReadBank.j2 k x0 x5 x6 t183 t185 t188 true))) else (spec_ReadBank.j2 k x0 x5 x6 t183 t185 t188 true)))) else (none)) else (none)) else (none))) else (none))) else (none))
def spec_ReadBank.j2 : Nat → ByteArray → List (S174) → List ByteArray → Int → Int → Int → Bool → Option ((List (S174)) × Int × Int)
  | 0, _, _, _, _, _, _, _ => none
  | k + 1, x0, x5, x6, x8, x9, x10, x82 => if x82 = true then (some (x5, 0, 1)) else (spec_ReadBank.l0 k x0 x5 x6 x8 x9 x10 (([] : List (S174))) 1)
def spec_ReadBank.l0 : Nat → ByteArray → List (S174) → List ByteArray → Int → Int → Int → List (S174) → Int → Option ((List (S174)) × Int × Int)
  | 0, _, _, _, _, _, _, _, _ => none
  | k + 1, x0, x5, x6, x8, x9, x10, x11, x12 => if x12 ≤ x9 then (if x12 ≥ (x6.length : Int) then (spec_ReadBank.j4 k x0 x5 x6 x8 x9 x10 x11 x12 true) else (if 0 ≤ x12 then (if x12 < (x6.length : Int) then (if ((rdOf ByteArray.empty x6 x12).size : Int) > 1 then (if 0 ≤ 2 then (if 2 ≤ ((rdOf ByteArray.empty x6 x12).size : Int) then (spec_ReadBank.j4 k x0 x5 x6 x8 x9 x10 x11 x12 (((rdOf ByteArray.empty x6 x12).extract 0 2).toList == ([84, 124] : List UInt8))) else (none)) else (none)) else (spec_ReadBank.j4 k x0 x5 x6 x8 x9 x10 x11 x12 false)) else (none)) else (none))) else ((spec_l14Sum.f k x11).bind fun t213 => (if t213 = x10 then ((spec_WriteBank.f k x8 x11).bind fun t214 => (if t214.toList = x0.toList then (some (x11, x8, 0)) else (some (x5, 0, 5)))) else (some (x5, 0, 4))))
def spec_ReadBank.j4 : Nat → ByteArray → List (S174) → List ByteArray → Int → Int → Int → List (S174) → Int → Bool → Option ((List (S174)) × Int × Int)
  | 0, _, _, _, _, _, _, _, _, _ => none
  | k + 1, x0, x5, x6, x8, x9, x10, x11, x12, x109 => if x109 = true then (some (x5, 0, 3)) else (if 0 ≤ x12 then (if x12 < (x6.length : Int) then ((spec_l11Split.f k (rdOf ByteArray.empty x6 x12) (⟨#[124]⟩ : ByteArray)).bind fun t197 => (if (t197.length : Int) = 4 then (if 0 < (t197.length : Int) then (if (rdOf ByteArray.empty t197 0).toList = ([80] : List UInt8) then (if 0 ≤ (wrap64 (((rdOf ByteArray.empty x6 x12).size : Int) - 1)) then (if (wrap64 (((rdOf ByteArray.empty x6 x12).size : Int) - 1)) < ((rdOf ByteArray.empty x6 x12).size : Int) then (spec_ReadBank.j5 k x0 x5 x6 x8 x9 x10 x11 x12 t197 ((bt (rdOf ByteArray.empty x6 x12) (wrap64 (((rdOf ByteArray.empty x6 x12).size : Int) - 1))) != 10)) else (none)) else (none)) else (spec_ReadBank.j5 k x0 x5 x6 x8 x9 x10 x11 x12 t197 true)) else (none)) else (spec_ReadBank.j5 k x0 x5 x6 x8 x9 x10 x11 x12 t197 true))) else (none)) else (none))
def spec_ReadBank.j5 : Nat → ByteArray → List (S174) → List ByteArray → Int → Int → Int → List (S174) → Int → List ByteArray → Bool → Option ((List (S174)) × Int × Int)
  | 0, _, _, _, _, _, _, _, _, _, _ => none
  | k + 1, x0, x5, x6, x8, x9, x10, x11, x12, x13, x138 => if x138 = true then (some (x5, 0, 2)) else (if 1 < (x13.length : Int) then (if 2 < (x13.length : Int) then (if 3 < (x13.length : Int) then (if 0 ≤ (wrap64 (((rdOf ByteArray.empty x13 3).size : Int) - 1)) then (if (wrap64 (((rdOf ByteArray.empty x13 3).size : Int) - 1)) ≤ ((rdOf ByteArray.empty x13 3).size : Int) then ((spec_l14Money.f k ((rdOf ByteArray.empty x13 3).extract 0 ((wrap64 (((rdOf ByteArray.empty x13 3).size : Int) - 1)) : Int).toNat)).bind fun t207 => ((spec_l14Pay.f k (rdOf ByteArray.empty x13 1) (rdOf ByteArray.empty x13 2) t207).bind fun t209 => (if t209 = true then (if x11.length < 3518437208883 then (spec_ReadBank.l0 k x0 x5 x6 x8 x9 x10 (x11 ++ [(⟨rdOf ByteArray.empty x13 1, rdOf ByteArray.empty x13 2, t207⟩ : S174)]) (wrap64 (x12 + 1))) else (none)) else (some (x5, 0, 2))))) else (none)) else (none)) else (none)) else (none)) else (none))
end
def spec_ReadBank.f (k : Nat) (a0 : ByteArray) : Option ((List (S174)) × Int × Int) := (some (([] : List (S174)) : List (S174))).bind fun y169 => ((spec_l1Lines.f k a0).bind fun t172 => (if (a0.size : Int) > 20000 then (spec_ReadBank.j0 k a0 y169 t172 true) else (spec_ReadBank.j0 k a0 y169 t172 ((t172.length : Int) == 0))))
theorem spec_ReadBank.mono_l : ∀ k, (∀ y0 y1 y2 y3, LeO (spec_ReadBank.j0 k y0 y1 y2 y3) (spec_ReadBank.j0 (k + 1) y0 y1 y2 y3)) ∧ (∀ y0 y1 y2 y3 y4, LeO (spec_ReadBank.j1 k y0 y1 y2 y3 y4) (spec_ReadBank.j1 (k + 1) y0 y1 y2 y3 y4)) ∧ (∀ y0 y1 y2 y3 y4 y5 y6, LeO (spec_ReadBank.j2 k y0 y1 y2 y3 y4 y5 y6) (spec_ReadBank.j2 (k + 1) y0 y1 y2 y3 y4 y5 y6)) ∧ (∀ y0 y1 y2 y3 y4 y5 y6 y7, LeO (spec_ReadBank.l0 k y0 y1 y2 y3 y4 y5 y6 y7) (spec_ReadBank.l0 (k + 1) y0 y1 y2 y3 y4 y5 y6 y7)) ∧ (∀ y0 y1 y2 y3 y4 y5 y6 y7 y8, LeO (spec_ReadBank.j4 k y0 y1 y2 y3 y4 y5 y6 y7 y8) (spec_ReadBank.j4 (k + 1) y0 y1 y2 y3 y4 y5 y6 y7 y8)) ∧ (∀ y0 y1 y2 y3 y4 y5 y6 y7 y8 y9, LeO (spec_ReadBank.j5 k y0 y1 y2 y3 y4 y5 y6 y7 y8 y9) (spec_ReadBank.j5 (k + 1) y0 y1 y2 y3 y4 y5 y6 y7 y8 y9))
  | 0 => ⟨fun _ _ _ _ r h => by simp [spec_ReadBank.j0] at h, fun _ _ _ _ _ r h => by simp [spec_ReadBank.j1] at h, fun _ _ _ _ _ _ _ r h => by simp [spec_ReadBank.j2] at h, fun _ _ _ _ _ _ _ _ r h => by simp [spec_ReadBank.l0] at h, fun _ _ _ _ _ _ _ _ _ r h => by simp [spec_ReadBank.j4] at h, fun _ _ _ _ _ _ _ _ _ _ r h => by simp [spec_ReadBank.j5] at h⟩
  | k + 1 => by
    obtain ⟨ih0, ih1, ih2, ih3, ih4, ih5⟩ := spec_ReadBank.mono_l k
    refine ⟨?_, ?_, ?_, ?_, ?_, ?_⟩
    · intro y0 y1 y2 y3
      unfold spec_ReadBank.j0
      repeat' first
      | (with_reducible exact ih0 _ _ _ _)
      | (with_reducible exact ih1 _ _ _ _ _)
      | (with_reducible exact ih2 _ _ _ _ _ _ _)
      | (with_reducible exact ih3 _ _ _ _ _ _ _ _)
      | (with_reducible exact ih4 _ _ _ _ _ _ _ _ _)
      | (with_reducible exact ih5 _ _ _ _ _ _ _ _ _ _)
      | (with_reducible exact spec_WriteBank.mono _ _ _)
      | (with_reducible exact spec_l11Split.mono _ _ _)
      | (with_reducible exact spec_l14Money.mono _ _)
      | (with_reducible exact spec_l14Pay.mono _ _ _ _)
      | (with_reducible exact spec_l14Sum.mono _ _)
      | (with_reducible exact spec_l14Whole.mono _ _)
      | (with_reducible exact spec_l1Lines.mono _ _)
      | (with_reducible exact LeO.refl _)
      | (with_reducible exact LeO.none _)
      | (with_reducible refine LeO.ite ?_ ?_)
      | (with_reducible refine LeO.bind ?_ (fun _ => ?_))
      | exact ih0 _ _ _ _
      | exact ih1 _ _ _ _ _
      | exact ih2 _ _ _ _ _ _ _
      | exact ih3 _ _ _ _ _ _ _ _
      | exact ih4 _ _ _ _ _ _ _ _ _
      | exact ih5 _ _ _ _ _ _ _ _ _ _
      | exact spec_WriteBank.mono _ _ _
      | exact spec_l11Split.mono _ _ _
      | exact spec_l14Money.mono _ _
      | exact spec_l14Pay.mono _ _ _ _
      | exact spec_l14Sum.mono _ _
      | exact spec_l14Whole.mono _ _
      | exact spec_l1Lines.mono _ _
      | exact LeO.none _
      | refine LeO.ite ?_ ?_
      | refine LeO.bind ?_ (fun _ => ?_)
    · intro y0 y1 y2 y3 y4
      unfold spec_ReadBank.j1
      repeat' first
      | (with_reducible exact ih0 _ _ _ _)
      | (with_reducible exact ih1 _ _ _ _ _)
      | (with_reducible exact ih2 _ _ _ _ _ _ _)
      | (with_reducible exact ih3 _ _ _ _ _ _ _ _)
      | (with_reducible exact ih4 _ _ _ _ _ _ _ _ _)
      | (with_reducible exact ih5 _ _ _ _ _ _ _ _ _ _)
      | (with_reducible exact spec_WriteBank.mono _ _ _)
      | (with_reducible exact spec_l11Split.mono _ _ _)
      | (with_reducible exact spec_l14Money.mono _ _)
      | (with_reducible exact spec_l14Pay.mono _ _ _ _)
      | (with_reducible exact spec_l14Sum.mono _ _)
      | (with_reducible exact spec_l14Whole.mono _ _)
      | (with_reducible exact spec_l1Lines.mono _ _)
      | (with_reducible exact LeO.refl _)
      | (with_reducible exact LeO.none _)
      | (with_reducible refine LeO.ite ?_ ?_)
      | (with_reducible refine LeO.bind ?_ (fun _ => ?_))
      | exact ih0 _ _ _ _
      | exact ih1 _ _ _ _ _
      | exact ih2 _ _ _ _ _ _ _
      | exact ih3 _ _ _ _ _ _ _ _
      | exact ih4 _ _ _ _ _ _ _ _ _
      | exact ih5 _ _ _ _ _ _ _ _ _ _
      | exact spec_WriteBank.mono _ _ _
      | exact spec_l11Split.mono _ _ _
      | exact spec_l14Money.mono _ _
      | exact spec_l14Pay.mono _ _ _ _
      | exact spec_l14Sum.mono _ _
      | exact spec_l14Whole.mono _ _
      | exact spec_l1Lines.mono _ _
      | exact LeO.none _
      | refine LeO.ite ?_ ?_
      | refine LeO.bind ?_ (fun _ => ?_)
    · intro y0 y1 y2 y3 y4 y5 y6
      unfold spec_ReadBank.j2
      repeat' first
      | (with_reducible exact ih0 _ _ _ _)
      | (with_reducible exact ih1 _ _ _ _ _)
      | (with_reducible exact ih2 _ _ _ _ _ _ _)
      | (with_reducible exact ih3 _ _ _ _ _ _ _ _)
      | (with_reducible exact ih4 _ _ _ _ _ _ _ _ _)
      | (with_reducible exact ih5 _ _ _ _ _ _ _ _ _ _)
      | (with_reducible exact spec_WriteBank.mono _ _ _)
      | (with_reducible exact spec_l11Split.mono _ _ _)
      | (with_reducible exact spec_l14Money.mono _ _)
      | (with_reducible exact spec_l14Pay.mono _ _ _ _)
      | (with_reducible exact spec_l14Sum.mono _ _)
      | (with_reducible exact spec_l14Whole.mono _ _)
      | (with_reducible exact spec_l1Lines.mono _ _)
      | (with_reducible exact LeO.refl _)
      | (with_reducible exact LeO.none _)
      | (with_reducible refine LeO.ite ?_ ?_)
      | (with_reducible refine LeO.bind ?_ (fun _ => ?_))
      | exact ih0 _ _ _ _
      | exact ih1 _ _ _ _ _
      | exact ih2 _ _ _ _ _ _ _
      | exact ih3 _ _ _ _ _ _ _ _
      | exact ih4 _ _ _ _ _ _ _ _ _
      | exact ih5 _ _ _ _ _ _ _ _ _ _
      | exact spec_WriteBank.mono _ _ _
      | exact spec_l11Split.mono _ _ _
      | exact spec_l14Money.mono _ _
      | exact spec_l14Pay.mono _ _ _ _
      | exact spec_l14Sum.mono _ _
      | exact spec_l14Whole.mono _ _
      | exact spec_l1Lines.mono _ _
      | exact LeO.none _
      | refine LeO.ite ?_ ?_
      | refine LeO.bind ?_ (fun _ => ?_)
    · intro y0 y1 y2 y3 y4 y5 y6 y7
      unfold spec_ReadBank.l0
      repeat' first
      | (with_reducible exact ih0 _ _ _ _)
      | (with_reducible exact ih1 _ _ _ _ _)
      | (with_reducible exact ih2 _ _ _ _ _ _ _)
      | (with_reducible exact ih3 _ _ _ _ _ _ _ _)
      | (with_reducible exact ih4 _ _ _ _ _ _ _ _ _)
      | (with_reducible exact ih5 _ _ _ _ _ _ _ _ _ _)
      | (with_reducible exact spec_WriteBank.mono _ _ _)
      | (with_reducible exact spec_l11Split.mono _ _ _)
      | (with_reducible exact spec_l14Money.mono _ _)
      | (with_reducible exact spec_l14Pay.mono _ _ _ _)
      | (with_reducible exact spec_l14Sum.mono _ _)
      | (with_reducible exact spec_l14Whole.mono _ _)
      | (with_reducible exact spec_l1Lines.mono _ _)
      | (with_reducible exact LeO.refl _)
      | (with_reducible exact LeO.none _)
      | (with_reducible refine LeO.ite ?_ ?_)
      | (with_reducible refine LeO.bind ?_ (fun _ => ?_))
      | exact ih0 _ _ _ _
      | exact ih1 _ _ _ _ _
      | exact ih2 _ _ _ _ _ _ _
      | exact ih3 _ _ _ _ _ _ _ _
      | exact ih4 _ _ _ _ _ _ _ _ _
      | exact ih5 _ _ _ _ _ _ _ _ _ _
      | exact spec_WriteBank.mono _ _ _
      | exact spec_l11Split.mono _ _ _
      | exact spec_l14Money.mono _ _
      | exact spec_l14Pay.mono _ _ _ _
      | exact spec_l14Sum.mono _ _
      | exact spec_l14Whole.mono _ _
      | exact spec_l1Lines.mono _ _
      | exact LeO.none _
      | refine LeO.ite ?_ ?_
      | refine LeO.bind ?_ (fun _ => ?_)
    · intro y0 y1 y2 y3 y4 y5 y6 y7 y8
      unfold spec_ReadBank.j4
      repeat' first
      | (with_reducible exact ih0 _ _ _ _)
      | (with_reducible exact ih1 _ _ _ _ _)
      | (with_reducible exact ih2 _ _ _ _ _ _ _)
      | (with_reducible exact ih3 _ _ _ _ _ _ _ _)
      | (with_reducible exact ih4 _ _ _ _ _ _ _ _ _)
      | (with_reducible exact ih5 _ _ _ _ _ _ _ _ _ _)
      | (with_reducible exact spec_WriteBank.mono _ _ _)
      | (with_reducible exact spec_l11Split.mono _ _ _)
      | (with_reducible exact spec_l14Money.mono _ _)
      | (with_reducible exact spec_l14Pay.mono _ _ _ _)
      | (with_reducible exact spec_l14Sum.mono _ _)
      | (with_reducible exact spec_l14Whole.mono _ _)
      | (with_reducible exact spec_l1Lines.mono _ _)
      | (with_reducible exact LeO.refl _)
      | (with_reducible exact LeO.none _)
      | (with_reducible refine LeO.ite ?_ ?_)
      | (with_reducible refine LeO.bind ?_ (fun _ => ?_))
      | exact ih0 _ _ _ _
      | exact ih1 _ _ _ _ _
      | exact ih2 _ _ _ _ _ _ _
      | exact ih3 _ _ _ _ _ _ _ _
      | exact ih4 _ _ _ _ _ _ _ _ _
      | exact ih5 _ _ _ _ _ _ _ _ _ _
      | exact spec_WriteBank.mono _ _ _
      | exact spec_l11Split.mono _ _ _
      | exact spec_l14Money.mono _ _
      | exact spec_l14Pay.mono _ _ _ _
      | exact spec_l14Sum.mono _ _
      | exact spec_l14Whole.mono _ _
      | exact spec_l1Lines.mono _ _
      | exact LeO.none _
      | refine LeO.ite ?_ ?_
      | refine LeO.bind ?_ (fun _ => ?_)
    · intro y0 y1 y2 y3 y4 y5 y6 y7 y8 y9
      unfold spec_ReadBank.j5
      repeat' first
      | (with_reducible exact ih0 _ _ _ _)
      | (with_reducible exact ih1 _ _ _ _ _)
      | (with_reducible exact ih2 _ _ _ _ _ _ _)
      | (with_reducible exact ih3 _ _ _ _ _ _ _ _)
      | (with_reducible exact ih4 _ _ _ _ _ _ _ _ _)
      | (with_reducible exact ih5 _ _ _ _ _ _ _ _ _ _)
      | (with_reducible exact spec_WriteBank.mono _ _ _)
      | (with_reducible exact spec_l11Split.mono _ _ _)
      | (with_reducible exact spec_l14Money.mono _ _)
      | (with_reducible exact spec_l14Pay.mono _ _ _ _)
      | (with_reducible exact spec_l14Sum.mono _ _)
      | (with_reducible exact spec_l14Whole.mono _ _)
      | (with_reducible exact spec_l1Lines.mono _ _)
      | (with_reducible exact LeO.refl _)
      | (with_reducible exact LeO.none _)
      | (with_reducible refine LeO.ite ?_ ?_)
      | (with_reducible refine LeO.bind ?_ (fun _ => ?_))
      | exact ih0 _ _ _ _
      | exact ih1 _ _ _ _ _
      | exact ih2 _ _ _ _ _ _ _
      | exact ih3 _ _ _ _ _ _ _ _
      | exact ih4 _ _ _ _ _ _ _ _ _
      | exact ih5 _ _ _ _ _ _ _ _ _ _
      | exact spec_WriteBank.mono _ _ _
      | exact spec_l11Split.mono _ _ _
      | exact spec_l14Money.mono _ _
      | exact spec_l14Pay.mono _ _ _ _
      | exact spec_l14Sum.mono _ _
      | exact spec_l14Whole.mono _ _
      | exact spec_l1Lines.mono _ _
      | exact LeO.none _
      | refine LeO.ite ?_ ?_
      | refine LeO.bind ?_ (fun _ => ?_)
theorem spec_ReadBank.mono : ∀ a0 k, LeO (spec_ReadBank.f k a0) (spec_ReadBank.f (k + 1) a0) := by
 intro a0 k
 obtain ⟨ih0, ih1, ih2, ih3, ih4, ih5⟩ := spec_ReadBank.mono_l k
 unfold spec_ReadBank.f
 repeat' first
     | (with_reducible exact ih0 _ _ _ _)
     | (with_reducible exact ih1 _ _ _ _ _)
     | (with_reducible exact ih2 _ _ _ _ _ _ _)
     | (with_reducible exact ih3 _ _ _ _ _ _ _ _)
     | (with_reducible exact ih4 _ _ _ _ _ _ _ _ _)
     | (with_reducible exact ih5 _ _ _ _ _ _ _ _ _ _)
     | (with_reducible exact spec_WriteBank.mono _ _ _)
     | (with_reducible exact spec_l11Split.mono _ _ _)
     | (with_reducible exact spec_l14Money.mono _ _)
     | (with_reducible exact spec_l14Pay.mono _ _ _ _)
     | (with_reducible exact spec_l14Sum.mono _ _)
     | (with_reducible exact spec_l14Whole.mono _ _)
     | (with_reducible exact spec_l1Lines.mono _ _)
     | (with_reducible exact LeO.refl _)
     | (with_reducible exact LeO.none _)
     | (with_reducible refine LeO.ite ?_ ?_)
     | (with_reducible refine LeO.bind ?_ (fun _ => ?_))
     | exact ih0 _ _ _ _
     | exact ih1 _ _ _ _ _
     | exact ih2 _ _ _ _ _ _ _
     | exact ih3 _ _ _ _ _ _ _ _
     | exact ih4 _ _ _ _ _ _ _ _ _
     | exact ih5 _ _ _ _ _ _ _ _ _ _
     | exact spec_WriteBank.mono _ _ _
     | exact spec_l11Split.mono _ _ _
     | exact spec_l14Money.mono _ _
     | exact spec_l14Pay.mono _ _ _ _
     | exact spec_l14Sum.mono _ _
     | exact spec_l14Whole.mono _ _
     | exact spec_l1Lines.mono _ _
     | exact LeO.none _
     | refine LeO.ite ?_ ?_
     | refine LeO.bind ?_ (fun _ => ?_)
def spec_ReadBank.T6 : Bool × List (List Nat × List Nat) := (true, [([], []), ([0], [0]), ([1], [1]), ([2], [2]), ([3], [3]), ([4, 3], [3, 4]), ([5, 3], [3, 5]), ([6, 3], [3, 6]), ([3, 7], [3, 7]), ([8, 3], [8]), ([9], [9]), ([10, 9], [9, 10]), ([11, 9], [9, 11]), ([9], [9]), ([13, 9], [9, 13]), ([14, 9], [9, 14]), ([15, 9], [9, 15]), ([16, 9], [9, 16]), ([12, 17, 9], [9, 12, 17]), ([18, 9], [9, 18]), ([9, 19], [9, 19])])
def spec_ReadBank.B6 : List Nat := [0, 1, 3, 7, 15, 31, 63, 127, 255, 511, 1023, 2047, 4095, 1023, 9215, 25599, 58367, 123903, 262143, 524287, 1048575]
theorem spec_ReadBank.tab6 : rtab .any (opsOf Try.f47 6) = spec_ReadBank.T6 := by kernel_rfl
theorem spec_ReadBank.bits6 : waitsOk spec_ReadBank.T6.2 spec_ReadBank.B6 = true := by kernel_rfl
def spec_ReadBank.T10 : Bool × List (List Nat × List Nat) := (true, [([], []), ([0], [0]), ([1], [1]), ([], []), ([3], [3]), ([4], [4]), ([5], [5]), ([6], [6]), ([2, 7], [2, 7]), ([8], [8]), ([9, 9, 0, 1, 2, 3, 4, 5, 6, 7, 8, 9], [9])])
def spec_ReadBank.B10 : List Nat := [0, 1, 3, 0, 8, 24, 56, 120, 255, 511, 1023]
theorem spec_ReadBank.tab10 : rtab .any (opsOf Try.f47 10) = spec_ReadBank.T10 := by kernel_rfl
theorem spec_ReadBank.bits10 : waitsOk spec_ReadBank.T10.2 spec_ReadBank.B10 = true := by kernel_rfl
def spec_ReadBank.T20 : Bool × List (List Nat × List Nat) := (true, [([], []), ([0], [0]), ([1], [1]), ([2], [2]), ([3], [3]), ([4, 3], [3, 4]), ([5, 3], [3, 5]), ([6, 3], [3, 6]), ([3, 7], [3, 7]), ([8, 3], [8]), ([9], [9]), ([9], [9]), ([10, 11, 9], [9, 10, 11]), ([12, 9], [9, 12]), ([9], [9]), ([9], [9]), ([14, 15, 9], [9, 14, 15]), ([16, 9], [9, 16]), ([17, 9], [9, 17]), ([18, 9], [9, 18]), ([13, 19, 9], [9, 13, 19]), ([20, 9], [9, 20]), ([9, 21], [9, 21])])
def spec_ReadBank.B20 : List Nat := [0, 1, 3, 7, 15, 31, 63, 127, 255, 511, 1023, 1023, 4095, 8191, 1023, 1023, 50175, 115711, 246783, 508927, 1048575, 2097151, 4194303]
theorem spec_ReadBank.tab20 : rtab .any (opsOf Try.f47 20) = spec_ReadBank.T20 := by kernel_rfl
theorem spec_ReadBank.bits20 : waitsOk spec_ReadBank.T20.2 spec_ReadBank.B20 = true := by kernel_rfl
def spec_ReadBank.T22 : Bool × List (List Nat × List Nat) := (true, [([], []), ([0], [0]), ([1], [1]), ([], []), ([3], [3]), ([4], [4]), ([], []), ([6], [6]), ([7], [7]), ([], []), ([9], [9]), ([10], [10]), ([11], [11]), ([12], [12]), ([8, 13], [8, 13]), ([14], [14]), ([2, 5, 15], [2, 5, 15]), ([], []), ([17, 16, 15, 0, 1, 2, 3, 4, 5, 6, 7, 8, 9, 10, 11, 12, 13, 14, 15, 16, 17], [16, 17])])
def spec_ReadBank.B22 : List Nat := [0, 1, 3, 0, 8, 24, 0, 64, 192, 0, 512, 1536, 3584, 7680, 16320, 32704, 65535, 0, 262143]
theorem spec_ReadBank.tab22 : rtab .any (opsOf Try.f47 22) = spec_ReadBank.T22 := by kernel_rfl
theorem spec_ReadBank.bits22 : waitsOk spec_ReadBank.T22.2 spec_ReadBank.B22 = true := by kernel_rfl
theorem cfar {W : World} {b g o i : Nat} {u : Value} {x : Option Value} (h : b ≠ g) (H : W.cell? ⟨b, o, none⟩ = x) : (W.setCell ⟨g, i, none⟩ u).cell? ⟨b, o, none⟩ = x := (cell_far h u).trans H
set_option maxHeartbeats 8000000 in
set_option maxRecDepth 100000 in
theorem spec_ReadBank.calls (k : Nat) (a0 : ByteArray) (r1 : List (S174)) (r2 : Int) (r3 : Int) (w : World) (h : spec_ReadBank.f k a0 = some (r1, r2, r3)) :
    Calls Try.prog 47 #[.string a0] w fun e w' => ∃ v0_ : Value, e = .returned (.tuple #[v0_, .int .i64 r2, .int .i64 r3]) ∧ Kd.R k174 174 w' w.heap.size (fun _ => True) v0_ r1 ∧ Below w.heap.size w w' := by
 have hu174 := Try.underlying174
 have HB := aZ (Below.refl w.heap.size w)
 have H : ((some (([] : List (S174)) : List (S174))).bind fun y169 => ((spec_l1Lines.f k a0).bind fun t172 => (if (a0.size : Int) > 20000 then (spec_ReadBank.j0 k a0 y169 t172 true) else (spec_ReadBank.j0 k a0 y169 t172 ((t172.length : Int) == 0))))) = some (r1, r2, r3) := h
 clear h
 obtain ⟨y169, hy169⟩ : ∃ y_ : List (S174), y_ = (([] : List (S174))) := ⟨_, rfl⟩
 replace H : ((spec_l1Lines.f k a0).bind fun t172 => (if (a0.size : Int) > 20000 then (spec_ReadBank.j0 k a0 y169 t172 true) else (spec_ReadBank.j0 k a0 y169 t172 ((t172.length : Int) == 0)))) = some (r1, r2, r3) := by first | (rw [hy169]; with_reducible exact H) | (have H2_ := (Option.bind_some _ _).symm.trans H; rw [hy169]; with_reducible exact H2_) | (have H2_ := (Option.bind_some _ _).symm.trans H; with_reducible exact H2_) | with_reducible exact H | (rw [hy169]; exact H) | exact H
 have Ny169 := Aside0.mk hy169
 clear hy169
 replace H := Option.bind_eq_some_iff.mp H
 obtain ⟨t172, A20, H⟩ := H
 replace H : (if (a0.size : Int) > 20000 then (spec_ReadBank.j0 k a0 y169 t172 true) else (spec_ReadBank.j0 k a0 y169 t172 ((t172.length : Int) == 0))) = some (r1, r2, r3) := H
 have A2 := Aside0.mk A20
 clear A20
 have HC3 := Aside0.mk H
 clear H
 go_enter Try.func47, Try.ntmps47
 go_upto_region 3 with (first | ((with_reducible refine gate_dst (N := 15) rfl ?_); (try (refine gate_guard (by rfl) ?_; dsimp only)); refine Kd.R_lit k174 _ 174 ?hg (N := 15) ?hd (xs := ([] : List (S174))) (inner := []) (ok := fun _ => True) (okp := fun _ => True) ?hr ?hp (fun _ hk => hk) trivial (Below.refl _ _) (Nat.le_refl _) (by simp) ?_; (case hd => rfl); (case hg => rfl); (case hr => first | (go_simp; done) | (go_simp; rfl)); (case hp => exact (Reps.none _ _)); intro v170 w4 ho5 hb hg_ hnew_; clear hg_ hnew_; (first | rw [← Ny169.out] at ho5 | (simp only [Int.reduceToNat] at ho5; rw [← Ny169.out] at ho5)); have HO171 := aZ (Kd.R_lower ho5 (below_size (lZB HB.out))); replace HB := aZ (below_step (lZB HB.out) hb); clear hb ho5) | ((with_reducible refine gate_callee (f := 118) rfl ?_); refine goesL_ (some 17) rfl rfl Try.func118 kZ rfl #[.string a0] rfl tZA ?_; (with_reducible refine (spec_l1Lines.calls k a0 t172 _ A2.out).mono ?_); rintro e w6 ⟨v173, rfl, ho0, hb⟩; refine ⟨_, rfl, ?_⟩; replace HO171 := aZ (Kd.R_below (lZR HO171.out) hb); have HO174 := aZ (Kd.R_lower ho0 (below_size (lZB HB.out))); replace HB := aZ (below_step (lZB HB.out) hb); (try clear hb); (try clear hb2); (try clear hk); (try clear hi); (try clear ho0)))
 (try simp only [Act.put, sZ1, sZ2, sZ3])
 go_cut [25] (fun v25 wc => ∃ (kq : Nat) (x25_2 : Bool), v25 = .bool x25_2 ∧ Aside0 (spec_ReadBank.j0 kq a0 y169 t172 x25_2 = some (r1, r2, r3)) ∧ Aside0 (kq ≤ k) ∧ Aside0 (Kd.R k174 174 wc w.heap.size (fun _ => True) v170 y169) ∧ Aside0 (Kd.R Kd.string 9 wc w.heap.size (fun _ => True) v173 t172) ∧ Aside0 (Below w.heap.size w wc))
 case first =>
  have H := HC3.out
  clear HC3
  by_cases c7 : (a0.size : Int) > 20000
  ·rw [if_pos c7] at H
   have c7b0 : decide (20000 < (a0.size : Int)) = true := decide_eq_true c7
   have c7b1 : decide (20000 < a0.size) = true := decide_eq_true (by omega)
   clear c7
   (first | rw [c7b0] | (simp only [i64_w, i32_w]; rw [c7b0]) | skip)
   have H' := Aside0.mk H
   clear H
   go_wp2
   go_meet
   case rel => exact ⟨_, (true), tZB, H', ⟨by first | omega | exact Nat.le_refl _⟩, ⟨lZR HO171.out⟩, ⟨lZR HO174.out⟩, ⟨bZ⟩⟩
  rw [if_neg c7] at H
  have c7b0 : decide (20000 < (a0.size : Int)) = false := decide_eq_false c7
  have c7b1 : decide (20000 < a0.size) = false := decide_eq_false (by omega)
  clear c7
  (first | rw [c7b0] | (simp only [i64_w, i32_w]; rw [c7b0]) | skip)
  have H' := Aside0.mk H
  clear H
  obtain ⟨Ao8, co8, eo8⟩ := Kd.R_slice HO174.out
  subst eo8
  go_wp2
  go_meet
  case rel => exact ⟨_, (((t172.length : Int) == 0)), tZB, H', ⟨by first | omega | exact Nat.le_refl _⟩, ⟨lZR HO171.out⟩, ⟨lZR HO174.out⟩, ⟨bZ⟩⟩
 case rest =>
  clear HC3
  try clear c1
  try clear p2
  try clear c4
  try clear c7
  try clear c7b0
  try clear c7b1
  obtain ⟨kq, x25_2, rfl, HA, HJ2, HO_5, HO_6, HB⟩ := hcut
  cases kq with
  | zero => exact absurd HA.out (by simp [spec_ReadBank.j0])
  | succ kj2 =>
   have H := HA.out
   clear HA
   simp only [spec_ReadBank.j0] at H
   by_cases c9 : x25_2 = true
   ·subst c9
    have H1 : (some (y169, 0, 1)) = some (r1, r2, r3) := by rw [if_pos rfl] at H; exact H
    clear H
    have H := H1
    clear H1
    simp only [Option.some.injEq, Prod.mk.injEq] at H
    obtain ⟨rfl, rfl, rfl⟩ := H
    go_wp2
    go_ret3
    exact ⟨_, tZC, lZR HO_5.out, bZ⟩
   replace c9 := Bool.eq_false_iff.mpr c9
   subst c9
   have H1 : (if 0 < (t172.length : Int) then ((spec_l11Split.f kj2 (rdOf ByteArray.empty t172 0) (⟨#[124]⟩ : ByteArray)).bind fun t176 => (if (t176.length : Int) = 4 then (if 0 < (t176.length : Int) then (if (rdOf ByteArray.empty t176 0).toList = ([72] : List UInt8) then (if 0 ≤ (wrap64 (((rdOf ByteArray.empty t172 0).size : Int) - 1)) then (if (wrap64 (((rdOf ByteArray.empty t172 0).size : Int) - 1)) < ((rdOf ByteArray.empty t172 0).size : Int) then (spec_ReadBank.j1 kj2 a0 y169 t172 t176 ((bt (rdOf ByteArray.empty t172 0) (wrap64 (((rdOf ByteArray.empty t172 0).size : Int) - 1))) != 10)) else (none)) else (none)) else (spec_ReadBank.j1 kj2 a0 y169 t172 t176 true)) else (none)) else (spec_ReadBank.j1 kj2 a0 y169 t172 t176 true))) else (none)) = some (r1, r2, r3) := by rw [if_neg (show ¬ (false = true) by decide)] at H; exact H
   clear H
   have H := H1
   clear H1
   by_cases c10 : 0 < (t172.length : Int)
   rotate_left
   ·rw [if_neg c10] at H
    exact absurd H (by simp)
   rw [if_pos c10] at H
   have c10b0 := decide_eq_true c10
   have c10b1 : decide (0 < t172.length) = true := decide_eq_true (by omega)
   clear c10
   replace H := Option.bind_eq_some_iff.mp H
   obtain ⟨t176, A110, H⟩ := H
   replace H : (if (t176.length : Int) = 4 then (if 0 < (t176.length : Int) then (if (rdOf ByteArray.empty t176 0).toList = ([72] : List UInt8) then (if 0 ≤ (wrap64 (((rdOf ByteArray.empty t172 0).size : Int) - 1)) then (if (wrap64 (((rdOf ByteArray.empty t172 0).size : Int) - 1)) < ((rdOf ByteArray.empty t172 0).size : Int) then (spec_ReadBank.j1 kj2 a0 y169 t172 t176 ((bt (rdOf ByteArray.empty t172 0) (wrap64 (((rdOf ByteArray.empty t172 0).size : Int) - 1))) != 10)) else (none)) else (none)) else (spec_ReadBank.j1 kj2 a0 y169 t172 t176 true)) else (none)) else (spec_ReadBank.j1 kj2 a0 y169 t172 t176 true)) = some (r1, r2, r3) := H
   have A11 := Aside0.mk A110
   clear A110
   have HC12 := Aside0.mk H
   clear H
   obtain ⟨Ao13, co13, eo13⟩ := Kd.R_slice HO_6.out
   subst eo13
   have p175 : 0 ≤ (0 : Int) := (by omega)
   have q175 : 0 < (t172.length : Int) := of_decide_eq_true tZE
   obtain ⟨ad175, e175, hx175_0⟩ := Kd.at_string (Kd.R_reads' HO_6.out).2.2 0 p175 q175
   cases e175
   have qi175 : (0 < t172.length) = True := eq_true (by omega)
   (try rw [show ((0 : Int)).toNat = 0 from rfl] at hx175_0)
   (try rw [Addr.add_zero'] at hx175_0)
   replace p175 := eq_true p175
   replace q175 := eq_true q175
   go_upto_region 6 with (first | ((with_reducible refine gate_callee (f := 119) rfl ?_); refine goesL_ (some 30) rfl rfl Try.func119 kZ rfl #[.string (rdOf ByteArray.empty t172 0), .string (⟨#[124]⟩ : ByteArray)] rfl tZA ?_; (with_reducible refine (spec_l11Split.calls kj2 (rdOf ByteArray.empty t172 0) (⟨#[124]⟩ : ByteArray) t176 _ A11.out).mono ?_); rintro e w14 ⟨v177, rfl, ho0, hb⟩; refine ⟨_, rfl, ?_⟩; replace HO_5 := aZ (Kd.R_below (lZR HO_5.out) hb); have HO178 := aZ (Kd.R_lower (Kd.R_new' ho0 (Kd.R_lt (lZR HO_6.out))) (below_size (lZB HB.out))); replace HO_6 := aZ (Kd.R_elder' (lZR HO_6.out) (Kd.R_base ho0) hb); replace HB := aZ (below_step (lZB HB.out) hb); (try clear hb); (try clear hb2); (try clear hk); (try clear hi); (try clear ho0)))
   (try simp only [Act.put, sZ1, sZ2, sZ3])
   go_cut [51] (fun v51 wc => ∃ (kq : Nat) (x51_11 : Bool), v51 = .bool x51_11 ∧ Aside0 (spec_ReadBank.j1 kq a0 y169 t172 t176 x51_11 = some (r1, r2, r3)) ∧ Aside0 (kq ≤ kj2) ∧ Aside0 (Kd.R k174 174 wc w.heap.size (fun _ => True) v170 y169) ∧ Aside0 (Kd.R Kd.string 9 wc w.heap.size (fun k_ => some k_ ≠ (v177 : Value).ownBlock) (.slice (some ad175) t172.length co13) t172) ∧ Aside0 (Kd.R Kd.string 9 wc w.heap.size (fun k_ => some k_ ≠ ((.slice (some ad175) t172.length co13) : Value).ownBlock) v177 t176) ∧ Aside0 (Below w.heap.size w wc))
   case first =>
    have H := HC12.out
    clear HC12
    by_cases c15 : (t176.length : Int) = 4
    rotate_left
    ·rw [if_neg c15] at H
     have c15b0 : ((t176.length : Int) == 4) = false := beq_eq_false_iff_ne.mpr c15
     have c15b1 : ((t176.length : Int) != 4) = true := bne_iff_ne.mpr c15
     (first | rw [c15b0] | (simp only [i64_w, i32_w]; rw [c15b0]) | skip)
     have H' := Aside0.mk H
     clear H
     try go_wp2
     replace HO_5 := aZ (Kd.R_drew HO_5.out)
     replace HO_6 := aZ (Kd.R_drew HO_6.out)
     replace HO178 := aZ (Kd.R_drew HO178.out)
     replace HB := aZ (below_drew1 HB.out)
     obtain ⟨Ao27, co27, eo27⟩ := Kd.R_slice HO178.out
     (first | subst eo27 | (injection eo27 with f1_ f2_ f3_; have f4_ := f1_.symm; have f5_ := f3_.symm; clear f1_ f2_ f3_; subst f4_; subst f5_))
     refine start_ (n := 21) (S := fun w' => True) (ds := []) L0' kZ rfl rfl trivial (fun hHeld => ?_); refine with_tabW spec_ReadBank.tab6 spec_ReadBank.bits6 (fun HT_ HW_ => ?_)
     generalize w14.drew = w26 at HO_5 HO_6 HO178 HB hHeld ⊢
     refine pure_ (i := 0) (N := some 31) (v := ?_) (a' := ?_) L1' rfl rfl (any_of HT_.out kZ) (fun _ _ _ h => h) (Or.inl ⟨by rfl, ?_⟩) ?_ ?_
     rotate_left
     ·intro w'
      go_simp
      with_reducible rfl
     rotate_left
     ·simp only [Act.put, sZ1, sZ2, sZ3, i64_w, i32_w]
      rfl
     refine pure_ (i := 1) (N := some 32) (v := ?_) (a' := ?_) L2' rfl rfl (any_of HT_.out kZ) (fun _ _ _ h => h) (Or.inl ⟨by rfl, ?_⟩) ?_ ?_
     rotate_left
     ·intro w'
      go_simp
      with_reducible rfl
     rotate_left
     ·simp only [Act.put, sZ1, sZ2, sZ3, i64_w, i32_w]
      rfl
     refine pure_ (i := 2) (N := some 33) (v := ?_) (a' := ?_) L3' rfl rfl (any_of HT_.out kZ) (fun _ _ _ h => h) (Or.inl ⟨by rfl, ?_⟩) ?_ ?_
     rotate_left
     ·intro w'
      go_simp
      with_reducible rfl
     rotate_left
     ·simp only [Act.put, sZ1, sZ2, sZ3, i64_w, i32_w]
      rfl
     refine pure_ (i := 3) (N := some 34) (v := ?_) (a' := ?_) L4' rfl rfl (any_of HT_.out kZ) (fun _ _ _ h => h) (Or.inl ⟨by rfl, ?_⟩) ?_ ?_
     rotate_left
     ·intro w'
      go_simp
      with_reducible rfl
     rotate_left
     ·simp only [Act.put, sZ1, sZ2, sZ3, i64_w, i32_w]
      rfl
     refine pure_ (i := 4) (N := some 35) (v := undef) (a' := ?_) L5' rfl rfl (any_of HT_.out kZ) (fun _ _ _ h => h) (Or.inr ⟨by rfl, rfl⟩) ?_ ?_
     rotate_left
     ·simp only [Act.put, sZ1, sZ2, sZ3, i64_w, i32_w]
      rfl
     refine pure_ (i := 5) (N := some 36) (v := undef) (a' := ?_) L6' rfl rfl (any_of HT_.out kZ) (fun _ _ _ h => h) (Or.inr ⟨by rfl, rfl⟩) ?_ ?_
     rotate_left
     ·simp only [Act.put, sZ1, sZ2, sZ3, i64_w, i32_w]
      rfl
     refine pure_ (i := 6) (N := some 37) (v := undef) (a' := ?_) L7' rfl rfl (any_of HT_.out kZ) (fun _ _ _ h => h) (Or.inr ⟨by rfl, rfl⟩) ?_ ?_
     rotate_left
     ·simp only [Act.put, sZ1, sZ2, sZ3, i64_w, i32_w]
      rfl
     refine pure_ (i := 7) (N := some 38) (v := undef) (a' := ?_) L8' rfl rfl (any_of HT_.out kZ) (fun _ _ _ h => h) (Or.inr ⟨by rfl, rfl⟩) ?_ ?_
     rotate_left
     ·simp only [Act.put, sZ1, sZ2, sZ3, i64_w, i32_w]
      rfl
     refine pure_ (i := 8) (N := some 39) (v := ?_) (a' := ?_) L9' rfl rfl (any_of HT_.out kZ) (fun _ _ _ h => h) (Or.inl ⟨by rfl, ?_⟩) ?_ ?_
     rotate_left
     ·intro w'
      go_simp
      with_reducible rfl
     rotate_left
     ·simp only [Act.put, sZ1, sZ2, sZ3, i64_w, i32_w]
      rfl
     refine pure_ (i := 9) (N := some 40) (v := ?_) (a' := ?_) L10' rfl rfl (any_of HT_.out kZ) (fun _ _ _ h => h) (Or.inl ⟨by rfl, ?_⟩) ?_ ?_
     rotate_left
     ·intro w'
      go_simp
      with_reducible rfl
     rotate_left
     ·simp only [Act.put, sZ1, sZ2, sZ3, i64_w, i32_w]
      rfl
     refine pure_ (i := 10) (N := some 41) (v := undef) (a' := ?_) L11' rfl rfl (any_of HT_.out kZ) (fun _ _ _ h => h) (Or.inr ⟨by rfl, rfl⟩) ?_ ?_
     rotate_left
     ·simp only [Act.put, sZ1, sZ2, sZ3, i64_w, i32_w]
      rfl
     refine pure_ (i := 11) (N := some 42) (v := undef) (a' := ?_) L12' rfl rfl (any_of HT_.out kZ) (fun _ _ _ h => h) (Or.inr ⟨by rfl, rfl⟩) ?_ ?_
     rotate_left
     ·simp only [Act.put, sZ1, sZ2, sZ3, i64_w, i32_w]
      rfl
     refine pure_ (i := 12) (N := some 43) (v := undef) (a' := ?_) L13' rfl rfl (any_of HT_.out kZ) (fun _ _ _ h => h) (Or.inr ⟨by rfl, rfl⟩) ?_ ?_
     rotate_left
     ·simp only [Act.put, sZ1, sZ2, sZ3, i64_w, i32_w]
      rfl
     refine pure_ (i := 13) (N := some 44) (v := undef) (a' := ?_) L14' rfl rfl (any_of HT_.out kZ) (fun _ _ _ h => h) (Or.inr ⟨by rfl, rfl⟩) ?_ ?_
     rotate_left
     ·simp only [Act.put, sZ1, sZ2, sZ3, i64_w, i32_w]
      rfl
     refine pure_ (i := 14) (N := some 45) (v := undef) (a' := ?_) L15' rfl rfl (any_of HT_.out kZ) (fun _ _ _ h => h) (Or.inr ⟨by rfl, rfl⟩) ?_ ?_
     rotate_left
     ·simp only [Act.put, sZ1, sZ2, sZ3, i64_w, i32_w]
      rfl
     refine pure_ (i := 15) (N := some 46) (v := undef) (a' := ?_) L16' rfl rfl (any_of HT_.out kZ) (fun _ _ _ h => h) (Or.inr ⟨by rfl, rfl⟩) ?_ ?_
     rotate_left
     ·simp only [Act.put, sZ1, sZ2, sZ3, i64_w, i32_w]
      rfl
     refine pure_ (i := 16) (N := some 47) (v := undef) (a' := ?_) L17' rfl rfl (any_of HT_.out kZ) (fun _ _ _ h => h) (Or.inr ⟨by rfl, rfl⟩) ?_ ?_
     rotate_left
     ·simp only [Act.put, sZ1, sZ2, sZ3, i64_w, i32_w]
      rfl
     refine pure_ (i := 17) (N := some 48) (v := undef) (a' := ?_) L18' rfl rfl (any_of HT_.out kZ) (fun _ _ _ h => h) (Or.inr ⟨by rfl, rfl⟩) ?_ ?_
     rotate_left
     ·simp only [Act.put, sZ1, sZ2, sZ3, i64_w, i32_w]
      rfl
     refine pure_ (i := 18) (N := some 49) (v := undef) (a' := ?_) L19' rfl rfl (any_of HT_.out kZ) (fun _ _ _ h => h) (Or.inr ⟨by rfl, rfl⟩) ?_ ?_
     rotate_left
     ·simp only [Act.put, sZ1, sZ2, sZ3, i64_w, i32_w]
      rfl
     refine pure_ (i := 19) (N := some 50) (v := undef) (a' := ?_) L20' rfl rfl (any_of HT_.out kZ) (fun _ _ _ h => h) (Or.inr ⟨by rfl, rfl⟩) ?_ ?_
     rotate_left
     ·simp only [Act.put, sZ1, sZ2, sZ3, i64_w, i32_w]
      rfl
     refine pure_ (i := 20) (N := some 51) (v := ?_) (a' := ?_) L21' rfl rfl (any_of HT_.out kZ) (fun _ _ _ h => h) (Or.inl ⟨by rfl, ?_⟩) ?_ ?_
     rotate_left
     ·intro w'
      go_simp
      with_reducible rfl
     rotate_left
     ·simp only [Act.put, sZ1, sZ2, sZ3, i64_w, i32_w]
      rfl
     refine done_ (done_of HT_.out kZ) ?_
     try go_wp2
     go_meet
     case rel => exact ⟨_, (true), tZB, H', ⟨by have := HJ2.out; first | omega | exact Nat.le_refl _⟩, ⟨lZR HO_5.out⟩, ⟨by (with_reducible repeat (first | apply Kd.R_alloc | apply Kd.R_drewN | apply Kd.R_drew)); exact Kd.R_mono HO_6.out (fun _ hk => hk.2)⟩, ⟨by (with_reducible repeat (first | apply Kd.R_alloc | apply Kd.R_drewN | apply Kd.R_drew)); exact Kd.R_mono HO178.out (fun _ hk => hk.2)⟩, ⟨bZ⟩⟩
    rw [if_pos c15] at H
    have c15b0 : ((t176.length : Int) == 4) = true := beq_iff_eq.mpr c15
    have c15b1 : ((t176.length : Int) != 4) = false := bne_eq_false_iff_eq.mpr c15
    clear c15
    (first | rw [c15b0] | (simp only [i64_w, i32_w]; rw [c15b0]) | skip)
    by_cases c16 : 0 < (t176.length : Int)
    rotate_left
    ·rw [if_neg c16] at H
     exact absurd H (by simp)
    rw [if_pos c16] at H
    have c16b0 := decide_eq_true c16
    have c16b1 : decide (0 < t176.length) = true := decide_eq_true (by omega)
    clear c16
    by_cases c17 : (rdOf ByteArray.empty t176 0).toList = ([72] : List UInt8)
    rotate_left
    ·rw [if_neg c17] at H
     have c17b0 : ((rdOf ByteArray.empty t176 0).toList == ([72] : List UInt8)) = false := beq_eq_false_iff_ne.mpr c17
     have c17b1 : ((rdOf ByteArray.empty t176 0).toList != ([72] : List UInt8)) = true := bne_iff_ne.mpr c17
     have H' := Aside0.mk H
     clear H
     try go_wp2
     replace HO_5 := aZ (Kd.R_drew HO_5.out)
     replace HO_6 := aZ (Kd.R_drew HO_6.out)
     replace HO178 := aZ (Kd.R_drew HO178.out)
     replace HB := aZ (below_drew1 HB.out)
     obtain ⟨Ao25, co25, eo25⟩ := Kd.R_slice HO178.out
     (first | subst eo25 | (injection eo25 with f1_ f2_ f3_; have f4_ := f1_.symm; have f5_ := f3_.symm; clear f1_ f2_ f3_; subst f4_; subst f5_))
     have p179 : 0 ≤ (0 : Int) := (by omega)
     have q179 : 0 < (t176.length : Int) := of_decide_eq_true tZE
     obtain ⟨ad179, e179, hx179_0⟩ := Kd.at_string (Kd.R_reads' HO178.out).2.2 0 p179 q179
     cases e179
     have qi179 : (0 < t176.length) = True := eq_true (by omega)
     (try rw [show ((0 : Int)).toNat = 0 from rfl] at hx179_0)
     (try rw [Addr.add_zero'] at hx179_0)
     replace p179 := eq_true p179
     replace q179 := eq_true q179
     refine start_ (n := 21) (S := fun w' => w'.cell? ad179 = some (.string (rdOf ByteArray.empty t176 0))) (ds := []) L0' kZ rfl rfl (hx179_0) (fun hHeld => ?_); refine with_tabW spec_ReadBank.tab6 spec_ReadBank.bits6 (fun HT_ HW_ => ?_)
     generalize w14.drew = w24 at HO_5 HO_6 HO178 HB hx179_0 hHeld ⊢
     refine pure_ (i := 0) (N := some 31) (v := ?_) (a' := ?_) L1' rfl rfl (any_of HT_.out kZ) (fun _ _ _ h => h) (Or.inl ⟨by rfl, ?_⟩) ?_ ?_
     rotate_left
     ·intro w'
      go_simp
      with_reducible rfl
     rotate_left
     ·simp only [Act.put, sZ1, sZ2, sZ3, i64_w, i32_w]
      rfl
     refine pure_ (i := 1) (N := some 32) (v := ?_) (a' := ?_) L2' rfl rfl (any_of HT_.out kZ) (fun _ _ _ h => h) (Or.inl ⟨by rfl, ?_⟩) ?_ ?_
     rotate_left
     ·intro w'
      go_simp
      with_reducible rfl
     rotate_left
     ·simp only [Act.put, sZ1, sZ2, sZ3, i64_w, i32_w]
      rfl
     refine pure_ (i := 2) (N := some 33) (v := ?_) (a' := ?_) L3' rfl rfl (any_of HT_.out kZ) (fun _ _ _ h => h) (Or.inl ⟨by rfl, ?_⟩) ?_ ?_
     rotate_left
     ·intro w'
      go_simp
      with_reducible rfl
     rotate_left
     ·simp only [Act.put, sZ1, sZ2, sZ3, i64_w, i32_w]
      rfl
     refine pure_ (i := 3) (N := some 34) (v := ?_) (a' := ?_) L4' rfl rfl (any_of HT_.out kZ) (fun _ _ _ h => h) (Or.inl ⟨by rfl, ?_⟩) ?_ ?_
     rotate_left
     ·intro w'
      go_simp
      with_reducible rfl
     rotate_left
     ·simp only [Act.put, sZ1, sZ2, sZ3, i64_w, i32_w]
      rfl
     refine pure_ (i := 4) (N := some 35) (v := ?_) (a' := ?_) L5' rfl rfl (any_of HT_.out kZ) (fun _ _ _ h => h) (Or.inl ⟨by rfl, ?_⟩) ?_ ?_
     rotate_left
     ·intro w'
      go_simp
      with_reducible rfl
     rotate_left
     ·simp only [Act.put, sZ1, sZ2, sZ3, i64_w, i32_w]
      rfl
     refine pure_ (i := 5) (N := some 36) (v := ?_) (a' := ?_) L6' rfl rfl (any_of HT_.out kZ) (fun _ _ _ h => h) (Or.inl ⟨by rfl, ?_⟩) ?_ ?_
     rotate_left
     ·intro w'
      go_simp
      with_reducible rfl
     rotate_left
     ·simp only [Act.put, sZ1, sZ2, sZ3, i64_w, i32_w]
      rfl
     refine take_ (i := 6) (N := some 37) (v := ?_) (a' := ?_) L7' rfl rfl (take_ofW HT_.out HW_.out kZ) (fun _ _ _ h => h) (Or.inl ⟨by rfl, ?_⟩) hHeld ?_ ?_
     rotate_left
     ·intro w' s0
      go_simp
      with_reducible rfl
     rotate_left
     ·simp only [Act.put, sZ1, sZ2, sZ3, i64_w, i32_w]
      rfl
     refine pure_ (i := 7) (N := some 38) (v := ?_) (a' := ?_) L8' rfl rfl (any_of HT_.out kZ) (fun _ _ _ h => h) (Or.inl ⟨by rfl, ?_⟩) ?_ ?_
     rotate_left
     ·intro w'
      go_simp
      with_reducible rfl
     rotate_left
     ·simp only [Act.put, sZ1, sZ2, sZ3, i64_w, i32_w]
      rfl
     refine pure_ (i := 8) (N := some 39) (v := ?_) (a' := ?_) L9' rfl rfl (any_of HT_.out kZ) (fun _ _ _ h => h) (Or.inl ⟨by rfl, ?_⟩) ?_ ?_
     rotate_left
     ·intro w'
      go_simp
      with_reducible rfl
     rotate_left
     ·simp only [Act.put, sZ1, sZ2, sZ3, i64_w, i32_w]
      rfl
     refine pure_ (i := 9) (N := some 40) (v := ?_) (a' := ?_) L10' rfl rfl (any_of HT_.out kZ) (fun _ _ _ h => h) (Or.inl ⟨by rfl, ?_⟩) ?_ ?_
     rotate_left
     ·intro w'
      go_simp
      with_reducible rfl
     rotate_left
     ·simp only [Act.put, sZ1, sZ2, sZ3, i64_w, i32_w]
      rfl
     refine pure_ (i := 10) (N := some 41) (v := undef) (a' := ?_) L11' rfl rfl (any_of HT_.out kZ) (fun _ _ _ h => h) (Or.inr ⟨by rfl, rfl⟩) ?_ ?_
     rotate_left
     ·simp only [Act.put, sZ1, sZ2, sZ3, i64_w, i32_w]
      rfl
     refine pure_ (i := 11) (N := some 42) (v := undef) (a' := ?_) L12' rfl rfl (any_of HT_.out kZ) (fun _ _ _ h => h) (Or.inr ⟨by rfl, rfl⟩) ?_ ?_
     rotate_left
     ·simp only [Act.put, sZ1, sZ2, sZ3, i64_w, i32_w]
      rfl
     refine pure_ (i := 12) (N := some 43) (v := undef) (a' := ?_) L13' rfl rfl (any_of HT_.out kZ) (fun _ _ _ h => h) (Or.inr ⟨by rfl, rfl⟩) ?_ ?_
     rotate_left
     ·simp only [Act.put, sZ1, sZ2, sZ3, i64_w, i32_w]
      rfl
     refine pure_ (i := 13) (N := some 44) (v := undef) (a' := ?_) L14' rfl rfl (any_of HT_.out kZ) (fun _ _ _ h => h) (Or.inr ⟨by rfl, rfl⟩) ?_ ?_
     rotate_left
     ·simp only [Act.put, sZ1, sZ2, sZ3, i64_w, i32_w]
      rfl
     refine pure_ (i := 14) (N := some 45) (v := undef) (a' := ?_) L15' rfl rfl (any_of HT_.out kZ) (fun _ _ _ h => h) (Or.inr ⟨by rfl, rfl⟩) ?_ ?_
     rotate_left
     ·simp only [Act.put, sZ1, sZ2, sZ3, i64_w, i32_w]
      rfl
     refine pure_ (i := 15) (N := some 46) (v := undef) (a' := ?_) L16' rfl rfl (any_of HT_.out kZ) (fun _ _ _ h => h) (Or.inr ⟨by rfl, rfl⟩) ?_ ?_
     rotate_left
     ·simp only [Act.put, sZ1, sZ2, sZ3, i64_w, i32_w]
      rfl
     refine pure_ (i := 16) (N := some 47) (v := undef) (a' := ?_) L17' rfl rfl (any_of HT_.out kZ) (fun _ _ _ h => h) (Or.inr ⟨by rfl, rfl⟩) ?_ ?_
     rotate_left
     ·simp only [Act.put, sZ1, sZ2, sZ3, i64_w, i32_w]
      rfl
     refine pure_ (i := 17) (N := some 48) (v := undef) (a' := ?_) L18' rfl rfl (any_of HT_.out kZ) (fun _ _ _ h => h) (Or.inr ⟨by rfl, rfl⟩) ?_ ?_
     rotate_left
     ·simp only [Act.put, sZ1, sZ2, sZ3, i64_w, i32_w]
      rfl
     refine pure_ (i := 18) (N := some 49) (v := undef) (a' := ?_) L19' rfl rfl (any_of HT_.out kZ) (fun _ _ _ h => h) (Or.inr ⟨by rfl, rfl⟩) ?_ ?_
     rotate_left
     ·simp only [Act.put, sZ1, sZ2, sZ3, i64_w, i32_w]
      rfl
     refine pure_ (i := 19) (N := some 50) (v := undef) (a' := ?_) L20' rfl rfl (any_of HT_.out kZ) (fun _ _ _ h => h) (Or.inr ⟨by rfl, rfl⟩) ?_ ?_
     rotate_left
     ·simp only [Act.put, sZ1, sZ2, sZ3, i64_w, i32_w]
      rfl
     refine pure_ (i := 20) (N := some 51) (v := ?_) (a' := ?_) L21' rfl rfl (any_of HT_.out kZ) (fun _ _ _ h => h) (Or.inl ⟨by rfl, ?_⟩) ?_ ?_
     rotate_left
     ·intro w'
      go_simp
      with_reducible rfl
     rotate_left
     ·simp only [Act.put, sZ1, sZ2, sZ3, i64_w, i32_w]
      rfl
     refine done_ (done_of HT_.out kZ) ?_
     try go_wp2
     go_meet
     case rel => exact ⟨_, (true), tZB, H', ⟨by have := HJ2.out; first | omega | exact Nat.le_refl _⟩, ⟨lZR HO_5.out⟩, ⟨by (with_reducible repeat (first | apply Kd.R_alloc | apply Kd.R_drewN | apply Kd.R_drew)); exact Kd.R_mono HO_6.out (fun _ hk => hk.2)⟩, ⟨by (with_reducible repeat (first | apply Kd.R_alloc | apply Kd.R_drewN | apply Kd.R_drew)); exact Kd.R_mono HO178.out (fun _ hk => hk.2)⟩, ⟨bZ⟩⟩
    rw [if_pos c17] at H
    have c17b0 : ((rdOf ByteArray.empty t176 0).toList == ([72] : List UInt8)) = true := beq_iff_eq.mpr c17
    have c17b1 : ((rdOf ByteArray.empty t176 0).toList != ([72] : List UInt8)) = false := bne_eq_false_iff_eq.mpr c17
    clear c17
    obtain ⟨ji18, hji18⟩ : ∃ j_ : Int, (wrap64 (((rdOf ByteArray.empty t172 0).size : Int) - 1)) = j_ := ⟨_, rfl⟩
    replace H : (if 0 ≤ (ji18) then (if (ji18) < ((rdOf ByteArray.empty t172 0).size : Int) then (spec_ReadBank.j1 kj2 a0 y169 t172 t176 ((bt (rdOf ByteArray.empty t172 0) (ji18)) != 10)) else (none)) else (none)) = some (r1, r2, r3) := by first | (rw [hji18] at H; exact H) | (simp only [hji18] at H ⊢; exact H)
    have hji18w : (IntKind.i64.wrap (((rdOf ByteArray.empty t172 0).size : Int) - 1)) = ji18 := (i64_w _).trans hji18
    by_cases c19 : 0 ≤ (ji18)
    rotate_left
    ·rw [if_neg c19] at H
     exact absurd H (by simp)
    rw [if_pos c19] at H
    have c19b0 := decide_eq_true c19
    clear c19
    by_cases c20 : (ji18) < ((rdOf ByteArray.empty t172 0).size : Int)
    rotate_left
    ·rw [if_neg c20] at H
     exact absurd H (by simp)
    rw [if_pos c20] at H
    have c20b0 := decide_eq_true c20
    clear c20
    have H' := Aside0.mk H
    clear H
    try go_wp2
    replace HO_5 := aZ (Kd.R_drew HO_5.out)
    replace HO_6 := aZ (Kd.R_drew HO_6.out)
    replace HO178 := aZ (Kd.R_drew HO178.out)
    replace HB := aZ (below_drew1 HB.out)
    obtain ⟨Ao23, co23, eo23⟩ := Kd.R_slice HO178.out
    (first | subst eo23 | (injection eo23 with f1_ f2_ f3_; have f4_ := f1_.symm; have f5_ := f3_.symm; clear f1_ f2_ f3_; subst f4_; subst f5_))
    have p179 : 0 ≤ (0 : Int) := (by omega)
    have q179 : 0 < (t176.length : Int) := of_decide_eq_true tZE
    obtain ⟨ad179, e179, hx179_0⟩ := Kd.at_string (Kd.R_reads' HO178.out).2.2 0 p179 q179
    cases e179
    have qi179 : (0 < t176.length) = True := eq_true (by omega)
    (try rw [show ((0 : Int)).toNat = 0 from rfl] at hx179_0)
    (try rw [Addr.add_zero'] at hx179_0)
    replace p179 := eq_true p179
    replace q179 := eq_true q179
    have p180 : 0 ≤ (0 : Int) := (by omega)
    have q180 : 0 < (t172.length : Int) := of_decide_eq_true tZE
    obtain ⟨ad180, e180, hx180_0⟩ := Kd.at_string (Kd.R_reads' HO_6.out).2.2 0 p180 q180
    obtain rfl : ad175 = ad180 := (by injection e180)
    have qi180 : (0 < t172.length) = True := eq_true (by omega)
    (try rw [show ((0 : Int)).toNat = 0 from rfl] at hx180_0)
    (try rw [Addr.add_zero'] at hx180_0)
    replace p180 := eq_true p180
    replace q180 := eq_true q180
    have p181 : 0 ≤ (0 : Int) := (by omega)
    have q181 : 0 < (t172.length : Int) := of_decide_eq_true tZE
    obtain ⟨ad181, e181, hx181_0⟩ := Kd.at_string (Kd.R_reads' HO_6.out).2.2 0 p181 q181
    obtain rfl : ad175 = ad181 := (by injection e181)
    have qi181 : (0 < t172.length) = True := eq_true (by omega)
    (try rw [show ((0 : Int)).toNat = 0 from rfl] at hx181_0)
    (try rw [Addr.add_zero'] at hx181_0)
    replace p181 := eq_true p181
    replace q181 := eq_true q181
    have p21 : 0 ≤ ((ji18) : Int) := of_decide_eq_true tZE
    have q21 : (ji18) < ((rdOf ByteArray.empty t172 0).size : Int) := of_decide_eq_true tZE
    have hx21 := bt_at (rdOf ByteArray.empty t172 0) (ji18)
    replace p21 := eq_true p21
    replace q21 := eq_true q21
    refine start_ (n := 21) (S := fun w' => w'.cell? ad179 = some (.string (rdOf ByteArray.empty t176 0)) ∧ w'.cell? ad175 = some (.string (rdOf ByteArray.empty t172 0)) ∧ w'.cell? ad175 = some (.string (rdOf ByteArray.empty t172 0))) (ds := []) L0' kZ rfl rfl ⟨hx179_0, hx180_0, hx181_0⟩ (fun hHeld => ?_); refine with_tabW spec_ReadBank.tab6 spec_ReadBank.bits6 (fun HT_ HW_ => ?_)
    generalize w14.drew = w22 at HO_5 HO_6 HO178 HB hx179_0 hx180_0 hx181_0 hHeld ⊢
    refine pure_ (i := 0) (N := some 31) (v := ?_) (a' := ?_) L1' rfl rfl (any_of HT_.out kZ) (fun _ _ _ h => h) (Or.inl ⟨by rfl, ?_⟩) ?_ ?_
    rotate_left
    ·intro w'
     go_simp
     with_reducible rfl
    rotate_left
    ·simp only [Act.put, sZ1, sZ2, sZ3, i64_w, i32_w]
     rfl
    refine pure_ (i := 1) (N := some 32) (v := ?_) (a' := ?_) L2' rfl rfl (any_of HT_.out kZ) (fun _ _ _ h => h) (Or.inl ⟨by rfl, ?_⟩) ?_ ?_
    rotate_left
    ·intro w'
     go_simp
     with_reducible rfl
    rotate_left
    ·simp only [Act.put, sZ1, sZ2, sZ3, i64_w, i32_w]
     rfl
    refine pure_ (i := 2) (N := some 33) (v := ?_) (a' := ?_) L3' rfl rfl (any_of HT_.out kZ) (fun _ _ _ h => h) (Or.inl ⟨by rfl, ?_⟩) ?_ ?_
    rotate_left
    ·intro w'
     go_simp
     with_reducible rfl
    rotate_left
    ·simp only [Act.put, sZ1, sZ2, sZ3, i64_w, i32_w]
     rfl
    refine pure_ (i := 3) (N := some 34) (v := ?_) (a' := ?_) L4' rfl rfl (any_of HT_.out kZ) (fun _ _ _ h => h) (Or.inl ⟨by rfl, ?_⟩) ?_ ?_
    rotate_left
    ·intro w'
     go_simp
     with_reducible rfl
    rotate_left
    ·simp only [Act.put, sZ1, sZ2, sZ3, i64_w, i32_w]
     rfl
    refine pure_ (i := 4) (N := some 35) (v := ?_) (a' := ?_) L5' rfl rfl (any_of HT_.out kZ) (fun _ _ _ h => h) (Or.inl ⟨by rfl, ?_⟩) ?_ ?_
    rotate_left
    ·intro w'
     go_simp
     with_reducible rfl
    rotate_left
    ·simp only [Act.put, sZ1, sZ2, sZ3, i64_w, i32_w]
     rfl
    refine pure_ (i := 5) (N := some 36) (v := ?_) (a' := ?_) L6' rfl rfl (any_of HT_.out kZ) (fun _ _ _ h => h) (Or.inl ⟨by rfl, ?_⟩) ?_ ?_
    rotate_left
    ·intro w'
     go_simp
     with_reducible rfl
    rotate_left
    ·simp only [Act.put, sZ1, sZ2, sZ3, i64_w, i32_w]
     rfl
    refine take_ (i := 6) (N := some 37) (v := ?_) (a' := ?_) L7' rfl rfl (take_ofW HT_.out HW_.out kZ) (fun _ _ _ h => h) (Or.inl ⟨by rfl, ?_⟩) hHeld ?_ ?_
    rotate_left
    ·rintro w' ⟨s0, s1, s2⟩
     go_simp
     with_reducible rfl
    rotate_left
    ·simp only [Act.put, sZ1, sZ2, sZ3, i64_w, i32_w]
     rfl
    refine pure_ (i := 7) (N := some 38) (v := ?_) (a' := ?_) L8' rfl rfl (any_of HT_.out kZ) (fun _ _ _ h => h) (Or.inl ⟨by rfl, ?_⟩) ?_ ?_
    rotate_left
    ·intro w'
     go_simp
     with_reducible rfl
    rotate_left
    ·simp only [Act.put, sZ1, sZ2, sZ3, i64_w, i32_w]
     rfl
    refine pure_ (i := 8) (N := some 39) (v := ?_) (a' := ?_) L9' rfl rfl (any_of HT_.out kZ) (fun _ _ _ h => h) (Or.inl ⟨by rfl, ?_⟩) ?_ ?_
    rotate_left
    ·intro w'
     go_simp
     with_reducible rfl
    rotate_left
    ·simp only [Act.put, sZ1, sZ2, sZ3, i64_w, i32_w]
     rfl
    refine pure_ (i := 9) (N := some 40) (v := ?_) (a' := ?_) L10' rfl rfl (any_of HT_.out kZ) (fun _ _ _ h => h) (Or.inl ⟨by rfl, ?_⟩) ?_ ?_
    rotate_left
    ·intro w'
     go_simp
     with_reducible rfl
    rotate_left
    ·simp only [Act.put, sZ1, sZ2, sZ3, i64_w, i32_w]
     rfl
    refine pure_ (i := 10) (N := some 41) (v := ?_) (a' := ?_) L11' rfl rfl (any_of HT_.out kZ) (fun _ _ _ h => h) (Or.inl ⟨by rfl, ?_⟩) ?_ ?_
    rotate_left
    ·intro w'
     go_simp
     with_reducible rfl
    rotate_left
    ·simp only [Act.put, sZ1, sZ2, sZ3, i64_w, i32_w]
     rfl
    refine pure_ (i := 11) (N := some 42) (v := ?_) (a' := ?_) L12' rfl rfl (any_of HT_.out kZ) (fun _ _ _ h => h) (Or.inl ⟨by rfl, ?_⟩) ?_ ?_
    rotate_left
    ·intro w'
     go_simp
     with_reducible rfl
    rotate_left
    ·simp only [Act.put, sZ1, sZ2, sZ3, i64_w, i32_w]
     rfl
    refine pure_ (i := 13) (N := some 44) (v := ?_) (a' := ?_) L22' rfl rfl (any_of HT_.out kZ) (fun _ _ _ h => h) (Or.inl ⟨by rfl, ?_⟩) ?_ ?_
    rotate_left
    ·intro w'
     go_simp
     with_reducible rfl
    rotate_left
    ·simp only [Act.put, sZ1, sZ2, sZ3, i64_w, i32_w]
     rfl
    refine pure_ (i := 14) (N := some 45) (v := ?_) (a' := ?_) L23' rfl rfl (any_of HT_.out kZ) (fun _ _ _ h => h) (Or.inl ⟨by rfl, ?_⟩) ?_ ?_
    rotate_left
    ·intro w'
     go_simp
     with_reducible rfl
    rotate_left
    ·simp only [Act.put, sZ1, sZ2, sZ3, i64_w, i32_w]
     rfl
    refine take_ (i := 12) (N := some 43) (v := ?_) (a' := ?_) L15' rfl rfl (take_ofW HT_.out HW_.out kZ) (fun _ _ _ h => h) (Or.inl ⟨by rfl, ?_⟩) hHeld ?_ ?_
    rotate_left
    ·rintro w' ⟨s0, s1, s2⟩
     go_simp
     with_reducible rfl
    rotate_left
    ·simp only [Act.put, sZ1, sZ2, sZ3, i64_w, i32_w]
     rfl
    refine take_ (i := 15) (N := some 46) (v := ?_) (a' := ?_) L16' rfl rfl (take_ofW HT_.out HW_.out kZ) (fun _ _ _ h => h) (Or.inl ⟨by rfl, ?_⟩) hHeld ?_ ?_
    rotate_left
    ·rintro w' ⟨s0, s1, s2⟩
     go_simp
     with_reducible rfl
    rotate_left
    ·simp only [Act.put, sZ1, sZ2, sZ3, i64_w, i32_w]
     rfl
    refine pure_ (i := 16) (N := some 47) (v := ?_) (a' := ?_) L17' rfl rfl (any_of HT_.out kZ) (fun _ _ _ h => h) (Or.inl ⟨by rfl, ?_⟩) ?_ ?_
    rotate_left
    ·intro w'
     go_simp
     with_reducible rfl
    rotate_left
    ·simp only [Act.put, sZ1, sZ2, sZ3, i64_w, i32_w]
     rfl
    refine pure_ (i := 17) (N := some 48) (v := ?_) (a' := ?_) L18' rfl rfl (any_of HT_.out kZ) (fun _ _ _ h => h) (Or.inl ⟨by rfl, ?_⟩) ?_ ?_
    rotate_left
    ·intro w'
     go_simp
     with_reducible rfl
    rotate_left
    ·simp only [Act.put, sZ1, sZ2, sZ3, i64_w, i32_w]
     rfl
    refine take_ (i := 18) (N := some 49) (v := ?_) (a' := ?_) L19' rfl rfl (take_ofW HT_.out HW_.out kZ) (fun _ _ _ h => h) (Or.inl ⟨by rfl, ?_⟩) hHeld ?_ ?_
    rotate_left
    ·rintro w' ⟨s0, s1, s2⟩
     go_simp
     with_reducible rfl
    rotate_left
    ·simp only [Act.put, sZ1, sZ2, sZ3, i64_w, i32_w]
     rfl
    refine pure_ (i := 19) (N := some 50) (v := ?_) (a' := ?_) L20' rfl rfl (any_of HT_.out kZ) (fun _ _ _ h => h) (Or.inl ⟨by rfl, ?_⟩) ?_ ?_
    rotate_left
    ·intro w'
     go_simp
     with_reducible rfl
    rotate_left
    ·simp only [Act.put, sZ1, sZ2, sZ3, i64_w, i32_w]
     rfl
    refine pure_ (i := 20) (N := some 51) (v := ?_) (a' := ?_) L21' rfl rfl (any_of HT_.out kZ) (fun _ _ _ h => h) (Or.inl ⟨by rfl, ?_⟩) ?_ ?_
    rotate_left
    ·intro w'
     go_simp
     with_reducible rfl
    rotate_left
    ·simp only [Act.put, sZ1, sZ2, sZ3, i64_w, i32_w]
     rfl
    refine done_ (done_of HT_.out kZ) ?_
    try go_wp2
    go_meet
    case rel => exact ⟨_, (((bt (rdOf ByteArray.empty t172 0) (ji18)) != 10)), (by first | rfl | (simp; done) | (simp only [← hji18] <;> (first | rfl | simp)) | (simp [*]; done)), H', ⟨by have := HJ2.out; first | omega | exact Nat.le_refl _⟩, ⟨lZR HO_5.out⟩, ⟨by (with_reducible repeat (first | apply Kd.R_alloc | apply Kd.R_drewN | apply Kd.R_drew)); exact Kd.R_mono HO_6.out (fun _ hk => hk.2)⟩, ⟨by (with_reducible repeat (first | apply Kd.R_alloc | apply Kd.R_drewN | apply Kd.R_drew)); exact Kd.R_mono HO178.out (fun _ hk => hk.2)⟩, ⟨bZ⟩⟩
   case rest =>
    clear HC12
    try clear c1
    try clear p1
    try clear q1
    try clear hx1
    try clear qi1
    try clear c2
    try clear p2
    try clear q2
    try clear hx2
    try clear p6
    try clear c9
    try clear c10
    try clear c10b0
    try clear c10b1
    try clear c11
    try clear c15
    try clear c15b0
    try clear c15b1
    try clear c16
    try clear c16b0
    try clear c16b1
    try clear c17
    try clear c17b0
    try clear c17b1
    try clear p17
    try clear q17
    try clear hx17
    try clear qi17
    try clear p18
    try clear q18
    try clear hx18
    try clear qi18
    try clear c19
    try clear c19b0
    try clear c20
    try clear c20b0
    try clear p21
    try clear q21
    try clear hx21
    try clear hx175_0
    try clear hx179_0
    try clear hx180_0
    try clear hx181_0
    try clear p175
    try clear p179
    try clear p180
    try clear p181
    try clear p21
    try clear q175
    try clear q179
    try clear q180
    try clear q181
    try clear q21
    obtain ⟨kq, x51_11, rfl, HA, HJ11, HO_5, HO_6, HO_7, HB⟩ := hcut
    cases kq with
    | zero => exact absurd HA.out (by simp [spec_ReadBank.j1])
    | succ kj11 =>
     have H := HA.out
     clear HA
     simp only [spec_ReadBank.j1] at H
     by_cases c28 : x51_11 = true
     ·subst c28
      have H1 : (some (y169, 0, 1)) = some (r1, r2, r3) := by rw [if_pos rfl] at H; exact H
      clear H
      have H := H1
      clear H1
      simp only [Option.some.injEq, Prod.mk.injEq] at H
      obtain ⟨rfl, rfl, rfl⟩ := H
      go_wp2
      go_ret3
      exact ⟨_, tZC, lZR HO_5.out, bZ⟩
     replace c28 := Bool.eq_false_iff.mpr c28
     subst c28
     have H1 : (if 1 < (t176.length : Int) then ((spec_l14Whole.f kj11 (rdOf ByteArray.empty t176 1)).bind fun t183 => (if 2 < (t176.length : Int) then ((spec_l14Whole.f kj11 (rdOf ByteArray.empty t176 2)).bind fun t185 => (if 3 < (t176.length : Int) then (if 0 ≤ (wrap64 (((rdOf ByteArray.empty t176 3).size : Int) - 1)) then (if (wrap64 (((rdOf ByteArray.empty t176 3).size : Int) - 1)) ≤ ((rdOf ByteArray.empty t176 3).size : Int) then ((spec_l14Money.f kj11 ((rdOf ByteArray.empty t176 3).extract 0 ((wrap64 (((rdOf ByteArray.empty t176 3).size : Int) - 1)) : Int).toNat)).bind fun t188 => ((spec_l2Day.f t183).bind fun t189 => (if t189 = true then ((spec_l1In.f t185 1 100).bind fun t190 => (if t190 = true then (spec_ReadBank.j2 kj11 a0 y169 t172 t183 t185 t188 (t188 == 0)) else (spec_ReadBank.j2 kj11 a0 y169 t172 t183 t185 t188 true))) else (spec_ReadBank.j2 kj11 a0 y169 t172 t183 t185 t188 true)))) else (none)) else (none)) else (none))) else (none))) else (none)) = some (r1, r2, r3) := by rw [if_neg (show ¬ (false = true) by decide)] at H; exact H
     clear H
     have H := H1
     clear H1
     by_cases c29 : 1 < (t176.length : Int)
     rotate_left
     ·rw [if_neg c29] at H
      exact absurd H (by simp)
     rw [if_pos c29] at H
     have c29b0 := decide_eq_true c29
     have c29b1 : decide (1 < t176.length) = true := decide_eq_true (by omega)
     clear c29
     replace H := Option.bind_eq_some_iff.mp H
     obtain ⟨t183, A300, H⟩ := H
     replace H : (if 2 < (t176.length : Int) then ((spec_l14Whole.f kj11 (rdOf ByteArray.empty t176 2)).bind fun t185 => (if 3 < (t176.length : Int) then (if 0 ≤ (wrap64 (((rdOf ByteArray.empty t176 3).size : Int) - 1)) then (if (wrap64 (((rdOf ByteArray.empty t176 3).size : Int) - 1)) ≤ ((rdOf ByteArray.empty t176 3).size : Int) then ((spec_l14Money.f kj11 ((rdOf ByteArray.empty t176 3).extract 0 ((wrap64 (((rdOf ByteArray.empty t176 3).size : Int) - 1)) : Int).toNat)).bind fun t188 => ((spec_l2Day.f t183).bind fun t189 => (if t189 = true then ((spec_l1In.f t185 1 100).bind fun t190 => (if t190 = true then (spec_ReadBank.j2 kj11 a0 y169 t172 t183 t185 t188 (t188 == 0)) else (spec_ReadBank.j2 kj11 a0 y169 t172 t183 t185 t188 true))) else (spec_ReadBank.j2 kj11 a0 y169 t172 t183 t185 t188 true)))) else (none)) else (none)) else (none))) else (none)) = some (r1, r2, r3) := H
     have A30 := Aside0.mk A300
     clear A300
     by_cases c31 : 2 < (t176.length : Int)
     rotate_left
     ·rw [if_neg c31] at H
      exact absurd H (by simp)
     rw [if_pos c31] at H
     have c31b0 := decide_eq_true c31
     have c31b1 : decide (2 < t176.length) = true := decide_eq_true (by omega)
     clear c31
     replace H := Option.bind_eq_some_iff.mp H
     obtain ⟨t185, A320, H⟩ := H
     replace H : (if 3 < (t176.length : Int) then (if 0 ≤ (wrap64 (((rdOf ByteArray.empty t176 3).size : Int) - 1)) then (if (wrap64 (((rdOf ByteArray.empty t176 3).size : Int) - 1)) ≤ ((rdOf ByteArray.empty t176 3).size : Int) then ((spec_l14Money.f kj11 ((rdOf ByteArray.empty t176 3).extract 0 ((wrap64 (((rdOf ByteArray.empty t176 3).size : Int) - 1)) : Int).toNat)).bind fun t188 => ((spec_l2Day.f t183).bind fun t189 => (if t189 = true then ((spec_l1In.f t185 1 100).bind fun t190 => (if t190 = true then (spec_ReadBank.j2 kj11 a0 y169 t172 t183 t185 t188 (t188 == 0)) else (spec_ReadBank.j2 kj11 a0 y169 t172 t183 t185 t188 true))) else (spec_ReadBank.j2 kj11 a0 y169 t172 t183 t185 t188 true)))) else (none)) else (none)) else (none)) = some (r1, r2, r3) := H
     have A32 := Aside0.mk A320
     clear A320
     by_cases c33 : 3 < (t176.length : Int)
     rotate_left
     ·rw [if_neg c33] at H
      exact absurd H (by simp)
     rw [if_pos c33] at H
     have c33b0 := decide_eq_true c33
     have c33b1 : decide (3 < t176.length) = true := decide_eq_true (by omega)
     clear c33
     obtain ⟨ji34, hji34⟩ : ∃ j_ : Int, (wrap64 (((rdOf ByteArray.empty t176 3).size : Int) - 1)) = j_ := ⟨_, rfl⟩
     replace H : (if 0 ≤ (ji34) then (if (ji34) ≤ ((rdOf ByteArray.empty t176 3).size : Int) then ((spec_l14Money.f kj11 ((rdOf ByteArray.empty t176 3).extract 0 ((ji34) : Int).toNat)).bind fun t188 => ((spec_l2Day.f t183).bind fun t189 => (if t189 = true then ((spec_l1In.f t185 1 100).bind fun t190 => (if t190 = true then (spec_ReadBank.j2 kj11 a0 y169 t172 t183 t185 t188 (t188 == 0)) else (spec_ReadBank.j2 kj11 a0 y169 t172 t183 t185 t188 true))) else (spec_ReadBank.j2 kj11 a0 y169 t172 t183 t185 t188 true)))) else (none)) else (none)) = some (r1, r2, r3) := by first | (rw [hji34] at H; exact H) | (simp only [hji34] at H ⊢; exact H)
     (try rw [hji34] at A30)
     (try rw [hji34] at A32)
     have hji34w : (IntKind.i64.wrap (((rdOf ByteArray.empty t176 3).size : Int) - 1)) = ji34 := (i64_w _).trans hji34
     by_cases c35 : 0 ≤ (ji34)
     rotate_left
     ·rw [if_neg c35] at H
      exact absurd H (by simp)
     rw [if_pos c35] at H
     have c35b0 := eq_true c35
     have c35b1 := decide_eq_true c35
     clear c35
     by_cases c36 : (ji34) ≤ ((rdOf ByteArray.empty t176 3).size : Int)
     rotate_left
     ·rw [if_neg c36] at H
      exact absurd H (by simp)
     rw [if_pos c36] at H
     have c36b0 := eq_true c36
     have c36b1 := decide_eq_true c36
     clear c36
     replace H := Option.bind_eq_some_iff.mp H
     obtain ⟨t188, A370, H⟩ := H
     replace H : ((spec_l2Day.f t183).bind fun t189 => (if t189 = true then ((spec_l1In.f t185 1 100).bind fun t190 => (if t190 = true then (spec_ReadBank.j2 kj11 a0 y169 t172 t183 t185 t188 (t188 == 0)) else (spec_ReadBank.j2 kj11 a0 y169 t172 t183 t185 t188 true))) else (spec_ReadBank.j2 kj11 a0 y169 t172 t183 t185 t188 true))) = some (r1, r2, r3) := H
     have A37 := Aside0.mk A370
     clear A370
     have HC38 := Aside0.mk H
     clear H
     obtain ⟨Ao39, co39, eo39⟩ := Kd.R_slice HO_7.out
     subst eo39
     have p182 : 0 ≤ (1 : Int) := (by omega)
     have q182 : 1 < (t176.length : Int) := of_decide_eq_true tZE
     obtain ⟨ad182, e182, hx182_0⟩ := Kd.at_string (Kd.R_reads' HO_7.out).2.2 1 p182 q182
     cases e182
     (try simp only [show (1 : Int).toNat = 1 from rfl, Nat.reduceMul, Nat.reduceEqDiff, Go.Addr.add, ↓reduceIte] at hx182_0)
     have qi182 : (1 < t176.length) = True := eq_true (by omega)
     (try rw [show ((1 : Int)).toNat = 1 from rfl] at hx182_0)
     replace p182 := eq_true p182
     replace q182 := eq_true q182
     try go_wp2_with (first | ((with_reducible refine gate_callee (f := 120) rfl ?_); refine goesL_ (some 56) rfl rfl Try.func120 kZ rfl #[.string (rdOf ByteArray.empty t176 1)] rfl tZA ?_; (with_reducible refine (spec_l14Whole.calls kj11 (rdOf ByteArray.empty t176 1) t183 _ A30.out).mono ?_); rintro e w40 ⟨rfl, hb⟩; refine ⟨_, rfl, ?_⟩; replace HO_5 := aZ (Kd.R_below (lZR HO_5.out) hb); replace HO_6 := aZ (Kd.R_below (lZR HO_6.out) hb); replace HO_7 := aZ (Kd.R_below (lZR HO_7.out) hb); replace HB := aZ (below_step (lZB HB.out) hb); (try clear hb); (try clear hb2); (try clear hk); (try clear hi); have p184 : 0 ≤ (2 : Int) := (by omega); have q184 : 2 < (t176.length : Int) := of_decide_eq_true tZE; obtain ⟨ad184, e184, hx184_0⟩ := Kd.at_string (Kd.R_reads' HO_7.out).2.2 2 p184 q184; obtain rfl : ad182 = ad184 := (by injection e184); (try simp only [show (2 : Int).toNat = 2 from rfl, Nat.reduceMul, Nat.reduceEqDiff, Go.Addr.add, ↓reduceIte] at hx184_0); have qi184 : (2 < t176.length) = True := eq_true (by omega); (try rw [show ((2 : Int)).toNat = 2 from rfl] at hx184_0); replace p184 := eq_true p184; replace q184 := eq_true q184) | ((with_reducible refine gate_callee (f := 120) rfl ?_); refine goesL_ (some 60) rfl rfl Try.func120 kZ rfl #[.string (rdOf ByteArray.empty t176 2)] rfl tZA ?_; (with_reducible refine (spec_l14Whole.calls kj11 (rdOf ByteArray.empty t176 2) t185 _ A32.out).mono ?_); rintro e w41 ⟨rfl, hb⟩; refine ⟨_, rfl, ?_⟩; replace HO_5 := aZ (Kd.R_below (lZR HO_5.out) hb); replace HO_6 := aZ (Kd.R_below (lZR HO_6.out) hb); replace HO_7 := aZ (Kd.R_below (lZR HO_7.out) hb); replace HB := aZ (below_step (lZB HB.out) hb); (try clear hb); (try clear hb2); (try clear hk); (try clear hi)))
     replace HO_5 := aZ (Kd.R_drew HO_5.out)
     replace HO_6 := aZ (Kd.R_drew HO_6.out)
     replace HO_7 := aZ (Kd.R_drew HO_7.out)
     replace HB := aZ (below_drew1 HB.out)
     have p186 : 0 ≤ (3 : Int) := (by omega)
     have q186 : 3 < (t176.length : Int) := of_decide_eq_true tZE
     obtain ⟨ad186, e186, hx186_0⟩ := Kd.at_string (Kd.R_reads' HO_7.out).2.2 3 p186 q186
     obtain rfl : ad182 = ad186 := (by injection e186)
     (try simp only [show (3 : Int).toNat = 3 from rfl, Nat.reduceMul, Nat.reduceEqDiff, Go.Addr.add, ↓reduceIte] at hx186_0)
     have qi186 : (3 < t176.length) = True := eq_true (by omega)
     (try rw [show ((3 : Int)).toNat = 3 from rfl] at hx186_0)
     replace p186 := eq_true p186
     replace q186 := eq_true q186
     have p187 : 0 ≤ (3 : Int) := (by omega)
     have q187 : 3 < (t176.length : Int) := of_decide_eq_true tZE
     obtain ⟨ad187, e187, hx187_0⟩ := Kd.at_string (Kd.R_reads' HO_7.out).2.2 3 p187 q187
     obtain rfl : ad182 = ad187 := (by injection e187)
     (try simp only [show (3 : Int).toNat = 3 from rfl, Nat.reduceMul, Nat.reduceEqDiff, Go.Addr.add, ↓reduceIte] at hx187_0)
     have qi187 : (3 < t176.length) = True := eq_true (by omega)
     (try rw [show ((3 : Int)).toNat = 3 from rfl] at hx187_0)
     replace p187 := eq_true p187
     replace q187 := eq_true q187
     refine start_ (n := 11) (S := fun w' => w'.cell? ⟨ad182.block, ad182.off + 3, none⟩ = some (.string (rdOf ByteArray.empty t176 3)) ∧ w'.cell? ⟨ad182.block, ad182.off + 3, none⟩ = some (.string (rdOf ByteArray.empty t176 3))) (ds := []) L24' kZ rfl rfl ⟨hx186_0, hx187_0⟩ (fun hHeld => ?_); refine with_tabW spec_ReadBank.tab10 spec_ReadBank.bits10 (fun HT_ HW_ => ?_)
     generalize w41.drew = w42 at HO_5 HO_6 HO_7 HB hx186_0 hx187_0 hHeld ⊢
     refine pure_ (i := 0) (N := some 61) (v := ?_) (a' := ?_) L25' rfl rfl (any_of HT_.out kZ) (fun _ _ _ h => h) (Or.inl ⟨by rfl, ?_⟩) ?_ ?_
     rotate_left
     ·intro w'
      go_simp
      with_reducible rfl
     rotate_left
     ·simp only [Act.put, sZ1, sZ2, sZ3, i64_w, i32_w]
      rfl
     refine pure_ (i := 1) (N := some 62) (v := ?_) (a' := ?_) L26' rfl rfl (any_of HT_.out kZ) (fun _ _ _ h => h) (Or.inl ⟨by rfl, ?_⟩) ?_ ?_
     rotate_left
     ·intro w'
      go_simp
      with_reducible rfl
     rotate_left
     ·simp only [Act.put, sZ1, sZ2, sZ3, i64_w, i32_w]
      rfl
     refine pure_ (i := 3) (N := some 64) (v := ?_) (a' := ?_) L27' rfl rfl (any_of HT_.out kZ) (fun _ _ _ h => h) (Or.inl ⟨by rfl, ?_⟩) ?_ ?_
     rotate_left
     ·intro w'
      go_simp
      with_reducible rfl
     rotate_left
     ·simp only [Act.put, sZ1, sZ2, sZ3, i64_w, i32_w]
      rfl
     refine pure_ (i := 4) (N := some 65) (v := ?_) (a' := ?_) L28' rfl rfl (any_of HT_.out kZ) (fun _ _ _ h => h) (Or.inl ⟨by rfl, ?_⟩) ?_ ?_
     rotate_left
     ·intro w'
      go_simp
      with_reducible rfl
     rotate_left
     ·simp only [Act.put, sZ1, sZ2, sZ3, i64_w, i32_w]
      rfl
     refine take_ (i := 2) (N := some 63) (v := ?_) (a' := ?_) L29' rfl rfl (take_ofW HT_.out HW_.out kZ) (fun _ _ _ h => h) (Or.inl ⟨by rfl, ?_⟩) hHeld ?_ ?_
     rotate_left
     ·rintro w' ⟨s0, s1⟩
      go_simp
      with_reducible rfl
     rotate_left
     ·simp only [Act.put, sZ1, sZ2, sZ3, i64_w, i32_w]
      rfl
     refine take_ (i := 5) (N := some 66) (v := ?_) (a' := ?_) L30' rfl rfl (take_ofW HT_.out HW_.out kZ) (fun _ _ _ h => h) (Or.inl ⟨by rfl, ?_⟩) hHeld ?_ ?_
     rotate_left
     ·rintro w' ⟨s0, s1⟩
      go_simp
      with_reducible rfl
     rotate_left
     ·simp only [Act.put, sZ1, sZ2, sZ3, i64_w, i32_w]
      rfl
     refine pure_ (i := 6) (N := some 67) (v := ?_) (a' := ?_) L31' rfl rfl (any_of HT_.out kZ) (fun _ _ _ h => h) (Or.inl ⟨by rfl, ?_⟩) ?_ ?_
     rotate_left
     ·intro w'
      go_simp
      with_reducible rfl
     rotate_left
     ·simp only [Act.put, sZ1, sZ2, sZ3, i64_w, i32_w]
      rfl
     refine pure_ (i := 7) (N := some 68) (v := ?_) (a' := ?_) L32' rfl rfl (any_of HT_.out kZ) (fun _ _ _ h => h) (Or.inl ⟨by rfl, ?_⟩) ?_ ?_
     rotate_left
     ·intro w'
      go_simp
      with_reducible rfl
     rotate_left
     ·simp only [Act.put, sZ1, sZ2, sZ3, i64_w, i32_w]
      rfl
     refine pure_ (i := 8) (N := some 69) (v := ?_) (a' := ?_) L33' rfl rfl (any_of HT_.out kZ) (fun _ _ _ h => h) (Or.inl ⟨by rfl, ?_⟩) ?_ ?_
     rotate_left
     ·intro w'
      go_simp
      with_reducible rfl
     rotate_left
     ·simp only [Act.put, sZ1, sZ2, sZ3, i64_w, i32_w]
      rfl
     refine one_ (i := 9) (N := some 70) L34' rfl rfl (one_of HT_.out kZ) (by decide) (fun K hK => ?_)
     refine goes_ Try.func121 kZ rfl #[.string ((rdOf ByteArray.empty t176 3).extract 0 ((ji34) : Int).toNat)] (by rfl) rfl rfl (by (try simp only [List.map_toArray, List.map_cons, List.map_nil]); first | done | (simp only [hji34]; rfl) | rfl | (simp only [List.length_drop, List.length_take]; rfl)) ?_
     with_reducible refine (spec_l14Money.calls kj11 ((rdOf ByteArray.empty t176 3).extract 0 ((ji34) : Int).toNat) t188 _ A37.out).mono ?_
     rintro e w43 ⟨rfl, hb⟩
     have HS0_ := (hb.cell (World.block_lt_of_cell? _ _ (hHeld.1))).trans (hHeld.1)
     have HS1_ := (hb.cell (World.block_lt_of_cell? _ _ (hHeld.2))).trans (hHeld.2)
     refine ⟨_, rfl, ?_⟩
     replace HO_5 := aZ (Kd.R_below (lZR HO_5.out) hb)
     replace HO_6 := aZ (Kd.R_below (lZR HO_6.out) hb)
     replace HO_7 := aZ (Kd.R_below (lZR HO_7.out) hb)
     replace HB := aZ (below_step (lZB HB.out) hb)
     (try clear hb)
     (try clear hb2)
     (try clear hk)
     (try clear hi)
     refine hK.out _ _ ⟨HS0_, HS1_⟩ (fun hHeld => ?_)
     clear hK K
     refine norm_ (a' := ?_) ?_ ?_
     rotate_left
     ·show Act.put _ (some 70) _ = _
      simp only [Act.put, sZ1, sZ2, sZ3, i64_w, i32_w]
      rfl
     refine pure_ (i := 10) (N := some 10) (v := ?_) (a' := ?_) L35' rfl rfl (any_of HT_.out kZ) (fun _ _ _ h => h) (Or.inl ⟨by rfl, ?_⟩) ?_ ?_
     rotate_left
     ·intro w'
      go_simp
      with_reducible rfl
     rotate_left
     ·simp only [Act.put, sZ1, sZ2, sZ3, i64_w, i32_w]
      rfl
     refine done_ (done_of HT_.out kZ) ?_
     go_upto_region 11 with (fail)
     go_cut [82] (fun v82 wc => ∃ (kq : Nat) (x82_37 : Bool), v82 = .bool x82_37 ∧ Aside0 (spec_ReadBank.j2 kq a0 y169 t172 t183 t185 t188 x82_37 = some (r1, r2, r3)) ∧ Aside0 (kq ≤ kj11) ∧ Aside0 (Kd.R k174 174 wc w.heap.size (fun _ => True) v170 y169) ∧ Aside0 (Kd.R Kd.string 9 wc w.heap.size (fun _ => True) (.slice (some ad175) t172.length co13) t172) ∧ Aside0 (Below w.heap.size w wc))
     case first =>
      have H := HC38.out
      clear HC38
      replace H := Option.bind_eq_some_iff.mp H
      obtain ⟨t189, A440, H⟩ := H
      replace H : (if t189 = true then ((spec_l1In.f t185 1 100).bind fun t190 => (if t190 = true then (spec_ReadBank.j2 kj11 a0 y169 t172 t183 t185 t188 (t188 == 0)) else (spec_ReadBank.j2 kj11 a0 y169 t172 t183 t185 t188 true))) else (spec_ReadBank.j2 kj11 a0 y169 t172 t183 t185 t188 true)) = some (r1, r2, r3) := H
      have A44 := Aside0.mk A440
      clear A440
      by_cases c45 : t189 = true
      rotate_left
      ·replace c45 := Bool.eq_false_iff.mpr c45
       subst c45
       have H1 : (spec_ReadBank.j2 kj11 a0 y169 t172 t183 t185 t188 true) = some (r1, r2, r3) := by rw [if_neg (show ¬ (false = true) by decide)] at H; exact H
       clear H
       have H := H1
       clear H1
       have H' := Aside0.mk H
       clear H
       go_wp2_with (first | ((with_reducible refine gate_callee (f := 81) rfl ?_); refine goesL_ (some 72) rfl rfl Try.func81 kZ rfl #[.int .i64 t183] rfl tZA ?_; (with_reducible refine (spec_l2Day.calls t183 false _ A44.out).mono ?_); rintro e w' ⟨rfl, ⟨nd, rfl⟩⟩; refine ⟨_, rfl, ?_⟩))
       go_meet
       case rel => exact ⟨_, (true), tZB, H', ⟨by have := HJ2.out; have := HJ11.out; first | omega | exact Nat.le_refl _⟩, ⟨lZR HO_5.out⟩, ⟨by (with_reducible repeat (first | apply Kd.R_alloc | apply Kd.R_drewN | apply Kd.R_drew)); exact Kd.R_mono HO_6.out (fun _ hk => trivial)⟩, ⟨bZ⟩⟩
      subst c45
      have H1 : ((spec_l1In.f t185 1 100).bind fun t190 => (if t190 = true then (spec_ReadBank.j2 kj11 a0 y169 t172 t183 t185 t188 (t188 == 0)) else (spec_ReadBank.j2 kj11 a0 y169 t172 t183 t185 t188 true))) = some (r1, r2, r3) := by rw [if_pos rfl] at H; exact H
      clear H
      have H := H1
      clear H1
      replace H := Option.bind_eq_some_iff.mp H
      obtain ⟨t190, A460, H⟩ := H
      replace H : (if t190 = true then (spec_ReadBank.j2 kj11 a0 y169 t172 t183 t185 t188 (t188 == 0)) else (spec_ReadBank.j2 kj11 a0 y169 t172 t183 t185 t188 true)) = some (r1, r2, r3) := H
      have A46 := Aside0.mk A460
      clear A460
      by_cases c47 : t190 = true
      ·subst c47
       have H1 : (spec_ReadBank.j2 kj11 a0 y169 t172 t183 t185 t188 (t188 == 0)) = some (r1, r2, r3) := by rw [if_pos rfl] at H; exact H
       clear H
       have H := H1
       clear H1
       have H' := Aside0.mk H
       clear H
       go_wp2_with (first | ((with_reducible refine gate_callee (f := 81) rfl ?_); refine goesL_ (some 72) rfl rfl Try.func81 kZ rfl #[.int .i64 t183] rfl tZA ?_; (with_reducible refine (spec_l2Day.calls t183 true _ A44.out).mono ?_); rintro e w' ⟨rfl, ⟨nd, rfl⟩⟩; refine ⟨_, rfl, ?_⟩) | (go_at_call 67; (with_reducible refine (spec_l1In.calls t185 1 100 true _ A46.out).mono ?_); rintro e w' ⟨rfl, ⟨nd, rfl⟩⟩))
       go_meet
       case rel => exact ⟨_, ((t188 == 0)), tZB, H', ⟨by have := HJ2.out; have := HJ11.out; first | omega | exact Nat.le_refl _⟩, ⟨lZR HO_5.out⟩, ⟨by (with_reducible repeat (first | apply Kd.R_alloc | apply Kd.R_drewN | apply Kd.R_drew)); exact Kd.R_mono HO_6.out (fun _ hk => trivial)⟩, ⟨bZ⟩⟩
      replace c47 := Bool.eq_false_iff.mpr c47
      subst c47
      have H1 : (spec_ReadBank.j2 kj11 a0 y169 t172 t183 t185 t188 true) = some (r1, r2, r3) := by rw [if_neg (show ¬ (false = true) by decide)] at H; exact H
      clear H
      have H := H1
      clear H1
      have H' := Aside0.mk H
      clear H
      go_wp2_with (first | ((with_reducible refine gate_callee (f := 81) rfl ?_); refine goesL_ (some 72) rfl rfl Try.func81 kZ rfl #[.int .i64 t183] rfl tZA ?_; (with_reducible refine (spec_l2Day.calls t183 true _ A44.out).mono ?_); rintro e w' ⟨rfl, ⟨nd, rfl⟩⟩; refine ⟨_, rfl, ?_⟩) | (go_at_call 67; (with_reducible refine (spec_l1In.calls t185 1 100 false _ A46.out).mono ?_); rintro e w' ⟨rfl, ⟨nd, rfl⟩⟩))
      go_meet
      case rel => exact ⟨_, (true), tZB, H', ⟨by have := HJ2.out; have := HJ11.out; first | omega | exact Nat.le_refl _⟩, ⟨lZR HO_5.out⟩, ⟨by (with_reducible repeat (first | apply Kd.R_alloc | apply Kd.R_drewN | apply Kd.R_drew)); exact Kd.R_mono HO_6.out (fun _ hk => trivial)⟩, ⟨bZ⟩⟩
     case rest =>
      clear HC38
      try clear c1
      try clear p1
      try clear q1
      try clear hx1
      try clear qi1
      try clear c2
      try clear p2
      try clear q2
      try clear hx2
      try clear c3
      try clear c4
      try clear p6
      try clear c8
      try clear c9
      try clear c10
      try clear c10b0
      try clear c10b1
      try clear c11
      try clear c12
      try clear c15
      try clear c15b0
      try clear c15b1
      try clear c16
      try clear c16b0
      try clear c16b1
      try clear c17
      try clear c17b0
      try clear c17b1
      try clear p17
      try clear q17
      try clear hx17
      try clear qi17
      try clear p18
      try clear q18
      try clear hx18
      try clear qi18
      try clear c19
      try clear c19b0
      try clear c20
      try clear c20b0
      try clear p21
      try clear q21
      try clear hx21
      try clear c28
      try clear c29
      try clear c29b0
      try clear c29b1
      try clear c31
      try clear c31b0
      try clear c31b1
      try clear c33
      try clear c33b0
      try clear c33b1
      try clear c35
      try clear c35b0
      try clear c35b1
      try clear c36
      try clear c36b0
      try clear c36b1
      try clear c45
      try clear c47
      try clear hx175_0
      try clear hx179_0
      try clear hx180_0
      try clear hx181_0
      try clear hx182_0
      try clear hx184_0
      try clear hx186_0
      try clear hx187_0
      try clear p1
      try clear p17
      try clear p175
      try clear p179
      try clear p18
      try clear p180
      try clear p181
      try clear p182
      try clear p184
      try clear p186
      try clear p187
      try clear p2
      try clear p21
      try clear p6
      try clear q1
      try clear q17
      try clear q175
      try clear q179
      try clear q18
      try clear q180
      try clear q181
      try clear q182
      try clear q184
      try clear q186
      try clear q187
      try clear q2
      try clear q21
      obtain ⟨kq, x82_37, rfl, HA, HJ37, HO_5, HO_6, HB⟩ := hcut
      cases kq with
      | zero => exact absurd HA.out (by simp [spec_ReadBank.j2])
      | succ kj37 =>
       have H := HA.out
       clear HA
       simp only [spec_ReadBank.j2] at H
       by_cases c48 : x82_37 = true
       ·subst c48
        have H1 : (some (y169, 0, 1)) = some (r1, r2, r3) := by rw [if_pos rfl] at H; exact H
        clear H
        have H := H1
        clear H1
        simp only [Option.some.injEq, Prod.mk.injEq] at H
        obtain ⟨rfl, rfl, rfl⟩ := H
        go_wp2
        go_ret3
        exact ⟨_, by first | rfl | (simp [errW_none, errW_some] <;> rfl) | (simp only [← hji34]; first | rfl | (simp [errW_none, errW_some] <;> rfl)) | (simp [*, errW_none, errW_some] <;> rfl), lZR HO_5.out, bZ⟩
       replace c48 := Bool.eq_false_iff.mpr c48
       subst c48
       have H1 : (spec_ReadBank.l0 kj37 a0 y169 t172 t183 t185 t188 (([] : List (S174))) 1) = some (r1, r2, r3) := by rw [if_neg (show ¬ (false = true) by decide)] at H; exact H
       clear H
       have H := H1
       clear H1
       obtain ⟨y191, hy191⟩ : ∃ y_ : List (S174), y_ = (([] : List (S174))) := ⟨_, rfl⟩
       replace H : (spec_ReadBank.l0 kj37 a0 y169 t172 t183 t185 t188 y191 1) = some (r1, r2, r3) := by first | (rw [hy191]; with_reducible exact H) | (have H2_ := (Option.bind_some _ _).symm.trans H; rw [hy191]; with_reducible exact H2_) | (have H2_ := (Option.bind_some _ _).symm.trans H; with_reducible exact H2_) | with_reducible exact H | (rw [hy191]; exact H) | exact H
       have Ny191 := Aside0.mk hy191
       clear hy191
       have H' := Aside0.mk H
       clear H
       go_wp2_with (first | ((with_reducible refine gate_dst (N := 84) rfl ?_); (try (refine gate_guard (by rfl) ?_; dsimp only)); refine Kd.R_lit k174 _ 174 ?hg (N := 84) ?hd (xs := ([] : List (S174))) (inner := []) (ok := fun _ => True) (okp := fun _ => True) ?hr ?hp (fun _ hk => hk) trivial (Below.refl _ _) (Nat.le_refl _) (by simp) ?_; (case hd => rfl); (case hg => rfl); (case hr => first | (go_simp; done) | (go_simp; rfl)); (case hp => exact (Reps.none _ _)); intro v192 w49 ho50 hb hg_ hnew_; clear hg_ hnew_; (first | rw [← Ny191.out] at ho50 | (simp only [Int.reduceToNat] at ho50; rw [← Ny191.out] at ho50)); replace HO_6 := aZ (Kd.R_below (lZR HO_6.out) hb); have HO193 := aZ (Kd.R_lower (Kd.R_new' ho50 (Kd.R_lt (lZR HO_5.out))) (below_size (lZB HB.out))); replace HO_5 := aZ (Kd.R_elder' (lZR HO_5.out) (Kd.R_base ho50) hb); replace HB := aZ (below_step (lZB HB.out) hb); clear hb ho50))
       go_loopg [11, 12] kj37 (fun kq v11 v12 w' => ∃ (x11_4 : List (S174)) (x12_4 : Int), v12 = .int .i64 x12_4 ∧ Aside0 (spec_ReadBank.l0 kq a0 y169 t172 t183 t185 t188 x11_4 x12_4 = some (r1, r2, r3)) ∧ Aside0 (kq ≤ kj37) ∧ Aside0 (Kd.R k174 174 w' w.heap.size (fun k_ => some k_ ≠ (v11 : Value).ownBlock) v170 y169) ∧ Aside0 (Kd.R Kd.string 9 w' w.heap.size (fun _ => True) (.slice (some ad175) t172.length co13) t172) ∧ Aside0 (Kd.R k174 174 w' w.heap.size (fun k_ => some k_ ≠ (v170 : Value).ownBlock) v11 x11_4) ∧ Aside0 (Below w.heap.size w w'))
       case atStart => exact ⟨(y191), (1), tZB, H', ⟨Nat.le_refl _⟩, ⟨by (with_reducible repeat (first | apply Kd.R_alloc | apply Kd.R_drewN | apply Kd.R_drew)); exact Kd.R_mono HO_5.out (fun _ hk => hk.2)⟩, ⟨lZR HO_6.out⟩, ⟨by (with_reducible repeat (first | apply Kd.R_alloc | apply Kd.R_drewN | apply Kd.R_drew)); exact Kd.R_mono HO193.out (fun _ hk => hk.2)⟩, ⟨bZ⟩⟩
       case round =>
        clear H'
        try clear c1
        try clear p1
        try clear q1
        try clear hx1
        try clear qi1
        try clear c2
        try clear p2
        try clear q2
        try clear hx2
        try clear c3
        try clear c4
        try clear p6
        try clear c8
        try clear c9
        try clear c10
        try clear c10b0
        try clear c10b1
        try clear c11
        try clear c12
        try clear c15
        try clear c15b0
        try clear c15b1
        try clear c16
        try clear c16b0
        try clear c16b1
        try clear c17
        try clear c17b0
        try clear c17b1
        try clear p17
        try clear q17
        try clear hx17
        try clear qi17
        try clear p18
        try clear q18
        try clear hx18
        try clear qi18
        try clear c19
        try clear c19b0
        try clear c20
        try clear c20b0
        try clear p21
        try clear q21
        try clear hx21
        try clear c28
        try clear c29
        try clear c29b0
        try clear c29b1
        try clear c31
        try clear c31b0
        try clear c31b1
        try clear c33
        try clear c33b0
        try clear c33b1
        try clear c35
        try clear c35b0
        try clear c35b1
        try clear c36
        try clear c36b0
        try clear c36b1
        try clear c45
        try clear c47
        try clear c48
        try clear hx175_0
        try clear hx179_0
        try clear hx180_0
        try clear hx181_0
        try clear hx182_0
        try clear hx184_0
        try clear hx186_0
        try clear hx187_0
        try clear p1
        try clear p17
        try clear p175
        try clear p179
        try clear p18
        try clear p180
        try clear p181
        try clear p182
        try clear p184
        try clear p186
        try clear p187
        try clear p2
        try clear p21
        try clear p6
        try clear q1
        try clear q17
        try clear q175
        try clear q179
        try clear q18
        try clear q180
        try clear q181
        try clear q182
        try clear q184
        try clear q186
        try clear q187
        try clear q2
        try clear q21
        obtain ⟨x11_4, x12_4, rfl, HA, HK4, HO_5, HO_6, HO_11, HB⟩ := hrel
        cases gk with
        | zero => exact absurd HA.out (by simp [spec_ReadBank.l0])
        | succ k4 =>
         have H := HA.out
         clear HA
         simp only [spec_ReadBank.l0] at H
         by_cases c51 : x12_4 ≤ t185
         rotate_left
         ·rw [if_neg c51] at H
          have c51b0 := decide_eq_false c51
          clear c51
          replace H := Option.bind_eq_some_iff.mp H
          obtain ⟨t213, A1110, H⟩ := H
          replace H : (if t213 = t188 then ((spec_WriteBank.f k4 t183 x11_4).bind fun t214 => (if t214.toList = a0.toList then (some (x11_4, t183, 0)) else (some (y169, 0, 5)))) else (some (y169, 0, 4))) = some (r1, r2, r3) := H
          have A111 := Aside0.mk A1110
          clear A1110
          by_cases c112 : t213 = t188
          rotate_left
          ·rw [if_neg c112] at H
           have c112b0 : (t213 == t188) = false := beq_eq_false_iff_ne.mpr c112
           have c112b1 : (t213 != t188) = true := bne_iff_ne.mpr c112
           simp only [Option.some.injEq, Prod.mk.injEq] at H
           obtain ⟨rfl, rfl, rfl⟩ := H
           obtain ⟨Ao119, co119, eo119⟩ := Kd.R_slice HO_11.out
           subst eo119
           go_wp2_with (first | ((with_reducible refine gate_callee (f := 123) rfl ?_); refine goesL_ (some 166) rfl rfl Try.func123 kZ rfl #[.slice Ao119 x11_4.length co119] rfl tZA ?_; (with_reducible refine (spec_l14Sum.calls k4 _ _ x11_4 t213 _ ?side1 ?side2 A111.out).mono ?_); (case side1 => repeat (first | exact (Kd.R_reads' HO_11.out).2.2 | (with_reducible refine Kd.C_alloc ?_ _) | (with_reducible refine Kd.C_drewN ?_ _) | (with_reducible refine Kd.C_drew ?_))); (case side2 => exact (Kd.R_reads' HO_11.out).2.1); rintro e w' ⟨rfl, ⟨nd, rfl⟩⟩; refine ⟨_, rfl, ?_⟩))
           go_ret3
           exact ⟨_, by first | rfl | (simp [errW_none, errW_some] <;> rfl) | (simp only [← hji34]; first | rfl | (simp [errW_none, errW_some] <;> rfl)) | (simp [*, errW_none, errW_some] <;> rfl), by (with_reducible repeat (first | apply Kd.R_alloc | apply Kd.R_drewN | apply Kd.R_drew)); exact Kd.R_mono HO_5.out (fun _ hk => trivial), bZ⟩
          rw [if_pos c112] at H
          have c112b0 : (t213 == t188) = true := beq_iff_eq.mpr c112
          have c112b1 : (t213 != t188) = false := bne_eq_false_iff_eq.mpr c112
          clear c112
          replace H := Option.bind_eq_some_iff.mp H
          obtain ⟨t214, A1130, H⟩ := H
          replace H : (if t214.toList = a0.toList then (some (x11_4, t183, 0)) else (some (y169, 0, 5))) = some (r1, r2, r3) := H
          have A113 := Aside0.mk A1130
          clear A1130
          by_cases c114 : t214.toList = a0.toList
          rotate_left
          ·rw [if_neg c114] at H
           have c114b0 : (t214.toList == a0.toList) = false := beq_eq_false_iff_ne.mpr c114
           have c114b1 : (t214.toList != a0.toList) = true := bne_iff_ne.mpr c114
           simp only [Option.some.injEq, Prod.mk.injEq] at H
           obtain ⟨rfl, rfl, rfl⟩ := H
           obtain ⟨Ao117, co117, eo117⟩ := Kd.R_slice HO_11.out
           subst eo117
           go_wp2_with (first | ((with_reducible refine gate_callee (f := 123) rfl ?_); refine goesL_ (some 166) rfl rfl Try.func123 kZ rfl #[.slice Ao117 x11_4.length co117] rfl tZA ?_; (with_reducible refine (spec_l14Sum.calls k4 _ _ x11_4 t213 _ ?side1 ?side2 A111.out).mono ?_); (case side1 => repeat (first | exact (Kd.R_reads' HO_11.out).2.2 | (with_reducible refine Kd.C_alloc ?_ _) | (with_reducible refine Kd.C_drewN ?_ _) | (with_reducible refine Kd.C_drew ?_))); (case side2 => exact (Kd.R_reads' HO_11.out).2.1); rintro e w' ⟨rfl, ⟨nd, rfl⟩⟩; refine ⟨_, rfl, ?_⟩) | ((with_reducible refine gate_callee (f := 124) rfl ?_); refine goesL_ (some 172) rfl rfl Try.func124 kZ rfl #[.int .i64 t183, .slice Ao117 x11_4.length co117] rfl tZA ?_; (with_reducible refine (spec_WriteBank.calls k4 t183 _ _ x11_4 t214 _ ?side1 ?side2 A113.out).mono ?_); (case side1 => repeat (first | exact (Kd.R_reads' HO_11.out).2.2 | (with_reducible refine Kd.C_alloc ?_ _) | (with_reducible refine Kd.C_drewN ?_ _) | (with_reducible refine Kd.C_drew ?_))); (case side2 => exact (Kd.R_reads' HO_11.out).2.1); rintro e w118 ⟨rfl, hb⟩; refine ⟨_, rfl, ?_⟩; replace HO_5 := aZ (Kd.R_below (lZR HO_5.out) hb); replace HO_6 := aZ (Kd.R_below (lZR HO_6.out) hb); replace HO_11 := aZ (Kd.R_below (lZR HO_11.out) hb); replace HB := aZ (below_step (lZB HB.out) hb); (try clear hb); (try clear hb2); (try clear hk); (try clear hi)))
           go_ret3
           exact ⟨_, by first | rfl | (simp [errW_none, errW_some] <;> rfl) | (simp only [← hji34]; first | rfl | (simp [errW_none, errW_some] <;> rfl)) | (simp [*, errW_none, errW_some] <;> rfl), by (with_reducible repeat (first | apply Kd.R_alloc | apply Kd.R_drewN | apply Kd.R_drew)); exact Kd.R_mono HO_5.out (fun _ hk => trivial), bZ⟩
          rw [if_pos c114] at H
          have c114b0 : (t214.toList == a0.toList) = true := beq_iff_eq.mpr c114
          have c114b1 : (t214.toList != a0.toList) = false := bne_eq_false_iff_eq.mpr c114
          clear c114
          simp only [Option.some.injEq, Prod.mk.injEq] at H
          obtain ⟨rfl, rfl, rfl⟩ := H
          obtain ⟨Ao115, co115, eo115⟩ := Kd.R_slice HO_11.out
          subst eo115
          go_wp2_with (first | ((with_reducible refine gate_callee (f := 123) rfl ?_); refine goesL_ (some 166) rfl rfl Try.func123 kZ rfl #[.slice Ao115 x11_4.length co115] rfl tZA ?_; (with_reducible refine (spec_l14Sum.calls k4 _ _ x11_4 t213 _ ?side1 ?side2 A111.out).mono ?_); (case side1 => repeat (first | exact (Kd.R_reads' HO_11.out).2.2 | (with_reducible refine Kd.C_alloc ?_ _) | (with_reducible refine Kd.C_drewN ?_ _) | (with_reducible refine Kd.C_drew ?_))); (case side2 => exact (Kd.R_reads' HO_11.out).2.1); rintro e w' ⟨rfl, ⟨nd, rfl⟩⟩; refine ⟨_, rfl, ?_⟩) | ((with_reducible refine gate_callee (f := 124) rfl ?_); refine goesL_ (some 172) rfl rfl Try.func124 kZ rfl #[.int .i64 t183, .slice Ao115 x11_4.length co115] rfl tZA ?_; (with_reducible refine (spec_WriteBank.calls k4 t183 _ _ x11_4 t214 _ ?side1 ?side2 A113.out).mono ?_); (case side1 => repeat (first | exact (Kd.R_reads' HO_11.out).2.2 | (with_reducible refine Kd.C_alloc ?_ _) | (with_reducible refine Kd.C_drewN ?_ _) | (with_reducible refine Kd.C_drew ?_))); (case side2 => exact (Kd.R_reads' HO_11.out).2.1); rintro e w116 ⟨rfl, hb⟩; refine ⟨_, rfl, ?_⟩; replace HO_5 := aZ (Kd.R_below (lZR HO_5.out) hb); replace HO_6 := aZ (Kd.R_below (lZR HO_6.out) hb); replace HO_11 := aZ (Kd.R_below (lZR HO_11.out) hb); replace HB := aZ (below_step (lZB HB.out) hb); (try clear hb); (try clear hb2); (try clear hk); (try clear hi)))
          go_ret3
          exact ⟨_, by first | rfl | (simp [errW_none, errW_some] <;> rfl) | (simp only [← hji34]; first | rfl | (simp [errW_none, errW_some] <;> rfl)) | (simp [*, errW_none, errW_some] <;> rfl), by (with_reducible repeat (first | apply Kd.R_alloc | apply Kd.R_drewN | apply Kd.R_drew)); exact Kd.R_mono HO_11.out (fun _ hk => trivial), bZ⟩
         rw [if_pos c51] at H
         have c51b0 := decide_eq_true c51
         clear c51
         have HC52 := Aside0.mk H
         clear H
         go_upto_region 17 with (fail)
         go_cut [109] (fun v109 wc => ∃ (kq : Nat) (x109_51 : Bool), v109 = .bool x109_51 ∧ Aside0 (spec_ReadBank.j4 kq a0 y169 t172 t183 t185 t188 x11_4 x12_4 x109_51 = some (r1, r2, r3)) ∧ Aside0 (kq ≤ k4) ∧ Aside0 (Kd.R k174 174 wc w.heap.size (fun k_ => some k_ ≠ (u11 : Value).ownBlock) v170 y169) ∧ Aside0 (Kd.R Kd.string 9 wc w.heap.size (fun _ => True) (.slice (some ad175) t172.length co13) t172) ∧ Aside0 (Kd.R k174 174 wc w.heap.size (fun k_ => some k_ ≠ (v170 : Value).ownBlock) u11 x11_4) ∧ Aside0 (Below w.heap.size w wc))
         case first =>
          have H := HC52.out
          clear HC52
          by_cases c53 : x12_4 ≥ (t172.length : Int)
          ·rw [if_pos c53] at H
           have c53b0 : decide ((t172.length : Int) ≤ x12_4) = true := decide_eq_true c53
           clear c53
           (first | rw [c53b0] | (simp only [i64_w, i32_w]; rw [c53b0]) | skip)
           have H' := Aside0.mk H
           clear H
           go_wp2
           go_meet
           case rel => exact ⟨_, (true), tZB, H', ⟨by have := HJ2.out; have := HJ11.out; have := HJ37.out; have := HK4.out; first | omega | exact Nat.le_refl _⟩, ⟨lZR HO_5.out⟩, ⟨lZR HO_6.out⟩, ⟨lZR HO_11.out⟩, ⟨bZ⟩⟩
          rw [if_neg c53] at H
          have c53b0 : decide ((t172.length : Int) ≤ x12_4) = false := decide_eq_false c53
          clear c53
          (first | rw [c53b0] | (simp only [i64_w, i32_w]; rw [c53b0]) | skip)
          by_cases c54 : 0 ≤ x12_4
          rotate_left
          ·rw [if_neg c54] at H
           exact absurd H (by simp)
          rw [if_pos c54] at H
          have c54b0 := decide_eq_true c54
          clear c54
          by_cases c55 : x12_4 < (t172.length : Int)
          rotate_left
          ·rw [if_neg c55] at H
           exact absurd H (by simp)
          rw [if_pos c55] at H
          have c55b0 := decide_eq_true c55
          clear c55
          by_cases c56 : ((rdOf ByteArray.empty t172 x12_4).size : Int) > 1
          rotate_left
          ·rw [if_neg c56] at H
           have c56b0 : decide (1 < ((rdOf ByteArray.empty t172 x12_4).size : Int)) = false := decide_eq_false c56
           have c56b1 : decide (1 < (rdOf ByteArray.empty t172 x12_4).size) = false := decide_eq_false (by omega)
           clear c56
           have H' := Aside0.mk H
           clear H
           have p194 : 0 ≤ (x12_4 : Int) := of_decide_eq_true tZE
           have q194 : x12_4 < (t172.length : Int) := of_decide_eq_true tZE
           obtain ⟨ad194, e194, hx194_0⟩ := Kd.at_string (Kd.R_reads' HO_6.out).2.2 x12_4 p194 q194
           obtain rfl : ad175 = ad194 := (by injection e194)
           replace p194 := eq_true p194
           replace q194 := eq_true q194
           go_wp2
           go_meet
           case rel => exact ⟨_, (false), tZB, H', ⟨by have := HJ2.out; have := HJ11.out; have := HJ37.out; have := HK4.out; first | omega | exact Nat.le_refl _⟩, ⟨lZR HO_5.out⟩, ⟨lZR HO_6.out⟩, ⟨lZR HO_11.out⟩, ⟨bZ⟩⟩
          rw [if_pos c56] at H
          have c56b0 : decide (1 < ((rdOf ByteArray.empty t172 x12_4).size : Int)) = true := decide_eq_true c56
          have c56b1 : decide (1 < (rdOf ByteArray.empty t172 x12_4).size) = true := decide_eq_true (by omega)
          clear c56
          by_cases c57 : 0 ≤ 2
          rotate_left
          ·rw [if_neg c57] at H
           exact absurd H (by simp)
          rw [if_pos c57] at H
          have c57b0 := eq_true c57
          have c57b1 := decide_eq_true c57
          clear c57
          by_cases c58 : 2 ≤ ((rdOf ByteArray.empty t172 x12_4).size : Int)
          rotate_left
          ·rw [if_neg c58] at H
           exact absurd H (by simp)
          rw [if_pos c58] at H
          have c58b0 := eq_true c58
          have c58b1 := decide_eq_true c58
          clear c58
          have H' := Aside0.mk H
          clear H
          have p194 : 0 ≤ (x12_4 : Int) := of_decide_eq_true tZE
          have q194 : x12_4 < (t172.length : Int) := of_decide_eq_true tZE
          obtain ⟨ad194, e194, hx194_0⟩ := Kd.at_string (Kd.R_reads' HO_6.out).2.2 x12_4 p194 q194
          obtain rfl : ad175 = ad194 := (by injection e194)
          replace p194 := eq_true p194
          replace q194 := eq_true q194
          have p195 : 0 ≤ (x12_4 : Int) := of_decide_eq_true tZE
          have q195 : x12_4 < (t172.length : Int) := of_decide_eq_true tZE
          obtain ⟨ad195, e195, hx195_0⟩ := Kd.at_string (Kd.R_reads' HO_6.out).2.2 x12_4 p195 q195
          obtain rfl : ad175 = ad195 := (by injection e195)
          replace p195 := eq_true p195
          replace q195 := eq_true q195
          go_wp2
          go_meet
          case rel => exact ⟨_, ((((rdOf ByteArray.empty t172 x12_4).extract 0 2).toList == ([84, 124] : List UInt8))), tZB, H', ⟨by have := HJ2.out; have := HJ11.out; have := HJ37.out; have := HK4.out; first | omega | exact Nat.le_refl _⟩, ⟨lZR HO_5.out⟩, ⟨lZR HO_6.out⟩, ⟨lZR HO_11.out⟩, ⟨bZ⟩⟩
         case rest =>
          clear HC52
          try clear c1
          try clear p1
          try clear q1
          try clear hx1
          try clear qi1
          try clear c2
          try clear p2
          try clear q2
          try clear hx2
          try clear c3
          try clear c4
          try clear c5
          try clear p6
          try clear c8
          try clear c9
          try clear c10
          try clear c10b0
          try clear c10b1
          try clear c11
          try clear c12
          try clear c15
          try clear c15b0
          try clear c15b1
          try clear c16
          try clear c16b0
          try clear c16b1
          try clear c17
          try clear c17b0
          try clear c17b1
          try clear p17
          try clear q17
          try clear hx17
          try clear qi17
          try clear p18
          try clear q18
          try clear hx18
          try clear qi18
          try clear c19
          try clear c19b0
          try clear p19
          try clear q19
          try clear hx19
          try clear c20
          try clear c20b0
          try clear p21
          try clear q21
          try clear hx21
          try clear c28
          try clear c29
          try clear c29b0
          try clear c29b1
          try clear c31
          try clear c31b0
          try clear c31b1
          try clear c33
          try clear c33b0
          try clear c33b1
          try clear c35
          try clear c35b0
          try clear c35b1
          try clear c36
          try clear c36b0
          try clear c36b1
          try clear c45
          try clear c47
          try clear c48
          try clear c51
          try clear c51b0
          try clear c53
          try clear c53b0
          try clear c54
          try clear c54b0
          try clear c55
          try clear c55b0
          try clear c56
          try clear c56b0
          try clear c56b1
          try clear c57
          try clear c57b0
          try clear c57b1
          try clear c58
          try clear c58b0
          try clear c58b1
          try clear hx175_0
          try clear hx179_0
          try clear hx180_0
          try clear hx181_0
          try clear hx182_0
          try clear hx184_0
          try clear hx186_0
          try clear hx187_0
          try clear hx194_0
          try clear hx195_0
          try clear p1
          try clear p17
          try clear p175
          try clear p179
          try clear p18
          try clear p180
          try clear p181
          try clear p182
          try clear p184
          try clear p186
          try clear p187
          try clear p194
          try clear p195
          try clear p2
          try clear p21
          try clear p6
          try clear q1
          try clear q17
          try clear q175
          try clear q179
          try clear q18
          try clear q180
          try clear q181
          try clear q182
          try clear q184
          try clear q186
          try clear q187
          try clear q194
          try clear q195
          try clear q2
          try clear q21
          obtain ⟨kq, x109_51, rfl, HA, HJ51, HO_5, HO_6, HO_11, HB⟩ := hcut
          cases kq with
          | zero => exact absurd HA.out (by simp [spec_ReadBank.j4])
          | succ kj51 =>
           have H := HA.out
           clear HA
           simp only [spec_ReadBank.j4] at H
           by_cases c59 : x109_51 = true
           ·subst c59
            have H1 : (some (y169, 0, 3)) = some (r1, r2, r3) := by rw [if_pos rfl] at H; exact H
            clear H
            have H := H1
            clear H1
            simp only [Option.some.injEq, Prod.mk.injEq] at H
            obtain ⟨rfl, rfl, rfl⟩ := H
            go_wp2
            go_ret3
            exact ⟨_, by first | rfl | (simp [errW_none, errW_some] <;> rfl) | (simp only [← hji34]; first | rfl | (simp [errW_none, errW_some] <;> rfl)) | (simp [*, errW_none, errW_some] <;> rfl), by (with_reducible repeat (first | apply Kd.R_alloc | apply Kd.R_drewN | apply Kd.R_drew)); exact Kd.R_mono HO_5.out (fun _ hk => trivial), bZ⟩
           replace c59 := Bool.eq_false_iff.mpr c59
           subst c59
           have H1 : (if 0 ≤ x12_4 then (if x12_4 < (t172.length : Int) then ((spec_l11Split.f kj51 (rdOf ByteArray.empty t172 x12_4) (⟨#[124]⟩ : ByteArray)).bind fun t197 => (if (t197.length : Int) = 4 then (if 0 < (t197.length : Int) then (if (rdOf ByteArray.empty t197 0).toList = ([80] : List UInt8) then (if 0 ≤ (wrap64 (((rdOf ByteArray.empty t172 x12_4).size : Int) - 1)) then (if (wrap64 (((rdOf ByteArray.empty t172 x12_4).size : Int) - 1)) < ((rdOf ByteArray.empty t172 x12_4).size : Int) then (spec_ReadBank.j5 kj51 a0 y169 t172 t183 t185 t188 x11_4 x12_4 t197 ((bt (rdOf ByteArray.empty t172 x12_4) (wrap64 (((rdOf ByteArray.empty t172 x12_4).size : Int) - 1))) != 10)) else (none)) else (none)) else (spec_ReadBank.j5 kj51 a0 y169 t172 t183 t185 t188 x11_4 x12_4 t197 true)) else (none)) else (spec_ReadBank.j5 kj51 a0 y169 t172 t183 t185 t188 x11_4 x12_4 t197 true))) else (none)) else (none)) = some (r1, r2, r3) := by rw [if_neg (show ¬ (false = true) by decide)] at H; exact H
           clear H
           have H := H1
           clear H1
           by_cases c60 : 0 ≤ x12_4
           rotate_left
           ·rw [if_neg c60] at H
            exact absurd H (by simp)
           rw [if_pos c60] at H
           have c60b0 := decide_eq_true c60
           clear c60
           by_cases c61 : x12_4 < (t172.length : Int)
           rotate_left
           ·rw [if_neg c61] at H
            exact absurd H (by simp)
           rw [if_pos c61] at H
           have c61b0 := decide_eq_true c61
           clear c61
           replace H := Option.bind_eq_some_iff.mp H
           obtain ⟨t197, A620, H⟩ := H
           replace H : (if (t197.length : Int) = 4 then (if 0 < (t197.length : Int) then (if (rdOf ByteArray.empty t197 0).toList = ([80] : List UInt8) then (if 0 ≤ (wrap64 (((rdOf ByteArray.empty t172 x12_4).size : Int) - 1)) then (if (wrap64 (((rdOf ByteArray.empty t172 x12_4).size : Int) - 1)) < ((rdOf ByteArray.empty t172 x12_4).size : Int) then (spec_ReadBank.j5 kj51 a0 y169 t172 t183 t185 t188 x11_4 x12_4 t197 ((bt (rdOf ByteArray.empty t172 x12_4) (wrap64 (((rdOf ByteArray.empty t172 x12_4).size : Int) - 1))) != 10)) else (none)) else (none)) else (spec_ReadBank.j5 kj51 a0 y169 t172 t183 t185 t188 x11_4 x12_4 t197 true)) else (none)) else (spec_ReadBank.j5 kj51 a0 y169 t172 t183 t185 t188 x11_4 x12_4 t197 true)) = some (r1, r2, r3) := H
           have A62 := Aside0.mk A620
           clear A620
           have HC63 := Aside0.mk H
           clear H
           have p196 : 0 ≤ (x12_4 : Int) := of_decide_eq_true tZE
           have q196 : x12_4 < (t172.length : Int) := of_decide_eq_true tZE
           obtain ⟨ad196, e196, hx196_0⟩ := Kd.at_string (Kd.R_reads' HO_6.out).2.2 x12_4 p196 q196
           obtain rfl : ad175 = ad196 := (by injection e196)
           replace p196 := eq_true p196
           replace q196 := eq_true q196
           go_upto_region 20 with (first | ((with_reducible refine gate_callee (f := 119) rfl ?_); refine goesL_ (some 115) rfl rfl Try.func119 kZ rfl #[.string (rdOf ByteArray.empty t172 x12_4), .string (⟨#[124]⟩ : ByteArray)] rfl tZA ?_; (with_reducible refine (spec_l11Split.calls kj51 (rdOf ByteArray.empty t172 x12_4) (⟨#[124]⟩ : ByteArray) t197 _ A62.out).mono ?_); rintro e w64 ⟨v198, rfl, ho0, hb⟩; refine ⟨_, rfl, ?_⟩; replace HO_5 := aZ (Kd.R_below (lZR HO_5.out) hb); replace HO_11 := aZ (Kd.R_below (lZR HO_11.out) hb); have HO199 := aZ (Kd.R_lower (Kd.R_new' ho0 (Kd.R_lt (lZR HO_6.out))) (below_size (lZB HB.out))); replace HO_6 := aZ (Kd.R_elder' (lZR HO_6.out) (Kd.R_base ho0) hb); replace HB := aZ (below_step (lZB HB.out) hb); (try clear hb); (try clear hb2); (try clear hk); (try clear hi); (try clear ho0)))
           (try simp only [Act.put, sZ1, sZ2, sZ3])
           go_cut [138] (fun v138 wc => ∃ (kq : Nat) (x138_62 : Bool), v138 = .bool x138_62 ∧ Aside0 (spec_ReadBank.j5 kq a0 y169 t172 t183 t185 t188 x11_4 x12_4 t197 x138_62 = some (r1, r2, r3)) ∧ Aside0 (kq ≤ kj51) ∧ Aside0 (Kd.R k174 174 wc w.heap.size (fun k_ => some k_ ≠ (u11 : Value).ownBlock) v170 y169) ∧ Aside0 (Kd.R Kd.string 9 wc w.heap.size (fun k_ => some k_ ≠ (v198 : Value).ownBlock) (.slice (some ad175) t172.length co13) t172) ∧ Aside0 (Kd.R k174 174 wc w.heap.size (fun k_ => some k_ ≠ (v170 : Value).ownBlock) u11 x11_4) ∧ Aside0 (Kd.R Kd.string 9 wc w.heap.size (fun k_ => some k_ ≠ ((.slice (some ad175) t172.length co13) : Value).ownBlock) v198 t197) ∧ Aside0 (Below w.heap.size w wc))
           case first =>
            have H := HC63.out
            clear HC63
            by_cases c65 : (t197.length : Int) = 4
            rotate_left
            ·rw [if_neg c65] at H
             have c65b0 : ((t197.length : Int) == 4) = false := beq_eq_false_iff_ne.mpr c65
             have c65b1 : ((t197.length : Int) != 4) = true := bne_iff_ne.mpr c65
             (first | rw [c65b0] | (simp only [i64_w, i32_w]; rw [c65b0]) | skip)
             have H' := Aside0.mk H
             clear H
             try go_wp2
             replace HO_5 := aZ (Kd.R_drew HO_5.out)
             replace HO_6 := aZ (Kd.R_drew HO_6.out)
             replace HO_11 := aZ (Kd.R_drew HO_11.out)
             replace HO199 := aZ (Kd.R_drew HO199.out)
             replace HB := aZ (below_drew1 HB.out)
             obtain ⟨Ao77, co77, eo77⟩ := Kd.R_slice HO199.out
             (first | subst eo77 | (injection eo77 with f1_ f2_ f3_; have f4_ := f1_.symm; have f5_ := f3_.symm; clear f1_ f2_ f3_; subst f4_; subst f5_))
             refine start_ (n := 23) (S := fun w' => True) (ds := []) L36' kZ rfl rfl trivial (fun hHeld => ?_); refine with_tabW spec_ReadBank.tab20 spec_ReadBank.bits20 (fun HT_ HW_ => ?_)
             generalize w64.drew = w76 at HO_5 HO_6 HO_11 HO199 HB hHeld ⊢
             refine pure_ (i := 0) (N := some 116) (v := ?_) (a' := ?_) L37' rfl rfl (any_of HT_.out kZ) (fun _ _ _ h => h) (Or.inl ⟨by rfl, ?_⟩) ?_ ?_
             rotate_left
             ·intro w'
              go_simp
              with_reducible rfl
             rotate_left
             ·simp only [Act.put, sZ1, sZ2, sZ3, i64_w, i32_w]
              rfl
             refine pure_ (i := 1) (N := some 117) (v := ?_) (a' := ?_) L38' rfl rfl (any_of HT_.out kZ) (fun _ _ _ h => h) (Or.inl ⟨by rfl, ?_⟩) ?_ ?_
             rotate_left
             ·intro w'
              go_simp
              with_reducible rfl
             rotate_left
             ·simp only [Act.put, sZ1, sZ2, sZ3, i64_w, i32_w]
              rfl
             refine pure_ (i := 2) (N := some 118) (v := ?_) (a' := ?_) L39' rfl rfl (any_of HT_.out kZ) (fun _ _ _ h => h) (Or.inl ⟨by rfl, ?_⟩) ?_ ?_
             rotate_left
             ·intro w'
              go_simp
              with_reducible rfl
             rotate_left
             ·simp only [Act.put, sZ1, sZ2, sZ3, i64_w, i32_w]
              rfl
             refine pure_ (i := 3) (N := some 119) (v := ?_) (a' := ?_) L40' rfl rfl (any_of HT_.out kZ) (fun _ _ _ h => h) (Or.inl ⟨by rfl, ?_⟩) ?_ ?_
             rotate_left
             ·intro w'
              go_simp
              with_reducible rfl
             rotate_left
             ·simp only [Act.put, sZ1, sZ2, sZ3, i64_w, i32_w]
              rfl
             refine pure_ (i := 4) (N := some 120) (v := undef) (a' := ?_) L41' rfl rfl (any_of HT_.out kZ) (fun _ _ _ h => h) (Or.inr ⟨by rfl, rfl⟩) ?_ ?_
             rotate_left
             ·simp only [Act.put, sZ1, sZ2, sZ3, i64_w, i32_w]
              rfl
             refine pure_ (i := 5) (N := some 121) (v := undef) (a' := ?_) L42' rfl rfl (any_of HT_.out kZ) (fun _ _ _ h => h) (Or.inr ⟨by rfl, rfl⟩) ?_ ?_
             rotate_left
             ·simp only [Act.put, sZ1, sZ2, sZ3, i64_w, i32_w]
              rfl
             refine pure_ (i := 6) (N := some 122) (v := undef) (a' := ?_) L43' rfl rfl (any_of HT_.out kZ) (fun _ _ _ h => h) (Or.inr ⟨by rfl, rfl⟩) ?_ ?_
             rotate_left
             ·simp only [Act.put, sZ1, sZ2, sZ3, i64_w, i32_w]
              rfl
             refine pure_ (i := 7) (N := some 123) (v := undef) (a' := ?_) L44' rfl rfl (any_of HT_.out kZ) (fun _ _ _ h => h) (Or.inr ⟨by rfl, rfl⟩) ?_ ?_
             rotate_left
             ·simp only [Act.put, sZ1, sZ2, sZ3, i64_w, i32_w]
              rfl
             refine pure_ (i := 8) (N := some 124) (v := ?_) (a' := ?_) L45' rfl rfl (any_of HT_.out kZ) (fun _ _ _ h => h) (Or.inl ⟨by rfl, ?_⟩) ?_ ?_
             rotate_left
             ·intro w'
              go_simp
              with_reducible rfl
             rotate_left
             ·simp only [Act.put, sZ1, sZ2, sZ3, i64_w, i32_w]
              rfl
             refine pure_ (i := 9) (N := some 125) (v := ?_) (a' := ?_) L46' rfl rfl (any_of HT_.out kZ) (fun _ _ _ h => h) (Or.inl ⟨by rfl, ?_⟩) ?_ ?_
             rotate_left
             ·intro w'
              go_simp
              with_reducible rfl
             rotate_left
             ·simp only [Act.put, sZ1, sZ2, sZ3, i64_w, i32_w]
              rfl
             refine pure_ (i := 10) (N := some 126) (v := undef) (a' := ?_) L47' rfl rfl (any_of HT_.out kZ) (fun _ _ _ h => h) (Or.inr ⟨by rfl, rfl⟩) ?_ ?_
             rotate_left
             ·simp only [Act.put, sZ1, sZ2, sZ3, i64_w, i32_w]
              rfl
             refine pure_ (i := 11) (N := some 127) (v := undef) (a' := ?_) L48' rfl rfl (any_of HT_.out kZ) (fun _ _ _ h => h) (Or.inr ⟨by rfl, rfl⟩) ?_ ?_
             rotate_left
             ·simp only [Act.put, sZ1, sZ2, sZ3, i64_w, i32_w]
              rfl
             refine pure_ (i := 12) (N := some 128) (v := undef) (a' := ?_) L49' rfl rfl (any_of HT_.out kZ) (fun _ _ _ h => h) (Or.inr ⟨by rfl, rfl⟩) ?_ ?_
             rotate_left
             ·simp only [Act.put, sZ1, sZ2, sZ3, i64_w, i32_w]
              rfl
             refine pure_ (i := 13) (N := some 129) (v := undef) (a' := ?_) L50' rfl rfl (any_of HT_.out kZ) (fun _ _ _ h => h) (Or.inr ⟨by rfl, rfl⟩) ?_ ?_
             rotate_left
             ·simp only [Act.put, sZ1, sZ2, sZ3, i64_w, i32_w]
              rfl
             refine pure_ (i := 14) (N := some 130) (v := undef) (a' := ?_) L51' rfl rfl (any_of HT_.out kZ) (fun _ _ _ h => h) (Or.inr ⟨by rfl, rfl⟩) ?_ ?_
             rotate_left
             ·simp only [Act.put, sZ1, sZ2, sZ3, i64_w, i32_w]
              rfl
             refine pure_ (i := 15) (N := some 131) (v := undef) (a' := ?_) L52' rfl rfl (any_of HT_.out kZ) (fun _ _ _ h => h) (Or.inr ⟨by rfl, rfl⟩) ?_ ?_
             rotate_left
             ·simp only [Act.put, sZ1, sZ2, sZ3, i64_w, i32_w]
              rfl
             refine pure_ (i := 16) (N := some 132) (v := undef) (a' := ?_) L53' rfl rfl (any_of HT_.out kZ) (fun _ _ _ h => h) (Or.inr ⟨by rfl, rfl⟩) ?_ ?_
             rotate_left
             ·simp only [Act.put, sZ1, sZ2, sZ3, i64_w, i32_w]
              rfl
             refine pure_ (i := 17) (N := some 133) (v := undef) (a' := ?_) L54' rfl rfl (any_of HT_.out kZ) (fun _ _ _ h => h) (Or.inr ⟨by rfl, rfl⟩) ?_ ?_
             rotate_left
             ·simp only [Act.put, sZ1, sZ2, sZ3, i64_w, i32_w]
              rfl
             refine pure_ (i := 18) (N := some 134) (v := undef) (a' := ?_) L55' rfl rfl (any_of HT_.out kZ) (fun _ _ _ h => h) (Or.inr ⟨by rfl, rfl⟩) ?_ ?_
             rotate_left
             ·simp only [Act.put, sZ1, sZ2, sZ3, i64_w, i32_w]
              rfl
             refine pure_ (i := 19) (N := some 135) (v := undef) (a' := ?_) L56' rfl rfl (any_of HT_.out kZ) (fun _ _ _ h => h) (Or.inr ⟨by rfl, rfl⟩) ?_ ?_
             rotate_left
             ·simp only [Act.put, sZ1, sZ2, sZ3, i64_w, i32_w]
              rfl
             refine pure_ (i := 20) (N := some 136) (v := undef) (a' := ?_) L57' rfl rfl (any_of HT_.out kZ) (fun _ _ _ h => h) (Or.inr ⟨by rfl, rfl⟩) ?_ ?_
             rotate_left
             ·simp only [Act.put, sZ1, sZ2, sZ3, i64_w, i32_w]
              rfl
             refine pure_ (i := 21) (N := some 137) (v := undef) (a' := ?_) L58' rfl rfl (any_of HT_.out kZ) (fun _ _ _ h => h) (Or.inr ⟨by rfl, rfl⟩) ?_ ?_
             rotate_left
             ·simp only [Act.put, sZ1, sZ2, sZ3, i64_w, i32_w]
              rfl
             refine pure_ (i := 22) (N := some 138) (v := ?_) (a' := ?_) L59' rfl rfl (any_of HT_.out kZ) (fun _ _ _ h => h) (Or.inl ⟨by rfl, ?_⟩) ?_ ?_
             rotate_left
             ·intro w'
              go_simp
              with_reducible rfl
             rotate_left
             ·simp only [Act.put, sZ1, sZ2, sZ3, i64_w, i32_w]
              rfl
             refine done_ (done_of HT_.out kZ) ?_
             try go_wp2
             go_meet
             case rel => exact ⟨_, (true), tZB, H', ⟨by have := HJ2.out; have := HJ11.out; have := HJ37.out; have := HK4.out; have := HJ51.out; first | omega | exact Nat.le_refl _⟩, ⟨lZR HO_5.out⟩, ⟨by (with_reducible repeat (first | apply Kd.R_alloc | apply Kd.R_drewN | apply Kd.R_drew)); exact Kd.R_mono HO_6.out (fun _ hk => hk.2)⟩, ⟨lZR HO_11.out⟩, ⟨by (with_reducible repeat (first | apply Kd.R_alloc | apply Kd.R_drewN | apply Kd.R_drew)); exact Kd.R_mono HO199.out (fun _ hk => hk.2)⟩, ⟨bZ⟩⟩
            rw [if_pos c65] at H
            have c65b0 : ((t197.length : Int) == 4) = true := beq_iff_eq.mpr c65
            have c65b1 : ((t197.length : Int) != 4) = false := bne_eq_false_iff_eq.mpr c65
            clear c65
            (first | rw [c65b0] | (simp only [i64_w, i32_w]; rw [c65b0]) | skip)
            by_cases c66 : 0 < (t197.length : Int)
            rotate_left
            ·rw [if_neg c66] at H
             exact absurd H (by simp)
            rw [if_pos c66] at H
            have c66b0 := decide_eq_true c66
            have c66b1 : decide (0 < t197.length) = true := decide_eq_true (by omega)
            clear c66
            by_cases c67 : (rdOf ByteArray.empty t197 0).toList = ([80] : List UInt8)
            rotate_left
            ·rw [if_neg c67] at H
             have c67b0 : ((rdOf ByteArray.empty t197 0).toList == ([80] : List UInt8)) = false := beq_eq_false_iff_ne.mpr c67
             have c67b1 : ((rdOf ByteArray.empty t197 0).toList != ([80] : List UInt8)) = true := bne_iff_ne.mpr c67
             have H' := Aside0.mk H
             clear H
             try go_wp2
             replace HO_5 := aZ (Kd.R_drew HO_5.out)
             replace HO_6 := aZ (Kd.R_drew HO_6.out)
             replace HO_11 := aZ (Kd.R_drew HO_11.out)
             replace HO199 := aZ (Kd.R_drew HO199.out)
             replace HB := aZ (below_drew1 HB.out)
             obtain ⟨Ao75, co75, eo75⟩ := Kd.R_slice HO199.out
             (first | subst eo75 | (injection eo75 with f1_ f2_ f3_; have f4_ := f1_.symm; have f5_ := f3_.symm; clear f1_ f2_ f3_; subst f4_; subst f5_))
             have p200 : 0 ≤ (0 : Int) := (by omega)
             have q200 : 0 < (t197.length : Int) := of_decide_eq_true tZE
             obtain ⟨ad200, e200, hx200_0⟩ := Kd.at_string (Kd.R_reads' HO199.out).2.2 0 p200 q200
             cases e200
             have qi200 : (0 < t197.length) = True := eq_true (by omega)
             (try rw [show ((0 : Int)).toNat = 0 from rfl] at hx200_0)
             (try rw [Addr.add_zero'] at hx200_0)
             replace p200 := eq_true p200
             replace q200 := eq_true q200
             refine start_ (n := 23) (S := fun w' => w'.cell? ad200 = some (.string (rdOf ByteArray.empty t197 0))) (ds := []) L36' kZ rfl rfl (hx200_0) (fun hHeld => ?_); refine with_tabW spec_ReadBank.tab20 spec_ReadBank.bits20 (fun HT_ HW_ => ?_)
             generalize w64.drew = w74 at HO_5 HO_6 HO_11 HO199 HB hx200_0 hHeld ⊢
             refine pure_ (i := 0) (N := some 116) (v := ?_) (a' := ?_) L37' rfl rfl (any_of HT_.out kZ) (fun _ _ _ h => h) (Or.inl ⟨by rfl, ?_⟩) ?_ ?_
             rotate_left
             ·intro w'
              go_simp
              with_reducible rfl
             rotate_left
             ·simp only [Act.put, sZ1, sZ2, sZ3, i64_w, i32_w]
              rfl
             refine pure_ (i := 1) (N := some 117) (v := ?_) (a' := ?_) L38' rfl rfl (any_of HT_.out kZ) (fun _ _ _ h => h) (Or.inl ⟨by rfl, ?_⟩) ?_ ?_
             rotate_left
             ·intro w'
              go_simp
              with_reducible rfl
             rotate_left
             ·simp only [Act.put, sZ1, sZ2, sZ3, i64_w, i32_w]
              rfl
             refine pure_ (i := 2) (N := some 118) (v := ?_) (a' := ?_) L39' rfl rfl (any_of HT_.out kZ) (fun _ _ _ h => h) (Or.inl ⟨by rfl, ?_⟩) ?_ ?_
             rotate_left
             ·intro w'
              go_simp
              with_reducible rfl
             rotate_left
             ·simp only [Act.put, sZ1, sZ2, sZ3, i64_w, i32_w]
              rfl
             refine pure_ (i := 3) (N := some 119) (v := ?_) (a' := ?_) L40' rfl rfl (any_of HT_.out kZ) (fun _ _ _ h => h) (Or.inl ⟨by rfl, ?_⟩) ?_ ?_
             rotate_left
             ·intro w'
              go_simp
              with_reducible rfl
             rotate_left
             ·simp only [Act.put, sZ1, sZ2, sZ3, i64_w, i32_w]
              rfl
             refine pure_ (i := 4) (N := some 120) (v := ?_) (a' := ?_) L41' rfl rfl (any_of HT_.out kZ) (fun _ _ _ h => h) (Or.inl ⟨by rfl, ?_⟩) ?_ ?_
             rotate_left
             ·intro w'
              go_simp
              with_reducible rfl
             rotate_left
             ·simp only [Act.put, sZ1, sZ2, sZ3, i64_w, i32_w]
              rfl
             refine pure_ (i := 5) (N := some 121) (v := ?_) (a' := ?_) L42' rfl rfl (any_of HT_.out kZ) (fun _ _ _ h => h) (Or.inl ⟨by rfl, ?_⟩) ?_ ?_
             rotate_left
             ·intro w'
              go_simp
              with_reducible rfl
             rotate_left
             ·simp only [Act.put, sZ1, sZ2, sZ3, i64_w, i32_w]
              rfl
             refine take_ (i := 6) (N := some 122) (v := ?_) (a' := ?_) L43' rfl rfl (take_ofW HT_.out HW_.out kZ) (fun _ _ _ h => h) (Or.inl ⟨by rfl, ?_⟩) hHeld ?_ ?_
             rotate_left
             ·intro w' s0
              go_simp
              with_reducible rfl
             rotate_left
             ·simp only [Act.put, sZ1, sZ2, sZ3, i64_w, i32_w]
              rfl
             refine pure_ (i := 7) (N := some 123) (v := ?_) (a' := ?_) L44' rfl rfl (any_of HT_.out kZ) (fun _ _ _ h => h) (Or.inl ⟨by rfl, ?_⟩) ?_ ?_
             rotate_left
             ·intro w'
              go_simp
              with_reducible rfl
             rotate_left
             ·simp only [Act.put, sZ1, sZ2, sZ3, i64_w, i32_w]
              rfl
             refine pure_ (i := 8) (N := some 124) (v := ?_) (a' := ?_) L45' rfl rfl (any_of HT_.out kZ) (fun _ _ _ h => h) (Or.inl ⟨by rfl, ?_⟩) ?_ ?_
             rotate_left
             ·intro w'
              go_simp
              with_reducible rfl
             rotate_left
             ·simp only [Act.put, sZ1, sZ2, sZ3, i64_w, i32_w]
              rfl
             refine pure_ (i := 9) (N := some 125) (v := ?_) (a' := ?_) L46' rfl rfl (any_of HT_.out kZ) (fun _ _ _ h => h) (Or.inl ⟨by rfl, ?_⟩) ?_ ?_
             rotate_left
             ·intro w'
              go_simp
              with_reducible rfl
             rotate_left
             ·simp only [Act.put, sZ1, sZ2, sZ3, i64_w, i32_w]
              rfl
             refine pure_ (i := 10) (N := some 126) (v := undef) (a' := ?_) L47' rfl rfl (any_of HT_.out kZ) (fun _ _ _ h => h) (Or.inr ⟨by rfl, rfl⟩) ?_ ?_
             rotate_left
             ·simp only [Act.put, sZ1, sZ2, sZ3, i64_w, i32_w]
              rfl
             refine pure_ (i := 11) (N := some 127) (v := undef) (a' := ?_) L48' rfl rfl (any_of HT_.out kZ) (fun _ _ _ h => h) (Or.inr ⟨by rfl, rfl⟩) ?_ ?_
             rotate_left
             ·simp only [Act.put, sZ1, sZ2, sZ3, i64_w, i32_w]
              rfl
             refine pure_ (i := 12) (N := some 128) (v := undef) (a' := ?_) L49' rfl rfl (any_of HT_.out kZ) (fun _ _ _ h => h) (Or.inr ⟨by rfl, rfl⟩) ?_ ?_
             rotate_left
             ·simp only [Act.put, sZ1, sZ2, sZ3, i64_w, i32_w]
              rfl
             refine pure_ (i := 13) (N := some 129) (v := undef) (a' := ?_) L50' rfl rfl (any_of HT_.out kZ) (fun _ _ _ h => h) (Or.inr ⟨by rfl, rfl⟩) ?_ ?_
             rotate_left
             ·simp only [Act.put, sZ1, sZ2, sZ3, i64_w, i32_w]
              rfl
             refine pure_ (i := 14) (N := some 130) (v := undef) (a' := ?_) L51' rfl rfl (any_of HT_.out kZ) (fun _ _ _ h => h) (Or.inr ⟨by rfl, rfl⟩) ?_ ?_
             rotate_left
             ·simp only [Act.put, sZ1, sZ2, sZ3, i64_w, i32_w]
              rfl
             refine pure_ (i := 15) (N := some 131) (v := undef) (a' := ?_) L52' rfl rfl (any_of HT_.out kZ) (fun _ _ _ h => h) (Or.inr ⟨by rfl, rfl⟩) ?_ ?_
             rotate_left
             ·simp only [Act.put, sZ1, sZ2, sZ3, i64_w, i32_w]
              rfl
             refine pure_ (i := 16) (N := some 132) (v := undef) (a' := ?_) L53' rfl rfl (any_of HT_.out kZ) (fun _ _ _ h => h) (Or.inr ⟨by rfl, rfl⟩) ?_ ?_
             rotate_left
             ·simp only [Act.put, sZ1, sZ2, sZ3, i64_w, i32_w]
              rfl
             refine pure_ (i := 17) (N := some 133) (v := undef) (a' := ?_) L54' rfl rfl (any_of HT_.out kZ) (fun _ _ _ h => h) (Or.inr ⟨by rfl, rfl⟩) ?_ ?_
             rotate_left
             ·simp only [Act.put, sZ1, sZ2, sZ3, i64_w, i32_w]
              rfl
             refine pure_ (i := 18) (N := some 134) (v := undef) (a' := ?_) L55' rfl rfl (any_of HT_.out kZ) (fun _ _ _ h => h) (Or.inr ⟨by rfl, rfl⟩) ?_ ?_
             rotate_left
             ·simp only [Act.put, sZ1, sZ2, sZ3, i64_w, i32_w]
              rfl
             refine pure_ (i := 19) (N := some 135) (v := undef) (a' := ?_) L56' rfl rfl (any_of HT_.out kZ) (fun _ _ _ h => h) (Or.inr ⟨by rfl, rfl⟩) ?_ ?_
             rotate_left
             ·simp only [Act.put, sZ1, sZ2, sZ3, i64_w, i32_w]
              rfl
             refine pure_ (i := 20) (N := some 136) (v := undef) (a' := ?_) L57' rfl rfl (any_of HT_.out kZ) (fun _ _ _ h => h) (Or.inr ⟨by rfl, rfl⟩) ?_ ?_
             rotate_left
             ·simp only [Act.put, sZ1, sZ2, sZ3, i64_w, i32_w]
              rfl
             refine pure_ (i := 21) (N := some 137) (v := undef) (a' := ?_) L58' rfl rfl (any_of HT_.out kZ) (fun _ _ _ h => h) (Or.inr ⟨by rfl, rfl⟩) ?_ ?_
             rotate_left
             ·simp only [Act.put, sZ1, sZ2, sZ3, i64_w, i32_w]
              rfl
             refine pure_ (i := 22) (N := some 138) (v := ?_) (a' := ?_) L59' rfl rfl (any_of HT_.out kZ) (fun _ _ _ h => h) (Or.inl ⟨by rfl, ?_⟩) ?_ ?_
             rotate_left
             ·intro w'
              go_simp
              with_reducible rfl
             rotate_left
             ·simp only [Act.put, sZ1, sZ2, sZ3, i64_w, i32_w]
              rfl
             refine done_ (done_of HT_.out kZ) ?_
             try go_wp2
             go_meet
             case rel => exact ⟨_, (true), tZB, H', ⟨by have := HJ2.out; have := HJ11.out; have := HJ37.out; have := HK4.out; have := HJ51.out; first | omega | exact Nat.le_refl _⟩, ⟨lZR HO_5.out⟩, ⟨by (with_reducible repeat (first | apply Kd.R_alloc | apply Kd.R_drewN | apply Kd.R_drew)); exact Kd.R_mono HO_6.out (fun _ hk => hk.2)⟩, ⟨lZR HO_11.out⟩, ⟨by (with_reducible repeat (first | apply Kd.R_alloc | apply Kd.R_drewN | apply Kd.R_drew)); exact Kd.R_mono HO199.out (fun _ hk => hk.2)⟩, ⟨bZ⟩⟩
            rw [if_pos c67] at H
            have c67b0 : ((rdOf ByteArray.empty t197 0).toList == ([80] : List UInt8)) = true := beq_iff_eq.mpr c67
            have c67b1 : ((rdOf ByteArray.empty t197 0).toList != ([80] : List UInt8)) = false := bne_eq_false_iff_eq.mpr c67
            clear c67
            obtain ⟨ji68, hji68⟩ : ∃ j_ : Int, (wrap64 (((rdOf ByteArray.empty t172 x12_4).size : Int) - 1)) = j_ := ⟨_, rfl⟩
            replace H : (if 0 ≤ (ji68) then (if (ji68) < ((rdOf ByteArray.empty t172 x12_4).size : Int) then (spec_ReadBank.j5 kj51 a0 y169 t172 t183 t185 t188 x11_4 x12_4 t197 ((bt (rdOf ByteArray.empty t172 x12_4) (ji68)) != 10)) else (none)) else (none)) = some (r1, r2, r3) := by first | (rw [hji68] at H; exact H) | (simp only [hji68] at H ⊢; exact H)
            have hji68w : (IntKind.i64.wrap (((rdOf ByteArray.empty t172 x12_4).size : Int) - 1)) = ji68 := (i64_w _).trans hji68
            by_cases c69 : 0 ≤ (ji68)
            rotate_left
            ·rw [if_neg c69] at H
             exact absurd H (by simp)
            rw [if_pos c69] at H
            have c69b0 := decide_eq_true c69
            clear c69
            by_cases c70 : (ji68) < ((rdOf ByteArray.empty t172 x12_4).size : Int)
            rotate_left
            ·rw [if_neg c70] at H
             exact absurd H (by simp)
            rw [if_pos c70] at H
            have c70b0 := decide_eq_true c70
            clear c70
            have H' := Aside0.mk H
            clear H
            try go_wp2
            replace HO_5 := aZ (Kd.R_drew HO_5.out)
            replace HO_6 := aZ (Kd.R_drew HO_6.out)
            replace HO_11 := aZ (Kd.R_drew HO_11.out)
            replace HO199 := aZ (Kd.R_drew HO199.out)
            replace HB := aZ (below_drew1 HB.out)
            obtain ⟨Ao73, co73, eo73⟩ := Kd.R_slice HO199.out
            (first | subst eo73 | (injection eo73 with f1_ f2_ f3_; have f4_ := f1_.symm; have f5_ := f3_.symm; clear f1_ f2_ f3_; subst f4_; subst f5_))
            have p200 : 0 ≤ (0 : Int) := (by omega)
            have q200 : 0 < (t197.length : Int) := of_decide_eq_true tZE
            obtain ⟨ad200, e200, hx200_0⟩ := Kd.at_string (Kd.R_reads' HO199.out).2.2 0 p200 q200
            cases e200
            have qi200 : (0 < t197.length) = True := eq_true (by omega)
            (try rw [show ((0 : Int)).toNat = 0 from rfl] at hx200_0)
            (try rw [Addr.add_zero'] at hx200_0)
            replace p200 := eq_true p200
            replace q200 := eq_true q200
            have p201 : 0 ≤ (x12_4 : Int) := of_decide_eq_true tZE
            have q201 : x12_4 < (t172.length : Int) := of_decide_eq_true tZE
            obtain ⟨ad201, e201, hx201_0⟩ := Kd.at_string (Kd.R_reads' HO_6.out).2.2 x12_4 p201 q201
            obtain rfl : ad175 = ad201 := (by injection e201)
            replace p201 := eq_true p201
            replace q201 := eq_true q201
            have p202 : 0 ≤ (x12_4 : Int) := of_decide_eq_true tZE
            have q202 : x12_4 < (t172.length : Int) := of_decide_eq_true tZE
            obtain ⟨ad202, e202, hx202_0⟩ := Kd.at_string (Kd.R_reads' HO_6.out).2.2 x12_4 p202 q202
            obtain rfl : ad175 = ad202 := (by injection e202)
            replace p202 := eq_true p202
            replace q202 := eq_true q202
            have p71 : 0 ≤ ((ji68) : Int) := of_decide_eq_true tZE
            have q71 : (ji68) < ((rdOf ByteArray.empty t172 x12_4).size : Int) := of_decide_eq_true tZE
            have hx71 := bt_at (rdOf ByteArray.empty t172 x12_4) (ji68)
            replace p71 := eq_true p71
            replace q71 := eq_true q71
            refine start_ (n := 23) (S := fun w' => w'.cell? ad200 = some (.string (rdOf ByteArray.empty t197 0)) ∧ w'.cell? (ad175.add (x12_4).toNat) = some (.string (rdOf ByteArray.empty t172 x12_4)) ∧ w'.cell? (ad175.add (x12_4).toNat) = some (.string (rdOf ByteArray.empty t172 x12_4))) (ds := []) L36' kZ rfl rfl ⟨hx200_0, hx201_0, hx202_0⟩ (fun hHeld => ?_); refine with_tabW spec_ReadBank.tab20 spec_ReadBank.bits20 (fun HT_ HW_ => ?_)
            generalize w64.drew = w72 at HO_5 HO_6 HO_11 HO199 HB hx200_0 hx201_0 hx202_0 hHeld ⊢
            refine pure_ (i := 0) (N := some 116) (v := ?_) (a' := ?_) L37' rfl rfl (any_of HT_.out kZ) (fun _ _ _ h => h) (Or.inl ⟨by rfl, ?_⟩) ?_ ?_
            rotate_left
            ·intro w'
             go_simp
             with_reducible rfl
            rotate_left
            ·simp only [Act.put, sZ1, sZ2, sZ3, i64_w, i32_w]
             rfl
            refine pure_ (i := 1) (N := some 117) (v := ?_) (a' := ?_) L38' rfl rfl (any_of HT_.out kZ) (fun _ _ _ h => h) (Or.inl ⟨by rfl, ?_⟩) ?_ ?_
            rotate_left
            ·intro w'
             go_simp
             with_reducible rfl
            rotate_left
            ·simp only [Act.put, sZ1, sZ2, sZ3, i64_w, i32_w]
             rfl
            refine pure_ (i := 2) (N := some 118) (v := ?_) (a' := ?_) L39' rfl rfl (any_of HT_.out kZ) (fun _ _ _ h => h) (Or.inl ⟨by rfl, ?_⟩) ?_ ?_
            rotate_left
            ·intro w'
             go_simp
             with_reducible rfl
            rotate_left
            ·simp only [Act.put, sZ1, sZ2, sZ3, i64_w, i32_w]
             rfl
            refine pure_ (i := 3) (N := some 119) (v := ?_) (a' := ?_) L40' rfl rfl (any_of HT_.out kZ) (fun _ _ _ h => h) (Or.inl ⟨by rfl, ?_⟩) ?_ ?_
            rotate_left
            ·intro w'
             go_simp
             with_reducible rfl
            rotate_left
            ·simp only [Act.put, sZ1, sZ2, sZ3, i64_w, i32_w]
             rfl
            refine pure_ (i := 4) (N := some 120) (v := ?_) (a' := ?_) L41' rfl rfl (any_of HT_.out kZ) (fun _ _ _ h => h) (Or.inl ⟨by rfl, ?_⟩) ?_ ?_
            rotate_left
            ·intro w'
             go_simp
             with_reducible rfl
            rotate_left
            ·simp only [Act.put, sZ1, sZ2, sZ3, i64_w, i32_w]
             rfl
            refine pure_ (i := 5) (N := some 121) (v := ?_) (a' := ?_) L42' rfl rfl (any_of HT_.out kZ) (fun _ _ _ h => h) (Or.inl ⟨by rfl, ?_⟩) ?_ ?_
            rotate_left
            ·intro w'
             go_simp
             with_reducible rfl
            rotate_left
            ·simp only [Act.put, sZ1, sZ2, sZ3, i64_w, i32_w]
             rfl
            refine take_ (i := 6) (N := some 122) (v := ?_) (a' := ?_) L43' rfl rfl (take_ofW HT_.out HW_.out kZ) (fun _ _ _ h => h) (Or.inl ⟨by rfl, ?_⟩) hHeld ?_ ?_
            rotate_left
            ·rintro w' ⟨s0, s1, s2⟩
             go_simp
             with_reducible rfl
            rotate_left
            ·simp only [Act.put, sZ1, sZ2, sZ3, i64_w, i32_w]
             rfl
            refine pure_ (i := 7) (N := some 123) (v := ?_) (a' := ?_) L44' rfl rfl (any_of HT_.out kZ) (fun _ _ _ h => h) (Or.inl ⟨by rfl, ?_⟩) ?_ ?_
            rotate_left
            ·intro w'
             go_simp
             with_reducible rfl
            rotate_left
            ·simp only [Act.put, sZ1, sZ2, sZ3, i64_w, i32_w]
             rfl
            refine pure_ (i := 8) (N := some 124) (v := ?_) (a' := ?_) L45' rfl rfl (any_of HT_.out kZ) (fun _ _ _ h => h) (Or.inl ⟨by rfl, ?_⟩) ?_ ?_
            rotate_left
            ·intro w'
             go_simp
             with_reducible rfl
            rotate_left
            ·simp only [Act.put, sZ1, sZ2, sZ3, i64_w, i32_w]
             rfl
            refine pure_ (i := 9) (N := some 125) (v := ?_) (a' := ?_) L46' rfl rfl (any_of HT_.out kZ) (fun _ _ _ h => h) (Or.inl ⟨by rfl, ?_⟩) ?_ ?_
            rotate_left
            ·intro w'
             go_simp
             with_reducible rfl
            rotate_left
            ·simp only [Act.put, sZ1, sZ2, sZ3, i64_w, i32_w]
             rfl
            refine pure_ (i := 10) (N := some 126) (v := ?_) (a' := ?_) L47' rfl rfl (any_of HT_.out kZ) (fun _ _ _ h => h) (Or.inl ⟨by rfl, ?_⟩) ?_ ?_
            rotate_left
            ·intro w'
             go_simp
             with_reducible rfl
            rotate_left
            ·simp only [Act.put, sZ1, sZ2, sZ3, i64_w, i32_w]
             rfl
            refine pure_ (i := 11) (N := some 127) (v := ?_) (a' := ?_) L48' rfl rfl (any_of HT_.out kZ) (fun _ _ _ h => h) (Or.inl ⟨by rfl, ?_⟩) ?_ ?_
            rotate_left
            ·intro w'
             go_simp
             with_reducible rfl
            rotate_left
            ·simp only [Act.put, sZ1, sZ2, sZ3, i64_w, i32_w]
             rfl
            refine pure_ (i := 12) (N := some 128) (v := ?_) (a' := ?_) L49' rfl rfl (any_of HT_.out kZ) (fun _ _ _ h => h) (Or.inl ⟨by rfl, ?_⟩) ?_ ?_
            rotate_left
            ·intro w'
             go_simp
             with_reducible rfl
            rotate_left
            ·simp only [Act.put, sZ1, sZ2, sZ3, i64_w, i32_w]
             rfl
            refine pure_ (i := 14) (N := some 130) (v := ?_) (a' := ?_) L60' rfl rfl (any_of HT_.out kZ) (fun _ _ _ h => h) (Or.inl ⟨by rfl, ?_⟩) ?_ ?_
            rotate_left
            ·intro w'
             go_simp
             with_reducible rfl
            rotate_left
            ·simp only [Act.put, sZ1, sZ2, sZ3, i64_w, i32_w]
             rfl
            refine pure_ (i := 15) (N := some 131) (v := ?_) (a' := ?_) L61' rfl rfl (any_of HT_.out kZ) (fun _ _ _ h => h) (Or.inl ⟨by rfl, ?_⟩) ?_ ?_
            rotate_left
            ·intro w'
             go_simp
             with_reducible rfl
            rotate_left
            ·simp only [Act.put, sZ1, sZ2, sZ3, i64_w, i32_w]
             rfl
            refine pure_ (i := 16) (N := some 132) (v := ?_) (a' := ?_) L62' rfl rfl (any_of HT_.out kZ) (fun _ _ _ h => h) (Or.inl ⟨by rfl, ?_⟩) ?_ ?_
            rotate_left
            ·intro w'
             go_simp
             with_reducible rfl
            rotate_left
            ·simp only [Act.put, sZ1, sZ2, sZ3, i64_w, i32_w]
             rfl
            refine take_ (i := 13) (N := some 129) (v := ?_) (a' := ?_) L53' rfl rfl (take_ofW HT_.out HW_.out kZ) (fun _ _ _ h => h) (Or.inl ⟨by rfl, ?_⟩) hHeld ?_ ?_
            rotate_left
            ·rintro w' ⟨s0, s1, s2⟩
             go_simp
             with_reducible rfl
            rotate_left
            ·simp only [Act.put, sZ1, sZ2, sZ3, i64_w, i32_w]
             rfl
            refine take_ (i := 17) (N := some 133) (v := ?_) (a' := ?_) L54' rfl rfl (take_ofW HT_.out HW_.out kZ) (fun _ _ _ h => h) (Or.inl ⟨by rfl, ?_⟩) hHeld ?_ ?_
            rotate_left
            ·rintro w' ⟨s0, s1, s2⟩
             go_simp
             with_reducible rfl
            rotate_left
            ·simp only [Act.put, sZ1, sZ2, sZ3, i64_w, i32_w]
             rfl
            refine pure_ (i := 18) (N := some 134) (v := ?_) (a' := ?_) L55' rfl rfl (any_of HT_.out kZ) (fun _ _ _ h => h) (Or.inl ⟨by rfl, ?_⟩) ?_ ?_
            rotate_left
            ·intro w'
             go_simp
             with_reducible rfl
            rotate_left
            ·simp only [Act.put, sZ1, sZ2, sZ3, i64_w, i32_w]
             rfl
            refine pure_ (i := 19) (N := some 135) (v := ?_) (a' := ?_) L56' rfl rfl (any_of HT_.out kZ) (fun _ _ _ h => h) (Or.inl ⟨by rfl, ?_⟩) ?_ ?_
            rotate_left
            ·intro w'
             go_simp
             with_reducible rfl
            rotate_left
            ·simp only [Act.put, sZ1, sZ2, sZ3, i64_w, i32_w]
             rfl
            refine take_ (i := 20) (N := some 136) (v := ?_) (a' := ?_) L57' rfl rfl (take_ofW HT_.out HW_.out kZ) (fun _ _ _ h => h) (Or.inl ⟨by rfl, ?_⟩) hHeld ?_ ?_
            rotate_left
            ·rintro w' ⟨s0, s1, s2⟩
             go_simp
             with_reducible rfl
            rotate_left
            ·simp only [Act.put, sZ1, sZ2, sZ3, i64_w, i32_w]
             rfl
            refine pure_ (i := 21) (N := some 137) (v := ?_) (a' := ?_) L58' rfl rfl (any_of HT_.out kZ) (fun _ _ _ h => h) (Or.inl ⟨by rfl, ?_⟩) ?_ ?_
            rotate_left
            ·intro w'
             go_simp
             with_reducible rfl
            rotate_left
            ·simp only [Act.put, sZ1, sZ2, sZ3, i64_w, i32_w]
             rfl
            refine pure_ (i := 22) (N := some 138) (v := ?_) (a' := ?_) L59' rfl rfl (any_of HT_.out kZ) (fun _ _ _ h => h) (Or.inl ⟨by rfl, ?_⟩) ?_ ?_
            rotate_left
            ·intro w'
             go_simp
             with_reducible rfl
            rotate_left
            ·simp only [Act.put, sZ1, sZ2, sZ3, i64_w, i32_w]
             rfl
            refine done_ (done_of HT_.out kZ) ?_
            try go_wp2
            go_meet
            case rel => exact ⟨_, (((bt (rdOf ByteArray.empty t172 x12_4) (ji68)) != 10)), (by first | rfl | (simp; done) | (simp only [← hji68] <;> (first | rfl | simp)) | (simp [*]; done)), H', ⟨by have := HJ2.out; have := HJ11.out; have := HJ37.out; have := HK4.out; have := HJ51.out; first | omega | exact Nat.le_refl _⟩, ⟨lZR HO_5.out⟩, ⟨by (with_reducible repeat (first | apply Kd.R_alloc | apply Kd.R_drewN | apply Kd.R_drew)); exact Kd.R_mono HO_6.out (fun _ hk => hk.2)⟩, ⟨lZR HO_11.out⟩, ⟨by (with_reducible repeat (first | apply Kd.R_alloc | apply Kd.R_drewN | apply Kd.R_drew)); exact Kd.R_mono HO199.out (fun _ hk => hk.2)⟩, ⟨bZ⟩⟩
           case rest =>
            clear HC63
            try clear p2
            try clear q2
            try clear hx2
            try clear qi2
            try clear c6
            try clear p6
            try clear c7
            try clear p7
            try clear q7
            try clear hx7
            try clear p20
            try clear q20
            try clear hx20
            try clear qi20
            try clear p64
            try clear c65
            try clear c65b0
            try clear c65b1
            try clear c66
            try clear c66b0
            try clear c66b1
            try clear c67
            try clear c67b0
            try clear c67b1
            try clear c69
            try clear c69b0
            try clear c70
            try clear c70b0
            try clear p71
            try clear q71
            try clear hx71
            try clear hx200_0
            try clear hx201_0
            try clear hx202_0
            try clear p200
            try clear p201
            try clear p202
            try clear p71
            try clear q200
            try clear q201
            try clear q202
            try clear q71
            obtain ⟨kq, x138_62, rfl, HA, HJ62, HO_5, HO_6, HO_11, HO_13, HB⟩ := hcut
            cases kq with
            | zero => exact absurd HA.out (by simp [spec_ReadBank.j5])
            | succ kj62 =>
             have H := HA.out
             clear HA
             simp only [spec_ReadBank.j5] at H
             by_cases c78 : x138_62 = true
             ·subst c78
              have H1 : (some (y169, 0, 2)) = some (r1, r2, r3) := by rw [if_pos rfl] at H; exact H
              clear H
              have H := H1
              clear H1
              simp only [Option.some.injEq, Prod.mk.injEq] at H
              obtain ⟨rfl, rfl, rfl⟩ := H
              go_wp2
              go_ret3
              exact ⟨_, by first | rfl | (simp [errW_none, errW_some] <;> rfl) | (simp only [← hji34]; first | rfl | (simp [errW_none, errW_some] <;> rfl)) | (simp [*, errW_none, errW_some] <;> rfl), by (with_reducible repeat (first | apply Kd.R_alloc | apply Kd.R_drewN | apply Kd.R_drew)); exact Kd.R_mono HO_5.out (fun _ hk => trivial), bZ⟩
             replace c78 := Bool.eq_false_iff.mpr c78
             subst c78
             have H1 : (if 1 < (t197.length : Int) then (if 2 < (t197.length : Int) then (if 3 < (t197.length : Int) then (if 0 ≤ (wrap64 (((rdOf ByteArray.empty t197 3).size : Int) - 1)) then (if (wrap64 (((rdOf ByteArray.empty t197 3).size : Int) - 1)) ≤ ((rdOf ByteArray.empty t197 3).size : Int) then ((spec_l14Money.f kj62 ((rdOf ByteArray.empty t197 3).extract 0 ((wrap64 (((rdOf ByteArray.empty t197 3).size : Int) - 1)) : Int).toNat)).bind fun t207 => ((spec_l14Pay.f kj62 (rdOf ByteArray.empty t197 1) (rdOf ByteArray.empty t197 2) t207).bind fun t209 => (if t209 = true then (if x11_4.length < 3518437208883 then (spec_ReadBank.l0 kj62 a0 y169 t172 t183 t185 t188 (x11_4 ++ [(⟨rdOf ByteArray.empty t197 1, rdOf ByteArray.empty t197 2, t207⟩ : S174)]) (wrap64 (x12_4 + 1))) else (none)) else (some (y169, 0, 2))))) else (none)) else (none)) else (none)) else (none)) else (none)) = some (r1, r2, r3) := by rw [if_neg (show ¬ (false = true) by decide)] at H; exact H
             clear H
             have H := H1
             clear H1
             by_cases c79 : 1 < (t197.length : Int)
             rotate_left
             ·rw [if_neg c79] at H
              exact absurd H (by simp)
             rw [if_pos c79] at H
             have c79b0 := decide_eq_true c79
             have c79b1 : decide (1 < t197.length) = true := decide_eq_true (by omega)
             clear c79
             by_cases c80 : 2 < (t197.length : Int)
             rotate_left
             ·rw [if_neg c80] at H
              exact absurd H (by simp)
             rw [if_pos c80] at H
             have c80b0 := decide_eq_true c80
             have c80b1 : decide (2 < t197.length) = true := decide_eq_true (by omega)
             clear c80
             by_cases c81 : 3 < (t197.length : Int)
             rotate_left
             ·rw [if_neg c81] at H
              exact absurd H (by simp)
             rw [if_pos c81] at H
             have c81b0 := decide_eq_true c81
             have c81b1 : decide (3 < t197.length) = true := decide_eq_true (by omega)
             clear c81
             obtain ⟨ji82, hji82⟩ : ∃ j_ : Int, (wrap64 (((rdOf ByteArray.empty t197 3).size : Int) - 1)) = j_ := ⟨_, rfl⟩
             replace H : (if 0 ≤ (ji82) then (if (ji82) ≤ ((rdOf ByteArray.empty t197 3).size : Int) then ((spec_l14Money.f kj62 ((rdOf ByteArray.empty t197 3).extract 0 ((ji82) : Int).toNat)).bind fun t207 => ((spec_l14Pay.f kj62 (rdOf ByteArray.empty t197 1) (rdOf ByteArray.empty t197 2) t207).bind fun t209 => (if t209 = true then (if x11_4.length < 3518437208883 then (spec_ReadBank.l0 kj62 a0 y169 t172 t183 t185 t188 (x11_4 ++ [(⟨rdOf ByteArray.empty t197 1, rdOf ByteArray.empty t197 2, t207⟩ : S174)]) (wrap64 (x12_4 + 1))) else (none)) else (some (y169, 0, 2))))) else (none)) else (none)) = some (r1, r2, r3) := by first | (rw [hji82] at H; exact H) | (simp only [hji82] at H ⊢; exact H)
             have hji82w : (IntKind.i64.wrap (((rdOf ByteArray.empty t197 3).size : Int) - 1)) = ji82 := (i64_w _).trans hji82
             by_cases c83 : 0 ≤ (ji82)
             rotate_left
             ·rw [if_neg c83] at H
              exact absurd H (by simp)
             rw [if_pos c83] at H
             have c83b0 := eq_true c83
             have c83b1 := decide_eq_true c83
             clear c83
             by_cases c84 : (ji82) ≤ ((rdOf ByteArray.empty t197 3).size : Int)
             rotate_left
             ·rw [if_neg c84] at H
              exact absurd H (by simp)
             rw [if_pos c84] at H
             have c84b0 := eq_true c84
             have c84b1 := decide_eq_true c84
             clear c84
             replace H := Option.bind_eq_some_iff.mp H
             obtain ⟨t207, A850, H⟩ := H
             replace H : ((spec_l14Pay.f kj62 (rdOf ByteArray.empty t197 1) (rdOf ByteArray.empty t197 2) t207).bind fun t209 => (if t209 = true then (if x11_4.length < 3518437208883 then (spec_ReadBank.l0 kj62 a0 y169 t172 t183 t185 t188 (x11_4 ++ [(⟨rdOf ByteArray.empty t197 1, rdOf ByteArray.empty t197 2, t207⟩ : S174)]) (wrap64 (x12_4 + 1))) else (none)) else (some (y169, 0, 2)))) = some (r1, r2, r3) := H
             have A85 := Aside0.mk A850
             clear A850
             replace H := Option.bind_eq_some_iff.mp H
             obtain ⟨t209, A860, H⟩ := H
             replace H : (if t209 = true then (if x11_4.length < 3518437208883 then (spec_ReadBank.l0 kj62 a0 y169 t172 t183 t185 t188 (x11_4 ++ [(⟨rdOf ByteArray.empty t197 1, rdOf ByteArray.empty t197 2, t207⟩ : S174)]) (wrap64 (x12_4 + 1))) else (none)) else (some (y169, 0, 2))) = some (r1, r2, r3) := H
             have A86 := Aside0.mk A860
             clear A860
             by_cases c87 : t209 = true
             rotate_left
             ·replace c87 := Bool.eq_false_iff.mpr c87
              subst c87
              have H1 : (some (y169, 0, 2)) = some (r1, r2, r3) := by rw [if_neg (show ¬ (false = true) by decide)] at H; exact H
              clear H
              have H := H1
              clear H1
              simp only [Option.some.injEq, Prod.mk.injEq] at H
              obtain ⟨rfl, rfl, rfl⟩ := H
              try go_wp2
              replace HO_5 := aZ (Kd.R_drew HO_5.out)
              replace HO_6 := aZ (Kd.R_drew HO_6.out)
              replace HO_11 := aZ (Kd.R_drew HO_11.out)
              replace HO_13 := aZ (Kd.R_drew HO_13.out)
              replace HB := aZ (below_drew1 HB.out)
              obtain ⟨Ao102, co102, eo102⟩ := Kd.R_slice HO_13.out
              (first | subst eo102 | (injection eo102 with f1_ f2_ f3_; have f4_ := f1_.symm; have f5_ := f3_.symm; clear f1_ f2_ f3_; subst f4_; subst f5_))
              have p203 : 0 ≤ (1 : Int) := (by omega)
              have q203 : 1 < (t197.length : Int) := of_decide_eq_true tZE
              obtain ⟨ad203, e203, hx203_0⟩ := Kd.at_string (Kd.R_reads' HO_13.out).2.2 1 p203 q203
              cases e203
              (try simp only [show (1 : Int).toNat = 1 from rfl, Nat.reduceMul, Nat.reduceEqDiff, Go.Addr.add, ↓reduceIte] at hx203_0)
              have qi203 : (1 < t197.length) = True := eq_true (by omega)
              (try rw [show ((1 : Int)).toNat = 1 from rfl] at hx203_0)
              replace p203 := eq_true p203
              replace q203 := eq_true q203
              have p204 : 0 ≤ (2 : Int) := (by omega)
              have q204 : 2 < (t197.length : Int) := of_decide_eq_true tZE
              obtain ⟨ad204, e204, hx204_0⟩ := Kd.at_string (Kd.R_reads' HO_13.out).2.2 2 p204 q204
              obtain rfl : ad203 = ad204 := (by injection e204)
              (try simp only [show (2 : Int).toNat = 2 from rfl, Nat.reduceMul, Nat.reduceEqDiff, Go.Addr.add, ↓reduceIte] at hx204_0)
              have qi204 : (2 < t197.length) = True := eq_true (by omega)
              (try rw [show ((2 : Int)).toNat = 2 from rfl] at hx204_0)
              replace p204 := eq_true p204
              replace q204 := eq_true q204
              have p205 : 0 ≤ (3 : Int) := (by omega)
              have q205 : 3 < (t197.length : Int) := of_decide_eq_true tZE
              obtain ⟨ad205, e205, hx205_0⟩ := Kd.at_string (Kd.R_reads' HO_13.out).2.2 3 p205 q205
              obtain rfl : ad203 = ad205 := (by injection e205)
              (try simp only [show (3 : Int).toNat = 3 from rfl, Nat.reduceMul, Nat.reduceEqDiff, Go.Addr.add, ↓reduceIte] at hx205_0)
              have qi205 : (3 < t197.length) = True := eq_true (by omega)
              (try rw [show ((3 : Int)).toNat = 3 from rfl] at hx205_0)
              replace p205 := eq_true p205
              replace q205 := eq_true q205
              have p206 : 0 ≤ (3 : Int) := (by omega)
              have q206 : 3 < (t197.length : Int) := of_decide_eq_true tZE
              obtain ⟨ad206, e206, hx206_0⟩ := Kd.at_string (Kd.R_reads' HO_13.out).2.2 3 p206 q206
              obtain rfl : ad203 = ad206 := (by injection e206)
              (try simp only [show (3 : Int).toNat = 3 from rfl, Nat.reduceMul, Nat.reduceEqDiff, Go.Addr.add, ↓reduceIte] at hx206_0)
              have qi206 : (3 < t197.length) = True := eq_true (by omega)
              (try rw [show ((3 : Int)).toNat = 3 from rfl] at hx206_0)
              replace p206 := eq_true p206
              replace q206 := eq_true q206
              refine start_ (n := 19) (S := fun w' => w'.cell? ⟨ad203.block, ad203.off + 1, none⟩ = some (.string (rdOf ByteArray.empty t197 1)) ∧ w'.cell? ⟨ad203.block, ad203.off + 2, none⟩ = some (.string (rdOf ByteArray.empty t197 2)) ∧ w'.cell? ⟨ad203.block, ad203.off + 3, none⟩ = some (.string (rdOf ByteArray.empty t197 3)) ∧ w'.cell? ⟨ad203.block, ad203.off + 3, none⟩ = some (.string (rdOf ByteArray.empty t197 3))) (ds := []) L63' kZ rfl rfl ⟨hx203_0, hx204_0, hx205_0, hx206_0⟩ (fun hHeld => ?_); refine with_tabW spec_ReadBank.tab22 spec_ReadBank.bits22 (fun HT_ HW_ => ?_)
              generalize wc.drew = w101 at HO_5 HO_6 HO_11 HO_13 HB hx203_0 hx204_0 hx205_0 hx206_0 hHeld ⊢
              refine pure_ (i := 0) (N := some 140) (v := ?_) (a' := ?_) L64' rfl rfl (any_of HT_.out kZ) (fun _ _ _ h => h) (Or.inl ⟨by rfl, ?_⟩) ?_ ?_
              rotate_left
              ·intro w'
               go_simp
               with_reducible rfl
              rotate_left
              ·simp only [Act.put, sZ1, sZ2, sZ3, i64_w, i32_w]
               rfl
              refine pure_ (i := 1) (N := some 141) (v := ?_) (a' := ?_) L65' rfl rfl (any_of HT_.out kZ) (fun _ _ _ h => h) (Or.inl ⟨by rfl, ?_⟩) ?_ ?_
              rotate_left
              ·intro w'
               go_simp
               with_reducible rfl
              rotate_left
              ·simp only [Act.put, sZ1, sZ2, sZ3, i64_w, i32_w]
               rfl
              refine pure_ (i := 3) (N := some 143) (v := ?_) (a' := ?_) L66' rfl rfl (any_of HT_.out kZ) (fun _ _ _ h => h) (Or.inl ⟨by rfl, ?_⟩) ?_ ?_
              rotate_left
              ·intro w'
               go_simp
               with_reducible rfl
              rotate_left
              ·simp only [Act.put, sZ1, sZ2, sZ3, i64_w, i32_w]
               rfl
              refine pure_ (i := 4) (N := some 144) (v := ?_) (a' := ?_) L67' rfl rfl (any_of HT_.out kZ) (fun _ _ _ h => h) (Or.inl ⟨by rfl, ?_⟩) ?_ ?_
              rotate_left
              ·intro w'
               go_simp
               with_reducible rfl
              rotate_left
              ·simp only [Act.put, sZ1, sZ2, sZ3, i64_w, i32_w]
               rfl
              refine pure_ (i := 6) (N := some 146) (v := ?_) (a' := ?_) L68' rfl rfl (any_of HT_.out kZ) (fun _ _ _ h => h) (Or.inl ⟨by rfl, ?_⟩) ?_ ?_
              rotate_left
              ·intro w'
               go_simp
               with_reducible rfl
              rotate_left
              ·simp only [Act.put, sZ1, sZ2, sZ3, i64_w, i32_w]
               rfl
              refine pure_ (i := 7) (N := some 147) (v := ?_) (a' := ?_) L69' rfl rfl (any_of HT_.out kZ) (fun _ _ _ h => h) (Or.inl ⟨by rfl, ?_⟩) ?_ ?_
              rotate_left
              ·intro w'
               go_simp
               with_reducible rfl
              rotate_left
              ·simp only [Act.put, sZ1, sZ2, sZ3, i64_w, i32_w]
               rfl
              refine pure_ (i := 9) (N := some 149) (v := ?_) (a' := ?_) L70' rfl rfl (any_of HT_.out kZ) (fun _ _ _ h => h) (Or.inl ⟨by rfl, ?_⟩) ?_ ?_
              rotate_left
              ·intro w'
               go_simp
               with_reducible rfl
              rotate_left
              ·simp only [Act.put, sZ1, sZ2, sZ3, i64_w, i32_w]
               rfl
              refine pure_ (i := 10) (N := some 150) (v := ?_) (a' := ?_) L71' rfl rfl (any_of HT_.out kZ) (fun _ _ _ h => h) (Or.inl ⟨by rfl, ?_⟩) ?_ ?_
              rotate_left
              ·intro w'
               go_simp
               with_reducible rfl
              rotate_left
              ·simp only [Act.put, sZ1, sZ2, sZ3, i64_w, i32_w]
               rfl
              refine take_ (i := 2) (N := some 142) (v := ?_) (a' := ?_) L72' rfl rfl (take_ofW HT_.out HW_.out kZ) (fun _ _ _ h => h) (Or.inl ⟨by rfl, ?_⟩) hHeld ?_ ?_
              rotate_left
              ·rintro w' ⟨s0, s1, s2, s3⟩
               go_simp
               with_reducible rfl
              rotate_left
              ·simp only [Act.put, sZ1, sZ2, sZ3, i64_w, i32_w]
               rfl
              refine take_ (i := 5) (N := some 145) (v := ?_) (a' := ?_) L73' rfl rfl (take_ofW HT_.out HW_.out kZ) (fun _ _ _ h => h) (Or.inl ⟨by rfl, ?_⟩) hHeld ?_ ?_
              rotate_left
              ·rintro w' ⟨s0, s1, s2, s3⟩
               go_simp
               with_reducible rfl
              rotate_left
              ·simp only [Act.put, sZ1, sZ2, sZ3, i64_w, i32_w]
               rfl
              refine take_ (i := 8) (N := some 148) (v := ?_) (a' := ?_) L74' rfl rfl (take_ofW HT_.out HW_.out kZ) (fun _ _ _ h => h) (Or.inl ⟨by rfl, ?_⟩) hHeld ?_ ?_
              rotate_left
              ·rintro w' ⟨s0, s1, s2, s3⟩
               go_simp
               with_reducible rfl
              rotate_left
              ·simp only [Act.put, sZ1, sZ2, sZ3, i64_w, i32_w]
               rfl
              refine take_ (i := 11) (N := some 151) (v := ?_) (a' := ?_) L75' rfl rfl (take_ofW HT_.out HW_.out kZ) (fun _ _ _ h => h) (Or.inl ⟨by rfl, ?_⟩) hHeld ?_ ?_
              rotate_left
              ·rintro w' ⟨s0, s1, s2, s3⟩
               go_simp
               with_reducible rfl
              rotate_left
              ·simp only [Act.put, sZ1, sZ2, sZ3, i64_w, i32_w]
               rfl
              refine pure_ (i := 12) (N := some 152) (v := ?_) (a' := ?_) L76' rfl rfl (any_of HT_.out kZ) (fun _ _ _ h => h) (Or.inl ⟨by rfl, ?_⟩) ?_ ?_
              rotate_left
              ·intro w'
               go_simp
               with_reducible rfl
              rotate_left
              ·simp only [Act.put, sZ1, sZ2, sZ3, i64_w, i32_w]
               rfl
              refine pure_ (i := 13) (N := some 153) (v := ?_) (a' := ?_) L77' rfl rfl (any_of HT_.out kZ) (fun _ _ _ h => h) (Or.inl ⟨by rfl, ?_⟩) ?_ ?_
              rotate_left
              ·intro w'
               go_simp
               with_reducible rfl
              rotate_left
              ·simp only [Act.put, sZ1, sZ2, sZ3, i64_w, i32_w]
               rfl
              refine pure_ (i := 14) (N := some 154) (v := ?_) (a' := ?_) L78' rfl rfl (any_of HT_.out kZ) (fun _ _ _ h => h) (Or.inl ⟨by rfl, ?_⟩) ?_ ?_
              rotate_left
              ·intro w'
               go_simp
               with_reducible rfl
              rotate_left
              ·simp only [Act.put, sZ1, sZ2, sZ3, i64_w, i32_w]
               rfl
              refine join_ (σ := Nat) 1 L79' (fun s_ => [(155, .int .i64 t207), (14, .pointer (some ⟨s_, 0, none⟩)), (156, .agg #[.string (rdOf ByteArray.empty t197 1), .string (rdOf ByteArray.empty t197 2), .int .i64 t207])]) (fun s_ w' => (w'.cell? ⟨ad203.block, ad203.off + 1, none⟩ = some (.string (rdOf ByteArray.empty t197 1)) ∧ w'.cell? ⟨ad203.block, ad203.off + 2, none⟩ = some (.string (rdOf ByteArray.empty t197 2)) ∧ w'.cell? ⟨ad203.block, ad203.off + 3, none⟩ = some (.string (rdOf ByteArray.empty t197 3)) ∧ w'.cell? ⟨ad203.block, ad203.off + 3, none⟩ = some (.string (rdOf ByteArray.empty t197 3))) ∧ (Kd.R k174 174 w' w.heap.size (fun k_ => some k_ ≠ (v170 : Value).ownBlock ∧ k_ ≠ s_) u11 x11_4) ∧ (Kd.R Kd.string 9 w' w.heap.size (fun k_ => some k_ ≠ (.slice (some ad175) t172.length co13 : Value).ownBlock) (.slice (some ad203) t197.length co102) t197) ∧ (Kd.R k174 174 w' w.heap.size (fun k_ => some k_ ≠ (u11 : Value).ownBlock ∧ k_ ≠ s_) v170 y169) ∧ (Kd.R Kd.string 9 w' w.heap.size (fun k_ => some k_ ≠ (.slice (some ad203) t197.length co102 : Value).ownBlock) (.slice (some ad175) t172.length co13) t172) ∧ (w'.heap[s_]? = some (.cells #[.string (⟨#[]⟩ : ByteArray), .string (⟨#[]⟩ : ByteArray), .int .i64 0] 174 (0, 0))) ∧ (w.heap.size ≤ s_) ∧ (w.heap.size ≤ s_) ∧ (Below w.heap.size w w')) ?_ ?_
              rotate_left
              ·intro hCont
               refine two_ (i := 15) (j := 17) (Ni := some 155) (Nj := some 14) L80' L81' rfl rfl rfl rfl (two_of HT_.out kZ) (by decide) (by decide) (fun K hK => ?_) (fun K hK => ?_)
               ·skip
                refine goes_ Try.func121 kZ rfl #[.string ((rdOf ByteArray.empty t197 3).extract 0 ((ji82) : Int).toNat)] (by rfl) rfl rfl (by (try simp only [List.map_toArray, List.map_cons, List.map_nil]); first | done | (simp only [hji82]; rfl) | rfl | (simp only [List.length_drop, List.length_take]; rfl)) ?_
                with_reducible refine (spec_l14Money.calls kj62 ((rdOf ByteArray.empty t197 3).extract 0 ((ji82) : Int).toNat) t207 _ A85.out).mono ?_
                rintro e w103 ⟨rfl, hb⟩
                have HS0_ := (hb.cell (World.block_lt_of_cell? _ _ (hHeld.1))).trans (hHeld.1)
                have HS1_ := (hb.cell (World.block_lt_of_cell? _ _ (hHeld.2.1))).trans (hHeld.2.1)
                have HS2_ := (hb.cell (World.block_lt_of_cell? _ _ (hHeld.2.2.1))).trans (hHeld.2.2.1)
                have HS3_ := (hb.cell (World.block_lt_of_cell? _ _ (hHeld.2.2.2))).trans (hHeld.2.2.2)
                refine ⟨_, rfl, ?_⟩
                replace HO_5 := aZ (Kd.R_below (lZR HO_5.out) hb)
                replace HO_6 := aZ (Kd.R_below (lZR HO_6.out) hb)
                replace HO_11 := aZ (Kd.R_below (lZR HO_11.out) hb)
                replace HO_13 := aZ (Kd.R_below (lZR HO_13.out) hb)
                replace HB := aZ (below_step (lZB HB.out) hb)
                (try clear hb)
                (try clear hb2)
                (try clear hk)
                (try clear hi)
                refine hK.out _ _ ⟨HS0_, HS1_, HS2_, HS3_⟩ (fun hHeld => ?_)
                clear hK K
                refine norm_ (a' := ?_) ?_ ?_
                rotate_left
                ·show Act.put _ (some 155) _ = _
                 simp only [Act.put, sZ1, sZ2, sZ3, i64_w, i32_w]
                 rfl
                refine pure_ (i := 16) (N := some 156) (v := ?_) (a' := ?_) L82' rfl rfl (any_of HT_.out kZ) (fun _ _ _ h => h) (Or.inl ⟨by rfl, ?_⟩) ?_ ?_
                rotate_left
                ·intro w'
                 go_simp
                 with_reducible rfl
                rotate_left
                ·simp only [Act.put, sZ1, sZ2, sZ3, i64_w, i32_w]
                 rfl
                refine one_ (i := 17) (N := some 14) L79' rfl rfl (one_of HT_.out kZ) (by decide) (fun K hK => ?_)
                refine box_step ?hg (N := 14) ?hd (cs := #[.string (⟨#[]⟩ : ByteArray), .string (⟨#[]⟩ : ByteArray), .int .i64 0]) (t := 174) ?hr ?_; (case hd => rfl); (case hg => rfl); (case hr => first | (go_simp; done) | (go_simp; rfl))
                intro gb208 hg w104 hbox hb
                have HS0_ := (hb.cell (World.block_lt_of_cell? _ _ (hHeld.1))).trans (hHeld.1)
                have HS1_ := (hb.cell (World.block_lt_of_cell? _ _ (hHeld.2.1))).trans (hHeld.2.1)
                have HS2_ := (hb.cell (World.block_lt_of_cell? _ _ (hHeld.2.2.1))).trans (hHeld.2.2.1)
                have HS3_ := (hb.cell (World.block_lt_of_cell? _ _ (hHeld.2.2.2))).trans (hHeld.2.2.2)
                replace HO_5 := aZ (Kd.R_below (Kd.R_elderB (lZR HO_5.out) gb208 (Nat.le_of_eq hg.symm)) hb)
                replace HO_6 := aZ (Kd.R_below (lZR HO_6.out) hb)
                replace HO_11 := aZ (Kd.R_below (Kd.R_elderB (lZR HO_11.out) gb208 (Nat.le_of_eq hg.symm)) hb)
                replace HO_13 := aZ (Kd.R_below (lZR HO_13.out) hb)
                have BK208 := aZ (hbox)
                have GW208 := aZ ((by rw [hg]; exact (below_size (lZB HB.out)) : w.heap.size ≤ gb208))
                have GE208 := aZ ((by rw [hg]; exact (below_size (lZB HB.out)) : w.heap.size ≤ gb208))
                replace HB := aZ (below_step (lZB HB.out) hb)
                clear hb hbox hg
                refine hK.out _ _ ⟨HS0_, HS1_, HS2_, HS3_⟩ (fun hHeld => ?_)
                clear hK K
                refine norm_ (a' := ?_) ?_ ?_
                rotate_left
                ·show Act.put _ (some 14) _ = _
                 simp only [Act.put, sZ1, sZ2, sZ3, i64_w, i32_w]
                 rfl
                exact norm_ (by simp only [putAll, Act.put, List.setIfInBounds_toArray, List.set_cons_zero, List.set_cons_succ]) (hCont (gb208) _ ⟨hHeld, (lZR HO_11.out), (lZR HO_13.out), (lZR HO_5.out), (lZR HO_6.out), (bkZ BK208.out), GW208.out, GE208.out, bZ⟩)
               skip
               refine box_step ?hg (N := 14) ?hd (cs := #[.string (⟨#[]⟩ : ByteArray), .string (⟨#[]⟩ : ByteArray), .int .i64 0]) (t := 174) ?hr ?_; (case hd => rfl); (case hg => rfl); (case hr => first | (go_simp; done) | (go_simp; rfl))
               intro gb208 hg w103 hbox hb
               have HS0_ := (hb.cell (World.block_lt_of_cell? _ _ (hHeld.1))).trans (hHeld.1)
               have HS1_ := (hb.cell (World.block_lt_of_cell? _ _ (hHeld.2.1))).trans (hHeld.2.1)
               have HS2_ := (hb.cell (World.block_lt_of_cell? _ _ (hHeld.2.2.1))).trans (hHeld.2.2.1)
               have HS3_ := (hb.cell (World.block_lt_of_cell? _ _ (hHeld.2.2.2))).trans (hHeld.2.2.2)
               replace HO_5 := aZ (Kd.R_below (Kd.R_elderB (lZR HO_5.out) gb208 (Nat.le_of_eq hg.symm)) hb)
               replace HO_6 := aZ (Kd.R_below (lZR HO_6.out) hb)
               replace HO_11 := aZ (Kd.R_below (Kd.R_elderB (lZR HO_11.out) gb208 (Nat.le_of_eq hg.symm)) hb)
               replace HO_13 := aZ (Kd.R_below (lZR HO_13.out) hb)
               have BK208 := aZ (hbox)
               have GW208 := aZ ((by rw [hg]; exact (below_size (lZB HB.out)) : w.heap.size ≤ gb208))
               have GE208 := aZ ((by rw [hg]; exact (below_size (lZB HB.out)) : w.heap.size ≤ gb208))
               replace HB := aZ (below_step (lZB HB.out) hb)
               clear hb hbox hg
               refine hK.out _ _ ⟨HS0_, HS1_, HS2_, HS3_⟩ (fun hHeld => ?_)
               clear hK K
               refine norm_ (a' := ?_) ?_ ?_
               rotate_left
               ·show Act.put _ (some 14) _ = _
                simp only [Act.put, sZ1, sZ2, sZ3, i64_w, i32_w]
                rfl
               refine one_ (i := 15) (N := some 155) L83' rfl rfl (one_of HT_.out kZ) (by decide) (fun K hK => ?_)
               refine goes_ Try.func121 kZ rfl #[.string ((rdOf ByteArray.empty t197 3).extract 0 ((ji82) : Int).toNat)] (by rfl) rfl rfl (by (try simp only [List.map_toArray, List.map_cons, List.map_nil]); first | done | (simp only [hji82]; rfl) | rfl | (simp only [List.length_drop, List.length_take]; rfl)) ?_
               with_reducible refine (spec_l14Money.calls kj62 ((rdOf ByteArray.empty t197 3).extract 0 ((ji82) : Int).toNat) t207 _ A85.out).mono ?_
               rintro e w104 ⟨rfl, hb⟩
               have HS0_ := (hb.cell (World.block_lt_of_cell? _ _ (hHeld.1))).trans (hHeld.1)
               have HS1_ := (hb.cell (World.block_lt_of_cell? _ _ (hHeld.2.1))).trans (hHeld.2.1)
               have HS2_ := (hb.cell (World.block_lt_of_cell? _ _ (hHeld.2.2.1))).trans (hHeld.2.2.1)
               have HS3_ := (hb.cell (World.block_lt_of_cell? _ _ (hHeld.2.2.2))).trans (hHeld.2.2.2)
               refine ⟨_, rfl, ?_⟩
               replace HO_5 := aZ (Kd.R_below (lZR HO_5.out) hb)
               replace HO_6 := aZ (Kd.R_below (lZR HO_6.out) hb)
               replace HO_11 := aZ (Kd.R_below (lZR HO_11.out) hb)
               replace HO_13 := aZ (Kd.R_below (lZR HO_13.out) hb)
               replace BK208 := aZ (blk_below (bkZ BK208.out) hb)
               replace HB := aZ (below_step bZ hb)
               (try clear hb)
               (try clear hb2)
               (try clear hk)
               (try clear hi)
               refine hK.out _ _ ⟨HS0_, HS1_, HS2_, HS3_⟩ (fun hHeld => ?_)
               clear hK K
               refine norm_ (a' := ?_) ?_ ?_
               rotate_left
               ·show Act.put _ (some 155) _ = _
                simp only [Act.put, sZ1, sZ2, sZ3, i64_w, i32_w]
                rfl
               refine pure_ (i := 16) (N := some 156) (v := ?_) (a' := ?_) L79' rfl rfl (any_of HT_.out kZ) (fun _ _ _ h => h) (Or.inl ⟨by rfl, ?_⟩) ?_ ?_
               rotate_left
               ·intro w'
                go_simp
                with_reducible rfl
               rotate_left
               ·simp only [Act.put, sZ1, sZ2, sZ3, i64_w, i32_w]
                rfl
               exact norm_ (by simp only [putAll, Act.put, List.setIfInBounds_toArray, List.set_cons_zero, List.set_cons_succ]) (hCont (gb208) _ ⟨hHeld, (lZR HO_11.out), (lZR HO_13.out), (lZR HO_5.out), (lZR HO_6.out), (bkZ BK208.out), GW208.out, GE208.out, bZ⟩)
              rintro gb208 w105 ⟨hS_, h0_, h1_, h2_, h3_, h4_, h5_, h6_, h7_⟩
              replace HO_11 : Aside0 (Kd.R k174 174 w105 w.heap.size (fun k_ => some k_ ≠ (v170 : Value).ownBlock ∧ k_ ≠ gb208) u11 x11_4) := ⟨h0_⟩
              replace HO_13 : Aside0 (Kd.R Kd.string 9 w105 w.heap.size (fun k_ => some k_ ≠ (.slice (some ad175) t172.length co13 : Value).ownBlock) (.slice (some ad203) t197.length co102) t197) := ⟨h1_⟩
              replace HO_5 : Aside0 (Kd.R k174 174 w105 w.heap.size (fun k_ => some k_ ≠ (u11 : Value).ownBlock ∧ k_ ≠ gb208) v170 y169) := ⟨h2_⟩
              replace HO_6 : Aside0 (Kd.R Kd.string 9 w105 w.heap.size (fun k_ => some k_ ≠ (.slice (some ad203) t197.length co102 : Value).ownBlock) (.slice (some ad175) t172.length co13) t172) := ⟨h3_⟩
              have BK208 : Aside0 (w105.heap[gb208]? = some (.cells #[.string (⟨#[]⟩ : ByteArray), .string (⟨#[]⟩ : ByteArray), .int .i64 0] 174 (0, 0))) := ⟨h4_⟩
              have GW208 : Aside0 (w.heap.size ≤ gb208) := ⟨h5_⟩
              have GE208 : Aside0 (w.heap.size ≤ gb208) := ⟨h6_⟩
              replace HB : Aside0 (Below w.heap.size w w105) := ⟨h7_⟩
              clear h0_ h1_ h2_ h3_ h4_ h5_ h6_ h7_
              have hHeld : w105.cell? ⟨ad203.block, ad203.off + 1, none⟩ = some (.string (rdOf ByteArray.empty t197 1)) ∧ w105.cell? ⟨ad203.block, ad203.off + 2, none⟩ = some (.string (rdOf ByteArray.empty t197 2)) ∧ w105.cell? ⟨ad203.block, ad203.off + 3, none⟩ = some (.string (rdOf ByteArray.empty t197 3)) ∧ w105.cell? ⟨ad203.block, ad203.off + 3, none⟩ = some (.string (rdOf ByteArray.empty t197 3)) := hS_
              refine norm_ (a' := ?_) ?_ ?_
              rotate_left
              ·simp only [putAll, Act.put, List.setIfInBounds_toArray, List.set_cons_zero, List.set_cons_succ]
               rfl
              refine one_ (i := 18) (N := none) L84' rfl rfl (one_of HT_.out kZ) (by decide) (fun K hK => ?_)
              have hs106 : w105.cell? ⟨gb208, 0, none⟩ = some (.string (⟨#[]⟩ : ByteArray)) := (blk_cell BK208.out 0).trans rfl
              have hfs106 := blk_frozen BK208.out 0
              have hs107 : w105.cell? ⟨gb208, 1, none⟩ = some (.string (⟨#[]⟩ : ByteArray)) := (blk_cell BK208.out 1).trans rfl
              have hfs107 := blk_frozen BK208.out 1
              have hs108 : w105.cell? ⟨gb208, 2, none⟩ = some (.int .i64 0) := (blk_cell BK208.out 2).trans rfl
              have hfs108 := blk_frozen BK208.out 2
              refine skip_ (w1 := ?_) (by rfl) rfl ?_ ?_
              rotate_left
              ·go_simp
               rfl
              have hfar_ := Kd.own_blk (Kd.R_ne HO_13.out BK208.out (by decide))
              refine hK.out _ _ ⟨(cfar hfar_ ((cfar hfar_ ((cfar hfar_ (hHeld.1)))))), (cfar hfar_ ((cfar hfar_ ((cfar hfar_ (hHeld.2.1)))))), (cfar hfar_ ((cfar hfar_ ((cfar hfar_ (hHeld.2.2.1)))))), (cfar hfar_ ((cfar hfar_ ((cfar hfar_ (hHeld.2.2.2))))))⟩ (fun hHeld => ?_)
              clear hK K
              refine done_ (done_of HT_.out kZ) ?_
              have hcz109_0 : w105.cell? ⟨gb208, 0, none⟩ = some (.string (⟨#[]⟩ : ByteArray)) := (blk_cell BK208.out 0).trans rfl
              have hcz109_1 : w105.cell? ⟨gb208, 1, none⟩ = some (.string (⟨#[]⟩ : ByteArray)) := (blk_cell BK208.out 1).trans rfl
              have hcz109_2 : w105.cell? ⟨gb208, 2, none⟩ = some (.int .i64 0) := (blk_cell BK208.out 2).trans rfl
              have hfz109_0 := blk_frozen BK208.out 0
              have hfz109_1 := blk_frozen BK208.out 1
              have hfz109_2 := blk_frozen BK208.out 2
              try go_wp2_with (first | ((with_reducible refine gate_callee (f := 122) rfl ?_); refine goesL_ (some 158) rfl rfl Try.func122 kZ rfl #[.agg #[.string (rdOf ByteArray.empty t197 1), .string (rdOf ByteArray.empty t197 2), .int .i64 t207]] rfl tZA ?_; (with_reducible refine (spec_l14Pay.calls kj62 (rdOf ByteArray.empty t197 1) (rdOf ByteArray.empty t197 2) t207 false _ A86.out).mono ?_); rintro e w110 ⟨rfl, hb⟩; refine ⟨_, rfl, ?_⟩; replace HO_5 := aZ (Kd.R_below (by (with_reducible repeat (first | apply Kd.R_alloc | apply Kd.R_drewN | apply Kd.R_drew)); exact (Kd.R_mono (Kd.R_far (p := ⟨gb208, 2, none⟩) (Kd.R_far (p := ⟨gb208, 1, none⟩) (Kd.R_far (p := ⟨gb208, 0, none⟩) (Kd.R_mono HO_5.out (fun k_ hk => (⟨hk, hk.2⟩ : _ ∧ k_ ≠ gb208))) (fun _ hk => hk.2) (.string (rdOf ByteArray.empty t197 1))) (fun _ hk => hk.2) (.string (rdOf ByteArray.empty t197 2))) (fun _ hk => hk.2) (.int .i64 t207)) (fun _ h_ => h_.1))) hb); replace HO_6 := aZ (Kd.R_below (by (with_reducible repeat (first | apply Kd.R_alloc | apply Kd.R_drewN | apply Kd.R_drew)); exact (Kd.R_mono (Kd.R_far (p := ⟨gb208, 2, none⟩) (Kd.R_far (p := ⟨gb208, 1, none⟩) (Kd.R_far (p := ⟨gb208, 0, none⟩) (Kd.R_types HO_6.out BK208.out (by decide)) (fun _ hk => hk.2) (.string (rdOf ByteArray.empty t197 1))) (fun _ hk => hk.2) (.string (rdOf ByteArray.empty t197 2))) (fun _ hk => hk.2) (.int .i64 t207)) (fun _ h_ => h_.1))) hb); replace HO_11 := aZ (Kd.R_below (by (with_reducible repeat (first | apply Kd.R_alloc | apply Kd.R_drewN | apply Kd.R_drew)); exact (Kd.R_mono (Kd.R_far (p := ⟨gb208, 2, none⟩) (Kd.R_far (p := ⟨gb208, 1, none⟩) (Kd.R_far (p := ⟨gb208, 0, none⟩) (Kd.R_mono HO_11.out (fun k_ hk => (⟨hk, hk.2⟩ : _ ∧ k_ ≠ gb208))) (fun _ hk => hk.2) (.string (rdOf ByteArray.empty t197 1))) (fun _ hk => hk.2) (.string (rdOf ByteArray.empty t197 2))) (fun _ hk => hk.2) (.int .i64 t207)) (fun _ h_ => h_.1))) hb); replace HO_13 := aZ (Kd.R_below (by (with_reducible repeat (first | apply Kd.R_alloc | apply Kd.R_drewN | apply Kd.R_drew)); exact (Kd.R_mono (Kd.R_far (p := ⟨gb208, 2, none⟩) (Kd.R_far (p := ⟨gb208, 1, none⟩) (Kd.R_far (p := ⟨gb208, 0, none⟩) (Kd.R_types HO_13.out BK208.out (by decide)) (fun _ hk => hk.2) (.string (rdOf ByteArray.empty t197 1))) (fun _ hk => hk.2) (.string (rdOf ByteArray.empty t197 2))) (fun _ hk => hk.2) (.int .i64 t207)) (fun _ h_ => h_.1))) hb); replace BK208 := aZ (blk_below (g := gb208) (o := .cells #[.string (rdOf ByteArray.empty t197 1), .string (rdOf ByteArray.empty t197 2), .int .i64 t207] 174 (0, 0)) (by (with_reducible repeat (first | refine blk_drewN ?_ _ | refine blk_drew ?_ | refine blk_alloc ?_ _)); refine blk_put (cs := #[.string (rdOf ByteArray.empty t197 1), .string (rdOf ByteArray.empty t197 2), .int .i64 0]) ?_ 2 _ rfl; (with_reducible repeat (first | refine blk_drewN ?_ _ | refine blk_drew ?_ | refine blk_alloc ?_ _)); refine blk_put (cs := #[.string (rdOf ByteArray.empty t197 1), .string (⟨#[]⟩ : ByteArray), .int .i64 0]) ?_ 1 _ rfl; (with_reducible repeat (first | refine blk_drewN ?_ _ | refine blk_drew ?_ | refine blk_alloc ?_ _)); refine blk_put (cs := #[.string (⟨#[]⟩ : ByteArray), .string (⟨#[]⟩ : ByteArray), .int .i64 0]) ?_ 0 _ rfl; (with_reducible repeat (first | refine blk_drewN ?_ _ | refine blk_drew ?_ | refine blk_alloc ?_ _)); exact BK208.out) hb); replace HB := aZ (below_step bZ hb); (try clear hb); (try clear hb2); (try clear hk); (try clear hi)))
              go_ret3
              exact ⟨_, by first | rfl | (simp [errW_none, errW_some] <;> rfl) | (simp only [← hji34, ← hji82]; first | rfl | (simp [errW_none, errW_some] <;> rfl)) | (simp [*, errW_none, errW_some] <;> rfl), by (with_reducible repeat (first | apply Kd.R_alloc | apply Kd.R_drewN | apply Kd.R_drew)); exact Kd.R_mono HO_5.out (fun _ hk => trivial), bZ⟩
             subst c87
             have H1 : (if x11_4.length < 3518437208883 then (spec_ReadBank.l0 kj62 a0 y169 t172 t183 t185 t188 (x11_4 ++ [(⟨rdOf ByteArray.empty t197 1, rdOf ByteArray.empty t197 2, t207⟩ : S174)]) (wrap64 (x12_4 + 1))) else (none)) = some (r1, r2, r3) := by rw [if_pos rfl] at H; exact H
             clear H
             have H := H1
             clear H1
             by_cases c88 : x11_4.length < 3518437208883
             rotate_left
             ·rw [if_neg c88] at H
              exact absurd H (by simp)
             rw [if_pos c88] at H
             have LMc88 := Aside0.mk c88
             clear c88
             obtain ⟨y210, hy210⟩ : ∃ y_ : List (S174), y_ = (x11_4 ++ [(⟨rdOf ByteArray.empty t197 1, rdOf ByteArray.empty t197 2, t207⟩ : S174)]) := ⟨_, rfl⟩
             replace H : (spec_ReadBank.l0 kj62 a0 y169 t172 t183 t185 t188 y210 (wrap64 (x12_4 + 1))) = some (r1, r2, r3) := by first | (rw [hy210]; with_reducible exact H) | (have H2_ := (Option.bind_some _ _).symm.trans H; rw [hy210]; with_reducible exact H2_) | (have H2_ := (Option.bind_some _ _).symm.trans H; with_reducible exact H2_) | with_reducible exact H | (rw [hy210]; exact H) | exact H
             have Ny210 := Aside0.mk hy210
             clear hy210
             have H' := Aside0.mk H
             clear H
             try go_wp2
             replace HO_5 := aZ (Kd.R_drew HO_5.out)
             replace HO_6 := aZ (Kd.R_drew HO_6.out)
             replace HO_11 := aZ (Kd.R_drew HO_11.out)
             replace HO_13 := aZ (Kd.R_drew HO_13.out)
             replace HB := aZ (below_drew1 HB.out)
             obtain ⟨Ao90, co90, eo90⟩ := Kd.R_slice HO_13.out
             (first | subst eo90 | (injection eo90 with f1_ f2_ f3_; have f4_ := f1_.symm; have f5_ := f3_.symm; clear f1_ f2_ f3_; subst f4_; subst f5_))
             have p203 : 0 ≤ (1 : Int) := (by omega)
             have q203 : 1 < (t197.length : Int) := of_decide_eq_true tZE
             obtain ⟨ad203, e203, hx203_0⟩ := Kd.at_string (Kd.R_reads' HO_13.out).2.2 1 p203 q203
             cases e203
             (try simp only [show (1 : Int).toNat = 1 from rfl, Nat.reduceMul, Nat.reduceEqDiff, Go.Addr.add, ↓reduceIte] at hx203_0)
             have qi203 : (1 < t197.length) = True := eq_true (by omega)
             (try rw [show ((1 : Int)).toNat = 1 from rfl] at hx203_0)
             replace p203 := eq_true p203
             replace q203 := eq_true q203
             have p204 : 0 ≤ (2 : Int) := (by omega)
             have q204 : 2 < (t197.length : Int) := of_decide_eq_true tZE
             obtain ⟨ad204, e204, hx204_0⟩ := Kd.at_string (Kd.R_reads' HO_13.out).2.2 2 p204 q204
             obtain rfl : ad203 = ad204 := (by injection e204)
             (try simp only [show (2 : Int).toNat = 2 from rfl, Nat.reduceMul, Nat.reduceEqDiff, Go.Addr.add, ↓reduceIte] at hx204_0)
             have qi204 : (2 < t197.length) = True := eq_true (by omega)
             (try rw [show ((2 : Int)).toNat = 2 from rfl] at hx204_0)
             replace p204 := eq_true p204
             replace q204 := eq_true q204
             have p205 : 0 ≤ (3 : Int) := (by omega)
             have q205 : 3 < (t197.length : Int) := of_decide_eq_true tZE
             obtain ⟨ad205, e205, hx205_0⟩ := Kd.at_string (Kd.R_reads' HO_13.out).2.2 3 p205 q205
             obtain rfl : ad203 = ad205 := (by injection e205)
             (try simp only [show (3 : Int).toNat = 3 from rfl, Nat.reduceMul, Nat.reduceEqDiff, Go.Addr.add, ↓reduceIte] at hx205_0)
             have qi205 : (3 < t197.length) = True := eq_true (by omega)
             (try rw [show ((3 : Int)).toNat = 3 from rfl] at hx205_0)
             replace p205 := eq_true p205
             replace q205 := eq_true q205
             have p206 : 0 ≤ (3 : Int) := (by omega)
             have q206 : 3 < (t197.length : Int) := of_decide_eq_true tZE
             obtain ⟨ad206, e206, hx206_0⟩ := Kd.at_string (Kd.R_reads' HO_13.out).2.2 3 p206 q206
             obtain rfl : ad203 = ad206 := (by injection e206)
             (try simp only [show (3 : Int).toNat = 3 from rfl, Nat.reduceMul, Nat.reduceEqDiff, Go.Addr.add, ↓reduceIte] at hx206_0)
             have qi206 : (3 < t197.length) = True := eq_true (by omega)
             (try rw [show ((3 : Int)).toNat = 3 from rfl] at hx206_0)
             replace p206 := eq_true p206
             replace q206 := eq_true q206
             refine start_ (n := 19) (S := fun w' => w'.cell? ⟨ad203.block, ad203.off + 1, none⟩ = some (.string (rdOf ByteArray.empty t197 1)) ∧ w'.cell? ⟨ad203.block, ad203.off + 2, none⟩ = some (.string (rdOf ByteArray.empty t197 2)) ∧ w'.cell? ⟨ad203.block, ad203.off + 3, none⟩ = some (.string (rdOf ByteArray.empty t197 3)) ∧ w'.cell? ⟨ad203.block, ad203.off + 3, none⟩ = some (.string (rdOf ByteArray.empty t197 3))) (ds := []) L63' kZ rfl rfl ⟨hx203_0, hx204_0, hx205_0, hx206_0⟩ (fun hHeld => ?_); refine with_tabW spec_ReadBank.tab22 spec_ReadBank.bits22 (fun HT_ HW_ => ?_)
             generalize wc.drew = w89 at HO_5 HO_6 HO_11 HO_13 HB hx203_0 hx204_0 hx205_0 hx206_0 hHeld ⊢
             refine pure_ (i := 0) (N := some 140) (v := ?_) (a' := ?_) L64' rfl rfl (any_of HT_.out kZ) (fun _ _ _ h => h) (Or.inl ⟨by rfl, ?_⟩) ?_ ?_
             rotate_left
             ·intro w'
              go_simp
              with_reducible rfl
             rotate_left
             ·simp only [Act.put, sZ1, sZ2, sZ3, i64_w, i32_w]
              rfl
             refine pure_ (i := 1) (N := some 141) (v := ?_) (a' := ?_) L65' rfl rfl (any_of HT_.out kZ) (fun _ _ _ h => h) (Or.inl ⟨by rfl, ?_⟩) ?_ ?_
             rotate_left
             ·intro w'
              go_simp
              with_reducible rfl
             rotate_left
             ·simp only [Act.put, sZ1, sZ2, sZ3, i64_w, i32_w]
              rfl
             refine pure_ (i := 3) (N := some 143) (v := ?_) (a' := ?_) L66' rfl rfl (any_of HT_.out kZ) (fun _ _ _ h => h) (Or.inl ⟨by rfl, ?_⟩) ?_ ?_
             rotate_left
             ·intro w'
              go_simp
              with_reducible rfl
             rotate_left
             ·simp only [Act.put, sZ1, sZ2, sZ3, i64_w, i32_w]
              rfl
             refine pure_ (i := 4) (N := some 144) (v := ?_) (a' := ?_) L67' rfl rfl (any_of HT_.out kZ) (fun _ _ _ h => h) (Or.inl ⟨by rfl, ?_⟩) ?_ ?_
             rotate_left
             ·intro w'
              go_simp
              with_reducible rfl
             rotate_left
             ·simp only [Act.put, sZ1, sZ2, sZ3, i64_w, i32_w]
              rfl
             refine pure_ (i := 6) (N := some 146) (v := ?_) (a' := ?_) L68' rfl rfl (any_of HT_.out kZ) (fun _ _ _ h => h) (Or.inl ⟨by rfl, ?_⟩) ?_ ?_
             rotate_left
             ·intro w'
              go_simp
              with_reducible rfl
             rotate_left
             ·simp only [Act.put, sZ1, sZ2, sZ3, i64_w, i32_w]
              rfl
             refine pure_ (i := 7) (N := some 147) (v := ?_) (a' := ?_) L69' rfl rfl (any_of HT_.out kZ) (fun _ _ _ h => h) (Or.inl ⟨by rfl, ?_⟩) ?_ ?_
             rotate_left
             ·intro w'
              go_simp
              with_reducible rfl
             rotate_left
             ·simp only [Act.put, sZ1, sZ2, sZ3, i64_w, i32_w]
              rfl
             refine pure_ (i := 9) (N := some 149) (v := ?_) (a' := ?_) L70' rfl rfl (any_of HT_.out kZ) (fun _ _ _ h => h) (Or.inl ⟨by rfl, ?_⟩) ?_ ?_
             rotate_left
             ·intro w'
              go_simp
              with_reducible rfl
             rotate_left
             ·simp only [Act.put, sZ1, sZ2, sZ3, i64_w, i32_w]
              rfl
             refine pure_ (i := 10) (N := some 150) (v := ?_) (a' := ?_) L71' rfl rfl (any_of HT_.out kZ) (fun _ _ _ h => h) (Or.inl ⟨by rfl, ?_⟩) ?_ ?_
             rotate_left
             ·intro w'
              go_simp
              with_reducible rfl
             rotate_left
             ·simp only [Act.put, sZ1, sZ2, sZ3, i64_w, i32_w]
              rfl
             refine take_ (i := 2) (N := some 142) (v := ?_) (a' := ?_) L72' rfl rfl (take_ofW HT_.out HW_.out kZ) (fun _ _ _ h => h) (Or.inl ⟨by rfl, ?_⟩) hHeld ?_ ?_
             rotate_left
             ·rintro w' ⟨s0, s1, s2, s3⟩
              go_simp
              with_reducible rfl
             rotate_left
             ·simp only [Act.put, sZ1, sZ2, sZ3, i64_w, i32_w]
              rfl
             refine take_ (i := 5) (N := some 145) (v := ?_) (a' := ?_) L73' rfl rfl (take_ofW HT_.out HW_.out kZ) (fun _ _ _ h => h) (Or.inl ⟨by rfl, ?_⟩) hHeld ?_ ?_
             rotate_left
             ·rintro w' ⟨s0, s1, s2, s3⟩
              go_simp
              with_reducible rfl
             rotate_left
             ·simp only [Act.put, sZ1, sZ2, sZ3, i64_w, i32_w]
              rfl
             refine take_ (i := 8) (N := some 148) (v := ?_) (a' := ?_) L74' rfl rfl (take_ofW HT_.out HW_.out kZ) (fun _ _ _ h => h) (Or.inl ⟨by rfl, ?_⟩) hHeld ?_ ?_
             rotate_left
             ·rintro w' ⟨s0, s1, s2, s3⟩
              go_simp
              with_reducible rfl
             rotate_left
             ·simp only [Act.put, sZ1, sZ2, sZ3, i64_w, i32_w]
              rfl
             refine take_ (i := 11) (N := some 151) (v := ?_) (a' := ?_) L75' rfl rfl (take_ofW HT_.out HW_.out kZ) (fun _ _ _ h => h) (Or.inl ⟨by rfl, ?_⟩) hHeld ?_ ?_
             rotate_left
             ·rintro w' ⟨s0, s1, s2, s3⟩
              go_simp
              with_reducible rfl
             rotate_left
             ·simp only [Act.put, sZ1, sZ2, sZ3, i64_w, i32_w]
              rfl
             refine pure_ (i := 12) (N := some 152) (v := ?_) (a' := ?_) L76' rfl rfl (any_of HT_.out kZ) (fun _ _ _ h => h) (Or.inl ⟨by rfl, ?_⟩) ?_ ?_
             rotate_left
             ·intro w'
              go_simp
              with_reducible rfl
             rotate_left
             ·simp only [Act.put, sZ1, sZ2, sZ3, i64_w, i32_w]
              rfl
             refine pure_ (i := 13) (N := some 153) (v := ?_) (a' := ?_) L77' rfl rfl (any_of HT_.out kZ) (fun _ _ _ h => h) (Or.inl ⟨by rfl, ?_⟩) ?_ ?_
             rotate_left
             ·intro w'
              go_simp
              with_reducible rfl
             rotate_left
             ·simp only [Act.put, sZ1, sZ2, sZ3, i64_w, i32_w]
              rfl
             refine pure_ (i := 14) (N := some 154) (v := ?_) (a' := ?_) L78' rfl rfl (any_of HT_.out kZ) (fun _ _ _ h => h) (Or.inl ⟨by rfl, ?_⟩) ?_ ?_
             rotate_left
             ·intro w'
              go_simp
              with_reducible rfl
             rotate_left
             ·simp only [Act.put, sZ1, sZ2, sZ3, i64_w, i32_w]
              rfl
             refine join_ (σ := Nat) 1 L79' (fun s_ => [(155, .int .i64 t207), (14, .pointer (some ⟨s_, 0, none⟩)), (156, .agg #[.string (rdOf ByteArray.empty t197 1), .string (rdOf ByteArray.empty t197 2), .int .i64 t207])]) (fun s_ w' => (w'.cell? ⟨ad203.block, ad203.off + 1, none⟩ = some (.string (rdOf ByteArray.empty t197 1)) ∧ w'.cell? ⟨ad203.block, ad203.off + 2, none⟩ = some (.string (rdOf ByteArray.empty t197 2)) ∧ w'.cell? ⟨ad203.block, ad203.off + 3, none⟩ = some (.string (rdOf ByteArray.empty t197 3)) ∧ w'.cell? ⟨ad203.block, ad203.off + 3, none⟩ = some (.string (rdOf ByteArray.empty t197 3))) ∧ (Kd.R k174 174 w' w.heap.size (fun k_ => some k_ ≠ (v170 : Value).ownBlock ∧ k_ ≠ s_) u11 x11_4) ∧ (Kd.R Kd.string 9 w' w.heap.size (fun k_ => some k_ ≠ (.slice (some ad175) t172.length co13 : Value).ownBlock) (.slice (some ad203) t197.length co90) t197) ∧ (Kd.R k174 174 w' w.heap.size (fun k_ => some k_ ≠ (u11 : Value).ownBlock ∧ k_ ≠ s_) v170 y169) ∧ (Kd.R Kd.string 9 w' w.heap.size (fun k_ => some k_ ≠ (.slice (some ad203) t197.length co90 : Value).ownBlock) (.slice (some ad175) t172.length co13) t172) ∧ (w'.heap[s_]? = some (.cells #[.string (⟨#[]⟩ : ByteArray), .string (⟨#[]⟩ : ByteArray), .int .i64 0] 174 (0, 0))) ∧ (w.heap.size ≤ s_) ∧ (w.heap.size ≤ s_) ∧ (Below w.heap.size w w')) ?_ ?_
             rotate_left
             ·intro hCont
              refine two_ (i := 15) (j := 17) (Ni := some 155) (Nj := some 14) L80' L81' rfl rfl rfl rfl (two_of HT_.out kZ) (by decide) (by decide) (fun K hK => ?_) (fun K hK => ?_)
              ·skip
               refine goes_ Try.func121 kZ rfl #[.string ((rdOf ByteArray.empty t197 3).extract 0 ((ji82) : Int).toNat)] (by rfl) rfl rfl (by (try simp only [List.map_toArray, List.map_cons, List.map_nil]); first | done | (simp only [hji82]; rfl) | rfl | (simp only [List.length_drop, List.length_take]; rfl)) ?_
               with_reducible refine (spec_l14Money.calls kj62 ((rdOf ByteArray.empty t197 3).extract 0 ((ji82) : Int).toNat) t207 _ A85.out).mono ?_
               rintro e w91 ⟨rfl, hb⟩
               have HS0_ := (hb.cell (World.block_lt_of_cell? _ _ (hHeld.1))).trans (hHeld.1)
               have HS1_ := (hb.cell (World.block_lt_of_cell? _ _ (hHeld.2.1))).trans (hHeld.2.1)
               have HS2_ := (hb.cell (World.block_lt_of_cell? _ _ (hHeld.2.2.1))).trans (hHeld.2.2.1)
               have HS3_ := (hb.cell (World.block_lt_of_cell? _ _ (hHeld.2.2.2))).trans (hHeld.2.2.2)
               refine ⟨_, rfl, ?_⟩
               replace HO_5 := aZ (Kd.R_below (lZR HO_5.out) hb)
               replace HO_6 := aZ (Kd.R_below (lZR HO_6.out) hb)
               replace HO_11 := aZ (Kd.R_below (lZR HO_11.out) hb)
               replace HO_13 := aZ (Kd.R_below (lZR HO_13.out) hb)
               replace HB := aZ (below_step (lZB HB.out) hb)
               (try clear hb)
               (try clear hb2)
               (try clear hk)
               (try clear hi)
               refine hK.out _ _ ⟨HS0_, HS1_, HS2_, HS3_⟩ (fun hHeld => ?_)
               clear hK K
               refine norm_ (a' := ?_) ?_ ?_
               rotate_left
               ·show Act.put _ (some 155) _ = _
                simp only [Act.put, sZ1, sZ2, sZ3, i64_w, i32_w]
                rfl
               refine pure_ (i := 16) (N := some 156) (v := ?_) (a' := ?_) L82' rfl rfl (any_of HT_.out kZ) (fun _ _ _ h => h) (Or.inl ⟨by rfl, ?_⟩) ?_ ?_
               rotate_left
               ·intro w'
                go_simp
                with_reducible rfl
               rotate_left
               ·simp only [Act.put, sZ1, sZ2, sZ3, i64_w, i32_w]
                rfl
               refine one_ (i := 17) (N := some 14) L79' rfl rfl (one_of HT_.out kZ) (by decide) (fun K hK => ?_)
               refine box_step ?hg (N := 14) ?hd (cs := #[.string (⟨#[]⟩ : ByteArray), .string (⟨#[]⟩ : ByteArray), .int .i64 0]) (t := 174) ?hr ?_; (case hd => rfl); (case hg => rfl); (case hr => first | (go_simp; done) | (go_simp; rfl))
               intro gb208 hg w92 hbox hb
               have HS0_ := (hb.cell (World.block_lt_of_cell? _ _ (hHeld.1))).trans (hHeld.1)
               have HS1_ := (hb.cell (World.block_lt_of_cell? _ _ (hHeld.2.1))).trans (hHeld.2.1)
               have HS2_ := (hb.cell (World.block_lt_of_cell? _ _ (hHeld.2.2.1))).trans (hHeld.2.2.1)
               have HS3_ := (hb.cell (World.block_lt_of_cell? _ _ (hHeld.2.2.2))).trans (hHeld.2.2.2)
               replace HO_5 := aZ (Kd.R_below (Kd.R_elderB (lZR HO_5.out) gb208 (Nat.le_of_eq hg.symm)) hb)
               replace HO_6 := aZ (Kd.R_below (lZR HO_6.out) hb)
               replace HO_11 := aZ (Kd.R_below (Kd.R_elderB (lZR HO_11.out) gb208 (Nat.le_of_eq hg.symm)) hb)
               replace HO_13 := aZ (Kd.R_below (lZR HO_13.out) hb)
               have BK208 := aZ (hbox)
               have GW208 := aZ ((by rw [hg]; exact (below_size (lZB HB.out)) : w.heap.size ≤ gb208))
               have GE208 := aZ ((by rw [hg]; exact (below_size (lZB HB.out)) : w.heap.size ≤ gb208))
               replace HB := aZ (below_step (lZB HB.out) hb)
               clear hb hbox hg
               refine hK.out _ _ ⟨HS0_, HS1_, HS2_, HS3_⟩ (fun hHeld => ?_)
               clear hK K
               refine norm_ (a' := ?_) ?_ ?_
               rotate_left
               ·show Act.put _ (some 14) _ = _
                simp only [Act.put, sZ1, sZ2, sZ3, i64_w, i32_w]
                rfl
               exact norm_ (by simp only [putAll, Act.put, List.setIfInBounds_toArray, List.set_cons_zero, List.set_cons_succ]) (hCont (gb208) _ ⟨hHeld, (lZR HO_11.out), (lZR HO_13.out), (lZR HO_5.out), (lZR HO_6.out), (bkZ BK208.out), GW208.out, GE208.out, bZ⟩)
              skip
              refine box_step ?hg (N := 14) ?hd (cs := #[.string (⟨#[]⟩ : ByteArray), .string (⟨#[]⟩ : ByteArray), .int .i64 0]) (t := 174) ?hr ?_; (case hd => rfl); (case hg => rfl); (case hr => first | (go_simp; done) | (go_simp; rfl))
              intro gb208 hg w91 hbox hb
              have HS0_ := (hb.cell (World.block_lt_of_cell? _ _ (hHeld.1))).trans (hHeld.1)
              have HS1_ := (hb.cell (World.block_lt_of_cell? _ _ (hHeld.2.1))).trans (hHeld.2.1)
              have HS2_ := (hb.cell (World.block_lt_of_cell? _ _ (hHeld.2.2.1))).trans (hHeld.2.2.1)
              have HS3_ := (hb.cell (World.block_lt_of_cell? _ _ (hHeld.2.2.2))).trans (hHeld.2.2.2)
              replace HO_5 := aZ (Kd.R_below (Kd.R_elderB (lZR HO_5.out) gb208 (Nat.le_of_eq hg.symm)) hb)
              replace HO_6 := aZ (Kd.R_below (lZR HO_6.out) hb)
              replace HO_11 := aZ (Kd.R_below (Kd.R_elderB (lZR HO_11.out) gb208 (Nat.le_of_eq hg.symm)) hb)
              replace HO_13 := aZ (Kd.R_below (lZR HO_13.out) hb)
              have BK208 := aZ (hbox)
              have GW208 := aZ ((by rw [hg]; exact (below_size (lZB HB.out)) : w.heap.size ≤ gb208))
              have GE208 := aZ ((by rw [hg]; exact (below_size (lZB HB.out)) : w.heap.size ≤ gb208))
              replace HB := aZ (below_step (lZB HB.out) hb)
              clear hb hbox hg
              refine hK.out _ _ ⟨HS0_, HS1_, HS2_, HS3_⟩ (fun hHeld => ?_)
              clear hK K
              refine norm_ (a' := ?_) ?_ ?_
              rotate_left
              ·show Act.put _ (some 14) _ = _
               simp only [Act.put, sZ1, sZ2, sZ3, i64_w, i32_w]
               rfl
              refine one_ (i := 15) (N := some 155) L83' rfl rfl (one_of HT_.out kZ) (by decide) (fun K hK => ?_)
              refine goes_ Try.func121 kZ rfl #[.string ((rdOf ByteArray.empty t197 3).extract 0 ((ji82) : Int).toNat)] (by rfl) rfl rfl (by (try simp only [List.map_toArray, List.map_cons, List.map_nil]); first | done | (simp only [hji82]; rfl) | rfl | (simp only [List.length_drop, List.length_take]; rfl)) ?_
              with_reducible refine (spec_l14Money.calls kj62 ((rdOf ByteArray.empty t197 3).extract 0 ((ji82) : Int).toNat) t207 _ A85.out).mono ?_
              rintro e w92 ⟨rfl, hb⟩
              have HS0_ := (hb.cell (World.block_lt_of_cell? _ _ (hHeld.1))).trans (hHeld.1)
              have HS1_ := (hb.cell (World.block_lt_of_cell? _ _ (hHeld.2.1))).trans (hHeld.2.1)
              have HS2_ := (hb.cell (World.block_lt_of_cell? _ _ (hHeld.2.2.1))).trans (hHeld.2.2.1)
              have HS3_ := (hb.cell (World.block_lt_of_cell? _ _ (hHeld.2.2.2))).trans (hHeld.2.2.2)
              refine ⟨_, rfl, ?_⟩
              replace HO_5 := aZ (Kd.R_below (lZR HO_5.out) hb)
              replace HO_6 := aZ (Kd.R_below (lZR HO_6.out) hb)
              replace HO_11 := aZ (Kd.R_below (lZR HO_11.out) hb)
              replace HO_13 := aZ (Kd.R_below (lZR HO_13.out) hb)
              replace BK208 := aZ (blk_below (bkZ BK208.out) hb)
              replace HB := aZ (below_step bZ hb)
              (try clear hb)
              (try clear hb2)
              (try clear hk)
              (try clear hi)
              refine hK.out _ _ ⟨HS0_, HS1_, HS2_, HS3_⟩ (fun hHeld => ?_)
              clear hK K
              refine norm_ (a' := ?_) ?_ ?_
              rotate_left
              ·show Act.put _ (some 155) _ = _
               simp only [Act.put, sZ1, sZ2, sZ3, i64_w, i32_w]
               rfl
              refine pure_ (i := 16) (N := some 156) (v := ?_) (a' := ?_) L79' rfl rfl (any_of HT_.out kZ) (fun _ _ _ h => h) (Or.inl ⟨by rfl, ?_⟩) ?_ ?_
              rotate_left
              ·intro w'
               go_simp
               with_reducible rfl
              rotate_left
              ·simp only [Act.put, sZ1, sZ2, sZ3, i64_w, i32_w]
               rfl
              exact norm_ (by simp only [putAll, Act.put, List.setIfInBounds_toArray, List.set_cons_zero, List.set_cons_succ]) (hCont (gb208) _ ⟨hHeld, (lZR HO_11.out), (lZR HO_13.out), (lZR HO_5.out), (lZR HO_6.out), (bkZ BK208.out), GW208.out, GE208.out, bZ⟩)
             rintro gb208 w93 ⟨hS_, h0_, h1_, h2_, h3_, h4_, h5_, h6_, h7_⟩
             replace HO_11 : Aside0 (Kd.R k174 174 w93 w.heap.size (fun k_ => some k_ ≠ (v170 : Value).ownBlock ∧ k_ ≠ gb208) u11 x11_4) := ⟨h0_⟩
             replace HO_13 : Aside0 (Kd.R Kd.string 9 w93 w.heap.size (fun k_ => some k_ ≠ (.slice (some ad175) t172.length co13 : Value).ownBlock) (.slice (some ad203) t197.length co90) t197) := ⟨h1_⟩
             replace HO_5 : Aside0 (Kd.R k174 174 w93 w.heap.size (fun k_ => some k_ ≠ (u11 : Value).ownBlock ∧ k_ ≠ gb208) v170 y169) := ⟨h2_⟩
             replace HO_6 : Aside0 (Kd.R Kd.string 9 w93 w.heap.size (fun k_ => some k_ ≠ (.slice (some ad203) t197.length co90 : Value).ownBlock) (.slice (some ad175) t172.length co13) t172) := ⟨h3_⟩
             have BK208 : Aside0 (w93.heap[gb208]? = some (.cells #[.string (⟨#[]⟩ : ByteArray), .string (⟨#[]⟩ : ByteArray), .int .i64 0] 174 (0, 0))) := ⟨h4_⟩
             have GW208 : Aside0 (w.heap.size ≤ gb208) := ⟨h5_⟩
             have GE208 : Aside0 (w.heap.size ≤ gb208) := ⟨h6_⟩
             replace HB : Aside0 (Below w.heap.size w w93) := ⟨h7_⟩
             clear h0_ h1_ h2_ h3_ h4_ h5_ h6_ h7_
             have hHeld : w93.cell? ⟨ad203.block, ad203.off + 1, none⟩ = some (.string (rdOf ByteArray.empty t197 1)) ∧ w93.cell? ⟨ad203.block, ad203.off + 2, none⟩ = some (.string (rdOf ByteArray.empty t197 2)) ∧ w93.cell? ⟨ad203.block, ad203.off + 3, none⟩ = some (.string (rdOf ByteArray.empty t197 3)) ∧ w93.cell? ⟨ad203.block, ad203.off + 3, none⟩ = some (.string (rdOf ByteArray.empty t197 3)) := hS_
             refine norm_ (a' := ?_) ?_ ?_
             rotate_left
             ·simp only [putAll, Act.put, List.setIfInBounds_toArray, List.set_cons_zero, List.set_cons_succ]
              rfl
             refine one_ (i := 18) (N := none) L84' rfl rfl (one_of HT_.out kZ) (by decide) (fun K hK => ?_)
             have hs94 : w93.cell? ⟨gb208, 0, none⟩ = some (.string (⟨#[]⟩ : ByteArray)) := (blk_cell BK208.out 0).trans rfl
             have hfs94 := blk_frozen BK208.out 0
             have hs95 : w93.cell? ⟨gb208, 1, none⟩ = some (.string (⟨#[]⟩ : ByteArray)) := (blk_cell BK208.out 1).trans rfl
             have hfs95 := blk_frozen BK208.out 1
             have hs96 : w93.cell? ⟨gb208, 2, none⟩ = some (.int .i64 0) := (blk_cell BK208.out 2).trans rfl
             have hfs96 := blk_frozen BK208.out 2
             refine skip_ (w1 := ?_) (by rfl) rfl ?_ ?_
             rotate_left
             ·go_simp
              rfl
             have hfar_ := Kd.own_blk (Kd.R_ne HO_13.out BK208.out (by decide))
             refine hK.out _ _ ⟨(cfar hfar_ ((cfar hfar_ ((cfar hfar_ (hHeld.1)))))), (cfar hfar_ ((cfar hfar_ ((cfar hfar_ (hHeld.2.1)))))), (cfar hfar_ ((cfar hfar_ ((cfar hfar_ (hHeld.2.2.1)))))), (cfar hfar_ ((cfar hfar_ ((cfar hfar_ (hHeld.2.2.2))))))⟩ (fun hHeld => ?_)
             clear hK K
             refine done_ (done_of HT_.out kZ) ?_
             have hcz97_0 : w93.cell? ⟨gb208, 0, none⟩ = some (.string (⟨#[]⟩ : ByteArray)) := (blk_cell BK208.out 0).trans rfl
             have hcz97_1 : w93.cell? ⟨gb208, 1, none⟩ = some (.string (⟨#[]⟩ : ByteArray)) := (blk_cell BK208.out 1).trans rfl
             have hcz97_2 : w93.cell? ⟨gb208, 2, none⟩ = some (.int .i64 0) := (blk_cell BK208.out 2).trans rfl
             have hfz97_0 := blk_frozen BK208.out 0
             have hfz97_1 := blk_frozen BK208.out 1
             have hfz97_2 := blk_frozen BK208.out 2
             try go_wp2_with (first | ((with_reducible refine gate_callee (f := 122) rfl ?_); refine goesL_ (some 158) rfl rfl Try.func122 kZ rfl #[.agg #[.string (rdOf ByteArray.empty t197 1), .string (rdOf ByteArray.empty t197 2), .int .i64 t207]] rfl tZA ?_; (with_reducible refine (spec_l14Pay.calls kj62 (rdOf ByteArray.empty t197 1) (rdOf ByteArray.empty t197 2) t207 true _ A86.out).mono ?_); rintro e w98 ⟨rfl, hb⟩; refine ⟨_, rfl, ?_⟩; replace HO_5 := aZ (Kd.R_below (by (with_reducible repeat (first | apply Kd.R_alloc | apply Kd.R_drewN | apply Kd.R_drew)); exact (Kd.R_mono (Kd.R_far (p := ⟨gb208, 2, none⟩) (Kd.R_far (p := ⟨gb208, 1, none⟩) (Kd.R_far (p := ⟨gb208, 0, none⟩) (Kd.R_mono HO_5.out (fun k_ hk => (⟨hk, hk.2⟩ : _ ∧ k_ ≠ gb208))) (fun _ hk => hk.2) (.string (rdOf ByteArray.empty t197 1))) (fun _ hk => hk.2) (.string (rdOf ByteArray.empty t197 2))) (fun _ hk => hk.2) (.int .i64 t207)) (fun _ h_ => h_.1))) hb); replace HO_6 := aZ (Kd.R_below (by (with_reducible repeat (first | apply Kd.R_alloc | apply Kd.R_drewN | apply Kd.R_drew)); exact (Kd.R_mono (Kd.R_far (p := ⟨gb208, 2, none⟩) (Kd.R_far (p := ⟨gb208, 1, none⟩) (Kd.R_far (p := ⟨gb208, 0, none⟩) (Kd.R_types HO_6.out BK208.out (by decide)) (fun _ hk => hk.2) (.string (rdOf ByteArray.empty t197 1))) (fun _ hk => hk.2) (.string (rdOf ByteArray.empty t197 2))) (fun _ hk => hk.2) (.int .i64 t207)) (fun _ h_ => h_.1))) hb); replace HO_11 := aZ (Kd.R_below (by (with_reducible repeat (first | apply Kd.R_alloc | apply Kd.R_drewN | apply Kd.R_drew)); exact (Kd.R_mono (Kd.R_far (p := ⟨gb208, 2, none⟩) (Kd.R_far (p := ⟨gb208, 1, none⟩) (Kd.R_far (p := ⟨gb208, 0, none⟩) (Kd.R_mono HO_11.out (fun k_ hk => (⟨hk, hk.2⟩ : _ ∧ k_ ≠ gb208))) (fun _ hk => hk.2) (.string (rdOf ByteArray.empty t197 1))) (fun _ hk => hk.2) (.string (rdOf ByteArray.empty t197 2))) (fun _ hk => hk.2) (.int .i64 t207)) (fun _ h_ => h_.1))) hb); replace HO_13 := aZ (Kd.R_below (by (with_reducible repeat (first | apply Kd.R_alloc | apply Kd.R_drewN | apply Kd.R_drew)); exact (Kd.R_mono (Kd.R_far (p := ⟨gb208, 2, none⟩) (Kd.R_far (p := ⟨gb208, 1, none⟩) (Kd.R_far (p := ⟨gb208, 0, none⟩) (Kd.R_types HO_13.out BK208.out (by decide)) (fun _ hk => hk.2) (.string (rdOf ByteArray.empty t197 1))) (fun _ hk => hk.2) (.string (rdOf ByteArray.empty t197 2))) (fun _ hk => hk.2) (.int .i64 t207)) (fun _ h_ => h_.1))) hb); replace BK208 := aZ (blk_below (g := gb208) (o := .cells #[.string (rdOf ByteArray.empty t197 1), .string (rdOf ByteArray.empty t197 2), .int .i64 t207] 174 (0, 0)) (by (with_reducible repeat (first | refine blk_drewN ?_ _ | refine blk_drew ?_ | refine blk_alloc ?_ _)); refine blk_put (cs := #[.string (rdOf ByteArray.empty t197 1), .string (rdOf ByteArray.empty t197 2), .int .i64 0]) ?_ 2 _ rfl; (with_reducible repeat (first | refine blk_drewN ?_ _ | refine blk_drew ?_ | refine blk_alloc ?_ _)); refine blk_put (cs := #[.string (rdOf ByteArray.empty t197 1), .string (⟨#[]⟩ : ByteArray), .int .i64 0]) ?_ 1 _ rfl; (with_reducible repeat (first | refine blk_drewN ?_ _ | refine blk_drew ?_ | refine blk_alloc ?_ _)); refine blk_put (cs := #[.string (⟨#[]⟩ : ByteArray), .string (⟨#[]⟩ : ByteArray), .int .i64 0]) ?_ 0 _ rfl; (with_reducible repeat (first | refine blk_drewN ?_ _ | refine blk_drew ?_ | refine blk_alloc ?_ _)); exact BK208.out) hb); replace HB := aZ (below_step bZ hb); (try clear hb); (try clear hb2); (try clear hk); (try clear hi); have hcz99_0 : w98.cell? ⟨gb208, 0, none⟩ = some (.string (rdOf ByteArray.empty t197 1)) := (blk_cell BK208.out 0).trans rfl; have hcz99_1 : w98.cell? ⟨gb208, 1, none⟩ = some (.string (rdOf ByteArray.empty t197 2)) := (blk_cell BK208.out 1).trans rfl; have hcz99_2 : w98.cell? ⟨gb208, 2, none⟩ = some (.int .i64 t207) := (blk_cell BK208.out 2).trans rfl; have hfz99_0 := blk_frozen BK208.out 0; have hfz99_1 := blk_frozen BK208.out 1; have hfz99_2 := blk_frozen BK208.out 2) | ((with_reducible refine gate_builtin (b := .append) (xs := #[.tmp 161, .tmp 163]) rfl ?_); (try (refine gate_guard (by rfl) ?_; dsimp only)); at_builtin; refine Kd.R_append k174 (w0 := w) w.heap.size rfl (.tmp 161) (.tmp 163) 90 174 (.agg #[(.string ⟨#[]⟩), (.string ⟨#[]⟩), (.int .i64 0)]) 40 rfl Try.underlying90 info174 rfl (by decide) (by omega) u11 x11_4 (⟨rdOf ByteArray.empty t197 1, rdOf ByteArray.empty t197 2, t207⟩ : S174) [.string (rdOf ByteArray.empty t197 1), .string (rdOf ByteArray.empty t197 2), .int .i64 t207] (fun k_ => some k_ ≠ (v170 : Value).ownBlock ∧ k_ ≠ gb208) (fun _ => False) rfl rfl ?aP (fun _ hk => hk.elim) ?aF ?aO ?aB ?aS ?aL ?_; (case aP => exact k174_mkM _ _ _ (⟨rdOf ByteArray.empty t197 1, rdOf ByteArray.empty t197 2, t207⟩ : S174)); (case aB => exact bZ); (case aF => exact (fun k_ hk => ⟨Kd.fresh' (Kd.R_lt (lZR HO_5.out)) k_ hk, Kd.freshB (bkZ BK208.out) k_ hk⟩)); (case aO => exact (lZR HO_11.out)); (case aS => exact (below_size bZ)); (case aL => have := LMc88.out; omega); intro v211 w100 ho hb hg hat; rw [← Ny210.out] at ho; replace HO_5 := aZ (Kd.R_after (ok := (fun k_ => k_ ≠ gb208)) (by (with_reducible repeat (first | apply Kd.R_alloc | apply Kd.R_drewN | apply Kd.R_drew)); exact Kd.R_mono HO_5.out (fun _ hk => ⟨hk.2, hk.1⟩)) hg hat); replace HO_6 := aZ (Kd.R_over' (lZR HO_6.out) (Kd.R_typed (lZR HO_11.out)) (by decide) hg); replace HO_13 := aZ (Kd.R_over' (lZR HO_13.out) (Kd.R_typed (lZR HO_11.out)) (by decide) hg); replace BK208 := aZ (blk_grown (bkZ BK208.out) hg (Kd.R_away HO_11.out (fun _ hk => hk.2))); replace HB := aZ (hb); have HO212 := aZ (ho); clear HO_11; clear ho hb hg hat))
             go_roundg kj62
             case measure => have := HJ2.out; have := HJ11.out; have := HJ37.out; have := HK4.out; have := HJ51.out; have := HJ62.out; omega
             case rel => exact ⟨(y210), (wrap64 (x12_4 + 1)), tZB, H', ⟨by have := HJ2.out; have := HJ11.out; have := HJ37.out; have := HK4.out; have := HJ51.out; have := HJ62.out; omega⟩, ⟨by (with_reducible repeat (first | apply Kd.R_alloc | apply Kd.R_drewN | apply Kd.R_drew)); exact Kd.R_mono HO_5.out (fun _ hk => hk.2)⟩, ⟨by (with_reducible repeat (first | apply Kd.R_alloc | apply Kd.R_drewN | apply Kd.R_drew)); exact Kd.R_mono HO_6.out (fun _ hk => trivial)⟩, ⟨by (with_reducible repeat (first | apply Kd.R_alloc | apply Kd.R_drewN | apply Kd.R_drew)); exact Kd.R_mono HO212.out (fun _ hk => hk.1)⟩, ⟨bZ⟩⟩
end Go.Proofs.Ytmpknbdbichdiaa.PFnExactReadBank
