import Derived.Test.YtmpknbdbichdiaaBPFnExactReadBankx0
import Derived.Test.YtmpknbdbichdiaaBPFnExactReadBankx10
import Derived.Test.YtmpknbdbichdiaaBPFnExactReadBankx13
import Derived.Test.YtmpknbdbichdiaaBPFnExactReadBankx14
import Derived.Test.YtmpknbdbichdiaaBSlimWords
namespace Go.Proofs.Ytmpknbdbichdiaa.PFnExactReadBank
open Go.Proofs.Ytmpknbdbichdiaa.SlimWords
open Go.RowKit Go.Proofs.YtmpknbdbichdiaaW.PrintWords Go.Proofs.YtmpknbdbichdiaaW.PrintLast Go.Proofs.YtmpknbdbichdiaaW.PrintMore Go.Proofs.Ytmpknbdbichdiaa.MapWords Go.Proofs.Ytmpknbdbichdiaa.IterWords Go.Proofs.Ytmpknbdbichdiaa.MarkWords
attribute [local go_sem] max2_int min2_int max_two min_two max_three min_three max_four min_four
set_option linter.unusedVariables false
set_option linter.unusedSimpArgs false
private abbrev I' := true
private abbrev O' := false
private abbrev L0' : Array Bool := #[O',O',O',O',O',O',O',O',O',O',O',O']
private abbrev L1' : Array Bool := #[I',O',O',O',O',O',O',O',O',O',O',O']
private abbrev L2' : Array Bool := #[I',I',O',O',O',O',O',O',O',O',O',O']
private abbrev L3' : Array Bool := #[I',I',I',O',O',O',O',O',O',O',O',O']
private abbrev L4' : Array Bool := #[I',I',I',O',I',O',O',O',O',O',O',O']
private abbrev L5' : Array Bool := #[I',I',I',O',I',I',O',O',O',O',O',O']
private abbrev L6' : Array Bool := #[I',I',I',O',I',I',O',I',O',O',O',O']
private abbrev L7' : Array Bool := #[I',I',I',I',I',I',O',I',O',O',O',O']
private abbrev L8' : Array Bool := #[I',I',I',I',I',I',I',I',O',O',O',O']
private abbrev L9' : Array Bool := #[I',I',I',I',I',I',I',I',I',O',O',O']
private abbrev L10' : Array Bool := #[I',I',I',I',I',I',I',I',I',I',O',O']
private abbrev L11' : Array Bool := #[I',I',I',I',I',I',I',I',I',I',I',O']
private abbrev L12' : Array Bool := #[I',I',I',I',I',I',I',I',I',I',I',I']
mutual
def impl_ReadBank.j0 : Nat → ByteArray → ByteArray → List ByteArray → Bool → Option ((List (S174)) × Int × Int)
  | 0, _, _, _, _ => none
  | k + 1, x0, x6, x8, x42 => if x42 = true then (some (([] : List (S174)), 0, 1)) else (if 1 < (x8.length : Int) then ((impl_fieldNumber.f k (rdOf ByteArray.empty x8 1) 100).bind fun bt265 => (if 2 < (x8.length : Int) then ((impl_fieldNumber.f k (rdOf ByteArray.empty x8 2) 100).bind fun bt268 => (if 3 < (x8.length : Int) then ((impl_fieldNumber.f k (rdOf ByteArray.empty x8 3) 109).bind fun bt271 => (if bt265.2 = true then (if bt268.2 = true then (if bt271.2 = true then ((impl_isDay.f bt265.1).bind fun t273 => (if t273 = true then ((impl_between.f bt268.1 1 100).bind fun t274 => (impl_ReadBank.j1 k x0 x6 bt265.1 bt268.1 bt271.1 (!t274))) else (impl_ReadBank.j1 k x0 x6 bt265.1 bt268.1 bt271.1 true))) else (impl_ReadBank.j1 k x0 x6 bt265.1 bt268.1 bt271.1 true)) else (impl_ReadBank.j1 k x0 x6 bt265.1 bt268.1 bt271.1 true)) else (impl_ReadBank.j1 k x0 x6 bt265.1 bt268.1 bt271.1 true))) else (none))) else (none))) else (none))
def impl_ReadBank.j1 : Nat → ByteArray → ByteArray → Int → Int → Int → Bool → Option ((List (S174)) × Int × Int)
  | 0, _, _, _, _, _, _ => none
  | k + 1, x0, x6, x9, x11, x13, x83 => if x83 = true then (some (([] : List (S174)), 0, 1)) else (impl_ReadBank.l0 k x0 x6 x9 x11 x13 (([] : List (S174))) 0)
def impl_ReadBank.l0 : Nat → ByteArray → ByteArray → Int → Int → Int → List (S174) → Int → Option ((List (S174)) × Int × Int)
  | 0, _, _, _, _, _, _, _ => none
  | k + 1, x0, x6, x9, x11, x13, x15, x16 => if (x15.length : Int) < x11 then (if x6.toList = ([] : List UInt8) then (impl_ReadBank.j3 k x0 x6 x9 x11 x13 x15 x16 true) else (if (x6.size : Int) ≥ 2 then (if 0 ≤ 2 then (if 2 ≤ (x6.size : Int) then (impl_ReadBank.j3 k x0 x6 x9 x11 x13 x15 x16 ((x6.extract 0 2).toList == ([84, 124] : List UInt8))) else (none)) else (none)) else (impl_ReadBank.j3 k x0 x6 x9 x11 x13 x15 x16 false))) else (if x16 = x13 then (if 0 ≤ (wrap64 ((x0.size : Int) - (x6.size : Int))) then (if (wrap64 ((x0.size : Int) - (x6.size : Int))) ≤ (x0.size : Int) then ((impl_bankCheck.f k (x0.extract 0 ((wrap64 ((x0.size : Int) - (x6.size : Int))) : Int).toNat)).bind fun t297 => ((impl_decimal.f k t297).bind fun t298 => (if 2 + t298.size ≤ 9223372036854775807 then (if ((⟨#[84, 124]⟩ : ByteArray) ++ t298).size + 1 ≤ 9223372036854775807 then (if x6.toList = (((⟨#[84, 124]⟩ : ByteArray) ++ t298) ++ (⟨#[10]⟩ : ByteArray)).toList then (some (x15, x9, 0)) else (some (([] : List (S174)), 0, 5))) else (none)) else (none)))) else (none)) else (none)) else (some (([] : List (S174)), 0, 4)))
def impl_ReadBank.j3 : Nat → ByteArray → ByteArray → Int → Int → Int → List (S174) → Int → Bool → Option ((List (S174)) × Int × Int)
  | 0, _, _, _, _, _, _, _, _ => none
  | k + 1, x0, x6, x9, x11, x13, x15, x16, x100 => if x100 = true then (some (([] : List (S174)), 0, 3)) else ((impl_firstLine.f k x6).bind fun bt278 => ((impl_cutAt.f k bt278.1 (⟨#[124]⟩ : ByteArray)).bind fun t281 => (if bt278.2.2 = true then (if (t281.length : Int) = 4 then (if 0 < (t281.length : Int) then (if (rdOf ByteArray.empty t281 0).toList = ([80] : List UInt8) then (if 1 < (t281.length : Int) then ((impl_AccountNumber.f k (rdOf ByteArray.empty t281 1)).bind fun t286 => (if t286 = true then (if 2 < (t281.length : Int) then ((impl_NameOk.f k (rdOf ByteArray.empty t281 2)).bind fun t288 => (impl_ReadBank.j4 k x0 bt278.2.1 t281 x9 x11 x13 x15 x16 (!t288))) else (none)) else (impl_ReadBank.j4 k x0 bt278.2.1 t281 x9 x11 x13 x15 x16 true))) else (none)) else (impl_ReadBank.j4 k x0 bt278.2.1 t281 x9 x11 x13 x15 x16 true)) else (none)) else (impl_ReadBank.j4 k x0 bt278.2.1 t281 x9 x11 x13 x15 x16 true)) else (impl_ReadBank.j4 k x0 bt278.2.1 t281 x9 x11 x13 x15 x16 true))))
def impl_ReadBank.j4 : Nat → ByteArray → ByteArray → List ByteArray → Int → Int → Int → List (S174) → Int → Bool → Option ((List (S174)) × Int × Int)
  | 0, _, _, _, _, _, _, _, _, _ => none
  | k + 1, x0, x6, x8, x9, x11, x13, x15, x16, x135 => if x135 = true then (some (([] : List (S174)), 0, 2)) else (if 3 < (x8.length : Int) then ((impl_fieldNumber.f k (rdOf ByteArray.empty x8 3) 109).bind fun bt290 => (if bt290.2 = true then (if 1 < (x8.length : Int) then (if 2 < (x8.length : Int) then (if x15.length < 3518437208883 then (impl_ReadBank.l0 k x0 x6 x9 x11 x13 (x15 ++ [(⟨rdOf ByteArray.empty x8 1, rdOf ByteArray.empty x8 2, bt290.1⟩ : S174)]) (wrap64 (x16 + bt290.1))) else (none)) else (none)) else (none)) else (some (([] : List (S174)), 0, 2)))) else (none))
end
def impl_ReadBank.f (k : Nat) (a0 : ByteArray) : Option ((List (S174)) × Int × Int) := if (a0.size : Int) > 20000 then (some (([] : List (S174)), 0, 1)) else ((impl_firstLine.f k a0).bind fun bt257 => ((impl_cutAt.f k bt257.1 (⟨#[124]⟩ : ByteArray)).bind fun t260 => (if bt257.2.2 = true then (if (t260.length : Int) = 4 then (if 0 < (t260.length : Int) then (impl_ReadBank.j0 k a0 bt257.2.1 t260 ((rdOf ByteArray.empty t260 0).toList != ([72] : List UInt8))) else (none)) else (impl_ReadBank.j0 k a0 bt257.2.1 t260 true)) else (impl_ReadBank.j0 k a0 bt257.2.1 t260 true))))
theorem impl_ReadBank.mono_l : ∀ k, (∀ y0 y1 y2 y3, LeO (impl_ReadBank.j0 k y0 y1 y2 y3) (impl_ReadBank.j0 (k + 1) y0 y1 y2 y3)) ∧ (∀ y0 y1 y2 y3 y4 y5, LeO (impl_ReadBank.j1 k y0 y1 y2 y3 y4 y5) (impl_ReadBank.j1 (k + 1) y0 y1 y2 y3 y4 y5)) ∧ (∀ y0 y1 y2 y3 y4 y5 y6, LeO (impl_ReadBank.l0 k y0 y1 y2 y3 y4 y5 y6) (impl_ReadBank.l0 (k + 1) y0 y1 y2 y3 y4 y5 y6)) ∧ (∀ y0 y1 y2 y3 y4 y5 y6 y7, LeO (impl_ReadBank.j3 k y0 y1 y2 y3 y4 y5 y6 y7) (impl_ReadBank.j3 (k + 1) y0 y1 y2 y3 y4 y5 y6 y7)) ∧ (∀ y0 y1 y2 y3 y4 y5 y6 y7 y8, LeO (impl_ReadBank.j4 k y0 y1 y2 y3 y4 y5 y6 y7 y8) (impl_ReadBank.j4 (k + 1) y0 y1 y2 y3 y4 y5 y6 y7 y8))
  | 0 => ⟨fun _ _ _ _ r h => by simp [impl_ReadBank.j0] at h, fun _ _ _ _ _ _ r h => by simp [impl_ReadBank.j1] at h, fun _ _ _ _ _ _ _ r h => by simp [impl_ReadBank.l0] at h, fun _ _ _ _ _ _ _ _ r h => by simp [impl_ReadBank.j3] at h, fun _ _ _ _ _ _ _ _ _ r h => by simp [impl_ReadBank.j4] at h⟩
  | k + 1 => by
    obtain ⟨ih0, ih1, ih2, ih3, ih4⟩ := impl_ReadBank.mono_l k
    refine ⟨?_, ?_, ?_, ?_, ?_⟩
    · intro y0 y1 y2 y3
      unfold impl_ReadBank.j0
      repeat' first
      | (with_reducible exact ih0 _ _ _ _)
      | (with_reducible exact ih1 _ _ _ _ _ _)
      | (with_reducible exact ih2 _ _ _ _ _ _ _)
      | (with_reducible exact ih3 _ _ _ _ _ _ _ _)
      | (with_reducible exact ih4 _ _ _ _ _ _ _ _ _)
      | (with_reducible exact impl_AccountNumber.mono _ _)
      | (with_reducible exact impl_NameOk.mono _ _)
      | (with_reducible exact impl_bankCheck.mono _ _)
      | (with_reducible exact impl_cutAt.mono _ _ _)
      | (with_reducible exact impl_decimal.mono _ _)
      | (with_reducible exact impl_fieldNumber.mono _ _ _)
      | (with_reducible exact impl_firstLine.mono _ _)
      | (with_reducible exact LeO.refl _)
      | (with_reducible exact LeO.none _)
      | (with_reducible refine LeO.ite ?_ ?_)
      | (with_reducible refine LeO.bind ?_ (fun _ => ?_))
      | exact ih0 _ _ _ _
      | exact ih1 _ _ _ _ _ _
      | exact ih2 _ _ _ _ _ _ _
      | exact ih3 _ _ _ _ _ _ _ _
      | exact ih4 _ _ _ _ _ _ _ _ _
      | exact impl_AccountNumber.mono _ _
      | exact impl_NameOk.mono _ _
      | exact impl_bankCheck.mono _ _
      | exact impl_cutAt.mono _ _ _
      | exact impl_decimal.mono _ _
      | exact impl_fieldNumber.mono _ _ _
      | exact impl_firstLine.mono _ _
      | exact LeO.none _
      | refine LeO.ite ?_ ?_
      | refine LeO.bind ?_ (fun _ => ?_)
    · intro y0 y1 y2 y3 y4 y5
      unfold impl_ReadBank.j1
      repeat' first
      | (with_reducible exact ih0 _ _ _ _)
      | (with_reducible exact ih1 _ _ _ _ _ _)
      | (with_reducible exact ih2 _ _ _ _ _ _ _)
      | (with_reducible exact ih3 _ _ _ _ _ _ _ _)
      | (with_reducible exact ih4 _ _ _ _ _ _ _ _ _)
      | (with_reducible exact impl_AccountNumber.mono _ _)
      | (with_reducible exact impl_NameOk.mono _ _)
      | (with_reducible exact impl_bankCheck.mono _ _)
      | (with_reducible exact impl_cutAt.mono _ _ _)
      | (with_reducible exact impl_decimal.mono _ _)
      | (with_reducible exact impl_fieldNumber.mono _ _ _)
      | (with_reducible exact impl_firstLine.mono _ _)
      | (with_reducible exact LeO.refl _)
      | (with_reducible exact LeO.none _)
      | (with_reducible refine LeO.ite ?_ ?_)
      | (with_reducible refine LeO.bind ?_ (fun _ => ?_))
      | exact ih0 _ _ _ _
      | exact ih1 _ _ _ _ _ _
      | exact ih2 _ _ _ _ _ _ _
      | exact ih3 _ _ _ _ _ _ _ _
      | exact ih4 _ _ _ _ _ _ _ _ _
      | exact impl_AccountNumber.mono _ _
      | exact impl_NameOk.mono _ _
      | exact impl_bankCheck.mono _ _
      | exact impl_cutAt.mono _ _ _
      | exact impl_decimal.mono _ _
      | exact impl_fieldNumber.mono _ _ _
      | exact impl_firstLine.mono _ _
      | exact LeO.none _
      | refine LeO.ite ?_ ?_
      | refine LeO.bind ?_ (fun _ => ?_)
    · intro y0 y1 y2 y3 y4 y5 y6
      unfold impl_ReadBank.l0
      repeat' first
      | (with_reducible exact ih0 _ _ _ _)
      | (with_reducible exact ih1 _ _ _ _ _ _)
      | (with_reducible exact ih2 _ _ _ _ _ _ _)
      | (with_reducible exact ih3 _ _ _ _ _ _ _ _)
      | (with_reducible exact ih4 _ _ _ _ _ _ _ _ _)
      | (with_reducible exact impl_AccountNumber.mono _ _)
      | (with_reducible exact impl_NameOk.mono _ _)
      | (with_reducible exact impl_bankCheck.mono _ _)
      | (with_reducible exact impl_cutAt.mono _ _ _)
      | (with_reducible exact impl_decimal.mono _ _)
      | (with_reducible exact impl_fieldNumber.mono _ _ _)
      | (with_reducible exact impl_firstLine.mono _ _)
      | (with_reducible exact LeO.refl _)
      | (with_reducible exact LeO.none _)
      | (with_reducible refine LeO.ite ?_ ?_)
      | (with_reducible refine LeO.bind ?_ (fun _ => ?_))
      | exact ih0 _ _ _ _
      | exact ih1 _ _ _ _ _ _
      | exact ih2 _ _ _ _ _ _ _
      | exact ih3 _ _ _ _ _ _ _ _
      | exact ih4 _ _ _ _ _ _ _ _ _
      | exact impl_AccountNumber.mono _ _
      | exact impl_NameOk.mono _ _
      | exact impl_bankCheck.mono _ _
      | exact impl_cutAt.mono _ _ _
      | exact impl_decimal.mono _ _
      | exact impl_fieldNumber.mono _ _ _
      | exact impl_firstLine.mono _ _
      | exact LeO.none _
      | refine LeO.ite ?_ ?_
      | refine LeO.bind ?_ (fun _ => ?_)
    · intro y0 y1 y2 y3 y4 y5 y6 y7
      unfold impl_ReadBank.j3
      repeat' first
      | (with_reducible exact ih0 _ _ _ _)
      | (with_reducible exact ih1 _ _ _ _ _ _)
      | (with_reducible exact ih2 _ _ _ _ _ _ _)
      | (with_reducible exact ih3 _ _ _ _ _ _ _ _)
      | (with_reducible exact ih4 _ _ _ _ _ _ _ _ _)
      | (with_reducible exact impl_AccountNumber.mono _ _)
      | (with_reducible exact impl_NameOk.mono _ _)
      | (with_reducible exact impl_bankCheck.mono _ _)
      | (with_reducible exact impl_cutAt.mono _ _ _)
      | (with_reducible exact impl_decimal.mono _ _)
      | (with_reducible exact impl_fieldNumber.mono _ _ _)
      | (with_reducible exact impl_firstLine.mono _ _)
      | (with_reducible exact LeO.refl _)
      | (with_reducible exact LeO.none _)
      | (with_reducible refine LeO.ite ?_ ?_)
      | (with_reducible refine LeO.bind ?_ (fun _ => ?_))
      | exact ih0 _ _ _ _
      | exact ih1 _ _ _ _ _ _
      | exact ih2 _ _ _ _ _ _ _
      | exact ih3 _ _ _ _ _ _ _ _
      | exact ih4 _ _ _ _ _ _ _ _ _
      | exact impl_AccountNumber.mono _ _
      | exact impl_NameOk.mono _ _
      | exact impl_bankCheck.mono _ _
      | exact impl_cutAt.mono _ _ _
      | exact impl_decimal.mono _ _
      | exact impl_fieldNumber.mono _ _ _
      | exact impl_firstLine.mono _ _
      | exact LeO.none _
      | refine LeO.ite ?_ ?_
      | refine LeO.bind ?_ (fun _ => ?_)
    · intro y0 y1 y2 y3 y4 y5 y6 y7 y8
      unfold impl_ReadBank.j4
      repeat' first
      | (with_reducible exact ih0 _ _ _ _)
      | (with_reducible exact ih1 _ _ _ _ _ _)
      | (with_reducible exact ih2 _ _ _ _ _ _ _)
      | (with_reducible exact ih3 _ _ _ _ _ _ _ _)
      | (with_reducible exact ih4 _ _ _ _ _ _ _ _ _)
      | (with_reducible exact impl_AccountNumber.mono _ _)
      | (with_reducible exact impl_NameOk.mono _ _)
      | (with_reducible exact impl_bankCheck.mono _ _)
      | (with_reducible exact impl_cutAt.mono _ _ _)
      | (with_reducible exact impl_decimal.mono _ _)
      | (with_reducible exact impl_fieldNumber.mono _ _ _)
      | (with_reducible exact impl_firstLine.mono _ _)
      | (with_reducible exact LeO.refl _)
      | (with_reducible exact LeO.none _)
      | (with_reducible refine LeO.ite ?_ ?_)
      | (with_reducible refine LeO.bind ?_ (fun _ => ?_))
      | exact ih0 _ _ _ _
      | exact ih1 _ _ _ _ _ _
      | exact ih2 _ _ _ _ _ _ _
      | exact ih3 _ _ _ _ _ _ _ _
      | exact ih4 _ _ _ _ _ _ _ _ _
      | exact impl_AccountNumber.mono _ _
      | exact impl_NameOk.mono _ _
      | exact impl_bankCheck.mono _ _
      | exact impl_cutAt.mono _ _ _
      | exact impl_decimal.mono _ _
      | exact impl_fieldNumber.mono _ _ _
      | exact impl_firstLine.mono _ _
      | exact LeO.none _
      | refine LeO.ite ?_ ?_
      | refine LeO.bind ?_ (fun _ => ?_)
theorem impl_ReadBank.mono : ∀ a0 k, LeO (impl_ReadBank.f k a0) (impl_ReadBank.f (k + 1) a0) := by
 intro a0 k
 obtain ⟨ih0, ih1, ih2, ih3, ih4⟩ := impl_ReadBank.mono_l k
 unfold impl_ReadBank.f
 repeat' first
     | (with_reducible exact ih0 _ _ _ _)
     | (with_reducible exact ih1 _ _ _ _ _ _)
     | (with_reducible exact ih2 _ _ _ _ _ _ _)
     | (with_reducible exact ih3 _ _ _ _ _ _ _ _)
     | (with_reducible exact ih4 _ _ _ _ _ _ _ _ _)
     | (with_reducible exact impl_AccountNumber.mono _ _)
     | (with_reducible exact impl_NameOk.mono _ _)
     | (with_reducible exact impl_bankCheck.mono _ _)
     | (with_reducible exact impl_cutAt.mono _ _ _)
     | (with_reducible exact impl_decimal.mono _ _)
     | (with_reducible exact impl_fieldNumber.mono _ _ _)
     | (with_reducible exact impl_firstLine.mono _ _)
     | (with_reducible exact LeO.refl _)
     | (with_reducible exact LeO.none _)
     | (with_reducible refine LeO.ite ?_ ?_)
     | (with_reducible refine LeO.bind ?_ (fun _ => ?_))
     | exact ih0 _ _ _ _
     | exact ih1 _ _ _ _ _ _
     | exact ih2 _ _ _ _ _ _ _
     | exact ih3 _ _ _ _ _ _ _ _
     | exact ih4 _ _ _ _ _ _ _ _ _
     | exact impl_AccountNumber.mono _ _
     | exact impl_NameOk.mono _ _
     | exact impl_bankCheck.mono _ _
     | exact impl_cutAt.mono _ _ _
     | exact impl_decimal.mono _ _
     | exact impl_fieldNumber.mono _ _ _
     | exact impl_firstLine.mono _ _
     | exact LeO.none _
     | refine LeO.ite ?_ ?_
     | refine LeO.bind ?_ (fun _ => ?_)
def impl_ReadBank.T25 : Bool × List (List Nat × List Nat) := (true, [([], []), ([], []), ([1], [1]), ([2], [2]), ([], []), ([4], [4]), ([5], [5]), ([], []), ([3, 6, 7], [3, 6, 7]), ([8], [8]), ([0, 9], [0, 9]), ([10, 10, 0, 1, 2, 3, 4, 5, 6, 7, 8, 9, 10], [0, 10])])
def impl_ReadBank.B25 : List Nat := [0, 0, 2, 6, 0, 16, 48, 0, 254, 510, 1023, 2047]
theorem impl_ReadBank.tab25 : rtab .any (opsOf Try.f48 25) = impl_ReadBank.T25 := by kernel_rfl
theorem impl_ReadBank.bits25 : waitsOk impl_ReadBank.T25.2 impl_ReadBank.B25 = true := by kernel_rfl
set_option maxHeartbeats 8000000 in
set_option maxRecDepth 100000 in
theorem impl_ReadBank.calls (k : Nat) (a0 : ByteArray) (r1 : List (S174)) (r2 : Int) (r3 : Int) (w : World) (h : impl_ReadBank.f k a0 = some (r1, r2, r3)) :
    Calls Try.prog 48 #[.string a0] w fun e w' => ∃ v0_ : Value, e = .returned (.tuple #[v0_, .int .i64 r2, .int .i64 r3]) ∧ Kd.R k174 174 w' w.heap.size (fun _ => True) v0_ r1 ∧ Below w.heap.size w w' := by
 have hu174 := Try.underlying174
 have HB := aZ (Below.refl w.heap.size w)
 have H : (if (a0.size : Int) > 20000 then (some (([] : List (S174)), 0, 1)) else ((impl_firstLine.f k a0).bind fun bt257 => ((impl_cutAt.f k bt257.1 (⟨#[124]⟩ : ByteArray)).bind fun t260 => (if bt257.2.2 = true then (if (t260.length : Int) = 4 then (if 0 < (t260.length : Int) then (impl_ReadBank.j0 k a0 bt257.2.1 t260 ((rdOf ByteArray.empty t260 0).toList != ([72] : List UInt8))) else (none)) else (impl_ReadBank.j0 k a0 bt257.2.1 t260 true)) else (impl_ReadBank.j0 k a0 bt257.2.1 t260 true))))) = some (r1, r2, r3) := h
 clear h
 by_cases c2 : (a0.size : Int) > 20000
 ·rw [if_pos c2] at H
  have c2b0 : decide (20000 < (a0.size : Int)) = true := decide_eq_true c2
  have c2b1 : decide (20000 < a0.size) = true := decide_eq_true (by omega)
  clear c2
  simp only [Option.some.injEq, Prod.mk.injEq] at H
  obtain ⟨rfl, rfl, rfl⟩ := H
  go_enter Try.func48, Try.ntmps48
  go_wp2
  go_ret3
  exact ⟨_, tZC, by first | exact Kd.R_nil _ _ _ _ _ | exact Kd.N_nil _ _ _ _ _ | exact Kd.V_nil _ _ _ _ _ | exact Kd.Q_nil _ _ _ _ _ | exact Kd.S_nil _ _ _ _ _, bZ⟩
 rw [if_neg c2] at H
 have c2b0 : decide (20000 < (a0.size : Int)) = false := decide_eq_false c2
 have c2b1 : decide (20000 < a0.size) = false := decide_eq_false (by omega)
 clear c2
 replace H := Option.bind_eq_some_iff.mp H
 obtain ⟨⟨t257, t258, t259⟩, A30, H⟩ := H
 replace H : ((impl_cutAt.f k t257 (⟨#[124]⟩ : ByteArray)).bind fun t260 => (if t259 = true then (if (t260.length : Int) = 4 then (if 0 < (t260.length : Int) then (impl_ReadBank.j0 k a0 t258 t260 ((rdOf ByteArray.empty t260 0).toList != ([72] : List UInt8))) else (none)) else (impl_ReadBank.j0 k a0 t258 t260 true)) else (impl_ReadBank.j0 k a0 t258 t260 true))) = some (r1, r2, r3) := H
 have A3 := Aside0.mk A30
 clear A30
 replace H := Option.bind_eq_some_iff.mp H
 obtain ⟨t260, A40, H⟩ := H
 replace H : (if t259 = true then (if (t260.length : Int) = 4 then (if 0 < (t260.length : Int) then (impl_ReadBank.j0 k a0 t258 t260 ((rdOf ByteArray.empty t260 0).toList != ([72] : List UInt8))) else (none)) else (impl_ReadBank.j0 k a0 t258 t260 true)) else (impl_ReadBank.j0 k a0 t258 t260 true)) = some (r1, r2, r3) := H
 have A4 := Aside0.mk A40
 clear A40
 have HC5 := Aside0.mk H
 clear H
 go_enter Try.func48, Try.ntmps48
 go_upto_region 5 with (first | ((with_reducible refine gate_callee (f := 125) rfl ?_); refine goesL_ (some 24) rfl rfl Try.func125 kZ rfl #[.string a0] rfl tZA ?_; (with_reducible refine (impl_firstLine.calls k a0 t257 t258 t259 _ A3.out).mono ?_); rintro e w' ⟨rfl, ⟨nd, rfl⟩⟩; refine ⟨_, rfl, ?_⟩) | ((with_reducible refine gate_callee (f := 126) rfl ?_); refine goesL_ (some 29) rfl rfl Try.func126 kZ rfl #[.string t257, .string (⟨#[124]⟩ : ByteArray)] rfl tZA ?_; (with_reducible refine (impl_cutAt.calls k t257 (⟨#[124]⟩ : ByteArray) t260 _ A4.out).mono ?_); rintro e w6 ⟨v261, rfl, ho0, hb⟩; refine ⟨_, rfl, ?_⟩; have HO262 := aZ (Kd.R_lower ho0 (below_size (lZB HB.out))); replace HB := aZ (below_step (lZB HB.out) hb); (try clear hb); (try clear hb2); (try clear hk); (try clear hi); (try clear ho0)))
 (try simp only [Act.put, sZ1, sZ2, sZ3])
 go_cut [42] (fun v42 wc => ∃ (kq : Nat) (x42_4 : Bool), v42 = .bool x42_4 ∧ Aside0 (impl_ReadBank.j0 kq a0 t258 t260 x42_4 = some (r1, r2, r3)) ∧ Aside0 (kq ≤ k) ∧ Aside0 (Kd.R Kd.string 9 wc w.heap.size (fun _ => True) v261 t260) ∧ Aside0 (Below w.heap.size w wc))
 case first =>
  have H := HC5.out
  clear HC5
  by_cases c7 : t259 = true
  rotate_left
  ·replace c7 := Bool.eq_false_iff.mpr c7
   subst c7
   have H1 : (impl_ReadBank.j0 k a0 t258 t260 true) = some (r1, r2, r3) := by rw [if_neg (show ¬ (false = true) by decide)] at H; exact H
   clear H
   have H := H1
   clear H1
   have H' := Aside0.mk H
   clear H
   go_wp2
   go_meet
   case rel => exact ⟨_, (true), tZB, H', ⟨by first | omega | exact Nat.le_refl _⟩, ⟨lZR HO262.out⟩, ⟨bZ⟩⟩
  subst c7
  have H1 : (if (t260.length : Int) = 4 then (if 0 < (t260.length : Int) then (impl_ReadBank.j0 k a0 t258 t260 ((rdOf ByteArray.empty t260 0).toList != ([72] : List UInt8))) else (none)) else (impl_ReadBank.j0 k a0 t258 t260 true)) = some (r1, r2, r3) := by rw [if_pos rfl] at H; exact H
  clear H
  have H := H1
  clear H1
  by_cases c8 : (t260.length : Int) = 4
  rotate_left
  ·rw [if_neg c8] at H
   have c8b0 : ((t260.length : Int) == 4) = false := beq_eq_false_iff_ne.mpr c8
   have c8b1 : ((t260.length : Int) != 4) = true := bne_iff_ne.mpr c8
   (first | rw [c8b0] | (simp only [i64_w, i32_w]; rw [c8b0]) | skip)
   have H' := Aside0.mk H
   clear H
   obtain ⟨Ao11, co11, eo11⟩ := Kd.R_slice HO262.out
   subst eo11
   go_wp2
   go_meet
   case rel => exact ⟨_, (true), tZB, H', ⟨by first | omega | exact Nat.le_refl _⟩, ⟨lZR HO262.out⟩, ⟨bZ⟩⟩
  rw [if_pos c8] at H
  have c8b0 : ((t260.length : Int) == 4) = true := beq_iff_eq.mpr c8
  have c8b1 : ((t260.length : Int) != 4) = false := bne_eq_false_iff_eq.mpr c8
  clear c8
  (first | rw [c8b0] | (simp only [i64_w, i32_w]; rw [c8b0]) | skip)
  by_cases c9 : 0 < (t260.length : Int)
  rotate_left
  ·rw [if_neg c9] at H
   exact absurd H (by simp)
  rw [if_pos c9] at H
  have c9b0 := decide_eq_true c9
  have c9b1 : decide (0 < t260.length) = true := decide_eq_true (by omega)
  clear c9
  have H' := Aside0.mk H
  clear H
  obtain ⟨Ao10, co10, eo10⟩ := Kd.R_slice HO262.out
  subst eo10
  have p263 : 0 ≤ (0 : Int) := (by omega)
  have q263 : 0 < (t260.length : Int) := of_decide_eq_true tZE
  obtain ⟨ad263, e263, hx263_0⟩ := Kd.at_string (Kd.R_reads' HO262.out).2.2 0 p263 q263
  cases e263
  have qi263 : (0 < t260.length) = True := eq_true (by omega)
  (try rw [show ((0 : Int)).toNat = 0 from rfl] at hx263_0)
  (try rw [Addr.add_zero'] at hx263_0)
  replace p263 := eq_true p263
  replace q263 := eq_true q263
  go_wp2
  go_meet
  case rel => exact ⟨_, (((rdOf ByteArray.empty t260 0).toList != ([72] : List UInt8))), tZB, H', ⟨by first | omega | exact Nat.le_refl _⟩, ⟨lZR HO262.out⟩, ⟨bZ⟩⟩
 case rest =>
  clear HC5
  try clear c1
  try clear c2
  try clear c2b0
  try clear c2b1
  try clear p2
  try clear q2
  try clear hx2
  try clear qi2
  try clear c4
  try clear c7
  try clear c8
  try clear c8b0
  try clear c8b1
  try clear c9
  try clear c9b0
  try clear c9b1
  try clear hx263_0
  try clear p263
  try clear q263
  obtain ⟨kq, x42_4, rfl, HA, HJ4, HO_8, HB⟩ := hcut
  cases kq with
  | zero => exact absurd HA.out (by simp [impl_ReadBank.j0])
  | succ kj4 =>
   have H := HA.out
   clear HA
   simp only [impl_ReadBank.j0] at H
   by_cases c12 : x42_4 = true
   ·subst c12
    have H1 : (some (([] : List (S174)), 0, 1)) = some (r1, r2, r3) := by rw [if_pos rfl] at H; exact H
    clear H
    have H := H1
    clear H1
    simp only [Option.some.injEq, Prod.mk.injEq] at H
    obtain ⟨rfl, rfl, rfl⟩ := H
    go_wp2
    go_ret3
    exact ⟨_, tZC, by first | exact Kd.R_nil _ _ _ _ _ | exact Kd.N_nil _ _ _ _ _ | exact Kd.V_nil _ _ _ _ _ | exact Kd.Q_nil _ _ _ _ _ | exact Kd.S_nil _ _ _ _ _, bZ⟩
   replace c12 := Bool.eq_false_iff.mpr c12
   subst c12
   have H1 : (if 1 < (t260.length : Int) then ((impl_fieldNumber.f kj4 (rdOf ByteArray.empty t260 1) 100).bind fun bt265 => (if 2 < (t260.length : Int) then ((impl_fieldNumber.f kj4 (rdOf ByteArray.empty t260 2) 100).bind fun bt268 => (if 3 < (t260.length : Int) then ((impl_fieldNumber.f kj4 (rdOf ByteArray.empty t260 3) 109).bind fun bt271 => (if bt265.2 = true then (if bt268.2 = true then (if bt271.2 = true then ((impl_isDay.f bt265.1).bind fun t273 => (if t273 = true then ((impl_between.f bt268.1 1 100).bind fun t274 => (impl_ReadBank.j1 kj4 a0 t258 bt265.1 bt268.1 bt271.1 (!t274))) else (impl_ReadBank.j1 kj4 a0 t258 bt265.1 bt268.1 bt271.1 true))) else (impl_ReadBank.j1 kj4 a0 t258 bt265.1 bt268.1 bt271.1 true)) else (impl_ReadBank.j1 kj4 a0 t258 bt265.1 bt268.1 bt271.1 true)) else (impl_ReadBank.j1 kj4 a0 t258 bt265.1 bt268.1 bt271.1 true))) else (none))) else (none))) else (none)) = some (r1, r2, r3) := by rw [if_neg (show ¬ (false = true) by decide)] at H; exact H
   clear H
   have H := H1
   clear H1
   by_cases c13 : 1 < (t260.length : Int)
   rotate_left
   ·rw [if_neg c13] at H
    exact absurd H (by simp)
   rw [if_pos c13] at H
   have c13b0 := decide_eq_true c13
   have c13b1 : decide (1 < t260.length) = true := decide_eq_true (by omega)
   clear c13
   replace H := Option.bind_eq_some_iff.mp H
   obtain ⟨⟨t265, t266⟩, A140, H⟩ := H
   replace H : (if 2 < (t260.length : Int) then ((impl_fieldNumber.f kj4 (rdOf ByteArray.empty t260 2) 100).bind fun bt268 => (if 3 < (t260.length : Int) then ((impl_fieldNumber.f kj4 (rdOf ByteArray.empty t260 3) 109).bind fun bt271 => (if t266 = true then (if bt268.2 = true then (if bt271.2 = true then ((impl_isDay.f t265).bind fun t273 => (if t273 = true then ((impl_between.f bt268.1 1 100).bind fun t274 => (impl_ReadBank.j1 kj4 a0 t258 t265 bt268.1 bt271.1 (!t274))) else (impl_ReadBank.j1 kj4 a0 t258 t265 bt268.1 bt271.1 true))) else (impl_ReadBank.j1 kj4 a0 t258 t265 bt268.1 bt271.1 true)) else (impl_ReadBank.j1 kj4 a0 t258 t265 bt268.1 bt271.1 true)) else (impl_ReadBank.j1 kj4 a0 t258 t265 bt268.1 bt271.1 true))) else (none))) else (none)) = some (r1, r2, r3) := H
   have A14 := Aside0.mk A140
   clear A140
   by_cases c15 : 2 < (t260.length : Int)
   rotate_left
   ·rw [if_neg c15] at H
    exact absurd H (by simp)
   rw [if_pos c15] at H
   have c15b0 := decide_eq_true c15
   have c15b1 : decide (2 < t260.length) = true := decide_eq_true (by omega)
   clear c15
   replace H := Option.bind_eq_some_iff.mp H
   obtain ⟨⟨t268, t269⟩, A160, H⟩ := H
   replace H : (if 3 < (t260.length : Int) then ((impl_fieldNumber.f kj4 (rdOf ByteArray.empty t260 3) 109).bind fun bt271 => (if t266 = true then (if t269 = true then (if bt271.2 = true then ((impl_isDay.f t265).bind fun t273 => (if t273 = true then ((impl_between.f t268 1 100).bind fun t274 => (impl_ReadBank.j1 kj4 a0 t258 t265 t268 bt271.1 (!t274))) else (impl_ReadBank.j1 kj4 a0 t258 t265 t268 bt271.1 true))) else (impl_ReadBank.j1 kj4 a0 t258 t265 t268 bt271.1 true)) else (impl_ReadBank.j1 kj4 a0 t258 t265 t268 bt271.1 true)) else (impl_ReadBank.j1 kj4 a0 t258 t265 t268 bt271.1 true))) else (none)) = some (r1, r2, r3) := H
   have A16 := Aside0.mk A160
   clear A160
   by_cases c17 : 3 < (t260.length : Int)
   rotate_left
   ·rw [if_neg c17] at H
    exact absurd H (by simp)
   rw [if_pos c17] at H
   have c17b0 := decide_eq_true c17
   have c17b1 : decide (3 < t260.length) = true := decide_eq_true (by omega)
   clear c17
   replace H := Option.bind_eq_some_iff.mp H
   obtain ⟨⟨t271, t272⟩, A180, H⟩ := H
   replace H : (if t266 = true then (if t269 = true then (if t272 = true then ((impl_isDay.f t265).bind fun t273 => (if t273 = true then ((impl_between.f t268 1 100).bind fun t274 => (impl_ReadBank.j1 kj4 a0 t258 t265 t268 t271 (!t274))) else (impl_ReadBank.j1 kj4 a0 t258 t265 t268 t271 true))) else (impl_ReadBank.j1 kj4 a0 t258 t265 t268 t271 true)) else (impl_ReadBank.j1 kj4 a0 t258 t265 t268 t271 true)) else (impl_ReadBank.j1 kj4 a0 t258 t265 t268 t271 true)) = some (r1, r2, r3) := H
   have A18 := Aside0.mk A180
   clear A180
   have HC19 := Aside0.mk H
   clear H
   obtain ⟨Ao20, co20, eo20⟩ := Kd.R_slice HO_8.out
   subst eo20
   have p264 : 0 ≤ (1 : Int) := (by omega)
   have q264 : 1 < (t260.length : Int) := of_decide_eq_true tZE
   obtain ⟨ad264, e264, hx264_0⟩ := Kd.at_string (Kd.R_reads' HO_8.out).2.2 1 p264 q264
   cases e264
   (try simp only [show (1 : Int).toNat = 1 from rfl, Nat.reduceMul, Nat.reduceEqDiff, Go.Addr.add, ↓reduceIte] at hx264_0)
   have qi264 : (1 < t260.length) = True := eq_true (by omega)
   (try rw [show ((1 : Int)).toNat = 1 from rfl] at hx264_0)
   replace p264 := eq_true p264
   replace q264 := eq_true q264
   go_upto_region 10 with (first | ((with_reducible refine gate_callee (f := 127) rfl ?_); refine goesL_ (some 47) rfl rfl Try.func127 kZ rfl #[.string (rdOf ByteArray.empty t260 1), .int .u8 100] rfl tZA ?_; (with_reducible refine (impl_fieldNumber.calls kj4 (rdOf ByteArray.empty t260 1) 100 t265 t266 _ A14.out).mono ?_); rintro e w21 ⟨rfl, hb⟩; refine ⟨_, rfl, ?_⟩; replace HO_8 := aZ (Kd.R_below (lZR HO_8.out) hb); replace HB := aZ (below_step (lZB HB.out) hb); (try clear hb); (try clear hb2); (try clear hk); (try clear hi); have p267 : 0 ≤ (2 : Int) := (by omega); have q267 : 2 < (t260.length : Int) := of_decide_eq_true tZE; obtain ⟨ad267, e267, hx267_0⟩ := Kd.at_string (Kd.R_reads' HO_8.out).2.2 2 p267 q267; obtain rfl : ad264 = ad267 := (by injection e267); (try simp only [show (2 : Int).toNat = 2 from rfl, Nat.reduceMul, Nat.reduceEqDiff, Go.Addr.add, ↓reduceIte] at hx267_0); have qi267 : (2 < t260.length) = True := eq_true (by omega); (try rw [show ((2 : Int)).toNat = 2 from rfl] at hx267_0); replace p267 := eq_true p267; replace q267 := eq_true q267) | ((with_reducible refine gate_callee (f := 127) rfl ?_); refine goesL_ (some 54) rfl rfl Try.func127 kZ rfl #[.string (rdOf ByteArray.empty t260 2), .int .u8 100] rfl tZA ?_; (with_reducible refine (impl_fieldNumber.calls kj4 (rdOf ByteArray.empty t260 2) 100 t268 t269 _ A16.out).mono ?_); rintro e w22 ⟨rfl, hb⟩; refine ⟨_, rfl, ?_⟩; replace HO_8 := aZ (Kd.R_below (lZR HO_8.out) hb); replace HB := aZ (below_step (lZB HB.out) hb); (try clear hb); (try clear hb2); (try clear hk); (try clear hi); have p270 : 0 ≤ (3 : Int) := (by omega); have q270 : 3 < (t260.length : Int) := of_decide_eq_true tZE; obtain ⟨ad270, e270, hx270_0⟩ := Kd.at_string (Kd.R_reads' HO_8.out).2.2 3 p270 q270; obtain rfl : ad264 = ad270 := (by injection e270); (try simp only [show (3 : Int).toNat = 3 from rfl, Nat.reduceMul, Nat.reduceEqDiff, Go.Addr.add, ↓reduceIte] at hx270_0); have qi270 : (3 < t260.length) = True := eq_true (by omega); (try rw [show ((3 : Int)).toNat = 3 from rfl] at hx270_0); replace p270 := eq_true p270; replace q270 := eq_true q270) | ((with_reducible refine gate_callee (f := 127) rfl ?_); refine goesL_ (some 61) rfl rfl Try.func127 kZ rfl #[.string (rdOf ByteArray.empty t260 3), .int .u8 109] rfl tZA ?_; (with_reducible refine (impl_fieldNumber.calls kj4 (rdOf ByteArray.empty t260 3) 109 t271 t272 _ A18.out).mono ?_); rintro e w23 ⟨rfl, hb⟩; refine ⟨_, rfl, ?_⟩; replace HO_8 := aZ (Kd.R_below (lZR HO_8.out) hb); replace HB := aZ (below_step (lZB HB.out) hb); (try clear hb); (try clear hb2); (try clear hk); (try clear hi)))
   (try simp only [Act.put, sZ1, sZ2, sZ3])
   go_cut [83] (fun v83 wc => ∃ (kq : Nat) (x83_18 : Bool), v83 = .bool x83_18 ∧ Aside0 (impl_ReadBank.j1 kq a0 t258 t265 t268 t271 x83_18 = some (r1, r2, r3)) ∧ Aside0 (kq ≤ kj4) ∧ Aside0 (Below w.heap.size w wc))
   case first =>
    have H := HC19.out
    clear HC19
    by_cases c24 : t266 = true
    rotate_left
    ·replace c24 := Bool.eq_false_iff.mpr c24
     subst c24
     have H1 : (impl_ReadBank.j1 kj4 a0 t258 t265 t268 t271 true) = some (r1, r2, r3) := by rw [if_neg (show ¬ (false = true) by decide)] at H; exact H
     clear H
     have H := H1
     clear H1
     have H' := Aside0.mk H
     clear H
     go_wp2
     go_meet
     case rel => exact ⟨_, (true), tZB, H', ⟨by have := HJ4.out; first | omega | exact Nat.le_refl _⟩, ⟨bZ⟩⟩
    subst c24
    have H1 : (if t269 = true then (if t272 = true then ((impl_isDay.f t265).bind fun t273 => (if t273 = true then ((impl_between.f t268 1 100).bind fun t274 => (impl_ReadBank.j1 kj4 a0 t258 t265 t268 t271 (!t274))) else (impl_ReadBank.j1 kj4 a0 t258 t265 t268 t271 true))) else (impl_ReadBank.j1 kj4 a0 t258 t265 t268 t271 true)) else (impl_ReadBank.j1 kj4 a0 t258 t265 t268 t271 true)) = some (r1, r2, r3) := by rw [if_pos rfl] at H; exact H
    clear H
    have H := H1
    clear H1
    by_cases c25 : t269 = true
    rotate_left
    ·replace c25 := Bool.eq_false_iff.mpr c25
     subst c25
     have H1 : (impl_ReadBank.j1 kj4 a0 t258 t265 t268 t271 true) = some (r1, r2, r3) := by rw [if_neg (show ¬ (false = true) by decide)] at H; exact H
     clear H
     have H := H1
     clear H1
     have H' := Aside0.mk H
     clear H
     go_wp2
     go_meet
     case rel => exact ⟨_, (true), tZB, H', ⟨by have := HJ4.out; first | omega | exact Nat.le_refl _⟩, ⟨bZ⟩⟩
    subst c25
    have H1 : (if t272 = true then ((impl_isDay.f t265).bind fun t273 => (if t273 = true then ((impl_between.f t268 1 100).bind fun t274 => (impl_ReadBank.j1 kj4 a0 t258 t265 t268 t271 (!t274))) else (impl_ReadBank.j1 kj4 a0 t258 t265 t268 t271 true))) else (impl_ReadBank.j1 kj4 a0 t258 t265 t268 t271 true)) = some (r1, r2, r3) := by rw [if_pos rfl] at H; exact H
    clear H
    have H := H1
    clear H1
    by_cases c26 : t272 = true
    rotate_left
    ·replace c26 := Bool.eq_false_iff.mpr c26
     subst c26
     have H1 : (impl_ReadBank.j1 kj4 a0 t258 t265 t268 t271 true) = some (r1, r2, r3) := by rw [if_neg (show ¬ (false = true) by decide)] at H; exact H
     clear H
     have H := H1
     clear H1
     have H' := Aside0.mk H
     clear H
     go_wp2
     go_meet
     case rel => exact ⟨_, (true), tZB, H', ⟨by have := HJ4.out; first | omega | exact Nat.le_refl _⟩, ⟨bZ⟩⟩
    subst c26
    have H1 : ((impl_isDay.f t265).bind fun t273 => (if t273 = true then ((impl_between.f t268 1 100).bind fun t274 => (impl_ReadBank.j1 kj4 a0 t258 t265 t268 t271 (!t274))) else (impl_ReadBank.j1 kj4 a0 t258 t265 t268 t271 true))) = some (r1, r2, r3) := by rw [if_pos rfl] at H; exact H
    clear H
    have H := H1
    clear H1
    replace H := Option.bind_eq_some_iff.mp H
    obtain ⟨t273, A270, H⟩ := H
    replace H : (if t273 = true then ((impl_between.f t268 1 100).bind fun t274 => (impl_ReadBank.j1 kj4 a0 t258 t265 t268 t271 (!t274))) else (impl_ReadBank.j1 kj4 a0 t258 t265 t268 t271 true)) = some (r1, r2, r3) := H
    have A27 := Aside0.mk A270
    clear A270
    by_cases c28 : t273 = true
    rotate_left
    ·replace c28 := Bool.eq_false_iff.mpr c28
     subst c28
     have H1 : (impl_ReadBank.j1 kj4 a0 t258 t265 t268 t271 true) = some (r1, r2, r3) := by rw [if_neg (show ¬ (false = true) by decide)] at H; exact H
     clear H
     have H := H1
     clear H1
     have H' := Aside0.mk H
     clear H
     go_wp2_with (first | (go_at_call 72; (with_reducible refine (impl_isDay.calls t265 false _ A27.out).mono ?_); rintro e w' ⟨rfl, ⟨nd, rfl⟩⟩))
     go_meet
     case rel => exact ⟨_, (true), tZB, H', ⟨by have := HJ4.out; first | omega | exact Nat.le_refl _⟩, ⟨bZ⟩⟩
    subst c28
    have H1 : ((impl_between.f t268 1 100).bind fun t274 => (impl_ReadBank.j1 kj4 a0 t258 t265 t268 t271 (!t274))) = some (r1, r2, r3) := by rw [if_pos rfl] at H; exact H
    clear H
    have H := H1
    clear H1
    replace H := Option.bind_eq_some_iff.mp H
    obtain ⟨t274, A290, H⟩ := H
    replace H : (impl_ReadBank.j1 kj4 a0 t258 t265 t268 t271 (!t274)) = some (r1, r2, r3) := H
    have A29 := Aside0.mk A290
    clear A290
    have H' := Aside0.mk H
    clear H
    go_wp2_with (first | (go_at_call 72; (with_reducible refine (impl_isDay.calls t265 true _ A27.out).mono ?_); rintro e w' ⟨rfl, ⟨nd, rfl⟩⟩) | (go_at_call 71; (with_reducible refine (impl_between.calls t268 1 100 t274 _ A29.out).mono ?_); rintro e w' ⟨rfl, ⟨nd, rfl⟩⟩))
    go_meet
    case rel => exact ⟨_, (!t274), tZB, H', ⟨by have := HJ4.out; first | omega | exact Nat.le_refl _⟩, ⟨bZ⟩⟩
   case rest =>
    clear HC19
    try clear c1
    try clear c2
    try clear c2b0
    try clear c2b1
    try clear p2
    try clear q2
    try clear hx2
    try clear qi2
    try clear c4
    try clear c7
    try clear c8
    try clear c8b0
    try clear c8b1
    try clear c9
    try clear c9b0
    try clear c9b1
    try clear c12
    try clear c13
    try clear c13b0
    try clear c13b1
    try clear c15
    try clear c15b0
    try clear c15b1
    try clear c17
    try clear c17b0
    try clear c17b1
    try clear c24
    try clear c25
    try clear c26
    try clear p26
    try clear q26
    try clear hx26
    try clear qi26
    try clear p27
    try clear q27
    try clear hx27
    try clear qi27
    try clear c28
    try clear hx263_0
    try clear hx264_0
    try clear hx267_0
    try clear hx270_0
    try clear p2
    try clear p263
    try clear p264
    try clear p267
    try clear p270
    try clear q2
    try clear q263
    try clear q264
    try clear q267
    try clear q270
    obtain ⟨kq, x83_18, rfl, HA, HJ18, HB⟩ := hcut
    cases kq with
    | zero => exact absurd HA.out (by simp [impl_ReadBank.j1])
    | succ kj18 =>
     have H := HA.out
     clear HA
     simp only [impl_ReadBank.j1] at H
     by_cases c30 : x83_18 = true
     ·subst c30
      have H1 : (some (([] : List (S174)), 0, 1)) = some (r1, r2, r3) := by rw [if_pos rfl] at H; exact H
      clear H
      have H := H1
      clear H1
      simp only [Option.some.injEq, Prod.mk.injEq] at H
      obtain ⟨rfl, rfl, rfl⟩ := H
      go_wp2
      go_ret3
      exact ⟨_, tZC, by first | exact Kd.R_nil _ _ _ _ _ | exact Kd.N_nil _ _ _ _ _ | exact Kd.V_nil _ _ _ _ _ | exact Kd.Q_nil _ _ _ _ _ | exact Kd.S_nil _ _ _ _ _, bZ⟩
     replace c30 := Bool.eq_false_iff.mpr c30
     subst c30
     have H1 : (impl_ReadBank.l0 kj18 a0 t258 t265 t268 t271 (([] : List (S174))) 0) = some (r1, r2, r3) := by rw [if_neg (show ¬ (false = true) by decide)] at H; exact H
     clear H
     have H := H1
     clear H1
     obtain ⟨y275, hy275⟩ : ∃ y_ : List (S174), y_ = (([] : List (S174))) := ⟨_, rfl⟩
     replace H : (impl_ReadBank.l0 kj18 a0 t258 t265 t268 t271 y275 0) = some (r1, r2, r3) := by first | (rw [hy275]; with_reducible exact H) | (have H2_ := (Option.bind_some _ _).symm.trans H; rw [hy275]; with_reducible exact H2_) | (have H2_ := (Option.bind_some _ _).symm.trans H; with_reducible exact H2_) | with_reducible exact H | (rw [hy275]; exact H) | exact H
     have Ny275 := Aside0.mk hy275
     clear hy275
     have H' := Aside0.mk H
     clear H
     go_wp2_with (first | ((with_reducible refine gate_dst (N := 84) rfl ?_); (try (refine gate_guard (by rfl) ?_; dsimp only)); refine Kd.R_lit k174 _ 174 ?hg (N := 84) ?hd (xs := ([] : List (S174))) (inner := []) (ok := fun _ => True) (okp := fun _ => True) ?hr ?hp (fun _ hk => hk) trivial (Below.refl _ _) (Nat.le_refl _) (by simp) ?_; (case hd => rfl); (case hg => rfl); (case hr => first | (go_simp; done) | (go_simp; rfl)); (case hp => exact (Reps.none _ _)); intro v276 w31 ho32 hb hg_ hnew_; clear hg_ hnew_; (first | rw [← Ny275.out] at ho32 | (simp only [Int.reduceToNat] at ho32; rw [← Ny275.out] at ho32)); have HO277 := aZ (Kd.R_lower ho32 (below_size (lZB HB.out))); replace HB := aZ (below_step (lZB HB.out) hb); clear hb ho32))
     go_loopg [6, 15, 16] kj18 (fun kq v6 v15 v16 w' => ∃ (x6_3 : ByteArray) (x15_3 : List (S174)) (x16_3 : Int), v6 = .string x6_3 ∧ v16 = .int .i64 x16_3 ∧ Aside0 (impl_ReadBank.l0 kq a0 x6_3 t265 t268 t271 x15_3 x16_3 = some (r1, r2, r3)) ∧ Aside0 (kq ≤ kj18) ∧ Aside0 (Kd.R k174 174 w' w.heap.size (fun _ => True) v15 x15_3) ∧ Aside0 (Below w.heap.size w w'))
     case atStart => exact ⟨(t258), (y275), (0), tZB, tZB, H', ⟨Nat.le_refl _⟩, ⟨lZR HO277.out⟩, ⟨bZ⟩⟩
     case round =>
      clear H'
      try clear c1
      try clear c2
      try clear c2b0
      try clear c2b1
      try clear p2
      try clear q2
      try clear hx2
      try clear qi2
      try clear c3
      try clear c4
      try clear c7
      try clear c8
      try clear c8b0
      try clear c8b1
      try clear c9
      try clear c9b0
      try clear c9b1
      try clear c12
      try clear c13
      try clear c13b0
      try clear c13b1
      try clear c15
      try clear c15b0
      try clear c15b1
      try clear c17
      try clear c17b0
      try clear c17b1
      try clear c24
      try clear c25
      try clear c26
      try clear p26
      try clear q26
      try clear hx26
      try clear qi26
      try clear p27
      try clear q27
      try clear hx27
      try clear qi27
      try clear c28
      try clear c30
      try clear hx263_0
      try clear hx264_0
      try clear hx267_0
      try clear hx270_0
      try clear p2
      try clear p26
      try clear p263
      try clear p264
      try clear p267
      try clear p27
      try clear p270
      try clear q2
      try clear q26
      try clear q263
      try clear q264
      try clear q267
      try clear q27
      try clear q270
      obtain ⟨x6_3, x15_3, x16_3, rfl, rfl, HA, HK3, HO_15, HB⟩ := hrel
      cases gk with
      | zero => exact absurd HA.out (by simp [impl_ReadBank.l0])
      | succ k3 =>
       have H := HA.out
       clear HA
       simp only [impl_ReadBank.l0] at H
       by_cases c33 : (x15_3.length : Int) < t268
       rotate_left
       ·rw [if_neg c33] at H
        have c33b0 := decide_eq_false c33
        clear c33
        by_cases c73 : x16_3 = t271
        rotate_left
        ·rw [if_neg c73] at H
         have c73b0 : (x16_3 == t271) = false := beq_eq_false_iff_ne.mpr c73
         have c73b1 : (x16_3 != t271) = true := bne_iff_ne.mpr c73
         simp only [Option.some.injEq, Prod.mk.injEq] at H
         obtain ⟨rfl, rfl, rfl⟩ := H
         obtain ⟨Ao86, co86, eo86⟩ := Kd.R_slice HO_15.out
         subst eo86
         go_wp2
         go_ret3
         exact ⟨_, tZC, by first | exact Kd.R_nil _ _ _ _ _ | exact Kd.N_nil _ _ _ _ _ | exact Kd.V_nil _ _ _ _ _ | exact Kd.Q_nil _ _ _ _ _ | exact Kd.S_nil _ _ _ _ _, bZ⟩
        rw [if_pos c73] at H
        have c73b0 : (x16_3 == t271) = true := beq_iff_eq.mpr c73
        have c73b1 : (x16_3 != t271) = false := bne_eq_false_iff_eq.mpr c73
        clear c73
        obtain ⟨ji74, hji74⟩ : ∃ j_ : Int, (wrap64 ((a0.size : Int) - (x6_3.size : Int))) = j_ := ⟨_, rfl⟩
        replace H : (if 0 ≤ (ji74) then (if (ji74) ≤ (a0.size : Int) then ((impl_bankCheck.f k3 (a0.extract 0 ((ji74) : Int).toNat)).bind fun t297 => ((impl_decimal.f k3 t297).bind fun t298 => (if 2 + t298.size ≤ 9223372036854775807 then (if ((⟨#[84, 124]⟩ : ByteArray) ++ t298).size + 1 ≤ 9223372036854775807 then (if x6_3.toList = (((⟨#[84, 124]⟩ : ByteArray) ++ t298) ++ (⟨#[10]⟩ : ByteArray)).toList then (some (x15_3, t265, 0)) else (some (([] : List (S174)), 0, 5))) else (none)) else (none)))) else (none)) else (none)) = some (r1, r2, r3) := by first | (rw [hji74] at H; exact H) | (simp only [hji74] at H ⊢; exact H)
        have hji74w : (IntKind.i64.wrap ((a0.size : Int) - (x6_3.size : Int))) = ji74 := (i64_w _).trans hji74
        by_cases c75 : 0 ≤ (ji74)
        rotate_left
        ·rw [if_neg c75] at H
         exact absurd H (by simp)
        rw [if_pos c75] at H
        have c75b0 := eq_true c75
        have c75b1 := decide_eq_true c75
        clear c75
        by_cases c76 : (ji74) ≤ (a0.size : Int)
        rotate_left
        ·rw [if_neg c76] at H
         exact absurd H (by simp)
        rw [if_pos c76] at H
        have c76b0 := eq_true c76
        have c76b1 := decide_eq_true c76
        clear c76
        replace H := Option.bind_eq_some_iff.mp H
        obtain ⟨t297, A770, H⟩ := H
        replace H : ((impl_decimal.f k3 t297).bind fun t298 => (if 2 + t298.size ≤ 9223372036854775807 then (if ((⟨#[84, 124]⟩ : ByteArray) ++ t298).size + 1 ≤ 9223372036854775807 then (if x6_3.toList = (((⟨#[84, 124]⟩ : ByteArray) ++ t298) ++ (⟨#[10]⟩ : ByteArray)).toList then (some (x15_3, t265, 0)) else (some (([] : List (S174)), 0, 5))) else (none)) else (none))) = some (r1, r2, r3) := H
        have A77 := Aside0.mk A770
        clear A770
        replace H := Option.bind_eq_some_iff.mp H
        obtain ⟨t298, A780, H⟩ := H
        replace H : (if 2 + t298.size ≤ 9223372036854775807 then (if ((⟨#[84, 124]⟩ : ByteArray) ++ t298).size + 1 ≤ 9223372036854775807 then (if x6_3.toList = (((⟨#[84, 124]⟩ : ByteArray) ++ t298) ++ (⟨#[10]⟩ : ByteArray)).toList then (some (x15_3, t265, 0)) else (some (([] : List (S174)), 0, 5))) else (none)) else (none)) = some (r1, r2, r3) := H
        have A78 := Aside0.mk A780
        clear A780
        by_cases c79 : 2 + t298.size ≤ 9223372036854775807
        rotate_left
        ·rw [if_neg c79] at H
         exact absurd H (by simp)
        rw [if_pos c79] at H
        have c79b0 := eq_true c79
        have c79b1 := decide_eq_true c79
        try have c79b2 := eq_false (Nat.not_lt.2 c79)
        by_cases c80 : ((⟨#[84, 124]⟩ : ByteArray) ++ t298).size + 1 ≤ 9223372036854775807
        rotate_left
        ·rw [if_neg c80] at H
         exact absurd H (by simp)
        rw [if_pos c80] at H
        have c80b0 := eq_true c80
        have c80b1 := decide_eq_true c80
        try have c80b2 := eq_false (Nat.not_lt.2 c80)
        try have c80b5 : (9223372036854775807 < 2 + t298.size + 1) = False := eq_false (by have h_ := c80; have e0_ : (⟨#[84, 124]⟩ : ByteArray).size = 2 := rfl; simp only [ByteArray.size_append, ByteArray.size_extract] at h_; omega)
        by_cases c81 : x6_3.toList = (((⟨#[84, 124]⟩ : ByteArray) ++ t298) ++ (⟨#[10]⟩ : ByteArray)).toList
        ·rw [if_pos c81] at H
         have c81b0 : (x6_3.toList == (((⟨#[84, 124]⟩ : ByteArray) ++ t298) ++ (⟨#[10]⟩ : ByteArray)).toList) = true := beq_iff_eq.mpr c81
         have c81b1 : (x6_3.toList != (((⟨#[84, 124]⟩ : ByteArray) ++ t298) ++ (⟨#[10]⟩ : ByteArray)).toList) = false := bne_eq_false_iff_eq.mpr c81
         clear c81
         simp only [Option.some.injEq, Prod.mk.injEq] at H
         obtain ⟨rfl, rfl, rfl⟩ := H
         obtain ⟨Ao82, co82, eo82⟩ := Kd.R_slice HO_15.out
         subst eo82
         go_wp2_with (first | ((with_reducible refine gate_callee (f := 131) rfl ?_); refine goesL_ (some 170) rfl rfl Try.func131 kZ rfl #[.string (a0.extract 0 ((ji74) : Int).toNat)] rfl (by (try simp only [List.map_toArray, List.map_cons, List.map_nil]); first | done | (simp only [hji74]; rfl) | rfl | (simp only [List.length_drop, List.length_take]; rfl)) ?_; (with_reducible refine (impl_bankCheck.calls k3 (a0.extract 0 ((ji74) : Int).toNat) t297 _ A77.out).mono ?_); rintro e w' ⟨rfl, ⟨nd, rfl⟩⟩; refine ⟨_, rfl, ?_⟩) | ((with_reducible refine gate_callee (f := 130) rfl ?_); refine goesL_ (some 171) rfl rfl Try.func130 kZ rfl #[.int .i64 t297] rfl tZA ?_; (with_reducible refine (impl_decimal.calls k3 t297 t298 _ A78.out).mono ?_); rintro e w83 ⟨rfl, hb⟩; refine ⟨_, rfl, ?_⟩; replace HO_15 := aZ (Kd.R_below (lZR HO_15.out) hb); replace HB := aZ (below_step (lZB HB.out) hb); (try clear hb); (try clear hb2); (try clear hk); (try clear hi)))
         go_ret3
         exact ⟨_, by first | rfl | (simp [errW_none, errW_some] <;> rfl) | (simp only [← hji74]; first | rfl | (simp [errW_none, errW_some] <;> rfl)) | (simp [*, errW_none, errW_some] <;> rfl), lZR HO_15.out, bZ⟩
        rw [if_neg c81] at H
        have c81b0 : (x6_3.toList == (((⟨#[84, 124]⟩ : ByteArray) ++ t298) ++ (⟨#[10]⟩ : ByteArray)).toList) = false := beq_eq_false_iff_ne.mpr c81
        have c81b1 : (x6_3.toList != (((⟨#[84, 124]⟩ : ByteArray) ++ t298) ++ (⟨#[10]⟩ : ByteArray)).toList) = true := bne_iff_ne.mpr c81
        simp only [Option.some.injEq, Prod.mk.injEq] at H
        obtain ⟨rfl, rfl, rfl⟩ := H
        obtain ⟨Ao84, co84, eo84⟩ := Kd.R_slice HO_15.out
        subst eo84
        go_wp2_with (first | ((with_reducible refine gate_callee (f := 131) rfl ?_); refine goesL_ (some 170) rfl rfl Try.func131 kZ rfl #[.string (a0.extract 0 ((ji74) : Int).toNat)] rfl (by (try simp only [List.map_toArray, List.map_cons, List.map_nil]); first | done | (simp only [hji74]; rfl) | rfl | (simp only [List.length_drop, List.length_take]; rfl)) ?_; (with_reducible refine (impl_bankCheck.calls k3 (a0.extract 0 ((ji74) : Int).toNat) t297 _ A77.out).mono ?_); rintro e w' ⟨rfl, ⟨nd, rfl⟩⟩; refine ⟨_, rfl, ?_⟩) | ((with_reducible refine gate_callee (f := 130) rfl ?_); refine goesL_ (some 171) rfl rfl Try.func130 kZ rfl #[.int .i64 t297] rfl tZA ?_; (with_reducible refine (impl_decimal.calls k3 t297 t298 _ A78.out).mono ?_); rintro e w85 ⟨rfl, hb⟩; refine ⟨_, rfl, ?_⟩; replace HO_15 := aZ (Kd.R_below (lZR HO_15.out) hb); replace HB := aZ (below_step (lZB HB.out) hb); (try clear hb); (try clear hb2); (try clear hk); (try clear hi)))
        go_ret3
        exact ⟨_, by first | rfl | (simp [errW_none, errW_some] <;> rfl) | (simp only [← hji74]; first | rfl | (simp [errW_none, errW_some] <;> rfl)) | (simp [*, errW_none, errW_some] <;> rfl), by first | exact Kd.R_nil _ _ _ _ _ | exact Kd.N_nil _ _ _ _ _ | exact Kd.V_nil _ _ _ _ _ | exact Kd.Q_nil _ _ _ _ _ | exact Kd.S_nil _ _ _ _ _, bZ⟩
       rw [if_pos c33] at H
       have c33b0 := decide_eq_true c33
       clear c33
       have HC34 := Aside0.mk H
       clear H
       obtain ⟨Ao35, co35, eo35⟩ := Kd.R_slice HO_15.out
       subst eo35
       go_upto_region 15 with (fail)
       go_cut [100] (fun v100 wc => ∃ (kq : Nat) (x100_33 : Bool), v100 = .bool x100_33 ∧ Aside0 (impl_ReadBank.j3 kq a0 x6_3 t265 t268 t271 x15_3 x16_3 x100_33 = some (r1, r2, r3)) ∧ Aside0 (kq ≤ k3) ∧ Aside0 (Kd.R k174 174 wc w.heap.size (fun _ => True) (.slice Ao35 x15_3.length co35) x15_3) ∧ Aside0 (Below w.heap.size w wc))
       case first =>
        have H := HC34.out
        clear HC34
        by_cases c36 : x6_3.toList = ([] : List UInt8)
        ·rw [if_pos c36] at H
         have c36b0 : (x6_3.toList == ([] : List UInt8)) = true := beq_iff_eq.mpr c36
         have c36b1 : (x6_3.toList != ([] : List UInt8)) = false := bne_eq_false_iff_eq.mpr c36
         clear c36
         (first | rw [c36b0] | (simp only [i64_w, i32_w]; rw [c36b0]) | skip)
         have H' := Aside0.mk H
         clear H
         go_wp2
         go_meet
         case rel => exact ⟨_, (true), tZB, H', ⟨by have := HJ4.out; have := HJ18.out; have := HK3.out; first | omega | exact Nat.le_refl _⟩, ⟨lZR HO_15.out⟩, ⟨bZ⟩⟩
        rw [if_neg c36] at H
        have c36b0 : (x6_3.toList == ([] : List UInt8)) = false := beq_eq_false_iff_ne.mpr c36
        have c36b1 : (x6_3.toList != ([] : List UInt8)) = true := bne_iff_ne.mpr c36
        (first | rw [c36b0] | (simp only [i64_w, i32_w]; rw [c36b0]) | skip)
        by_cases c37 : (x6_3.size : Int) ≥ 2
        rotate_left
        ·rw [if_neg c37] at H
         have c37b0 : decide (2 ≤ (x6_3.size : Int)) = false := decide_eq_false c37
         have c37b1 : decide (2 ≤ x6_3.size) = false := decide_eq_false (by omega)
         clear c37
         have H' := Aside0.mk H
         clear H
         go_wp2
         go_meet
         case rel => exact ⟨_, (false), tZB, H', ⟨by have := HJ4.out; have := HJ18.out; have := HK3.out; first | omega | exact Nat.le_refl _⟩, ⟨lZR HO_15.out⟩, ⟨bZ⟩⟩
        rw [if_pos c37] at H
        have c37b0 : decide (2 ≤ (x6_3.size : Int)) = true := decide_eq_true c37
        have c37b1 : decide (2 ≤ x6_3.size) = true := decide_eq_true (by omega)
        clear c37
        by_cases c38 : 0 ≤ 2
        rotate_left
        ·rw [if_neg c38] at H
         exact absurd H (by simp)
        rw [if_pos c38] at H
        have c38b0 := eq_true c38
        have c38b1 := decide_eq_true c38
        clear c38
        by_cases c39 : 2 ≤ (x6_3.size : Int)
        rotate_left
        ·rw [if_neg c39] at H
         exact absurd H (by simp)
        rw [if_pos c39] at H
        have c39b0 := eq_true c39
        have c39b1 := decide_eq_true c39
        clear c39
        have H' := Aside0.mk H
        clear H
        go_wp2
        go_meet
        case rel => exact ⟨_, (((x6_3.extract 0 2).toList == ([84, 124] : List UInt8))), tZB, H', ⟨by have := HJ4.out; have := HJ18.out; have := HK3.out; first | omega | exact Nat.le_refl _⟩, ⟨lZR HO_15.out⟩, ⟨bZ⟩⟩
       case rest =>
        clear HC34
        try clear c1
        try clear c2
        try clear c2b0
        try clear c2b1
        try clear p2
        try clear q2
        try clear hx2
        try clear qi2
        try clear c3
        try clear c4
        try clear c7
        try clear c8
        try clear c8b0
        try clear c8b1
        try clear c9
        try clear c9b0
        try clear c9b1
        try clear c12
        try clear c13
        try clear c13b0
        try clear c13b1
        try clear c15
        try clear c15b0
        try clear c15b1
        try clear c17
        try clear c17b0
        try clear c17b1
        try clear c24
        try clear c25
        try clear c26
        try clear p26
        try clear q26
        try clear hx26
        try clear qi26
        try clear p27
        try clear q27
        try clear hx27
        try clear qi27
        try clear c28
        try clear c30
        try clear c33
        try clear c33b0
        try clear c36
        try clear c36b0
        try clear c36b1
        try clear c37
        try clear c37b0
        try clear c37b1
        try clear c38
        try clear c38b0
        try clear c38b1
        try clear c39
        try clear c39b0
        try clear c39b1
        try clear hx263_0
        try clear hx264_0
        try clear hx267_0
        try clear hx270_0
        try clear p2
        try clear p26
        try clear p263
        try clear p264
        try clear p267
        try clear p27
        try clear p270
        try clear q2
        try clear q26
        try clear q263
        try clear q264
        try clear q267
        try clear q27
        try clear q270
        obtain ⟨kq, x100_33, rfl, HA, HJ33, HO_15, HB⟩ := hcut
        cases kq with
        | zero => exact absurd HA.out (by simp [impl_ReadBank.j3])
        | succ kj33 =>
         have H := HA.out
         clear HA
         simp only [impl_ReadBank.j3] at H
         by_cases c40 : x100_33 = true
         ·subst c40
          have H1 : (some (([] : List (S174)), 0, 3)) = some (r1, r2, r3) := by rw [if_pos rfl] at H; exact H
          clear H
          have H := H1
          clear H1
          simp only [Option.some.injEq, Prod.mk.injEq] at H
          obtain ⟨rfl, rfl, rfl⟩ := H
          go_wp2
          go_ret3
          exact ⟨_, tZC, by first | exact Kd.R_nil _ _ _ _ _ | exact Kd.N_nil _ _ _ _ _ | exact Kd.V_nil _ _ _ _ _ | exact Kd.Q_nil _ _ _ _ _ | exact Kd.S_nil _ _ _ _ _, bZ⟩
         replace c40 := Bool.eq_false_iff.mpr c40
         subst c40
         have H1 : ((impl_firstLine.f kj33 x6_3).bind fun bt278 => ((impl_cutAt.f kj33 bt278.1 (⟨#[124]⟩ : ByteArray)).bind fun t281 => (if bt278.2.2 = true then (if (t281.length : Int) = 4 then (if 0 < (t281.length : Int) then (if (rdOf ByteArray.empty t281 0).toList = ([80] : List UInt8) then (if 1 < (t281.length : Int) then ((impl_AccountNumber.f kj33 (rdOf ByteArray.empty t281 1)).bind fun t286 => (if t286 = true then (if 2 < (t281.length : Int) then ((impl_NameOk.f kj33 (rdOf ByteArray.empty t281 2)).bind fun t288 => (impl_ReadBank.j4 kj33 a0 bt278.2.1 t281 t265 t268 t271 x15_3 x16_3 (!t288))) else (none)) else (impl_ReadBank.j4 kj33 a0 bt278.2.1 t281 t265 t268 t271 x15_3 x16_3 true))) else (none)) else (impl_ReadBank.j4 kj33 a0 bt278.2.1 t281 t265 t268 t271 x15_3 x16_3 true)) else (none)) else (impl_ReadBank.j4 kj33 a0 bt278.2.1 t281 t265 t268 t271 x15_3 x16_3 true)) else (impl_ReadBank.j4 kj33 a0 bt278.2.1 t281 t265 t268 t271 x15_3 x16_3 true)))) = some (r1, r2, r3) := by rw [if_neg (show ¬ (false = true) by decide)] at H; exact H
         clear H
         have H := H1
         clear H1
         replace H := Option.bind_eq_some_iff.mp H
         obtain ⟨⟨t278, t279, t280⟩, A410, H⟩ := H
         replace H : ((impl_cutAt.f kj33 t278 (⟨#[124]⟩ : ByteArray)).bind fun t281 => (if t280 = true then (if (t281.length : Int) = 4 then (if 0 < (t281.length : Int) then (if (rdOf ByteArray.empty t281 0).toList = ([80] : List UInt8) then (if 1 < (t281.length : Int) then ((impl_AccountNumber.f kj33 (rdOf ByteArray.empty t281 1)).bind fun t286 => (if t286 = true then (if 2 < (t281.length : Int) then ((impl_NameOk.f kj33 (rdOf ByteArray.empty t281 2)).bind fun t288 => (impl_ReadBank.j4 kj33 a0 t279 t281 t265 t268 t271 x15_3 x16_3 (!t288))) else (none)) else (impl_ReadBank.j4 kj33 a0 t279 t281 t265 t268 t271 x15_3 x16_3 true))) else (none)) else (impl_ReadBank.j4 kj33 a0 t279 t281 t265 t268 t271 x15_3 x16_3 true)) else (none)) else (impl_ReadBank.j4 kj33 a0 t279 t281 t265 t268 t271 x15_3 x16_3 true)) else (impl_ReadBank.j4 kj33 a0 t279 t281 t265 t268 t271 x15_3 x16_3 true))) = some (r1, r2, r3) := H
         have A41 := Aside0.mk A410
         clear A410
         replace H := Option.bind_eq_some_iff.mp H
         obtain ⟨t281, A420, H⟩ := H
         replace H : (if t280 = true then (if (t281.length : Int) = 4 then (if 0 < (t281.length : Int) then (if (rdOf ByteArray.empty t281 0).toList = ([80] : List UInt8) then (if 1 < (t281.length : Int) then ((impl_AccountNumber.f kj33 (rdOf ByteArray.empty t281 1)).bind fun t286 => (if t286 = true then (if 2 < (t281.length : Int) then ((impl_NameOk.f kj33 (rdOf ByteArray.empty t281 2)).bind fun t288 => (impl_ReadBank.j4 kj33 a0 t279 t281 t265 t268 t271 x15_3 x16_3 (!t288))) else (none)) else (impl_ReadBank.j4 kj33 a0 t279 t281 t265 t268 t271 x15_3 x16_3 true))) else (none)) else (impl_ReadBank.j4 kj33 a0 t279 t281 t265 t268 t271 x15_3 x16_3 true)) else (none)) else (impl_ReadBank.j4 kj33 a0 t279 t281 t265 t268 t271 x15_3 x16_3 true)) else (impl_ReadBank.j4 kj33 a0 t279 t281 t265 t268 t271 x15_3 x16_3 true)) = some (r1, r2, r3) := H
         have A42 := Aside0.mk A420
         clear A420
         have HC43 := Aside0.mk H
         clear H
         go_upto_region 19 with (first | ((with_reducible refine gate_callee (f := 125) rfl ?_); refine goesL_ (some 103) rfl rfl Try.func125 kZ rfl #[.string x6_3] rfl tZA ?_; (with_reducible refine (impl_firstLine.calls kj33 x6_3 t278 t279 t280 _ A41.out).mono ?_); rintro e w' ⟨rfl, ⟨nd, rfl⟩⟩; refine ⟨_, rfl, ?_⟩) | ((with_reducible refine gate_callee (f := 126) rfl ?_); refine goesL_ (some 108) rfl rfl Try.func126 kZ rfl #[.string t278, .string (⟨#[124]⟩ : ByteArray)] rfl tZA ?_; (with_reducible refine (impl_cutAt.calls kj33 t278 (⟨#[124]⟩ : ByteArray) t281 _ A42.out).mono ?_); rintro e w44 ⟨v282, rfl, ho0, hb⟩; refine ⟨_, rfl, ?_⟩; replace HO_15 := aZ (Kd.R_below (lZR HO_15.out) hb); have HO283 := aZ (Kd.R_lower ho0 (below_size (lZB HB.out))); replace HB := aZ (below_step (lZB HB.out) hb); (try clear hb); (try clear hb2); (try clear hk); (try clear hi); (try clear ho0)))
         (try simp only [Act.put, sZ1, sZ2, sZ3])
         go_cut [135] (fun v135 wc => ∃ (kq : Nat) (x135_42 : Bool), v135 = .bool x135_42 ∧ Aside0 (impl_ReadBank.j4 kq a0 t279 t281 t265 t268 t271 x15_3 x16_3 x135_42 = some (r1, r2, r3)) ∧ Aside0 (kq ≤ kj33) ∧ Aside0 (Kd.R Kd.string 9 wc w.heap.size (fun _ => True) v282 t281) ∧ Aside0 (Kd.R k174 174 wc w.heap.size (fun _ => True) (.slice Ao35 x15_3.length co35) x15_3) ∧ Aside0 (Below w.heap.size w wc))
         case first =>
          have H := HC43.out
          clear HC43
          by_cases c45 : t280 = true
          rotate_left
          ·replace c45 := Bool.eq_false_iff.mpr c45
           subst c45
           have H1 : (impl_ReadBank.j4 kj33 a0 t279 t281 t265 t268 t271 x15_3 x16_3 true) = some (r1, r2, r3) := by rw [if_neg (show ¬ (false = true) by decide)] at H; exact H
           clear H
           have H := H1
           clear H1
           have H' := Aside0.mk H
           clear H
           go_wp2
           go_meet
           case rel => exact ⟨_, (true), tZB, H', ⟨by have := HJ4.out; have := HJ18.out; have := HK3.out; have := HJ33.out; first | omega | exact Nat.le_refl _⟩, ⟨lZR HO283.out⟩, ⟨lZR HO_15.out⟩, ⟨bZ⟩⟩
          subst c45
          have H1 : (if (t281.length : Int) = 4 then (if 0 < (t281.length : Int) then (if (rdOf ByteArray.empty t281 0).toList = ([80] : List UInt8) then (if 1 < (t281.length : Int) then ((impl_AccountNumber.f kj33 (rdOf ByteArray.empty t281 1)).bind fun t286 => (if t286 = true then (if 2 < (t281.length : Int) then ((impl_NameOk.f kj33 (rdOf ByteArray.empty t281 2)).bind fun t288 => (impl_ReadBank.j4 kj33 a0 t279 t281 t265 t268 t271 x15_3 x16_3 (!t288))) else (none)) else (impl_ReadBank.j4 kj33 a0 t279 t281 t265 t268 t271 x15_3 x16_3 true))) else (none)) else (impl_ReadBank.j4 kj33 a0 t279 t281 t265 t268 t271 x15_3 x16_3 true)) else (none)) else (impl_ReadBank.j4 kj33 a0 t279 t281 t265 t268 t271 x15_3 x16_3 true)) = some (r1, r2, r3) := by rw [if_pos rfl] at H; exact H
          clear H
          have H := H1
          clear H1
          by_cases c46 : (t281.length : Int) = 4
          rotate_left
          ·rw [if_neg c46] at H
           have c46b0 : ((t281.length : Int) == 4) = false := beq_eq_false_iff_ne.mpr c46
           have c46b1 : ((t281.length : Int) != 4) = true := bne_iff_ne.mpr c46
           (first | rw [c46b0] | (simp only [i64_w, i32_w]; rw [c46b0]) | skip)
           have H' := Aside0.mk H
           clear H
           obtain ⟨Ao59, co59, eo59⟩ := Kd.R_slice HO283.out
           subst eo59
           go_wp2
           go_meet
           case rel => exact ⟨_, (true), tZB, H', ⟨by have := HJ4.out; have := HJ18.out; have := HK3.out; have := HJ33.out; first | omega | exact Nat.le_refl _⟩, ⟨lZR HO283.out⟩, ⟨lZR HO_15.out⟩, ⟨bZ⟩⟩
          rw [if_pos c46] at H
          have c46b0 : ((t281.length : Int) == 4) = true := beq_iff_eq.mpr c46
          have c46b1 : ((t281.length : Int) != 4) = false := bne_eq_false_iff_eq.mpr c46
          clear c46
          (first | rw [c46b0] | (simp only [i64_w, i32_w]; rw [c46b0]) | skip)
          by_cases c47 : 0 < (t281.length : Int)
          rotate_left
          ·rw [if_neg c47] at H
           exact absurd H (by simp)
          rw [if_pos c47] at H
          have c47b0 := decide_eq_true c47
          have c47b1 : decide (0 < t281.length) = true := decide_eq_true (by omega)
          clear c47
          by_cases c48 : (rdOf ByteArray.empty t281 0).toList = ([80] : List UInt8)
          rotate_left
          ·rw [if_neg c48] at H
           have c48b0 : ((rdOf ByteArray.empty t281 0).toList == ([80] : List UInt8)) = false := beq_eq_false_iff_ne.mpr c48
           have c48b1 : ((rdOf ByteArray.empty t281 0).toList != ([80] : List UInt8)) = true := bne_iff_ne.mpr c48
           have H' := Aside0.mk H
           clear H
           obtain ⟨Ao58, co58, eo58⟩ := Kd.R_slice HO283.out
           subst eo58
           have p284 : 0 ≤ (0 : Int) := (by omega)
           have q284 : 0 < (t281.length : Int) := of_decide_eq_true tZE
           obtain ⟨ad284, e284, hx284_0⟩ := Kd.at_string (Kd.R_reads' HO283.out).2.2 0 p284 q284
           cases e284
           have qi284 : (0 < t281.length) = True := eq_true (by omega)
           (try rw [show ((0 : Int)).toNat = 0 from rfl] at hx284_0)
           (try rw [Addr.add_zero'] at hx284_0)
           replace p284 := eq_true p284
           replace q284 := eq_true q284
           go_wp2
           go_meet
           case rel => exact ⟨_, (true), tZB, H', ⟨by have := HJ4.out; have := HJ18.out; have := HK3.out; have := HJ33.out; first | omega | exact Nat.le_refl _⟩, ⟨lZR HO283.out⟩, ⟨lZR HO_15.out⟩, ⟨bZ⟩⟩
          rw [if_pos c48] at H
          have c48b0 : ((rdOf ByteArray.empty t281 0).toList == ([80] : List UInt8)) = true := beq_iff_eq.mpr c48
          have c48b1 : ((rdOf ByteArray.empty t281 0).toList != ([80] : List UInt8)) = false := bne_eq_false_iff_eq.mpr c48
          clear c48
          by_cases c49 : 1 < (t281.length : Int)
          rotate_left
          ·rw [if_neg c49] at H
           exact absurd H (by simp)
          rw [if_pos c49] at H
          have c49b0 := decide_eq_true c49
          have c49b1 : decide (1 < t281.length) = true := decide_eq_true (by omega)
          clear c49
          replace H := Option.bind_eq_some_iff.mp H
          obtain ⟨t286, A500, H⟩ := H
          replace H : (if t286 = true then (if 2 < (t281.length : Int) then ((impl_NameOk.f kj33 (rdOf ByteArray.empty t281 2)).bind fun t288 => (impl_ReadBank.j4 kj33 a0 t279 t281 t265 t268 t271 x15_3 x16_3 (!t288))) else (none)) else (impl_ReadBank.j4 kj33 a0 t279 t281 t265 t268 t271 x15_3 x16_3 true)) = some (r1, r2, r3) := H
          have A50 := Aside0.mk A500
          clear A500
          by_cases c51 : t286 = true
          rotate_left
          ·replace c51 := Bool.eq_false_iff.mpr c51
           subst c51
           have H1 : (impl_ReadBank.j4 kj33 a0 t279 t281 t265 t268 t271 x15_3 x16_3 true) = some (r1, r2, r3) := by rw [if_neg (show ¬ (false = true) by decide)] at H; exact H
           clear H
           have H := H1
           clear H1
           have H' := Aside0.mk H
           clear H
           obtain ⟨Ao56, co56, eo56⟩ := Kd.R_slice HO283.out
           subst eo56
           have p284 : 0 ≤ (0 : Int) := (by omega)
           have q284 : 0 < (t281.length : Int) := of_decide_eq_true tZE
           obtain ⟨ad284, e284, hx284_0⟩ := Kd.at_string (Kd.R_reads' HO283.out).2.2 0 p284 q284
           cases e284
           have qi284 : (0 < t281.length) = True := eq_true (by omega)
           (try rw [show ((0 : Int)).toNat = 0 from rfl] at hx284_0)
           (try rw [Addr.add_zero'] at hx284_0)
           replace p284 := eq_true p284
           replace q284 := eq_true q284
           have p285 : 0 ≤ (1 : Int) := (by omega)
           have q285 : 1 < (t281.length : Int) := of_decide_eq_true tZE
           obtain ⟨ad285, e285, hx285_0⟩ := Kd.at_string (Kd.R_reads' HO283.out).2.2 1 p285 q285
           obtain rfl : ad284 = ad285 := (by injection e285)
           (try simp only [show (1 : Int).toNat = 1 from rfl, Nat.reduceMul, Nat.reduceEqDiff, Go.Addr.add, ↓reduceIte] at hx285_0)
           have qi285 : (1 < t281.length) = True := eq_true (by omega)
           (try rw [show ((1 : Int)).toNat = 1 from rfl] at hx285_0)
           replace p285 := eq_true p285
           replace q285 := eq_true q285
           go_wp2_with (first | (go_at_call 128; (with_reducible refine (impl_AccountNumber.calls kj33 (rdOf ByteArray.empty t281 1) false _ A50.out).mono ?_); rintro e w57 ⟨rfl, hb⟩; replace HO_15 := aZ (Kd.R_below (lZR HO_15.out) hb); replace HO283 := aZ (Kd.R_below (lZR HO283.out) hb); replace HB := aZ (below_step (lZB HB.out) hb); (try clear hb); (try clear hb2); (try clear hk); (try clear hi)))
           go_meet
           case rel => exact ⟨_, (true), tZB, H', ⟨by have := HJ4.out; have := HJ18.out; have := HK3.out; have := HJ33.out; first | omega | exact Nat.le_refl _⟩, ⟨lZR HO283.out⟩, ⟨lZR HO_15.out⟩, ⟨bZ⟩⟩
          subst c51
          have H1 : (if 2 < (t281.length : Int) then ((impl_NameOk.f kj33 (rdOf ByteArray.empty t281 2)).bind fun t288 => (impl_ReadBank.j4 kj33 a0 t279 t281 t265 t268 t271 x15_3 x16_3 (!t288))) else (none)) = some (r1, r2, r3) := by rw [if_pos rfl] at H; exact H
          clear H
          have H := H1
          clear H1
          by_cases c52 : 2 < (t281.length : Int)
          rotate_left
          ·rw [if_neg c52] at H
           exact absurd H (by simp)
          rw [if_pos c52] at H
          have c52b0 := decide_eq_true c52
          have c52b1 : decide (2 < t281.length) = true := decide_eq_true (by omega)
          clear c52
          replace H := Option.bind_eq_some_iff.mp H
          obtain ⟨t288, A530, H⟩ := H
          replace H : (impl_ReadBank.j4 kj33 a0 t279 t281 t265 t268 t271 x15_3 x16_3 (!t288)) = some (r1, r2, r3) := H
          have A53 := Aside0.mk A530
          clear A530
          have H' := Aside0.mk H
          clear H
          obtain ⟨Ao54, co54, eo54⟩ := Kd.R_slice HO283.out
          subst eo54
          have p284 : 0 ≤ (0 : Int) := (by omega)
          have q284 : 0 < (t281.length : Int) := of_decide_eq_true tZE
          obtain ⟨ad284, e284, hx284_0⟩ := Kd.at_string (Kd.R_reads' HO283.out).2.2 0 p284 q284
          cases e284
          have qi284 : (0 < t281.length) = True := eq_true (by omega)
          (try rw [show ((0 : Int)).toNat = 0 from rfl] at hx284_0)
          (try rw [Addr.add_zero'] at hx284_0)
          replace p284 := eq_true p284
          replace q284 := eq_true q284
          have p285 : 0 ≤ (1 : Int) := (by omega)
          have q285 : 1 < (t281.length : Int) := of_decide_eq_true tZE
          obtain ⟨ad285, e285, hx285_0⟩ := Kd.at_string (Kd.R_reads' HO283.out).2.2 1 p285 q285
          obtain rfl : ad284 = ad285 := (by injection e285)
          (try simp only [show (1 : Int).toNat = 1 from rfl, Nat.reduceMul, Nat.reduceEqDiff, Go.Addr.add, ↓reduceIte] at hx285_0)
          have qi285 : (1 < t281.length) = True := eq_true (by omega)
          (try rw [show ((1 : Int)).toNat = 1 from rfl] at hx285_0)
          replace p285 := eq_true p285
          replace q285 := eq_true q285
          go_wp2_with (first | (go_at_call 128; (with_reducible refine (impl_AccountNumber.calls kj33 (rdOf ByteArray.empty t281 1) true _ A50.out).mono ?_); rintro e w55 ⟨rfl, hb⟩; replace HO_15 := aZ (Kd.R_below (lZR HO_15.out) hb); replace HO283 := aZ (Kd.R_below (lZR HO283.out) hb); replace HB := aZ (below_step (lZB HB.out) hb); (try clear hb); (try clear hb2); (try clear hk); (try clear hi); have p287 : 0 ≤ (2 : Int) := (by omega); have q287 : 2 < (t281.length : Int) := of_decide_eq_true tZE; obtain ⟨ad287, e287, hx287_0⟩ := Kd.at_string (Kd.R_reads' HO283.out).2.2 2 p287 q287; obtain rfl : ad284 = ad287 := (by injection e287); (try simp only [show (2 : Int).toNat = 2 from rfl, Nat.reduceMul, Nat.reduceEqDiff, Go.Addr.add, ↓reduceIte] at hx287_0); have qi287 : (2 < t281.length) = True := eq_true (by omega); (try rw [show ((2 : Int)).toNat = 2 from rfl] at hx287_0); replace p287 := eq_true p287; replace q287 := eq_true q287) | (go_at_call 129; (with_reducible refine (impl_NameOk.calls kj33 (rdOf ByteArray.empty t281 2) t288 _ A53.out).mono ?_); rintro e w' ⟨rfl, ⟨nd, rfl⟩⟩))
          go_meet
          case rel => exact ⟨_, (!t288), tZB, H', ⟨by have := HJ4.out; have := HJ18.out; have := HK3.out; have := HJ33.out; first | omega | exact Nat.le_refl _⟩, ⟨lZR HO283.out⟩, ⟨lZR HO_15.out⟩, ⟨bZ⟩⟩
         case rest =>
          clear HC43
          try clear c1
          try clear c2
          try clear c2b0
          try clear c2b1
          try clear p2
          try clear q2
          try clear hx2
          try clear qi2
          try clear c3
          try clear c4
          try clear c5
          try clear c7
          try clear c8
          try clear c8b0
          try clear c8b1
          try clear c9
          try clear c9b0
          try clear c9b1
          try clear c12
          try clear c13
          try clear c13b0
          try clear c13b1
          try clear c15
          try clear c15b0
          try clear c15b1
          try clear c17
          try clear c17b0
          try clear c17b1
          try clear c24
          try clear c25
          try clear c26
          try clear p26
          try clear q26
          try clear hx26
          try clear qi26
          try clear p27
          try clear q27
          try clear hx27
          try clear qi27
          try clear c28
          try clear p28
          try clear q28
          try clear hx28
          try clear qi28
          try clear c30
          try clear c33
          try clear c33b0
          try clear c36
          try clear c36b0
          try clear c36b1
          try clear c37
          try clear c37b0
          try clear c37b1
          try clear c38
          try clear c38b0
          try clear c38b1
          try clear c39
          try clear c39b0
          try clear c39b1
          try clear c40
          try clear c45
          try clear c46
          try clear c46b0
          try clear c46b1
          try clear c47
          try clear c47b0
          try clear c47b1
          try clear c48
          try clear c48b0
          try clear c48b1
          try clear c49
          try clear c49b0
          try clear c49b1
          try clear c51
          try clear c52
          try clear c52b0
          try clear c52b1
          try clear hx263_0
          try clear hx264_0
          try clear hx267_0
          try clear hx270_0
          try clear hx284_0
          try clear hx285_0
          try clear hx287_0
          try clear p2
          try clear p26
          try clear p263
          try clear p264
          try clear p267
          try clear p27
          try clear p270
          try clear p284
          try clear p285
          try clear p287
          try clear q2
          try clear q26
          try clear q263
          try clear q264
          try clear q267
          try clear q27
          try clear q270
          try clear q284
          try clear q285
          try clear q287
          obtain ⟨kq, x135_42, rfl, HA, HJ42, HO_8, HO_15, HB⟩ := hcut
          cases kq with
          | zero => exact absurd HA.out (by simp [impl_ReadBank.j4])
          | succ kj42 =>
           have H := HA.out
           clear HA
           simp only [impl_ReadBank.j4] at H
           by_cases c60 : x135_42 = true
           ·subst c60
            have H1 : (some (([] : List (S174)), 0, 2)) = some (r1, r2, r3) := by rw [if_pos rfl] at H; exact H
            clear H
            have H := H1
            clear H1
            simp only [Option.some.injEq, Prod.mk.injEq] at H
            obtain ⟨rfl, rfl, rfl⟩ := H
            go_wp2
            go_ret3
            exact ⟨_, tZC, by first | exact Kd.R_nil _ _ _ _ _ | exact Kd.N_nil _ _ _ _ _ | exact Kd.V_nil _ _ _ _ _ | exact Kd.Q_nil _ _ _ _ _ | exact Kd.S_nil _ _ _ _ _, bZ⟩
           replace c60 := Bool.eq_false_iff.mpr c60
           subst c60
           have H1 : (if 3 < (t281.length : Int) then ((impl_fieldNumber.f kj42 (rdOf ByteArray.empty t281 3) 109).bind fun bt290 => (if bt290.2 = true then (if 1 < (t281.length : Int) then (if 2 < (t281.length : Int) then (if x15_3.length < 3518437208883 then (impl_ReadBank.l0 kj42 a0 t279 t265 t268 t271 (x15_3 ++ [(⟨rdOf ByteArray.empty t281 1, rdOf ByteArray.empty t281 2, bt290.1⟩ : S174)]) (wrap64 (x16_3 + bt290.1))) else (none)) else (none)) else (none)) else (some (([] : List (S174)), 0, 2)))) else (none)) = some (r1, r2, r3) := by rw [if_neg (show ¬ (false = true) by decide)] at H; exact H
           clear H
           have H := H1
           clear H1
           by_cases c61 : 3 < (t281.length : Int)
           rotate_left
           ·rw [if_neg c61] at H
            exact absurd H (by simp)
           rw [if_pos c61] at H
           have c61b0 := decide_eq_true c61
           have c61b1 : decide (3 < t281.length) = true := decide_eq_true (by omega)
           clear c61
           replace H := Option.bind_eq_some_iff.mp H
           obtain ⟨⟨t290, t291⟩, A620, H⟩ := H
           replace H : (if t291 = true then (if 1 < (t281.length : Int) then (if 2 < (t281.length : Int) then (if x15_3.length < 3518437208883 then (impl_ReadBank.l0 kj42 a0 t279 t265 t268 t271 (x15_3 ++ [(⟨rdOf ByteArray.empty t281 1, rdOf ByteArray.empty t281 2, t290⟩ : S174)]) (wrap64 (x16_3 + t290))) else (none)) else (none)) else (none)) else (some (([] : List (S174)), 0, 2))) = some (r1, r2, r3) := H
           have A62 := Aside0.mk A620
           clear A620
           by_cases c63 : t291 = true
           rotate_left
           ·replace c63 := Bool.eq_false_iff.mpr c63
            subst c63
            have H1 : (some (([] : List (S174)), 0, 2)) = some (r1, r2, r3) := by rw [if_neg (show ¬ (false = true) by decide)] at H; exact H
            clear H
            have H := H1
            clear H1
            simp only [Option.some.injEq, Prod.mk.injEq] at H
            obtain ⟨rfl, rfl, rfl⟩ := H
            obtain ⟨Ao71, co71, eo71⟩ := Kd.R_slice HO_8.out
            subst eo71
            have p289 : 0 ≤ (3 : Int) := (by omega)
            have q289 : 3 < (t281.length : Int) := of_decide_eq_true tZE
            obtain ⟨ad289, e289, hx289_0⟩ := Kd.at_string (Kd.R_reads' HO_8.out).2.2 3 p289 q289
            cases e289
            (try simp only [show (3 : Int).toNat = 3 from rfl, Nat.reduceMul, Nat.reduceEqDiff, Go.Addr.add, ↓reduceIte] at hx289_0)
            have qi289 : (3 < t281.length) = True := eq_true (by omega)
            (try rw [show ((3 : Int)).toNat = 3 from rfl] at hx289_0)
            replace p289 := eq_true p289
            replace q289 := eq_true q289
            go_wp2_with (first | ((with_reducible refine gate_callee (f := 127) rfl ?_); refine goesL_ (some 140) rfl rfl Try.func127 kZ rfl #[.string (rdOf ByteArray.empty t281 3), .int .u8 109] rfl tZA ?_; (with_reducible refine (impl_fieldNumber.calls kj42 (rdOf ByteArray.empty t281 3) 109 t290 false _ A62.out).mono ?_); rintro e w72 ⟨rfl, hb⟩; refine ⟨_, rfl, ?_⟩; replace HO_8 := aZ (Kd.R_below (lZR HO_8.out) hb); replace HO_15 := aZ (Kd.R_below (lZR HO_15.out) hb); replace HB := aZ (below_step (lZB HB.out) hb); (try clear hb); (try clear hb2); (try clear hk); (try clear hi)))
            go_ret3
            exact ⟨_, tZC, by first | exact Kd.R_nil _ _ _ _ _ | exact Kd.N_nil _ _ _ _ _ | exact Kd.V_nil _ _ _ _ _ | exact Kd.Q_nil _ _ _ _ _ | exact Kd.S_nil _ _ _ _ _, bZ⟩
           subst c63
           have H1 : (if 1 < (t281.length : Int) then (if 2 < (t281.length : Int) then (if x15_3.length < 3518437208883 then (impl_ReadBank.l0 kj42 a0 t279 t265 t268 t271 (x15_3 ++ [(⟨rdOf ByteArray.empty t281 1, rdOf ByteArray.empty t281 2, t290⟩ : S174)]) (wrap64 (x16_3 + t290))) else (none)) else (none)) else (none)) = some (r1, r2, r3) := by rw [if_pos rfl] at H; exact H
           clear H
           have H := H1
           clear H1
           by_cases c64 : 1 < (t281.length : Int)
           rotate_left
           ·rw [if_neg c64] at H
            exact absurd H (by simp)
           rw [if_pos c64] at H
           have c64b0 := decide_eq_true c64
           have c64b1 : decide (1 < t281.length) = true := decide_eq_true (by omega)
           clear c64
           by_cases c65 : 2 < (t281.length : Int)
           rotate_left
           ·rw [if_neg c65] at H
            exact absurd H (by simp)
           rw [if_pos c65] at H
           have c65b0 := decide_eq_true c65
           have c65b1 : decide (2 < t281.length) = true := decide_eq_true (by omega)
           clear c65
           by_cases c66 : x15_3.length < 3518437208883
           rotate_left
           ·rw [if_neg c66] at H
            exact absurd H (by simp)
           rw [if_pos c66] at H
           have LMc66 := Aside0.mk c66
           clear c66
           obtain ⟨y294, hy294⟩ : ∃ y_ : List (S174), y_ = (x15_3 ++ [(⟨rdOf ByteArray.empty t281 1, rdOf ByteArray.empty t281 2, t290⟩ : S174)]) := ⟨_, rfl⟩
           replace H : (impl_ReadBank.l0 kj42 a0 t279 t265 t268 t271 y294 (wrap64 (x16_3 + t290))) = some (r1, r2, r3) := by first | (rw [hy294]; with_reducible exact H) | (have H2_ := (Option.bind_some _ _).symm.trans H; rw [hy294]; with_reducible exact H2_) | (have H2_ := (Option.bind_some _ _).symm.trans H; with_reducible exact H2_) | with_reducible exact H | (rw [hy294]; exact H) | exact H
           have Ny294 := Aside0.mk hy294
           clear hy294
           have H' := Aside0.mk H
           clear H
           obtain ⟨Ao67, co67, eo67⟩ := Kd.R_slice HO_8.out
           subst eo67
           have p289 : 0 ≤ (3 : Int) := (by omega)
           have q289 : 3 < (t281.length : Int) := of_decide_eq_true tZE
           obtain ⟨ad289, e289, hx289_0⟩ := Kd.at_string (Kd.R_reads' HO_8.out).2.2 3 p289 q289
           cases e289
           (try simp only [show (3 : Int).toNat = 3 from rfl, Nat.reduceMul, Nat.reduceEqDiff, Go.Addr.add, ↓reduceIte] at hx289_0)
           have qi289 : (3 < t281.length) = True := eq_true (by omega)
           (try rw [show ((3 : Int)).toNat = 3 from rfl] at hx289_0)
           replace p289 := eq_true p289
           replace q289 := eq_true q289
           try go_wp2_with (first | ((with_reducible refine gate_callee (f := 127) rfl ?_); refine goesL_ (some 140) rfl rfl Try.func127 kZ rfl #[.string (rdOf ByteArray.empty t281 3), .int .u8 109] rfl tZA ?_; (with_reducible refine (impl_fieldNumber.calls kj42 (rdOf ByteArray.empty t281 3) 109 t290 true _ A62.out).mono ?_); rintro e w68 ⟨rfl, hb⟩; refine ⟨_, rfl, ?_⟩; replace HO_8 := aZ (Kd.R_below (lZR HO_8.out) hb); replace HO_15 := aZ (Kd.R_below (lZR HO_15.out) hb); replace HB := aZ (below_step (lZB HB.out) hb); (try clear hb); (try clear hb2); (try clear hk); (try clear hi)))
           replace HO_8 := aZ (Kd.R_drew HO_8.out)
           replace HO_15 := aZ (Kd.R_drew HO_15.out)
           replace HB := aZ (below_drew1 HB.out)
           have p292 : 0 ≤ (1 : Int) := (by omega)
           have q292 : 1 < (t281.length : Int) := of_decide_eq_true tZE
           obtain ⟨ad292, e292, hx292_0⟩ := Kd.at_string (Kd.R_reads' HO_8.out).2.2 1 p292 q292
           obtain rfl : ad289 = ad292 := (by injection e292)
           (try simp only [show (1 : Int).toNat = 1 from rfl, Nat.reduceMul, Nat.reduceEqDiff, Go.Addr.add, ↓reduceIte] at hx292_0)
           have qi292 : (1 < t281.length) = True := eq_true (by omega)
           (try rw [show ((1 : Int)).toNat = 1 from rfl] at hx292_0)
           replace p292 := eq_true p292
           replace q292 := eq_true q292
           have p293 : 0 ≤ (2 : Int) := (by omega)
           have q293 : 2 < (t281.length : Int) := of_decide_eq_true tZE
           obtain ⟨ad293, e293, hx293_0⟩ := Kd.at_string (Kd.R_reads' HO_8.out).2.2 2 p293 q293
           obtain rfl : ad289 = ad293 := (by injection e293)
           (try simp only [show (2 : Int).toNat = 2 from rfl, Nat.reduceMul, Nat.reduceEqDiff, Go.Addr.add, ↓reduceIte] at hx293_0)
           have qi293 : (2 < t281.length) = True := eq_true (by omega)
           (try rw [show ((2 : Int)).toNat = 2 from rfl] at hx293_0)
           replace p293 := eq_true p293
           replace q293 := eq_true q293
           refine start_ (n := 12) (S := fun w' => w'.cell? ⟨ad289.block, ad289.off + 1, none⟩ = some (.string (rdOf ByteArray.empty t281 1)) ∧ w'.cell? ⟨ad289.block, ad289.off + 2, none⟩ = some (.string (rdOf ByteArray.empty t281 2))) (ds := [9, 10]) L0' kZ rfl rfl ⟨hx292_0, hx293_0⟩ (fun hHeld => ?_); refine with_tabW impl_ReadBank.tab25 impl_ReadBank.bits25 (fun HT_ HW_ => ?_)
           generalize w68.drew = w69 at HO_8 HO_15 HB hx292_0 hx293_0 hHeld ⊢
           refine pure_ (i := 0) (N := some 148) (v := ?_) (a' := ?_) L1' rfl rfl (any_of HT_.out kZ) (fun _ _ _ h => h) (Or.inl ⟨by rfl, ?_⟩) ?_ ?_
           rotate_left
           ·intro w'
            go_simp
            with_reducible rfl
           rotate_left
           ·simp only [Act.put, sZ1, sZ2, sZ3, i64_w, i32_w]
            rfl
           refine pure_ (i := 1) (N := some 149) (v := ?_) (a' := ?_) L2' rfl rfl (any_of HT_.out kZ) (fun _ _ _ h => h) (Or.inl ⟨by rfl, ?_⟩) ?_ ?_
           rotate_left
           ·intro w'
            go_simp
            with_reducible rfl
           rotate_left
           ·simp only [Act.put, sZ1, sZ2, sZ3, i64_w, i32_w]
            rfl
           refine pure_ (i := 2) (N := some 150) (v := ?_) (a' := ?_) L3' rfl rfl (any_of HT_.out kZ) (fun _ _ _ h => h) (Or.inl ⟨by rfl, ?_⟩) ?_ ?_
           rotate_left
           ·intro w'
            go_simp
            with_reducible rfl
           rotate_left
           ·simp only [Act.put, sZ1, sZ2, sZ3, i64_w, i32_w]
            rfl
           refine pure_ (i := 4) (N := some 152) (v := ?_) (a' := ?_) L4' rfl rfl (any_of HT_.out kZ) (fun _ _ _ h => h) (Or.inl ⟨by rfl, ?_⟩) ?_ ?_
           rotate_left
           ·intro w'
            go_simp
            with_reducible rfl
           rotate_left
           ·simp only [Act.put, sZ1, sZ2, sZ3, i64_w, i32_w]
            rfl
           refine pure_ (i := 5) (N := some 153) (v := ?_) (a' := ?_) L5' rfl rfl (any_of HT_.out kZ) (fun _ _ _ h => h) (Or.inl ⟨by rfl, ?_⟩) ?_ ?_
           rotate_left
           ·intro w'
            go_simp
            with_reducible rfl
           rotate_left
           ·simp only [Act.put, sZ1, sZ2, sZ3, i64_w, i32_w]
            rfl
           refine pure_ (i := 7) (N := some 155) (v := ?_) (a' := ?_) L6' rfl rfl (any_of HT_.out kZ) (fun _ _ _ h => h) (Or.inl ⟨by rfl, ?_⟩) ?_ ?_
           rotate_left
           ·intro w'
            go_simp
            with_reducible rfl
           rotate_left
           ·simp only [Act.put, sZ1, sZ2, sZ3, i64_w, i32_w]
            rfl
           refine take_ (i := 3) (N := some 151) (v := ?_) (a' := ?_) L7' rfl rfl (take_ofW HT_.out HW_.out kZ) (fun _ _ _ h => h) (Or.inl ⟨by rfl, ?_⟩) hHeld ?_ ?_
           rotate_left
           ·rintro w' ⟨s0, s1⟩
            go_simp
            with_reducible rfl
           rotate_left
           ·simp only [Act.put, sZ1, sZ2, sZ3, i64_w, i32_w]
            rfl
           refine take_ (i := 6) (N := some 154) (v := ?_) (a' := ?_) L8' rfl rfl (take_ofW HT_.out HW_.out kZ) (fun _ _ _ h => h) (Or.inl ⟨by rfl, ?_⟩) hHeld ?_ ?_
           rotate_left
           ·rintro w' ⟨s0, s1⟩
            go_simp
            with_reducible rfl
           rotate_left
           ·simp only [Act.put, sZ1, sZ2, sZ3, i64_w, i32_w]
            rfl
           refine pure_ (i := 8) (N := some 156) (v := ?_) (a' := ?_) L9' rfl rfl (any_of HT_.out kZ) (fun _ _ _ h => h) (Or.inl ⟨by rfl, ?_⟩) ?_ ?_
           rotate_left
           ·intro w'
            go_simp
            with_reducible rfl
           rotate_left
           ·simp only [Act.put, sZ1, sZ2, sZ3, i64_w, i32_w]
            rfl
           refine last_ (i := 9) (N := some 157) L10' rfl rfl (one_of HT_.out kZ) (by decide) (fun K hK => ?_)
           refine value_ (w1 := ?_) (v := ?_) (by rfl) rfl ?_ ?_
           rotate_left 2
           ·go_simp
            constructor
            ·rfl
            rfl
           refine hK.out _ _ ?_
           clear hK K
           refine norm_ (a' := ?_) ?_ ?_
           rotate_left
           ·show Act.put _ (some 157) _ = _
            simp only [Act.put, sZ1, sZ2, sZ3, i64_w, i32_w]
            rfl
           refine last_ (i := 10) (N := some 158) L11' rfl rfl (one_of HT_.out kZ) (by decide) (fun K hK => ?_)
           refine Kd.R_append_step k174 (w0 := w) w.heap.size (by rfl) (.tmp 148) (.tmp 157) 90 174 (.agg #[(.string ⟨#[]⟩), (.string ⟨#[]⟩), (.int .i64 0)]) 40 rfl Try.underlying90 info174 rfl (by decide) (by omega) (.slice Ao35 x15_3.length co35) x15_3 (⟨rdOf ByteArray.empty t281 1, rdOf ByteArray.empty t281 2, t290⟩ : S174) [.string (rdOf ByteArray.empty t281 1), .string (rdOf ByteArray.empty t281 2), .int .i64 t290] (fun _ => True) (fun _ => False) rfl rfl ?aP (fun _ hk => hk.elim) ?aF ?aO ?aB ?aS ?aL ?_
           (case aP => exact k174_mkM _ _ _ (⟨rdOf ByteArray.empty t281 1, rdOf ByteArray.empty t281 2, t290⟩ : S174))
           (case aB => exact (lZB HB.out))
           (case aF => exact (fun _ _ => trivial))
           (case aO => exact (lZR HO_15.out))
           (case aS => exact (below_size (lZB HB.out)))
           (case aL => have := LMc66.out; omega)
           intro v295 w70 ho hb hg hat
           rw [← Ny294.out] at ho
           replace HO_8 := aZ (Kd.R_over' (lZR HO_8.out) (Kd.R_typed (lZR HO_15.out)) (by decide) hg)
           replace HB := aZ (hb)
           have HO296 := aZ (ho)
           clear HO_15
           clear ho hb hg hat
           refine hK.out _ _ ?_
           clear hK K
           refine norm_ (a' := ?_) ?_ ?_
           rotate_left
           ·show Act.put _ (some 158) _ = _
            simp only [Act.put, sZ1, sZ2, sZ3, i64_w, i32_w]
            rfl
           refine pure_ (i := 11) (N := some 15) (v := ?_) (a' := ?_) L12' rfl rfl (any_of HT_.out kZ) (fun _ _ _ h => h) (Or.inl ⟨by rfl, ?_⟩) ?_ ?_
           rotate_left
           ·intro w'
            go_simp
            with_reducible rfl
           rotate_left
           ·simp only [Act.put, sZ1, sZ2, sZ3, i64_w, i32_w]
            rfl
           refine done_ (done_of HT_.out kZ) ?_
           try go_wp2
           go_roundg kj42
           case measure => have := HJ4.out; have := HJ18.out; have := HK3.out; have := HJ33.out; have := HJ42.out; omega
           case rel => exact ⟨(t279), (y294), (wrap64 (x16_3 + t290)), tZB, tZB, H', ⟨by have := HJ4.out; have := HJ18.out; have := HK3.out; have := HJ33.out; have := HJ42.out; omega⟩, ⟨lZR HO296.out⟩, ⟨bZ⟩⟩
end Go.Proofs.Ytmpknbdbichdiaa.PFnExactReadBank
