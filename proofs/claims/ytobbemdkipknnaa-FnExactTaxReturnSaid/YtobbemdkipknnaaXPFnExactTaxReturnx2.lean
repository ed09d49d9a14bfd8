import Derived.Test.YtobbemdkipknnaaXPFnExactTaxReturnx0
import Derived.Test.YtobbemdkipknnaaXPFnExactTaxReturnx1
import Derived.Test.YtobbemdkipknnaaXSlimWords
namespace Go.Proofs.Ytobbemdkipknnaa.PFnExactTaxReturn
open Go.Proofs.Ytobbemdkipknnaa.SlimWords
open Go.RowKit Go.Proofs.YtobbemdkipknnaaW.PrintWords Go.Proofs.YtobbemdkipknnaaW.PrintLast Go.Proofs.YtobbemdkipknnaaW.PrintMore Go.Proofs.Ytobbemdkipknnaa.MapWords Go.Proofs.Ytobbemdkipknnaa.IterWords Go.Proofs.Ytobbemdkipknnaa.MarkWords
attribute [local go_sem] max2_int min2_int max_two min_two max_three min_three max_four min_four
set_option linter.unusedVariables false
set_option linter.unusedSimpArgs false
private abbrev I' := true
private abbrev O' := false
private abbrev L0' : Array Bool := #[O',O',O',O',O',O',O',O',O']
private abbrev L1' : Array Bool := #[I',O',O',O',O',O',O',O',O']
private abbrev L2' : Array Bool := #[I',I',O',O',O',O',O',O',O']
private abbrev L3' : Array Bool := #[I',I',I',O',O',O',O',O',O']
private abbrev L4' : Array Bool := #[I',I',I',O',I',O',O',O',O']
private abbrev L5' : Array Bool := #[I',I',I',O',I',I',O',O',O']
private abbrev L6' : Array Bool := #[I',I',I',O',I',I',I',O',O']
private abbrev L7' : Array Bool := #[I',I',I',I',I',I',I',O',O']
private abbrev L8' : Array Bool := #[I',I',I',I',I',I',I',I',O']
private abbrev L9' : Array Bool := #[I',I',I',I',I',I',I',I',I']
private abbrev L10' : Array Bool := #[I',I',I',I',O',O',O',O',O']
private abbrev L11' : Array Bool := #[I',I',I',I',I',O',O',O',O']
private abbrev L12' : Array Bool := #[I',I',I',I',I',I',O',O',O']
mutual
def spec_TaxReturn.l0 : Nat → List (S82) → Int → Int → List (S59) → Int → Option ((List (S59)))
  | 0, _, _, _, _, _ => none
  | k + 1, x0, x1, x2, x7, x8 => if x8 < (x0.length : Int) then (if 0 ≤ x8 then (if (((rd_T82 x0 x8).f2).length : Int) > 6 then (some x7) else (spec_TaxReturn.l1 k x0 x1 x2 x7 x8 0)) else (none)) else (spec_TaxReturn.l2 k x0 x1 x2 x7 (([] : List ByteArray)) 0)
def spec_TaxReturn.l1 : Nat → List (S82) → Int → Int → List (S59) → Int → Int → Option ((List (S59)))
  | 0, _, _, _, _, _, _ => none
  | k + 1, x0, x1, x2, x7, x8, x9 => if 0 ≤ x8 then (if x8 < (x0.length : Int) then (if x9 < (((rd_T82 x0 x8).f2).length : Int) then (if 0 ≤ x9 then ((spec_l1Amount.f ((rd_T85 ((rd_T82 x0 x8).f2) x9).f2)).bind fun t117 => (if t117 = true then ((spec_l1Amount.f ((rd_T85 ((rd_T82 x0 x8).f2) x9).f3)).bind fun t120 => (if t120 = true then (spec_TaxReturn.l1 k x0 x1 x2 x7 x8 (wrap64 (x9 + 1))) else (some x7))) else (some x7))) else (none)) else (spec_TaxReturn.l0 k x0 x1 x2 x7 (wrap64 (x8 + 1)))) else (none)) else (none)
def spec_TaxReturn.l2 : Nat → List (S82) → Int → Int → List (S59) → List ByteArray → Int → Option ((List (S59)))
  | 0, _, _, _, _, _, _ => none
  | k + 1, x0, x1, x2, x7, x10, x11 => if x11 < (x0.length : Int) then (spec_TaxReturn.l3 k x0 x1 x2 x7 x10 x11 0) else (spec_TaxReturn.l4 k x0 x1 x2 x7 x10)
def spec_TaxReturn.l3 : Nat → List (S82) → Int → Int → List (S59) → List ByteArray → Int → Int → Option ((List (S59)))
  | 0, _, _, _, _, _, _, _ => none
  | k + 1, x0, x1, x2, x7, x10, x11, x12 => if 0 ≤ x11 then (if x11 < (x0.length : Int) then (if x12 < (((rd_T82 x0 x11).f2).length : Int) then ((spec_l1In.f ((rd_T82 x0 x11).f0) x1 x2).bind fun t126 => (spec_TaxReturn.j4 k x0 x1 x2 x7 x10 x11 x12 t126)) else (spec_TaxReturn.j4 k x0 x1 x2 x7 x10 x11 x12 false)) else (none)) else (none)
def spec_TaxReturn.j4 : Nat → List (S82) → Int → Int → List (S59) → List ByteArray → Int → Int → Bool → Option ((List (S59)))
  | 0, _, _, _, _, _, _, _, _ => none
  | k + 1, x0, x1, x2, x7, x10, x11, x12, x98 => if x98 = true then (if 0 ≤ x11 then (if x11 < (x0.length : Int) then (if 0 ≤ x12 then (if x12 < (((rd_T82 x0 x11).f2).length : Int) then ((spec_l10Has.f k x10 ((rd_T85 ((rd_T82 x0 x11).f2) x12).f0)).bind fun t129 => (if t129 = true then (spec_TaxReturn.l3 k x0 x1 x2 x7 x10 x11 (wrap64 (x12 + 1))) else (if x10.length < 8796093022208 then (spec_TaxReturn.l3 k x0 x1 x2 x7 (x10 ++ [(rd_T85 ((rd_T82 x0 x11).f2) x12).f0]) x11 (wrap64 (x12 + 1))) else (none)))) else (none)) else (none)) else (none)) else (none)) else (spec_TaxReturn.l2 k x0 x1 x2 x7 x10 (wrap64 (x11 + 1)))
def spec_TaxReturn.l4 : Nat → List (S82) → Int → Int → List (S59) → List ByteArray → Option ((List (S59)))
  | 0, _, _, _, _, _ => none
  | k + 1, x0, x1, x2, x7, x10 => if (x10.length : Int) > 0 then (spec_TaxReturn.l5 k x0 x1 x2 x7 x10 0 1) else (some x7)
def spec_TaxReturn.l5 : Nat → List (S82) → Int → Int → List (S59) → List ByteArray → Int → Int → Option ((List (S59)))
  | 0, _, _, _, _, _, _, _ => none
  | k + 1, x0, x1, x2, x7, x10, x13, x14 => if x14 < (x10.length : Int) then (if 0 ≤ x14 then (if 0 ≤ x13 then (if x13 < (x10.length : Int) then (if (Op.bytesLess ((rdOf ByteArray.empty x10 x14).toList) ((rdOf ByteArray.empty x10 x13).toList)) = true then (spec_TaxReturn.l5 k x0 x1 x2 x7 x10 x14 (wrap64 (x14 + 1))) else (spec_TaxReturn.l5 k x0 x1 x2 x7 x10 x13 (wrap64 (x14 + 1)))) else (none)) else (none)) else (none)) else (if 0 ≤ x13 then (if x13 < (x10.length : Int) then (spec_TaxReturn.l6 k x0 x1 x2 x7 x10 x13 0 (rdOf ByteArray.empty x10 x13) 0 0 0) else (none)) else (none))
def spec_TaxReturn.l6 : Nat → List (S82) → Int → Int → List (S59) → List ByteArray → Int → Int → ByteArray → Int → Int → Int → Option ((List (S59)))
  | 0, _, _, _, _, _, _, _, _, _, _, _ => none
  | k + 1, x0, x1, x2, x7, x10, x13, x16, x139000, x139001, x139002, x139003 => if x16 < (x0.length : Int) then (spec_TaxReturn.l7 k x0 x1 x2 x7 x10 x13 x16 0 x139000 x139001 x139002 x139003) else (if x7.length < 3518437208883 then (if 0 ≤ x13 then (if x13 ≤ (x10.length : Int) then (if 0 ≤ (wrap64 (x13 + 1)) then (if (wrap64 (x13 + 1)) ≤ (x10.length : Int) then (spec_TaxReturn.l4 k x0 x1 x2 (x7 ++ [(⟨x139000, x139001, x139002, x139003⟩ : S59)]) (x10.eraseIdx (x13 : Int).toNat)) else (none)) else (none)) else (none)) else (none)) else (none))
def spec_TaxReturn.l7 : Nat → List (S82) → Int → Int → List (S59) → List ByteArray → Int → Int → Int → ByteArray → Int → Int → Int → Option ((List (S59)))
  | 0, _, _, _, _, _, _, _, _, _, _, _, _ => none
  | k + 1, x0, x1, x2, x7, x10, x13, x16, x17, x139000, x139001, x139002, x139003 => if 0 ≤ x16 then (if x16 < (x0.length : Int) then (if x17 < (((rd_T82 x0 x16).f2).length : Int) then (if 0 ≤ x17 then ((spec_l1In.f ((rd_T82 x0 x16).f0) x1 x2).bind fun t158 => (if t158 = true then (spec_TaxReturn.j9 k x0 x1 x2 x7 x10 x13 x16 x17 (((rd_T85 ((rd_T82 x0 x16).f2) x17).f0).toList != x139000.toList) x139000 x139001 x139002 x139003 ((rd_T85 ((rd_T82 x0 x16).f2) x17).f0) ((rd_T85 ((rd_T82 x0 x16).f2) x17).f1) ((rd_T85 ((rd_T82 x0 x16).f2) x17).f2) ((rd_T85 ((rd_T82 x0 x16).f2) x17).f3)) else (spec_TaxReturn.j9 k x0 x1 x2 x7 x10 x13 x16 x17 true x139000 x139001 x139002 x139003 ((rd_T85 ((rd_T82 x0 x16).f2) x17).f0) ((rd_T85 ((rd_T82 x0 x16).f2) x17).f1) ((rd_T85 ((rd_T82 x0 x16).f2) x17).f2) ((rd_T85 ((rd_T82 x0 x16).f2) x17).f3)))) else (none)) else (spec_TaxReturn.l6 k x0 x1 x2 x7 x10 x13 (wrap64 (x16 + 1)) x139000 x139001 x139002 x139003)) else (none)) else (none)
def spec_TaxReturn.j9 : Nat → List (S82) → Int → Int → List (S59) → List ByteArray → Int → Int → Int → Bool → ByteArray → Int → Int → Int → ByteArray → Int → Int → Int → Option ((List (S59)))
  | 0, _, _, _, _, _, _, _, _, _, _, _, _, _, _, _, _, _ => none
  | k + 1, x0, x1, x2, x7, x10, x13, x16, x17, x188, x139000, x139001, x139002, x139003, x157000, x157001, x157002, x157003 => if x188 = true then (spec_TaxReturn.l7 k x0 x1 x2 x7 x10 x13 x16 (wrap64 (x17 + 1)) x139000 x139001 x139002 x139003) else (if x157001 = 4 then (if 0 ≤ x16 then (if x16 < (x0.length : Int) then (if (rd_T82 x0 x16).f1 = true then (spec_TaxReturn.l7 k x0 x1 x2 x7 x10 x13 x16 (wrap64 (x17 + 1)) x139000 (wrap64 (x139001 + x157002)) x139002 (wrap64 (x139003 + 0))) else (spec_TaxReturn.l7 k x0 x1 x2 x7 x10 x13 x16 (wrap64 (x17 + 1)) x139000 x139001 (wrap64 (x139002 + x157002)) (wrap64 (x139003 - 0)))) else (none)) else (none)) else (if 0 ≤ x16 then (if x16 < (x0.length : Int) then (if (rd_T82 x0 x16).f1 = true then (spec_TaxReturn.l7 k x0 x1 x2 x7 x10 x13 x16 (wrap64 (x17 + 1)) x139000 (wrap64 (x139001 + x157002)) x139002 (wrap64 (x139003 + x157003))) else (spec_TaxReturn.l7 k x0 x1 x2 x7 x10 x13 x16 (wrap64 (x17 + 1)) x139000 x139001 (wrap64 (x139002 + x157002)) (wrap64 (x139003 - x157003)))) else (none)) else (none)))
end
def spec_TaxReturn.f (k : Nat) (l0 : List (S82)) (a1 : Int) (a2 : Int) : Option ((List (S59))) := (some (([] : List (S59)) : List (S59))).bind fun y110 => (if (l0.length : Int) > 200 then (some y110) else (spec_TaxReturn.l0 k l0 a1 a2 y110 0))
theorem spec_TaxReturn.mono_l : ∀ k, (∀ y0 y1 y2 y3 y4, LeO (spec_TaxReturn.l0 k y0 y1 y2 y3 y4) (spec_TaxReturn.l0 (k + 1) y0 y1 y2 y3 y4)) ∧ (∀ y0 y1 y2 y3 y4 y5, LeO (spec_TaxReturn.l1 k y0 y1 y2 y3 y4 y5) (spec_TaxReturn.l1 (k + 1) y0 y1 y2 y3 y4 y5)) ∧ (∀ y0 y1 y2 y3 y4 y5, LeO (spec_TaxReturn.l2 k y0 y1 y2 y3 y4 y5) (spec_TaxReturn.l2 (k + 1) y0 y1 y2 y3 y4 y5)) ∧ (∀ y0 y1 y2 y3 y4 y5 y6, LeO (spec_TaxReturn.l3 k y0 y1 y2 y3 y4 y5 y6) (spec_TaxReturn.l3 (k + 1) y0 y1 y2 y3 y4 y5 y6)) ∧ (∀ y0 y1 y2 y3 y4 y5 y6 y7, LeO (spec_TaxReturn.j4 k y0 y1 y2 y3 y4 y5 y6 y7) (spec_TaxReturn.j4 (k + 1) y0 y1 y2 y3 y4 y5 y6 y7)) ∧ (∀ y0 y1 y2 y3 y4, LeO (spec_TaxReturn.l4 k y0 y1 y2 y3 y4) (spec_TaxReturn.l4 (k + 1) y0 y1 y2 y3 y4)) ∧ (∀ y0 y1 y2 y3 y4 y5 y6, LeO (spec_TaxReturn.l5 k y0 y1 y2 y3 y4 y5 y6) (spec_TaxReturn.l5 (k + 1) y0 y1 y2 y3 y4 y5 y6)) ∧ (∀ y0 y1 y2 y3 y4 y5 y6 y7 y8 y9 y10, LeO (spec_TaxReturn.l6 k y0 y1 y2 y3 y4 y5 y6 y7 y8 y9 y10) (spec_TaxReturn.l6 (k + 1) y0 y1 y2 y3 y4 y5 y6 y7 y8 y9 y10)) ∧ (∀ y0 y1 y2 y3 y4 y5 y6 y7 y8 y9 y10 y11, LeO (spec_TaxReturn.l7 k y0 y1 y2 y3 y4 y5 y6 y7 y8 y9 y10 y11) (spec_TaxReturn.l7 (k + 1) y0 y1 y2 y3 y4 y5 y6 y7 y8 y9 y10 y11)) ∧ (∀ y0 y1 y2 y3 y4 y5 y6 y7 y8 y9 y10 y11 y12 y13 y14 y15 y16, LeO (spec_TaxReturn.j9 k y0 y1 y2 y3 y4 y5 y6 y7 y8 y9 y10 y11 y12 y13 y14 y15 y16) (spec_TaxReturn.j9 (k + 1) y0 y1 y2 y3 y4 y5 y6 y7 y8 y9 y10 y11 y12 y13 y14 y15 y16))
  | 0 => ⟨fun _ _ _ _ _ r h => by simp [spec_TaxReturn.l0] at h, fun _ _ _ _ _ _ r h => by simp [spec_TaxReturn.l1] at h, fun _ _ _ _ _ _ r h => by simp [spec_TaxReturn.l2] at h, fun _ _ _ _ _ _ _ r h => by simp [spec_TaxReturn.l3] at h, fun _ _ _ _ _ _ _ _ r h => by simp [spec_TaxReturn.j4] at h, fun _ _ _ _ _ r h => by simp [spec_TaxReturn.l4] at h, fun _ _ _ _ _ _ _ r h => by simp [spec_TaxReturn.l5] at h, fun _ _ _ _ _ _ _ _ _ _ _ r h => by simp [spec_TaxReturn.l6] at h, fun _ _ _ _ _ _ _ _ _ _ _ _ r h => by simp [spec_TaxReturn.l7] at h, fun _ _ _ _ _ _ _ _ _ _ _ _ _ _ _ _ _ r h => by simp [spec_TaxReturn.j9] at h⟩
  | k + 1 => by
    obtain ⟨ih0, ih1, ih2, ih3, ih4, ih5, ih6, ih7, ih8, ih9⟩ := spec_TaxReturn.mono_l k
    refine ⟨?_, ?_, ?_, ?_, ?_, ?_, ?_, ?_, ?_, ?_⟩
    · intro y0 y1 y2 y3 y4
      unfold spec_TaxReturn.l0
      repeat' first
      | (with_reducible exact ih0 _ _ _ _ _)
      | (with_reducible exact ih1 _ _ _ _ _ _)
      | (with_reducible exact ih2 _ _ _ _ _ _)
      | (with_reducible exact ih3 _ _ _ _ _ _ _)
      | (with_reducible exact ih4 _ _ _ _ _ _ _ _)
      | (with_reducible exact ih5 _ _ _ _ _)
      | (with_reducible exact ih6 _ _ _ _ _ _ _)
      | (with_reducible exact ih7 _ _ _ _ _ _ _ _ _ _ _)
      | (with_reducible exact ih8 _ _ _ _ _ _ _ _ _ _ _ _)
      | (with_reducible exact ih9 _ _ _ _ _ _ _ _ _ _ _ _ _ _ _ _ _)
      | (with_reducible exact spec_l10Has.mono _ _ _)
      | (with_reducible exact LeO.refl _)
      | (with_reducible exact LeO.none _)
      | (with_reducible refine LeO.ite ?_ ?_)
      | (with_reducible refine LeO.bind ?_ (fun _ => ?_))
      | exact ih0 _ _ _ _ _
      | exact ih1 _ _ _ _ _ _
      | exact ih2 _ _ _ _ _ _
      | exact ih3 _ _ _ _ _ _ _
      | exact ih4 _ _ _ _ _ _ _ _
      | exact ih5 _ _ _ _ _
      | exact ih6 _ _ _ _ _ _ _
      | exact ih7 _ _ _ _ _ _ _ _ _ _ _
      | exact ih8 _ _ _ _ _ _ _ _ _ _ _ _
      | exact ih9 _ _ _ _ _ _ _ _ _ _ _ _ _ _ _ _ _
      | exact spec_l10Has.mono _ _ _
      | exact LeO.none _
      | refine LeO.ite ?_ ?_
      | refine LeO.bind ?_ (fun _ => ?_)
    · intro y0 y1 y2 y3 y4 y5
      unfold spec_TaxReturn.l1
      repeat' first
      | (with_reducible exact ih0 _ _ _ _ _)
      | (with_reducible exact ih1 _ _ _ _ _ _)
      | (with_reducible exact ih2 _ _ _ _ _ _)
      | (with_reducible exact ih3 _ _ _ _ _ _ _)
      | (with_reducible exact ih4 _ _ _ _ _ _ _ _)
      | (with_reducible exact ih5 _ _ _ _ _)
      | (with_reducible exact ih6 _ _ _ _ _ _ _)
      | (with_reducible exact ih7 _ _ _ _ _ _ _ _ _ _ _)
      | (with_reducible exact ih8 _ _ _ _ _ _ _ _ _ _ _ _)
      | (with_reducible exact ih9 _ _ _ _ _ _ _ _ _ _ _ _ _ _ _ _ _)
      | (with_reducible exact spec_l10Has.mono _ _ _)
      | (with_reducible exact LeO.refl _)
      | (with_reducible exact LeO.none _)
      | (with_reducible refine LeO.ite ?_ ?_)
      | (with_reducible refine LeO.bind ?_ (fun _ => ?_))
      | exact ih0 _ _ _ _ _
      | exact ih1 _ _ _ _ _ _
      | exact ih2 _ _ _ _ _ _
      | exact ih3 _ _ _ _ _ _ _
      | exact ih4 _ _ _ _ _ _ _ _
      | exact ih5 _ _ _ _ _
      | exact ih6 _ _ _ _ _ _ _
      | exact ih7 _ _ _ _ _ _ _ _ _ _ _
      | exact ih8 _ _ _ _ _ _ _ _ _ _ _ _
      | exact ih9 _ _ _ _ _ _ _ _ _ _ _ _ _ _ _ _ _
      | exact spec_l10Has.mono _ _ _
      | exact LeO.none _
      | refine LeO.ite ?_ ?_
      | refine LeO.bind ?_ (fun _ => ?_)
    · intro y0 y1 y2 y3 y4 y5
      unfold spec_TaxReturn.l2
      repeat' first
      | (with_reducible exact ih0 _ _ _ _ _)
      | (with_reducible exact ih1 _ _ _ _ _ _)
      | (with_reducible exact ih2 _ _ _ _ _ _)
      | (with_reducible exact ih3 _ _ _ _ _ _ _)
      | (with_reducible exact ih4 _ _ _ _ _ _ _ _)
      | (with_reducible exact ih5 _ _ _ _ _)
      | (with_reducible exact ih6 _ _ _ _ _ _ _)
      | (with_reducible exact ih7 _ _ _ _ _ _ _ _ _ _ _)
      | (with_reducible exact ih8 _ _ _ _ _ _ _ _ _ _ _ _)
      | (with_reducible exact ih9 _ _ _ _ _ _ _ _ _ _ _ _ _ _ _ _ _)
      | (with_reducible exact spec_l10Has.mono _ _ _)
      | (with_reducible exact LeO.refl _)
      | (with_reducible exact LeO.none _)
      | (with_reducible refine LeO.ite ?_ ?_)
      | (with_reducible refine LeO.bind ?_ (fun _ => ?_))
      | exact ih0 _ _ _ _ _
      | exact ih1 _ _ _ _ _ _
      | exact ih2 _ _ _ _ _ _
      | exact ih3 _ _ _ _ _ _ _
      | exact ih4 _ _ _ _ _ _ _ _
      | exact ih5 _ _ _ _ _
      | exact ih6 _ _ _ _ _ _ _
      | exact ih7 _ _ _ _ _ _ _ _ _ _ _
      | exact ih8 _ _ _ _ _ _ _ _ _ _ _ _
      | exact ih9 _ _ _ _ _ _ _ _ _ _ _ _ _ _ _ _ _
      | exact spec_l10Has.mono _ _ _
      | exact LeO.none _
      | refine LeO.ite ?_ ?_
      | refine LeO.bind ?_ (fun _ => ?_)
    · intro y0 y1 y2 y3 y4 y5 y6
      unfold spec_TaxReturn.l3
      repeat' first
      | (with_reducible exact ih0 _ _ _ _ _)
      | (with_reducible exact ih1 _ _ _ _ _ _)
      | (with_reducible exact ih2 _ _ _ _ _ _)
      | (with_reducible exact ih3 _ _ _ _ _ _ _)
      | (with_reducible exact ih4 _ _ _ _ _ _ _ _)
      | (with_reducible exact ih5 _ _ _ _ _)
      | (with_reducible exact ih6 _ _ _ _ _ _ _)
      | (with_reducible exact ih7 _ _ _ _ _ _ _ _ _ _ _)
      | (with_reducible exact ih8 _ _ _ _ _ _ _ _ _ _ _ _)
      | (with_reducible exact ih9 _ _ _ _ _ _ _ _ _ _ _ _ _ _ _ _ _)
      | (with_reducible exact spec_l10Has.mono _ _ _)
      | (with_reducible exact LeO.refl _)
      | (with_reducible exact LeO.none _)
      | (with_reducible refine LeO.ite ?_ ?_)
      | (with_reducible refine LeO.bind ?_ (fun _ => ?_))
      | exact ih0 _ _ _ _ _
      | exact ih1 _ _ _ _ _ _
      | exact ih2 _ _ _ _ _ _
      | exact ih3 _ _ _ _ _ _ _
      | exact ih4 _ _ _ _ _ _ _ _
      | exact ih5 _ _ _ _ _
      | exact ih6 _ _ _ _ _ _ _
      | exact ih7 _ _ _ _ _ _ _ _ _ _ _
      | exact ih8 _ _ _ _ _ _ _ _ _ _ _ _
      | exact ih9 _ _ _ _ _ _ _ _ _ _ _ _ _ _ _ _ _
      | exact spec_l10Has.mono _ _ _
      | exact LeO.none _
      | refine LeO.ite ?_ ?_
      | refine LeO.bind ?_ (fun _ => ?_)
    · intro y0 y1 y2 y3 y4 y5 y6 y7
      unfold spec_TaxReturn.j4
      repeat' first
      | (with_reducible exact ih0 _ _ _ _ _)
      | (with_reducible exact ih1 _ _ _ _ _ _)
      | (with_reducible exact ih2 _ _ _ _ _ _)
      | (with_reducible exact ih3 _ _ _ _ _ _ _)
      | (with_reducible exact ih4 _ _ _ _ _ _ _ _)
      | (with_reducible exact ih5 _ _ _ _ _)
      | (with_reducible exact ih6 _ _ _ _ _ _ _)
      | (with_reducible exact ih7 _ _ _ _ _ _ _ _ _ _ _)
      | (with_reducible exact ih8 _ _ _ _ _ _ _ _ _ _ _ _)
      | (with_reducible exact ih9 _ _ _ _ _ _ _ _ _ _ _ _ _ _ _ _ _)
      | (with_reducible exact spec_l10Has.mono _ _ _)
      | (with_reducible exact LeO.refl _)
      | (with_reducible exact LeO.none _)
      | (with_reducible refine LeO.ite ?_ ?_)
      | (with_reducible refine LeO.bind ?_ (fun _ => ?_))
      | exact ih0 _ _ _ _ _
      | exact ih1 _ _ _ _ _ _
      | exact ih2 _ _ _ _ _ _
      | exact ih3 _ _ _ _ _ _ _
      | exact ih4 _ _ _ _ _ _ _ _
      | exact ih5 _ _ _ _ _
      | exact ih6 _ _ _ _ _ _ _
      | exact ih7 _ _ _ _ _ _ _ _ _ _ _
      | exact ih8 _ _ _ _ _ _ _ _ _ _ _ _
      | exact ih9 _ _ _ _ _ _ _ _ _ _ _ _ _ _ _ _ _
      | exact spec_l10Has.mono _ _ _
      | exact LeO.none _
      | refine LeO.ite ?_ ?_
      | refine LeO.bind ?_ (fun _ => ?_)
    · intro y0 y1 y2 y3 y4
      unfold spec_TaxReturn.l4
      repeat' first
      | (with_reducible exact ih0 _ _ _ _ _)
      | (with_reducible exact ih1 _ _ _ _ _ _)
      | (with_reducible exact ih2 _ _ _ _ _ _)
      | (with_reducible exact ih3 _ _ _ _ _ _ _)
      | (with_reducible exact ih4 _ _ _ _ _ _ _ _)
      | (with_reducible exact ih5 _ _ _ _ _)
      | (with_reducible exact ih6 _ _ _ _ _ _ _)
      | (with_reducible exact ih7 _ _ _ _ _ _ _ _ _ _ _)
      | (with_reducible exact ih8 _ _ _ _ _ _ _ _ _ _ _ _)
      | (with_reducible exact ih9 _ _ _ _ _ _ _ _ _ _ _ _ _ _ _ _ _)
      | (with_reducible exact spec_l10Has.mono _ _ _)
      | (with_reducible exact LeO.refl _)
      | (with_reducible exact LeO.none _)
      | (with_reducible refine LeO.ite ?_ ?_)
      | (with_reducible refine LeO.bind ?_ (fun _ => ?_))
      | exact ih0 _ _ _ _ _
      | exact ih1 _ _ _ _ _ _
      | exact ih2 _ _ _ _ _ _
      | exact ih3 _ _ _ _ _ _ _
      | exact ih4 _ _ _ _ _ _ _ _
      | exact ih5 _ _ _ _ _
      | exact ih6 _ _ _ _ _ _ _
      | exact ih7 _ _ _ _ _ _ _ _ _ _ _
      | exact ih8 _ _ _ _ _ _ _ _ _ _ _ _
      | exact ih9 _ _ _ _ _ _ _ _ _ _ _ _ _ _ _ _ _
      | exact spec_l10Has.mono _ _ _
      | exact LeO.none _
      | refine LeO.ite ?_ ?_
      | refine LeO.bind ?_ (fun _ => ?_)
    · intro y0 y1 y2 y3 y4 y5 y6
      unfold spec_TaxReturn.l5
      repeat' first
      | (with_reducible exact ih0 _ _ _ _ _)
      | (with_reducible exact ih1 _ _ _ _ _ _)
      | (with_reducible exact ih2 _ _ _ _ _ _)
      | (with_reducible exact ih3 _ _ _ _ _ _ _)
      | (with_reducible exact ih4 _ _ _ _ _ _ _ _)
      | (with_reducible exact ih5 _ _ _ _ _)
      | (with_reducible exact ih6 _ _ _ _ _ _ _)
      | (with_reducible exact ih7 _ _ _ _ _ _ _ _ _ _ _)
      | (with_reducible exact ih8 _ _ _ _ _ _ _ _ _ _ _ _)
      | (with_reducible exact ih9 _ _ _ _ _ _ _ _ _ _ _ _ _ _ _ _ _)
      | (with_reducible exact spec_l10Has.mono _ _ _)
      | (with_reducible exact LeO.refl _)
      | (with_reducible exact LeO.none _)
      | (with_reducible refine LeO.ite ?_ ?_)
      | (with_reducible refine LeO.bind ?_ (fun _ => ?_))
      | exact ih0 _ _ _ _ _
      | exact ih1 _ _ _ _ _ _
      | exact ih2 _ _ _ _ _ _
      | exact ih3 _ _ _ _ _ _ _
      | exact ih4 _ _ _ _ _ _ _ _
      | exact ih5 _ _ _ _ _
      | exact ih6 _ _ _ _ _ _ _
      | exact ih7 _ _ _ _ _ _ _ _ _ _ _
      | exact ih8 _ _ _ _ _ _ _ _ _ _ _ _
      | exact ih9 _ _ _ _ _ _ _ _ _ _ _ _ _ _ _ _ _
      | exact spec_l10Has.mono _ _ _
      | exact LeO.none _
      | refine LeO.ite ?_ ?_
      | refine LeO.bind ?_ (fun _ => ?_)
    · intro y0 y1 y2 y3 y4 y5 y6 y7 y8 y9 y10
      unfold spec_TaxReturn.l6
      repeat' first
      | (with_reducible exact ih0 _ _ _ _ _)
      | (with_reducible exact ih1 _ _ _ _ _ _)
      | (with_reducible exact ih2 _ _ _ _ _ _)
      | (with_reducible exact ih3 _ _ _ _ _ _ _)
      | (with_reducible exact ih4 _ _ _ _ _ _ _ _)
      | (with_reducible exact ih5 _ _ _ _ _)
      | (with_reducible exact ih6 _ _ _ _ _ _ _)
      | (with_reducible exact ih7 _ _ _ _ _ _ _ _ _ _ _)
      | (with_reducible exact ih8 _ _ _ _ _ _ _ _ _ _ _ _)
      | (with_reducible exact ih9 _ _ _ _ _ _ _ _ _ _ _ _ _ _ _ _ _)
      | (with_reducible exact spec_l10Has.mono _ _ _)
      | (with_reducible exact LeO.refl _)
      | (with_reducible exact LeO.none _)
      | (with_reducible refine LeO.ite ?_ ?_)
      | (with_reducible refine LeO.bind ?_ (fun _ => ?_))
      | exact ih0 _ _ _ _ _
      | exact ih1 _ _ _ _ _ _
      | exact ih2 _ _ _ _ _ _
      | exact ih3 _ _ _ _ _ _ _
      | exact ih4 _ _ _ _ _ _ _ _
      | exact ih5 _ _ _ _ _
      | exact ih6 _ _ _ _ _ _ _
      | exact ih7 _ _ _ _ _ _ _ _ _ _ _
      | exact ih8 _ _ _ _ _ _ _ _ _ _ _ _
      | exact ih9 _ _ _ _ _ _ _ _ _ _ _ _ _ _ _ _ _
      | exact spec_l10Has.mono _ _ _
      | exact LeO.none _
      | refine LeO.ite ?_ ?_
      | refine LeO.bind ?_ (fun _ => ?_)
    · intro y0 y1 y2 y3 y4 y5 y6 y7 y8 y9 y10 y11
      unfold spec_TaxReturn.l7
      repeat' first
      | (with_reducible exact ih0 _ _ _ _ _)
      | (with_reducible exact ih1 _ _ _ _ _ _)
      | (with_reducible exact ih2 _ _ _ _ _ _)
      | (with_reducible exact ih3 _ _ _ _ _ _ _)
      | (with_reducible exact ih4 _ _ _ _ _ _ _ _)
      | (with_reducible exact ih5 _ _ _ _ _)
      | (with_reducible exact ih6 _ _ _ _ _ _ _)
      | (with_reducible exact ih7 _ _ _ _ _ _ _ _ _ _ _)
      | (with_reducible exact ih8 _ _ _ _ _ _ _ _ _ _ _ _)
      | (with_reducible exact ih9 _ _ _ _ _ _ _ _ _ _ _ _ _ _ _ _ _)
      | (with_reducible exact spec_l10Has.mono _ _ _)
      | (with_reducible exact LeO.refl _)
      | (with_reducible exact LeO.none _)
      | (with_reducible refine LeO.ite ?_ ?_)
      | (with_reducible refine LeO.bind ?_ (fun _ => ?_))
      | exact ih0 _ _ _ _ _
      | exact ih1 _ _ _ _ _ _
      | exact ih2 _ _ _ _ _ _
      | exact ih3 _ _ _ _ _ _ _
      | exact ih4 _ _ _ _ _ _ _ _
      | exact ih5 _ _ _ _ _
      | exact ih6 _ _ _ _ _ _ _
      | exact ih7 _ _ _ _ _ _ _ _ _ _ _
      | exact ih8 _ _ _ _ _ _ _ _ _ _ _ _
      | exact ih9 _ _ _ _ _ _ _ _ _ _ _ _ _ _ _ _ _
      | exact spec_l10Has.mono _ _ _
      | exact LeO.none _
      | refine LeO.ite ?_ ?_
      | refine LeO.bind ?_ (fun _ => ?_)
    · intro y0 y1 y2 y3 y4 y5 y6 y7 y8 y9 y10 y11 y12 y13 y14 y15 y16
      unfold spec_TaxReturn.j9
      repeat' first
      | (with_reducible exact ih0 _ _ _ _ _)
      | (with_reducible exact ih1 _ _ _ _ _ _)
      | (with_reducible exact ih2 _ _ _ _ _ _)
      | (with_reducible exact ih3 _ _ _ _ _ _ _)
      | (with_reducible exact ih4 _ _ _ _ _ _ _ _)
      | (with_reducible exact ih5 _ _ _ _ _)
      | (with_reducible exact ih6 _ _ _ _ _ _ _)
      | (with_reducible exact ih7 _ _ _ _ _ _ _ _ _ _ _)
      | (with_reducible exact ih8 _ _ _ _ _ _ _ _ _ _ _ _)
      | (with_reducible exact ih9 _ _ _ _ _ _ _ _ _ _ _ _ _ _ _ _ _)
      | (with_reducible exact spec_l10Has.mono _ _ _)
      | (with_reducible exact LeO.refl _)
      | (with_reducible exact LeO.none _)
      | (with_reducible refine LeO.ite ?_ ?_)
      | (with_reducible refine LeO.bind ?_ (fun _ => ?_))
      | exact ih0 _ _ _ _ _
      | exact ih1 _ _ _ _ _ _
      | exact ih2 _ _ _ _ _ _
      | exact ih3 _ _ _ _ _ _ _
      | exact ih4 _ _ _ _ _ _ _ _
      | exact ih5 _ _ _ _ _
      | exact ih6 _ _ _ _ _ _ _
      | exact ih7 _ _ _ _ _ _ _ _ _ _ _
      | exact ih8 _ _ _ _ _ _ _ _ _ _ _ _
      | exact ih9 _ _ _ _ _ _ _ _ _ _ _ _ _ _ _ _ _
      | exact spec_l10Has.mono _ _ _
      | exact LeO.none _
      | refine LeO.ite ?_ ?_
      | refine LeO.bind ?_ (fun _ => ?_)
theorem spec_TaxReturn.mono : ∀ a0 a1 a2 k, LeO (spec_TaxReturn.f k a0 a1 a2) (spec_TaxReturn.f (k + 1) a0 a1 a2) := by
 intro a0 a1 a2 k
 obtain ⟨ih0, ih1, ih2, ih3, ih4, ih5, ih6, ih7, ih8, ih9⟩ := spec_TaxReturn.mono_l k
 unfold spec_TaxReturn.f
 repeat' first
     | (with_reducible exact ih0 _ _ _ _ _)
     | (with_reducible exact ih1 _ _ _ _ _ _)
     | (with_reducible exact ih2 _ _ _ _ _ _)
     | (with_reducible exact ih3 _ _ _ _ _ _ _)
     | (with_reducible exact ih4 _ _ _ _ _ _ _ _)
     | (with_reducible exact ih5 _ _ _ _ _)
     | (with_reducible exact ih6 _ _ _ _ _ _ _)
     | (with_reducible exact ih7 _ _ _ _ _ _ _ _ _ _ _)
     | (with_reducible exact ih8 _ _ _ _ _ _ _ _ _ _ _ _)
     | (with_reducible exact ih9 _ _ _ _ _ _ _ _ _ _ _ _ _ _ _ _ _)
     | (with_reducible exact spec_l10Has.mono _ _ _)
     | (with_reducible exact LeO.refl _)
     | (with_reducible exact LeO.none _)
     | (with_reducible refine LeO.ite ?_ ?_)
     | (with_reducible refine LeO.bind ?_ (fun _ => ?_))
     | exact ih0 _ _ _ _ _
     | exact ih1 _ _ _ _ _ _
     | exact ih2 _ _ _ _ _ _
     | exact ih3 _ _ _ _ _ _ _
     | exact ih4 _ _ _ _ _ _ _ _
     | exact ih5 _ _ _ _ _
     | exact ih6 _ _ _ _ _ _ _
     | exact ih7 _ _ _ _ _ _ _ _ _ _ _
     | exact ih8 _ _ _ _ _ _ _ _ _ _ _ _
     | exact ih9 _ _ _ _ _ _ _ _ _ _ _ _ _ _ _ _ _
     | exact spec_l10Has.mono _ _ _
     | exact LeO.none _
     | refine LeO.ite ?_ ?_
     | refine LeO.bind ?_ (fun _ => ?_)
def spec_TaxReturn.T28 : Bool × List (List Nat × List Nat) := (true, [([], []), ([], []), ([0, 1], [0, 1]), ([2], [2]), ([], []), ([], []), ([4, 5], [4, 5]), ([6], [6]), ([3, 7], [3, 7])])
def spec_TaxReturn.B28 : List Nat := [0, 0, 3, 7, 0, 0, 48, 112, 255]
theorem spec_TaxReturn.tab28 : rtab .any (opsOf Try.f9 28) = spec_TaxReturn.T28 := by kernel_rfl
theorem spec_TaxReturn.bits28 : waitsOk spec_TaxReturn.T28.2 spec_TaxReturn.B28 = true := by kernel_rfl
def spec_TaxReturn.T48 : Bool × List (List Nat × List Nat) := (true, [([], []), ([], []), ([0, 1], [0, 1]), ([], []), ([], []), ([4], [4]), ([3, 5], [3, 5]), ([2, 6], [2, 6]), ([7, 7, 0, 1, 2, 3, 4, 5, 6, 7], [0, 3, 7])])
def spec_TaxReturn.B48 : List Nat := [0, 0, 3, 0, 0, 16, 56, 127, 255]
theorem spec_TaxReturn.tab48 : rtab .any (opsOf Try.f9 48) = spec_TaxReturn.T48 := by kernel_rfl
theorem spec_TaxReturn.bits48 : waitsOk spec_TaxReturn.T48.2 spec_TaxReturn.B48 = true := by kernel_rfl
set_option maxHeartbeats 8000000 in
set_option maxRecDepth 100000 in
theorem spec_TaxReturn.calls (k : Nat) (A0 : Option Addr) (c0 : Nat) (l0 : List (S82)) (a1 : Int) (a2 : Int) (r : List (S59)) (w : World) (hr0 : Kd.C k82 w A0 l0.length l0) (hc0 : l0.length ≤ c0) (h : spec_TaxReturn.f k l0 a1 a2 = some r) :
    Calls Try.prog 9 #[.slice A0 l0.length c0, .int .i64 a1, .int .i64 a2] w fun e w' => ∃ v0_ : Value, e = .returned (v0_) ∧ Kd.R k59 59 w' w.heap.size (fun _ => True) v0_ r ∧ Below w.heap.size w w' := by
 have hu59 := Try.underlying59; have hu85 := Try.underlying85; have HR0 := Aside0.mk hr0; have HC0 := Aside0.mk hc0; clear hr0 hc0; have HB := aZ (Below.refl w.heap.size w); have H : ((some (([] : List (S59)) : List (S59))).bind fun y110 => (if (l0.length : Int) > 200 then (some y110) else (spec_TaxReturn.l0 k l0 a1 a2 y110 0))) = some r := h; clear h; obtain ⟨y110, hy110⟩ : ∃ y_ : List (S59), y_ = (([] : List (S59))) := ⟨_, rfl⟩; replace H : (if (l0.length : Int) > 200 then (some y110) else (spec_TaxReturn.l0 k l0 a1 a2 y110 0)) = some r := by first | (rw [hy110]; with_reducible exact H) | (have H2_ := (Option.bind_some _ _).symm.trans H; rw [hy110]; with_reducible exact H2_) | (have H2_ := (Option.bind_some _ _).symm.trans H; with_reducible exact H2_) | with_reducible exact H | (rw [hy110]; exact H) | exact H
 have Ny110 := Aside0.mk hy110; clear hy110
 by_cases c4 : (l0.length : Int) > 200
 ·rw [if_pos c4] at H; have c4b0 : decide (200 < (l0.length : Int)) = true := decide_eq_true c4; have c4b1 : decide (200 < l0.length) = true := decide_eq_true (by omega); clear c4; obtain rfl := Option.some.inj H; go_enter Try.func9, Try.ntmps9
  go_wp2_with (first | ((with_reducible refine gate_dst (N := 20) rfl ?_); refine Kd.R_lit k59 _ 59 ?hg (N := 20) ?hd (xs := ([] : List (S59))) (inner := []) (ok := fun _ => True) (okp := fun _ => True) ?hr ?hp (fun _ hk => hk) trivial (Below.refl _ _) (Nat.le_refl _) (by simp) ?_; (case hd => rfl); (case hg => rfl); (case hr => first | (go_simp; done) | (go_simp; rfl)); (case hp => exact (Reps.none _ _)); intro v111 w5 ho6 hb hg_ hnew_; clear hg_ hnew_; (first | rw [← Ny110.out] at ho6 | (simp only [Int.reduceToNat] at ho6; rw [← Ny110.out] at ho6)); have HO112 := aZ (Kd.R_lower ho6 (below_size (lZB HB.out))); replace HB := aZ (below_step (lZB HB.out) hb); clear hb ho6))
  go_ret; exact ⟨_, tZC, lZR HO112.out, bZ⟩
 rw [if_neg c4] at H; have c4b0 : decide (200 < (l0.length : Int)) = false := decide_eq_false c4; have c4b1 : decide (200 < l0.length) = false := decide_eq_false (by omega); clear c4; have H' := Aside0.mk H; clear H; go_enter Try.func9, Try.ntmps9
 go_wp2_with (first | ((with_reducible refine gate_dst (N := 20) rfl ?_); refine Kd.R_lit k59 _ 59 ?hg (N := 20) ?hd (xs := ([] : List (S59))) (inner := []) (ok := fun _ => True) (okp := fun _ => True) ?hr ?hp (fun _ hk => hk) trivial (Below.refl _ _) (Nat.le_refl _) (by simp) ?_; (case hd => rfl); (case hg => rfl); (case hr => first | (go_simp; done) | (go_simp; rfl)); (case hp => exact (Reps.none _ _)); intro v111 w7 ho8 hb hg_ hnew_; clear hg_ hnew_; (first | rw [← Ny110.out] at ho8 | (simp only [Int.reduceToNat] at ho8; rw [← Ny110.out] at ho8)); have HO112 := aZ (Kd.R_lower ho8 (below_size (lZB HB.out))); replace HB := aZ (below_step (lZB HB.out) hb); clear hb ho8))
 go_loopg [8] k (fun kq v8 w' => ∃ (x8_1 : Int), v8 = .int .i64 x8_1 ∧ Aside0 (spec_TaxReturn.l0 kq l0 a1 a2 y110 x8_1 = some r) ∧ Aside0 (kq ≤ k) ∧ Aside0 (Kd.R k59 59 w' w.heap.size (fun _ => True) v111 y110) ∧ Aside0 (Below w.heap.size w w'))
 case atStart => exact ⟨(0), tZB, H', ⟨Nat.le_refl _⟩, ⟨lZR HO112.out⟩, ⟨bZ⟩⟩
 case round =>
  clear H'; (try clear c4b0 c4b1); obtain ⟨x8_1, rfl, HA, HK1, HO_7, HB⟩ := hrel
  cases gk with
  | zero => exact absurd HA.out (by simp [spec_TaxReturn.l0])
  | succ k1 =>
   have H := HA.out; clear HA; simp only [spec_TaxReturn.l0] at H
   by_cases c9 : x8_1 < (l0.length : Int)
   ·rw [if_pos c9] at H; have c9b0 := decide_eq_true c9; clear c9
    by_cases c10 : 0 ≤ x8_1
    rotate_left
    ·rw [if_neg c10] at H; exact absurd H (by simp)
    rw [if_pos c10] at H; have c10b0 := decide_eq_true c10; clear c10
    by_cases c11 : (((rd_T82 l0 x8_1).f2).length : Int) > 6
    ·rw [if_pos c11] at H; have c11b0 : decide (6 < (((rd_T82 l0 x8_1).f2).length : Int)) = true := decide_eq_true c11; have c11b1 : decide (6 < ((rd_T82 l0 x8_1).f2).length) = true := decide_eq_true (by omega); clear c11; obtain rfl := Option.some.inj H; have p113 : 0 ≤ (x8_1 : Int) := of_decide_eq_true tZE; have q113 : x8_1 < (l0.length : Int) := of_decide_eq_true tZE; obtain ⟨ad113, A113_2, c113_2, e113, hx113_0, hx113_1, hx113_2, hl113_2, hi113_2⟩ := at_T82 HR0.out x8_1 p113 q113; have hz113_2 := hx113_2
     cases e113
     replace hx113_0 := cZ HB hx113_0; replace hx113_1 := cZ HB hx113_1; replace hx113_2 := cZ HB hx113_2; have HR113_2 := Aside0.mk hi113_2; have HC113_2 := Aside0.mk hl113_2; clear hi113_2 hl113_2; replace p113 := eq_true p113; replace q113 := eq_true q113; go_wp2; go_ret; exact ⟨_, tZC, lZR HO_7.out, bZ⟩
    rw [if_neg c11] at H; have c11b0 : decide (6 < (((rd_T82 l0 x8_1).f2).length : Int)) = false := decide_eq_false c11; have c11b1 : decide (6 < ((rd_T82 l0 x8_1).f2).length) = false := decide_eq_false (by omega); clear c11; have H' := Aside0.mk H; clear H; have p113 : 0 ≤ (x8_1 : Int) := of_decide_eq_true tZE; have q113 : x8_1 < (l0.length : Int) := of_decide_eq_true tZE; obtain ⟨ad113, A113_2, c113_2, e113, hx113_0, hx113_1, hx113_2, hl113_2, hi113_2⟩ := at_T82 HR0.out x8_1 p113 q113; have hz113_2 := hx113_2
    cases e113
    replace hx113_0 := cZ HB hx113_0; replace hx113_1 := cZ HB hx113_1; replace hx113_2 := cZ HB hx113_2; have HR113_2 := Aside0.mk hi113_2; have HC113_2 := Aside0.mk hl113_2; clear hi113_2 hl113_2; replace p113 := eq_true p113; replace q113 := eq_true q113; go_wp2
    go_loopg [9] k1 (fun kq v9 w' => ∃ (x9_2 : Int), v9 = .int .i64 x9_2 ∧ Aside0 (spec_TaxReturn.l1 kq l0 a1 a2 y110 x8_1 x9_2 = some r) ∧ Aside0 (kq ≤ k1) ∧ Aside0 (Kd.R k59 59 w' w.heap.size (fun _ => True) v111 y110) ∧ Aside0 (Below w.heap.size w w'))
    case atStart => exact ⟨(0), tZB, H', ⟨Nat.le_refl _⟩, ⟨lZR HO_7.out⟩, ⟨bZ⟩⟩
    case round =>
     clear H'; (try clear c4b0 c4b1 c9b0 c10b0 c11b0 c11b1 hx113_0 hx113_1 hx113_2 p113 q113); obtain ⟨x9_2, rfl, HA, HK2, HO_7, HB⟩ := hrel
     cases gk with
     | zero => exact absurd HA.out (by simp [spec_TaxReturn.l1])
     | succ k2 =>
      have H := HA.out; clear HA; simp only [spec_TaxReturn.l1] at H
      by_cases c12 : 0 ≤ x8_1
      rotate_left
      ·rw [if_neg c12] at H; exact absurd H (by simp)
      rw [if_pos c12] at H; have c12b0 := decide_eq_true c12; clear c12
      by_cases c13 : x8_1 < (l0.length : Int)
      rotate_left
      ·rw [if_neg c13] at H; exact absurd H (by simp)
      rw [if_pos c13] at H; have c13b0 := decide_eq_true c13; clear c13
      by_cases c14 : x9_2 < (((rd_T82 l0 x8_1).f2).length : Int)
      rotate_left
      ·rw [if_neg c14] at H; have c14b0 := decide_eq_false c14; clear c14; have H' := Aside0.mk H; clear H; have p114 : 0 ≤ (x8_1 : Int) := of_decide_eq_true tZE; have q114 : x8_1 < (l0.length : Int) := of_decide_eq_true tZE; obtain ⟨ad114, A114_2, c114_2, e114, hx114_0, hx114_1, hx114_2, hl114_2, hi114_2⟩ := at_T82 HR0.out x8_1 p114 q114; have hz114_2 := hx114_2; obtain rfl : ad113 = ad114 := (by injection e114); replace hx114_0 := cZ HB hx114_0; replace hx114_1 := cZ HB hx114_1; replace hx114_2 := cZ HB hx114_2; have HR114_2 := Aside0.mk hi114_2; have HC114_2 := Aside0.mk hl114_2; clear hi114_2 hl114_2; replace p114 := eq_true p114; replace q114 := eq_true q114; go_wp2
       go_roundg k2
       case measure => have := HK1.out; have := HK2.out; omega
       case rel => exact ⟨(wrap64 (x8_1 + 1)), tZB, H', ⟨by have := HK1.out; have := HK2.out; omega⟩, ⟨lZR HO_7.out⟩, ⟨bZ⟩⟩
      rw [if_pos c14] at H; have c14b0 := decide_eq_true c14; clear c14
      by_cases c15 : 0 ≤ x9_2
      rotate_left
      ·rw [if_neg c15] at H; exact absurd H (by simp)
      rw [if_pos c15] at H; have c15b0 := decide_eq_true c15; clear c15; replace H := Option.bind_eq_some_iff.mp H; obtain ⟨t117, A160, H⟩ := H; replace H : (if t117 = true then ((spec_l1Amount.f ((rd_T85 ((rd_T82 l0 x8_1).f2) x9_2).f3)).bind fun t120 => (if t120 = true then (spec_TaxReturn.l1 k2 l0 a1 a2 y110 x8_1 (wrap64 (x9_2 + 1))) else (some y110))) else (some y110)) = some r := H; have A16 := Aside0.mk A160; clear A160
      by_cases c17 : t117 = true
      rotate_left
      ·replace c17 := Bool.eq_false_iff.mpr c17; subst c17; rw [if_neg Bool.false_ne_true] at H; obtain rfl := Option.some.inj H; have p114 : 0 ≤ (x8_1 : Int) := of_decide_eq_true tZE; have q114 : x8_1 < (l0.length : Int) := of_decide_eq_true tZE; obtain ⟨ad114, A114_2, c114_2, e114, hx114_0, hx114_1, hx114_2, hl114_2, hi114_2⟩ := at_T82 HR0.out x8_1 p114 q114; have hz114_2 := hx114_2; obtain rfl : ad113 = ad114 := (by injection e114); replace hx114_0 := cZ HB hx114_0; replace hx114_1 := cZ HB hx114_1; replace hx114_2 := cZ HB hx114_2; have HR114_2 := Aside0.mk hi114_2; have HC114_2 := Aside0.mk hl114_2; clear hi114_2 hl114_2; replace p114 := eq_true p114; replace q114 := eq_true q114; have p115 : 0 ≤ (x8_1 : Int) := of_decide_eq_true tZE; have q115 : x8_1 < (l0.length : Int) := of_decide_eq_true tZE
       obtain ⟨ad115, A115_2, c115_2, e115, hx115_0, hx115_1, hx115_2, hl115_2, hi115_2⟩ := at_T82 HR0.out x8_1 p115 q115; have hz115_2 := hx115_2; obtain rfl : ad113 = ad115 := (by injection e115); replace hx115_0 := cZ HB hx115_0; replace hx115_1 := cZ HB hx115_1; replace hx115_2 := cZ HB hx115_2; have HR115_2 := Aside0.mk hi115_2; have HC115_2 := Aside0.mk hl115_2; clear hi115_2 hl115_2; replace p115 := eq_true p115; replace q115 := eq_true q115; have ea_ := Option.some.inj (hz114_2.symm.trans hz115_2)
       injection ea_ with ea_ en_ ec_
       subst ea_; subst ec_; clear en_; have p116 : 0 ≤ (x9_2 : Int) := of_decide_eq_true tZE; have q116 : x9_2 < (((rd_T82 l0 x8_1).f2).length : Int) := of_decide_eq_true tZE; obtain ⟨ad116, e116, hx116_0, hx116_1, hx116_2, hx116_3⟩ := at_T85 HR115_2.out x9_2 p116 q116
       cases e116
       replace hx116_0 := cZ HB hx116_0; replace hx116_1 := cZ HB hx116_1; replace hx116_2 := cZ HB hx116_2; replace hx116_3 := cZ HB hx116_3; replace p116 := eq_true p116; replace q116 := eq_true q116
       go_wp2_with (first | ((with_reducible refine gate_callee (f := 40) rfl ?_); refine goesL_ (some 58) rfl rfl Try.func40 kZ rfl #[.int .i64 ((rd_T85 ((rd_T82 l0 x8_1).f2) x9_2).f2)] rfl tZA ?_; (with_reducible refine (spec_l1Amount.calls ((rd_T85 ((rd_T82 l0 x8_1).f2) x9_2).f2) false _ A16.out).mono ?_); rintro e w' ⟨rfl, ⟨nd, rfl⟩⟩; refine ⟨_, rfl, ?_⟩))
       go_ret; exact ⟨_, tZC, lZR HO_7.out, bZ⟩
      subst c17; rw [if_pos rfl] at H; replace H := Option.bind_eq_some_iff.mp H; obtain ⟨t120, A180, H⟩ := H; replace H : (if t120 = true then (spec_TaxReturn.l1 k2 l0 a1 a2 y110 x8_1 (wrap64 (x9_2 + 1))) else (some y110)) = some r := H; have A18 := Aside0.mk A180; clear A180
      by_cases c19 : t120 = true
      rotate_left
      ·replace c19 := Bool.eq_false_iff.mpr c19; subst c19; rw [if_neg Bool.false_ne_true] at H; obtain rfl := Option.some.inj H; have p114 : 0 ≤ (x8_1 : Int) := of_decide_eq_true tZE; have q114 : x8_1 < (l0.length : Int) := of_decide_eq_true tZE; obtain ⟨ad114, A114_2, c114_2, e114, hx114_0, hx114_1, hx114_2, hl114_2, hi114_2⟩ := at_T82 HR0.out x8_1 p114 q114; have hz114_2 := hx114_2; obtain rfl : ad113 = ad114 := (by injection e114); replace hx114_0 := cZ HB hx114_0; replace hx114_1 := cZ HB hx114_1; replace hx114_2 := cZ HB hx114_2; have HR114_2 := Aside0.mk hi114_2; have HC114_2 := Aside0.mk hl114_2; clear hi114_2 hl114_2; replace p114 := eq_true p114; replace q114 := eq_true q114; have p115 : 0 ≤ (x8_1 : Int) := of_decide_eq_true tZE; have q115 : x8_1 < (l0.length : Int) := of_decide_eq_true tZE
       obtain ⟨ad115, A115_2, c115_2, e115, hx115_0, hx115_1, hx115_2, hl115_2, hi115_2⟩ := at_T82 HR0.out x8_1 p115 q115; have hz115_2 := hx115_2; obtain rfl : ad113 = ad115 := (by injection e115); replace hx115_0 := cZ HB hx115_0; replace hx115_1 := cZ HB hx115_1; replace hx115_2 := cZ HB hx115_2; have HR115_2 := Aside0.mk hi115_2; have HC115_2 := Aside0.mk hl115_2; clear hi115_2 hl115_2; replace p115 := eq_true p115; replace q115 := eq_true q115; have ea_ := Option.some.inj (hz114_2.symm.trans hz115_2)
       injection ea_ with ea_ en_ ec_
       subst ea_; subst ec_; clear en_; have p116 : 0 ≤ (x9_2 : Int) := of_decide_eq_true tZE; have q116 : x9_2 < (((rd_T82 l0 x8_1).f2).length : Int) := of_decide_eq_true tZE; obtain ⟨ad116, e116, hx116_0, hx116_1, hx116_2, hx116_3⟩ := at_T85 HR115_2.out x9_2 p116 q116
       cases e116
       replace hx116_0 := cZ HB hx116_0; replace hx116_1 := cZ HB hx116_1; replace hx116_2 := cZ HB hx116_2; replace hx116_3 := cZ HB hx116_3; replace p116 := eq_true p116; replace q116 := eq_true q116
       go_wp2_with (first | ((with_reducible refine gate_callee (f := 40) rfl ?_); refine goesL_ (some 58) rfl rfl Try.func40 kZ rfl #[.int .i64 ((rd_T85 ((rd_T82 l0 x8_1).f2) x9_2).f2)] rfl tZA ?_; (with_reducible refine (spec_l1Amount.calls ((rd_T85 ((rd_T82 l0 x8_1).f2) x9_2).f2) true _ A16.out).mono ?_); rintro e w' ⟨rfl, ⟨nd, rfl⟩⟩; refine ⟨_, rfl, ?_⟩; have p118 : 0 ≤ (x8_1 : Int) := of_decide_eq_true tZE; have q118 : x8_1 < (l0.length : Int) := of_decide_eq_true tZE; obtain ⟨ad118, A118_2, c118_2, e118, hx118_0, hx118_1, hx118_2, hl118_2, hi118_2⟩ := at_T82 HR0.out x8_1 p118 q118; have hz118_2 := hx118_2; obtain rfl : ad113 = ad118 := (by injection e118); replace hx118_0 := cZ HB hx118_0; replace hx118_1 := cZ HB hx118_1; replace hx118_2 := cZ HB hx118_2; have HR118_2 := Aside0.mk hi118_2; have HC118_2 := Aside0.mk hl118_2; clear hi118_2 hl118_2; replace p118 := eq_true p118; replace q118 := eq_true q118; have ea_ := Option.some.inj (hz114_2.symm.trans hz118_2); injection ea_ with ea_ en_ ec_; subst ea_; subst ec_; clear en_; have p119 : 0 ≤ (x9_2 : Int) := of_decide_eq_true tZE; have q119 : x9_2 < (((rd_T82 l0 x8_1).f2).length : Int) := of_decide_eq_true tZE; obtain ⟨ad119, e119, hx119_0, hx119_1, hx119_2, hx119_3⟩ := at_T85 HR118_2.out x9_2 p119 q119; cases e119; replace hx119_0 := cZ HB hx119_0; replace hx119_1 := cZ HB hx119_1; replace hx119_2 := cZ HB hx119_2; replace hx119_3 := cZ HB hx119_3; replace p119 := eq_true p119; replace q119 := eq_true q119) | (go_at_call 40; (with_reducible refine (spec_l1Amount.calls ((rd_T85 ((rd_T82 l0 x8_1).f2) x9_2).f3) false _ A18.out).mono ?_); rintro e w' ⟨rfl, ⟨nd, rfl⟩⟩))
       go_ret; exact ⟨_, tZC, lZR HO_7.out, bZ⟩
      subst c19; rw [if_pos rfl] at H; have H' := Aside0.mk H; clear H; have p114 : 0 ≤ (x8_1 : Int) := of_decide_eq_true tZE; have q114 : x8_1 < (l0.length : Int) := of_decide_eq_true tZE; obtain ⟨ad114, A114_2, c114_2, e114, hx114_0, hx114_1, hx114_2, hl114_2, hi114_2⟩ := at_T82 HR0.out x8_1 p114 q114; have hz114_2 := hx114_2; obtain rfl : ad113 = ad114 := (by injection e114); replace hx114_0 := cZ HB hx114_0; replace hx114_1 := cZ HB hx114_1; replace hx114_2 := cZ HB hx114_2; have HR114_2 := Aside0.mk hi114_2; have HC114_2 := Aside0.mk hl114_2; clear hi114_2 hl114_2; replace p114 := eq_true p114; replace q114 := eq_true q114; have p115 : 0 ≤ (x8_1 : Int) := of_decide_eq_true tZE; have q115 : x8_1 < (l0.length : Int) := of_decide_eq_true tZE; obtain ⟨ad115, A115_2, c115_2, e115, hx115_0, hx115_1, hx115_2, hl115_2, hi115_2⟩ := at_T82 HR0.out x8_1 p115 q115; have hz115_2 := hx115_2
      obtain rfl : ad113 = ad115 := (by injection e115); replace hx115_0 := cZ HB hx115_0; replace hx115_1 := cZ HB hx115_1; replace hx115_2 := cZ HB hx115_2; have HR115_2 := Aside0.mk hi115_2; have HC115_2 := Aside0.mk hl115_2; clear hi115_2 hl115_2; replace p115 := eq_true p115; replace q115 := eq_true q115; have ea_ := Option.some.inj (hz114_2.symm.trans hz115_2)
      injection ea_ with ea_ en_ ec_
      subst ea_; subst ec_; clear en_; have p116 : 0 ≤ (x9_2 : Int) := of_decide_eq_true tZE; have q116 : x9_2 < (((rd_T82 l0 x8_1).f2).length : Int) := of_decide_eq_true tZE; obtain ⟨ad116, e116, hx116_0, hx116_1, hx116_2, hx116_3⟩ := at_T85 HR115_2.out x9_2 p116 q116
      cases e116
      replace hx116_0 := cZ HB hx116_0; replace hx116_1 := cZ HB hx116_1; replace hx116_2 := cZ HB hx116_2; replace hx116_3 := cZ HB hx116_3; replace p116 := eq_true p116; replace q116 := eq_true q116
      go_wp2_with (first | ((with_reducible refine gate_callee (f := 40) rfl ?_); refine goesL_ (some 58) rfl rfl Try.func40 kZ rfl #[.int .i64 ((rd_T85 ((rd_T82 l0 x8_1).f2) x9_2).f2)] rfl tZA ?_; (with_reducible refine (spec_l1Amount.calls ((rd_T85 ((rd_T82 l0 x8_1).f2) x9_2).f2) true _ A16.out).mono ?_); rintro e w' ⟨rfl, ⟨nd, rfl⟩⟩; refine ⟨_, rfl, ?_⟩; have p118 : 0 ≤ (x8_1 : Int) := of_decide_eq_true tZE; have q118 : x8_1 < (l0.length : Int) := of_decide_eq_true tZE; obtain ⟨ad118, A118_2, c118_2, e118, hx118_0, hx118_1, hx118_2, hl118_2, hi118_2⟩ := at_T82 HR0.out x8_1 p118 q118; have hz118_2 := hx118_2; obtain rfl : ad113 = ad118 := (by injection e118); replace hx118_0 := cZ HB hx118_0; replace hx118_1 := cZ HB hx118_1; replace hx118_2 := cZ HB hx118_2; have HR118_2 := Aside0.mk hi118_2; have HC118_2 := Aside0.mk hl118_2; clear hi118_2 hl118_2; replace p118 := eq_true p118; replace q118 := eq_true q118; have ea_ := Option.some.inj (hz114_2.symm.trans hz118_2); injection ea_ with ea_ en_ ec_; subst ea_; subst ec_; clear en_; have p119 : 0 ≤ (x9_2 : Int) := of_decide_eq_true tZE; have q119 : x9_2 < (((rd_T82 l0 x8_1).f2).length : Int) := of_decide_eq_true tZE; obtain ⟨ad119, e119, hx119_0, hx119_1, hx119_2, hx119_3⟩ := at_T85 HR118_2.out x9_2 p119 q119; cases e119; replace hx119_0 := cZ HB hx119_0; replace hx119_1 := cZ HB hx119_1; replace hx119_2 := cZ HB hx119_2; replace hx119_3 := cZ HB hx119_3; replace p119 := eq_true p119; replace q119 := eq_true q119) | (go_at_call 40; (with_reducible refine (spec_l1Amount.calls ((rd_T85 ((rd_T82 l0 x8_1).f2) x9_2).f3) true _ A18.out).mono ?_); rintro e w' ⟨rfl, ⟨nd, rfl⟩⟩))
      go_roundg k2
      case measure => have := HK1.out; have := HK2.out; omega
      case rel => exact ⟨(wrap64 (x9_2 + 1)), tZB, H', ⟨by have := HK1.out; have := HK2.out; omega⟩, ⟨lZR HO_7.out⟩, ⟨bZ⟩⟩
   rw [if_neg c9] at H; have c9b0 := decide_eq_false c9; clear c9; obtain ⟨y121, hy121⟩ : ∃ y_ : List ByteArray, y_ = (([] : List ByteArray)) := ⟨_, rfl⟩; replace H : (spec_TaxReturn.l2 k1 l0 a1 a2 y110 y121 0) = some r := by first | (rw [hy121]; with_reducible exact H) | (have H2_ := (Option.bind_some _ _).symm.trans H; rw [hy121]; with_reducible exact H2_) | (have H2_ := (Option.bind_some _ _).symm.trans H; with_reducible exact H2_) | with_reducible exact H | (rw [hy121]; exact H) | exact H
   have Ny121 := Aside0.mk hy121; clear hy121; have H' := Aside0.mk H; clear H
   go_wp2_with (first | ((with_reducible refine gate_dst (N := 74) rfl ?_); refine Kd.R_lit Kd.string _ 9 ?hg (N := 74) ?hd (xs := ([] : List ByteArray)) (inner := []) (ok := fun _ => True) (okp := fun _ => True) ?hr ?hp (fun _ hk => hk) trivial (Below.refl _ _) (Nat.le_refl _) (by simp) ?_; (case hd => rfl); (case hg => rfl); (case hr => first | (go_simp; done) | (go_simp; rfl)); (case hp => exact (Reps.none _ _)); intro v122 w20 ho21 hb hg_ hnew_; clear hg_ hnew_; (first | rw [← Ny121.out] at ho21 | (simp only [Int.reduceToNat] at ho21; rw [← Ny121.out] at ho21)); replace HO_7 := aZ (Kd.R_below (lZR HO_7.out) hb); have HO123 := aZ (Kd.R_lower ho21 (below_size (lZB HB.out))); replace HB := aZ (below_step (lZB HB.out) hb); clear hb ho21))
   go_loopg [10, 11] k1 (fun kq v10 v11 w' => ∃ (x10_2 : List ByteArray) (x11_2 : Int), v11 = .int .i64 x11_2 ∧ Aside0 (spec_TaxReturn.l2 kq l0 a1 a2 y110 x10_2 x11_2 = some r) ∧ Aside0 (kq ≤ k1) ∧ Aside0 (Kd.R k59 59 w' w.heap.size (fun _ => True) v111 y110) ∧ Aside0 (Kd.R Kd.string 9 w' w.heap.size (fun _ => True) v10 x10_2) ∧ Aside0 (Below w.heap.size w w'))
   case atStart => exact ⟨(y121), (0), tZB, H', ⟨Nat.le_refl _⟩, ⟨lZR HO_7.out⟩, ⟨lZR HO123.out⟩, ⟨bZ⟩⟩
   case round =>
    clear H'; (try clear c4b0 c4b1 c9b0); obtain ⟨x10_2, x11_2, rfl, HA, HK2, HO_7, HO_10, HB⟩ := hrel
    cases gk with
    | zero => exact absurd HA.out (by simp [spec_TaxReturn.l2])
    | succ k2 =>
     have H := HA.out; clear HA; simp only [spec_TaxReturn.l2] at H
     by_cases c22 : x11_2 < (l0.length : Int)
     ·rw [if_pos c22] at H; have c22b0 := decide_eq_true c22; clear c22; have H' := Aside0.mk H; clear H; go_wp2
      go_loopg [10, 12] k2 (fun kq v10 v12 w' => ∃ (x10_3 : List ByteArray) (x12_3 : Int), v12 = .int .i64 x12_3 ∧ Aside0 (spec_TaxReturn.l3 kq l0 a1 a2 y110 x10_3 x11_2 x12_3 = some r) ∧ Aside0 (kq ≤ k2) ∧ Aside0 (Kd.R k59 59 w' w.heap.size (fun _ => True) v111 y110) ∧ Aside0 (Kd.R Kd.string 9 w' w.heap.size (fun _ => True) v10 x10_3) ∧ Aside0 (Below w.heap.size w w'))
      case atStart => exact ⟨(x10_2), (0), tZB, H', ⟨Nat.le_refl _⟩, ⟨lZR HO_7.out⟩, ⟨lZR HO_10.out⟩, ⟨bZ⟩⟩
      case round =>
       clear H'; (try clear c4b0 c4b1 c9b0 c22b0); obtain ⟨x10_3, x12_3, rfl, HA, HK3, HO_7, HO_10, HB⟩ := hrel
       cases gk with
       | zero => exact absurd HA.out (by simp [spec_TaxReturn.l3])
       | succ k3 =>
        have H := HA.out; clear HA; simp only [spec_TaxReturn.l3] at H; have HC23 := Aside0.mk H; clear H
        go_upto_region 19 with (fail)
        go_cut [98] (fun v98 wc => ∃ (kq : Nat) (x98_22 : Bool), v98 = .bool x98_22 ∧ Aside0 (spec_TaxReturn.j4 kq l0 a1 a2 y110 x10_3 x11_2 x12_3 x98_22 = some r) ∧ Aside0 (kq ≤ k3) ∧ Aside0 (Kd.R k59 59 wc w.heap.size (fun _ => True) v111 y110) ∧ Aside0 (Kd.R Kd.string 9 wc w.heap.size (fun _ => True) u10 x10_3) ∧ Aside0 (Below w.heap.size w wc))
        case first =>
         have H := HC23.out; clear HC23
         by_cases c24 : 0 ≤ x11_2
         rotate_left
         ·rw [if_neg c24] at H; exact absurd H (by simp)
         rw [if_pos c24] at H; have c24b0 := decide_eq_true c24; clear c24; (first | rw [c24b0] | (simp only [i64_w, i32_w]; rw [c24b0]) | skip)
         by_cases c25 : x11_2 < (l0.length : Int)
         rotate_left
         ·rw [if_neg c25] at H; exact absurd H (by simp)
         rw [if_pos c25] at H; have c25b0 := decide_eq_true c25; clear c25
         by_cases c26 : x12_3 < (((rd_T82 l0 x11_2).f2).length : Int)
         rotate_left
         ·rw [if_neg c26] at H; have c26b0 := decide_eq_false c26; clear c26; have H' := Aside0.mk H; clear H; have p124 : 0 ≤ (x11_2 : Int) := of_decide_eq_true tZE; have q124 : x11_2 < (l0.length : Int) := of_decide_eq_true tZE; obtain ⟨ad124, A124_2, c124_2, e124, hx124_0, hx124_1, hx124_2, hl124_2, hi124_2⟩ := at_T82 HR0.out x11_2 p124 q124; have hz124_2 := hx124_2
          cases e124
          replace hx124_0 := cZ HB hx124_0; replace hx124_1 := cZ HB hx124_1; replace hx124_2 := cZ HB hx124_2; have HR124_2 := Aside0.mk hi124_2; have HC124_2 := Aside0.mk hl124_2; clear hi124_2 hl124_2; replace p124 := eq_true p124; replace q124 := eq_true q124; go_wp2; go_meet
          case rel => exact ⟨_, (false), tZB, H', ⟨by have := HK1.out; have := HK2.out; have := HK3.out; first | omega | exact Nat.le_refl _⟩, ⟨lZR HO_7.out⟩, ⟨lZR HO_10.out⟩, ⟨bZ⟩⟩
         rw [if_pos c26] at H; have c26b0 := decide_eq_true c26; clear c26; replace H := Option.bind_eq_some_iff.mp H; obtain ⟨t126, A270, H⟩ := H; replace H : (spec_TaxReturn.j4 k3 l0 a1 a2 y110 x10_3 x11_2 x12_3 t126) = some r := H; have A27 := Aside0.mk A270; clear A270; have H' := Aside0.mk H; clear H; have p124 : 0 ≤ (x11_2 : Int) := of_decide_eq_true tZE; have q124 : x11_2 < (l0.length : Int) := of_decide_eq_true tZE; obtain ⟨ad124, A124_2, c124_2, e124, hx124_0, hx124_1, hx124_2, hl124_2, hi124_2⟩ := at_T82 HR0.out x11_2 p124 q124; have hz124_2 := hx124_2
         cases e124
         replace hx124_0 := cZ HB hx124_0; replace hx124_1 := cZ HB hx124_1; replace hx124_2 := cZ HB hx124_2; have HR124_2 := Aside0.mk hi124_2; have HC124_2 := Aside0.mk hl124_2; clear hi124_2 hl124_2; replace p124 := eq_true p124; replace q124 := eq_true q124; have p125 : 0 ≤ (x11_2 : Int) := of_decide_eq_true tZE; have q125 : x11_2 < (l0.length : Int) := of_decide_eq_true tZE; obtain ⟨ad125, A125_2, c125_2, e125, hx125_0, hx125_1, hx125_2, hl125_2, hi125_2⟩ := at_T82 HR0.out x11_2 p125 q125; have hz125_2 := hx125_2; obtain rfl : ad124 = ad125 := (by injection e125); replace hx125_0 := cZ HB hx125_0; replace hx125_1 := cZ HB hx125_1; replace hx125_2 := cZ HB hx125_2; have HR125_2 := Aside0.mk hi125_2; have HC125_2 := Aside0.mk hl125_2; clear hi125_2 hl125_2; replace p125 := eq_true p125; replace q125 := eq_true q125; have ea_ := Option.some.inj (hz124_2.symm.trans hz125_2)
         injection ea_ with ea_ en_ ec_
         subst ea_; subst ec_; clear en_
         go_wp2_with (first | (go_at_call 41; (with_reducible refine (spec_l1In.calls ((rd_T82 l0 x11_2).f0) a1 a2 t126 _ A27.out).mono ?_); rintro e w' ⟨rfl, ⟨nd, rfl⟩⟩))
         go_meet
         case rel => exact ⟨_, (t126), tZB, H', ⟨by have := HK1.out; have := HK2.out; have := HK3.out; first | omega | exact Nat.le_refl _⟩, ⟨lZR HO_7.out⟩, ⟨lZR HO_10.out⟩, ⟨bZ⟩⟩
        case rest =>
         clear HC23; (try clear c4b0 c4b1 c9b0 c22b0); obtain ⟨kq, x98_22, rfl, HA, HJ22, HO_7, HO_10, HB⟩ := hcut
         cases kq with
         | zero => exact absurd HA.out (by simp [spec_TaxReturn.j4])
         | succ kj22 =>
          have H := HA.out; clear HA; simp only [spec_TaxReturn.j4] at H
          by_cases c28 : x98_22 = true
          rotate_left
          ·replace c28 := Bool.eq_false_iff.mpr c28; subst c28; rw [if_neg Bool.false_ne_true] at H; have H' := Aside0.mk H; clear H; go_wp2
           go_roundg kj22
           case measure => have := HK1.out; have := HK2.out; have := HK3.out; have := HJ22.out; omega
           case rel => exact ⟨(x10_3), (wrap64 (x11_2 + 1)), tZB, H', ⟨by have := HK1.out; have := HK2.out; have := HK3.out; have := HJ22.out; omega⟩, ⟨lZR HO_7.out⟩, ⟨lZR HO_10.out⟩, ⟨bZ⟩⟩
          subst c28; rw [if_pos rfl] at H
          by_cases c29 : 0 ≤ x11_2
          rotate_left
          ·rw [if_neg c29] at H; exact absurd H (by simp)
          rw [if_pos c29] at H; have c29b0 := decide_eq_true c29; clear c29
          by_cases c30 : x11_2 < (l0.length : Int)
          rotate_left
          ·rw [if_neg c30] at H; exact absurd H (by simp)
          rw [if_pos c30] at H; have c30b0 := decide_eq_true c30; clear c30
          by_cases c31 : 0 ≤ x12_3
          rotate_left
          ·rw [if_neg c31] at H; exact absurd H (by simp)
          rw [if_pos c31] at H; have c31b0 := decide_eq_true c31; clear c31
          by_cases c32 : x12_3 < (((rd_T82 l0 x11_2).f2).length : Int)
          rotate_left
          ·rw [if_neg c32] at H; exact absurd H (by simp)
          rw [if_pos c32] at H; have c32b0 := decide_eq_true c32; clear c32; replace H := Option.bind_eq_some_iff.mp H; obtain ⟨t129, A330, H⟩ := H; replace H : (if t129 = true then (spec_TaxReturn.l3 kj22 l0 a1 a2 y110 x10_3 x11_2 (wrap64 (x12_3 + 1))) else (if x10_3.length < 8796093022208 then (spec_TaxReturn.l3 kj22 l0 a1 a2 y110 (x10_3 ++ [(rd_T85 ((rd_T82 l0 x11_2).f2) x12_3).f0]) x11_2 (wrap64 (x12_3 + 1))) else (none))) = some r := H; have A33 := Aside0.mk A330; clear A330
          by_cases c34 : t129 = true
          ·subst c34; rw [if_pos rfl] at H; have H' := Aside0.mk H; clear H; have p127 : 0 ≤ (x11_2 : Int) := of_decide_eq_true tZE; have q127 : x11_2 < (l0.length : Int) := of_decide_eq_true tZE; obtain ⟨ad127, A127_2, c127_2, e127, hx127_0, hx127_1, hx127_2, hl127_2, hi127_2⟩ := at_T82 HR0.out x11_2 p127 q127; have hz127_2 := hx127_2
           cases e127
           replace hx127_0 := cZ HB hx127_0; replace hx127_1 := cZ HB hx127_1; replace hx127_2 := cZ HB hx127_2; have HR127_2 := Aside0.mk hi127_2; have HC127_2 := Aside0.mk hl127_2; clear hi127_2 hl127_2; replace p127 := eq_true p127; replace q127 := eq_true q127; have p128 : 0 ≤ (x12_3 : Int) := of_decide_eq_true tZE; have q128 : x12_3 < (((rd_T82 l0 x11_2).f2).length : Int) := of_decide_eq_true tZE; obtain ⟨ad128, e128, hx128_0, hx128_1, hx128_2, hx128_3⟩ := at_T85 HR127_2.out x12_3 p128 q128
           cases e128
           replace hx128_0 := cZ HB hx128_0; replace hx128_1 := cZ HB hx128_1; replace hx128_2 := cZ HB hx128_2; replace hx128_3 := cZ HB hx128_3; replace p128 := eq_true p128; replace q128 := eq_true q128; obtain ⟨Ao35, co35, eo35⟩ := Kd.R_slice HO_10.out; subst eo35
           go_wp2_with (first | ((with_reducible refine gate_callee (f := 42) rfl ?_); refine goesL_ (some 111) rfl rfl Try.func42 kZ rfl #[.slice Ao35 x10_3.length co35, .string ((rd_T85 ((rd_T82 l0 x11_2).f2) x12_3).f0)] rfl tZA ?_; (with_reducible refine (spec_l10Has.calls kj22 _ _ x10_3 ((rd_T85 ((rd_T82 l0 x11_2).f2) x12_3).f0) true _ ?side1 ?side2 A33.out).mono ?_); (case side1 => repeat (first | exact (Kd.R_reads' HO_10.out).2.2 | (with_reducible refine Kd.C_alloc ?_ _) | (with_reducible refine Kd.C_drewN ?_ _) | (with_reducible refine Kd.C_drew ?_))); (case side2 => exact (Kd.R_reads' HO_10.out).2.1); rintro e w' ⟨rfl, ⟨nd, rfl⟩⟩; refine ⟨_, rfl, ?_⟩))
           go_roundg kj22
           case measure => have := HK1.out; have := HK2.out; have := HK3.out; have := HJ22.out; omega
           case rel => exact ⟨(x10_3), (wrap64 (x12_3 + 1)), tZB, H', ⟨by have := HK1.out; have := HK2.out; have := HK3.out; have := HJ22.out; omega⟩, ⟨lZR HO_7.out⟩, ⟨lZR HO_10.out⟩, ⟨bZ⟩⟩
          replace c34 := Bool.eq_false_iff.mpr c34; subst c34; rw [if_neg Bool.false_ne_true] at H
          by_cases c36 : x10_3.length < 8796093022208
          rotate_left
          ·rw [if_neg c36] at H; exact absurd H (by simp)
          rw [if_pos c36] at H; have LMc36 := Aside0.mk c36; clear c36; obtain ⟨y132, hy132⟩ : ∃ y_ : List ByteArray, y_ = (x10_3 ++ [(rd_T85 ((rd_T82 l0 x11_2).f2) x12_3).f0]) := ⟨_, rfl⟩; replace H : (spec_TaxReturn.l3 kj22 l0 a1 a2 y110 y132 x11_2 (wrap64 (x12_3 + 1))) = some r := by first | (rw [hy132]; with_reducible exact H) | (have H2_ := (Option.bind_some _ _).symm.trans H; rw [hy132]; with_reducible exact H2_) | (have H2_ := (Option.bind_some _ _).symm.trans H; with_reducible exact H2_) | with_reducible exact H | (rw [hy132]; exact H) | exact H
          have Ny132 := Aside0.mk hy132; clear hy132; have H' := Aside0.mk H; clear H; have p127 : 0 ≤ (x11_2 : Int) := of_decide_eq_true tZE; have q127 : x11_2 < (l0.length : Int) := of_decide_eq_true tZE; obtain ⟨ad127, A127_2, c127_2, e127, hx127_0, hx127_1, hx127_2, hl127_2, hi127_2⟩ := at_T82 HR0.out x11_2 p127 q127; have hz127_2 := hx127_2
          cases e127
          replace hx127_0 := cZ HB hx127_0; replace hx127_1 := cZ HB hx127_1; replace hx127_2 := cZ HB hx127_2; have HR127_2 := Aside0.mk hi127_2; have HC127_2 := Aside0.mk hl127_2; clear hi127_2 hl127_2; replace p127 := eq_true p127; replace q127 := eq_true q127; have p128 : 0 ≤ (x12_3 : Int) := of_decide_eq_true tZE; have q128 : x12_3 < (((rd_T82 l0 x11_2).f2).length : Int) := of_decide_eq_true tZE; obtain ⟨ad128, e128, hx128_0, hx128_1, hx128_2, hx128_3⟩ := at_T85 HR127_2.out x12_3 p128 q128
          cases e128
          replace hx128_0 := cZ HB hx128_0; replace hx128_1 := cZ HB hx128_1; replace hx128_2 := cZ HB hx128_2; replace hx128_3 := cZ HB hx128_3; replace p128 := eq_true p128; replace q128 := eq_true q128; obtain ⟨Ao37, co37, eo37⟩ := Kd.R_slice HO_10.out; subst eo37
          go_wp2_with (first | ((with_reducible refine gate_callee (f := 42) rfl ?_); refine goesL_ (some 111) rfl rfl Try.func42 kZ rfl #[.slice Ao37 x10_3.length co37, .string ((rd_T85 ((rd_T82 l0 x11_2).f2) x12_3).f0)] rfl tZA ?_; (with_reducible refine (spec_l10Has.calls kj22 _ _ x10_3 ((rd_T85 ((rd_T82 l0 x11_2).f2) x12_3).f0) false _ ?side1 ?side2 A33.out).mono ?_); (case side1 => repeat (first | exact (Kd.R_reads' HO_10.out).2.2 | (with_reducible refine Kd.C_alloc ?_ _) | (with_reducible refine Kd.C_drewN ?_ _) | (with_reducible refine Kd.C_drew ?_))); (case side2 => exact (Kd.R_reads' HO_10.out).2.1); rintro e w' ⟨rfl, ⟨nd, rfl⟩⟩; refine ⟨_, rfl, ?_⟩; have p130 : 0 ≤ (x11_2 : Int) := of_decide_eq_true tZE; have q130 : x11_2 < (l0.length : Int) := of_decide_eq_true tZE; obtain ⟨ad130, A130_2, c130_2, e130, hx130_0, hx130_1, hx130_2, hl130_2, hi130_2⟩ := at_T82 HR0.out x11_2 p130 q130; have hz130_2 := hx130_2; obtain rfl : ad127 = ad130 := (by injection e130); replace hx130_0 := cZ HB hx130_0; replace hx130_1 := cZ HB hx130_1; replace hx130_2 := cZ HB hx130_2; have HR130_2 := Aside0.mk hi130_2; have HC130_2 := Aside0.mk hl130_2; clear hi130_2 hl130_2; replace p130 := eq_true p130; replace q130 := eq_true q130; have ea_ := Option.some.inj (hz127_2.symm.trans hz130_2); injection ea_ with ea_ en_ ec_; subst ea_; subst ec_; clear en_; have p131 : 0 ≤ (x12_3 : Int) := of_decide_eq_true tZE; have q131 : x12_3 < (((rd_T82 l0 x11_2).f2).length : Int) := of_decide_eq_true tZE; obtain ⟨ad131, e131, hx131_0, hx131_1, hx131_2, hx131_3⟩ := at_T85 HR130_2.out x12_3 p131 q131; cases e131; replace hx131_0 := cZ HB hx131_0; replace hx131_1 := cZ HB hx131_1; replace hx131_2 := cZ HB hx131_2; replace hx131_3 := cZ HB hx131_3; replace p131 := eq_true p131; replace q131 := eq_true q131) | ((with_reducible refine gate_builtin (b := .append) (xs := #[.tmp 113, .tmp 123]) rfl ?_); at_builtin; refine Kd.R_append Kd.string (w0 := w) w.heap.size rfl (.tmp 113) (.tmp 123) 86 9 (.string ⟨#[]⟩) 16 rfl Try.underlying86 info9 rfl (by decide) (by omega) (.slice Ao37 x10_3.length co37) x10_3 ((rd_T85 ((rd_T82 l0 x11_2).f2) x12_3).f0) [.string ((rd_T85 ((rd_T82 l0 x11_2).f2) x12_3).f0)] (fun _ => True) (fun _ => False) rfl rfl ?aP (fun _ hk => hk.elim) ?aF ?aO ?aB ?aS ?aL ?_; (case aP => exact rfl); (case aB => exact (lZB HB.out)); (case aF => exact (fun _ _ => trivial)); (case aO => exact (lZR HO_10.out)); (case aS => exact (below_size (lZB HB.out))); (case aL => have := LMc36.out; omega); intro v133 w38 ho hb hg hat; rw [← Ny132.out] at ho; replace HO_7 := aZ (Kd.R_over' (lZR HO_7.out) (Kd.R_typed (lZR HO_10.out)) (by decide) hg); replace HB := aZ (hb); have HO134 := aZ (ho); clear HO_10; clear ho hb hg hat))
          go_roundg kj22
          case measure => have := HK1.out; have := HK2.out; have := HK3.out; have := HJ22.out; omega
          case rel => exact ⟨(y132), (wrap64 (x12_3 + 1)), tZB, H', ⟨by have := HK1.out; have := HK2.out; have := HK3.out; have := HJ22.out; omega⟩, ⟨lZR HO_7.out⟩, ⟨lZR HO134.out⟩, ⟨bZ⟩⟩
     rw [if_neg c22] at H; have c22b0 := decide_eq_false c22; clear c22; have H' := Aside0.mk H; clear H; go_wp2
     go_loopg [7, 10] k2 (fun kq v7 v10 w' => ∃ (x7_3 : List (S59)) (x10_3 : List ByteArray), Aside0 (spec_TaxReturn.l4 kq l0 a1 a2 x7_3 x10_3 = some r) ∧ Aside0 (kq ≤ k2) ∧ Aside0 (Kd.R k59 59 w' w.heap.size (fun _ => True) v7 x7_3) ∧ Aside0 (Kd.R Kd.string 9 w' w.heap.size (fun _ => True) v10 x10_3) ∧ Aside0 (Below w.heap.size w w'))
     case atStart => exact ⟨(y110), (x10_2), H', ⟨Nat.le_refl _⟩, ⟨lZR HO_7.out⟩, ⟨lZR HO_10.out⟩, ⟨bZ⟩⟩
     case round =>
      clear H'; (try clear c4b0 c4b1 c9b0 c22b0); obtain ⟨x7_3, x10_3, HA, HK3, HO_7, HO_10, HB⟩ := hrel
      cases gk with
      | zero => exact absurd HA.out (by simp [spec_TaxReturn.l4])
      | succ k3 =>
       have H := HA.out; clear HA; simp only [spec_TaxReturn.l4] at H
       by_cases c39 : (x10_3.length : Int) > 0
       rotate_left
       ·rw [if_neg c39] at H; have c39b0 : decide (0 < (x10_3.length : Int)) = false := decide_eq_false c39; have c39b1 : decide (0 < x10_3.length) = false := decide_eq_false (by omega); clear c39; obtain rfl := Option.some.inj H; obtain ⟨Ao101, co101, eo101⟩ := Kd.R_slice HO_10.out; subst eo101; go_wp2; go_ret; exact ⟨_, tZC, lZR HO_7.out, bZ⟩
       rw [if_pos c39] at H; have c39b0 : decide (0 < (x10_3.length : Int)) = true := decide_eq_true c39; have c39b1 : decide (0 < x10_3.length) = true := decide_eq_true (by omega); clear c39; have H' := Aside0.mk H; clear H; obtain ⟨Ao40, co40, eo40⟩ := Kd.R_slice HO_10.out; subst eo40; go_wp2
       go_loopg [13, 14] k3 (fun kq v13 v14 w' => ∃ (x13_4 : Int) (x14_4 : Int), v13 = .int .i64 x13_4 ∧ v14 = .int .i64 x14_4 ∧ Aside0 (spec_TaxReturn.l5 kq l0 a1 a2 x7_3 x10_3 x13_4 x14_4 = some r) ∧ Aside0 (kq ≤ k3) ∧ Aside0 (Kd.R k59 59 w' w.heap.size (fun _ => True) u7 x7_3) ∧ Aside0 (Kd.R Kd.string 9 w' w.heap.size (fun _ => True) (.slice Ao40 x10_3.length co40) x10_3) ∧ Aside0 (Below w.heap.size w w'))
       case atStart => exact ⟨(0), (1), tZB, tZB, H', ⟨Nat.le_refl _⟩, ⟨lZR HO_7.out⟩, ⟨lZR HO_10.out⟩, ⟨bZ⟩⟩
       case round =>
        clear H'; (try clear c4b0 c4b1 c9b0 c22b0 c39b0 c39b1); obtain ⟨x13_4, x14_4, rfl, rfl, HA, HK4, HO_7, HO_10, HB⟩ := hrel
        cases gk with
        | zero => exact absurd HA.out (by simp [spec_TaxReturn.l5])
        | succ k4 =>
         have H := HA.out; clear HA; simp only [spec_TaxReturn.l5] at H
         by_cases c41 : x14_4 < (x10_3.length : Int)
         ·rw [if_pos c41] at H; have c41b0 := decide_eq_true c41; clear c41
          by_cases c42 : 0 ≤ x14_4
          rotate_left
          ·rw [if_neg c42] at H; exact absurd H (by simp)
          rw [if_pos c42] at H; have c42b0 := decide_eq_true c42; clear c42
          by_cases c43 : 0 ≤ x13_4
          rotate_left
          ·rw [if_neg c43] at H; exact absurd H (by simp)
          rw [if_pos c43] at H; have c43b0 := decide_eq_true c43; clear c43
          by_cases c44 : x13_4 < (x10_3.length : Int)
          rotate_left
          ·rw [if_neg c44] at H; exact absurd H (by simp)
          rw [if_pos c44] at H; have c44b0 := decide_eq_true c44; clear c44
          by_cases c45 : (Op.bytesLess ((rdOf ByteArray.empty x10_3 x14_4).toList) ((rdOf ByteArray.empty x10_3 x13_4).toList)) = true
          ·rw [if_pos c45] at H; have c45b0 : (Op.bytesLess ((rdOf ByteArray.empty x10_3 x14_4).toList) ((rdOf ByteArray.empty x10_3 x13_4).toList)) = true := c45; clear c45; have H' := Aside0.mk H; clear H
           try go_wp2
           replace HO_7 := aZ (Kd.R_drew HO_7.out); replace HO_10 := aZ (Kd.R_drew HO_10.out); replace HB := aZ (below_drew1 HB.out); have p135 : 0 ≤ (x14_4 : Int) := of_decide_eq_true tZE; have q135 : x14_4 < (x10_3.length : Int) := of_decide_eq_true tZE; obtain ⟨ad135, e135, hx135_0⟩ := Kd.at_string (Kd.R_reads' HO_10.out).2.2 x14_4 p135 q135
           cases e135
           replace p135 := eq_true p135; replace q135 := eq_true q135; have p136 : 0 ≤ (x13_4 : Int) := of_decide_eq_true tZE; have q136 : x13_4 < (x10_3.length : Int) := of_decide_eq_true tZE; obtain ⟨ad136, e136, hx136_0⟩ := Kd.at_string (Kd.R_reads' HO_10.out).2.2 x13_4 p136 q136; obtain rfl : ad135 = ad136 := (by injection e136); replace p136 := eq_true p136; replace q136 := eq_true q136; refine start_ (n := 9) (S := fun w' => w'.cell? (ad135.add (x14_4).toNat) = some (.string (rdOf ByteArray.empty x10_3 x14_4)) ∧ w'.cell? (ad135.add (x13_4).toNat) = some (.string (rdOf ByteArray.empty x10_3 x13_4))) (ds := []) L0' kZ rfl rfl ⟨hx135_0, hx136_0⟩ (fun hHeld => ?_); refine with_tabW spec_TaxReturn.tab28 spec_TaxReturn.bits28 (fun HT_ HW_ => ?_); generalize wr.drew = w46 at HO_7 HO_10 HB hx135_0 hx136_0 hHeld ⊢
           refine pure_ (i := 0) (N := some 134) (v := ?_) (a' := ?_) L1' rfl rfl (any_of HT_.out kZ) (fun _ _ _ h => h) (Or.inl ⟨by rfl, ?_⟩) ?_ ?_; rotate_left
           ·intro w'; go_simp; with_reducible rfl
           rotate_left
           ·simp only [Act.put, sZ1, sZ2, sZ3, i64_w, i32_w]; rfl
           refine pure_ (i := 1) (N := some 135) (v := ?_) (a' := ?_) L2' rfl rfl (any_of HT_.out kZ) (fun _ _ _ h => h) (Or.inl ⟨by rfl, ?_⟩) ?_ ?_; rotate_left
           ·intro w'; go_simp; with_reducible rfl
           rotate_left
           ·simp only [Act.put, sZ1, sZ2, sZ3, i64_w, i32_w]; rfl
           refine pure_ (i := 2) (N := some 136) (v := ?_) (a' := ?_) L3' rfl rfl (any_of HT_.out kZ) (fun _ _ _ h => h) (Or.inl ⟨by rfl, ?_⟩) ?_ ?_; rotate_left
           ·intro w'; go_simp; with_reducible rfl
           rotate_left
           ·simp only [Act.put, sZ1, sZ2, sZ3, i64_w, i32_w]; rfl
           refine pure_ (i := 4) (N := some 138) (v := ?_) (a' := ?_) L4' rfl rfl (any_of HT_.out kZ) (fun _ _ _ h => h) (Or.inl ⟨by rfl, ?_⟩) ?_ ?_; rotate_left
           ·intro w'; go_simp; with_reducible rfl
           rotate_left
           ·simp only [Act.put, sZ1, sZ2, sZ3, i64_w, i32_w]; rfl
           refine pure_ (i := 5) (N := some 139) (v := ?_) (a' := ?_) L5' rfl rfl (any_of HT_.out kZ) (fun _ _ _ h => h) (Or.inl ⟨by rfl, ?_⟩) ?_ ?_; rotate_left
           ·intro w'; go_simp; with_reducible rfl
           rotate_left
           ·simp only [Act.put, sZ1, sZ2, sZ3, i64_w, i32_w]; rfl
           refine pure_ (i := 6) (N := some 140) (v := ?_) (a' := ?_) L6' rfl rfl (any_of HT_.out kZ) (fun _ _ _ h => h) (Or.inl ⟨by rfl, ?_⟩) ?_ ?_; rotate_left
           ·intro w'; go_simp; with_reducible rfl
           rotate_left
           ·simp only [Act.put, sZ1, sZ2, sZ3, i64_w, i32_w]; rfl
           refine take_ (i := 3) (N := some 137) (v := ?_) (a' := ?_) L7' rfl rfl (take_ofW HT_.out HW_.out kZ) (fun _ _ _ h => h) (Or.inl ⟨by rfl, ?_⟩) hHeld ?_ ?_; rotate_left
           ·rintro w' ⟨s0, s1⟩
            go_simp; with_reducible rfl
           rotate_left
           ·simp only [Act.put, sZ1, sZ2, sZ3, i64_w, i32_w]; rfl
           refine take_ (i := 7) (N := some 141) (v := ?_) (a' := ?_) L8' rfl rfl (take_ofW HT_.out HW_.out kZ) (fun _ _ _ h => h) (Or.inl ⟨by rfl, ?_⟩) hHeld ?_ ?_; rotate_left
           ·rintro w' ⟨s0, s1⟩
            go_simp; with_reducible rfl
           rotate_left
           ·simp only [Act.put, sZ1, sZ2, sZ3, i64_w, i32_w]; rfl
           refine pure_ (i := 8) (N := some 142) (v := ?_) (a' := ?_) L9' rfl rfl (any_of HT_.out kZ) (fun _ _ _ h => h) (Or.inl ⟨by rfl, ?_⟩) ?_ ?_; rotate_left
           ·intro w'; go_simp; with_reducible rfl
           rotate_left
           ·simp only [Act.put, sZ1, sZ2, sZ3, i64_w, i32_w]; rfl
           refine done_ (done_of HT_.out kZ) ?_
           try go_wp2
           go_roundg k4
           case measure => have := HK1.out; have := HK2.out; have := HK3.out; have := HK4.out; omega
           case rel => exact ⟨(x14_4), (wrap64 (x14_4 + 1)), tZB, tZB, H', ⟨by have := HK1.out; have := HK2.out; have := HK3.out; have := HK4.out; omega⟩, ⟨lZR HO_7.out⟩, ⟨lZR HO_10.out⟩, ⟨bZ⟩⟩
          rw [if_neg c45] at H; have c45b0 : (Op.bytesLess ((rdOf ByteArray.empty x10_3 x14_4).toList) ((rdOf ByteArray.empty x10_3 x13_4).toList)) = false := by simpa using c45
          clear c45; have H' := Aside0.mk H; clear H
          try go_wp2
          replace HO_7 := aZ (Kd.R_drew HO_7.out); replace HO_10 := aZ (Kd.R_drew HO_10.out); replace HB := aZ (below_drew1 HB.out); have p135 : 0 ≤ (x14_4 : Int) := of_decide_eq_true tZE; have q135 : x14_4 < (x10_3.length : Int) := of_decide_eq_true tZE; obtain ⟨ad135, e135, hx135_0⟩ := Kd.at_string (Kd.R_reads' HO_10.out).2.2 x14_4 p135 q135
          cases e135
          replace p135 := eq_true p135; replace q135 := eq_true q135; have p136 : 0 ≤ (x13_4 : Int) := of_decide_eq_true tZE; have q136 : x13_4 < (x10_3.length : Int) := of_decide_eq_true tZE; obtain ⟨ad136, e136, hx136_0⟩ := Kd.at_string (Kd.R_reads' HO_10.out).2.2 x13_4 p136 q136; obtain rfl : ad135 = ad136 := (by injection e136); replace p136 := eq_true p136; replace q136 := eq_true q136; refine start_ (n := 9) (S := fun w' => w'.cell? (ad135.add (x14_4).toNat) = some (.string (rdOf ByteArray.empty x10_3 x14_4)) ∧ w'.cell? (ad135.add (x13_4).toNat) = some (.string (rdOf ByteArray.empty x10_3 x13_4))) (ds := []) L0' kZ rfl rfl ⟨hx135_0, hx136_0⟩ (fun hHeld => ?_); refine with_tabW spec_TaxReturn.tab28 spec_TaxReturn.bits28 (fun HT_ HW_ => ?_); generalize wr.drew = w47 at HO_7 HO_10 HB hx135_0 hx136_0 hHeld ⊢
          refine pure_ (i := 0) (N := some 134) (v := ?_) (a' := ?_) L1' rfl rfl (any_of HT_.out kZ) (fun _ _ _ h => h) (Or.inl ⟨by rfl, ?_⟩) ?_ ?_; rotate_left
          ·intro w'; go_simp; with_reducible rfl
          rotate_left
          ·simp only [Act.put, sZ1, sZ2, sZ3, i64_w, i32_w]; rfl
          refine pure_ (i := 1) (N := some 135) (v := ?_) (a' := ?_) L2' rfl rfl (any_of HT_.out kZ) (fun _ _ _ h => h) (Or.inl ⟨by rfl, ?_⟩) ?_ ?_; rotate_left
          ·intro w'; go_simp; with_reducible rfl
          rotate_left
          ·simp only [Act.put, sZ1, sZ2, sZ3, i64_w, i32_w]; rfl
          refine pure_ (i := 2) (N := some 136) (v := ?_) (a' := ?_) L3' rfl rfl (any_of HT_.out kZ) (fun _ _ _ h => h) (Or.inl ⟨by rfl, ?_⟩) ?_ ?_; rotate_left
          ·intro w'; go_simp; with_reducible rfl
          rotate_left
          ·simp only [Act.put, sZ1, sZ2, sZ3, i64_w, i32_w]; rfl
          refine pure_ (i := 4) (N := some 138) (v := ?_) (a' := ?_) L4' rfl rfl (any_of HT_.out kZ) (fun _ _ _ h => h) (Or.inl ⟨by rfl, ?_⟩) ?_ ?_; rotate_left
          ·intro w'; go_simp; with_reducible rfl
          rotate_left
          ·simp only [Act.put, sZ1, sZ2, sZ3, i64_w, i32_w]; rfl
          refine pure_ (i := 5) (N := some 139) (v := ?_) (a' := ?_) L5' rfl rfl (any_of HT_.out kZ) (fun _ _ _ h => h) (Or.inl ⟨by rfl, ?_⟩) ?_ ?_; rotate_left
          ·intro w'; go_simp; with_reducible rfl
          rotate_left
          ·simp only [Act.put, sZ1, sZ2, sZ3, i64_w, i32_w]; rfl
          refine pure_ (i := 6) (N := some 140) (v := ?_) (a' := ?_) L6' rfl rfl (any_of HT_.out kZ) (fun _ _ _ h => h) (Or.inl ⟨by rfl, ?_⟩) ?_ ?_; rotate_left
          ·intro w'; go_simp; with_reducible rfl
          rotate_left
          ·simp only [Act.put, sZ1, sZ2, sZ3, i64_w, i32_w]; rfl
          refine take_ (i := 3) (N := some 137) (v := ?_) (a' := ?_) L7' rfl rfl (take_ofW HT_.out HW_.out kZ) (fun _ _ _ h => h) (Or.inl ⟨by rfl, ?_⟩) hHeld ?_ ?_; rotate_left
          ·rintro w' ⟨s0, s1⟩
           go_simp; with_reducible rfl
          rotate_left
          ·simp only [Act.put, sZ1, sZ2, sZ3, i64_w, i32_w]; rfl
          refine take_ (i := 7) (N := some 141) (v := ?_) (a' := ?_) L8' rfl rfl (take_ofW HT_.out HW_.out kZ) (fun _ _ _ h => h) (Or.inl ⟨by rfl, ?_⟩) hHeld ?_ ?_; rotate_left
          ·rintro w' ⟨s0, s1⟩
           go_simp; with_reducible rfl
          rotate_left
          ·simp only [Act.put, sZ1, sZ2, sZ3, i64_w, i32_w]; rfl
          refine pure_ (i := 8) (N := some 142) (v := ?_) (a' := ?_) L9' rfl rfl (any_of HT_.out kZ) (fun _ _ _ h => h) (Or.inl ⟨by rfl, ?_⟩) ?_ ?_; rotate_left
          ·intro w'; go_simp; with_reducible rfl
          rotate_left
          ·simp only [Act.put, sZ1, sZ2, sZ3, i64_w, i32_w]; rfl
          refine done_ (done_of HT_.out kZ) ?_
          try go_wp2
          go_roundg k4
          case measure => have := HK1.out; have := HK2.out; have := HK3.out; have := HK4.out; omega
          case rel => exact ⟨(x13_4), (wrap64 (x14_4 + 1)), tZB, tZB, H', ⟨by have := HK1.out; have := HK2.out; have := HK3.out; have := HK4.out; omega⟩, ⟨lZR HO_7.out⟩, ⟨lZR HO_10.out⟩, ⟨bZ⟩⟩
         rw [if_neg c41] at H; have c41b0 := decide_eq_false c41; clear c41
         by_cases c48 : 0 ≤ x13_4
         rotate_left
         ·rw [if_neg c48] at H; exact absurd H (by simp)
         rw [if_pos c48] at H; have c48b0 := decide_eq_true c48; clear c48
         by_cases c49 : x13_4 < (x10_3.length : Int)
         rotate_left
         ·rw [if_neg c49] at H; exact absurd H (by simp)
         rw [if_pos c49] at H; have c49b0 := decide_eq_true c49; clear c49; have H' := Aside0.mk H; clear H; have p137 : 0 ≤ (x13_4 : Int) := of_decide_eq_true tZE; have q137 : x13_4 < (x10_3.length : Int) := of_decide_eq_true tZE; obtain ⟨ad137, e137, hx137_0⟩ := Kd.at_string (Kd.R_reads' HO_10.out).2.2 x13_4 p137 q137
         cases e137
         replace p137 := eq_true p137; replace q137 := eq_true q137
         go_wp2_with (first | ((with_reducible refine gate_dst (N := 15) rfl ?_); refine box_event tZR (N := 15) tZR (cs := #[.string (⟨#[]⟩ : ByteArray), .int .i64 0, .int .i64 0, .int .i64 0]) (t := 59) tZS ?_; intro gb138 hg w50 hbox hb; replace HO_7 := aZ (Kd.R_below (Kd.R_elderB (lZR HO_7.out) gb138 (Nat.le_of_eq hg.symm)) hb); replace HO_10 := aZ (Kd.R_below (lZR HO_10.out) hb); have BK138 := aZ (hbox); have GW138 := aZ ((by rw [hg]; exact (below_size (lZB HB.out)) : w.heap.size ≤ gb138)); have GE138 := GW138; replace HB := aZ (below_step (lZB HB.out) hb); clear hb hbox hg; obtain ⟨hcz51_0, hcz51_1, hcz51_2, hcz51_3, hfz51_0, hfz51_1, hfz51_2, hfz51_3⟩ := bc4 BK138.out))
         go_loopg [16] k4 (fun kq v16 w' => ∃ (x16_5 : Int) (x139001_5 : Int) (x139002_5 : Int) (x139003_5 : Int), v16 = .int .i64 x16_5 ∧ Aside0 (spec_TaxReturn.l6 kq l0 a1 a2 x7_3 x10_3 x13_4 x16_5 (rdOf ByteArray.empty x10_3 x13_4) x139001_5 x139002_5 x139003_5 = some r) ∧ Aside0 (kq ≤ k4) ∧ Aside0 (Kd.R k59 59 w' w.heap.size (fun k_ => k_ ≠ gb138) u7 x7_3) ∧ Aside0 (Kd.R Kd.string 9 w' w.heap.size (fun _ => True) (.slice (some ad137) x10_3.length co40) x10_3) ∧ Aside0 (w'.heap[gb138]? = some (.cells #[.string (rdOf ByteArray.empty x10_3 x13_4), .int .i64 x139001_5, .int .i64 x139002_5, .int .i64 x139003_5] 59 (0, 0))) ∧ Aside0 (Below w.heap.size w w'))
         case atStart => exact ⟨(0), (0), (0), (0), tZB, H', ⟨Nat.le_refl _⟩, ⟨by (with_reducible repeat (first | apply Kd.R_alloc | apply Kd.R_drewN | apply Kd.R_drew)); exact Kd.R_mono (Kd.R_far (p := ⟨gb138, 3, none⟩) (Kd.R_far (p := ⟨gb138, 2, none⟩) (Kd.R_far (p := ⟨gb138, 1, none⟩) (Kd.R_far (p := ⟨gb138, 0, none⟩) (Kd.R_mono HO_7.out (fun k_ hk => (⟨hk, hk.2⟩ : _ ∧ k_ ≠ gb138))) (fun _ hk => hk.2) (.string (rdOf ByteArray.empty x10_3 x13_4))) (fun _ hk => hk.2) (.int .i64 0)) (fun _ hk => hk.2) (.int .i64 0)) (fun _ hk => hk.2) (.int .i64 0)) (fun _ hk => hk.1.2)⟩, ⟨by (with_reducible repeat (first | apply Kd.R_alloc | apply Kd.R_drewN | apply Kd.R_drew)); exact Kd.R_mono (Kd.R_far (p := ⟨gb138, 3, none⟩) (Kd.R_far (p := ⟨gb138, 2, none⟩) (Kd.R_far (p := ⟨gb138, 1, none⟩) (Kd.R_far (p := ⟨gb138, 0, none⟩) (Kd.R_types HO_10.out BK138.out (by decide)) (fun _ hk => hk.2) (.string (rdOf ByteArray.empty x10_3 x13_4))) (fun _ hk => hk.2) (.int .i64 0)) (fun _ hk => hk.2) (.int .i64 0)) (fun _ hk => hk.2) (.int .i64 0)) (fun _ hk => trivial)⟩, ⟨by (with_reducible repeat (first | refine blk_drewN ?_ _ | refine blk_drew ?_ | refine blk_alloc ?_ _)); refine blk_put (cs := #[.string (rdOf ByteArray.empty x10_3 x13_4), .int .i64 0, .int .i64 0, .int .i64 0]) ?_ 3 _ rfl; (with_reducible repeat (first | refine blk_drewN ?_ _ | refine blk_drew ?_ | refine blk_alloc ?_ _)); refine blk_put (cs := #[.string (rdOf ByteArray.empty x10_3 x13_4), .int .i64 0, .int .i64 0, .int .i64 0]) ?_ 2 _ rfl; (with_reducible repeat (first | refine blk_drewN ?_ _ | refine blk_drew ?_ | refine blk_alloc ?_ _)); refine blk_put (cs := #[.string (rdOf ByteArray.empty x10_3 x13_4), .int .i64 0, .int .i64 0, .int .i64 0]) ?_ 1 _ rfl; (with_reducible repeat (first | refine blk_drewN ?_ _ | refine blk_drew ?_ | refine blk_alloc ?_ _)); refine blk_put (cs := #[.string (⟨#[]⟩ : ByteArray), .int .i64 0, .int .i64 0, .int .i64 0]) ?_ 0 _ rfl; (with_reducible repeat (first | refine blk_drewN ?_ _ | refine blk_drew ?_ | refine blk_alloc ?_ _)); exact BK138.out⟩, ⟨bZ⟩⟩
         case round =>
          clear H'; (try clear c4b0 c4b1 c9b0 c22b0 c39b0 c39b1 c41b0 c48b0 c49b0 hcz51_0 hcz51_1 hcz51_2 hcz51_3 hfz51_0 hfz51_1 hfz51_2 hfz51_3 hx137_0 p137 q137); obtain ⟨x16_5, x139001_5, x139002_5, x139003_5, rfl, HA, HK5, HO_7, HO_10, BK138, HB⟩ := hrel
          cases gk with
          | zero => exact absurd HA.out (by simp [spec_TaxReturn.l6])
          | succ k5 =>
           have H := HA.out; clear HA; simp only [spec_TaxReturn.l6] at H
           by_cases c52 : x16_5 < (l0.length : Int)
           rotate_left
           ·rw [if_neg c52] at H; have c52b0 := decide_eq_false c52; clear c52
            by_cases c88 : x7_3.length < 3518437208883
            rotate_left
            ·rw [if_neg c88] at H; exact absurd H (by simp)
            rw [if_pos c88] at H; have LMc88 := Aside0.mk c88; clear c88; obtain ⟨y139, hy139⟩ : ∃ y_ : List (S59), y_ = (x7_3 ++ [(⟨(rdOf ByteArray.empty x10_3 x13_4), x139001_5, x139002_5, x139003_5⟩ : S59)]) := ⟨_, rfl⟩; replace H : (if 0 ≤ x13_4 then (if x13_4 ≤ (x10_3.length : Int) then (if 0 ≤ (wrap64 (x13_4 + 1)) then (if (wrap64 (x13_4 + 1)) ≤ (x10_3.length : Int) then (spec_TaxReturn.l4 k5 l0 a1 a2 y139 (x10_3.eraseIdx (x13_4 : Int).toNat)) else (none)) else (none)) else (none)) else (none)) = some r := by first | (rw [hy139]; with_reducible exact H) | (have H2_ := (Option.bind_some _ _).symm.trans H; rw [hy139]; with_reducible exact H2_) | (have H2_ := (Option.bind_some _ _).symm.trans H; with_reducible exact H2_) | with_reducible exact H | (rw [hy139]; exact H) | exact H
            have Ny139 := Aside0.mk hy139; clear hy139
            by_cases c89 : 0 ≤ x13_4
            rotate_left
            ·rw [if_neg c89] at H; exact absurd H (by simp)
            rw [if_pos c89] at H; have c89b0 := eq_true c89; have c89b1 := decide_eq_true c89; clear c89
            by_cases c90 : x13_4 ≤ (x10_3.length : Int)
            rotate_left
            ·rw [if_neg c90] at H; exact absurd H (by simp)
            rw [if_pos c90] at H; have c90b0 := eq_true c90; have c90b1 := decide_eq_true c90; clear c90; obtain ⟨y142, hy142⟩ : ∃ y_ : List ByteArray, y_ = (x10_3.take (x13_4 : Int).toNat) := ⟨_, rfl⟩; replace H : (if 0 ≤ (wrap64 (x13_4 + 1)) then (if (wrap64 (x13_4 + 1)) ≤ (x10_3.length : Int) then (spec_TaxReturn.l4 k5 l0 a1 a2 y139 (x10_3.eraseIdx (x13_4 : Int).toNat)) else (none)) else (none)) = some r := by first | (rw [hy142]; with_reducible exact H) | (have H2_ := (Option.bind_some _ _).symm.trans H; rw [hy142]; with_reducible exact H2_) | (have H2_ := (Option.bind_some _ _).symm.trans H; with_reducible exact H2_) | with_reducible exact H | (rw [hy142]; exact H) | exact H
            have Ny142 := Aside0.mk hy142; clear hy142; obtain ⟨ji91, hji91⟩ : ∃ j_ : Int, (wrap64 (x13_4 + 1)) = j_ := ⟨_, rfl⟩; replace H : (if 0 ≤ (ji91) then (if (ji91) ≤ (x10_3.length : Int) then (spec_TaxReturn.l4 k5 l0 a1 a2 y139 (x10_3.eraseIdx (x13_4 : Int).toNat)) else (none)) else (none)) = some r := by first | (rw [hji91] at H; exact H) | (simp only [hji91] at H ⊢; exact H)
            have hji91w : (IntKind.i64.wrap (x13_4 + 1)) = ji91 := (i64_w _).trans hji91
            by_cases c92 : 0 ≤ (ji91)
            rotate_left
            ·rw [if_neg c92] at H; exact absurd H (by simp)
            rw [if_pos c92] at H; have c92b0 := eq_true c92; have c92b1 := decide_eq_true c92; clear c92
            by_cases c93 : (ji91) ≤ (x10_3.length : Int)
            rotate_left
            ·rw [if_neg c93] at H; exact absurd H (by simp)
            rw [if_pos c93] at H; have c93b0 := eq_true c93; have c93b1 := decide_eq_true c93; clear c93; obtain ⟨y146, hy146⟩ : ∃ y_ : List ByteArray, y_ = (x10_3.drop ((ji91) : Int).toNat) := ⟨_, rfl⟩; replace H : (spec_TaxReturn.l4 k5 l0 a1 a2 y139 (x10_3.eraseIdx (x13_4 : Int).toNat)) = some r := by first | (rw [hy146]; with_reducible exact H) | (have H2_ := (Option.bind_some _ _).symm.trans H; rw [hy146]; with_reducible exact H2_) | (have H2_ := (Option.bind_some _ _).symm.trans H; with_reducible exact H2_) | with_reducible exact H | (rw [hy146]; exact H) | exact H
            have Ny146 := Aside0.mk hy146; clear hy146; obtain ⟨y150, hy150⟩ : ∃ y_ : List ByteArray, y_ = (x10_3.eraseIdx (x13_4 : Int).toNat) := ⟨_, rfl⟩; replace H : (spec_TaxReturn.l4 k5 l0 a1 a2 y139 y150) = some r := by first | (rw [hy150]; with_reducible exact H) | (have H2_ := (Option.bind_some _ _).symm.trans H; rw [hy150]; with_reducible exact H2_) | (have H2_ := (Option.bind_some _ _).symm.trans H; with_reducible exact H2_) | with_reducible exact H | (rw [hy150]; exact H) | exact H
            have Ny150 := Aside0.mk hy150; clear hy150; have H' := Aside0.mk H; clear H; obtain ⟨hcz94_0, hcz94_1, hcz94_2, hcz94_3, hfz94_0, hfz94_1, hfz94_2, hfz94_3⟩ := bc4 BK138.out
            try go_wp2_with (first | ((with_reducible refine gate_builtin (b := .append) (xs := #[.tmp 221, .tmp 223]) rfl ?_); at_builtin; refine Kd.R_append k59 (w0 := w) w.heap.size rfl (.tmp 221) (.tmp 223) 24 59 (.agg #[(.string ⟨#[]⟩), (.int .i64 0), (.int .i64 0), (.int .i64 0)]) 40 rfl Try.underlying24 info59 rfl (by decide) (by omega) u7 x7_3 (⟨(rdOf ByteArray.empty x10_3 x13_4), x139001_5, x139002_5, x139003_5⟩ : S59) [.string (rdOf ByteArray.empty x10_3 x13_4), .int .i64 x139001_5, .int .i64 x139002_5, .int .i64 x139003_5] (fun k_ => k_ ≠ gb138) (fun _ => False) rfl rfl ?aP (fun _ hk => hk.elim) ?aF ?aO ?aB ?aS ?aL ?_; (case aP => exact k59_mkM _ _ _ (⟨(rdOf ByteArray.empty x10_3 x13_4), x139001_5, x139002_5, x139003_5⟩ : S59)); (case aB => exact bZ); (case aF => exact (fun k_ hk => Kd.freshB (bkZ BK138.out) k_ hk)); (case aO => exact (lZR HO_7.out)); (case aS => exact (below_size bZ)); (case aL => have := LMc88.out; omega); intro v140 w95 ho hb hg hat; rw [← Ny139.out] at ho; replace HO_10 := aZ (Kd.R_over' (lZR HO_10.out) (Kd.R_typed (lZR HO_7.out)) (by decide) hg); replace BK138 := aZ (blk_grown (bkZ BK138.out) hg (Kd.R_away HO_7.out (fun _ hk => hk))); replace HB := aZ (hb); have HO141 := aZ (ho); clear HO_7; clear ho hb hg hat))
            replace HO_10 := aZ (Kd.R_drew HO_10.out); replace HO141 := aZ (Kd.R_drew HO141.out); replace BK138 := aZ (blk_drew BK138.out); replace HB := aZ (below_drew1 HB.out); have q97 : (x13_4 : Int) ≤ ((x10_3.length : Int) : Int) := of_decide_eq_true tZE; obtain ⟨i097, hi097, _, hsz97, _⟩ := info_parts info9; have hroom97 : x10_3.length ≤ co40 := (Kd.R_reads' HO_10.out).2.1; have hC97 : Kd.C Kd.string _ (some ad137) x10_3.length x10_3 := (Kd.R_reads' HO_10.out).2.2; have hcut97 := cut_to (P := Try.prog) 86 9 .i64 Try.underlying86 hi097 (some ad137) x10_3.length co40 x13_4 (of_decide_eq_true tZE) q97 hroom97; have hr97 := Kd.C_take (m := (x13_4 : Int).toNat) hC97 (by omega); have hy97 : y142.length = (x13_4 : Int).toNat := (by rw [Ny142.out, List.length_take]; omega); rw [← Ny142.out] at hr97; rw [← hy97] at hcut97; have HR145 := Aside0.mk hr97
            have HC145 := aZ (show y142.length ≤ co40 from by omega); clear hr97 hC97 hroom97 hi097 hsz97; have KY97 := Aside0.mk hy97; clear hy97; have KL97 := aZ (show (x13_4 : Int).toNat ≤ x10_3.length from by omega); replace q97 := eq_true q97; have q98 : ((ji91) : Int) ≤ ((x10_3.length : Int) : Int) := of_decide_eq_true tZE; obtain ⟨i098, hi098, _, hsz98, _⟩ := info_parts info9; have hroom98 : x10_3.length ≤ co40 := (Kd.R_reads' HO_10.out).2.1; have hC98 : Kd.C Kd.string _ (some ad137) x10_3.length x10_3 := (Kd.R_reads' HO_10.out).2.2; have q098 : (0 : Int) ≤ ((ji91) : Int) := of_decide_eq_true tZE; have hcut98 := cut_from (P := Try.prog) 86 9 .i64 Try.underlying86 hi098 1 hsz98 (some ad137) x10_3.length co40 (ji91) q098 q98; have hr98 := Kd.C_drop (m := ((ji91) : Int).toNat) (c := co40) hC98 (by omega) hroom98
            obtain ⟨A98, hA98⟩ : ∃ A1, A1 = (if co40 = ((ji91) : Int).toNat then (some ad137) else ((some ad137) : Option Addr).map (·.add (((ji91) : Int).toNat * 1))) := ⟨_, rfl⟩; obtain ⟨c98, hc98⟩ : ∃ c1, c1 = co40 - ((ji91) : Int).toNat := ⟨_, rfl⟩; have hy98 : y146.length = x10_3.length - ((ji91) : Int).toNat := (by rw [Ny146.out, List.length_drop] <;> omega); rw [show (x10_3).drop ((ji91) : Int).toNat = y146 from Ny146.out.symm] at hr98; replace hr98 : Kd.C Kd.string _ A98 y146.length y146 := (by rw [hA98]; exact hr98); rw [← hy98, ← hA98, ← hc98] at hcut98; have HR149 := Aside0.mk hr98; have HC149 := aZ (show y146.length ≤ c98 from by rw [hy98, hc98]; exact Nat.sub_le_sub_right hroom98 _); clear hr98 hC98 hroom98 hi098 hsz98 hc98; have KY98 := Aside0.mk hy98; have KA98 := Aside0.mk hA98; clear hy98 hA98; have KL98 := aZ (show ((ji91) : Int).toNat ≤ x10_3.length from by omega)
            replace q98 := eq_true q98; obtain ⟨go100, co100, eo100, gb100, gl100, cl100, HG100⟩ := Kd.R_form HO_10.out (by have hj_ : 0 ≤ (x13_4 : Int) := of_decide_eq_true tZE; have hl_ : (ji91 : Int) ≤ (x10_3.length : Int) := of_decide_eq_true tZE; have hh_ : (x13_4 : Int) ≤ (x10_3.length : Int) := of_decide_eq_true tZE; rw [← hji91] at hl_; unfold wrap64 at hl_; omega); (first | cases eo100 | (injection eo100 with ea_ en_ ec_; (first | subst ea_ | (injection ea_ with ea_; subst ea_)); subst ec_; clear en_)); have GB100 := Aside0.mk gb100; have GG100 := Aside0.mk HG100; clear gb100 gl100 HG100; (first | simp only [add_plain] at hx137_0 | skip); refine start_ (n := 9) (S := fun w' => True) (ds := []) L0' kZ rfl rfl trivial (fun hHeld => ?_); refine with_tabW spec_TaxReturn.tab48 spec_TaxReturn.bits48 (fun HT_ HW_ => ?_)
            (first | generalize w95.drew = w96 at HO_10 HO141 BK138 HB GG100 HR145 HR149 hx137_0 hHeld ⊢ | generalize w95.drew = w96 at HO_10 HO141 BK138 HB GG100 HR145 HR149 hHeld ⊢); refine pure_ (i := 0) (N := some 225) (v := ?_) (a' := ?_) L1' rfl rfl (any_of HT_.out kZ) (fun _ _ _ h => h) (Or.inl ⟨by rfl, ?_⟩) ?_ ?_; rotate_left
            ·intro w'; go_simp; with_reducible rfl
            rotate_left
            ·simp only [Act.put, sZ1, sZ2, sZ3, i64_w, i32_w]; rfl
            refine pure_ (i := 1) (N := some 226) (v := ?_) (a' := ?_) L2' rfl rfl (any_of HT_.out kZ) (fun _ _ _ h => h) (Or.inl ⟨by rfl, ?_⟩) ?_ ?_; rotate_left
            ·intro w'; go_simp; with_reducible rfl
            rotate_left
            ·simp only [Act.put, sZ1, sZ2, sZ3, i64_w, i32_w]; rfl
            refine pure_ (i := 2) (N := some 227) (v := ?_) (a' := ?_) L3' rfl rfl (any_of HT_.out kZ) (fun _ _ _ h => h) (Or.inl ⟨by rfl, ?_⟩) ?_ ?_; rotate_left
            ·intro w'; go_simp; with_reducible rfl
            rotate_left
            ·simp only [Act.put, sZ1, sZ2, sZ3, i64_w, i32_w]; rfl
            refine pure_ (i := 3) (N := some 228) (v := ?_) (a' := ?_) L10' rfl rfl (any_of HT_.out kZ) (fun _ _ _ h => h) (Or.inl ⟨by rfl, ?_⟩) ?_ ?_; rotate_left
            ·intro w'; go_simp; with_reducible rfl
            rotate_left
            ·simp only [Act.put, sZ1, sZ2, sZ3, i64_w, i32_w]; rfl
            refine pure_ (i := 4) (N := some 229) (v := ?_) (a' := ?_) L11' rfl rfl (any_of HT_.out kZ) (fun _ _ _ h => h) (Or.inl ⟨by rfl, ?_⟩) ?_ ?_; rotate_left
            ·intro w'; go_simp; with_reducible rfl
            rotate_left
            ·simp only [Act.put, sZ1, sZ2, sZ3, i64_w, i32_w]; rfl
            refine pure_ (i := 5) (N := some 230) (v := ?_) (a' := ?_) L12' rfl rfl (any_of HT_.out kZ) (fun _ _ _ h => h) (Or.inl ⟨by rfl, ?_⟩) ?_ ?_; rotate_left
            ·intro w'; go_simp; with_reducible rfl
            rotate_left
            ·simp only [Act.put, sZ1, sZ2, sZ3, i64_w, i32_w]; rfl
            refine pure_ (i := 6) (N := some 231) (v := ?_) (a' := ?_) L7' rfl rfl (any_of HT_.out kZ) (fun _ _ _ h => h) (Or.inl ⟨by rfl, ?_⟩) ?_ ?_; rotate_left
            ·intro w'; go_simp; with_reducible rfl
            rotate_left
            ·simp only [Act.put, sZ1, sZ2, sZ3, i64_w, i32_w]; rfl
            refine one_ (i := 7) (N := some 232) L8' rfl rfl (one_of HT_.out kZ) (by decide) (fun K hK => ?_); have hj_ : 0 ≤ (x13_4 : Int) := of_decide_eq_true tZE; have hl_ : (ji91 : Int) ≤ (x10_3.length : Int) := of_decide_eq_true tZE; have hh_ : (x13_4 : Int) ≤ (x10_3.length : Int) := of_decide_eq_true tZE; have hb_ := (Kd.R_reads' HO_10.out).2.2.2.1; have h0_ : (0 : Int) ≤ (ji91 : Int) := of_decide_eq_true tZE; have hy1_ := KY97.out; have hk_ : (ji91 : Int).toNat = y142.length + 1 := (by have hw_ : (ji91 : Int) = x13_4 + 1 := (by have h00_ := h0_; rw [← hji91] at h00_ ⊢; unfold wrap64 at h00_ ⊢; omega); rw [hw_]; omega); refine Kd.R_delete_step Kd.string (w0 := w) w.heap.size (by rfl) (.tmp 227) (.tmp 231) 86 9 rfl Try.underlying86 kZ (g := go100) (n := x10_3.length) (c := co40) (k := y142.length) rfl rfl ?hA ?hm (lZR HO_10.out) ?hk bZ (below_size bZ) ?_
            (case hA => have ha_ := KA98.out; rw [hk_] at ha_; exact ha_)
            (case hm => have ha_ := KY98.out; omega)
            (case hk => omega)
            intro w99 ho hb hg; clear hj_ hl_ hh_ hb_ hk_ h0_; rw [hy1_, ← Ny150.out] at ho; clear hy1_; have hn_ : x10_3.length - 1 = y150.length := (by have := (Kd.R_reads' ho).1; omega); rw [hn_] at ho ⊢; clear hn_; replace BK138 := aZ (blk_grown (bkZ BK138.out) hg (Kd.R_ne HO_10.out BK138.out (by decide))); replace HO141 := aZ (Kd.R_over' (v := (.slice (some ⟨go100, 0, none⟩) x10_3.length co40)) (lZR HO141.out) (Kd.R_typed HO_10.out) (by decide) hg); replace HO_10 := aZ (ho); replace HB := aZ (hb); clear ho hb hg; refine hK.out _ _ trivial (fun hHeld => ?_); clear hK K; refine norm_ (a' := ?_) ?_ ?_; rotate_left
            ·show Act.put _ (some 232) _ = _
             simp only [Act.put, sZ1, sZ2, sZ3, i64_w, i32_w]; rfl
            refine pure_ (i := 8) (N := some 10) (v := ?_) (a' := ?_) L9' rfl rfl (any_of HT_.out kZ) (fun _ _ _ h => h) (Or.inl ⟨by rfl, ?_⟩) ?_ ?_; rotate_left
            ·intro w'; go_simp; with_reducible rfl
            rotate_left
            ·simp only [Act.put, sZ1, sZ2, sZ3, i64_w, i32_w]; rfl
            refine done_ (done_of HT_.out kZ) ?_
            try go_wp2
            go_roundg k5
            case measure => have := HK1.out; have := HK2.out; have := HK3.out; have := HK4.out; have := HK5.out; omega
            case rel => exact ⟨(y139), (y150), H', ⟨by have := HK1.out; have := HK2.out; have := HK3.out; have := HK4.out; have := HK5.out; omega⟩, ⟨by (with_reducible repeat (first | apply Kd.R_alloc | apply Kd.R_drewN | apply Kd.R_drew)); exact Kd.R_mono HO141.out (fun _ hk => trivial)⟩, ⟨lZR HO_10.out⟩, ⟨bZ⟩⟩
           rw [if_pos c52] at H; have c52b0 := decide_eq_true c52; clear c52; have H' := Aside0.mk H; clear H; go_wp2
           go_loopg [17] k5 (fun kq v17 w' => ∃ (x17_6 : Int) (x139001_6 : Int) (x139002_6 : Int) (x139003_6 : Int), v17 = .int .i64 x17_6 ∧ Aside0 (spec_TaxReturn.l7 kq l0 a1 a2 x7_3 x10_3 x13_4 x16_5 x17_6 (rdOf ByteArray.empty x10_3 x13_4) x139001_6 x139002_6 x139003_6 = some r) ∧ Aside0 (kq ≤ k5) ∧ Aside0 (Kd.R k59 59 w' w.heap.size (fun k_ => k_ ≠ gb138) u7 x7_3) ∧ Aside0 (Kd.R Kd.string 9 w' w.heap.size (fun _ => True) (.slice (some ad137) x10_3.length co40) x10_3) ∧ Aside0 (w'.heap[gb138]? = some (.cells #[.string (rdOf ByteArray.empty x10_3 x13_4), .int .i64 x139001_6, .int .i64 x139002_6, .int .i64 x139003_6] 59 (0, 0))) ∧ Aside0 (Below w.heap.size w w'))
           case atStart => exact ⟨(0), (x139001_5), (x139002_5), (x139003_5), tZB, H', ⟨Nat.le_refl _⟩, ⟨lZR HO_7.out⟩, ⟨lZR HO_10.out⟩, ⟨bkZ BK138.out⟩, ⟨bZ⟩⟩
           case round =>
            clear H'; (try clear c4b0 c4b1 c9b0 c22b0 c39b0 c39b1 c41b0 c48b0 c49b0 c52b0 hcz51_0 hcz51_1 hcz51_2 hcz51_3 hfz51_0 hfz51_1 hfz51_2 hfz51_3 hx137_0 p137 q137); obtain ⟨x17_6, x139001_6, x139002_6, x139003_6, rfl, HA, HK6, HO_7, HO_10, BK138, HB⟩ := hrel
            cases gk with
            | zero => exact absurd HA.out (by simp [spec_TaxReturn.l7])
            | succ k6 =>
             have H := HA.out; clear HA; simp only [spec_TaxReturn.l7] at H
             by_cases c53 : 0 ≤ x16_5
             rotate_left
             ·rw [if_neg c53] at H; exact absurd H (by simp)
             rw [if_pos c53] at H; have c53b0 := decide_eq_true c53; clear c53
             by_cases c54 : x16_5 < (l0.length : Int)
             rotate_left
             ·rw [if_neg c54] at H; exact absurd H (by simp)
             rw [if_pos c54] at H; have c54b0 := decide_eq_true c54; clear c54
             by_cases c55 : x17_6 < (((rd_T82 l0 x16_5).f2).length : Int)
             rotate_left
             ·rw [if_neg c55] at H; have c55b0 := decide_eq_false c55; clear c55; have H' := Aside0.mk H; clear H; have p153 : 0 ≤ (x16_5 : Int) := of_decide_eq_true tZE; have q153 : x16_5 < (l0.length : Int) := of_decide_eq_true tZE; obtain ⟨ad153, A153_2, c153_2, e153, hx153_0, hx153_1, hx153_2, hl153_2, hi153_2⟩ := at_T82 HR0.out x16_5 p153 q153; have hz153_2 := hx153_2
              cases e153
              replace hx153_0 := cZ HB hx153_0; replace hx153_1 := cZ HB hx153_1; replace hx153_2 := cZ HB hx153_2; have HR153_2 := Aside0.mk hi153_2; have HC153_2 := Aside0.mk hl153_2; clear hi153_2 hl153_2; replace p153 := eq_true p153; replace q153 := eq_true q153; go_wp2
              go_roundg k6
              case measure => have := HK1.out; have := HK2.out; have := HK3.out; have := HK4.out; have := HK5.out; have := HK6.out; omega
              case rel => exact ⟨(wrap64 (x16_5 + 1)), (x139001_6), (x139002_6), (x139003_6), tZB, H', ⟨by have := HK1.out; have := HK2.out; have := HK3.out; have := HK4.out; have := HK5.out; have := HK6.out; omega⟩, ⟨lZR HO_7.out⟩, ⟨lZR HO_10.out⟩, ⟨bkZ BK138.out⟩, ⟨bZ⟩⟩
             rw [if_pos c55] at H; have c55b0 := decide_eq_true c55; clear c55
             by_cases c56 : 0 ≤ x17_6
             rotate_left
             ·rw [if_neg c56] at H; exact absurd H (by simp)
             rw [if_pos c56] at H; have c56b0 := decide_eq_true c56; clear c56; have HC57 := Aside0.mk H; clear H; have p153 : 0 ≤ (x16_5 : Int) := of_decide_eq_true tZE; have q153 : x16_5 < (l0.length : Int) := of_decide_eq_true tZE; obtain ⟨ad153, A153_2, c153_2, e153, hx153_0, hx153_1, hx153_2, hl153_2, hi153_2⟩ := at_T82 HR0.out x16_5 p153 q153; have hz153_2 := hx153_2
             cases e153
             replace hx153_0 := cZ HB hx153_0; replace hx153_1 := cZ HB hx153_1; replace hx153_2 := cZ HB hx153_2; have HR153_2 := Aside0.mk hi153_2; have HC153_2 := Aside0.mk hl153_2; clear hi153_2 hl153_2; replace p153 := eq_true p153; replace q153 := eq_true q153; have p154 : 0 ≤ (x16_5 : Int) := of_decide_eq_true tZE; have q154 : x16_5 < (l0.length : Int) := of_decide_eq_true tZE; obtain ⟨ad154, A154_2, c154_2, e154, hx154_0, hx154_1, hx154_2, hl154_2, hi154_2⟩ := at_T82 HR0.out x16_5 p154 q154; have hz154_2 := hx154_2; obtain rfl : ad153 = ad154 := (by injection e154); replace hx154_0 := cZ HB hx154_0; replace hx154_1 := cZ HB hx154_1; replace hx154_2 := cZ HB hx154_2; have HR154_2 := Aside0.mk hi154_2; have HC154_2 := Aside0.mk hl154_2; clear hi154_2 hl154_2; replace p154 := eq_true p154; replace q154 := eq_true q154; have ea_ := Option.some.inj (hz153_2.symm.trans hz154_2)
             injection ea_ with ea_ en_ ec_
             subst ea_; subst ec_; clear en_; have p155 : 0 ≤ (x17_6 : Int) := of_decide_eq_true tZE; have q155 : x17_6 < (((rd_T82 l0 x16_5).f2).length : Int) := of_decide_eq_true tZE; obtain ⟨ad155, e155, hx155_0, hx155_1, hx155_2, hx155_3⟩ := at_T85 HR154_2.out x17_6 p155 q155
             cases e155
             replace hx155_0 := cZ HB hx155_0; replace hx155_1 := cZ HB hx155_1; replace hx155_2 := cZ HB hx155_2; replace hx155_3 := cZ HB hx155_3; replace p155 := eq_true p155; replace q155 := eq_true q155
             go_upto_region 38 with (first | ((with_reducible refine gate_dst (N := 18) rfl ?_); refine box_event tZR (N := 18) tZR (cs := #[.string (⟨#[]⟩ : ByteArray), .int .i64 0, .int .i64 0, .int .i64 0]) (t := 85) tZS ?_; intro gb156 hg w58 hbox hb; replace HO_7 := aZ (Kd.R_below (lZR HO_7.out) hb); replace HO_10 := aZ (Kd.R_below (lZR HO_10.out) hb); have BK156 := aZ (hbox); have GW156 := aZ ((by rw [hg]; exact (below_size bZ) : w.heap.size ≤ gb156)); have GE156 := GW156; replace HB := aZ (below_step bZ hb); have NB138_156 := aZ ((nLt hg (bkZ BK138.out) : gb138 ≠ gb156)); have NB156_138 := aZ ((nGt hg (bkZ BK138.out) : gb156 ≠ gb138)); replace BK138 := aZ (blk_below (bkZ BK138.out) hb); clear hb hbox hg; have hnb59 := NB156_138.out; have hnc59 := NB138_156.out; obtain ⟨hcz60_0, hcz60_1, hcz60_2, hcz60_3, hfz60_0, hfz60_1, hfz60_2, hfz60_3⟩ := bc4 BK156.out))
             (try simp only [Act.put, sZ1, sZ2, sZ3])
             go_cut [188] (fun v188 wc => ∃ (kq : Nat) (x188_56 : Bool), v188 = .bool x188_56 ∧ Aside0 (spec_TaxReturn.j9 kq l0 a1 a2 x7_3 x10_3 x13_4 x16_5 x17_6 x188_56 (rdOf ByteArray.empty x10_3 x13_4) x139001_6 x139002_6 x139003_6 ((rd_T85 ((rd_T82 l0 x16_5).f2) x17_6).f0) ((rd_T85 ((rd_T82 l0 x16_5).f2) x17_6).f1) ((rd_T85 ((rd_T82 l0 x16_5).f2) x17_6).f2) ((rd_T85 ((rd_T82 l0 x16_5).f2) x17_6).f3) = some r) ∧ Aside0 (kq ≤ k6) ∧ Aside0 (Kd.R k59 59 wc w.heap.size (fun k_ => k_ ≠ gb138) u7 x7_3) ∧ Aside0 (Kd.R Kd.string 9 wc w.heap.size (fun _ => True) (.slice (some ad137) x10_3.length co40) x10_3) ∧ Aside0 (wc.heap[gb138]? = some (.cells #[.string (rdOf ByteArray.empty x10_3 x13_4), .int .i64 x139001_6, .int .i64 x139002_6, .int .i64 x139003_6] 59 (0, 0))) ∧ Aside0 (wc.heap[gb156]? = some (.cells #[.string ((rd_T85 ((rd_T82 l0 x16_5).f2) x17_6).f0), .int .i64 ((rd_T85 ((rd_T82 l0 x16_5).f2) x17_6).f1), .int .i64 ((rd_T85 ((rd_T82 l0 x16_5).f2) x17_6).f2), .int .i64 ((rd_T85 ((rd_T82 l0 x16_5).f2) x17_6).f3)] 85 (0, 0))) ∧ Aside0 (Below w.heap.size w wc))
             case first =>
              have H := HC57.out; clear HC57; replace H := Option.bind_eq_some_iff.mp H; obtain ⟨t158, A610, H⟩ := H; replace H : (if t158 = true then (spec_TaxReturn.j9 k6 l0 a1 a2 x7_3 x10_3 x13_4 x16_5 x17_6 (((rd_T85 ((rd_T82 l0 x16_5).f2) x17_6).f0).toList != (rdOf ByteArray.empty x10_3 x13_4).toList) (rdOf ByteArray.empty x10_3 x13_4) x139001_6 x139002_6 x139003_6 ((rd_T85 ((rd_T82 l0 x16_5).f2) x17_6).f0) ((rd_T85 ((rd_T82 l0 x16_5).f2) x17_6).f1) ((rd_T85 ((rd_T82 l0 x16_5).f2) x17_6).f2) ((rd_T85 ((rd_T82 l0 x16_5).f2) x17_6).f3)) else (spec_TaxReturn.j9 k6 l0 a1 a2 x7_3 x10_3 x13_4 x16_5 x17_6 true (rdOf ByteArray.empty x10_3 x13_4) x139001_6 x139002_6 x139003_6 ((rd_T85 ((rd_T82 l0 x16_5).f2) x17_6).f0) ((rd_T85 ((rd_T82 l0 x16_5).f2) x17_6).f1) ((rd_T85 ((rd_T82 l0 x16_5).f2) x17_6).f2) ((rd_T85 ((rd_T82 l0 x16_5).f2) x17_6).f3))) = some r := H; have A61 := Aside0.mk A610
              clear A610
              by_cases c62 : t158 = true
              rotate_left
              ·replace c62 := Bool.eq_false_iff.mpr c62; subst c62; rw [if_neg Bool.false_ne_true] at H; have H' := Aside0.mk H; clear H; have p157 : 0 ≤ (x16_5 : Int) := of_decide_eq_true tZE; have q157 : x16_5 < (l0.length : Int) := of_decide_eq_true tZE; obtain ⟨ad157, A157_2, c157_2, e157, hx157_0, hx157_1, hx157_2, hl157_2, hi157_2⟩ := at_T82 HR0.out x16_5 p157 q157; have hz157_2 := hx157_2; obtain rfl : ad153 = ad157 := (by injection e157); have hn157_0 : ad153.block ≠ gb156 := Nat.ne_of_lt (Nat.lt_of_lt_of_le (by have := World.block_lt_of_cell? _ _ hx157_0; first | rwa [add_block] at this | exact this) GW156.out); have hn157_1 : ad153.block ≠ gb156 := Nat.ne_of_lt (Nat.lt_of_lt_of_le (by have := World.block_lt_of_cell? _ _ hx157_0; first | rwa [add_block] at this | exact this) GW156.out)
               have hn157_2 : ad153.block ≠ gb156 := Nat.ne_of_lt (Nat.lt_of_lt_of_le (by have := World.block_lt_of_cell? _ _ hx157_0; first | rwa [add_block] at this | exact this) GW156.out); have hn157_3 : ad153.block ≠ gb156 := Nat.ne_of_lt (Nat.lt_of_lt_of_le (by have := World.block_lt_of_cell? _ _ hx157_0; first | rwa [add_block] at this | exact this) GW156.out); replace hx157_0 := cZ HB hx157_0; replace hx157_1 := cZ HB hx157_1; replace hx157_2 := cZ HB hx157_2; have HR157_2 := Aside0.mk hi157_2; have HC157_2 := Aside0.mk hl157_2; clear hi157_2 hl157_2; replace hx157_0 := (cell_far (p := ⟨gb156, 0, none⟩) (by first | (rw [add_block]; exact hn157_0) | (show (Addr.add _ _).block ≠ _; rw [add_block]; exact hn157_0) | exact hn157_0) (.string ((rd_T85 ((rd_T82 l0 x16_5).f2) x17_6).f0))).trans hx157_0
               replace hx157_1 := (cell_far (p := ⟨gb156, 0, none⟩) (by first | (rw [add_block]; exact hn157_0) | (show (Addr.add _ _).block ≠ _; rw [add_block]; exact hn157_0) | exact hn157_0) (.string ((rd_T85 ((rd_T82 l0 x16_5).f2) x17_6).f0))).trans hx157_1; replace hx157_2 := (cell_far (p := ⟨gb156, 0, none⟩) (by first | (rw [add_block]; exact hn157_0) | (show (Addr.add _ _).block ≠ _; rw [add_block]; exact hn157_0) | exact hn157_0) (.string ((rd_T85 ((rd_T82 l0 x16_5).f2) x17_6).f0))).trans hx157_2; replace hx157_0 := (cell_far (p := ⟨gb156, 1, none⟩) (by first | (rw [add_block]; exact hn157_1) | (show (Addr.add _ _).block ≠ _; rw [add_block]; exact hn157_1) | exact hn157_1) (.int .i64 ((rd_T85 ((rd_T82 l0 x16_5).f2) x17_6).f1))).trans hx157_0
               replace hx157_1 := (cell_far (p := ⟨gb156, 1, none⟩) (by first | (rw [add_block]; exact hn157_1) | (show (Addr.add _ _).block ≠ _; rw [add_block]; exact hn157_1) | exact hn157_1) (.int .i64 ((rd_T85 ((rd_T82 l0 x16_5).f2) x17_6).f1))).trans hx157_1; replace hx157_2 := (cell_far (p := ⟨gb156, 1, none⟩) (by first | (rw [add_block]; exact hn157_1) | (show (Addr.add _ _).block ≠ _; rw [add_block]; exact hn157_1) | exact hn157_1) (.int .i64 ((rd_T85 ((rd_T82 l0 x16_5).f2) x17_6).f1))).trans hx157_2; replace hx157_0 := (cell_far (p := ⟨gb156, 2, none⟩) (by first | (rw [add_block]; exact hn157_2) | (show (Addr.add _ _).block ≠ _; rw [add_block]; exact hn157_2) | exact hn157_2) (.int .i64 ((rd_T85 ((rd_T82 l0 x16_5).f2) x17_6).f2))).trans hx157_0
               replace hx157_1 := (cell_far (p := ⟨gb156, 2, none⟩) (by first | (rw [add_block]; exact hn157_2) | (show (Addr.add _ _).block ≠ _; rw [add_block]; exact hn157_2) | exact hn157_2) (.int .i64 ((rd_T85 ((rd_T82 l0 x16_5).f2) x17_6).f2))).trans hx157_1; replace hx157_2 := (cell_far (p := ⟨gb156, 2, none⟩) (by first | (rw [add_block]; exact hn157_2) | (show (Addr.add _ _).block ≠ _; rw [add_block]; exact hn157_2) | exact hn157_2) (.int .i64 ((rd_T85 ((rd_T82 l0 x16_5).f2) x17_6).f2))).trans hx157_2; replace hx157_0 := (cell_far (p := ⟨gb156, 3, none⟩) (by first | (rw [add_block]; exact hn157_3) | (show (Addr.add _ _).block ≠ _; rw [add_block]; exact hn157_3) | exact hn157_3) (.int .i64 ((rd_T85 ((rd_T82 l0 x16_5).f2) x17_6).f3))).trans hx157_0
               replace hx157_1 := (cell_far (p := ⟨gb156, 3, none⟩) (by first | (rw [add_block]; exact hn157_3) | (show (Addr.add _ _).block ≠ _; rw [add_block]; exact hn157_3) | exact hn157_3) (.int .i64 ((rd_T85 ((rd_T82 l0 x16_5).f2) x17_6).f3))).trans hx157_1; replace hx157_2 := (cell_far (p := ⟨gb156, 3, none⟩) (by first | (rw [add_block]; exact hn157_3) | (show (Addr.add _ _).block ≠ _; rw [add_block]; exact hn157_3) | exact hn157_3) (.int .i64 ((rd_T85 ((rd_T82 l0 x16_5).f2) x17_6).f3))).trans hx157_2; clear hn157_0; clear hn157_1; clear hn157_2; clear hn157_3; replace p157 := eq_true p157; replace q157 := eq_true q157
               go_wp2_with (first | ((with_reducible refine gate_callee (f := 41) rfl ?_); refine goesL_ (some 180) rfl rfl Try.func41 kZ rfl #[.int .i64 ((rd_T82 l0 x16_5).f0), .int .i64 a1, .int .i64 a2] rfl tZA ?_; (with_reducible refine (spec_l1In.calls ((rd_T82 l0 x16_5).f0) a1 a2 false _ A61.out).mono ?_); rintro e w' ⟨rfl, ⟨nd, rfl⟩⟩; refine ⟨_, rfl, ?_⟩))
               go_meet
               case rel => exact ⟨_, (true), tZB, H', ⟨by have := HK1.out; have := HK2.out; have := HK3.out; have := HK4.out; have := HK5.out; have := HK6.out; first | omega | exact Nat.le_refl _⟩, ⟨by (with_reducible repeat (first | apply Kd.R_alloc | apply Kd.R_drewN | apply Kd.R_drew)); exact Kd.R_mono (Kd.R_far (p := ⟨gb156, 3, none⟩) (Kd.R_far (p := ⟨gb156, 2, none⟩) (Kd.R_far (p := ⟨gb156, 1, none⟩) (Kd.R_far (p := ⟨gb156, 0, none⟩) (Kd.R_types HO_7.out BK156.out (by decide)) (fun _ hk => hk.2) (.string ((rd_T85 ((rd_T82 l0 x16_5).f2) x17_6).f0))) (fun _ hk => hk.2) (.int .i64 ((rd_T85 ((rd_T82 l0 x16_5).f2) x17_6).f1))) (fun _ hk => hk.2) (.int .i64 ((rd_T85 ((rd_T82 l0 x16_5).f2) x17_6).f2))) (fun _ hk => hk.2) (.int .i64 ((rd_T85 ((rd_T82 l0 x16_5).f2) x17_6).f3))) (fun _ hk => hk.1)⟩, ⟨by (with_reducible repeat (first | apply Kd.R_alloc | apply Kd.R_drewN | apply Kd.R_drew)); exact Kd.R_mono (Kd.R_far (p := ⟨gb156, 3, none⟩) (Kd.R_far (p := ⟨gb156, 2, none⟩) (Kd.R_far (p := ⟨gb156, 1, none⟩) (Kd.R_far (p := ⟨gb156, 0, none⟩) (Kd.R_types HO_10.out BK156.out (by decide)) (fun _ hk => hk.2) (.string ((rd_T85 ((rd_T82 l0 x16_5).f2) x17_6).f0))) (fun _ hk => hk.2) (.int .i64 ((rd_T85 ((rd_T82 l0 x16_5).f2) x17_6).f1))) (fun _ hk => hk.2) (.int .i64 ((rd_T85 ((rd_T82 l0 x16_5).f2) x17_6).f2))) (fun _ hk => hk.2) (.int .i64 ((rd_T85 ((rd_T82 l0 x16_5).f2) x17_6).f3))) (fun _ hk => trivial)⟩, ⟨by (with_reducible repeat (first | refine blk_drewN ?_ _ | refine blk_drew ?_ | refine blk_alloc ?_ _)); refine blk_far ?_ NB138_156.out _; (with_reducible repeat (first | refine blk_drewN ?_ _ | refine blk_drew ?_ | refine blk_alloc ?_ _)); refine blk_far ?_ NB138_156.out _; (with_reducible repeat (first | refine blk_drewN ?_ _ | refine blk_drew ?_ | refine blk_alloc ?_ _)); refine blk_far ?_ NB138_156.out _; (with_reducible repeat (first | refine blk_drewN ?_ _ | refine blk_drew ?_ | refine blk_alloc ?_ _)); refine blk_far ?_ NB138_156.out _; (with_reducible repeat (first | refine blk_drewN ?_ _ | refine blk_drew ?_ | refine blk_alloc ?_ _)); exact BK138.out⟩, ⟨by (with_reducible repeat (first | refine blk_drewN ?_ _ | refine blk_drew ?_ | refine blk_alloc ?_ _)); refine blk_put (cs := #[.string ((rd_T85 ((rd_T82 l0 x16_5).f2) x17_6).f0), .int .i64 ((rd_T85 ((rd_T82 l0 x16_5).f2) x17_6).f1), .int .i64 ((rd_T85 ((rd_T82 l0 x16_5).f2) x17_6).f2), .int .i64 0]) ?_ 3 _ rfl; (with_reducible repeat (first | refine blk_drewN ?_ _ | refine blk_drew ?_ | refine blk_alloc ?_ _)); refine blk_put (cs := #[.string ((rd_T85 ((rd_T82 l0 x16_5).f2) x17_6).f0), .int .i64 ((rd_T85 ((rd_T82 l0 x16_5).f2) x17_6).f1), .int .i64 0, .int .i64 0]) ?_ 2 _ rfl; (with_reducible repeat (first | refine blk_drewN ?_ _ | refine blk_drew ?_ | refine blk_alloc ?_ _)); refine blk_put (cs := #[.string ((rd_T85 ((rd_T82 l0 x16_5).f2) x17_6).f0), .int .i64 0, .int .i64 0, .int .i64 0]) ?_ 1 _ rfl; (with_reducible repeat (first | refine blk_drewN ?_ _ | refine blk_drew ?_ | refine blk_alloc ?_ _)); refine blk_put (cs := #[.string (⟨#[]⟩ : ByteArray), .int .i64 0, .int .i64 0, .int .i64 0]) ?_ 0 _ rfl; (with_reducible repeat (first | refine blk_drewN ?_ _ | refine blk_drew ?_ | refine blk_alloc ?_ _)); exact BK156.out⟩, ⟨bZ⟩⟩
              subst c62; rw [if_pos rfl] at H; have H' := Aside0.mk H; clear H; have p157 : 0 ≤ (x16_5 : Int) := of_decide_eq_true tZE; have q157 : x16_5 < (l0.length : Int) := of_decide_eq_true tZE; obtain ⟨ad157, A157_2, c157_2, e157, hx157_0, hx157_1, hx157_2, hl157_2, hi157_2⟩ := at_T82 HR0.out x16_5 p157 q157; have hz157_2 := hx157_2; obtain rfl : ad153 = ad157 := (by injection e157); have hn157_0 : ad153.block ≠ gb156 := Nat.ne_of_lt (Nat.lt_of_lt_of_le (by have := World.block_lt_of_cell? _ _ hx157_0; first | rwa [add_block] at this | exact this) GW156.out); have hn157_1 : ad153.block ≠ gb156 := Nat.ne_of_lt (Nat.lt_of_lt_of_le (by have := World.block_lt_of_cell? _ _ hx157_0; first | rwa [add_block] at this | exact this) GW156.out)
              have hn157_2 : ad153.block ≠ gb156 := Nat.ne_of_lt (Nat.lt_of_lt_of_le (by have := World.block_lt_of_cell? _ _ hx157_0; first | rwa [add_block] at this | exact this) GW156.out); have hn157_3 : ad153.block ≠ gb156 := Nat.ne_of_lt (Nat.lt_of_lt_of_le (by have := World.block_lt_of_cell? _ _ hx157_0; first | rwa [add_block] at this | exact this) GW156.out); replace hx157_0 := cZ HB hx157_0; replace hx157_1 := cZ HB hx157_1; replace hx157_2 := cZ HB hx157_2; have HR157_2 := Aside0.mk hi157_2; have HC157_2 := Aside0.mk hl157_2; clear hi157_2 hl157_2; replace hx157_0 := (cell_far (p := ⟨gb156, 0, none⟩) (by first | (rw [add_block]; exact hn157_0) | (show (Addr.add _ _).block ≠ _; rw [add_block]; exact hn157_0) | exact hn157_0) (.string ((rd_T85 ((rd_T82 l0 x16_5).f2) x17_6).f0))).trans hx157_0
              replace hx157_1 := (cell_far (p := ⟨gb156, 0, none⟩) (by first | (rw [add_block]; exact hn157_0) | (show (Addr.add _ _).block ≠ _; rw [add_block]; exact hn157_0) | exact hn157_0) (.string ((rd_T85 ((rd_T82 l0 x16_5).f2) x17_6).f0))).trans hx157_1; replace hx157_2 := (cell_far (p := ⟨gb156, 0, none⟩) (by first | (rw [add_block]; exact hn157_0) | (show (Addr.add _ _).block ≠ _; rw [add_block]; exact hn157_0) | exact hn157_0) (.string ((rd_T85 ((rd_T82 l0 x16_5).f2) x17_6).f0))).trans hx157_2; replace hx157_0 := (cell_far (p := ⟨gb156, 1, none⟩) (by first | (rw [add_block]; exact hn157_1) | (show (Addr.add _ _).block ≠ _; rw [add_block]; exact hn157_1) | exact hn157_1) (.int .i64 ((rd_T85 ((rd_T82 l0 x16_5).f2) x17_6).f1))).trans hx157_0
              replace hx157_1 := (cell_far (p := ⟨gb156, 1, none⟩) (by first | (rw [add_block]; exact hn157_1) | (show (Addr.add _ _).block ≠ _; rw [add_block]; exact hn157_1) | exact hn157_1) (.int .i64 ((rd_T85 ((rd_T82 l0 x16_5).f2) x17_6).f1))).trans hx157_1; replace hx157_2 := (cell_far (p := ⟨gb156, 1, none⟩) (by first | (rw [add_block]; exact hn157_1) | (show (Addr.add _ _).block ≠ _; rw [add_block]; exact hn157_1) | exact hn157_1) (.int .i64 ((rd_T85 ((rd_T82 l0 x16_5).f2) x17_6).f1))).trans hx157_2; replace hx157_0 := (cell_far (p := ⟨gb156, 2, none⟩) (by first | (rw [add_block]; exact hn157_2) | (show (Addr.add _ _).block ≠ _; rw [add_block]; exact hn157_2) | exact hn157_2) (.int .i64 ((rd_T85 ((rd_T82 l0 x16_5).f2) x17_6).f2))).trans hx157_0
              replace hx157_1 := (cell_far (p := ⟨gb156, 2, none⟩) (by first | (rw [add_block]; exact hn157_2) | (show (Addr.add _ _).block ≠ _; rw [add_block]; exact hn157_2) | exact hn157_2) (.int .i64 ((rd_T85 ((rd_T82 l0 x16_5).f2) x17_6).f2))).trans hx157_1; replace hx157_2 := (cell_far (p := ⟨gb156, 2, none⟩) (by first | (rw [add_block]; exact hn157_2) | (show (Addr.add _ _).block ≠ _; rw [add_block]; exact hn157_2) | exact hn157_2) (.int .i64 ((rd_T85 ((rd_T82 l0 x16_5).f2) x17_6).f2))).trans hx157_2; replace hx157_0 := (cell_far (p := ⟨gb156, 3, none⟩) (by first | (rw [add_block]; exact hn157_3) | (show (Addr.add _ _).block ≠ _; rw [add_block]; exact hn157_3) | exact hn157_3) (.int .i64 ((rd_T85 ((rd_T82 l0 x16_5).f2) x17_6).f3))).trans hx157_0
              replace hx157_1 := (cell_far (p := ⟨gb156, 3, none⟩) (by first | (rw [add_block]; exact hn157_3) | (show (Addr.add _ _).block ≠ _; rw [add_block]; exact hn157_3) | exact hn157_3) (.int .i64 ((rd_T85 ((rd_T82 l0 x16_5).f2) x17_6).f3))).trans hx157_1; replace hx157_2 := (cell_far (p := ⟨gb156, 3, none⟩) (by first | (rw [add_block]; exact hn157_3) | (show (Addr.add _ _).block ≠ _; rw [add_block]; exact hn157_3) | exact hn157_3) (.int .i64 ((rd_T85 ((rd_T82 l0 x16_5).f2) x17_6).f3))).trans hx157_2; clear hn157_0; clear hn157_1; clear hn157_2; clear hn157_3; replace p157 := eq_true p157; replace q157 := eq_true q157
              go_wp2_with (first | ((with_reducible refine gate_callee (f := 41) rfl ?_); refine goesL_ (some 180) rfl rfl Try.func41 kZ rfl #[.int .i64 ((rd_T82 l0 x16_5).f0), .int .i64 a1, .int .i64 a2] rfl tZA ?_; (with_reducible refine (spec_l1In.calls ((rd_T82 l0 x16_5).f0) a1 a2 true _ A61.out).mono ?_); rintro e w' ⟨rfl, ⟨nd, rfl⟩⟩; refine ⟨_, rfl, ?_⟩; have hnb63 := NB156_138.out; have hnc63 := NB138_156.out; obtain ⟨hcz64_0, hcz64_1, hcz64_2, hcz64_3, hfz64_0, hfz64_1, hfz64_2, hfz64_3⟩ := bc4 BK156.out; obtain ⟨hcz65_0, hcz65_1, hcz65_2, hcz65_3, hfz65_0, hfz65_1, hfz65_2, hfz65_3⟩ := bc4 BK138.out))
              go_meet
              case rel => exact ⟨_, ((((rd_T85 ((rd_T82 l0 x16_5).f2) x17_6).f0).toList != (rdOf ByteArray.empty x10_3 x13_4).toList)), tZB, H', ⟨by have := HK1.out; have := HK2.out; have := HK3.out; have := HK4.out; have := HK5.out; have := HK6.out; first | omega | exact Nat.le_refl _⟩, ⟨by (with_reducible repeat (first | apply Kd.R_alloc | apply Kd.R_drewN | apply Kd.R_drew)); exact Kd.R_mono (Kd.R_far (p := ⟨gb156, 3, none⟩) (Kd.R_far (p := ⟨gb156, 2, none⟩) (Kd.R_far (p := ⟨gb156, 1, none⟩) (Kd.R_far (p := ⟨gb156, 0, none⟩) (Kd.R_types HO_7.out BK156.out (by decide)) (fun _ hk => hk.2) (.string ((rd_T85 ((rd_T82 l0 x16_5).f2) x17_6).f0))) (fun _ hk => hk.2) (.int .i64 ((rd_T85 ((rd_T82 l0 x16_5).f2) x17_6).f1))) (fun _ hk => hk.2) (.int .i64 ((rd_T85 ((rd_T82 l0 x16_5).f2) x17_6).f2))) (fun _ hk => hk.2) (.int .i64 ((rd_T85 ((rd_T82 l0 x16_5).f2) x17_6).f3))) (fun _ hk => hk.1)⟩, ⟨by (with_reducible repeat (first | apply Kd.R_alloc | apply Kd.R_drewN | apply Kd.R_drew)); exact Kd.R_mono (Kd.R_far (p := ⟨gb156, 3, none⟩) (Kd.R_far (p := ⟨gb156, 2, none⟩) (Kd.R_far (p := ⟨gb156, 1, none⟩) (Kd.R_far (p := ⟨gb156, 0, none⟩) (Kd.R_types HO_10.out BK156.out (by decide)) (fun _ hk => hk.2) (.string ((rd_T85 ((rd_T82 l0 x16_5).f2) x17_6).f0))) (fun _ hk => hk.2) (.int .i64 ((rd_T85 ((rd_T82 l0 x16_5).f2) x17_6).f1))) (fun _ hk => hk.2) (.int .i64 ((rd_T85 ((rd_T82 l0 x16_5).f2) x17_6).f2))) (fun _ hk => hk.2) (.int .i64 ((rd_T85 ((rd_T82 l0 x16_5).f2) x17_6).f3))) (fun _ hk => trivial)⟩, ⟨by (with_reducible repeat (first | refine blk_drewN ?_ _ | refine blk_drew ?_ | refine blk_alloc ?_ _)); refine blk_far ?_ NB138_156.out _; (with_reducible repeat (first | refine blk_drewN ?_ _ | refine blk_drew ?_ | refine blk_alloc ?_ _)); refine blk_far ?_ NB138_156.out _; (with_reducible repeat (first | refine blk_drewN ?_ _ | refine blk_drew ?_ | refine blk_alloc ?_ _)); refine blk_far ?_ NB138_156.out _; (with_reducible repeat (first | refine blk_drewN ?_ _ | refine blk_drew ?_ | refine blk_alloc ?_ _)); refine blk_far ?_ NB138_156.out _; (with_reducible repeat (first | refine blk_drewN ?_ _ | refine blk_drew ?_ | refine blk_alloc ?_ _)); exact BK138.out⟩, ⟨by (with_reducible repeat (first | refine blk_drewN ?_ _ | refine blk_drew ?_ | refine blk_alloc ?_ _)); refine blk_put (cs := #[.string ((rd_T85 ((rd_T82 l0 x16_5).f2) x17_6).f0), .int .i64 ((rd_T85 ((rd_T82 l0 x16_5).f2) x17_6).f1), .int .i64 ((rd_T85 ((rd_T82 l0 x16_5).f2) x17_6).f2), .int .i64 0]) ?_ 3 _ rfl; (with_reducible repeat (first | refine blk_drewN ?_ _ | refine blk_drew ?_ | refine blk_alloc ?_ _)); refine blk_put (cs := #[.string ((rd_T85 ((rd_T82 l0 x16_5).f2) x17_6).f0), .int .i64 ((rd_T85 ((rd_T82 l0 x16_5).f2) x17_6).f1), .int .i64 0, .int .i64 0]) ?_ 2 _ rfl; (with_reducible repeat (first | refine blk_drewN ?_ _ | refine blk_drew ?_ | refine blk_alloc ?_ _)); refine blk_put (cs := #[.string ((rd_T85 ((rd_T82 l0 x16_5).f2) x17_6).f0), .int .i64 0, .int .i64 0, .int .i64 0]) ?_ 1 _ rfl; (with_reducible repeat (first | refine blk_drewN ?_ _ | refine blk_drew ?_ | refine blk_alloc ?_ _)); refine blk_put (cs := #[.string (⟨#[]⟩ : ByteArray), .int .i64 0, .int .i64 0, .int .i64 0]) ?_ 0 _ rfl; (with_reducible repeat (first | refine blk_drewN ?_ _ | refine blk_drew ?_ | refine blk_alloc ?_ _)); exact BK156.out⟩, ⟨bZ⟩⟩
             case rest =>
              clear HC57; (try clear c4b0 c4b1 c9b0 c22b0 c39b0 c39b1 c41b0 c48b0 c49b0 c52b0 c53b0 c54b0 c55b0 c56b0 hcz51_0 hcz51_1 hcz51_2 hcz51_3 hcz60_0 hcz60_1 hcz60_2 hcz60_3 hfz51_0 hfz51_1 hfz51_2 hfz51_3 hfz60_0 hfz60_1 hfz60_2 hfz60_3 hx137_0 hx153_0 hx153_1 hx153_2 hx154_0 hx154_1 hx154_2 hx155_0 hx155_1 hx155_2 hx155_3 p137 p153 p154 p155 q137 q153 q154 q155); obtain ⟨kq, x188_56, rfl, HA, HJ56, HO_7, HO_10, BK138, BK156, HB⟩ := hcut
              cases kq with
              | zero => exact absurd HA.out (by simp [spec_TaxReturn.j9])
              | succ kj56 =>
               have H := HA.out; clear HA; simp only [spec_TaxReturn.j9] at H
               by_cases c66 : x188_56 = true
               ·subst c66; rw [if_pos rfl] at H; have H' := Aside0.mk H; clear H; go_wp2
                go_roundg kj56
                case measure => have := HK1.out; have := HK2.out; have := HK3.out; have := HK4.out; have := HK5.out; have := HK6.out; have := HJ56.out; omega
                case rel => exact ⟨(wrap64 (x17_6 + 1)), (x139001_6), (x139002_6), (x139003_6), tZB, H', ⟨by have := HK1.out; have := HK2.out; have := HK3.out; have := HK4.out; have := HK5.out; have := HK6.out; have := HJ56.out; omega⟩, ⟨lZR HO_7.out⟩, ⟨lZR HO_10.out⟩, ⟨bkZ BK138.out⟩, ⟨bZ⟩⟩
               replace c66 := Bool.eq_false_iff.mpr c66; subst c66; rw [if_neg Bool.false_ne_true] at H
               by_cases c67 : ((rd_T85 ((rd_T82 l0 x16_5).f2) x17_6).f1) = 4
               ·rw [if_pos c67] at H; have c67b0 : (((rd_T85 ((rd_T82 l0 x16_5).f2) x17_6).f1) == 4) = true := beq_iff_eq.mpr c67; have c67b1 : (((rd_T85 ((rd_T82 l0 x16_5).f2) x17_6).f1) != 4) = false := bne_eq_false_iff_eq.mpr c67; clear c67
                by_cases c68 : 0 ≤ x16_5
                rotate_left
                ·rw [if_neg c68] at H; exact absurd H (by simp)
                rw [if_pos c68] at H; have c68b0 := decide_eq_true c68; clear c68
                by_cases c69 : x16_5 < (l0.length : Int)
                rotate_left
                ·rw [if_neg c69] at H; exact absurd H (by simp)
                rw [if_pos c69] at H; have c69b0 := decide_eq_true c69; clear c69; obtain ⟨bq70, hbq70⟩ : ∃ b_ : Bool, b_ = ((rd_T82 l0 x16_5).f1) := ⟨_, rfl⟩; replace H : (if bq70 = true then (spec_TaxReturn.l7 kj56 l0 a1 a2 x7_3 x10_3 x13_4 x16_5 (wrap64 (x17_6 + 1)) (rdOf ByteArray.empty x10_3 x13_4) (wrap64 (x139001_6 + ((rd_T85 ((rd_T82 l0 x16_5).f2) x17_6).f2))) x139002_6 (wrap64 (x139003_6 + 0))) else (spec_TaxReturn.l7 kj56 l0 a1 a2 x7_3 x10_3 x13_4 x16_5 (wrap64 (x17_6 + 1)) (rdOf ByteArray.empty x10_3 x13_4) x139001_6 (wrap64 (x139002_6 + ((rd_T85 ((rd_T82 l0 x16_5).f2) x17_6).f2))) (wrap64 (x139003_6 - 0)))) = some r := by rw [← hbq70] at H; exact H
                have Nbq70 := Aside0.mk hbq70; clear hbq70; (try rw [← Nbq70.out] at hx113_1); (try rw [← Nbq70.out] at hx113_1); (try rw [← Nbq70.out] at hx114_1); (try rw [← Nbq70.out] at hx115_1); (try rw [← Nbq70.out] at hx118_1); (try rw [← Nbq70.out] at hx114_1); (try rw [← Nbq70.out] at hx115_1); (try rw [← Nbq70.out] at hx118_1); (try rw [← Nbq70.out] at hx114_1); (try rw [← Nbq70.out] at hx115_1); (try rw [← Nbq70.out] at hx114_1); (try rw [← Nbq70.out] at hx124_1); (try rw [← Nbq70.out] at hx125_1); (try rw [← Nbq70.out] at hx124_1); (try rw [← Nbq70.out] at hx127_1); (try rw [← Nbq70.out] at hx127_1); (try rw [← Nbq70.out] at hx130_1); (try rw [← Nbq70.out] at hx153_1); (try rw [← Nbq70.out] at hx154_1); (try rw [← Nbq70.out] at hx157_1); (try rw [← Nbq70.out] at hx157_1); (try rw [← Nbq70.out])
                by_cases c71 : bq70 = true
                ·subst c71; rw [if_pos rfl] at H; have H' := Aside0.mk H; clear H; have hnb72 := NB156_138.out; have hnc72 := NB138_156.out; obtain ⟨hcz73_0, hcz73_1, hcz73_2, hcz73_3, hfz73_0, hfz73_1, hfz73_2, hfz73_3⟩ := bc4 BK156.out; have p159 : 0 ≤ (x16_5 : Int) := of_decide_eq_true tZE; have q159 : x16_5 < (l0.length : Int) := of_decide_eq_true tZE; obtain ⟨ad159, A159_2, c159_2, e159, hx159_0, hx159_1, hx159_2, hl159_2, hi159_2⟩ := at_T82 HR0.out x16_5 p159 q159; (try rw [← Nbq70.out] at hx159_1); have hz159_2 := hx159_2; obtain rfl : ad153 = ad159 := (by injection e159); replace hx159_0 := cZ HB hx159_0; replace hx159_1 := cZ HB hx159_1; replace hx159_2 := cZ HB hx159_2; have HR159_2 := Aside0.mk hi159_2; have HC159_2 := Aside0.mk hl159_2; clear hi159_2 hl159_2; replace p159 := eq_true p159; replace q159 := eq_true q159
                 obtain ⟨hcz74_0, hcz74_1, hcz74_2, hcz74_3, hfz74_0, hfz74_1, hfz74_2, hfz74_3⟩ := bc4 BK138.out; go_wp2
                 go_roundg kj56
                 case measure => have := HK1.out; have := HK2.out; have := HK3.out; have := HK4.out; have := HK5.out; have := HK6.out; have := HJ56.out; omega
                 case rel => (try rw [← Nbq70.out]); exact ⟨(wrap64 (x17_6 + 1)), (wrap64 (x139001_6 + ((rd_T85 ((rd_T82 l0 x16_5).f2) x17_6).f2))), (x139002_6), (wrap64 x139003_6), tZB, (by simpa only [Int.add_zero, Int.sub_zero] using H'), ⟨by have := HK1.out; have := HK2.out; have := HK3.out; have := HK4.out; have := HK5.out; have := HK6.out; have := HJ56.out; omega⟩, ⟨by (with_reducible repeat (first | apply Kd.R_alloc | apply Kd.R_drewN | apply Kd.R_drew)); exact Kd.R_mono (Kd.R_far (p := ⟨gb138, 3, none⟩) (Kd.R_far (p := ⟨gb138, 1, none⟩) (Kd.R_mono HO_7.out (fun k_ hk => (⟨hk, hk⟩ : _ ∧ k_ ≠ gb138))) (fun _ hk => hk.2) (.int .i64 (wrap64 (x139001_6 + ((rd_T85 ((rd_T82 l0 x16_5).f2) x17_6).f2))))) (fun _ hk => hk.2) (.int .i64 (wrap64 x139003_6))) (fun _ hk => hk.1)⟩, ⟨by (with_reducible repeat (first | apply Kd.R_alloc | apply Kd.R_drewN | apply Kd.R_drew)); exact Kd.R_mono (Kd.R_far (p := ⟨gb138, 3, none⟩) (Kd.R_far (p := ⟨gb138, 1, none⟩) (Kd.R_types HO_10.out BK138.out (by decide)) (fun _ hk => hk.2) (.int .i64 (wrap64 (x139001_6 + ((rd_T85 ((rd_T82 l0 x16_5).f2) x17_6).f2))))) (fun _ hk => hk.2) (.int .i64 (wrap64 x139003_6))) (fun _ hk => trivial)⟩, ⟨by (with_reducible repeat (first | refine blk_drewN ?_ _ | refine blk_drew ?_ | refine blk_alloc ?_ _)); refine blk_put (cs := #[.string (rdOf ByteArray.empty x10_3 x13_4), .int .i64 (wrap64 (x139001_6 + ((rd_T85 ((rd_T82 l0 x16_5).f2) x17_6).f2))), .int .i64 x139002_6, .int .i64 x139003_6]) ?_ 3 _ rfl; (with_reducible repeat (first | refine blk_drewN ?_ _ | refine blk_drew ?_ | refine blk_alloc ?_ _)); refine blk_put (cs := #[.string (rdOf ByteArray.empty x10_3 x13_4), .int .i64 x139001_6, .int .i64 x139002_6, .int .i64 x139003_6]) ?_ 1 _ rfl; (with_reducible repeat (first | refine blk_drewN ?_ _ | refine blk_drew ?_ | refine blk_alloc ?_ _)); exact BK138.out⟩, ⟨bZ⟩⟩
                replace c71 := Bool.eq_false_iff.mpr c71; subst c71; rw [if_neg Bool.false_ne_true] at H; have H' := Aside0.mk H; clear H; have hnb75 := NB156_138.out; have hnc75 := NB138_156.out; obtain ⟨hcz76_0, hcz76_1, hcz76_2, hcz76_3, hfz76_0, hfz76_1, hfz76_2, hfz76_3⟩ := bc4 BK156.out; have p159 : 0 ≤ (x16_5 : Int) := of_decide_eq_true tZE; have q159 : x16_5 < (l0.length : Int) := of_decide_eq_true tZE; obtain ⟨ad159, A159_2, c159_2, e159, hx159_0, hx159_1, hx159_2, hl159_2, hi159_2⟩ := at_T82 HR0.out x16_5 p159 q159; (try rw [← Nbq70.out] at hx159_1); have hz159_2 := hx159_2; obtain rfl : ad153 = ad159 := (by injection e159); replace hx159_0 := cZ HB hx159_0; replace hx159_1 := cZ HB hx159_1; replace hx159_2 := cZ HB hx159_2; have HR159_2 := Aside0.mk hi159_2; have HC159_2 := Aside0.mk hl159_2; clear hi159_2 hl159_2; replace p159 := eq_true p159; replace q159 := eq_true q159
                obtain ⟨hcz77_0, hcz77_1, hcz77_2, hcz77_3, hfz77_0, hfz77_1, hfz77_2, hfz77_3⟩ := bc4 BK138.out; go_wp2
                go_roundg kj56
                case measure => have := HK1.out; have := HK2.out; have := HK3.out; have := HK4.out; have := HK5.out; have := HK6.out; have := HJ56.out; omega
                case rel => (try rw [← Nbq70.out]); exact ⟨(wrap64 (x17_6 + 1)), (x139001_6), (wrap64 (x139002_6 + ((rd_T85 ((rd_T82 l0 x16_5).f2) x17_6).f2))), (wrap64 x139003_6), tZB, (by simpa only [Int.add_zero, Int.sub_zero] using H'), ⟨by have := HK1.out; have := HK2.out; have := HK3.out; have := HK4.out; have := HK5.out; have := HK6.out; have := HJ56.out; omega⟩, ⟨by (with_reducible repeat (first | apply Kd.R_alloc | apply Kd.R_drewN | apply Kd.R_drew)); exact Kd.R_mono (Kd.R_far (p := ⟨gb138, 3, none⟩) (Kd.R_far (p := ⟨gb138, 2, none⟩) (Kd.R_mono HO_7.out (fun k_ hk => (⟨hk, hk⟩ : _ ∧ k_ ≠ gb138))) (fun _ hk => hk.2) (.int .i64 (wrap64 (x139002_6 + ((rd_T85 ((rd_T82 l0 x16_5).f2) x17_6).f2))))) (fun _ hk => hk.2) (.int .i64 (wrap64 x139003_6))) (fun _ hk => hk.1)⟩, ⟨by (with_reducible repeat (first | apply Kd.R_alloc | apply Kd.R_drewN | apply Kd.R_drew)); exact Kd.R_mono (Kd.R_far (p := ⟨gb138, 3, none⟩) (Kd.R_far (p := ⟨gb138, 2, none⟩) (Kd.R_types HO_10.out BK138.out (by decide)) (fun _ hk => hk.2) (.int .i64 (wrap64 (x139002_6 + ((rd_T85 ((rd_T82 l0 x16_5).f2) x17_6).f2))))) (fun _ hk => hk.2) (.int .i64 (wrap64 x139003_6))) (fun _ hk => trivial)⟩, ⟨by (with_reducible repeat (first | refine blk_drewN ?_ _ | refine blk_drew ?_ | refine blk_alloc ?_ _)); refine blk_put (cs := #[.string (rdOf ByteArray.empty x10_3 x13_4), .int .i64 x139001_6, .int .i64 (wrap64 (x139002_6 + ((rd_T85 ((rd_T82 l0 x16_5).f2) x17_6).f2))), .int .i64 x139003_6]) ?_ 3 _ rfl; (with_reducible repeat (first | refine blk_drewN ?_ _ | refine blk_drew ?_ | refine blk_alloc ?_ _)); refine blk_put (cs := #[.string (rdOf ByteArray.empty x10_3 x13_4), .int .i64 x139001_6, .int .i64 x139002_6, .int .i64 x139003_6]) ?_ 2 _ rfl; (with_reducible repeat (first | refine blk_drewN ?_ _ | refine blk_drew ?_ | refine blk_alloc ?_ _)); exact BK138.out⟩, ⟨bZ⟩⟩
               rw [if_neg c67] at H; have c67b0 : (((rd_T85 ((rd_T82 l0 x16_5).f2) x17_6).f1) == 4) = false := beq_eq_false_iff_ne.mpr c67; have c67b1 : (((rd_T85 ((rd_T82 l0 x16_5).f2) x17_6).f1) != 4) = true := bne_iff_ne.mpr c67
               by_cases c78 : 0 ≤ x16_5
               rotate_left
               ·rw [if_neg c78] at H; exact absurd H (by simp)
               rw [if_pos c78] at H; have c78b0 := decide_eq_true c78; clear c78
               by_cases c79 : x16_5 < (l0.length : Int)
               rotate_left
               ·rw [if_neg c79] at H; exact absurd H (by simp)
               rw [if_pos c79] at H; have c79b0 := decide_eq_true c79; clear c79; obtain ⟨bq80, hbq80⟩ : ∃ b_ : Bool, b_ = ((rd_T82 l0 x16_5).f1) := ⟨_, rfl⟩; replace H : (if bq80 = true then (spec_TaxReturn.l7 kj56 l0 a1 a2 x7_3 x10_3 x13_4 x16_5 (wrap64 (x17_6 + 1)) (rdOf ByteArray.empty x10_3 x13_4) (wrap64 (x139001_6 + ((rd_T85 ((rd_T82 l0 x16_5).f2) x17_6).f2))) x139002_6 (wrap64 (x139003_6 + ((rd_T85 ((rd_T82 l0 x16_5).f2) x17_6).f3)))) else (spec_TaxReturn.l7 kj56 l0 a1 a2 x7_3 x10_3 x13_4 x16_5 (wrap64 (x17_6 + 1)) (rdOf ByteArray.empty x10_3 x13_4) x139001_6 (wrap64 (x139002_6 + ((rd_T85 ((rd_T82 l0 x16_5).f2) x17_6).f2))) (wrap64 (x139003_6 - ((rd_T85 ((rd_T82 l0 x16_5).f2) x17_6).f3))))) = some r := by rw [← hbq80] at H; exact H
               have Nbq80 := Aside0.mk hbq80; clear hbq80; (try rw [← Nbq80.out] at hx113_1); (try rw [← Nbq80.out] at hx113_1); (try rw [← Nbq80.out] at hx114_1); (try rw [← Nbq80.out] at hx115_1); (try rw [← Nbq80.out] at hx118_1); (try rw [← Nbq80.out] at hx114_1); (try rw [← Nbq80.out] at hx115_1); (try rw [← Nbq80.out] at hx118_1); (try rw [← Nbq80.out] at hx114_1); (try rw [← Nbq80.out] at hx115_1); (try rw [← Nbq80.out] at hx114_1); (try rw [← Nbq80.out] at hx124_1); (try rw [← Nbq80.out] at hx125_1); (try rw [← Nbq80.out] at hx124_1); (try rw [← Nbq80.out] at hx127_1); (try rw [← Nbq80.out] at hx127_1); (try rw [← Nbq80.out] at hx130_1); (try rw [← Nbq80.out] at hx153_1); (try rw [← Nbq80.out] at hx154_1); (try rw [← Nbq80.out] at hx157_1); (try rw [← Nbq80.out] at hx157_1); (try rw [← Nbq80.out] at hx159_1); (try rw [← Nbq80.out] at hx159_1); (try rw [← Nbq80.out])
               by_cases c81 : bq80 = true
               ·subst c81; rw [if_pos rfl] at H; have H' := Aside0.mk H; clear H; have hnb82 := NB156_138.out; have hnc82 := NB138_156.out; obtain ⟨hcz83_0, hcz83_1, hcz83_2, hcz83_3, hfz83_0, hfz83_1, hfz83_2, hfz83_3⟩ := bc4 BK156.out; have p160 : 0 ≤ (x16_5 : Int) := of_decide_eq_true tZE; have q160 : x16_5 < (l0.length : Int) := of_decide_eq_true tZE; obtain ⟨ad160, A160_2, c160_2, e160, hx160_0, hx160_1, hx160_2, hl160_2, hi160_2⟩ := at_T82 HR0.out x16_5 p160 q160; (try rw [← Nbq80.out] at hx160_1); have hz160_2 := hx160_2; obtain rfl : ad153 = ad160 := (by injection e160); replace hx160_0 := cZ HB hx160_0; replace hx160_1 := cZ HB hx160_1; replace hx160_2 := cZ HB hx160_2; have HR160_2 := Aside0.mk hi160_2; have HC160_2 := Aside0.mk hl160_2; clear hi160_2 hl160_2; replace p160 := eq_true p160; replace q160 := eq_true q160
                obtain ⟨hcz84_0, hcz84_1, hcz84_2, hcz84_3, hfz84_0, hfz84_1, hfz84_2, hfz84_3⟩ := bc4 BK138.out; go_wp2
                go_roundg kj56
                case measure => have := HK1.out; have := HK2.out; have := HK3.out; have := HK4.out; have := HK5.out; have := HK6.out; have := HJ56.out; omega
                case rel => (try rw [← Nbq80.out]); exact ⟨(wrap64 (x17_6 + 1)), (wrap64 (x139001_6 + ((rd_T85 ((rd_T82 l0 x16_5).f2) x17_6).f2))), (x139002_6), (wrap64 (x139003_6 + ((rd_T85 ((rd_T82 l0 x16_5).f2) x17_6).f3))), tZB, H', ⟨by have := HK1.out; have := HK2.out; have := HK3.out; have := HK4.out; have := HK5.out; have := HK6.out; have := HJ56.out; omega⟩, ⟨by (with_reducible repeat (first | apply Kd.R_alloc | apply Kd.R_drewN | apply Kd.R_drew)); exact Kd.R_mono (Kd.R_far (p := ⟨gb138, 3, none⟩) (Kd.R_far (p := ⟨gb138, 1, none⟩) (Kd.R_mono HO_7.out (fun k_ hk => (⟨hk, hk⟩ : _ ∧ k_ ≠ gb138))) (fun _ hk => hk.2) (.int .i64 (wrap64 (x139001_6 + ((rd_T85 ((rd_T82 l0 x16_5).f2) x17_6).f2))))) (fun _ hk => hk.2) (.int .i64 (wrap64 (x139003_6 + ((rd_T85 ((rd_T82 l0 x16_5).f2) x17_6).f3))))) (fun _ hk => hk.1)⟩, ⟨by (with_reducible repeat (first | apply Kd.R_alloc | apply Kd.R_drewN | apply Kd.R_drew)); exact Kd.R_mono (Kd.R_far (p := ⟨gb138, 3, none⟩) (Kd.R_far (p := ⟨gb138, 1, none⟩) (Kd.R_types HO_10.out BK138.out (by decide)) (fun _ hk => hk.2) (.int .i64 (wrap64 (x139001_6 + ((rd_T85 ((rd_T82 l0 x16_5).f2) x17_6).f2))))) (fun _ hk => hk.2) (.int .i64 (wrap64 (x139003_6 + ((rd_T85 ((rd_T82 l0 x16_5).f2) x17_6).f3))))) (fun _ hk => trivial)⟩, ⟨by (with_reducible repeat (first | refine blk_drewN ?_ _ | refine blk_drew ?_ | refine blk_alloc ?_ _)); refine blk_put (cs := #[.string (rdOf ByteArray.empty x10_3 x13_4), .int .i64 (wrap64 (x139001_6 + ((rd_T85 ((rd_T82 l0 x16_5).f2) x17_6).f2))), .int .i64 x139002_6, .int .i64 x139003_6]) ?_ 3 _ rfl; (with_reducible repeat (first | refine blk_drewN ?_ _ | refine blk_drew ?_ | refine blk_alloc ?_ _)); refine blk_put (cs := #[.string (rdOf ByteArray.empty x10_3 x13_4), .int .i64 x139001_6, .int .i64 x139002_6, .int .i64 x139003_6]) ?_ 1 _ rfl; (with_reducible repeat (first | refine blk_drewN ?_ _ | refine blk_drew ?_ | refine blk_alloc ?_ _)); exact BK138.out⟩, ⟨bZ⟩⟩
               replace c81 := Bool.eq_false_iff.mpr c81; subst c81; rw [if_neg Bool.false_ne_true] at H; have H' := Aside0.mk H; clear H; have hnb85 := NB156_138.out; have hnc85 := NB138_156.out; obtain ⟨hcz86_0, hcz86_1, hcz86_2, hcz86_3, hfz86_0, hfz86_1, hfz86_2, hfz86_3⟩ := bc4 BK156.out; have p160 : 0 ≤ (x16_5 : Int) := of_decide_eq_true tZE; have q160 : x16_5 < (l0.length : Int) := of_decide_eq_true tZE; obtain ⟨ad160, A160_2, c160_2, e160, hx160_0, hx160_1, hx160_2, hl160_2, hi160_2⟩ := at_T82 HR0.out x16_5 p160 q160; (try rw [← Nbq80.out] at hx160_1); have hz160_2 := hx160_2; obtain rfl : ad153 = ad160 := (by injection e160); replace hx160_0 := cZ HB hx160_0; replace hx160_1 := cZ HB hx160_1; replace hx160_2 := cZ HB hx160_2; have HR160_2 := Aside0.mk hi160_2; have HC160_2 := Aside0.mk hl160_2; clear hi160_2 hl160_2; replace p160 := eq_true p160; replace q160 := eq_true q160
               obtain ⟨hcz87_0, hcz87_1, hcz87_2, hcz87_3, hfz87_0, hfz87_1, hfz87_2, hfz87_3⟩ := bc4 BK138.out; go_wp2
               go_roundg kj56
               case measure => have := HK1.out; have := HK2.out; have := HK3.out; have := HK4.out; have := HK5.out; have := HK6.out; have := HJ56.out; omega
               case rel => (try rw [← Nbq80.out]); exact ⟨(wrap64 (x17_6 + 1)), (x139001_6), (wrap64 (x139002_6 + ((rd_T85 ((rd_T82 l0 x16_5).f2) x17_6).f2))), (wrap64 (x139003_6 - ((rd_T85 ((rd_T82 l0 x16_5).f2) x17_6).f3))), tZB, H', ⟨by have := HK1.out; have := HK2.out; have := HK3.out; have := HK4.out; have := HK5.out; have := HK6.out; have := HJ56.out; omega⟩, ⟨by (with_reducible repeat (first | apply Kd.R_alloc | apply Kd.R_drewN | apply Kd.R_drew)); exact Kd.R_mono (Kd.R_far (p := ⟨gb138, 3, none⟩) (Kd.R_far (p := ⟨gb138, 2, none⟩) (Kd.R_mono HO_7.out (fun k_ hk => (⟨hk, hk⟩ : _ ∧ k_ ≠ gb138))) (fun _ hk => hk.2) (.int .i64 (wrap64 (x139002_6 + ((rd_T85 ((rd_T82 l0 x16_5).f2) x17_6).f2))))) (fun _ hk => hk.2) (.int .i64 (wrap64 (x139003_6 - ((rd_T85 ((rd_T82 l0 x16_5).f2) x17_6).f3))))) (fun _ hk => hk.1)⟩, ⟨by (with_reducible repeat (first | apply Kd.R_alloc | apply Kd.R_drewN | apply Kd.R_drew)); exact Kd.R_mono (Kd.R_far (p := ⟨gb138, 3, none⟩) (Kd.R_far (p := ⟨gb138, 2, none⟩) (Kd.R_types HO_10.out BK138.out (by decide)) (fun _ hk => hk.2) (.int .i64 (wrap64 (x139002_6 + ((rd_T85 ((rd_T82 l0 x16_5).f2) x17_6).f2))))) (fun _ hk => hk.2) (.int .i64 (wrap64 (x139003_6 - ((rd_T85 ((rd_T82 l0 x16_5).f2) x17_6).f3))))) (fun _ hk => trivial)⟩, ⟨by (with_reducible repeat (first | refine blk_drewN ?_ _ | refine blk_drew ?_ | refine blk_alloc ?_ _)); refine blk_put (cs := #[.string (rdOf ByteArray.empty x10_3 x13_4), .int .i64 x139001_6, .int .i64 (wrap64 (x139002_6 + ((rd_T85 ((rd_T82 l0 x16_5).f2) x17_6).f2))), .int .i64 x139003_6]) ?_ 3 _ rfl; (with_reducible repeat (first | refine blk_drewN ?_ _ | refine blk_drew ?_ | refine blk_alloc ?_ _)); refine blk_put (cs := #[.string (rdOf ByteArray.empty x10_3 x13_4), .int .i64 x139001_6, .int .i64 x139002_6, .int .i64 x139003_6]) ?_ 2 _ rfl; (with_reducible repeat (first | refine blk_drewN ?_ _ | refine blk_drew ?_ | refine blk_alloc ?_ _)); exact BK138.out⟩, ⟨bZ⟩⟩
end Go.Proofs.Ytobbemdkipknnaa.PFnExactTaxReturn
