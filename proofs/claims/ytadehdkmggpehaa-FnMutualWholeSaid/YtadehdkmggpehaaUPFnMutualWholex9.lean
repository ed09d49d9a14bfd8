import Derived.Test.YtadehdkmggpehaaUPFnMutualWholex0
import Derived.Test.YtadehdkmggpehaaUPFnMutualWholex5
import Derived.Test.YtadehdkmggpehaaUPFnMutualWholex7
import Derived.Test.YtadehdkmggpehaaUPFnMutualWholex8
import Derived.Test.YtadehdkmggpehaaUSlimWords
namespace Go.Proofs.Ytadehdkmggpehaa.PFnMutualWhole
open Go.Proofs.Ytadehdkmggpehaa.SlimWords
open Go.RowKit Go.Proofs.YtadehdkmggpehaaW.PrintWords Go.Proofs.YtadehdkmggpehaaW.PrintLast Go.Proofs.YtadehdkmggpehaaW.PrintMore Go.Proofs.Ytadehdkmggpehaa.MapWords Go.Proofs.Ytadehdkmggpehaa.IterWords Go.Proofs.Ytadehdkmggpehaa.MarkWords Go.Proofs.Ytadehdkmggpehaa.ArrWords
attribute [local go_sem] ptrOf_slice max2_int min2_int max_two min_two max_three min_three max_four min_four
set_option linter.unusedVariables false
set_option linter.unusedSimpArgs false
private abbrev I' := true
private abbrev O' := false
private abbrev L0' : Array Bool := #[O',O',O',O',O',O',O',O',O',O']
private abbrev L1' : Array Bool := #[I',O',O',O',O',O',O',O',O',O']
private abbrev L2' : Array Bool := #[I',I',O',O',O',O',O',O',O',O']
private abbrev L3' : Array Bool := #[I',I',I',O',O',O',O',O',O',O']
private abbrev L4' : Array Bool := #[I',I',I',I',O',O',O',O',O',O']
private abbrev L5' : Array Bool := #[I',I',I',I',I',O',O',O',O',O']
private abbrev L6' : Array Bool := #[I',I',I',I',I',O',O',I',O',O']
private abbrev L7' : Array Bool := #[I',I',I',I',I',I',O',I',O',O']
private abbrev L8' : Array Bool := #[I',I',I',I',I',I',I',I',O',O']
private abbrev L9' : Array Bool := #[I',I',I',I',I',I',I',I',I',O']
private abbrev L10' : Array Bool := #[I',I',I',I',I',I',I',I',I',I']
private abbrev L11' : Array Bool := #[O',O',O',O',O',O',O',O',O',O',O',O']
private abbrev L12' : Array Bool := #[I',O',O',O',O',O',O',O',O',O',O',O']
private abbrev L13' : Array Bool := #[I',I',O',O',O',O',O',O',O',O',O',O']
private abbrev L14' : Array Bool := #[I',I',I',O',O',O',O',O',O',O',O',O']
private abbrev L15' : Array Bool := #[I',I',I',I',O',O',O',O',O',O',O',O']
private abbrev L16' : Array Bool := #[I',I',I',I',I',O',O',O',O',O',O',O']
private abbrev L17' : Array Bool := #[I',I',I',I',I',O',I',O',O',O',O',O']
private abbrev L18' : Array Bool := #[I',I',I',I',I',O',I',O',O',I',O',O']
private abbrev L19' : Array Bool := #[I',I',I',I',I',I',I',O',O',I',O',O']
private abbrev L20' : Array Bool := #[I',I',I',I',I',I',I',I',O',I',O',O']
private abbrev L21' : Array Bool := #[I',I',I',I',I',I',I',I',I',I',O',O']
private abbrev L22' : Array Bool := #[I',I',I',I',I',I',I',I',I',I',I',O']
private abbrev L23' : Array Bool := #[I',I',I',I',I',I',I',I',I',I',I',I']
mutual
def impl_mutual.j0 : Nat → List Int → Int → List (List Int) → Bool → Option ((List (List Int)) × Bool)
  | 0, _, _, _, _ => none
  | k + 1, x0, x1, x2, x43 => if x43 = true then (some (([] : List (List Int)), false)) else (impl_mutual.l0 k x0 x1 x2 ((List.replicate 9 0 : List Int)) x2 (x2.length : Int) 0)
def impl_mutual.l0 : Nat → List Int → Int → List (List Int) → List Int → List (List Int) → Int → Int → Option ((List (List Int)) × Bool)
  | 0, _, _, _, _, _, _, _ => none
  | k + 1, x0, x1, x2, x8, x44, x45, x46 => if x46 < x45 then (if 0 ≤ x46 then (if x46 < (x44.length : Int) then (if ((rd_L2 x44 x46).length : Int) = (x0.length : Int) then (if x46 < ((rd_L2 x44 x46).length : Int) then (impl_mutual.j2 k x0 x1 x2 x8 x46 (rd_L2 x44 x46) x44 x45 x46 ((rd (rd_L2 x44 x46) x46) != 0)) else (none)) else (impl_mutual.j2 k x0 x1 x2 x8 x46 (rd_L2 x44 x46) x44 x45 x46 true)) else (none)) else (none)) else (if x8.length = 9 then ((impl_determinant.f x8 x1).bind fun t411 => (if t411 = 0 then (some (([] : List (List Int)), false)) else (impl_mutual.l3 k x0 x1 x2 x8 (([] : List (List Int))) 0))) else (none))
def impl_mutual.j2 : Nat → List Int → Int → List (List Int) → List Int → Int → List Int → List (List Int) → Int → Int → Bool → Option ((List (List Int)) × Bool)
  | 0, _, _, _, _, _, _, _, _, _, _ => none
  | k + 1, x0, x1, x2, x8, x9, x10, x44, x45, x46, x62 => if x62 = true then (some (([] : List (List Int)), false)) else (impl_mutual.l1 k x0 x1 x2 x8 x9 x10 x44 x45 x46 x10 (x10.length : Int) 0)
def impl_mutual.l1 : Nat → List Int → Int → List (List Int) → List Int → Int → List Int → List (List Int) → Int → Int → List Int → Int → Int → Option ((List (List Int)) × Bool)
  | 0, _, _, _, _, _, _, _, _, _, _, _, _ => none
  | k + 1, x0, x1, x2, x8, x9, x10, x44, x45, x46, x63, x64, x65 => if x65 < x64 then (if 0 ≤ x65 then (if x65 < (x63.length : Int) then ((impl_between.f (rd x63 x65) 0 100).bind fun t406 => (if t406 = true then (impl_mutual.l1 k x0 x1 x2 x8 x9 x10 x44 x45 x46 x63 x64 (wrap64 (x65 + 1))) else (some (([] : List (List Int)), false)))) else (none)) else (none)) else ((impl_sumOf.f k x10).bind fun t407 => (if t407 = 100 then (impl_mutual.l2 k x0 x1 x2 x8 x9 x10 0 x44 x45 x46) else (some (([] : List (List Int)), false))))
def impl_mutual.l2 : Nat → List Int → Int → List (List Int) → List Int → Int → List Int → Int → List (List Int) → Int → Int → Option ((List (List Int)) × Bool)
  | 0, _, _, _, _, _, _, _, _, _, _ => none
  | k + 1, x0, x1, x2, x8, x9, x10, x13, x44, x45, x46 => if x13 < x1 then (if 0 ≤ x13 then (if x13 < (x10.length : Int) then (if 0 ≤ x9 then (if x9 < 3 then (if x13 < 3 then (if (x9 * 3 + x13) < 9 then (if 0 ≤ (x9 * 3 + x13) then (if (x9 * 3 + x13) < (x8.length : Int) then (impl_mutual.l2 k x0 x1 x2 (x8.set ((x9 * 3 + x13) : Int).toNat (wrap64 (-(rd x10 x13)))) x9 x10 (wrap64 (x13 + 1)) x44 x45 x46) else (none)) else (none)) else (none)) else (none)) else (none)) else (none)) else (none)) else (none)) else (if 0 ≤ x9 then (if x9 < 3 then (if (x9 * 3 + x9) < 9 then (if 0 ≤ (x9 * 3 + x9) then (if (x9 * 3 + x9) < (x8.length : Int) then (impl_mutual.l0 k x0 x1 x2 (x8.set ((x9 * 3 + x9) : Int).toNat 100) x44 x45 (wrap64 (x46 + 1))) else (none)) else (none)) else (none)) else (none)) else (none))
def impl_mutual.l3 : Nat → List Int → Int → List (List Int) → List Int → List (List Int) → Int → Option ((List (List Int)) × Bool)
  | 0, _, _, _, _, _, _ => none
  | k + 1, x0, x1, x2, x8, x14, x15 => if x15 < x1 then (impl_mutual.l4 k x0 x1 x2 x8 x14 x15 (([] : List Int)) x1) else (impl_mutual.l6 k x0 x1 x14 x1)
def impl_mutual.l4 : Nat → List Int → Int → List (List Int) → List Int → List (List Int) → Int → List Int → Int → Option ((List (List Int)) × Bool)
  | 0, _, _, _, _, _, _, _, _ => none
  | k + 1, x0, x1, x2, x8, x14, x15, x16, x17 => if x17 < (x0.length : Int) then (if x8.length = 9 then (impl_mutual.l5 k x0 x1 x2 x8 x14 x15 x16 x17 (x8) 0) else (none)) else (if 0 ≤ x15 then (if x15 < (x0.length : Int) then ((impl_Shares.f k (rd x0 x15) x16).bind fun t419 => (if (t419.length : Int) = 0 then (some (([] : List (List Int)), false)) else (if x14.length < 5864062014805 then (impl_mutual.l3 k x0 x1 x2 x8 (x14 ++ [t419]) (wrap64 (x15 + 1))) else (none)))) else (none)) else (none))
def impl_mutual.l5 : Nat → List Int → Int → List (List Int) → List Int → List (List Int) → Int → List Int → Int → List Int → Int → Option ((List (List Int)) × Bool)
  | 0, _, _, _, _, _, _, _, _, _, _ => none
  | k + 1, x0, x1, x2, x8, x14, x15, x16, x17, x18, x19 => if x19 < x1 then (if 0 ≤ x19 then (if x19 < (x2.length : Int) then (if 0 ≤ x17 then (if x17 < ((rd_L2 x2 x19).length : Int) then (if x19 < 3 then (if 0 ≤ x15 then (if x15 < 3 then (if (x19 * 3 + x15) < 9 then (if 0 ≤ (x19 * 3 + x15) then (if (x19 * 3 + x15) < (x18.length : Int) then (impl_mutual.l5 k x0 x1 x2 x8 x14 x15 x16 x17 (x18.set ((x19 * 3 + x15) : Int).toNat (rd (rd_L2 x2 x19) x17)) (wrap64 (x19 + 1))) else (none)) else (none)) else (none)) else (none)) else (none)) else (none)) else (none)) else (none)) else (none)) else (none)) else (if x18.length = 9 then ((impl_determinant.f x18 x1).bind fun t431 => (if x16.length < 17592186044416 then (impl_mutual.l4 k x0 x1 x2 x8 x14 x15 (x16 ++ [t431]) (wrap64 (x17 + 1))) else (none))) else (none))
def impl_mutual.l6 : Nat → List Int → Int → List (List Int) → Int → Option ((List (List Int)) × Bool)
  | 0, _, _, _, _ => none
  | k + 1, x0, x1, x14, x21 => if x21 < (x0.length : Int) then (if 0 ≤ x21 then (impl_mutual.l7 k x0 x1 x14 x21 (rd x0 x21) 0) else (none)) else (some (x14, true))
def impl_mutual.l7 : Nat → List Int → Int → List (List Int) → Int → Int → Int → Option ((List (List Int)) × Bool)
  | 0, _, _, _, _, _, _ => none
  | k + 1, x0, x1, x14, x21, x22, x23 => if x23 < x1 then (if 0 ≤ x23 then (if x23 < (x14.length : Int) then (if 0 ≤ (wrap64 (x21 - x1)) then (if (wrap64 (x21 - x1)) < ((rd_L2 x14 x23).length : Int) then (impl_mutual.l7 k x0 x1 x14 x21 (wrap64 (x22 + (rd (rd_L2 x14 x23) (wrap64 (x21 - x1))))) (wrap64 (x23 + 1))) else (none)) else (none)) else (none)) else (none)) else ((impl_amount.f x22).bind fun t438 => (if t438 = true then (impl_mutual.l6 k x0 x1 x14 (wrap64 (x21 + 1))) else (some (([] : List (List Int)), false))))
end
def impl_mutual.f (k : Nat) (l0 : List Int) (a1 : Int) (l2 : List (List Int)) : Option ((List (List Int)) × Bool) := (impl_costsOk.f k l0).bind fun t398 => (if t398 = true then ((impl_between.f a1 1 3).bind fun t399 => (if t399 = true then (if a1 ≥ (l0.length : Int) then (impl_mutual.j0 k l0 a1 l2 true) else (impl_mutual.j0 k l0 a1 l2 ((l2.length : Int) != a1))) else (impl_mutual.j0 k l0 a1 l2 true))) else (impl_mutual.j0 k l0 a1 l2 true))
theorem impl_mutual.mono_l : ∀ k, (∀ y0 y1 y2 y3, LeO (impl_mutual.j0 k y0 y1 y2 y3) (impl_mutual.j0 (k + 1) y0 y1 y2 y3)) ∧ (∀ y0 y1 y2 y3 y4 y5 y6, LeO (impl_mutual.l0 k y0 y1 y2 y3 y4 y5 y6) (impl_mutual.l0 (k + 1) y0 y1 y2 y3 y4 y5 y6)) ∧ (∀ y0 y1 y2 y3 y4 y5 y6 y7 y8 y9, LeO (impl_mutual.j2 k y0 y1 y2 y3 y4 y5 y6 y7 y8 y9) (impl_mutual.j2 (k + 1) y0 y1 y2 y3 y4 y5 y6 y7 y8 y9)) ∧ (∀ y0 y1 y2 y3 y4 y5 y6 y7 y8 y9 y10 y11, LeO (impl_mutual.l1 k y0 y1 y2 y3 y4 y5 y6 y7 y8 y9 y10 y11) (impl_mutual.l1 (k + 1) y0 y1 y2 y3 y4 y5 y6 y7 y8 y9 y10 y11)) ∧ (∀ y0 y1 y2 y3 y4 y5 y6 y7 y8 y9, LeO (impl_mutual.l2 k y0 y1 y2 y3 y4 y5 y6 y7 y8 y9) (impl_mutual.l2 (k + 1) y0 y1 y2 y3 y4 y5 y6 y7 y8 y9)) ∧ (∀ y0 y1 y2 y3 y4 y5, LeO (impl_mutual.l3 k y0 y1 y2 y3 y4 y5) (impl_mutual.l3 (k + 1) y0 y1 y2 y3 y4 y5)) ∧ (∀ y0 y1 y2 y3 y4 y5 y6 y7, LeO (impl_mutual.l4 k y0 y1 y2 y3 y4 y5 y6 y7) (impl_mutual.l4 (k + 1) y0 y1 y2 y3 y4 y5 y6 y7)) ∧ (∀ y0 y1 y2 y3 y4 y5 y6 y7 y8 y9, LeO (impl_mutual.l5 k y0 y1 y2 y3 y4 y5 y6 y7 y8 y9) (impl_mutual.l5 (k + 1) y0 y1 y2 y3 y4 y5 y6 y7 y8 y9)) ∧ (∀ y0 y1 y2 y3, LeO (impl_mutual.l6 k y0 y1 y2 y3) (impl_mutual.l6 (k + 1) y0 y1 y2 y3)) ∧ (∀ y0 y1 y2 y3 y4 y5, LeO (impl_mutual.l7 k y0 y1 y2 y3 y4 y5) (impl_mutual.l7 (k + 1) y0 y1 y2 y3 y4 y5))
  | 0 => ⟨fun _ _ _ _ r h => by simp [impl_mutual.j0] at h, fun _ _ _ _ _ _ _ r h => by simp [impl_mutual.l0] at h, fun _ _ _ _ _ _ _ _ _ _ r h => by simp [impl_mutual.j2] at h, fun _ _ _ _ _ _ _ _ _ _ _ _ r h => by simp [impl_mutual.l1] at h, fun _ _ _ _ _ _ _ _ _ _ r h => by simp [impl_mutual.l2] at h, fun _ _ _ _ _ _ r h => by simp [impl_mutual.l3] at h, fun _ _ _ _ _ _ _ _ r h => by simp [impl_mutual.l4] at h, fun _ _ _ _ _ _ _ _ _ _ r h => by simp [impl_mutual.l5] at h, fun _ _ _ _ r h => by simp [impl_mutual.l6] at h, fun _ _ _ _ _ _ r h => by simp [impl_mutual.l7] at h⟩
  | k + 1 => by
    obtain ⟨ih0, ih1, ih2, ih3, ih4, ih5, ih6, ih7, ih8, ih9⟩ := impl_mutual.mono_l k
    refine ⟨?_, ?_, ?_, ?_, ?_, ?_, ?_, ?_, ?_, ?_⟩
    · intro y0 y1 y2 y3
      unfold impl_mutual.j0
      repeat' first
      | (with_reducible exact ih0 _ _ _ _)
      | (with_reducible exact ih1 _ _ _ _ _ _ _)
      | (with_reducible exact ih2 _ _ _ _ _ _ _ _ _ _)
      | (with_reducible exact ih3 _ _ _ _ _ _ _ _ _ _ _ _)
      | (with_reducible exact ih4 _ _ _ _ _ _ _ _ _ _)
      | (with_reducible exact ih5 _ _ _ _ _ _)
      | (with_reducible exact ih6 _ _ _ _ _ _ _ _)
      | (with_reducible exact ih7 _ _ _ _ _ _ _ _ _ _)
      | (with_reducible exact ih8 _ _ _ _)
      | (with_reducible exact ih9 _ _ _ _ _ _)
      | (with_reducible exact impl_Shares.mono _ _ _)
      | (with_reducible exact impl_costsOk.mono _ _)
      | (with_reducible exact impl_sumOf.mono _ _)
      | (with_reducible exact LeO.refl _)
      | (with_reducible exact LeO.none _)
      | (with_reducible refine LeO.ite ?_ ?_)
      | (with_reducible refine LeO.bind ?_ (fun _ => ?_))
      | exact ih0 _ _ _ _
      | exact ih1 _ _ _ _ _ _ _
      | exact ih2 _ _ _ _ _ _ _ _ _ _
      | exact ih3 _ _ _ _ _ _ _ _ _ _ _ _
      | exact ih4 _ _ _ _ _ _ _ _ _ _
      | exact ih5 _ _ _ _ _ _
      | exact ih6 _ _ _ _ _ _ _ _
      | exact ih7 _ _ _ _ _ _ _ _ _ _
      | exact ih8 _ _ _ _
      | exact ih9 _ _ _ _ _ _
      | exact impl_Shares.mono _ _ _
      | exact impl_costsOk.mono _ _
      | exact impl_sumOf.mono _ _
      | exact LeO.none _
      | refine LeO.ite ?_ ?_
      | refine LeO.bind ?_ (fun _ => ?_)
    · intro y0 y1 y2 y3 y4 y5 y6
      unfold impl_mutual.l0
      repeat' first
      | (with_reducible exact ih0 _ _ _ _)
      | (with_reducible exact ih1 _ _ _ _ _ _ _)
      | (with_reducible exact ih2 _ _ _ _ _ _ _ _ _ _)
      | (with_reducible exact ih3 _ _ _ _ _ _ _ _ _ _ _ _)
      | (with_reducible exact ih4 _ _ _ _ _ _ _ _ _ _)
      | (with_reducible exact ih5 _ _ _ _ _ _)
      | (with_reducible exact ih6 _ _ _ _ _ _ _ _)
      | (with_reducible exact ih7 _ _ _ _ _ _ _ _ _ _)
      | (with_reducible exact ih8 _ _ _ _)
      | (with_reducible exact ih9 _ _ _ _ _ _)
      | (with_reducible exact impl_Shares.mono _ _ _)
      | (with_reducible exact impl_costsOk.mono _ _)
      | (with_reducible exact impl_sumOf.mono _ _)
      | (with_reducible exact LeO.refl _)
      | (with_reducible exact LeO.none _)
      | (with_reducible refine LeO.ite ?_ ?_)
      | (with_reducible refine LeO.bind ?_ (fun _ => ?_))
      | exact ih0 _ _ _ _
      | exact ih1 _ _ _ _ _ _ _
      | exact ih2 _ _ _ _ _ _ _ _ _ _
      | exact ih3 _ _ _ _ _ _ _ _ _ _ _ _
      | exact ih4 _ _ _ _ _ _ _ _ _ _
      | exact ih5 _ _ _ _ _ _
      | exact ih6 _ _ _ _ _ _ _ _
      | exact ih7 _ _ _ _ _ _ _ _ _ _
      | exact ih8 _ _ _ _
      | exact ih9 _ _ _ _ _ _
      | exact impl_Shares.mono _ _ _
      | exact impl_costsOk.mono _ _
      | exact impl_sumOf.mono _ _
      | exact LeO.none _
      | refine LeO.ite ?_ ?_
      | refine LeO.bind ?_ (fun _ => ?_)
    · intro y0 y1 y2 y3 y4 y5 y6 y7 y8 y9
      unfold impl_mutual.j2
      repeat' first
      | (with_reducible exact ih0 _ _ _ _)
      | (with_reducible exact ih1 _ _ _ _ _ _ _)
      | (with_reducible exact ih2 _ _ _ _ _ _ _ _ _ _)
      | (with_reducible exact ih3 _ _ _ _ _ _ _ _ _ _ _ _)
      | (with_reducible exact ih4 _ _ _ _ _ _ _ _ _ _)
      | (with_reducible exact ih5 _ _ _ _ _ _)
      | (with_reducible exact ih6 _ _ _ _ _ _ _ _)
      | (with_reducible exact ih7 _ _ _ _ _ _ _ _ _ _)
      | (with_reducible exact ih8 _ _ _ _)
      | (with_reducible exact ih9 _ _ _ _ _ _)
      | (with_reducible exact impl_Shares.mono _ _ _)
      | (with_reducible exact impl_costsOk.mono _ _)
      | (with_reducible exact impl_sumOf.mono _ _)
      | (with_reducible exact LeO.refl _)
      | (with_reducible exact LeO.none _)
      | (with_reducible refine LeO.ite ?_ ?_)
      | (with_reducible refine LeO.bind ?_ (fun _ => ?_))
      | exact ih0 _ _ _ _
      | exact ih1 _ _ _ _ _ _ _
      | exact ih2 _ _ _ _ _ _ _ _ _ _
      | exact ih3 _ _ _ _ _ _ _ _ _ _ _ _
      | exact ih4 _ _ _ _ _ _ _ _ _ _
      | exact ih5 _ _ _ _ _ _
      | exact ih6 _ _ _ _ _ _ _ _
      | exact ih7 _ _ _ _ _ _ _ _ _ _
      | exact ih8 _ _ _ _
      | exact ih9 _ _ _ _ _ _
      | exact impl_Shares.mono _ _ _
      | exact impl_costsOk.mono _ _
      | exact impl_sumOf.mono _ _
      | exact LeO.none _
      | refine LeO.ite ?_ ?_
      | refine LeO.bind ?_ (fun _ => ?_)
    · intro y0 y1 y2 y3 y4 y5 y6 y7 y8 y9 y10 y11
      unfold impl_mutual.l1
      repeat' first
      | (with_reducible exact ih0 _ _ _ _)
      | (with_reducible exact ih1 _ _ _ _ _ _ _)
      | (with_reducible exact ih2 _ _ _ _ _ _ _ _ _ _)
      | (with_reducible exact ih3 _ _ _ _ _ _ _ _ _ _ _ _)
      | (with_reducible exact ih4 _ _ _ _ _ _ _ _ _ _)
      | (with_reducible exact ih5 _ _ _ _ _ _)
      | (with_reducible exact ih6 _ _ _ _ _ _ _ _)
      | (with_reducible exact ih7 _ _ _ _ _ _ _ _ _ _)
      | (with_reducible exact ih8 _ _ _ _)
      | (with_reducible exact ih9 _ _ _ _ _ _)
      | (with_reducible exact impl_Shares.mono _ _ _)
      | (with_reducible exact impl_costsOk.mono _ _)
      | (with_reducible exact impl_sumOf.mono _ _)
      | (with_reducible exact LeO.refl _)
      | (with_reducible exact LeO.none _)
      | (with_reducible refine LeO.ite ?_ ?_)
      | (with_reducible refine LeO.bind ?_ (fun _ => ?_))
      | exact ih0 _ _ _ _
      | exact ih1 _ _ _ _ _ _ _
      | exact ih2 _ _ _ _ _ _ _ _ _ _
      | exact ih3 _ _ _ _ _ _ _ _ _ _ _ _
      | exact ih4 _ _ _ _ _ _ _ _ _ _
      | exact ih5 _ _ _ _ _ _
      | exact ih6 _ _ _ _ _ _ _ _
      | exact ih7 _ _ _ _ _ _ _ _ _ _
      | exact ih8 _ _ _ _
      | exact ih9 _ _ _ _ _ _
      | exact impl_Shares.mono _ _ _
      | exact impl_costsOk.mono _ _
      | exact impl_sumOf.mono _ _
      | exact LeO.none _
      | refine LeO.ite ?_ ?_
      | refine LeO.bind ?_ (fun _ => ?_)
    · intro y0 y1 y2 y3 y4 y5 y6 y7 y8 y9
      unfold impl_mutual.l2
      repeat' first
      | (with_reducible exact ih0 _ _ _ _)
      | (with_reducible exact ih1 _ _ _ _ _ _ _)
      | (with_reducible exact ih2 _ _ _ _ _ _ _ _ _ _)
      | (with_reducible exact ih3 _ _ _ _ _ _ _ _ _ _ _ _)
      | (with_reducible exact ih4 _ _ _ _ _ _ _ _ _ _)
      | (with_reducible exact ih5 _ _ _ _ _ _)
      | (with_reducible exact ih6 _ _ _ _ _ _ _ _)
      | (with_reducible exact ih7 _ _ _ _ _ _ _ _ _ _)
      | (with_reducible exact ih8 _ _ _ _)
      | (with_reducible exact ih9 _ _ _ _ _ _)
      | (with_reducible exact impl_Shares.mono _ _ _)
      | (with_reducible exact impl_costsOk.mono _ _)
      | (with_reducible exact impl_sumOf.mono _ _)
      | (with_reducible exact LeO.refl _)
      | (with_reducible exact LeO.none _)
      | (with_reducible refine LeO.ite ?_ ?_)
      | (with_reducible refine LeO.bind ?_ (fun _ => ?_))
      | exact ih0 _ _ _ _
      | exact ih1 _ _ _ _ _ _ _
      | exact ih2 _ _ _ _ _ _ _ _ _ _
      | exact ih3 _ _ _ _ _ _ _ _ _ _ _ _
      | exact ih4 _ _ _ _ _ _ _ _ _ _
      | exact ih5 _ _ _ _ _ _
      | exact ih6 _ _ _ _ _ _ _ _
      | exact ih7 _ _ _ _ _ _ _ _ _ _
      | exact ih8 _ _ _ _
      | exact ih9 _ _ _ _ _ _
      | exact impl_Shares.mono _ _ _
      | exact impl_costsOk.mono _ _
      | exact impl_sumOf.mono _ _
      | exact LeO.none _
      | refine LeO.ite ?_ ?_
      | refine LeO.bind ?_ (fun _ => ?_)
    · intro y0 y1 y2 y3 y4 y5
      unfold impl_mutual.l3
      repeat' first
      | (with_reducible exact ih0 _ _ _ _)
      | (with_reducible exact ih1 _ _ _ _ _ _ _)
      | (with_reducible exact ih2 _ _ _ _ _ _ _ _ _ _)
      | (with_reducible exact ih3 _ _ _ _ _ _ _ _ _ _ _ _)
      | (with_reducible exact ih4 _ _ _ _ _ _ _ _ _ _)
      | (with_reducible exact ih5 _ _ _ _ _ _)
      | (with_reducible exact ih6 _ _ _ _ _ _ _ _)
      | (with_reducible exact ih7 _ _ _ _ _ _ _ _ _ _)
      | (with_reducible exact ih8 _ _ _ _)
      | (with_reducible exact ih9 _ _ _ _ _ _)
      | (with_reducible exact impl_Shares.mono _ _ _)
      | (with_reducible exact impl_costsOk.mono _ _)
      | (with_reducible exact impl_sumOf.mono _ _)
      | (with_reducible exact LeO.refl _)
      | (with_reducible exact LeO.none _)
      | (with_reducible refine LeO.ite ?_ ?_)
      | (with_reducible refine LeO.bind ?_ (fun _ => ?_))
      | exact ih0 _ _ _ _
      | exact ih1 _ _ _ _ _ _ _
      | exact ih2 _ _ _ _ _ _ _ _ _ _
      | exact ih3 _ _ _ _ _ _ _ _ _ _ _ _
      | exact ih4 _ _ _ _ _ _ _ _ _ _
      | exact ih5 _ _ _ _ _ _
      | exact ih6 _ _ _ _ _ _ _ _
      | exact ih7 _ _ _ _ _ _ _ _ _ _
      | exact ih8 _ _ _ _
      | exact ih9 _ _ _ _ _ _
      | exact impl_Shares.mono _ _ _
      | exact impl_costsOk.mono _ _
      | exact impl_sumOf.mono _ _
      | exact LeO.none _
      | refine LeO.ite ?_ ?_
      | refine LeO.bind ?_ (fun _ => ?_)
    · intro y0 y1 y2 y3 y4 y5 y6 y7
      unfold impl_mutual.l4
      repeat' first
      | (with_reducible exact ih0 _ _ _ _)
      | (with_reducible exact ih1 _ _ _ _ _ _ _)
      | (with_reducible exact ih2 _ _ _ _ _ _ _ _ _ _)
      | (with_reducible exact ih3 _ _ _ _ _ _ _ _ _ _ _ _)
      | (with_reducible exact ih4 _ _ _ _ _ _ _ _ _ _)
      | (with_reducible exact ih5 _ _ _ _ _ _)
      | (with_reducible exact ih6 _ _ _ _ _ _ _ _)
      | (with_reducible exact ih7 _ _ _ _ _ _ _ _ _ _)
      | (with_reducible exact ih8 _ _ _ _)
      | (with_reducible exact ih9 _ _ _ _ _ _)
      | (with_reducible exact impl_Shares.mono _ _ _)
      | (with_reducible exact impl_costsOk.mono _ _)
      | (with_reducible exact impl_sumOf.mono _ _)
      | (with_reducible exact LeO.refl _)
      | (with_reducible exact LeO.none _)
      | (with_reducible refine LeO.ite ?_ ?_)
      | (with_reducible refine LeO.bind ?_ (fun _ => ?_))
      | exact ih0 _ _ _ _
      | exact ih1 _ _ _ _ _ _ _
      | exact ih2 _ _ _ _ _ _ _ _ _ _
      | exact ih3 _ _ _ _ _ _ _ _ _ _ _ _
      | exact ih4 _ _ _ _ _ _ _ _ _ _
      | exact ih5 _ _ _ _ _ _
      | exact ih6 _ _ _ _ _ _ _ _
      | exact ih7 _ _ _ _ _ _ _ _ _ _
      | exact ih8 _ _ _ _
      | exact ih9 _ _ _ _ _ _
      | exact impl_Shares.mono _ _ _
      | exact impl_costsOk.mono _ _
      | exact impl_sumOf.mono _ _
      | exact LeO.none _
      | refine LeO.ite ?_ ?_
      | refine LeO.bind ?_ (fun _ => ?_)
    · intro y0 y1 y2 y3 y4 y5 y6 y7 y8 y9
      unfold impl_mutual.l5
      repeat' first
      | (with_reducible exact ih0 _ _ _ _)
      | (with_reducible exact ih1 _ _ _ _ _ _ _)
      | (with_reducible exact ih2 _ _ _ _ _ _ _ _ _ _)
      | (with_reducible exact ih3 _ _ _ _ _ _ _ _ _ _ _ _)
      | (with_reducible exact ih4 _ _ _ _ _ _ _ _ _ _)
      | (with_reducible exact ih5 _ _ _ _ _ _)
      | (with_reducible exact ih6 _ _ _ _ _ _ _ _)
      | (with_reducible exact ih7 _ _ _ _ _ _ _ _ _ _)
      | (with_reducible exact ih8 _ _ _ _)
      | (with_reducible exact ih9 _ _ _ _ _ _)
      | (with_reducible exact impl_Shares.mono _ _ _)
      | (with_reducible exact impl_costsOk.mono _ _)
      | (with_reducible exact impl_sumOf.mono _ _)
      | (with_reducible exact LeO.refl _)
      | (with_reducible exact LeO.none _)
      | (with_reducible refine LeO.ite ?_ ?_)
      | (with_reducible refine LeO.bind ?_ (fun _ => ?_))
      | exact ih0 _ _ _ _
      | exact ih1 _ _ _ _ _ _ _
      | exact ih2 _ _ _ _ _ _ _ _ _ _
      | exact ih3 _ _ _ _ _ _ _ _ _ _ _ _
      | exact ih4 _ _ _ _ _ _ _ _ _ _
      | exact ih5 _ _ _ _ _ _
      | exact ih6 _ _ _ _ _ _ _ _
      | exact ih7 _ _ _ _ _ _ _ _ _ _
      | exact ih8 _ _ _ _
      | exact ih9 _ _ _ _ _ _
      | exact impl_Shares.mono _ _ _
      | exact impl_costsOk.mono _ _
      | exact impl_sumOf.mono _ _
      | exact LeO.none _
      | refine LeO.ite ?_ ?_
      | refine LeO.bind ?_ (fun _ => ?_)
    · intro y0 y1 y2 y3
      unfold impl_mutual.l6
      repeat' first
      | (with_reducible exact ih0 _ _ _ _)
      | (with_reducible exact ih1 _ _ _ _ _ _ _)
      | (with_reducible exact ih2 _ _ _ _ _ _ _ _ _ _)
      | (with_reducible exact ih3 _ _ _ _ _ _ _ _ _ _ _ _)
      | (with_reducible exact ih4 _ _ _ _ _ _ _ _ _ _)
      | (with_reducible exact ih5 _ _ _ _ _ _)
      | (with_reducible exact ih6 _ _ _ _ _ _ _ _)
      | (with_reducible exact ih7 _ _ _ _ _ _ _ _ _ _)
      | (with_reducible exact ih8 _ _ _ _)
      | (with_reducible exact ih9 _ _ _ _ _ _)
      | (with_reducible exact impl_Shares.mono _ _ _)
      | (with_reducible exact impl_costsOk.mono _ _)
      | (with_reducible exact impl_sumOf.mono _ _)
      | (with_reducible exact LeO.refl _)
      | (with_reducible exact LeO.none _)
      | (with_reducible refine LeO.ite ?_ ?_)
      | (with_reducible refine LeO.bind ?_ (fun _ => ?_))
      | exact ih0 _ _ _ _
      | exact ih1 _ _ _ _ _ _ _
      | exact ih2 _ _ _ _ _ _ _ _ _ _
      | exact ih3 _ _ _ _ _ _ _ _ _ _ _ _
      | exact ih4 _ _ _ _ _ _ _ _ _ _
      | exact ih5 _ _ _ _ _ _
      | exact ih6 _ _ _ _ _ _ _ _
      | exact ih7 _ _ _ _ _ _ _ _ _ _
      | exact ih8 _ _ _ _
      | exact ih9 _ _ _ _ _ _
      | exact impl_Shares.mono _ _ _
      | exact impl_costsOk.mono _ _
      | exact impl_sumOf.mono _ _
      | exact LeO.none _
      | refine LeO.ite ?_ ?_
      | refine LeO.bind ?_ (fun _ => ?_)
    · intro y0 y1 y2 y3 y4 y5
      unfold impl_mutual.l7
      repeat' first
      | (with_reducible exact ih0 _ _ _ _)
      | (with_reducible exact ih1 _ _ _ _ _ _ _)
      | (with_reducible exact ih2 _ _ _ _ _ _ _ _ _ _)
      | (with_reducible exact ih3 _ _ _ _ _ _ _ _ _ _ _ _)
      | (with_reducible exact ih4 _ _ _ _ _ _ _ _ _ _)
      | (with_reducible exact ih5 _ _ _ _ _ _)
      | (with_reducible exact ih6 _ _ _ _ _ _ _ _)
      | (with_reducible exact ih7 _ _ _ _ _ _ _ _ _ _)
      | (with_reducible exact ih8 _ _ _ _)
      | (with_reducible exact ih9 _ _ _ _ _ _)
      | (with_reducible exact impl_Shares.mono _ _ _)
      | (with_reducible exact impl_costsOk.mono _ _)
      | (with_reducible exact impl_sumOf.mono _ _)
      | (with_reducible exact LeO.refl _)
      | (with_reducible exact LeO.none _)
      | (with_reducible refine LeO.ite ?_ ?_)
      | (with_reducible refine LeO.bind ?_ (fun _ => ?_))
      | exact ih0 _ _ _ _
      | exact ih1 _ _ _ _ _ _ _
      | exact ih2 _ _ _ _ _ _ _ _ _ _
      | exact ih3 _ _ _ _ _ _ _ _ _ _ _ _
      | exact ih4 _ _ _ _ _ _ _ _ _ _
      | exact ih5 _ _ _ _ _ _
      | exact ih6 _ _ _ _ _ _ _ _
      | exact ih7 _ _ _ _ _ _ _ _ _ _
      | exact ih8 _ _ _ _
      | exact ih9 _ _ _ _ _ _
      | exact impl_Shares.mono _ _ _
      | exact impl_costsOk.mono _ _
      | exact impl_sumOf.mono _ _
      | exact LeO.none _
      | refine LeO.ite ?_ ?_
      | refine LeO.bind ?_ (fun _ => ?_)
theorem impl_mutual.mono : ∀ a0 a1 a2 k, LeO (impl_mutual.f k a0 a1 a2) (impl_mutual.f (k + 1) a0 a1 a2) := by
 intro a0 a1 a2 k
 obtain ⟨ih0, ih1, ih2, ih3, ih4, ih5, ih6, ih7, ih8, ih9⟩ := impl_mutual.mono_l k
 unfold impl_mutual.f
 repeat' first
     | (with_reducible exact ih0 _ _ _ _)
     | (with_reducible exact ih1 _ _ _ _ _ _ _)
     | (with_reducible exact ih2 _ _ _ _ _ _ _ _ _ _)
     | (with_reducible exact ih3 _ _ _ _ _ _ _ _ _ _ _ _)
     | (with_reducible exact ih4 _ _ _ _ _ _ _ _ _ _)
     | (with_reducible exact ih5 _ _ _ _ _ _)
     | (with_reducible exact ih6 _ _ _ _ _ _ _ _)
     | (with_reducible exact ih7 _ _ _ _ _ _ _ _ _ _)
     | (with_reducible exact ih8 _ _ _ _)
     | (with_reducible exact ih9 _ _ _ _ _ _)
     | (with_reducible exact impl_Shares.mono _ _ _)
     | (with_reducible exact impl_costsOk.mono _ _)
     | (with_reducible exact impl_sumOf.mono _ _)
     | (with_reducible exact LeO.refl _)
     | (with_reducible exact LeO.none _)
     | (with_reducible refine LeO.ite ?_ ?_)
     | (with_reducible refine LeO.bind ?_ (fun _ => ?_))
     | exact ih0 _ _ _ _
     | exact ih1 _ _ _ _ _ _ _
     | exact ih2 _ _ _ _ _ _ _ _ _ _
     | exact ih3 _ _ _ _ _ _ _ _ _ _ _ _
     | exact ih4 _ _ _ _ _ _ _ _ _ _
     | exact ih5 _ _ _ _ _ _
     | exact ih6 _ _ _ _ _ _ _ _
     | exact ih7 _ _ _ _ _ _ _ _ _ _
     | exact ih8 _ _ _ _
     | exact ih9 _ _ _ _ _ _
     | exact impl_Shares.mono _ _ _
     | exact impl_costsOk.mono _ _
     | exact impl_sumOf.mono _ _
     | exact LeO.none _
     | refine LeO.ite ?_ ?_
     | refine LeO.bind ?_ (fun _ => ?_)
def impl_mutual.T20 : Bool × List (List Nat × List Nat) := (true, [([], []), ([], []), ([], []), ([], []), ([2, 3], [2, 3]), ([4], [4]), ([5], [5]), ([0], [0]), ([7, 1, 0, 1, 2, 3, 4, 5, 6], [1, 7]), ([8, 6, 0, 1, 2, 3, 4, 5, 6], [6, 8])])
def impl_mutual.B20 : List Nat := [0, 0, 0, 0, 12, 28, 60, 1, 255, 511]
theorem impl_mutual.tab20 : rtab .any (opsOf Try.f28 20) = impl_mutual.T20 := by kernel_rfl
theorem impl_mutual.bits20 : waitsOk impl_mutual.T20.2 impl_mutual.B20 = true := by kernel_rfl
def impl_mutual.T37 : Bool × List (List Nat × List Nat) := (true, [([], []), ([], []), ([], []), ([], []), ([2, 3], [2, 3]), ([4], [4]), ([], []), ([5, 6], [5, 6]), ([7], [7]), ([0], [0]), ([9, 1, 0, 1, 2, 3, 4, 5, 6, 7, 8], [1, 9]), ([10, 8, 0, 1, 2, 3, 4, 5, 6, 7, 8], [8, 10])])
def impl_mutual.B37 : List Nat := [0, 0, 0, 0, 12, 28, 0, 124, 252, 1, 1023, 2047]
theorem impl_mutual.tab37 : rtab .any (opsOf Try.f28 37) = impl_mutual.T37 := by kernel_rfl
theorem impl_mutual.bits37 : waitsOk impl_mutual.T37.2 impl_mutual.B37 = true := by kernel_rfl
set_option maxHeartbeats 8000000 in
set_option maxRecDepth 100000 in
theorem impl_mutual.calls (k : Nat) (A0 : Option Addr) (c0 : Nat) (l0 : List Int) (a1 : Int) (A2 : Option Addr) (c2 : Nat) (l2 : List (List Int)) (r1 : List (List Int)) (r2 : Bool) (w : World) (hr0 : Kd.C (Kd.int .i64) w A0 l0.length l0) (hc0 : l0.length ≤ c0) (hr2 : Kd.C (Kd.slice 3 (Kd.int .i64)) w A2 l2.length l2) (hc2 : l2.length ≤ c2) (h : impl_mutual.f k l0 a1 l2 = some (r1, r2)) :
    Calls Try.prog 28 #[.slice A0 l0.length c0, .int .i64 a1, .slice A2 l2.length c2] w fun e w' => ∃ v0_ : Value, e = .returned (.tuple #[v0_, .bool r2]) ∧ Kd.S (Kd.slice 3 (Kd.int .i64)) 24 w' w.heap.size (fun _ => True) v0_ r1 ∧ Below w.heap.size w w' := by
 have HR0 := Aside0.mk hr0; have HC0 := Aside0.mk hc0; clear hr0 hc0; have HR2 := Aside0.mk hr2; have HC2 := Aside0.mk hc2; clear hr2 hc2; have HB := aZ (Below.refl w.heap.size w); have H : ((impl_costsOk.f k l0).bind fun t398 => (if t398 = true then ((impl_between.f a1 1 3).bind fun t399 => (if t399 = true then (if a1 ≥ (l0.length : Int) then (impl_mutual.j0 k l0 a1 l2 true) else (impl_mutual.j0 k l0 a1 l2 ((l2.length : Int) != a1))) else (impl_mutual.j0 k l0 a1 l2 true))) else (impl_mutual.j0 k l0 a1 l2 true))) = some (r1, r2) := h; clear h; have HC4 := Aside0.mk H; clear H; go_enter Try.func28, Try.ntmps28
 go_upto_region 1 with (fail)
 go_cut [43] (fun v43 wc => ∃ (kq : Nat) (x43_3 : Bool), v43 = .bool x43_3 ∧ Aside0 (impl_mutual.j0 kq l0 a1 l2 x43_3 = some (r1, r2)) ∧ Aside0 (kq ≤ k) ∧ Aside0 (Below w.heap.size w wc))
 case first =>
  have H := HC4.out; clear HC4; replace H := Option.bind_eq_some_iff.mp H; obtain ⟨t398, A50, H⟩ := H; replace H : (if t398 = true then ((impl_between.f a1 1 3).bind fun t399 => (if t399 = true then (if a1 ≥ (l0.length : Int) then (impl_mutual.j0 k l0 a1 l2 true) else (impl_mutual.j0 k l0 a1 l2 ((l2.length : Int) != a1))) else (impl_mutual.j0 k l0 a1 l2 true))) else (impl_mutual.j0 k l0 a1 l2 true)) = some (r1, r2) := H; have A5 := Aside0.mk A50; clear A50
  by_cases c6 : t398 = true
  rotate_left
  ·replace c6 := Bool.eq_false_iff.mpr c6; subst c6; rw [if_neg Bool.false_ne_true] at H; have H' := Aside0.mk H; clear H
   go_wp2_with (first | ((with_reducible refine gate_callee (f := 50) rfl ?_); refine goesL_ (some 25) rfl rfl Try.func50 kZ rfl #[.slice A0 l0.length c0] rfl tZA ?_; (with_reducible refine (impl_costsOk.calls k _ _ l0 false _ ?side1 ?side2 A5.out).mono ?_); (case side1 => repeat (first | exact (Kd.C_below HR0.out HB.out) | (with_reducible refine Kd.C_alloc ?_ _) | (with_reducible refine Kd.C_drewN ?_ _) | (with_reducible refine Kd.C_drew ?_))); (case side2 => exact HC0.out); rintro e w' ⟨rfl, ⟨nd, rfl⟩⟩; refine ⟨_, rfl, ?_⟩))
   go_meet
   case rel => exact ⟨_, (true), tZB, H', ⟨by first | omega | exact Nat.le_refl _⟩, ⟨bZ⟩⟩
  subst c6; rw [if_pos rfl] at H; replace H := Option.bind_eq_some_iff.mp H; obtain ⟨t399, A70, H⟩ := H; replace H : (if t399 = true then (if a1 ≥ (l0.length : Int) then (impl_mutual.j0 k l0 a1 l2 true) else (impl_mutual.j0 k l0 a1 l2 ((l2.length : Int) != a1))) else (impl_mutual.j0 k l0 a1 l2 true)) = some (r1, r2) := H; have A7 := Aside0.mk A70; clear A70
  by_cases c8 : t399 = true
  rotate_left
  ·replace c8 := Bool.eq_false_iff.mpr c8; subst c8; rw [if_neg Bool.false_ne_true] at H; have H' := Aside0.mk H; clear H
   go_wp2_with (first | ((with_reducible refine gate_callee (f := 50) rfl ?_); refine goesL_ (some 25) rfl rfl Try.func50 kZ rfl #[.slice A0 l0.length c0] rfl tZA ?_; (with_reducible refine (impl_costsOk.calls k _ _ l0 true _ ?side1 ?side2 A5.out).mono ?_); (case side1 => repeat (first | exact (Kd.C_below HR0.out HB.out) | (with_reducible refine Kd.C_alloc ?_ _) | (with_reducible refine Kd.C_drewN ?_ _) | (with_reducible refine Kd.C_drew ?_))); (case side2 => exact HC0.out); rintro e w' ⟨rfl, ⟨nd, rfl⟩⟩; refine ⟨_, rfl, ?_⟩) | (go_at_call 51; (with_reducible refine (impl_between.calls a1 1 3 false _ A7.out).mono ?_); rintro e w' ⟨rfl, ⟨nd, rfl⟩⟩))
   go_meet
   case rel => exact ⟨_, (true), tZB, H', ⟨by first | omega | exact Nat.le_refl _⟩, ⟨bZ⟩⟩
  subst c8; rw [if_pos rfl] at H
  by_cases c9 : a1 ≥ (l0.length : Int)
  ·rw [if_pos c9] at H; have c9b0 : decide ((l0.length : Int) ≤ a1) = true := decide_eq_true c9; clear c9; (first | rw [c9b0] | (simp only [i64_w, i32_w]; rw [c9b0]) | skip); have H' := Aside0.mk H; clear H
   go_wp2_with (first | ((with_reducible refine gate_callee (f := 50) rfl ?_); refine goesL_ (some 25) rfl rfl Try.func50 kZ rfl #[.slice A0 l0.length c0] rfl tZA ?_; (with_reducible refine (impl_costsOk.calls k _ _ l0 true _ ?side1 ?side2 A5.out).mono ?_); (case side1 => repeat (first | exact (Kd.C_below HR0.out HB.out) | (with_reducible refine Kd.C_alloc ?_ _) | (with_reducible refine Kd.C_drewN ?_ _) | (with_reducible refine Kd.C_drew ?_))); (case side2 => exact HC0.out); rintro e w' ⟨rfl, ⟨nd, rfl⟩⟩; refine ⟨_, rfl, ?_⟩) | (go_at_call 51; (with_reducible refine (impl_between.calls a1 1 3 true _ A7.out).mono ?_); rintro e w' ⟨rfl, ⟨nd, rfl⟩⟩))
   go_meet
   case rel => exact ⟨_, (true), tZB, H', ⟨by first | omega | exact Nat.le_refl _⟩, ⟨bZ⟩⟩
  rw [if_neg c9] at H; have c9b0 : decide ((l0.length : Int) ≤ a1) = false := decide_eq_false c9; clear c9; (first | rw [c9b0] | (simp only [i64_w, i32_w]; rw [c9b0]) | skip); have H' := Aside0.mk H; clear H
  go_wp2_with (first | ((with_reducible refine gate_callee (f := 50) rfl ?_); refine goesL_ (some 25) rfl rfl Try.func50 kZ rfl #[.slice A0 l0.length c0] rfl tZA ?_; (with_reducible refine (impl_costsOk.calls k _ _ l0 true _ ?side1 ?side2 A5.out).mono ?_); (case side1 => repeat (first | exact (Kd.C_below HR0.out HB.out) | (with_reducible refine Kd.C_alloc ?_ _) | (with_reducible refine Kd.C_drewN ?_ _) | (with_reducible refine Kd.C_drew ?_))); (case side2 => exact HC0.out); rintro e w' ⟨rfl, ⟨nd, rfl⟩⟩; refine ⟨_, rfl, ?_⟩) | (go_at_call 51; (with_reducible refine (impl_between.calls a1 1 3 true _ A7.out).mono ?_); rintro e w' ⟨rfl, ⟨nd, rfl⟩⟩))
  go_meet
  case rel => exact ⟨_, (((l2.length : Int) != a1)), tZB, H', ⟨by first | omega | exact Nat.le_refl _⟩, ⟨bZ⟩⟩
 case rest =>
  clear HC4; obtain ⟨kq, x43_3, rfl, HA, HJ3, HB⟩ := hcut
  cases kq with
  | zero => exact absurd HA.out (by simp [impl_mutual.j0])
  | succ kj3 =>
   have H := HA.out; clear HA; simp only [impl_mutual.j0] at H
   by_cases c10 : x43_3 = true
   ·subst c10; rw [if_pos rfl] at H; simp only [Option.some.injEq, Prod.mk.injEq] at H; obtain ⟨rfl, rfl⟩ := H; go_wp2; go_ret2; exact ⟨_, tZC, by first | exact Kd.S_nil _ _ _ _ _ | exact Kd.N_nil _ _ _ _ _ | exact Kd.V_nil _ _ _ _ _ | exact Kd.Q_nil _ _ _ _ _ | exact Kd.R_nil _ _ _ _ _, bZ⟩
   replace c10 := Bool.eq_false_iff.mpr c10; subst c10; rw [if_neg Bool.false_ne_true] at H; obtain ⟨y400, hy400⟩ : ∃ y_ : List Int, y_ = ((List.replicate 9 0 : List Int)) := ⟨_, rfl⟩; replace H : (impl_mutual.l0 kj3 l0 a1 l2 y400 l2 (l2.length : Int) 0) = some (r1, r2) := by first | (rw [hy400]; with_reducible exact H) | (have H2_ := (Option.bind_some _ _).symm.trans H; rw [hy400]; with_reducible exact H2_) | (have H2_ := (Option.bind_some _ _).symm.trans H; with_reducible exact H2_) | with_reducible exact H | (rw [hy400]; exact H) | exact H
   have Ny400 := Aside0.mk hy400; clear hy400; have H' := Aside0.mk H; clear H
   go_wp2_with (first | ((with_reducible refine gate_dst (N := 8) rfl ?_); (try (refine gate_guard (by rfl) ?_; dsimp only)); refine A_make (Kd.int .i64) (Value.int .i64) (fun _ => rfl) rfl 79 ?hg (N := 8) ?hd (xs := (List.replicate 9 0 : List Int)) (cs := #[.int .i64 0, .int .i64 0, .int .i64 0, .int .i64 0, .int .i64 0, .int .i64 0, .int .i64 0, .int .i64 0, .int .i64 0]) ?hr rfl (by decide) ?_; (case hd => rfl); (case hg => rfl); (case hr => first | (go_simp; done) | (go_simp; rfl)); intro v401 w11 ho12 hb; rw [← Ny400.out] at ho12; have HO402 := aZ (Kd.R_lower ho12 (below_size (lZB HB.out))); replace HB := aZ (below_step (lZB HB.out) hb); clear hb ho12))
   go_loopg [46] kj3 (fun kq v46 w' => ∃ (x8_2 : List Int) (x46_2 : Int), v46 = .int .i64 x46_2 ∧ Aside0 (impl_mutual.l0 kq l0 a1 l2 x8_2 l2 (l2.length : Int) x46_2 = some (r1, r2)) ∧ Aside0 (kq ≤ kj3) ∧ Aside0 (Kd.R (Kd.int .i64) 79 w' w.heap.size (fun _ => True) v401 x8_2) ∧ Aside0 (Below w.heap.size w w'))
   case atStart => exact ⟨(y400), (0), tZB, H', ⟨Nat.le_refl _⟩, ⟨lZR HO402.out⟩, ⟨bZ⟩⟩
   case round =>
    clear H'; obtain ⟨x8_2, x46_2, rfl, HA, HK2, HO_8, HB⟩ := hrel
    cases gk with
    | zero => exact absurd HA.out (by simp [impl_mutual.l0])
    | succ k2 =>
     have H := HA.out; clear HA; simp only [impl_mutual.l0] at H
     by_cases c13 : x46_2 < (l2.length : Int)
     ·rw [if_pos c13] at H; have c13b0 := decide_eq_true c13; clear c13
      by_cases c14 : 0 ≤ x46_2
      rotate_left
      ·rw [if_neg c14] at H; exact absurd H (by simp)
      rw [if_pos c14] at H; have c14b0 := decide_eq_true c14; clear c14
      by_cases c15 : x46_2 < (l2.length : Int)
      rotate_left
      ·rw [if_neg c15] at H; exact absurd H (by simp)
      rw [if_pos c15] at H; have c15b0 := decide_eq_true c15; clear c15; have HC16 := Aside0.mk H; clear H; have p403 : 0 ≤ (x46_2 : Int) := of_decide_eq_true tZE; have q403 : x46_2 < (l2.length : Int) := of_decide_eq_true tZE; obtain ⟨ad403, A403_0, c403_0, e403, hx403_0, hl403_0, hi403_0⟩ := at_L2 HR2.out x46_2 p403 q403; have hz403_0 := hx403_0
      cases e403
      replace hx403_0 := cZ HB hx403_0; have HR403_0 := Aside0.mk hi403_0; have HC403_0 := Aside0.mk hl403_0; clear hi403_0 hl403_0; replace p403 := eq_true p403; replace q403 := eq_true q403
      go_upto_region 7 with (fail)
      go_cut [62] (fun v62 wc => ∃ (kq : Nat) (x62_15 : Bool), v62 = .bool x62_15 ∧ Aside0 (impl_mutual.j2 kq l0 a1 l2 x8_2 x46_2 (rd_L2 l2 x46_2) l2 (l2.length : Int) x46_2 x62_15 = some (r1, r2)) ∧ Aside0 (kq ≤ k2) ∧ Aside0 (Kd.R (Kd.int .i64) 79 wc w.heap.size (fun _ => True) v401 x8_2) ∧ Aside0 (Below w.heap.size w wc))
      case first =>
       have H := HC16.out; clear HC16
       by_cases c17 : ((rd_L2 l2 x46_2).length : Int) = (l0.length : Int)
       rotate_left
       ·rw [if_neg c17] at H; have c17b0 : (((rd_L2 l2 x46_2).length : Int) == (l0.length : Int)) = false := beq_eq_false_iff_ne.mpr c17; have c17b1 : (((rd_L2 l2 x46_2).length : Int) != (l0.length : Int)) = true := bne_iff_ne.mpr c17; have c17b2 : ((rd_L2 l2 x46_2).length == l0.length) = false := by first | simpa using c17 | (simp at c17 ⊢; omega)
        (first | rw [c17b0] | (simp only [i64_w, i32_w]; rw [c17b0]) | skip); have H' := Aside0.mk H; clear H; go_wp2; go_meet
        case rel => exact ⟨_, (true), tZB, H', ⟨by have := HJ3.out; have := HK2.out; first | omega | exact Nat.le_refl _⟩, ⟨lZR HO_8.out⟩, ⟨bZ⟩⟩
       rw [if_pos c17] at H; have c17b0 : (((rd_L2 l2 x46_2).length : Int) == (l0.length : Int)) = true := beq_iff_eq.mpr c17; have c17b1 : (((rd_L2 l2 x46_2).length : Int) != (l0.length : Int)) = false := bne_eq_false_iff_eq.mpr c17; have c17b2 : ((rd_L2 l2 x46_2).length == l0.length) = true := by first | simpa using c17 | (simp at c17 ⊢; omega)
       clear c17; (first | rw [c17b0] | (simp only [i64_w, i32_w]; rw [c17b0]) | skip)
       by_cases c18 : x46_2 < ((rd_L2 l2 x46_2).length : Int)
       rotate_left
       ·rw [if_neg c18] at H; exact absurd H (by simp)
       rw [if_pos c18] at H; have c18b0 := decide_eq_true c18; clear c18; have H' := Aside0.mk H; clear H; have p404 : 0 ≤ (x46_2 : Int) := of_decide_eq_true tZE; have q404 : x46_2 < ((rd_L2 l2 x46_2).length : Int) := of_decide_eq_true tZE; obtain ⟨ad404, e404, hx404_0⟩ := Kd.at_int HR403_0.out x46_2 p404 q404
       cases e404
       replace hx404_0 := cZ HB hx404_0; replace p404 := eq_true p404; replace q404 := eq_true q404; go_wp2; go_meet
       case rel => exact ⟨_, (((rd (rd_L2 l2 x46_2) x46_2) != 0)), tZB, H', ⟨by have := HJ3.out; have := HK2.out; first | omega | exact Nat.le_refl _⟩, ⟨lZR HO_8.out⟩, ⟨bZ⟩⟩
      case rest =>
       clear HC16; (try clear c13b0 c14b0 c15b0 hx403_0 p403 q403); obtain ⟨kq, x62_15, rfl, HA, HJ15, HO_8, HB⟩ := hcut
       cases kq with
       | zero => exact absurd HA.out (by simp [impl_mutual.j2])
       | succ kj15 =>
        have H := HA.out; clear HA; simp only [impl_mutual.j2] at H
        by_cases c19 : x62_15 = true
        ·subst c19; rw [if_pos rfl] at H; simp only [Option.some.injEq, Prod.mk.injEq] at H; obtain ⟨rfl, rfl⟩ := H; go_wp2; go_ret2; exact ⟨_, tZC, by first | exact Kd.S_nil _ _ _ _ _ | exact Kd.N_nil _ _ _ _ _ | exact Kd.V_nil _ _ _ _ _ | exact Kd.Q_nil _ _ _ _ _ | exact Kd.R_nil _ _ _ _ _, bZ⟩
        replace c19 := Bool.eq_false_iff.mpr c19; subst c19; rw [if_neg Bool.false_ne_true] at H; have H' := Aside0.mk H; clear H; go_wp2
        go_loopg [65] kj15 (fun kq v65 w' => ∃ (x65_4 : Int), v65 = .int .i64 x65_4 ∧ Aside0 (impl_mutual.l1 kq l0 a1 l2 x8_2 x46_2 (rd_L2 l2 x46_2) l2 (l2.length : Int) x46_2 (rd_L2 l2 x46_2) ((rd_L2 l2 x46_2).length : Int) x65_4 = some (r1, r2)) ∧ Aside0 (kq ≤ kj15) ∧ Aside0 (Kd.R (Kd.int .i64) 79 w' w.heap.size (fun _ => True) v401 x8_2) ∧ Aside0 (Below w.heap.size w w'))
        case atStart => exact ⟨(0), tZB, H', ⟨Nat.le_refl _⟩, ⟨lZR HO_8.out⟩, ⟨bZ⟩⟩
        case round =>
         clear H'; (try clear c13b0 c14b0 c15b0 hx403_0 p403 q403); obtain ⟨x65_4, rfl, HA, HK4, HO_8, HB⟩ := hrel
         cases gk with
         | zero => exact absurd HA.out (by simp [impl_mutual.l1])
         | succ k4 =>
          have H := HA.out; clear HA; simp only [impl_mutual.l1] at H
          by_cases c20 : x65_4 < ((rd_L2 l2 x46_2).length : Int)
          ·rw [if_pos c20] at H; have c20b0 := decide_eq_true c20; clear c20
           by_cases c21 : 0 ≤ x65_4
           rotate_left
           ·rw [if_neg c21] at H; exact absurd H (by simp)
           rw [if_pos c21] at H; have c21b0 := decide_eq_true c21; clear c21
           by_cases c22 : x65_4 < ((rd_L2 l2 x46_2).length : Int)
           rotate_left
           ·rw [if_neg c22] at H; exact absurd H (by simp)
           rw [if_pos c22] at H; have c22b0 := decide_eq_true c22; clear c22; replace H := Option.bind_eq_some_iff.mp H; obtain ⟨t406, A230, H⟩ := H; replace H : (if t406 = true then (impl_mutual.l1 k4 l0 a1 l2 x8_2 x46_2 (rd_L2 l2 x46_2) l2 (l2.length : Int) x46_2 (rd_L2 l2 x46_2) ((rd_L2 l2 x46_2).length : Int) (wrap64 (x65_4 + 1))) else (some (([] : List (List Int)), false))) = some (r1, r2) := H; have A23 := Aside0.mk A230; clear A230
           by_cases c24 : t406 = true
           rotate_left
           ·replace c24 := Bool.eq_false_iff.mpr c24; subst c24; rw [if_neg Bool.false_ne_true] at H; simp only [Option.some.injEq, Prod.mk.injEq] at H; obtain ⟨rfl, rfl⟩ := H; have p405 : 0 ≤ (x65_4 : Int) := of_decide_eq_true tZE; have q405 : x65_4 < ((rd_L2 l2 x46_2).length : Int) := of_decide_eq_true tZE; obtain ⟨ad405, e405, hx405_0⟩ := Kd.at_int HR403_0.out x65_4 p405 q405
            cases e405
            replace hx405_0 := cZ HB hx405_0; replace p405 := eq_true p405; replace q405 := eq_true q405
            go_wp2_with (first | ((with_reducible refine gate_callee (f := 51) rfl ?_); refine goesL_ (some 70) rfl rfl Try.func51 kZ rfl #[.int .i64 (rd (rd_L2 l2 x46_2) x65_4), .int .i64 0, .int .i64 100] rfl tZA ?_; (with_reducible refine (impl_between.calls (rd (rd_L2 l2 x46_2) x65_4) 0 100 false _ A23.out).mono ?_); rintro e w' ⟨rfl, ⟨nd, rfl⟩⟩; refine ⟨_, rfl, ?_⟩))
            go_ret2; exact ⟨_, tZC, by first | exact Kd.S_nil _ _ _ _ _ | exact Kd.N_nil _ _ _ _ _ | exact Kd.V_nil _ _ _ _ _ | exact Kd.Q_nil _ _ _ _ _ | exact Kd.R_nil _ _ _ _ _, bZ⟩
           subst c24; rw [if_pos rfl] at H; have H' := Aside0.mk H; clear H; have p405 : 0 ≤ (x65_4 : Int) := of_decide_eq_true tZE; have q405 : x65_4 < ((rd_L2 l2 x46_2).length : Int) := of_decide_eq_true tZE; obtain ⟨ad405, e405, hx405_0⟩ := Kd.at_int HR403_0.out x65_4 p405 q405
           cases e405
           replace hx405_0 := cZ HB hx405_0; replace p405 := eq_true p405; replace q405 := eq_true q405
           go_wp2_with (first | ((with_reducible refine gate_callee (f := 51) rfl ?_); refine goesL_ (some 70) rfl rfl Try.func51 kZ rfl #[.int .i64 (rd (rd_L2 l2 x46_2) x65_4), .int .i64 0, .int .i64 100] rfl tZA ?_; (with_reducible refine (impl_between.calls (rd (rd_L2 l2 x46_2) x65_4) 0 100 true _ A23.out).mono ?_); rintro e w' ⟨rfl, ⟨nd, rfl⟩⟩; refine ⟨_, rfl, ?_⟩))
           go_roundg k4
           case measure => have := HJ3.out; have := HK2.out; have := HJ15.out; have := HK4.out; omega
           case rel => exact ⟨(wrap64 (x65_4 + 1)), tZB, H', ⟨by have := HJ3.out; have := HK2.out; have := HJ15.out; have := HK4.out; omega⟩, ⟨lZR HO_8.out⟩, ⟨bZ⟩⟩
          rw [if_neg c20] at H; have c20b0 := decide_eq_false c20; clear c20; replace H := Option.bind_eq_some_iff.mp H; obtain ⟨t407, A250, H⟩ := H; replace H : (if t407 = 100 then (impl_mutual.l2 k4 l0 a1 l2 x8_2 x46_2 (rd_L2 l2 x46_2) 0 l2 (l2.length : Int) x46_2) else (some (([] : List (List Int)), false))) = some (r1, r2) := H; have A25 := Aside0.mk A250; clear A250
          by_cases c26 : t407 = 100
          rotate_left
          ·rw [if_neg c26] at H; have c26b0 : (t407 == 100) = false := beq_eq_false_iff_ne.mpr c26; have c26b1 : (t407 != 100) = true := bne_iff_ne.mpr c26; simp only [Option.some.injEq, Prod.mk.injEq] at H; obtain ⟨rfl, rfl⟩ := H
           go_wp2_with (first | ((with_reducible refine gate_callee (f := 52) rfl ?_); refine goesL_ (some 74) rfl rfl Try.func52 kZ rfl #[.slice A403_0 (rd_L2 l2 x46_2).length c403_0] rfl tZA ?_; (with_reducible refine (impl_sumOf.calls k4 _ _ (rd_L2 l2 x46_2) t407 _ ?side1 ?side2 A25.out).mono ?_); (case side1 => repeat (first | exact (Kd.C_below HR403_0.out HB.out) | (with_reducible refine Kd.C_alloc ?_ _) | (with_reducible refine Kd.C_drewN ?_ _) | (with_reducible refine Kd.C_drew ?_))); (case side2 => exact HC403_0.out); rintro e w' ⟨rfl, ⟨nd, rfl⟩⟩; refine ⟨_, rfl, ?_⟩))
           go_ret2; exact ⟨_, tZC, by first | exact Kd.S_nil _ _ _ _ _ | exact Kd.N_nil _ _ _ _ _ | exact Kd.V_nil _ _ _ _ _ | exact Kd.Q_nil _ _ _ _ _ | exact Kd.R_nil _ _ _ _ _, bZ⟩
          rw [if_pos c26] at H; have c26b0 : (t407 == 100) = true := beq_iff_eq.mpr c26; have c26b1 : (t407 != 100) = false := bne_eq_false_iff_eq.mpr c26; clear c26; have H' := Aside0.mk H; clear H
          go_wp2_with (first | ((with_reducible refine gate_callee (f := 52) rfl ?_); refine goesL_ (some 74) rfl rfl Try.func52 kZ rfl #[.slice A403_0 (rd_L2 l2 x46_2).length c403_0] rfl tZA ?_; (with_reducible refine (impl_sumOf.calls k4 _ _ (rd_L2 l2 x46_2) t407 _ ?side1 ?side2 A25.out).mono ?_); (case side1 => repeat (first | exact (Kd.C_below HR403_0.out HB.out) | (with_reducible refine Kd.C_alloc ?_ _) | (with_reducible refine Kd.C_drewN ?_ _) | (with_reducible refine Kd.C_drew ?_))); (case side2 => exact HC403_0.out); rintro e w' ⟨rfl, ⟨nd, rfl⟩⟩; refine ⟨_, rfl, ?_⟩))
          go_loopg [13] k4 (fun kq v13 w' => ∃ (x8_5 : List Int) (x13_5 : Int), v13 = .int .i64 x13_5 ∧ Aside0 (impl_mutual.l2 kq l0 a1 l2 x8_5 x46_2 (rd_L2 l2 x46_2) x13_5 l2 (l2.length : Int) x46_2 = some (r1, r2)) ∧ Aside0 (kq ≤ k4) ∧ Aside0 (Kd.R (Kd.int .i64) 79 w' w.heap.size (fun _ => True) v401 x8_5) ∧ Aside0 (Below w.heap.size w w'))
          case atStart => exact ⟨(x8_2), (0), tZB, H', ⟨Nat.le_refl _⟩, ⟨lZR HO_8.out⟩, ⟨bZ⟩⟩
          case round =>
           clear H'; (try clear c13b0 c14b0 c15b0 c20b0 c26b0 c26b1 hx403_0 p403 q403); obtain ⟨x8_5, x13_5, rfl, HA, HK5, HO_8, HB⟩ := hrel
           cases gk with
           | zero => exact absurd HA.out (by simp [impl_mutual.l2])
           | succ k5 =>
            have H := HA.out; clear HA; simp only [impl_mutual.l2] at H
            by_cases c27 : x13_5 < a1
            rotate_left
            ·rw [if_neg c27] at H; have c27b0 := decide_eq_false c27; clear c27
             by_cases c40 : 0 ≤ x46_2
             rotate_left
             ·rw [if_neg c40] at H; exact absurd H (by simp)
             rw [if_pos c40] at H; have c40b0 := eq_true c40; have c40b1 := decide_eq_true c40; clear c40
             by_cases c41 : x46_2 < 3
             rotate_left
             ·rw [if_neg c41] at H; exact absurd H (by simp)
             rw [if_pos c41] at H; have c41b0 := eq_true c41; have c41b1 := decide_eq_true c41; clear c41
             by_cases c42 : (x46_2 * 3 + x46_2) < 9
             rotate_left
             ·rw [if_neg c42] at H; exact absurd H (by simp)
             rw [if_pos c42] at H; have c42b0 := eq_true c42; have c42b1 := decide_eq_true c42; obtain ⟨ji43, hji43⟩ : ∃ j_ : Int, (x46_2 * 3 + x46_2) = j_ := ⟨_, rfl⟩; have FLji43 := aZ (show (ji43 : Int).toNat = x46_2.toNat * 3 + x46_2.toNat from by rw [← hji43]; exact flat_nat 3 (by first | (with_reducible assumption) | exact eq_true (of_decide_eq_true tZE)) (by first | (with_reducible assumption) | exact eq_true (of_decide_eq_true tZE))); replace H : (if 0 ≤ (ji43) then (if (ji43) < (x8_5.length : Int) then (impl_mutual.l0 k5 l0 a1 l2 (x8_5.set ((ji43) : Int).toNat 100) l2 (l2.length : Int) (wrap64 (x46_2 + 1))) else (none)) else (none)) = some (r1, r2) := by first | (rw [hji43] at H; exact H) | (simp only [hji43] at H ⊢; exact H)
             (try rw [hji43] at c42b0); (try rw [hji43] at c42b1); (try rw [hji43] at c42)
             by_cases c44 : 0 ≤ (ji43)
             rotate_left
             ·rw [if_neg c44] at H; exact absurd H (by simp)
             rw [if_pos c44] at H; have c44b0 := decide_eq_true c44; clear c44
             by_cases c45 : (ji43) < (x8_5.length : Int)
             rotate_left
             ·rw [if_neg c45] at H; exact absurd H (by simp)
             rw [if_pos c45] at H; have c45b0 := decide_eq_true c45; clear c45; obtain ⟨y410, hy410⟩ : ∃ y_ : List Int, y_ = (x8_5.set ((ji43) : Int).toNat 100) := ⟨_, rfl⟩; replace H : (impl_mutual.l0 k5 l0 a1 l2 y410 l2 (l2.length : Int) (wrap64 (x46_2 + 1))) = some (r1, r2) := by first | (rw [hy410]; with_reducible exact H) | (have H2_ := (Option.bind_some _ _).symm.trans H; rw [hy410]; with_reducible exact H2_) | (have H2_ := (Option.bind_some _ _).symm.trans H; with_reducible exact H2_) | with_reducible exact H | (rw [hy410]; exact H) | exact H
             have Ny410 := Aside0.mk hy410; clear hy410; have H' := Aside0.mk H; clear H; have p46 : 0 ≤ ((ji43) : Int) := of_decide_eq_true tZE; have q46 : ((ji43) : Int) < ((x8_5.length : Int) : Int) := of_decide_eq_true tZE; obtain ⟨go46, co46, eo46, gb46, gl46, cl46, HG46⟩ := Kd.R_form HO_8.out (by omega); (first | cases eo46 | (injection eo46 with ea_ en_ ec_; (first | subst ea_ | (injection ea_ with ea_; subst ea_)); subst ec_; clear en_)); have GB46 := Aside0.mk gb46; have GG46 := Aside0.mk HG46; clear gb46 gl46 HG46; obtain ⟨hx46_0, hf46_0⟩ := Kd.R_celln 0 HO_8.out ((ji43) : Int) p46 q46; rw [FLji43.out] at hx46_0 hf46_0; replace p46 := eq_true p46; replace q46 := eq_true q46; have HP47 := Kd.R_putg HO_8.out ((ji43) : Int) 100; rw [← Ny410.out, FLji43.out] at HP47
             go_wp2_with (first | ((with_reducible refine gate_store (t := 3) (p := 93) rfl ?_); refine store_event (t := 3) (p := 93) (v := ?vo_w48) (w1 := (wr.setCell ⟨go46, x46_2.toNat * 3 + x46_2.toNat, none⟩ (.int .i64 100))) ?hg ?ho ?hn ?hr ?_; (case ho => rfl); (case hg => rfl); (case hn => rfl); (case hr => first | (go_simp; done) | (go_simp; rfl)); intro w48 hw; have hg : wr.grownBy w48 (some go46) := (by rw [hw]; exact HP47.2); have hp_ : Kd.R (Kd.int .i64) 79 w48 w.heap.size (fun _ => True) (.slice (some ⟨go46, 0, none⟩) x8_5.length co46) y410 := (by rw [hw]; exact HP47.1); clear HP47; replace HO_8 := aZ (hp_); replace HB := aZ ((by rw [hw]; exact below_set (HB.out) GB46.out : Below w.heap.size w w48)); clear hg hw hp_))
             go_roundg k5
             case measure => have := HJ3.out; have := HK2.out; have := HJ15.out; have := HK4.out; have := HK5.out; omega
             case rel => exact ⟨(y410), (wrap64 (x46_2 + 1)), tZB, H', ⟨by have := HJ3.out; have := HK2.out; have := HJ15.out; have := HK4.out; have := HK5.out; omega⟩, ⟨lZR HO_8.out⟩, ⟨bZ⟩⟩
            rw [if_pos c27] at H; have c27b0 := decide_eq_true c27; clear c27
            by_cases c28 : 0 ≤ x13_5
            rotate_left
            ·rw [if_neg c28] at H; exact absurd H (by simp)
            rw [if_pos c28] at H; have c28b0 := decide_eq_true c28; clear c28
            by_cases c29 : x13_5 < ((rd_L2 l2 x46_2).length : Int)
            rotate_left
            ·rw [if_neg c29] at H; exact absurd H (by simp)
            rw [if_pos c29] at H; have c29b0 := decide_eq_true c29; clear c29
            by_cases c30 : 0 ≤ x46_2
            rotate_left
            ·rw [if_neg c30] at H; exact absurd H (by simp)
            rw [if_pos c30] at H; have c30b0 := eq_true c30; have c30b1 := decide_eq_true c30; clear c30
            by_cases c31 : x46_2 < 3
            rotate_left
            ·rw [if_neg c31] at H; exact absurd H (by simp)
            rw [if_pos c31] at H; have c31b0 := eq_true c31; have c31b1 := decide_eq_true c31; clear c31
            by_cases c32 : x13_5 < 3
            rotate_left
            ·rw [if_neg c32] at H; exact absurd H (by simp)
            rw [if_pos c32] at H; have c32b0 := eq_true c32; have c32b1 := decide_eq_true c32; clear c32
            by_cases c33 : (x46_2 * 3 + x13_5) < 9
            rotate_left
            ·rw [if_neg c33] at H; exact absurd H (by simp)
            rw [if_pos c33] at H; have c33b0 := eq_true c33; have c33b1 := decide_eq_true c33; obtain ⟨ji34, hji34⟩ : ∃ j_ : Int, (x46_2 * 3 + x13_5) = j_ := ⟨_, rfl⟩; have FLji34 := aZ (show (ji34 : Int).toNat = x46_2.toNat * 3 + x13_5.toNat from by rw [← hji34]; exact flat_nat 3 (by first | (with_reducible assumption) | exact eq_true (of_decide_eq_true tZE)) (by first | (with_reducible assumption) | exact eq_true (of_decide_eq_true tZE))); replace H : (if 0 ≤ (ji34) then (if (ji34) < (x8_5.length : Int) then (impl_mutual.l2 k5 l0 a1 l2 (x8_5.set ((ji34) : Int).toNat (wrap64 (-(rd (rd_L2 l2 x46_2) x13_5)))) x46_2 (rd_L2 l2 x46_2) (wrap64 (x13_5 + 1)) l2 (l2.length : Int) x46_2) else (none)) else (none)) = some (r1, r2) := by first | (rw [hji34] at H; exact H) | (simp only [hji34] at H ⊢; exact H)
            (try rw [hji34] at c33b0); (try rw [hji34] at c33b1); (try rw [hji34] at c33)
            by_cases c35 : 0 ≤ (ji34)
            rotate_left
            ·rw [if_neg c35] at H; exact absurd H (by simp)
            rw [if_pos c35] at H; have c35b0 := decide_eq_true c35; clear c35
            by_cases c36 : (ji34) < (x8_5.length : Int)
            rotate_left
            ·rw [if_neg c36] at H; exact absurd H (by simp)
            rw [if_pos c36] at H; have c36b0 := decide_eq_true c36; clear c36; obtain ⟨y409, hy409⟩ : ∃ y_ : List Int, y_ = (x8_5.set ((ji34) : Int).toNat (wrap64 (-(rd (rd_L2 l2 x46_2) x13_5)))) := ⟨_, rfl⟩; replace H : (impl_mutual.l2 k5 l0 a1 l2 y409 x46_2 (rd_L2 l2 x46_2) (wrap64 (x13_5 + 1)) l2 (l2.length : Int) x46_2) = some (r1, r2) := by first | (rw [hy409]; with_reducible exact H) | (have H2_ := (Option.bind_some _ _).symm.trans H; rw [hy409]; with_reducible exact H2_) | (have H2_ := (Option.bind_some _ _).symm.trans H; with_reducible exact H2_) | with_reducible exact H | (rw [hy409]; exact H) | exact H
            have Ny409 := Aside0.mk hy409; clear hy409; have H' := Aside0.mk H; clear H
            try go_wp2
            replace HO_8 := aZ (Kd.R_drew HO_8.out); replace HB := aZ (below_drew1 HB.out); have p408 : 0 ≤ (x13_5 : Int) := of_decide_eq_true tZE; have q408 : x13_5 < ((rd_L2 l2 x46_2).length : Int) := of_decide_eq_true tZE; obtain ⟨ad408, e408, hx408_0⟩ := Kd.at_int HR403_0.out x13_5 p408 q408; have hw408_0 := hx408_0
            cases e408
            replace hx408_0 := cZ HB hx408_0; replace p408 := eq_true p408; replace q408 := eq_true q408; have p37 : 0 ≤ ((ji34) : Int) := of_decide_eq_true tZE; have q37 : ((ji34) : Int) < ((x8_5.length : Int) : Int) := of_decide_eq_true tZE; obtain ⟨go37, co37, eo37, gb37, gl37, cl37, HG37⟩ := Kd.R_form HO_8.out (by omega); (first | cases eo37 | (injection eo37 with ea_ en_ ec_; (first | subst ea_ | (injection ea_ with ea_; subst ea_)); subst ec_; clear en_)); have GB37 := Aside0.mk gb37; have GG37 := Aside0.mk HG37; clear gb37 gl37 HG37; obtain ⟨hx37_0, hf37_0⟩ := Kd.R_celln 0 HO_8.out ((ji34) : Int) p37 q37; rw [FLji34.out] at hx37_0 hf37_0; replace p37 := eq_true p37; replace q37 := eq_true q37; (try clear GG37); obtain ⟨cl39_, hgg39_⟩ := Kd.R_typed (HO_8.out) go37 rfl; have GG37 := Aside0.mk hgg39_; clear hgg39_
            have HP39 := Kd.R_putn HO_8.out ((ji34) : Int) (wrap64 (-(rd (rd_L2 l2 x46_2) x13_5))); rw [← Ny409.out] at HP39; rw [FLji34.out] at HP39; have HQ39 := Aside0.mk HP39; clear HP39; refine start_ (n := 10) (S := fun w' => w'.cell? (ad408.add (x13_5).toNat) = some (.int .i64 (rd (rd_L2 l2 x46_2) x13_5))) (ds := [9]) L0' kZ rfl rfl (((HB.out.cell (World.block_lt_of_cell? w _ hw408_0)).trans hw408_0)) (fun hHeld => ?_); refine with_tabW impl_mutual.tab20 impl_mutual.bits20 (fun HT_ HW_ => ?_); generalize wr.drew = w38 at HO_8 HB GG37 HQ39 hf37_0 hx37_0 hx408_0 hHeld ⊢; refine pure_ (i := 0) (N := some 81) (v := ?_) (a' := ?_) L1' rfl rfl (any_of HT_.out kZ) (fun _ _ _ h => h) (Or.inl ⟨by rfl, ?_⟩) ?_ ?_; rotate_left
            ·intro w'; go_simp; with_reducible rfl
            rotate_left
            ·simp only [Act.put, sZ1, sZ2, sZ3, i64_w, i32_w]; rfl
            refine pure_ (i := 1) (N := some 82) (v := ?_) (a' := ?_) L2' rfl rfl (any_of HT_.out kZ) (fun _ _ _ h => h) (Or.inl ⟨by rfl, ?_⟩) ?_ ?_; rotate_left
            ·intro w'; go_simp; with_reducible rfl
            rotate_left
            ·simp only [Act.put, sZ1, sZ2, sZ3, i64_w, i32_w]; rfl
            refine pure_ (i := 2) (N := some 83) (v := ?_) (a' := ?_) L3' rfl rfl (any_of HT_.out kZ) (fun _ _ _ h => h) (Or.inl ⟨by rfl, ?_⟩) ?_ ?_; rotate_left
            ·intro w'; go_simp; with_reducible rfl
            rotate_left
            ·simp only [Act.put, sZ1, sZ2, sZ3, i64_w, i32_w]; rfl
            refine pure_ (i := 3) (N := some 84) (v := ?_) (a' := ?_) L4' rfl rfl (any_of HT_.out kZ) (fun _ _ _ h => h) (Or.inl ⟨by rfl, ?_⟩) ?_ ?_; rotate_left
            ·intro w'; go_simp; with_reducible rfl
            rotate_left
            ·simp only [Act.put, sZ1, sZ2, sZ3, i64_w, i32_w]; rfl
            refine pure_ (i := 4) (N := some 85) (v := ?_) (a' := ?_) L5' rfl rfl (any_of HT_.out kZ) (fun _ _ _ h => h) (Or.inl ⟨by rfl, ?_⟩) ?_ ?_; rotate_left
            ·intro w'; go_simp; with_reducible rfl
            rotate_left
            ·simp only [Act.put, sZ1, sZ2, sZ3, i64_w, i32_w]; rfl
            refine pure_ (i := 7) (N := some 88) (v := ?_) (a' := ?_) L6' rfl rfl (any_of HT_.out kZ) (fun _ _ _ h => h) (Or.inl ⟨by rfl, ?_⟩) ?_ ?_; rotate_left
            ·intro w'; go_simp; with_reducible rfl
            rotate_left
            ·simp only [Act.put, sZ1, sZ2, sZ3, i64_w, i32_w]; rfl
            refine take_ (i := 5) (N := some 86) (v := ?_) (a' := ?_) L7' rfl rfl (take_ofW HT_.out HW_.out kZ) (fun _ _ _ h => h) (Or.inl ⟨by rfl, ?_⟩) hHeld ?_ ?_; rotate_left
            ·intro w' s0; go_simp; with_reducible rfl
            rotate_left
            ·simp only [Act.put, sZ1, sZ2, sZ3, i64_w, i32_w]; rfl
            refine pure_ (i := 6) (N := some 87) (v := ?_) (a' := ?_) L8' rfl rfl (any_of HT_.out kZ) (fun _ _ _ h => h) (Or.inl ⟨by rfl, ?_⟩) ?_ ?_; rotate_left
            ·intro w'; go_simp; with_reducible rfl
            rotate_left
            ·simp only [Act.put, sZ1, sZ2, sZ3, i64_w, i32_w]; rfl
            refine pure_ (i := 8) (N := some 89) (v := ?_) (a' := ?_) L9' rfl rfl (any_of HT_.out kZ) (fun _ _ _ h => h) (Or.inl ⟨by rfl, ?_⟩) ?_ ?_; rotate_left
            ·intro w'; go_simp; with_reducible rfl
            rotate_left
            ·simp only [Act.put, sZ1, sZ2, sZ3, i64_w, i32_w]; rfl
            refine last_ (i := 9) (N := none) L10' rfl rfl (one_of HT_.out kZ) (by decide) (fun K hK => ?_); refine skip_ (w1 := ?_) (by rfl) rfl ?_ ?_; rotate_left
            ·go_simp; rfl
            refine hK.out _ _ ?_; clear hK K; refine done_ (done_of HT_.out kZ) ?_
            try go_wp2
            go_roundg k5
            case measure => have := HJ3.out; have := HK2.out; have := HJ15.out; have := HK4.out; have := HK5.out; omega
            case rel => exact ⟨(y409), (wrap64 (x13_5 + 1)), tZB, H', ⟨by have := HJ3.out; have := HK2.out; have := HJ15.out; have := HK4.out; have := HK5.out; omega⟩, ⟨by exact HQ39.out⟩, ⟨bZ⟩⟩
     rw [if_neg c13] at H; have c13b0 := decide_eq_false c13; clear c13
     by_cases c49 : x8_2.length = 9
     rotate_left
     ·rw [if_neg c49] at H; exact absurd H (by simp)
     rw [if_pos c49] at H; have LMc49 := Aside0.mk c49; clear c49; replace H := Option.bind_eq_some_iff.mp H; obtain ⟨t411, A500, H⟩ := H; replace H : (if t411 = 0 then (some (([] : List (List Int)), false)) else (impl_mutual.l3 k2 l0 a1 l2 x8_2 (([] : List (List Int))) 0)) = some (r1, r2) := H; have A50 := Aside0.mk A500; clear A500
     by_cases c51 : t411 = 0
     ·rw [if_pos c51] at H; have c51b0 : (t411 == 0) = true := beq_iff_eq.mpr c51; have c51b1 : (t411 != 0) = false := bne_eq_false_iff_eq.mpr c51; clear c51; simp only [Option.some.injEq, Prod.mk.injEq] at H; obtain ⟨rfl, rfl⟩ := H
      go_wp2_with (first | ((with_reducible refine gate_load (t := 79) (p := 8) rfl ?_); refine A_load (N := 95) (x := 8) (d := .array 3 77) rfl rfl 79 rfl (HO_8.out) ?hx (fun h_ => by have l_ := LMc49.out; rw [h_] at l_; exact absurd l_ (by decide)) kZ rfl (by rw [LMc49.out]; kernel_rfl) ?_; (case hx => first | rfl | (go_simp; done) | (go_simp; rfl))) | ((with_reducible refine gate_callee (f := 53) rfl ?_); refine goesL_ (some 97) rfl rfl Try.func53 kZ rfl #[.agg (List.map (Value.int .i64) x8_2).toArray, .int .i64 a1] rfl tZA ?_; (with_reducible refine (impl_determinant.calls x8_2 a1 t411 _ A50.out).mono ?_); rintro e w52 ⟨rfl, hb⟩; refine ⟨_, rfl, ?_⟩; replace HO_8 := aZ (Kd.R_below (lZR HO_8.out) hb); replace HB := aZ (below_step (lZB HB.out) hb); (try clear hb); (try clear hb2); (try clear hk); (try clear hi)))
      go_ret2; exact ⟨_, tZC, by first | exact Kd.S_nil _ _ _ _ _ | exact Kd.N_nil _ _ _ _ _ | exact Kd.V_nil _ _ _ _ _ | exact Kd.Q_nil _ _ _ _ _ | exact Kd.R_nil _ _ _ _ _, bZ⟩
     rw [if_neg c51] at H; have c51b0 : (t411 == 0) = false := beq_eq_false_iff_ne.mpr c51; have c51b1 : (t411 != 0) = true := bne_iff_ne.mpr c51; obtain ⟨y412, hy412⟩ : ∃ y_ : List (List Int), y_ = (([] : List (List Int))) := ⟨_, rfl⟩; replace H : (impl_mutual.l3 k2 l0 a1 l2 x8_2 y412 0) = some (r1, r2) := by first | (rw [hy412]; with_reducible exact H) | (have H2_ := (Option.bind_some _ _).symm.trans H; rw [hy412]; with_reducible exact H2_) | (have H2_ := (Option.bind_some _ _).symm.trans H; with_reducible exact H2_) | with_reducible exact H | (rw [hy412]; exact H) | exact H
     have Ny412 := Aside0.mk hy412; clear hy412; have H' := Aside0.mk H; clear H
     go_wp2_with (first | ((with_reducible refine gate_load (t := 79) (p := 8) rfl ?_); refine A_load (N := 95) (x := 8) (d := .array 3 77) rfl rfl 79 rfl (HO_8.out) ?hx (fun h_ => by have l_ := LMc49.out; rw [h_] at l_; exact absurd l_ (by decide)) kZ rfl (by rw [LMc49.out]; kernel_rfl) ?_; (case hx => first | rfl | (go_simp; done) | (go_simp; rfl))) | ((with_reducible refine gate_callee (f := 53) rfl ?_); refine goesL_ (some 97) rfl rfl Try.func53 kZ rfl #[.agg (List.map (Value.int .i64) x8_2).toArray, .int .i64 a1] rfl tZA ?_; (with_reducible refine (impl_determinant.calls x8_2 a1 t411 _ A50.out).mono ?_); rintro e w53 ⟨rfl, hb⟩; refine ⟨_, rfl, ?_⟩; replace HO_8 := aZ (Kd.R_below (lZR HO_8.out) hb); replace HB := aZ (below_step (lZB HB.out) hb); (try clear hb); (try clear hb2); (try clear hk); (try clear hi)) | ((with_reducible refine gate_dst (N := 99) rfl ?_); (try (refine gate_guard (by rfl) ?_; dsimp only)); refine Kd.S_lit (Kd.slice 3 (Kd.int .i64)) _ 24 ?hg (N := 99) ?hd (xs := ([] : List (List Int))) (inner := []) (ok := fun _ => True) (okp := fun _ => True) ?hr ?hp (fun _ hk => hk) trivial (Below.refl _ _) (Nat.le_refl _) (by simp) ?_; (case hd => rfl); (case hg => rfl); (case hr => first | (go_simp; done) | (go_simp; rfl)); (case hp => exact (Reps.none _ _)); intro v413 w54 ho55 hb hg_ hnew_; clear hg_ hnew_; (first | rw [← Ny412.out] at ho55 | (simp only [Int.reduceToNat] at ho55; rw [← Ny412.out] at ho55)); replace HO_8 := aZ (Kd.R_below (lZR HO_8.out) hb); have HO414 := aZ (Kd.S_lower ho55 (below_size (lZB HB.out))); replace HB := aZ (below_step (lZB HB.out) hb); clear hb ho55))
     go_loopg [14, 15] k2 (fun kq v14 v15 w' => ∃ (x8_3 : List Int) (x14_3 : List (List Int)) (x15_3 : Int), v15 = .int .i64 x15_3 ∧ Aside0 (impl_mutual.l3 kq l0 a1 l2 x8_3 x14_3 x15_3 = some (r1, r2)) ∧ Aside0 (kq ≤ k2) ∧ Aside0 (Kd.R (Kd.int .i64) 79 w' w.heap.size (fun _ => True) v401 x8_3) ∧ Aside0 (Kd.S (Kd.slice 3 (Kd.int .i64)) 24 w' w.heap.size (fun _ => True) v14 x14_3) ∧ Aside0 (Below w.heap.size w w'))
     case atStart => exact ⟨(x8_2), (y412), (0), tZB, H', ⟨Nat.le_refl _⟩, ⟨lZR HO_8.out⟩, ⟨lZS HO414.out⟩, ⟨bZ⟩⟩
     case round =>
      clear H'; (try clear c13b0 c51 c51b0 c51b1); obtain ⟨x8_3, x14_3, x15_3, rfl, HA, HK3, HO_8, HO_14, HB⟩ := hrel
      cases gk with
      | zero => exact absurd HA.out (by simp [impl_mutual.l3])
      | succ k3 =>
       have H := HA.out; clear HA; simp only [impl_mutual.l3] at H
       by_cases c56 : x15_3 < a1
       rotate_left
       ·rw [if_neg c56] at H; have c56b0 := decide_eq_false c56; clear c56; have H' := Aside0.mk H; clear H; go_wp2
        go_loopg [21] k3 (fun kq v21 w' => ∃ (x21_4 : Int), v21 = .int .i64 x21_4 ∧ Aside0 (impl_mutual.l6 kq l0 a1 x14_3 x21_4 = some (r1, r2)) ∧ Aside0 (kq ≤ k3) ∧ Aside0 (Kd.S (Kd.slice 3 (Kd.int .i64)) 24 w' w.heap.size (fun _ => True) u14 x14_3) ∧ Aside0 (Below w.heap.size w w'))
        case atStart => exact ⟨(a1), tZB, H', ⟨Nat.le_refl _⟩, ⟨lZS HO_14.out⟩, ⟨bZ⟩⟩
        case round =>
         clear H'; (try clear c13b0 c51 c51b0 c51b1 c56b0); obtain ⟨x21_4, rfl, HA, HK4, HO_14, HB⟩ := hrel
         cases gk with
         | zero => exact absurd HA.out (by simp [impl_mutual.l6])
         | succ k4 =>
          have H := HA.out; clear HA; simp only [impl_mutual.l6] at H
          by_cases c95 : x21_4 < (l0.length : Int)
          rotate_left
          ·rw [if_neg c95] at H; have c95b0 := decide_eq_false c95; clear c95; simp only [Option.some.injEq, Prod.mk.injEq] at H; obtain ⟨rfl, rfl⟩ := H; go_wp2; go_ret2; exact ⟨_, tZC, lZS HO_14.out, bZ⟩
          rw [if_pos c95] at H; have c95b0 := decide_eq_true c95; clear c95
          by_cases c96 : 0 ≤ x21_4
          rotate_left
          ·rw [if_neg c96] at H; exact absurd H (by simp)
          rw [if_pos c96] at H; have c96b0 := decide_eq_true c96; clear c96; have H' := Aside0.mk H; clear H; have p435 : 0 ≤ (x21_4 : Int) := of_decide_eq_true tZE; have q435 : x21_4 < (l0.length : Int) := of_decide_eq_true tZE; obtain ⟨ad435, e435, hx435_0⟩ := Kd.at_int HR0.out x21_4 p435 q435
          cases e435
          replace hx435_0 := cZ HB hx435_0; replace p435 := eq_true p435; replace q435 := eq_true q435; go_wp2
          go_loopg [22, 23] k4 (fun kq v22 v23 w' => ∃ (x22_5 : Int) (x23_5 : Int), v22 = .int .i64 x22_5 ∧ v23 = .int .i64 x23_5 ∧ Aside0 (impl_mutual.l7 kq l0 a1 x14_3 x21_4 x22_5 x23_5 = some (r1, r2)) ∧ Aside0 (kq ≤ k4) ∧ Aside0 (Kd.S (Kd.slice 3 (Kd.int .i64)) 24 w' w.heap.size (fun _ => True) u14 x14_3) ∧ Aside0 (Below w.heap.size w w'))
          case atStart => exact ⟨(rd l0 x21_4), (0), tZB, tZB, H', ⟨Nat.le_refl _⟩, ⟨lZS HO_14.out⟩, ⟨bZ⟩⟩
          case round =>
           clear H'; (try clear c13b0 c51 c51b0 c51b1 c56b0 c95b0 c96b0 hx435_0 p435 q435); obtain ⟨x22_5, x23_5, rfl, rfl, HA, HK5, HO_14, HB⟩ := hrel
           cases gk with
           | zero => exact absurd HA.out (by simp [impl_mutual.l7])
           | succ k5 =>
            have H := HA.out; clear HA; simp only [impl_mutual.l7] at H
            by_cases c97 : x23_5 < a1
            rotate_left
            ·rw [if_neg c97] at H; have c97b0 := decide_eq_false c97; clear c97; replace H := Option.bind_eq_some_iff.mp H; obtain ⟨t438, A1040, H⟩ := H; replace H : (if t438 = true then (impl_mutual.l6 k5 l0 a1 x14_3 (wrap64 (x21_4 + 1))) else (some (([] : List (List Int)), false))) = some (r1, r2) := H; have A104 := Aside0.mk A1040; clear A1040
             by_cases c105 : t438 = true
             rotate_left
             ·replace c105 := Bool.eq_false_iff.mpr c105; subst c105; rw [if_neg Bool.false_ne_true] at H; simp only [Option.some.injEq, Prod.mk.injEq] at H; obtain ⟨rfl, rfl⟩ := H
              go_wp2_with (first | ((with_reducible refine gate_callee (f := 54) rfl ?_); refine goesL_ (some 177) rfl rfl Try.func54 kZ rfl #[.int .i64 x22_5] rfl tZA ?_; (with_reducible refine (impl_amount.calls x22_5 false _ A104.out).mono ?_); rintro e w' ⟨rfl, ⟨nd, rfl⟩⟩; refine ⟨_, rfl, ?_⟩))
              go_ret2; exact ⟨_, tZC, by first | exact Kd.S_nil _ _ _ _ _ | exact Kd.N_nil _ _ _ _ _ | exact Kd.V_nil _ _ _ _ _ | exact Kd.Q_nil _ _ _ _ _ | exact Kd.R_nil _ _ _ _ _, bZ⟩
             subst c105; rw [if_pos rfl] at H; have H' := Aside0.mk H; clear H
             go_wp2_with (first | ((with_reducible refine gate_callee (f := 54) rfl ?_); refine goesL_ (some 177) rfl rfl Try.func54 kZ rfl #[.int .i64 x22_5] rfl tZA ?_; (with_reducible refine (impl_amount.calls x22_5 true _ A104.out).mono ?_); rintro e w' ⟨rfl, ⟨nd, rfl⟩⟩; refine ⟨_, rfl, ?_⟩))
             go_roundg k5
             case measure => have := HJ3.out; have := HK2.out; have := HK3.out; have := HK4.out; have := HK5.out; omega
             case rel => exact ⟨(wrap64 (x21_4 + 1)), tZB, H', ⟨by have := HJ3.out; have := HK2.out; have := HK3.out; have := HK4.out; have := HK5.out; omega⟩, ⟨lZS HO_14.out⟩, ⟨bZ⟩⟩
            rw [if_pos c97] at H; have c97b0 := decide_eq_true c97; clear c97
            by_cases c98 : 0 ≤ x23_5
            rotate_left
            ·rw [if_neg c98] at H; exact absurd H (by simp)
            rw [if_pos c98] at H; have c98b0 := decide_eq_true c98; clear c98
            by_cases c99 : x23_5 < (x14_3.length : Int)
            rotate_left
            ·rw [if_neg c99] at H; exact absurd H (by simp)
            rw [if_pos c99] at H; have c99b0 := decide_eq_true c99; clear c99; obtain ⟨ji100, hji100⟩ : ∃ j_ : Int, (wrap64 (x21_4 - a1)) = j_ := ⟨_, rfl⟩; replace H : (if 0 ≤ (ji100) then (if (ji100) < ((rd_L2 x14_3 x23_5).length : Int) then (impl_mutual.l7 k5 l0 a1 x14_3 x21_4 (wrap64 (x22_5 + (rd (rd_L2 x14_3 x23_5) (ji100)))) (wrap64 (x23_5 + 1))) else (none)) else (none)) = some (r1, r2) := by first | (rw [hji100] at H; exact H) | (simp only [hji100] at H ⊢; exact H)
            have hji100w : (IntKind.i64.wrap (x21_4 - a1)) = ji100 := (i64_w _).trans hji100
            by_cases c101 : 0 ≤ (ji100)
            rotate_left
            ·rw [if_neg c101] at H; exact absurd H (by simp)
            rw [if_pos c101] at H; have c101b0 := decide_eq_true c101; clear c101
            by_cases c102 : (ji100) < ((rd_L2 x14_3 x23_5).length : Int)
            rotate_left
            ·rw [if_neg c102] at H; exact absurd H (by simp)
            rw [if_pos c102] at H; have c102b0 := decide_eq_true c102; clear c102; have H' := Aside0.mk H; clear H; obtain ⟨Ao103, co103, eo103⟩ := Kd.S_slice HO_14.out; subst eo103; have p436 : 0 ≤ (x23_5 : Int) := of_decide_eq_true tZE; have q436 : x23_5 < (x14_3.length : Int) := of_decide_eq_true tZE; obtain ⟨ad436, A436_0, c436_0, e436, hx436_0, hl436_0, hi436_0⟩ := at_L2 (Kd.S_reads' HO_14.out).2.2 x23_5 p436 q436
            cases e436
            obtain ⟨ce436, hce436, hMe436, hcc436⟩ := Kd.S_get HO_14.out [] x23_5 p436 (by first | exact q436 | exact of_decide_eq_true tZE | (have e_ := (Kd.S_reads' HO_14.out).1; omega)); obtain ⟨ve436_0, rfl, ge436_0⟩ := hMe436; have hv436_0 := hcc436 0 _ rfl; rw [Nat.add_zero, show ((Kd.slice 3 (Kd.int .i64))).sz = 1 from rfl, Nat.mul_one] at hv436_0; replace hv436_0 := Option.some.inj (hv436_0.symm.trans hx436_0); rw [hv436_0] at ge436_0; have HL436_0 := aZ (show Kd.R (Kd.int .i64) 3 _ _ _ _ (rd_L2 x14_3 x23_5) from ge436_0); clear hv436_0 ge436_0; clear hcc436 hce436; have HR436_0 := Aside0.mk hi436_0; have HC436_0 := Aside0.mk hl436_0; clear hi436_0 hl436_0; replace p436 := eq_true p436; replace q436 := eq_true q436; have p437 : 0 ≤ ((ji100) : Int) := of_decide_eq_true tZE; have q437 : (ji100) < ((rd_L2 x14_3 x23_5).length : Int) := of_decide_eq_true tZE
            obtain ⟨ad437, e437, hx437_0⟩ := Kd.at_int (by repeat (first | (with_reducible exact HR436_0.out) | (with_reducible refine Kd.C_alloc ?_ _) | (with_reducible refine Kd.C_drewN ?_ _) | (with_reducible refine Kd.C_drew ?_) | exact HR436_0.out)) (ji100) p437 q437
            cases e437
            replace p437 := eq_true p437; replace q437 := eq_true q437; go_wp2
            go_roundg k5
            case measure => have := HJ3.out; have := HK2.out; have := HK3.out; have := HK4.out; have := HK5.out; omega
            case rel => exact ⟨(wrap64 (x22_5 + (rd (rd_L2 x14_3 x23_5) (ji100)))), (wrap64 (x23_5 + 1)), (by first | rfl | (simp; done) | (simp only [← hji100] <;> (first | rfl | simp)) | (simp [*]; done)), tZB, H', ⟨by have := HJ3.out; have := HK2.out; have := HK3.out; have := HK4.out; have := HK5.out; omega⟩, ⟨lZS HO_14.out⟩, ⟨bZ⟩⟩
       rw [if_pos c56] at H; have c56b0 := decide_eq_true c56; clear c56; obtain ⟨y415, hy415⟩ : ∃ y_ : List Int, y_ = (([] : List Int)) := ⟨_, rfl⟩; replace H : (impl_mutual.l4 k3 l0 a1 l2 x8_3 x14_3 x15_3 y415 a1) = some (r1, r2) := by first | (rw [hy415]; with_reducible exact H) | (have H2_ := (Option.bind_some _ _).symm.trans H; rw [hy415]; with_reducible exact H2_) | (have H2_ := (Option.bind_some _ _).symm.trans H; with_reducible exact H2_) | with_reducible exact H | (rw [hy415]; exact H) | exact H
       have Ny415 := Aside0.mk hy415; clear hy415; have H' := Aside0.mk H; clear H
       go_wp2_with (first | ((with_reducible refine gate_dst (N := 105) rfl ?_); (try (refine gate_guard (by rfl) ?_; dsimp only)); refine Kd.R_lit (Kd.int .i64) _ 3 ?hg (N := 105) ?hd (xs := ([] : List Int)) (inner := []) (ok := fun _ => True) (okp := fun _ => True) ?hr ?hp (fun _ hk => hk) trivial (Below.refl _ _) (Nat.le_refl _) (by simp) ?_; (case hd => rfl); (case hg => rfl); (case hr => first | (go_simp; done) | (go_simp; rfl)); (case hp => exact (Reps.none _ _)); intro v416 w57 ho58 hb hg_ hnew_; clear hg_ hnew_; (first | rw [← Ny415.out] at ho58 | (simp only [Int.reduceToNat] at ho58; rw [← Ny415.out] at ho58)); replace HO_8 := aZ (Kd.R_below (lZR HO_8.out) hb); replace HO_14 := aZ (Kd.S_elder' (lZS HO_14.out) (Kd.R_base ho58) hb); have HO417 := aZ (Kd.R_lower ho58 (below_size (lZB HB.out))); replace HB := aZ (below_step (lZB HB.out) hb); clear hb ho58))
       go_loopg [16, 17] k3 (fun kq v16 v17 w' => ∃ (x8_4 : List Int) (x16_4 : List Int) (x17_4 : Int), v17 = .int .i64 x17_4 ∧ Aside0 (impl_mutual.l4 kq l0 a1 l2 x8_4 x14_3 x15_3 x16_4 x17_4 = some (r1, r2)) ∧ Aside0 (kq ≤ k3) ∧ Aside0 (Kd.R (Kd.int .i64) 79 w' w.heap.size (fun _ => True) v401 x8_4) ∧ Aside0 (Kd.S (Kd.slice 3 (Kd.int .i64)) 24 w' w.heap.size (fun k_ => some k_ ≠ (v16 : Value).ownBlock) u14 x14_3) ∧ Aside0 (Kd.R (Kd.int .i64) 3 w' w.heap.size (fun _ => True) v16 x16_4) ∧ Aside0 (Below w.heap.size w w'))
       case atStart => exact ⟨(x8_3), (y415), (a1), tZB, H', ⟨Nat.le_refl _⟩, ⟨lZR HO_8.out⟩, ⟨by (with_reducible repeat (first | apply Kd.S_alloc | apply Kd.S_drewN | apply Kd.S_drew)); exact Kd.S_mono HO_14.out (fun _ hk => hk.2)⟩, ⟨lZR HO417.out⟩, ⟨bZ⟩⟩
       case round =>
        clear H'; (try clear c13b0 c51 c51b0 c51b1 c56b0); obtain ⟨x8_4, x16_4, x17_4, rfl, HA, HK4, HO_8, HO_14, HO_16, HB⟩ := hrel
        cases gk with
        | zero => exact absurd HA.out (by simp [impl_mutual.l4])
        | succ k4 =>
         have H := HA.out; clear HA; simp only [impl_mutual.l4] at H
         by_cases c59 : x17_4 < (l0.length : Int)
         rotate_left
         ·rw [if_neg c59] at H; have c59b0 := decide_eq_false c59; clear c59
          by_cases c83 : 0 ≤ x15_3
          rotate_left
          ·rw [if_neg c83] at H; exact absurd H (by simp)
          rw [if_pos c83] at H; have c83b0 := decide_eq_true c83; clear c83
          by_cases c84 : x15_3 < (l0.length : Int)
          rotate_left
          ·rw [if_neg c84] at H; exact absurd H (by simp)
          rw [if_pos c84] at H; have c84b0 := decide_eq_true c84; clear c84; replace H := Option.bind_eq_some_iff.mp H; obtain ⟨t419, A850, H⟩ := H; replace H : (if (t419.length : Int) = 0 then (some (([] : List (List Int)), false)) else (if x14_3.length < 5864062014805 then (impl_mutual.l3 k4 l0 a1 l2 x8_4 (x14_3 ++ [t419]) (wrap64 (x15_3 + 1))) else (none))) = some (r1, r2) := H; have A85 := Aside0.mk A850; clear A850
          by_cases c86 : (t419.length : Int) = 0
          ·rw [if_pos c86] at H; have c86b0 : ((t419.length : Int) == 0) = true := beq_iff_eq.mpr c86; have c86b1 : ((t419.length : Int) != 0) = false := bne_eq_false_iff_eq.mpr c86; clear c86; simp only [Option.some.injEq, Prod.mk.injEq] at H; obtain ⟨rfl, rfl⟩ := H; have p418 : 0 ≤ (x15_3 : Int) := of_decide_eq_true tZE; have q418 : x15_3 < (l0.length : Int) := of_decide_eq_true tZE; obtain ⟨ad418, e418, hx418_0⟩ := Kd.at_int HR0.out x15_3 p418 q418
           cases e418
           replace hx418_0 := cZ HB hx418_0; replace p418 := eq_true p418; replace q418 := eq_true q418; obtain ⟨Ao87, co87, eo87⟩ := Kd.R_slice HO_16.out; subst eo87
           go_wp2_with (first | ((with_reducible refine gate_callee (f := 41) rfl ?_); refine goesL_ (some 141) rfl rfl Try.func41 kZ rfl #[.int .i64 (rd l0 x15_3), .slice Ao87 x16_4.length co87] rfl tZA ?_; (with_reducible refine (impl_Shares.calls k4 (rd l0 x15_3) _ _ x16_4 t419 _ ?side1 ?side2 A85.out).mono ?_); (case side1 => repeat (first | exact (Kd.R_reads' HO_16.out).2.2 | (with_reducible refine Kd.C_alloc ?_ _) | (with_reducible refine Kd.C_drewN ?_ _) | (with_reducible refine Kd.C_drew ?_))); (case side2 => exact (Kd.R_reads' HO_16.out).2.1); rintro e w88 ⟨v420, rfl, ho0, hb⟩; refine ⟨_, rfl, ?_⟩; replace HO_8 := aZ (Kd.R_below (lZR HO_8.out) hb); replace HO_14 := aZ (Kd.S_elder' (lZS HO_14.out) (Kd.R_base ho0) hb); have HO421 := aZ (Kd.R_lower (Kd.R_new' ho0 (Kd.R_lt (lZR HO_16.out))) (below_size (lZB HB.out))); replace HO_16 := aZ (Kd.R_elder' (lZR HO_16.out) (Kd.R_base ho0) hb); replace HB := aZ (below_step (lZB HB.out) hb); (try clear hb); (try clear hb2); (try clear hk); (try clear hi); (try clear ho0); obtain ⟨Ao89, co89, eo89⟩ := Kd.R_slice HO421.out; subst eo89))
           go_ret2; exact ⟨_, tZC, by first | exact Kd.S_nil _ _ _ _ _ | exact Kd.N_nil _ _ _ _ _ | exact Kd.V_nil _ _ _ _ _ | exact Kd.Q_nil _ _ _ _ _ | exact Kd.R_nil _ _ _ _ _, bZ⟩
          rw [if_neg c86] at H; have c86b0 : ((t419.length : Int) == 0) = false := beq_eq_false_iff_ne.mpr c86; have c86b1 : ((t419.length : Int) != 0) = true := bne_iff_ne.mpr c86; have c86b2 : ¬ (t419 = []) := fun h_ => c86 (by rw [h_]; rfl)
          by_cases c90 : x14_3.length < 5864062014805
          rotate_left
          ·rw [if_neg c90] at H; exact absurd H (by simp)
          rw [if_pos c90] at H; have LMc90 := Aside0.mk c90; clear c90; obtain ⟨y422, hy422⟩ : ∃ y_ : List (List Int), y_ = (x14_3 ++ [t419]) := ⟨_, rfl⟩; replace H : (impl_mutual.l3 k4 l0 a1 l2 x8_4 y422 (wrap64 (x15_3 + 1))) = some (r1, r2) := by first | (rw [hy422]; with_reducible exact H) | (have H2_ := (Option.bind_some _ _).symm.trans H; rw [hy422]; with_reducible exact H2_) | (have H2_ := (Option.bind_some _ _).symm.trans H; with_reducible exact H2_) | with_reducible exact H | (rw [hy422]; exact H) | exact H
          have Ny422 := Aside0.mk hy422; clear hy422; have H' := Aside0.mk H; clear H; have p418 : 0 ≤ (x15_3 : Int) := of_decide_eq_true tZE; have q418 : x15_3 < (l0.length : Int) := of_decide_eq_true tZE; obtain ⟨ad418, e418, hx418_0⟩ := Kd.at_int HR0.out x15_3 p418 q418
          cases e418
          replace hx418_0 := cZ HB hx418_0; replace p418 := eq_true p418; replace q418 := eq_true q418; obtain ⟨Ao91, co91, eo91⟩ := Kd.R_slice HO_16.out; subst eo91
          go_wp2_with (first | ((with_reducible refine gate_callee (f := 41) rfl ?_); refine goesL_ (some 141) rfl rfl Try.func41 kZ rfl #[.int .i64 (rd l0 x15_3), .slice Ao91 x16_4.length co91] rfl tZA ?_; (with_reducible refine (impl_Shares.calls k4 (rd l0 x15_3) _ _ x16_4 t419 _ ?side1 ?side2 A85.out).mono ?_); (case side1 => repeat (first | exact (Kd.R_reads' HO_16.out).2.2 | (with_reducible refine Kd.C_alloc ?_ _) | (with_reducible refine Kd.C_drewN ?_ _) | (with_reducible refine Kd.C_drew ?_))); (case side2 => exact (Kd.R_reads' HO_16.out).2.1); rintro e w92 ⟨v420, rfl, ho0, hb⟩; refine ⟨_, rfl, ?_⟩; replace HO_8 := aZ (Kd.R_below (lZR HO_8.out) hb); replace HO_14 := aZ (Kd.S_elder' (lZS HO_14.out) (Kd.R_base ho0) hb); have HO421 := aZ (Kd.R_lower (Kd.R_new' ho0 (Kd.R_lt (lZR HO_16.out))) (below_size (lZB HB.out))); replace HO_16 := aZ (Kd.R_elder' (lZR HO_16.out) (Kd.R_base ho0) hb); replace HB := aZ (below_step (lZB HB.out) hb); (try clear hb); (try clear hb2); (try clear hk); (try clear hi); (try clear ho0); obtain ⟨Ao93, co93, eo93⟩ := Kd.R_slice HO421.out; subst eo93) | ((with_reducible refine gate_builtin (b := .append) (xs := #[.tmp 145, .tmp 147]) rfl ?_); (try (refine gate_guard (by rfl) ?_; dsimp only)); at_builtin; refine Kd.S_append (Kd.slice 3 (Kd.int .i64)) (w0 := w) w.heap.size rfl (.tmp 145) (.tmp 147) 25 24 (.slice none 0 0) 24 rfl Try.underlying25 info24 rfl (by decide) (by omega) u14 x14_3 t419 [.slice Ao93 t419.length co93] (fun k_ => some k_ ≠ (.slice Ao91 x16_4.length co91 : Value).ownBlock) (fun k_ => some k_ = (.slice Ao93 t419.length co93 : Value).ownBlock) rfl rfl ?aP (fun k_ hk_ => ((Kd.R_mono (ok' := fun k_ => ((fun k_ => some k_ ≠ (.slice Ao91 x16_4.length co91 : Value).ownBlock)) k_ ∧ some k_ ≠ (u14 : Value).ownBlock) (Kd.R_apart' (HO421.out) (Kd.S_typed HO_14.out) (by decide)) (fun k_ hk => ⟨hk.1.2, hk.2⟩))).1 k_ hk_.symm) ?aF ?aO ?aB ?aS ?aL ?_; (case aP => exact Kd.M_row (Kd.R_mono (Kd.R_tight rfl (Kd.R_mono (ok' := fun k_ => ((fun k_ => some k_ ≠ (.slice Ao91 x16_4.length co91 : Value).ownBlock)) k_ ∧ some k_ ≠ (u14 : Value).ownBlock) (Kd.R_apart' (HO421.out) (Kd.S_typed HO_14.out) (by decide)) (fun k_ hk => ⟨hk.1.2, hk.2⟩))) (fun _ h_ => h_))); (case aB => exact (lZB HB.out)); (case aF => exact (fun k_ hk => Kd.fresh' (Kd.R_lt (lZR HO_16.out)) k_ hk)); (case aO => exact (by (with_reducible repeat (first | apply Kd.S_alloc | apply Kd.S_drewN | apply Kd.S_drew)); exact Kd.S_mono HO_14.out (fun k_ hk => ⟨hk.1, fun e_ => hk.2 e_⟩))); (case aS => exact (below_size (lZB HB.out))); (case aL => have := LMc90.out; omega); intro v423 w94 ho hb hg hat; rw [← Ny422.out] at ho; replace HO_8 := aZ (Kd.R_over' (lZR HO_8.out) (Kd.S_typed (lZS HO_14.out)) (by decide) hg); replace HO_16 := aZ (Kd.R_over' (lZR HO_16.out) (Kd.S_typed (lZS HO_14.out)) (by decide) hg); replace HB := aZ (hb); have HO424 := aZ (ho); clear HO_14 HO421; clear ho hb hg hat))
          go_roundg k4
          case measure => have := HJ3.out; have := HK2.out; have := HK3.out; have := HK4.out; omega
          case rel => exact ⟨(x8_4), (y422), (wrap64 (x15_3 + 1)), tZB, H', ⟨by have := HJ3.out; have := HK2.out; have := HK3.out; have := HK4.out; omega⟩, ⟨lZR HO_8.out⟩, ⟨by (with_reducible repeat (first | apply Kd.S_alloc | apply Kd.S_drewN | apply Kd.S_drew)); exact Kd.S_mono HO424.out (fun _ hk => trivial)⟩, ⟨bZ⟩⟩
         rw [if_pos c59] at H; have c59b0 := decide_eq_true c59; clear c59
         by_cases c60 : x8_4.length = 9
         rotate_left
         ·rw [if_neg c60] at H; exact absurd H (by simp)
         rw [if_pos c60] at H; have LMc60 := Aside0.mk c60; clear c60; obtain ⟨y425, hy425⟩ : ∃ y_ : List Int, y_ = (x8_4) := ⟨_, rfl⟩; replace H : (impl_mutual.l5 k4 l0 a1 l2 x8_4 x14_3 x15_3 x16_4 x17_4 y425 0) = some (r1, r2) := by first | (rw [hy425]; with_reducible exact H) | (have H2_ := (Option.bind_some _ _).symm.trans H; rw [hy425]; with_reducible exact H2_) | (have H2_ := (Option.bind_some _ _).symm.trans H; with_reducible exact H2_) | with_reducible exact H | (rw [hy425]; exact H) | exact H
         have Ny425 := Aside0.mk hy425; clear hy425; have H' := Aside0.mk H; clear H
         go_wp2_with (first | ((with_reducible refine gate_load (t := 79) (p := 8) rfl ?_); refine A_load (N := 113) (x := 8) (d := .array 3 77) rfl rfl 79 rfl (HO_8.out) ?hx (fun h_ => by have l_ := LMc60.out; rw [h_] at l_; exact absurd l_ (by decide)) kZ rfl (by rw [LMc60.out]; kernel_rfl) ?_; (case hx => first | rfl | (go_simp; done) | (go_simp; rfl))) | ((with_reducible refine gate_dst (N := 18) rfl ?_); (try (refine gate_guard (by rfl) ?_; dsimp only)); refine A_make2 (N := 18) (ty := 79) (y := .tmp 113) (xs := x8_4) (cs := #[.int .i64 0, .int .i64 0, .int .i64 0, .int .i64 0, .int .i64 0, .int .i64 0, .int .i64 0, .int .i64 0, .int .i64 0]) rfl rfl rfl rfl rfl ?hr ?hx ?hy (by rw [LMc60.out]; rfl) (by rw [LMc60.out]; kernel_rfl) (by rw [LMc60.out]; decide) ?_; (case hr => first | (go_simp; done) | (go_simp; rfl)); (case hx => intro v_; rfl); (case hy => intro v_; first | rfl | (go_simp; done) | (go_simp; rfl)); intro v426 w61 ho62 hb; rw [← Ny425.out] at ho62; replace HO_14 := aZ (Kd.S_below (lZS HO_14.out) hb); replace HO_16 := aZ (Kd.R_below (lZR HO_16.out) hb); have HO427 := aZ (Kd.R_lower (Kd.R_new' ho62 (Kd.R_lt (lZR HO_8.out))) (below_size (lZB HB.out))); replace HO_8 := aZ (Kd.R_elder' (lZR HO_8.out) (Kd.R_base ho62) hb); replace HB := aZ (below_step (lZB HB.out) hb); clear hb ho62))
         go_loopg [19] k4 (fun kq v19 w' => ∃ (x18_5 : List Int) (x19_5 : Int), v19 = .int .i64 x19_5 ∧ Aside0 (impl_mutual.l5 kq l0 a1 l2 x8_4 x14_3 x15_3 x16_4 x17_4 x18_5 x19_5 = some (r1, r2)) ∧ Aside0 (kq ≤ k4) ∧ Aside0 (Kd.R (Kd.int .i64) 79 w' w.heap.size (fun k_ => some k_ ≠ (v426 : Value).ownBlock) v401 x8_4) ∧ Aside0 (Kd.S (Kd.slice 3 (Kd.int .i64)) 24 w' w.heap.size (fun k_ => some k_ ≠ (u16 : Value).ownBlock) u14 x14_3) ∧ Aside0 (Kd.R (Kd.int .i64) 3 w' w.heap.size (fun _ => True) u16 x16_4) ∧ Aside0 (Kd.R (Kd.int .i64) 79 w' w.heap.size (fun k_ => some k_ ≠ (v401 : Value).ownBlock) v426 x18_5) ∧ Aside0 (Below w.heap.size w w'))
         case atStart => exact ⟨(y425), (0), tZB, H', ⟨Nat.le_refl _⟩, ⟨by (with_reducible repeat (first | apply Kd.R_alloc | apply Kd.R_drewN | apply Kd.R_drew)); exact Kd.R_mono HO_8.out (fun _ hk => hk.2)⟩, ⟨lZS HO_14.out⟩, ⟨lZR HO_16.out⟩, ⟨by (with_reducible repeat (first | apply Kd.R_alloc | apply Kd.R_drewN | apply Kd.R_drew)); exact Kd.R_mono HO427.out (fun _ hk => hk.2)⟩, ⟨bZ⟩⟩
         case round =>
          clear H'; (try clear c13b0 c51 c51b0 c51b1 c56b0 c59b0); obtain ⟨x18_5, x19_5, rfl, HA, HK5, HO_8, HO_14, HO_16, HO_18, HB⟩ := hrel
          cases gk with
          | zero => exact absurd HA.out (by simp [impl_mutual.l5])
          | succ k5 =>
           have H := HA.out; clear HA; simp only [impl_mutual.l5] at H
           by_cases c63 : x19_5 < a1
           rotate_left
           ·rw [if_neg c63] at H; have c63b0 := decide_eq_false c63; clear c63
            by_cases c78 : x18_5.length = 9
            rotate_left
            ·rw [if_neg c78] at H; exact absurd H (by simp)
            rw [if_pos c78] at H; have LMc78 := Aside0.mk c78; clear c78; replace H := Option.bind_eq_some_iff.mp H; obtain ⟨t431, A790, H⟩ := H; replace H : (if x16_4.length < 17592186044416 then (impl_mutual.l4 k5 l0 a1 l2 x8_4 x14_3 x15_3 (x16_4 ++ [t431]) (wrap64 (x17_4 + 1))) else (none)) = some (r1, r2) := H; have A79 := Aside0.mk A790; clear A790
            by_cases c80 : x16_4.length < 17592186044416
            rotate_left
            ·rw [if_neg c80] at H; exact absurd H (by simp)
            rw [if_pos c80] at H; have LMc80 := Aside0.mk c80; clear c80; obtain ⟨y432, hy432⟩ : ∃ y_ : List Int, y_ = (x16_4 ++ [t431]) := ⟨_, rfl⟩; replace H : (impl_mutual.l4 k5 l0 a1 l2 x8_4 x14_3 x15_3 y432 (wrap64 (x17_4 + 1))) = some (r1, r2) := by first | (rw [hy432]; with_reducible exact H) | (have H2_ := (Option.bind_some _ _).symm.trans H; rw [hy432]; with_reducible exact H2_) | (have H2_ := (Option.bind_some _ _).symm.trans H; with_reducible exact H2_) | with_reducible exact H | (rw [hy432]; exact H) | exact H
            have Ny432 := Aside0.mk hy432; clear hy432; have H' := Aside0.mk H; clear H
            go_wp2_with (first | ((with_reducible refine gate_load (t := 79) (p := 18) rfl ?_); refine A_load (N := 131) (x := 18) (d := .array 3 77) rfl rfl 79 rfl (HO_18.out) ?hx (fun h_ => by have l_ := LMc78.out; rw [h_] at l_; exact absurd l_ (by decide)) kZ rfl (by rw [LMc78.out]; kernel_rfl) ?_; (case hx => first | rfl | (go_simp; done) | (go_simp; rfl))) | ((with_reducible refine gate_callee (f := 53) rfl ?_); refine goesL_ (some 133) rfl rfl Try.func53 kZ rfl #[.agg (List.map (Value.int .i64) x18_5).toArray, .int .i64 a1] rfl tZA ?_; (with_reducible refine (impl_determinant.calls x18_5 a1 t431 _ A79.out).mono ?_); rintro e w81 ⟨rfl, hb⟩; refine ⟨_, rfl, ?_⟩; replace HO_8 := aZ (Kd.R_below (lZR HO_8.out) hb); replace HO_14 := aZ (Kd.S_below (lZS HO_14.out) hb); replace HO_16 := aZ (Kd.R_below (lZR HO_16.out) hb); replace HO_18 := aZ (Kd.R_below (lZR HO_18.out) hb); replace HB := aZ (below_step (lZB HB.out) hb); (try clear hb); (try clear hb2); (try clear hk); (try clear hi)) | ((with_reducible refine gate_builtin (b := .append) (xs := #[.tmp 130, .tmp 134]) rfl ?_); (try (refine gate_guard (by rfl) ?_; dsimp only)); at_builtin; refine Kd.R_append (Kd.int .i64) (w0 := w) w.heap.size rfl (.tmp 130) (.tmp 134) 24 3 (.int .i64 0) 8 rfl Try.underlying24 info3 rfl (by decide) (by omega) u16 x16_4 t431 [.int .i64 t431] (fun _ => True) (fun _ => False) rfl rfl ?aP (fun _ hk => hk.elim) ?aF ?aO ?aB ?aS ?aL ?_; (case aP => exact rfl); (case aB => exact (lZB HB.out)); (case aF => exact (fun _ _ => trivial)); (case aO => exact (lZR HO_16.out)); (case aS => exact (below_size (lZB HB.out))); (case aL => have := LMc80.out; omega); intro v433 w82 ho hb hg hat; rw [← Ny432.out] at ho; replace HO_8 := aZ (Kd.R_over' (lZR HO_8.out) (Kd.R_typed (lZR HO_16.out)) (by decide) hg); replace HO_14 := aZ (Kd.S_after (ok := (fun _ => True)) (by (with_reducible repeat (first | apply Kd.S_alloc | apply Kd.S_drewN | apply Kd.S_drew)); exact Kd.S_mono HO_14.out (fun _ hk => ⟨trivial, hk⟩)) hg hat); replace HO_18 := aZ (Kd.R_over' (lZR HO_18.out) (Kd.R_typed (lZR HO_16.out)) (by decide) hg); replace HB := aZ (hb); have HO434 := aZ (ho); clear HO_16; clear ho hb hg hat))
            go_roundg k5
            case measure => have := HJ3.out; have := HK2.out; have := HK3.out; have := HK4.out; have := HK5.out; omega
            case rel => exact ⟨(x8_4), (y432), (wrap64 (x17_4 + 1)), tZB, H', ⟨by have := HJ3.out; have := HK2.out; have := HK3.out; have := HK4.out; have := HK5.out; omega⟩, ⟨by (with_reducible repeat (first | apply Kd.R_alloc | apply Kd.R_drewN | apply Kd.R_drew)); exact Kd.R_mono HO_8.out (fun _ hk => trivial)⟩, ⟨by (with_reducible repeat (first | apply Kd.S_alloc | apply Kd.S_drewN | apply Kd.S_drew)); exact Kd.S_mono HO_14.out (fun _ hk => hk.2)⟩, ⟨lZR HO434.out⟩, ⟨bZ⟩⟩
           rw [if_pos c63] at H; have c63b0 := decide_eq_true c63; clear c63
           by_cases c64 : 0 ≤ x19_5
           rotate_left
           ·rw [if_neg c64] at H; exact absurd H (by simp)
           rw [if_pos c64] at H; have c64b0 := decide_eq_true c64; clear c64
           by_cases c65 : x19_5 < (l2.length : Int)
           rotate_left
           ·rw [if_neg c65] at H; exact absurd H (by simp)
           rw [if_pos c65] at H; have c65b0 := decide_eq_true c65; clear c65
           by_cases c66 : 0 ≤ x17_4
           rotate_left
           ·rw [if_neg c66] at H; exact absurd H (by simp)
           rw [if_pos c66] at H; have c66b0 := decide_eq_true c66; clear c66
           by_cases c67 : x17_4 < ((rd_L2 l2 x19_5).length : Int)
           rotate_left
           ·rw [if_neg c67] at H; exact absurd H (by simp)
           rw [if_pos c67] at H; have c67b0 := decide_eq_true c67; clear c67
           by_cases c68 : x19_5 < 3
           rotate_left
           ·rw [if_neg c68] at H; exact absurd H (by simp)
           rw [if_pos c68] at H; have c68b0 := eq_true c68; have c68b1 := decide_eq_true c68; clear c68
           by_cases c69 : 0 ≤ x15_3
           rotate_left
           ·rw [if_neg c69] at H; exact absurd H (by simp)
           rw [if_pos c69] at H; have c69b0 := eq_true c69; have c69b1 := decide_eq_true c69; clear c69
           by_cases c70 : x15_3 < 3
           rotate_left
           ·rw [if_neg c70] at H; exact absurd H (by simp)
           rw [if_pos c70] at H; have c70b0 := eq_true c70; have c70b1 := decide_eq_true c70; clear c70
           by_cases c71 : (x19_5 * 3 + x15_3) < 9
           rotate_left
           ·rw [if_neg c71] at H; exact absurd H (by simp)
           rw [if_pos c71] at H; have c71b0 := eq_true c71; have c71b1 := decide_eq_true c71; obtain ⟨ji72, hji72⟩ : ∃ j_ : Int, (x19_5 * 3 + x15_3) = j_ := ⟨_, rfl⟩; have FLji72 := aZ (show (ji72 : Int).toNat = x19_5.toNat * 3 + x15_3.toNat from by rw [← hji72]; exact flat_nat 3 (by first | (with_reducible assumption) | exact eq_true (of_decide_eq_true tZE)) (by first | (with_reducible assumption) | exact eq_true (of_decide_eq_true tZE))); replace H : (if 0 ≤ (ji72) then (if (ji72) < (x18_5.length : Int) then (impl_mutual.l5 k5 l0 a1 l2 x8_4 x14_3 x15_3 x16_4 x17_4 (x18_5.set ((ji72) : Int).toNat (rd (rd_L2 l2 x19_5) x17_4)) (wrap64 (x19_5 + 1))) else (none)) else (none)) = some (r1, r2) := by first | (rw [hji72] at H; exact H) | (simp only [hji72] at H ⊢; exact H)
           (try rw [hji72] at c71b0); (try rw [hji72] at c71b1); (try rw [hji72] at c71)
           by_cases c73 : 0 ≤ (ji72)
           rotate_left
           ·rw [if_neg c73] at H; exact absurd H (by simp)
           rw [if_pos c73] at H; have c73b0 := decide_eq_true c73; clear c73
           by_cases c74 : (ji72) < (x18_5.length : Int)
           rotate_left
           ·rw [if_neg c74] at H; exact absurd H (by simp)
           rw [if_pos c74] at H; have c74b0 := decide_eq_true c74; clear c74; obtain ⟨y430, hy430⟩ : ∃ y_ : List Int, y_ = (x18_5.set ((ji72) : Int).toNat (rd (rd_L2 l2 x19_5) x17_4)) := ⟨_, rfl⟩; replace H : (impl_mutual.l5 k5 l0 a1 l2 x8_4 x14_3 x15_3 x16_4 x17_4 y430 (wrap64 (x19_5 + 1))) = some (r1, r2) := by first | (rw [hy430]; with_reducible exact H) | (have H2_ := (Option.bind_some _ _).symm.trans H; rw [hy430]; with_reducible exact H2_) | (have H2_ := (Option.bind_some _ _).symm.trans H; with_reducible exact H2_) | with_reducible exact H | (rw [hy430]; exact H) | exact H
           have Ny430 := Aside0.mk hy430; clear hy430; have H' := Aside0.mk H; clear H
           try go_wp2
           replace HO_8 := aZ (Kd.R_drew HO_8.out); replace HO_14 := aZ (Kd.S_drew HO_14.out); replace HO_16 := aZ (Kd.R_drew HO_16.out); replace HO_18 := aZ (Kd.R_drew HO_18.out); replace HB := aZ (below_drew1 HB.out); have p428 : 0 ≤ (x19_5 : Int) := of_decide_eq_true tZE; have q428 : x19_5 < (l2.length : Int) := of_decide_eq_true tZE; obtain ⟨ad428, A428_0, c428_0, e428, hx428_0, hl428_0, hi428_0⟩ := at_L2 HR2.out x19_5 p428 q428; have hw428_0 := hx428_0; have hz428_0 := hx428_0
           cases e428
           replace hx428_0 := cZ HB hx428_0; have HR428_0 := Aside0.mk hi428_0; have HC428_0 := Aside0.mk hl428_0; clear hi428_0 hl428_0; replace p428 := eq_true p428; replace q428 := eq_true q428; have p429 : 0 ≤ (x17_4 : Int) := of_decide_eq_true tZE; have q429 : x17_4 < ((rd_L2 l2 x19_5).length : Int) := of_decide_eq_true tZE; obtain ⟨ad429, e429, hx429_0⟩ := Kd.at_int HR428_0.out x17_4 p429 q429; have hw429_0 := hx429_0
           cases e429
           replace hx429_0 := cZ HB hx429_0; replace p429 := eq_true p429; replace q429 := eq_true q429; have p75 : 0 ≤ ((ji72) : Int) := of_decide_eq_true tZE; have q75 : ((ji72) : Int) < ((x18_5.length : Int) : Int) := of_decide_eq_true tZE; obtain ⟨go75, co75, eo75, gb75, gl75, cl75, HG75⟩ := Kd.R_form HO_18.out (by omega); (first | cases eo75 | (injection eo75 with ea_ en_ ec_; (first | subst ea_ | (injection ea_ with ea_; subst ea_)); subst ec_; clear en_)); have GB75 := Aside0.mk gb75; have GG75 := Aside0.mk HG75; clear gb75 gl75 HG75; obtain ⟨hx75_0, hf75_0⟩ := Kd.R_celln 0 HO_18.out ((ji72) : Int) p75 q75; rw [FLji72.out] at hx75_0 hf75_0; replace p75 := eq_true p75; replace q75 := eq_true q75; (try clear GG75); obtain ⟨cl77_, hgg77_⟩ := Kd.R_typed (HO_18.out) go75 rfl; have GG75 := Aside0.mk hgg77_; clear hgg77_
           have HP77 := Kd.R_putn HO_18.out ((ji72) : Int) (rd (rd_L2 l2 x19_5) x17_4); rw [← Ny430.out] at HP77; rw [FLji72.out] at HP77; have HQ77 := Aside0.mk HP77; clear HP77; refine start_ (n := 12) (S := fun w' => w'.cell? (ad428.add (x19_5).toNat) = some (.slice (some ad429) (rd_L2 l2 x19_5).length c428_0) ∧ w'.cell? (ad429.add (x17_4).toNat) = some (.int .i64 (rd (rd_L2 l2 x19_5) x17_4))) (ds := [11]) L11' kZ rfl rfl ⟨((HB.out.cell (World.block_lt_of_cell? w _ hw428_0)).trans hw428_0), ((HB.out.cell (World.block_lt_of_cell? w _ hw429_0)).trans hw429_0)⟩ (fun hHeld => ?_); refine with_tabW impl_mutual.tab37 impl_mutual.bits37 (fun HT_ HW_ => ?_); generalize wr.drew = w76 at HO_8 HO_14 HO_16 HO_18 HB GG75 HQ77 HR428_0 hf75_0 hx428_0 hx429_0 hx75_0 hHeld ⊢
           refine pure_ (i := 0) (N := some 119) (v := ?_) (a' := ?_) L12' rfl rfl (any_of HT_.out kZ) (fun _ _ _ h => h) (Or.inl ⟨by rfl, ?_⟩) ?_ ?_; rotate_left
           ·intro w'; go_simp; with_reducible rfl
           rotate_left
           ·simp only [Act.put, sZ1, sZ2, sZ3, i64_w, i32_w]; rfl
           refine pure_ (i := 1) (N := some 120) (v := ?_) (a' := ?_) L13' rfl rfl (any_of HT_.out kZ) (fun _ _ _ h => h) (Or.inl ⟨by rfl, ?_⟩) ?_ ?_; rotate_left
           ·intro w'; go_simp; with_reducible rfl
           rotate_left
           ·simp only [Act.put, sZ1, sZ2, sZ3, i64_w, i32_w]; rfl
           refine pure_ (i := 2) (N := some 121) (v := ?_) (a' := ?_) L14' rfl rfl (any_of HT_.out kZ) (fun _ _ _ h => h) (Or.inl ⟨by rfl, ?_⟩) ?_ ?_; rotate_left
           ·intro w'; go_simp; with_reducible rfl
           rotate_left
           ·simp only [Act.put, sZ1, sZ2, sZ3, i64_w, i32_w]; rfl
           refine pure_ (i := 3) (N := some 122) (v := ?_) (a' := ?_) L15' rfl rfl (any_of HT_.out kZ) (fun _ _ _ h => h) (Or.inl ⟨by rfl, ?_⟩) ?_ ?_; rotate_left
           ·intro w'; go_simp; with_reducible rfl
           rotate_left
           ·simp only [Act.put, sZ1, sZ2, sZ3, i64_w, i32_w]; rfl
           refine pure_ (i := 4) (N := some 123) (v := ?_) (a' := ?_) L16' rfl rfl (any_of HT_.out kZ) (fun _ _ _ h => h) (Or.inl ⟨by rfl, ?_⟩) ?_ ?_; rotate_left
           ·intro w'; go_simp; with_reducible rfl
           rotate_left
           ·simp only [Act.put, sZ1, sZ2, sZ3, i64_w, i32_w]; rfl
           refine pure_ (i := 6) (N := some 125) (v := ?_) (a' := ?_) L17' rfl rfl (any_of HT_.out kZ) (fun _ _ _ h => h) (Or.inl ⟨by rfl, ?_⟩) ?_ ?_; rotate_left
           ·intro w'; go_simp; with_reducible rfl
           rotate_left
           ·simp only [Act.put, sZ1, sZ2, sZ3, i64_w, i32_w]; rfl
           refine pure_ (i := 9) (N := some 128) (v := ?_) (a' := ?_) L18' rfl rfl (any_of HT_.out kZ) (fun _ _ _ h => h) (Or.inl ⟨by rfl, ?_⟩) ?_ ?_; rotate_left
           ·intro w'; go_simp; with_reducible rfl
           rotate_left
           ·simp only [Act.put, sZ1, sZ2, sZ3, i64_w, i32_w]; rfl
           refine take_ (i := 5) (N := some 124) (v := ?_) (a' := ?_) L19' rfl rfl (take_ofW HT_.out HW_.out kZ) (fun _ _ _ h => h) (Or.inl ⟨by rfl, ?_⟩) hHeld ?_ ?_; rotate_left
           ·rintro w' ⟨s0, s1⟩
            go_simp; with_reducible rfl
           rotate_left
           ·simp only [Act.put, sZ1, sZ2, sZ3, i64_w, i32_w]; rfl
           refine pure_ (i := 7) (N := some 126) (v := ?_) (a' := ?_) L20' rfl rfl (any_of HT_.out kZ) (fun _ _ _ h => h) (Or.inl ⟨by rfl, ?_⟩) ?_ ?_; rotate_left
           ·intro w'; go_simp; with_reducible rfl
           rotate_left
           ·simp only [Act.put, sZ1, sZ2, sZ3, i64_w, i32_w]; rfl
           refine take_ (i := 8) (N := some 127) (v := ?_) (a' := ?_) L21' rfl rfl (take_ofW HT_.out HW_.out kZ) (fun _ _ _ h => h) (Or.inl ⟨by rfl, ?_⟩) hHeld ?_ ?_; rotate_left
           ·rintro w' ⟨s0, s1⟩
            go_simp; with_reducible rfl
           rotate_left
           ·simp only [Act.put, sZ1, sZ2, sZ3, i64_w, i32_w]; rfl
           refine pure_ (i := 10) (N := some 129) (v := ?_) (a' := ?_) L22' rfl rfl (any_of HT_.out kZ) (fun _ _ _ h => h) (Or.inl ⟨by rfl, ?_⟩) ?_ ?_; rotate_left
           ·intro w'; go_simp; with_reducible rfl
           rotate_left
           ·simp only [Act.put, sZ1, sZ2, sZ3, i64_w, i32_w]; rfl
           refine last_ (i := 11) (N := none) L23' rfl rfl (one_of HT_.out kZ) (by decide) (fun K hK => ?_); refine skip_ (w1 := ?_) (by rfl) rfl ?_ ?_; rotate_left
           ·go_simp; rfl
           refine hK.out _ _ ?_; clear hK K; refine done_ (done_of HT_.out kZ) ?_
           try go_wp2
           go_roundg k5
           case measure => have := HJ3.out; have := HK2.out; have := HK3.out; have := HK4.out; have := HK5.out; omega
           case rel => exact ⟨(y430), (wrap64 (x19_5 + 1)), tZB, H', ⟨by have := HJ3.out; have := HK2.out; have := HK3.out; have := HK4.out; have := HK5.out; omega⟩, ⟨by (with_reducible repeat (first | apply Kd.R_alloc | apply Kd.R_drewN | apply Kd.R_drew)); exact Kd.R_mono (Kd.R_far (p := ⟨go75, x19_5.toNat * 3 + x15_3.toNat, none⟩) (Kd.R_mono HO_8.out (fun k_ hk => (⟨hk, fun e_ => hk (by rw [e_]; rfl)⟩ : _ ∧ k_ ≠ go75))) (fun _ hk => hk.2) (.int .i64 (rd (rd_L2 l2 x19_5) x17_4))) (fun _ hk => hk.1)⟩, ⟨by (with_reducible repeat (first | apply Kd.S_alloc | apply Kd.S_drewN | apply Kd.S_drew)); exact Kd.S_mono (Kd.S_far (p := ⟨go75, x19_5.toNat * 3 + x15_3.toNat, none⟩) (Kd.S_types HO_14.out GG75.out (by decide)) (fun _ hk => hk.2) (.int .i64 (rd (rd_L2 l2 x19_5) x17_4))) (fun _ hk => hk.1)⟩, ⟨by (with_reducible repeat (first | apply Kd.R_alloc | apply Kd.R_drewN | apply Kd.R_drew)); exact Kd.R_mono (Kd.R_far (p := ⟨go75, x19_5.toNat * 3 + x15_3.toNat, none⟩) (Kd.R_types HO_16.out GG75.out (by decide)) (fun _ hk => hk.2) (.int .i64 (rd (rd_L2 l2 x19_5) x17_4))) (fun _ hk => trivial)⟩, ⟨by exact HQ77.out⟩, ⟨bZ⟩⟩
end Go.Proofs.Ytadehdkmggpehaa.PFnMutualWhole
