import Derived.Test.YtfkakbpjddgmeaaHPFnHandedOnx0
import Derived.Test.YtfkakbpjddgmeaaHPFnHandedOnx8
import Derived.Test.YtfkakbpjddgmeaaHPFnHandedOnx9
import Derived.Test.YtfkakbpjddgmeaaHSlimWords
namespace Go.Proofs.Ytfkakbpjddgmeaa.PFnHandedOn
open Go.Proofs.Ytfkakbpjddgmeaa.SlimWords
open Go.RowKit Go.Proofs.YtfkakbpjddgmeaaW.PrintWords Go.Proofs.YtfkakbpjddgmeaaW.PrintLast Go.Proofs.YtfkakbpjddgmeaaW.PrintMore Go.Proofs.Ytfkakbpjddgmeaa.MapWords Go.Proofs.Ytfkakbpjddgmeaa.IterWords Go.Proofs.Ytfkakbpjddgmeaa.MarkWords
attribute [local go_sem] max2_int min2_int max_two min_two max_three min_three max_four min_four
set_option linter.unusedVariables false
set_option linter.unusedSimpArgs false
private abbrev I' := true
private abbrev O' := false
private abbrev L0' : Array Bool := #[O',O',O',O',O',O',O',O',O']
private abbrev L1' : Array Bool := #[I',O',O',O',O',O',O',O',O']
private abbrev L2' : Array Bool := #[I',I',O',O',O',O',O',O',O']
private abbrev L3' : Array Bool := #[I',I',O',O',O',I',O',O',O']
private abbrev L4' : Array Bool := #[I',I',I',O',O',I',O',O',O']
private abbrev L5' : Array Bool := #[I',I',I',I',O',I',O',O',O']
private abbrev L6' : Array Bool := #[I',I',I',I',I',I',O',O',O']
private abbrev L7' : Array Bool := #[I',I',I',I',I',I',I',O',O']
private abbrev L8' : Array Bool := #[I',I',I',I',I',I',I',I',O']
private abbrev L9' : Array Bool := #[I',I',I',I',I',I',I',I',I']
private abbrev L10' : Array Bool := #[O',O',O',O',O',O',O',O',O',O',O',O',O',O',O',O',O',O',O',O',O']
private abbrev L11' : Array Bool := #[I',O',O',O',O',O',O',O',O',O',O',O',O',O',O',O',O',O',O',O',O']
private abbrev L12' : Array Bool := #[I',I',O',O',O',O',O',O',O',O',O',O',O',O',O',O',O',O',O',O',O']
private abbrev L13' : Array Bool := #[I',I',O',I',O',O',O',O',O',O',O',O',O',O',O',O',O',O',O',O',O']
private abbrev L14' : Array Bool := #[I',I',O',I',O',O',I',O',O',O',O',O',O',O',O',O',O',O',O',O',O']
private abbrev L15' : Array Bool := #[I',I',O',I',O',O',I',I',O',O',O',O',O',O',O',O',O',O',O',O',O']
private abbrev L16' : Array Bool := #[I',I',O',I',O',O',I',I',O',I',O',O',O',O',O',O',O',O',O',O',O']
private abbrev L17' : Array Bool := #[I',I',O',I',O',O',I',I',O',I',O',O',O',O',I',O',O',O',O',O',O']
private abbrev L18' : Array Bool := #[I',I',O',I',O',O',I',I',O',I',O',O',O',O',I',I',O',O',O',O',O']
private abbrev L19' : Array Bool := #[I',I',O',I',O',O',I',I',O',I',O',O',O',O',I',I',I',O',O',O',O']
private abbrev L20' : Array Bool := #[I',I',I',I',O',O',I',I',O',I',O',O',O',O',I',I',I',O',O',O',O']
private abbrev L21' : Array Bool := #[I',I',I',I',I',O',I',I',O',I',O',O',O',O',I',I',I',O',O',O',O']
private abbrev L22' : Array Bool := #[I',I',I',I',I',I',I',I',O',I',O',O',O',O',I',I',I',O',O',O',O']
private abbrev L23' : Array Bool := #[I',I',I',I',I',I',I',I',I',I',O',O',O',O',I',I',I',O',O',O',O']
private abbrev L24' : Array Bool := #[I',I',I',I',I',I',I',I',I',I',I',O',O',O',I',I',I',O',O',O',O']
private abbrev L25' : Array Bool := #[I',I',I',I',I',I',I',I',I',I',I',I',O',O',I',I',I',O',O',O',O']
private abbrev L26' : Array Bool := #[I',I',I',I',I',I',I',I',I',I',I',I',I',O',I',I',I',O',O',O',O']
private abbrev L27' : Array Bool := #[I',I',I',I',I',I',I',I',I',I',I',I',I',I',I',I',I',O',O',O',O']
private abbrev L28' : Array Bool := #[I',I',I',I',I',I',I',I',I',I',I',I',I',I',I',I',I',I',O',O',O']
private abbrev L29' : Array Bool := #[I',I',I',I',I',I',I',I',I',I',I',I',I',I',I',I',I',I',I',O',O']
private abbrev L30' : Array Bool := #[I',I',I',I',I',I',I',I',I',I',I',I',I',I',I',I',I',I',I',I',O']
private abbrev L31' : Array Bool := #[I',I',I',I',I',I',I',I',I',I',I',I',I',I',I',I',I',I',I',I',I']
private abbrev L32' : Array Bool := #[O',O',O',O',O',O',O',O',O',O',O',O',O',O',O',O',O',O',O',O',O',O',O',O',O',O',O',O',O',O',O']
private abbrev L33' : Array Bool := #[I',O',O',O',O',O',O',O',O',O',O',O',O',O',O',O',O',O',O',O',O',O',O',O',O',O',O',O',O',O',O']
private abbrev L34' : Array Bool := #[I',O',I',O',O',O',O',O',O',O',O',O',O',O',O',O',O',O',O',O',O',O',O',O',O',O',O',O',O',O',O']
private abbrev L35' : Array Bool := #[I',O',I',O',O',I',O',O',O',O',O',O',O',O',O',O',O',O',O',O',O',O',O',O',O',O',O',O',O',O',O']
private abbrev L36' : Array Bool := #[I',O',I',O',O',I',I',O',O',O',O',O',O',O',O',O',O',O',O',O',O',O',O',O',O',O',O',O',O',O',O']
private abbrev L37' : Array Bool := #[I',O',I',O',O',I',I',I',O',O',O',O',O',O',O',O',O',O',O',O',O',O',O',O',O',O',O',O',O',O',O']
private abbrev L38' : Array Bool := #[I',I',I',O',O',I',I',I',O',O',O',O',O',O',O',O',O',O',O',O',O',O',O',O',O',O',O',O',O',O',O']
private abbrev L39' : Array Bool := #[I',I',I',I',O',I',I',I',O',O',O',O',O',O',O',O',O',O',O',O',O',O',O',O',O',O',O',O',O',O',O']
private abbrev L40' : Array Bool := #[I',I',I',I',I',I',I',I',O',O',O',O',O',O',O',O',O',O',O',O',O',O',O',O',O',O',O',O',O',O',O']
private abbrev L41' : Array Bool := #[I',I',I',I',I',I',I',I',I',O',O',O',O',O',O',O',O',O',O',O',O',O',O',O',O',O',O',O',O',O',O']
private abbrev L42' : Array Bool := #[I',I',I',I',I',I',I',I',I',I',O',O',O',O',O',O',O',O',O',O',O',O',O',O',O',O',O',O',O',O',O']
private abbrev L43' : Array Bool := #[I',I',I',I',I',I',I',I',I',I',I',O',O',O',O',O',O',O',O',O',O',O',O',O',O',O',O',O',O',O',O']
private abbrev L44' : Array Bool := #[I',I',I',I',I',I',I',I',I',I',I',I',O',O',O',O',O',O',O',O',O',O',O',O',O',O',O',O',O',O',O']
private abbrev L45' : Array Bool := #[I',I',I',I',I',I',I',I',I',I',I',I',I',O',O',O',O',O',O',O',O',O',O',O',O',O',O',O',O',O',O']
private abbrev L46' : Array Bool := #[I',I',I',I',I',I',I',I',I',I',I',I',I',I',O',O',O',O',O',O',O',O',O',O',O',O',O',O',O',O',O']
private abbrev L47' : Array Bool := #[I',I',I',I',I',I',I',I',I',I',I',I',I',I',I',O',O',O',O',O',O',O',O',O',O',O',O',O',O',O',O']
private abbrev L48' : Array Bool := #[I',I',I',I',I',I',I',I',I',I',I',I',I',I',I',I',O',O',O',O',O',O',O',O',O',O',O',O',O',O',O']
private abbrev L49' : Array Bool := #[I',I',I',I',I',I',I',I',I',I',I',I',I',I',I',I',I',O',O',O',O',O',O',O',O',O',O',O',O',O',O']
private abbrev L50' : Array Bool := #[I',I',I',I',I',I',I',I',I',I',I',I',I',I',I',I',I',I',O',O',O',O',O',O',O',O',O',O',O',O',O']
private abbrev L51' : Array Bool := #[I',I',I',I',I',I',I',I',I',I',I',I',I',I',I',I',I',I',I',O',O',O',O',O',O',O',O',O',O',O',O']
private abbrev L52' : Array Bool := #[I',I',I',I',I',I',I',I',I',I',I',I',I',I',I',I',I',I',I',I',O',O',O',O',O',O',O',O',O',O',O']
private abbrev L53' : Array Bool := #[I',I',I',I',I',I',I',I',I',I',I',I',I',I',I',I',I',I',I',I',I',O',O',O',O',O',O',O',O',O',O']
private abbrev L54' : Array Bool := #[I',I',I',I',I',I',I',I',I',I',I',I',I',I',I',I',I',I',I',I',I',I',O',O',O',O',O',O',O',O',O']
private abbrev L55' : Array Bool := #[I',I',I',I',I',I',I',I',I',I',I',I',I',I',I',I',I',I',I',I',I',I',I',O',O',O',O',O',O',O',O']
private abbrev L56' : Array Bool := #[I',I',I',I',I',I',I',I',I',I',I',I',I',I',I',I',I',I',I',I',I',I',I',I',O',O',O',O',O',O',O']
private abbrev L57' : Array Bool := #[I',I',I',I',I',I',I',I',I',I',I',I',I',I',I',I',I',I',I',I',I',I',I',I',I',O',O',O',O',O',O']
private abbrev L58' : Array Bool := #[I',I',I',I',I',I',I',I',I',I',I',I',I',I',I',I',I',I',I',I',I',I',I',I',I',I',O',O',O',O',O']
private abbrev L59' : Array Bool := #[I',I',I',I',I',I',I',I',I',I',I',I',I',I',I',I',I',I',I',I',I',I',I',I',I',I',I',O',O',O',O']
private abbrev L60' : Array Bool := #[I',I',I',I',I',I',I',I',I',I',I',I',I',I',I',I',I',I',I',I',I',I',I',I',I',I',I',I',O',O',O']
private abbrev L61' : Array Bool := #[I',I',I',I',I',I',I',I',I',I',I',I',I',I',I',I',I',I',I',I',I',I',I',I',I',I',I',I',I',O',O']
private abbrev L62' : Array Bool := #[I',I',I',I',I',I',I',I',I',I',I',I',I',I',I',I',I',I',I',I',I',I',I',I',I',I',I',I',I',I',O']
private abbrev L63' : Array Bool := #[I',I',I',I',I',I',I',I',I',I',I',I',I',I',I',I',I',I',I',I',I',I',I',I',I',I',I',I',I',I',I']
private abbrev L64' : Array Bool := #[I',I',I',I',I',I',I',I',I',I',I',I',I',O',I',O',O',O',O',O',O',O',O',O',O',O',O',O',O',O',O']
private abbrev L65' : Array Bool := #[I',I',I',I',I',I',I',I',I',I',I',I',I',I',I',I',I',I',I',I',I',O',I',O',O',O',O',O',O',O',O']
private abbrev L66' : Array Bool := #[I',I',I',I',I',I',I',I',I',I',I',I',I',I',I',I',I',I',I',I',I',O',I',O',I',O',O',O',O',O',O']
private abbrev L67' : Array Bool := #[I',I',I',I',I',I',I',I',I',I',I',I',I',I',I',I',I',I',I',I',I',O',I',O',I',O',I',O',O',O',O']
private abbrev L68' : Array Bool := #[I',I',I',I',I',I',I',I',I',I',I',I',I',I',I',I',I',I',I',I',I',I',I',O',I',O',I',O',O',O',O']
private abbrev L69' : Array Bool := #[I',I',I',I',I',I',I',I',I',I',I',I',I',I',I',I',I',I',I',I',I',I',I',I',I',O',I',O',O',O',O']
mutual
def spec_StepDown.j0 : Nat → List Int → List (S31) → List Int → Bool → Option (List Int × Bool)
  | 0, _, _, _, _ => none
  | k + 1, x0, x1, x6, x22 => if x22 = true then (some (x6, false)) else ((some (([] : List Int) : List Int)).bind fun y430 => (if y430.length + x0.length < 17592186044416 then (spec_StepDown.l0 k x0 x1 x6 (y430 ++ x0) (([] : List Int)) 0) else (none)))
def spec_StepDown.l0 : Nat → List Int → List (S31) → List Int → List Int → List Int → Int → Option (List Int × Bool)
  | 0, _, _, _, _, _, _ => none
  | k + 1, x0, x1, x6, x7, x8, x9 => if x9 < (x1.length : Int) then (if 0 ≤ x9 then ((spec_l1In.f ((rd_T31 x1 x9).f0) 0 (wrap64 ((x0.length : Int) - 1))).bind fun t441 => (if t441 = true then ((spec_l7Has.f k x8 ((rd_T31 x1 x9).f0)).bind fun t442 => (if t442 = true then (spec_StepDown.j2 k x0 x1 x6 x7 x8 x9 true ((rd_T31 x1 x9).f0) ((rd_T31 x1 x9).f1) ((rd_T31 x1 x9).f2)) else (if (((rd_T31 x1 x9).f1).length : Int) = (((rd_T31 x1 x9).f2).length : Int) then (spec_StepDown.j2 k x0 x1 x6 x7 x8 x9 (decide ((((rd_T31 x1 x9).f1).length : Int) > 200)) ((rd_T31 x1 x9).f0) ((rd_T31 x1 x9).f1) ((rd_T31 x1 x9).f2)) else (spec_StepDown.j2 k x0 x1 x6 x7 x8 x9 true ((rd_T31 x1 x9).f0) ((rd_T31 x1 x9).f1) ((rd_T31 x1 x9).f2))))) else (spec_StepDown.j2 k x0 x1 x6 x7 x8 x9 true ((rd_T31 x1 x9).f0) ((rd_T31 x1 x9).f1) ((rd_T31 x1 x9).f2)))) else (none)) else (some (x7, true))
def spec_StepDown.j2 : Nat → List Int → List (S31) → List Int → List Int → List Int → Int → Bool → Int → List Int → List Int → Option (List Int × Bool)
  | 0, _, _, _, _, _, _, _, _, _, _ => none
  | k + 1, x0, x1, x6, x7, x8, x9, x65, x441000, x441001, x441002 => if x65 = true then (some (x6, false)) else (if x8.length < 17592186044416 then (spec_StepDown.l1 k x0 x1 x6 x7 (x8 ++ [x441000]) x9 0 x441000 x441001 x441002) else (none))
def spec_StepDown.l1 : Nat → List Int → List (S31) → List Int → List Int → List Int → Int → Int → Int → List Int → List Int → Option (List Int × Bool)
  | 0, _, _, _, _, _, _, _, _, _, _ => none
  | k + 1, x0, x1, x6, x7, x8, x9, x11, x441000, x441001, x441002 => if x11 < (x441001.length : Int) then (if 0 ≤ x11 then ((spec_l1In.f (rd x441001 x11) 0 (wrap64 ((x0.length : Int) - 1))).bind fun t447 => (if t447 = true then ((spec_l7Has.f k x8 (rd x441001 x11)).bind fun t449 => (if t449 = true then (some (x6, false)) else (if x11 ≤ (x441001.length : Int) then ((spec_l7Has.f k (x441001.take (x11 : Int).toNat) (rd x441001 x11)).bind fun t452 => (if t452 = true then (some (x6, false)) else (spec_StepDown.l1 k x0 x1 x6 x7 x8 x9 (wrap64 (x11 + 1)) x441000 x441001 x441002))) else (none)))) else (some (x6, false)))) else (none)) else (if 0 ≤ x441000 then (if x441000 < (x7.length : Int) then ((spec_Shares.f k (rd x7 x441000) x441002).bind fun t454 => (if (t454.length : Int) = 0 then (some (x6, false)) else (spec_StepDown.l2 k x0 x1 x6 (x7.set (x441000 : Int).toNat 0) x8 x9 t454 0 x441000 x441001 x441002))) else (none)) else (none))
def spec_StepDown.l2 : Nat → List Int → List (S31) → List Int → List Int → List Int → Int → List Int → Int → Int → List Int → List Int → Option (List Int × Bool)
  | 0, _, _, _, _, _, _, _, _, _, _, _ => none
  | k + 1, x0, x1, x6, x7, x8, x9, x12, x13, x441000, x441001, x441002 => if x13 < (x12.length : Int) then (if 0 ≤ x13 then (if x13 < (x441001.length : Int) then (if 0 ≤ (rd x441001 x13) then (if (rd x441001 x13) < (x7.length : Int) then ((spec_l1Amount.f (wrap64 ((rd x7 (rd x441001 x13)) + (rd x12 x13)))).bind fun t465 => (if t465 = true then (spec_StepDown.l2 k x0 x1 x6 (x7.set ((rd x441001 x13) : Int).toNat (wrap64 ((rd x7 (rd x441001 x13)) + (rd x12 x13)))) x8 x9 x12 (wrap64 (x13 + 1)) x441000 x441001 x441002) else (some (x6, false)))) else (none)) else (none)) else (none)) else (none)) else (spec_StepDown.l0 k x0 x1 x6 x7 x8 (wrap64 (x9 + 1)))
end
def spec_StepDown.f (k : Nat) (l0 : List Int) (l1 : List (S31)) : Option (List Int × Bool) := (some (([] : List Int) : List Int)).bind fun y426 => ((spec_l7Costs.f k l0).bind fun t429 => (if t429 = true then (spec_StepDown.j0 k l0 l1 y426 (decide ((l1.length : Int) > 40))) else (spec_StepDown.j0 k l0 l1 y426 true)))
theorem spec_StepDown.mono_l : ∀ k, (∀ y0 y1 y2 y3, LeO (spec_StepDown.j0 k y0 y1 y2 y3) (spec_StepDown.j0 (k + 1) y0 y1 y2 y3)) ∧ (∀ y0 y1 y2 y3 y4 y5, LeO (spec_StepDown.l0 k y0 y1 y2 y3 y4 y5) (spec_StepDown.l0 (k + 1) y0 y1 y2 y3 y4 y5)) ∧ (∀ y0 y1 y2 y3 y4 y5 y6 y7 y8 y9, LeO (spec_StepDown.j2 k y0 y1 y2 y3 y4 y5 y6 y7 y8 y9) (spec_StepDown.j2 (k + 1) y0 y1 y2 y3 y4 y5 y6 y7 y8 y9)) ∧ (∀ y0 y1 y2 y3 y4 y5 y6 y7 y8 y9, LeO (spec_StepDown.l1 k y0 y1 y2 y3 y4 y5 y6 y7 y8 y9) (spec_StepDown.l1 (k + 1) y0 y1 y2 y3 y4 y5 y6 y7 y8 y9)) ∧ (∀ y0 y1 y2 y3 y4 y5 y6 y7 y8 y9 y10, LeO (spec_StepDown.l2 k y0 y1 y2 y3 y4 y5 y6 y7 y8 y9 y10) (spec_StepDown.l2 (k + 1) y0 y1 y2 y3 y4 y5 y6 y7 y8 y9 y10))
  | 0 => ⟨fun _ _ _ _ r h => by simp [spec_StepDown.j0] at h, fun _ _ _ _ _ _ r h => by simp [spec_StepDown.l0] at h, fun _ _ _ _ _ _ _ _ _ _ r h => by simp [spec_StepDown.j2] at h, fun _ _ _ _ _ _ _ _ _ _ r h => by simp [spec_StepDown.l1] at h, fun _ _ _ _ _ _ _ _ _ _ _ r h => by simp [spec_StepDown.l2] at h⟩
  | k + 1 => by
    obtain ⟨ih0, ih1, ih2, ih3, ih4⟩ := spec_StepDown.mono_l k
    refine ⟨?_, ?_, ?_, ?_, ?_⟩
    · intro y0 y1 y2 y3
      unfold spec_StepDown.j0
      repeat' first
      | (with_reducible exact ih0 _ _ _ _)
      | (with_reducible exact ih1 _ _ _ _ _ _)
      | (with_reducible exact ih2 _ _ _ _ _ _ _ _ _ _)
      | (with_reducible exact ih3 _ _ _ _ _ _ _ _ _ _)
      | (with_reducible exact ih4 _ _ _ _ _ _ _ _ _ _ _)
      | (with_reducible exact spec_Shares.mono _ _ _)
      | (with_reducible exact spec_l7Costs.mono _ _)
      | (with_reducible exact spec_l7Has.mono _ _ _)
      | (with_reducible exact LeO.refl _)
      | (with_reducible exact LeO.none _)
      | (with_reducible refine LeO.ite ?_ ?_)
      | (with_reducible refine LeO.bind ?_ (fun _ => ?_))
      | exact ih0 _ _ _ _
      | exact ih1 _ _ _ _ _ _
      | exact ih2 _ _ _ _ _ _ _ _ _ _
      | exact ih3 _ _ _ _ _ _ _ _ _ _
      | exact ih4 _ _ _ _ _ _ _ _ _ _ _
      | exact spec_Shares.mono _ _ _
      | exact spec_l7Costs.mono _ _
      | exact spec_l7Has.mono _ _ _
      | exact LeO.none _
      | refine LeO.ite ?_ ?_
      | refine LeO.bind ?_ (fun _ => ?_)
    · intro y0 y1 y2 y3 y4 y5
      unfold spec_StepDown.l0
      repeat' first
      | (with_reducible exact ih0 _ _ _ _)
      | (with_reducible exact ih1 _ _ _ _ _ _)
      | (with_reducible exact ih2 _ _ _ _ _ _ _ _ _ _)
      | (with_reducible exact ih3 _ _ _ _ _ _ _ _ _ _)
      | (with_reducible exact ih4 _ _ _ _ _ _ _ _ _ _ _)
      | (with_reducible exact spec_Shares.mono _ _ _)
      | (with_reducible exact spec_l7Costs.mono _ _)
      | (with_reducible exact spec_l7Has.mono _ _ _)
      | (with_reducible exact LeO.refl _)
      | (with_reducible exact LeO.none _)
      | (with_reducible refine LeO.ite ?_ ?_)
      | (with_reducible refine LeO.bind ?_ (fun _ => ?_))
      | exact ih0 _ _ _ _
      | exact ih1 _ _ _ _ _ _
      | exact ih2 _ _ _ _ _ _ _ _ _ _
      | exact ih3 _ _ _ _ _ _ _ _ _ _
      | exact ih4 _ _ _ _ _ _ _ _ _ _ _
      | exact spec_Shares.mono _ _ _
      | exact spec_l7Costs.mono _ _
      | exact spec_l7Has.mono _ _ _
      | exact LeO.none _
      | refine LeO.ite ?_ ?_
      | refine LeO.bind ?_ (fun _ => ?_)
    · intro y0 y1 y2 y3 y4 y5 y6 y7 y8 y9
      unfold spec_StepDown.j2
      repeat' first
      | (with_reducible exact ih0 _ _ _ _)
      | (with_reducible exact ih1 _ _ _ _ _ _)
      | (with_reducible exact ih2 _ _ _ _ _ _ _ _ _ _)
      | (with_reducible exact ih3 _ _ _ _ _ _ _ _ _ _)
      | (with_reducible exact ih4 _ _ _ _ _ _ _ _ _ _ _)
      | (with_reducible exact spec_Shares.mono _ _ _)
      | (with_reducible exact spec_l7Costs.mono _ _)
      | (with_reducible exact spec_l7Has.mono _ _ _)
      | (with_reducible exact LeO.refl _)
      | (with_reducible exact LeO.none _)
      | (with_reducible refine LeO.ite ?_ ?_)
      | (with_reducible refine LeO.bind ?_ (fun _ => ?_))
      | exact ih0 _ _ _ _
      | exact ih1 _ _ _ _ _ _
      | exact ih2 _ _ _ _ _ _ _ _ _ _
      | exact ih3 _ _ _ _ _ _ _ _ _ _
      | exact ih4 _ _ _ _ _ _ _ _ _ _ _
      | exact spec_Shares.mono _ _ _
      | exact spec_l7Costs.mono _ _
      | exact spec_l7Has.mono _ _ _
      | exact LeO.none _
      | refine LeO.ite ?_ ?_
      | refine LeO.bind ?_ (fun _ => ?_)
    · intro y0 y1 y2 y3 y4 y5 y6 y7 y8 y9
      unfold spec_StepDown.l1
      repeat' first
      | (with_reducible exact ih0 _ _ _ _)
      | (with_reducible exact ih1 _ _ _ _ _ _)
      | (with_reducible exact ih2 _ _ _ _ _ _ _ _ _ _)
      | (with_reducible exact ih3 _ _ _ _ _ _ _ _ _ _)
      | (with_reducible exact ih4 _ _ _ _ _ _ _ _ _ _ _)
      | (with_reducible exact spec_Shares.mono _ _ _)
      | (with_reducible exact spec_l7Costs.mono _ _)
      | (with_reducible exact spec_l7Has.mono _ _ _)
      | (with_reducible exact LeO.refl _)
      | (with_reducible exact LeO.none _)
      | (with_reducible refine LeO.ite ?_ ?_)
      | (with_reducible refine LeO.bind ?_ (fun _ => ?_))
      | exact ih0 _ _ _ _
      | exact ih1 _ _ _ _ _ _
      | exact ih2 _ _ _ _ _ _ _ _ _ _
      | exact ih3 _ _ _ _ _ _ _ _ _ _
      | exact ih4 _ _ _ _ _ _ _ _ _ _ _
      | exact spec_Shares.mono _ _ _
      | exact spec_l7Costs.mono _ _
      | exact spec_l7Has.mono _ _ _
      | exact LeO.none _
      | refine LeO.ite ?_ ?_
      | refine LeO.bind ?_ (fun _ => ?_)
    · intro y0 y1 y2 y3 y4 y5 y6 y7 y8 y9 y10
      unfold spec_StepDown.l2
      repeat' first
      | (with_reducible exact ih0 _ _ _ _)
      | (with_reducible exact ih1 _ _ _ _ _ _)
      | (with_reducible exact ih2 _ _ _ _ _ _ _ _ _ _)
      | (with_reducible exact ih3 _ _ _ _ _ _ _ _ _ _)
      | (with_reducible exact ih4 _ _ _ _ _ _ _ _ _ _ _)
      | (with_reducible exact spec_Shares.mono _ _ _)
      | (with_reducible exact spec_l7Costs.mono _ _)
      | (with_reducible exact spec_l7Has.mono _ _ _)
      | (with_reducible exact LeO.refl _)
      | (with_reducible exact LeO.none _)
      | (with_reducible refine LeO.ite ?_ ?_)
      | (with_reducible refine LeO.bind ?_ (fun _ => ?_))
      | exact ih0 _ _ _ _
      | exact ih1 _ _ _ _ _ _
      | exact ih2 _ _ _ _ _ _ _ _ _ _
      | exact ih3 _ _ _ _ _ _ _ _ _ _
      | exact ih4 _ _ _ _ _ _ _ _ _ _ _
      | exact spec_Shares.mono _ _ _
      | exact spec_l7Costs.mono _ _
      | exact spec_l7Has.mono _ _ _
      | exact LeO.none _
      | refine LeO.ite ?_ ?_
      | refine LeO.bind ?_ (fun _ => ?_)
theorem spec_StepDown.mono : ∀ a0 a1 k, LeO (spec_StepDown.f k a0 a1) (spec_StepDown.f (k + 1) a0 a1) := by
 intro a0 a1 k
 obtain ⟨ih0, ih1, ih2, ih3, ih4⟩ := spec_StepDown.mono_l k
 unfold spec_StepDown.f
 repeat' first
     | (with_reducible exact ih0 _ _ _ _)
     | (with_reducible exact ih1 _ _ _ _ _ _)
     | (with_reducible exact ih2 _ _ _ _ _ _ _ _ _ _)
     | (with_reducible exact ih3 _ _ _ _ _ _ _ _ _ _)
     | (with_reducible exact ih4 _ _ _ _ _ _ _ _ _ _ _)
     | (with_reducible exact spec_Shares.mono _ _ _)
     | (with_reducible exact spec_l7Costs.mono _ _)
     | (with_reducible exact spec_l7Has.mono _ _ _)
     | (with_reducible exact LeO.refl _)
     | (with_reducible exact LeO.none _)
     | (with_reducible refine LeO.ite ?_ ?_)
     | (with_reducible refine LeO.bind ?_ (fun _ => ?_))
     | exact ih0 _ _ _ _
     | exact ih1 _ _ _ _ _ _
     | exact ih2 _ _ _ _ _ _ _ _ _ _
     | exact ih3 _ _ _ _ _ _ _ _ _ _
     | exact ih4 _ _ _ _ _ _ _ _ _ _ _
     | exact spec_Shares.mono _ _ _
     | exact spec_l7Costs.mono _ _
     | exact spec_l7Has.mono _ _ _
     | exact LeO.none _
     | refine LeO.ite ?_ ?_
     | refine LeO.bind ?_ (fun _ => ?_)
def spec_StepDown.T16 : Bool × List (List Nat × List Nat) := (true, [([], []), ([0], [0]), ([], []), ([1, 2], [1, 2]), ([3], [3]), ([], []), ([5], [5]), ([6], [6]), ([4, 7], [4, 7]), ([8], [8]), ([9, 8], [9]), ([10], [10]), ([10], [10]), ([12, 10], [10, 12]), ([10], [10]), ([13, 14, 10], [10, 13, 14]), ([15, 10], [10, 15]), ([11, 16, 10, 10], [10, 11, 16]), ([10, 17], [10, 17]), ([18, 17], [18]), ([19], [19]), ([20, 19], [19, 20]), ([19], [19]), ([21, 22, 19], [19, 21, 22]), ([19], [19]), ([24, 19], [19, 24]), ([19], [19]), ([25, 26, 19], [19, 25, 26]), ([27, 19], [19, 27]), ([23, 28, 19, 19], [19, 23, 28]), ([19, 29], [19, 29])])
def spec_StepDown.B16 : List Nat := [0, 1, 0, 7, 15, 0, 32, 96, 255, 511, 1023, 2047, 2047, 6143, 2047, 30719, 63487, 131071, 262143, 524287, 1048575, 2097151, 1048575, 8388607, 1048575, 17825791, 1048575, 118489087, 252706815, 536870911, 1073741823]
theorem spec_StepDown.tab16 : rtab .any (opsOf Try.f10 16) = spec_StepDown.T16 := by kernel_rfl
theorem spec_StepDown.bits16 : waitsOk spec_StepDown.T16.2 spec_StepDown.B16 = true := by kernel_rfl
def spec_StepDown.T18 : Bool × List (List Nat × List Nat) := (true, [([], []), ([], []), ([1], [1]), ([0, 2], [0, 2]), ([3], [3]), ([], []), ([5], [5]), ([4, 6], [4, 6]), ([7, 7, 0, 1, 2, 3, 4, 5, 6, 7], [7])])
def spec_StepDown.B18 : List Nat := [0, 0, 2, 7, 15, 0, 32, 127, 255]
theorem spec_StepDown.tab18 : rtab .any (opsOf Try.f10 18) = spec_StepDown.T18 := by kernel_rfl
theorem spec_StepDown.bits18 : waitsOk spec_StepDown.T18.2 spec_StepDown.B18 = true := by kernel_rfl
def spec_StepDown.T25 : Bool × List (List Nat × List Nat) := (true, [([], []), ([], []), ([1], [1]), ([], []), ([2, 3], [2, 3]), ([4], [4]), ([], []), ([], []), ([7], [7]), ([], []), ([8, 9], [8, 9]), ([10], [10]), ([6, 11], [6, 11]), ([12], [12]), ([], []), ([], []), ([14, 15], [14, 15]), ([16], [16]), ([13, 17], [13, 17]), ([0, 5, 0, 1, 2, 3, 4, 5, 6, 7, 8, 9, 10, 11, 12, 13, 14, 15, 16, 17, 18], [0, 5]), ([19, 18, 0, 1, 2, 3, 4, 5, 6, 7, 8, 9, 10, 11, 12, 13, 14, 15, 16, 17, 18], [18, 19])])
def spec_StepDown.B25 : List Nat := [0, 0, 2, 0, 14, 30, 0, 0, 128, 0, 896, 1920, 4032, 8128, 0, 0, 49152, 114688, 262080, 524287, 1048575]
theorem spec_StepDown.tab25 : rtab .any (opsOf Try.f10 25) = spec_StepDown.T25 := by kernel_rfl
theorem spec_StepDown.bits25 : waitsOk spec_StepDown.T25.2 spec_StepDown.B25 = true := by kernel_rfl
set_option maxHeartbeats 8000000 in
set_option maxRecDepth 100000 in
theorem spec_StepDown.calls (k : Nat) (A0 : Option Addr) (c0 : Nat) (l0 : List Int) (A1 : Option Addr) (c1 : Nat) (l1 : List (S31)) (r1 : List Int) (r2 : Bool) (w : World) (hr0 : Kd.C (Kd.int .i64) w A0 l0.length l0) (hc0 : l0.length ≤ c0) (hr1 : Kd.C k31 w A1 l1.length l1) (hc1 : l1.length ≤ c1) (h : spec_StepDown.f k l0 l1 = some (r1, r2)) :
    Calls Try.prog 10 #[.slice A0 l0.length c0, .slice A1 l1.length c1] w fun e w' => ∃ v0_ : Value, e = .returned (.tuple #[v0_, .bool r2]) ∧ Kd.R (Kd.int .i64) 3 w' w.heap.size (fun _ => True) v0_ r1 ∧ Below w.heap.size w w' := by
 have hu31 := Try.underlying31; have HR0 := Aside0.mk hr0; have HC0 := Aside0.mk hc0; clear hr0 hc0; have HR1 := Aside0.mk hr1; have HC1 := Aside0.mk hc1; clear hr1 hc1; have HB := aZ (Below.refl w.heap.size w); have H : ((some (([] : List Int) : List Int)).bind fun y426 => ((spec_l7Costs.f k l0).bind fun t429 => (if t429 = true then (spec_StepDown.j0 k l0 l1 y426 (decide ((l1.length : Int) > 40))) else (spec_StepDown.j0 k l0 l1 y426 true)))) = some (r1, r2) := h; clear h; obtain ⟨y426, hy426⟩ : ∃ y_ : List Int, y_ = (([] : List Int)) := ⟨_, rfl⟩
 replace H : ((spec_l7Costs.f k l0).bind fun t429 => (if t429 = true then (spec_StepDown.j0 k l0 l1 y426 (decide ((l1.length : Int) > 40))) else (spec_StepDown.j0 k l0 l1 y426 true))) = some (r1, r2) := by first | (rw [hy426]; with_reducible exact H) | (have H2_ := (Option.bind_some _ _).symm.trans H; rw [hy426]; with_reducible exact H2_) | (have H2_ := (Option.bind_some _ _).symm.trans H; with_reducible exact H2_) | with_reducible exact H | (rw [hy426]; exact H) | exact H
 have Ny426 := Aside0.mk hy426; clear hy426; have HC3 := Aside0.mk H; clear H; go_enter Try.func10, Try.ntmps10
 go_upto_region 2 with (first | ((with_reducible refine gate_dst (N := 14) rfl ?_); (try (refine gate_guard (by rfl) ?_; dsimp only)); refine Kd.R_lit (Kd.int .i64) _ 3 ?hg (N := 14) ?hd (xs := ([] : List Int)) (inner := []) (ok := fun _ => True) (okp := fun _ => True) ?hr ?hp (fun _ hk => hk) trivial (Below.refl _ _) (Nat.le_refl _) (by simp) ?_; (case hd => rfl); (case hg => rfl); (case hr => first | (go_simp; done) | (go_simp; rfl)); (case hp => exact (Reps.none _ _)); intro v427 w4 ho5 hb hg_ hnew_; clear hg_ hnew_; (first | rw [← Ny426.out] at ho5 | (simp only [Int.reduceToNat] at ho5; rw [← Ny426.out] at ho5)); have HO428 := aZ (Kd.R_lower ho5 (below_size (lZB HB.out))); replace HB := aZ (below_step (lZB HB.out) hb); clear hb ho5))
 (try simp only [Act.put, sZ1, sZ2, sZ3])
 go_cut [22] (fun v22 wc => ∃ (kq : Nat) (x22_2 : Bool), v22 = .bool x22_2 ∧ Aside0 (spec_StepDown.j0 kq l0 l1 y426 x22_2 = some (r1, r2)) ∧ Aside0 (kq ≤ k) ∧ Aside0 (Kd.R (Kd.int .i64) 3 wc w.heap.size (fun _ => True) v427 y426) ∧ Aside0 (Below w.heap.size w wc))
 case first =>
  have H := HC3.out; clear HC3; replace H := Option.bind_eq_some_iff.mp H; obtain ⟨t429, A60, H⟩ := H; replace H : (if t429 = true then (spec_StepDown.j0 k l0 l1 y426 (decide ((l1.length : Int) > 40))) else (spec_StepDown.j0 k l0 l1 y426 true)) = some (r1, r2) := H; have A6 := Aside0.mk A60; clear A60
  by_cases c7 : t429 = true
  ·subst c7; rw [if_pos rfl] at H; have H' := Aside0.mk H; clear H
   go_wp2_with (first | ((with_reducible refine gate_callee (f := 37) rfl ?_); refine goesL_ (some 16) rfl rfl Try.func37 kZ rfl #[.slice A0 l0.length c0] rfl tZA ?_; (with_reducible refine (spec_l7Costs.calls k _ _ l0 true _ ?side1 ?side2 A6.out).mono ?_); (case side1 => repeat (first | exact (Kd.C_below HR0.out HB.out) | (with_reducible refine Kd.C_alloc ?_ _) | (with_reducible refine Kd.C_drewN ?_ _) | (with_reducible refine Kd.C_drew ?_))); (case side2 => exact HC0.out); rintro e w' ⟨rfl, ⟨nd, rfl⟩⟩; refine ⟨_, rfl, ?_⟩))
   go_meet
   case rel => exact ⟨_, (decide ((l1.length : Int) > 40)), tZB, H', ⟨by first | omega | exact Nat.le_refl _⟩, ⟨lZR HO428.out⟩, ⟨bZ⟩⟩
  replace c7 := Bool.eq_false_iff.mpr c7; subst c7; rw [if_neg Bool.false_ne_true] at H; have H' := Aside0.mk H; clear H
  go_wp2_with (first | ((with_reducible refine gate_callee (f := 37) rfl ?_); refine goesL_ (some 16) rfl rfl Try.func37 kZ rfl #[.slice A0 l0.length c0] rfl tZA ?_; (with_reducible refine (spec_l7Costs.calls k _ _ l0 false _ ?side1 ?side2 A6.out).mono ?_); (case side1 => repeat (first | exact (Kd.C_below HR0.out HB.out) | (with_reducible refine Kd.C_alloc ?_ _) | (with_reducible refine Kd.C_drewN ?_ _) | (with_reducible refine Kd.C_drew ?_))); (case side2 => exact HC0.out); rintro e w' ⟨rfl, ⟨nd, rfl⟩⟩; refine ⟨_, rfl, ?_⟩))
  go_meet
  case rel => exact ⟨_, (true), tZB, H', ⟨by first | omega | exact Nat.le_refl _⟩, ⟨lZR HO428.out⟩, ⟨bZ⟩⟩
 case rest =>
  clear HC3; obtain ⟨kq, x22_2, rfl, HA, HJ2, HO_6, HB⟩ := hcut
  cases kq with
  | zero => exact absurd HA.out (by simp [spec_StepDown.j0])
  | succ kj2 =>
   have H := HA.out; clear HA; simp only [spec_StepDown.j0] at H
   by_cases c8 : x22_2 = true
   ·subst c8; rw [if_pos rfl] at H; simp only [Option.some.injEq, Prod.mk.injEq] at H; obtain ⟨rfl, rfl⟩ := H; go_wp2; go_ret2; exact ⟨_, tZC, lZR HO_6.out, bZ⟩
   replace c8 := Bool.eq_false_iff.mpr c8; subst c8; rw [if_neg Bool.false_ne_true] at H; obtain ⟨y430, hy430⟩ : ∃ y_ : List Int, y_ = (([] : List Int)) := ⟨_, rfl⟩; replace H : (if y430.length + l0.length < 17592186044416 then (spec_StepDown.l0 kj2 l0 l1 y426 (y430 ++ l0) (([] : List Int)) 0) else (none)) = some (r1, r2) := by first | (rw [hy430]; with_reducible exact H) | (have H2_ := (Option.bind_some _ _).symm.trans H; rw [hy430]; with_reducible exact H2_) | (have H2_ := (Option.bind_some _ _).symm.trans H; with_reducible exact H2_) | with_reducible exact H | (rw [hy430]; exact H) | exact H
   have Ny430 := Aside0.mk hy430; clear hy430
   by_cases c9 : y430.length + l0.length < 17592186044416
   rotate_left
   ·rw [if_neg c9] at H; exact absurd H (by simp)
   rw [if_pos c9] at H; have LMc9 := Aside0.mk c9; clear c9; obtain ⟨y433, hy433⟩ : ∃ y_ : List Int, y_ = (y430 ++ l0) := ⟨_, rfl⟩; replace H : (spec_StepDown.l0 kj2 l0 l1 y426 y433 (([] : List Int)) 0) = some (r1, r2) := by first | (rw [hy433]; with_reducible exact H) | (have H2_ := (Option.bind_some _ _).symm.trans H; rw [hy433]; with_reducible exact H2_) | (have H2_ := (Option.bind_some _ _).symm.trans H; with_reducible exact H2_) | with_reducible exact H | (rw [hy433]; exact H) | exact H
   have Ny433 := Aside0.mk hy433; clear hy433; obtain ⟨y436, hy436⟩ : ∃ y_ : List Int, y_ = (([] : List Int)) := ⟨_, rfl⟩; replace H : (spec_StepDown.l0 kj2 l0 l1 y426 y433 y436 0) = some (r1, r2) := by first | (rw [hy436]; with_reducible exact H) | (have H2_ := (Option.bind_some _ _).symm.trans H; rw [hy436]; with_reducible exact H2_) | (have H2_ := (Option.bind_some _ _).symm.trans H; with_reducible exact H2_) | with_reducible exact H | (rw [hy436]; exact H) | exact H
   have Ny436 := Aside0.mk hy436; clear hy436; have H' := Aside0.mk H; clear H
   go_wp2_with (first | ((with_reducible refine gate_dst (N := 24) rfl ?_); (try (refine gate_guard (by rfl) ?_; dsimp only)); refine Kd.R_lit (Kd.int .i64) _ 3 ?hg (N := 24) ?hd (xs := ([] : List Int)) (inner := []) (ok := fun _ => True) (okp := fun _ => True) ?hr ?hp (fun _ hk => hk) trivial (Below.refl _ _) (Nat.le_refl _) (by simp) ?_; (case hd => rfl); (case hg => rfl); (case hr => first | (go_simp; done) | (go_simp; rfl)); (case hp => exact (Reps.none _ _)); intro v431 w10 ho11 hb hg_ hnew_; clear hg_ hnew_; (first | rw [← Ny430.out] at ho11 | (simp only [Int.reduceToNat] at ho11; rw [← Ny430.out] at ho11)); have HO432 := aZ (Kd.R_lower (Kd.R_new' ho11 (Kd.R_lt (lZR HO_6.out))) (below_size (lZB HB.out))); replace HO_6 := aZ (Kd.R_elder' (lZR HO_6.out) (Kd.R_base ho11) hb); replace HB := aZ (below_step (lZB HB.out) hb); clear hb ho11) | ((with_reducible refine gate_builtin (b := .append) (xs := #[.tmp 24, .tmp 25]) rfl ?_); (try (refine gate_guard (by rfl) ?_; dsimp only)); at_builtin; refine Kd.R_append_rows (Kd.int .i64) (w0 := w) w.heap.size rfl (.tmp 24) (.tmp 25) 24 3 (.int .i64 0) 8 rfl Try.underlying24 info3 rfl (by decide) (by omega) v431 y430 l0 _ _ _ (fun k_ => some k_ ≠ (v427 : Value).ownBlock) (fun _ => False) rfl rfl ?aO ?aR (fun _ _ h => h) (fun _ h => h.elim) ?aF ?aB ?aS ?aL ?_; (case aR => repeat (first | exact (Kd.C_below HR0.out HB.out) | (with_reducible refine Kd.C_alloc ?_ _) | (with_reducible refine Kd.C_drewN ?_ _) | (with_reducible refine Kd.C_drew ?_))); (case aB => exact (lZB HB.out)); (case aF => exact (fun k_ hk => Kd.fresh' (Kd.R_lt (lZR HO_6.out)) k_ hk)); (case aO => exact (by (with_reducible repeat (first | apply Kd.R_alloc | apply Kd.R_drewN | apply Kd.R_drew)); exact Kd.R_mono HO432.out (fun _ hk => hk.2))); (case aS => exact (below_size (lZB HB.out))); (case aL => have := LMc9.out; omega); intro v434 w12 ho hb hg hat; rw [← Ny433.out] at ho; replace HO_6 := aZ (Kd.R_after (ok := (fun _ => True)) (lZR HO_6.out) hg hat); replace HB := aZ (hb); have HO435 := aZ (ho); clear HO432; clear ho hb hg hat) | ((with_reducible refine gate_dst (N := 27) rfl ?_); (try (refine gate_guard (by rfl) ?_; dsimp only)); refine Kd.R_lit (Kd.int .i64) _ 3 ?hg (N := 27) ?hd (xs := ([] : List Int)) (inner := []) (ok := fun _ => True) (okp := fun _ => True) ?hr ?hp (fun _ hk => hk) trivial (Below.refl _ _) (Nat.le_refl _) (by simp) ?_; (case hd => rfl); (case hg => rfl); (case hr => first | (go_simp; done) | (go_simp; rfl)); (case hp => exact (Reps.none _ _)); intro v437 w13 ho14 hb hg_ hnew_; clear hg_ hnew_; (first | rw [← Ny436.out] at ho14 | (simp only [Int.reduceToNat] at ho14; rw [← Ny436.out] at ho14)); have HO438 := aZ (Kd.R_lower (Kd.R_new' (Kd.R_new' ho14 (Kd.R_lt (lZR HO_6.out))) (Kd.R_lt (lZR HO435.out))) (below_size (lZB HB.out))); replace HO_6 := aZ (Kd.R_elder' (lZR HO_6.out) (Kd.R_base ho14) hb); replace HO435 := aZ (Kd.R_elder' (lZR HO435.out) (Kd.R_base ho14) hb); replace HB := aZ (below_step (lZB HB.out) hb); clear hb ho14))
   go_loopg [8, 9] kj2 (fun kq v8 v9 w' => ∃ (x7_2 : List Int) (x8_2 : List Int) (x9_2 : Int), v9 = .int .i64 x9_2 ∧ Aside0 (spec_StepDown.l0 kq l0 l1 y426 x7_2 x8_2 x9_2 = some (r1, r2)) ∧ Aside0 (kq ≤ kj2) ∧ Aside0 (Kd.R (Kd.int .i64) 3 w' w.heap.size (fun k_ => some k_ ≠ (v434 : Value).ownBlock ∧ some k_ ≠ (v8 : Value).ownBlock) v427 y426) ∧ Aside0 (Kd.R (Kd.int .i64) 3 w' w.heap.size (fun k_ => some k_ ≠ (v427 : Value).ownBlock ∧ some k_ ≠ (v8 : Value).ownBlock) v434 x7_2) ∧ Aside0 (Kd.R (Kd.int .i64) 3 w' w.heap.size (fun k_ => some k_ ≠ (v427 : Value).ownBlock ∧ some k_ ≠ (v434 : Value).ownBlock) v8 x8_2) ∧ Aside0 (Below w.heap.size w w'))
   case atStart => exact ⟨(y433), (y436), (0), tZB, H', ⟨Nat.le_refl _⟩, ⟨by (with_reducible repeat (first | apply Kd.R_alloc | apply Kd.R_drewN | apply Kd.R_drew)); exact Kd.R_mono HO_6.out (fun _ hk => ⟨hk.1.2, hk.2⟩)⟩, ⟨lZR HO435.out⟩, ⟨by (with_reducible repeat (first | apply Kd.R_alloc | apply Kd.R_drewN | apply Kd.R_drew)); exact Kd.R_mono HO438.out (fun _ hk => ⟨hk.1.2, hk.2⟩)⟩, ⟨bZ⟩⟩
   case round =>
    clear H'; (try clear c8 c9); obtain ⟨x7_2, x8_2, x9_2, rfl, HA, HK2, HO_6, HO_7, HO_8, HB⟩ := hrel
    cases gk with
    | zero => exact absurd HA.out (by simp [spec_StepDown.l0])
    | succ k2 =>
     have H := HA.out; clear HA; simp only [spec_StepDown.l0] at H
     by_cases c15 : x9_2 < (l1.length : Int)
     rotate_left
     ·rw [if_neg c15] at H; have c15b0 := decide_eq_false c15; clear c15; simp only [Option.some.injEq, Prod.mk.injEq] at H; obtain ⟨rfl, rfl⟩ := H; go_wp2; go_ret2; exact ⟨_, tZC, by (with_reducible repeat (first | apply Kd.R_alloc | apply Kd.R_drewN | apply Kd.R_drew)); exact Kd.R_mono HO_7.out (fun _ hk => trivial), bZ⟩
     rw [if_pos c15] at H; have c15b0 := decide_eq_true c15; clear c15
     by_cases c16 : 0 ≤ x9_2
     rotate_left
     ·rw [if_neg c16] at H; exact absurd H (by simp)
     rw [if_pos c16] at H; have c16b0 := decide_eq_true c16; clear c16; have HC17 := Aside0.mk H; clear H; have p439 : 0 ≤ (x9_2 : Int) := of_decide_eq_true tZE; have q439 : x9_2 < (l1.length : Int) := of_decide_eq_true tZE; obtain ⟨ad439, A439_1, c439_1, A439_2, c439_2, e439, hx439_0, hx439_1, hx439_2, hl439_1, hi439_1, hl439_2, hi439_2⟩ := at_T31 HR1.out x9_2 p439 q439; have hz439_1 := hx439_1; have hz439_2 := hx439_2
     cases e439
     replace hx439_0 := cZ HB hx439_0; replace hx439_1 := cZ HB hx439_1; replace hx439_2 := cZ HB hx439_2; have HR439_1 := Aside0.mk hi439_1; have HC439_1 := Aside0.mk hl439_1; clear hi439_1 hl439_1; have HR439_2 := Aside0.mk hi439_2; have HC439_2 := Aside0.mk hl439_2; clear hi439_2 hl439_2; replace p439 := eq_true p439; replace q439 := eq_true q439
     go_upto_region 10 with (first | ((with_reducible refine gate_dst (N := 10) rfl ?_); (try (refine gate_guard (by rfl) ?_; dsimp only)); refine box_event tZR (N := 10) tZR (cs := #[.int .i64 0, .slice none 0 0, .slice none 0 0]) (t := 31) tZS ?_; intro gb440 hg w18 hbox hb; replace HO_6 := aZ (Kd.R_below (lZR HO_6.out) hb); replace HO_7 := aZ (Kd.R_below (lZR HO_7.out) hb); replace HO_8 := aZ (Kd.R_below (lZR HO_8.out) hb); have BK440 := aZ (hbox); have GW440 := aZ ((by rw [hg]; exact (below_size (lZB HB.out)) : w.heap.size ≤ gb440)); have GE440 := GW440; replace HB := aZ (below_step (lZB HB.out) hb); clear hb hbox hg; obtain ⟨hcz19_0, hcz19_1, hcz19_2, hfz19_0, hfz19_1, hfz19_2⟩ := bc3 BK440.out))
     (try simp only [Act.put, sZ1, sZ2, sZ3])
     go_cut [65] (fun v65 wc => ∃ (kq : Nat) (x65_16 : Bool), v65 = .bool x65_16 ∧ Aside0 (spec_StepDown.j2 kq l0 l1 y426 x7_2 x8_2 x9_2 x65_16 ((rd_T31 l1 x9_2).f0) ((rd_T31 l1 x9_2).f1) ((rd_T31 l1 x9_2).f2) = some (r1, r2)) ∧ Aside0 (kq ≤ k2) ∧ Aside0 (Kd.R (Kd.int .i64) 3 wc w.heap.size (fun k_ => some k_ ≠ (v434 : Value).ownBlock ∧ some k_ ≠ (u8 : Value).ownBlock) v427 y426) ∧ Aside0 (Kd.R (Kd.int .i64) 3 wc w.heap.size (fun k_ => some k_ ≠ (v427 : Value).ownBlock ∧ some k_ ≠ (u8 : Value).ownBlock) v434 x7_2) ∧ Aside0 (Kd.R (Kd.int .i64) 3 wc w.heap.size (fun k_ => some k_ ≠ (v427 : Value).ownBlock ∧ some k_ ≠ (v434 : Value).ownBlock) u8 x8_2) ∧ Aside0 (wc.heap[gb440]? = some (.cells #[.int .i64 ((rd_T31 l1 x9_2).f0), (.slice A439_1 ((rd_T31 l1 x9_2).f1).length c439_1), (.slice A439_2 ((rd_T31 l1 x9_2).f2).length c439_2)] 31 (0, 0))) ∧ Aside0 (Below w.heap.size w wc))
     case first =>
      have H := HC17.out; clear HC17; replace H := Option.bind_eq_some_iff.mp H; obtain ⟨t441, A200, H⟩ := H; replace H : (if t441 = true then ((spec_l7Has.f k2 x8_2 ((rd_T31 l1 x9_2).f0)).bind fun t442 => (if t442 = true then (spec_StepDown.j2 k2 l0 l1 y426 x7_2 x8_2 x9_2 true ((rd_T31 l1 x9_2).f0) ((rd_T31 l1 x9_2).f1) ((rd_T31 l1 x9_2).f2)) else (if (((rd_T31 l1 x9_2).f1).length : Int) = (((rd_T31 l1 x9_2).f2).length : Int) then (spec_StepDown.j2 k2 l0 l1 y426 x7_2 x8_2 x9_2 (decide ((((rd_T31 l1 x9_2).f1).length : Int) > 200)) ((rd_T31 l1 x9_2).f0) ((rd_T31 l1 x9_2).f1) ((rd_T31 l1 x9_2).f2)) else (spec_StepDown.j2 k2 l0 l1 y426 x7_2 x8_2 x9_2 true ((rd_T31 l1 x9_2).f0) ((rd_T31 l1 x9_2).f1) ((rd_T31 l1 x9_2).f2))))) else (spec_StepDown.j2 k2 l0 l1 y426 x7_2 x8_2 x9_2 true ((rd_T31 l1 x9_2).f0) ((rd_T31 l1 x9_2).f1) ((rd_T31 l1 x9_2).f2))) = some (r1, r2) := H
      have A20 := Aside0.mk A200; clear A200
      by_cases c21 : t441 = true
      rotate_left
      ·replace c21 := Bool.eq_false_iff.mpr c21; subst c21; rw [if_neg Bool.false_ne_true] at H; have H' := Aside0.mk H; clear H; obtain ⟨hcz31_0, hcz31_1, hcz31_2, hfz31_0, hfz31_1, hfz31_2⟩ := bc3 BK440.out
       go_wp2_with (first | ((with_reducible refine gate_callee (f := 38) rfl ?_); refine goesL_ (some 43) rfl rfl Try.func38 kZ rfl #[.int .i64 ((rd_T31 l1 x9_2).f0), .int .i64 0, .int .i64 (wrap64 ((l0.length : Int) - 1))] rfl tZA ?_; (with_reducible refine (spec_l1In.calls ((rd_T31 l1 x9_2).f0) 0 (wrap64 ((l0.length : Int) - 1)) false _ A20.out).mono ?_); rintro e w' ⟨rfl, ⟨nd, rfl⟩⟩; refine ⟨_, rfl, ?_⟩))
       go_meet
       case rel => exact ⟨_, (true), tZB, H', ⟨by have := HJ2.out; have := HK2.out; first | omega | exact Nat.le_refl _⟩, ⟨by (with_reducible repeat (first | apply Kd.R_alloc | apply Kd.R_drewN | apply Kd.R_drew)); exact Kd.R_mono (Kd.R_far (p := ⟨gb440, 2, none⟩) (Kd.R_far (p := ⟨gb440, 1, none⟩) (Kd.R_far (p := ⟨gb440, 0, none⟩) (Kd.R_types HO_6.out BK440.out (by decide)) (fun _ hk => hk.2) (.int .i64 ((rd_T31 l1 x9_2).f0))) (fun _ hk => hk.2) (.slice A439_1 ((rd_T31 l1 x9_2).f1).length c439_1)) (fun _ hk => hk.2) (.slice A439_2 ((rd_T31 l1 x9_2).f2).length c439_2)) (fun _ hk => ⟨hk.1.1, hk.1.2⟩)⟩, ⟨by (with_reducible repeat (first | apply Kd.R_alloc | apply Kd.R_drewN | apply Kd.R_drew)); exact Kd.R_mono (Kd.R_far (p := ⟨gb440, 2, none⟩) (Kd.R_far (p := ⟨gb440, 1, none⟩) (Kd.R_far (p := ⟨gb440, 0, none⟩) (Kd.R_types HO_7.out BK440.out (by decide)) (fun _ hk => hk.2) (.int .i64 ((rd_T31 l1 x9_2).f0))) (fun _ hk => hk.2) (.slice A439_1 ((rd_T31 l1 x9_2).f1).length c439_1)) (fun _ hk => hk.2) (.slice A439_2 ((rd_T31 l1 x9_2).f2).length c439_2)) (fun _ hk => ⟨hk.1.1, hk.1.2⟩)⟩, ⟨by (with_reducible repeat (first | apply Kd.R_alloc | apply Kd.R_drewN | apply Kd.R_drew)); exact Kd.R_mono (Kd.R_far (p := ⟨gb440, 2, none⟩) (Kd.R_far (p := ⟨gb440, 1, none⟩) (Kd.R_far (p := ⟨gb440, 0, none⟩) (Kd.R_types HO_8.out BK440.out (by decide)) (fun _ hk => hk.2) (.int .i64 ((rd_T31 l1 x9_2).f0))) (fun _ hk => hk.2) (.slice A439_1 ((rd_T31 l1 x9_2).f1).length c439_1)) (fun _ hk => hk.2) (.slice A439_2 ((rd_T31 l1 x9_2).f2).length c439_2)) (fun _ hk => ⟨hk.1.1, hk.1.2⟩)⟩, ⟨by (with_reducible repeat (first | refine blk_drewN ?_ _ | refine blk_drew ?_ | refine blk_alloc ?_ _)); refine blk_put (cs := #[.int .i64 ((rd_T31 l1 x9_2).f0), .slice A439_1 ((rd_T31 l1 x9_2).f1).length c439_1, .slice none 0 0]) ?_ 2 _ rfl; (with_reducible repeat (first | refine blk_drewN ?_ _ | refine blk_drew ?_ | refine blk_alloc ?_ _)); refine blk_put (cs := #[.int .i64 ((rd_T31 l1 x9_2).f0), .slice none 0 0, .slice none 0 0]) ?_ 1 _ rfl; (with_reducible repeat (first | refine blk_drewN ?_ _ | refine blk_drew ?_ | refine blk_alloc ?_ _)); refine blk_put (cs := #[.int .i64 0, .slice none 0 0, .slice none 0 0]) ?_ 0 _ rfl; (with_reducible repeat (first | refine blk_drewN ?_ _ | refine blk_drew ?_ | refine blk_alloc ?_ _)); exact BK440.out⟩, ⟨bZ⟩⟩
      subst c21; rw [if_pos rfl] at H; replace H := Option.bind_eq_some_iff.mp H; obtain ⟨t442, A220, H⟩ := H; replace H : (if t442 = true then (spec_StepDown.j2 k2 l0 l1 y426 x7_2 x8_2 x9_2 true ((rd_T31 l1 x9_2).f0) ((rd_T31 l1 x9_2).f1) ((rd_T31 l1 x9_2).f2)) else (if (((rd_T31 l1 x9_2).f1).length : Int) = (((rd_T31 l1 x9_2).f2).length : Int) then (spec_StepDown.j2 k2 l0 l1 y426 x7_2 x8_2 x9_2 (decide ((((rd_T31 l1 x9_2).f1).length : Int) > 200)) ((rd_T31 l1 x9_2).f0) ((rd_T31 l1 x9_2).f1) ((rd_T31 l1 x9_2).f2)) else (spec_StepDown.j2 k2 l0 l1 y426 x7_2 x8_2 x9_2 true ((rd_T31 l1 x9_2).f0) ((rd_T31 l1 x9_2).f1) ((rd_T31 l1 x9_2).f2)))) = some (r1, r2) := H; have A22 := Aside0.mk A220; clear A220
      by_cases c23 : t442 = true
      ·subst c23; rw [if_pos rfl] at H; have H' := Aside0.mk H; clear H; obtain ⟨hcz24_0, hcz24_1, hcz24_2, hfz24_0, hfz24_1, hfz24_2⟩ := bc3 BK440.out
       go_wp2_with (first | ((with_reducible refine gate_callee (f := 38) rfl ?_); refine goesL_ (some 43) rfl rfl Try.func38 kZ rfl #[.int .i64 ((rd_T31 l1 x9_2).f0), .int .i64 0, .int .i64 (wrap64 ((l0.length : Int) - 1))] rfl tZA ?_; (with_reducible refine (spec_l1In.calls ((rd_T31 l1 x9_2).f0) 0 (wrap64 ((l0.length : Int) - 1)) true _ A20.out).mono ?_); rintro e w' ⟨rfl, ⟨nd, rfl⟩⟩; refine ⟨_, rfl, ?_⟩; obtain ⟨Ao25, co25, eo25⟩ := Kd.R_slice HO_8.out; subst eo25) | (go_at_call 39; (with_reducible refine (spec_l7Has.calls k2 _ _ x8_2 ((rd_T31 l1 x9_2).f0) true _ ?side1 ?side2 A22.out).mono ?_); (case side1 => refine (Kd.R_reads' (e := 3) (base := w.heap.size) (ok := fun k_ => (some k_ ≠ (v427 : Value).ownBlock ∧ some k_ ≠ (v434 : Value).ownBlock)) (n := x8_2.length) (c := co25) ?_).2.2; exact (by (with_reducible repeat (first | apply Kd.R_alloc | apply Kd.R_drewN | apply Kd.R_drew)); exact (Kd.R_mono (Kd.R_far (p := ⟨gb440, 2, none⟩) (Kd.R_far (p := ⟨gb440, 1, none⟩) (Kd.R_far (p := ⟨gb440, 0, none⟩) (Kd.R_types HO_8.out BK440.out (by decide)) (fun _ hk => hk.2) (.int .i64 ((rd_T31 l1 x9_2).f0))) (fun _ hk => hk.2) (.slice A439_1 ((rd_T31 l1 x9_2).f1).length c439_1)) (fun _ hk => hk.2) (.slice A439_2 ((rd_T31 l1 x9_2).f2).length c439_2)) (fun _ h_ => h_.1)))); (case side2 => exact (Kd.R_reads' HO_8.out).2.1); rintro e w' ⟨rfl, ⟨nd, rfl⟩⟩))
       go_meet
       case rel => exact ⟨_, (true), tZB, H', ⟨by have := HJ2.out; have := HK2.out; first | omega | exact Nat.le_refl _⟩, ⟨by (with_reducible repeat (first | apply Kd.R_alloc | apply Kd.R_drewN | apply Kd.R_drew)); exact Kd.R_mono (Kd.R_far (p := ⟨gb440, 2, none⟩) (Kd.R_far (p := ⟨gb440, 1, none⟩) (Kd.R_far (p := ⟨gb440, 0, none⟩) (Kd.R_types HO_6.out BK440.out (by decide)) (fun _ hk => hk.2) (.int .i64 ((rd_T31 l1 x9_2).f0))) (fun _ hk => hk.2) (.slice A439_1 ((rd_T31 l1 x9_2).f1).length c439_1)) (fun _ hk => hk.2) (.slice A439_2 ((rd_T31 l1 x9_2).f2).length c439_2)) (fun _ hk => ⟨hk.1.1, hk.1.2⟩)⟩, ⟨by (with_reducible repeat (first | apply Kd.R_alloc | apply Kd.R_drewN | apply Kd.R_drew)); exact Kd.R_mono (Kd.R_far (p := ⟨gb440, 2, none⟩) (Kd.R_far (p := ⟨gb440, 1, none⟩) (Kd.R_far (p := ⟨gb440, 0, none⟩) (Kd.R_types HO_7.out BK440.out (by decide)) (fun _ hk => hk.2) (.int .i64 ((rd_T31 l1 x9_2).f0))) (fun _ hk => hk.2) (.slice A439_1 ((rd_T31 l1 x9_2).f1).length c439_1)) (fun _ hk => hk.2) (.slice A439_2 ((rd_T31 l1 x9_2).f2).length c439_2)) (fun _ hk => ⟨hk.1.1, hk.1.2⟩)⟩, ⟨by (with_reducible repeat (first | apply Kd.R_alloc | apply Kd.R_drewN | apply Kd.R_drew)); exact Kd.R_mono (Kd.R_far (p := ⟨gb440, 2, none⟩) (Kd.R_far (p := ⟨gb440, 1, none⟩) (Kd.R_far (p := ⟨gb440, 0, none⟩) (Kd.R_types HO_8.out BK440.out (by decide)) (fun _ hk => hk.2) (.int .i64 ((rd_T31 l1 x9_2).f0))) (fun _ hk => hk.2) (.slice A439_1 ((rd_T31 l1 x9_2).f1).length c439_1)) (fun _ hk => hk.2) (.slice A439_2 ((rd_T31 l1 x9_2).f2).length c439_2)) (fun _ hk => ⟨hk.1.1, hk.1.2⟩)⟩, ⟨by (with_reducible repeat (first | refine blk_drewN ?_ _ | refine blk_drew ?_ | refine blk_alloc ?_ _)); refine blk_put (cs := #[.int .i64 ((rd_T31 l1 x9_2).f0), .slice A439_1 ((rd_T31 l1 x9_2).f1).length c439_1, .slice none 0 0]) ?_ 2 _ rfl; (with_reducible repeat (first | refine blk_drewN ?_ _ | refine blk_drew ?_ | refine blk_alloc ?_ _)); refine blk_put (cs := #[.int .i64 ((rd_T31 l1 x9_2).f0), .slice none 0 0, .slice none 0 0]) ?_ 1 _ rfl; (with_reducible repeat (first | refine blk_drewN ?_ _ | refine blk_drew ?_ | refine blk_alloc ?_ _)); refine blk_put (cs := #[.int .i64 0, .slice none 0 0, .slice none 0 0]) ?_ 0 _ rfl; (with_reducible repeat (first | refine blk_drewN ?_ _ | refine blk_drew ?_ | refine blk_alloc ?_ _)); exact BK440.out⟩, ⟨bZ⟩⟩
      replace c23 := Bool.eq_false_iff.mpr c23; subst c23; rw [if_neg Bool.false_ne_true] at H
      by_cases c26 : (((rd_T31 l1 x9_2).f1).length : Int) = (((rd_T31 l1 x9_2).f2).length : Int)
      rotate_left
      ·rw [if_neg c26] at H; have c26b0 : ((((rd_T31 l1 x9_2).f1).length : Int) == (((rd_T31 l1 x9_2).f2).length : Int)) = false := beq_eq_false_iff_ne.mpr c26; have c26b1 : ((((rd_T31 l1 x9_2).f1).length : Int) != (((rd_T31 l1 x9_2).f2).length : Int)) = true := bne_iff_ne.mpr c26; have c26b2 : (((rd_T31 l1 x9_2).f1).length == ((rd_T31 l1 x9_2).f2).length) = false := by first | simpa using c26 | (simp at c26 ⊢; omega)
       (first | rw [c26b0] | (simp only [i64_w, i32_w]; rw [c26b0]) | skip); have H' := Aside0.mk H; clear H; obtain ⟨hcz29_0, hcz29_1, hcz29_2, hfz29_0, hfz29_1, hfz29_2⟩ := bc3 BK440.out
       go_wp2_with (first | ((with_reducible refine gate_callee (f := 38) rfl ?_); refine goesL_ (some 43) rfl rfl Try.func38 kZ rfl #[.int .i64 ((rd_T31 l1 x9_2).f0), .int .i64 0, .int .i64 (wrap64 ((l0.length : Int) - 1))] rfl tZA ?_; (with_reducible refine (spec_l1In.calls ((rd_T31 l1 x9_2).f0) 0 (wrap64 ((l0.length : Int) - 1)) true _ A20.out).mono ?_); rintro e w' ⟨rfl, ⟨nd, rfl⟩⟩; refine ⟨_, rfl, ?_⟩; obtain ⟨Ao30, co30, eo30⟩ := Kd.R_slice HO_8.out; subst eo30) | (go_at_call 39; (with_reducible refine (spec_l7Has.calls k2 _ _ x8_2 ((rd_T31 l1 x9_2).f0) false _ ?side1 ?side2 A22.out).mono ?_); (case side1 => refine (Kd.R_reads' (e := 3) (base := w.heap.size) (ok := fun k_ => (some k_ ≠ (v427 : Value).ownBlock ∧ some k_ ≠ (v434 : Value).ownBlock)) (n := x8_2.length) (c := co30) ?_).2.2; exact (by (with_reducible repeat (first | apply Kd.R_alloc | apply Kd.R_drewN | apply Kd.R_drew)); exact (Kd.R_mono (Kd.R_far (p := ⟨gb440, 2, none⟩) (Kd.R_far (p := ⟨gb440, 1, none⟩) (Kd.R_far (p := ⟨gb440, 0, none⟩) (Kd.R_types HO_8.out BK440.out (by decide)) (fun _ hk => hk.2) (.int .i64 ((rd_T31 l1 x9_2).f0))) (fun _ hk => hk.2) (.slice A439_1 ((rd_T31 l1 x9_2).f1).length c439_1)) (fun _ hk => hk.2) (.slice A439_2 ((rd_T31 l1 x9_2).f2).length c439_2)) (fun _ h_ => h_.1)))); (case side2 => exact (Kd.R_reads' HO_8.out).2.1); rintro e w' ⟨rfl, ⟨nd, rfl⟩⟩))
       go_meet
       case rel => exact ⟨_, (true), tZB, H', ⟨by have := HJ2.out; have := HK2.out; first | omega | exact Nat.le_refl _⟩, ⟨by (with_reducible repeat (first | apply Kd.R_alloc | apply Kd.R_drewN | apply Kd.R_drew)); exact Kd.R_mono (Kd.R_far (p := ⟨gb440, 2, none⟩) (Kd.R_far (p := ⟨gb440, 1, none⟩) (Kd.R_far (p := ⟨gb440, 0, none⟩) (Kd.R_types HO_6.out BK440.out (by decide)) (fun _ hk => hk.2) (.int .i64 ((rd_T31 l1 x9_2).f0))) (fun _ hk => hk.2) (.slice A439_1 ((rd_T31 l1 x9_2).f1).length c439_1)) (fun _ hk => hk.2) (.slice A439_2 ((rd_T31 l1 x9_2).f2).length c439_2)) (fun _ hk => ⟨hk.1.1, hk.1.2⟩)⟩, ⟨by (with_reducible repeat (first | apply Kd.R_alloc | apply Kd.R_drewN | apply Kd.R_drew)); exact Kd.R_mono (Kd.R_far (p := ⟨gb440, 2, none⟩) (Kd.R_far (p := ⟨gb440, 1, none⟩) (Kd.R_far (p := ⟨gb440, 0, none⟩) (Kd.R_types HO_7.out BK440.out (by decide)) (fun _ hk => hk.2) (.int .i64 ((rd_T31 l1 x9_2).f0))) (fun _ hk => hk.2) (.slice A439_1 ((rd_T31 l1 x9_2).f1).length c439_1)) (fun _ hk => hk.2) (.slice A439_2 ((rd_T31 l1 x9_2).f2).length c439_2)) (fun _ hk => ⟨hk.1.1, hk.1.2⟩)⟩, ⟨by (with_reducible repeat (first | apply Kd.R_alloc | apply Kd.R_drewN | apply Kd.R_drew)); exact Kd.R_mono (Kd.R_far (p := ⟨gb440, 2, none⟩) (Kd.R_far (p := ⟨gb440, 1, none⟩) (Kd.R_far (p := ⟨gb440, 0, none⟩) (Kd.R_types HO_8.out BK440.out (by decide)) (fun _ hk => hk.2) (.int .i64 ((rd_T31 l1 x9_2).f0))) (fun _ hk => hk.2) (.slice A439_1 ((rd_T31 l1 x9_2).f1).length c439_1)) (fun _ hk => hk.2) (.slice A439_2 ((rd_T31 l1 x9_2).f2).length c439_2)) (fun _ hk => ⟨hk.1.1, hk.1.2⟩)⟩, ⟨by (with_reducible repeat (first | refine blk_drewN ?_ _ | refine blk_drew ?_ | refine blk_alloc ?_ _)); refine blk_put (cs := #[.int .i64 ((rd_T31 l1 x9_2).f0), .slice A439_1 ((rd_T31 l1 x9_2).f1).length c439_1, .slice none 0 0]) ?_ 2 _ rfl; (with_reducible repeat (first | refine blk_drewN ?_ _ | refine blk_drew ?_ | refine blk_alloc ?_ _)); refine blk_put (cs := #[.int .i64 ((rd_T31 l1 x9_2).f0), .slice none 0 0, .slice none 0 0]) ?_ 1 _ rfl; (with_reducible repeat (first | refine blk_drewN ?_ _ | refine blk_drew ?_ | refine blk_alloc ?_ _)); refine blk_put (cs := #[.int .i64 0, .slice none 0 0, .slice none 0 0]) ?_ 0 _ rfl; (with_reducible repeat (first | refine blk_drewN ?_ _ | refine blk_drew ?_ | refine blk_alloc ?_ _)); exact BK440.out⟩, ⟨bZ⟩⟩
      rw [if_pos c26] at H; have c26b0 : ((((rd_T31 l1 x9_2).f1).length : Int) == (((rd_T31 l1 x9_2).f2).length : Int)) = true := beq_iff_eq.mpr c26; have c26b1 : ((((rd_T31 l1 x9_2).f1).length : Int) != (((rd_T31 l1 x9_2).f2).length : Int)) = false := bne_eq_false_iff_eq.mpr c26; have c26b2 : (((rd_T31 l1 x9_2).f1).length == ((rd_T31 l1 x9_2).f2).length) = true := by first | simpa using c26 | (simp at c26 ⊢; omega)
      clear c26; (first | rw [c26b0] | (simp only [i64_w, i32_w]; rw [c26b0]) | skip); have H' := Aside0.mk H; clear H; obtain ⟨hcz27_0, hcz27_1, hcz27_2, hfz27_0, hfz27_1, hfz27_2⟩ := bc3 BK440.out
      go_wp2_with (first | ((with_reducible refine gate_callee (f := 38) rfl ?_); refine goesL_ (some 43) rfl rfl Try.func38 kZ rfl #[.int .i64 ((rd_T31 l1 x9_2).f0), .int .i64 0, .int .i64 (wrap64 ((l0.length : Int) - 1))] rfl tZA ?_; (with_reducible refine (spec_l1In.calls ((rd_T31 l1 x9_2).f0) 0 (wrap64 ((l0.length : Int) - 1)) true _ A20.out).mono ?_); rintro e w' ⟨rfl, ⟨nd, rfl⟩⟩; refine ⟨_, rfl, ?_⟩; obtain ⟨Ao28, co28, eo28⟩ := Kd.R_slice HO_8.out; subst eo28) | (go_at_call 39; (with_reducible refine (spec_l7Has.calls k2 _ _ x8_2 ((rd_T31 l1 x9_2).f0) false _ ?side1 ?side2 A22.out).mono ?_); (case side1 => refine (Kd.R_reads' (e := 3) (base := w.heap.size) (ok := fun k_ => (some k_ ≠ (v427 : Value).ownBlock ∧ some k_ ≠ (v434 : Value).ownBlock)) (n := x8_2.length) (c := co28) ?_).2.2; exact (by (with_reducible repeat (first | apply Kd.R_alloc | apply Kd.R_drewN | apply Kd.R_drew)); exact (Kd.R_mono (Kd.R_far (p := ⟨gb440, 2, none⟩) (Kd.R_far (p := ⟨gb440, 1, none⟩) (Kd.R_far (p := ⟨gb440, 0, none⟩) (Kd.R_types HO_8.out BK440.out (by decide)) (fun _ hk => hk.2) (.int .i64 ((rd_T31 l1 x9_2).f0))) (fun _ hk => hk.2) (.slice A439_1 ((rd_T31 l1 x9_2).f1).length c439_1)) (fun _ hk => hk.2) (.slice A439_2 ((rd_T31 l1 x9_2).f2).length c439_2)) (fun _ h_ => h_.1)))); (case side2 => exact (Kd.R_reads' HO_8.out).2.1); rintro e w' ⟨rfl, ⟨nd, rfl⟩⟩))
      go_meet
      case rel => exact ⟨_, (decide ((((rd_T31 l1 x9_2).f1).length : Int) > 200)), tZB, H', ⟨by have := HJ2.out; have := HK2.out; first | omega | exact Nat.le_refl _⟩, ⟨by (with_reducible repeat (first | apply Kd.R_alloc | apply Kd.R_drewN | apply Kd.R_drew)); exact Kd.R_mono (Kd.R_far (p := ⟨gb440, 2, none⟩) (Kd.R_far (p := ⟨gb440, 1, none⟩) (Kd.R_far (p := ⟨gb440, 0, none⟩) (Kd.R_types HO_6.out BK440.out (by decide)) (fun _ hk => hk.2) (.int .i64 ((rd_T31 l1 x9_2).f0))) (fun _ hk => hk.2) (.slice A439_1 ((rd_T31 l1 x9_2).f1).length c439_1)) (fun _ hk => hk.2) (.slice A439_2 ((rd_T31 l1 x9_2).f2).length c439_2)) (fun _ hk => ⟨hk.1.1, hk.1.2⟩)⟩, ⟨by (with_reducible repeat (first | apply Kd.R_alloc | apply Kd.R_drewN | apply Kd.R_drew)); exact Kd.R_mono (Kd.R_far (p := ⟨gb440, 2, none⟩) (Kd.R_far (p := ⟨gb440, 1, none⟩) (Kd.R_far (p := ⟨gb440, 0, none⟩) (Kd.R_types HO_7.out BK440.out (by decide)) (fun _ hk => hk.2) (.int .i64 ((rd_T31 l1 x9_2).f0))) (fun _ hk => hk.2) (.slice A439_1 ((rd_T31 l1 x9_2).f1).length c439_1)) (fun _ hk => hk.2) (.slice A439_2 ((rd_T31 l1 x9_2).f2).length c439_2)) (fun _ hk => ⟨hk.1.1, hk.1.2⟩)⟩, ⟨by (with_reducible repeat (first | apply Kd.R_alloc | apply Kd.R_drewN | apply Kd.R_drew)); exact Kd.R_mono (Kd.R_far (p := ⟨gb440, 2, none⟩) (Kd.R_far (p := ⟨gb440, 1, none⟩) (Kd.R_far (p := ⟨gb440, 0, none⟩) (Kd.R_types HO_8.out BK440.out (by decide)) (fun _ hk => hk.2) (.int .i64 ((rd_T31 l1 x9_2).f0))) (fun _ hk => hk.2) (.slice A439_1 ((rd_T31 l1 x9_2).f1).length c439_1)) (fun _ hk => hk.2) (.slice A439_2 ((rd_T31 l1 x9_2).f2).length c439_2)) (fun _ hk => ⟨hk.1.1, hk.1.2⟩)⟩, ⟨by (with_reducible repeat (first | refine blk_drewN ?_ _ | refine blk_drew ?_ | refine blk_alloc ?_ _)); refine blk_put (cs := #[.int .i64 ((rd_T31 l1 x9_2).f0), .slice A439_1 ((rd_T31 l1 x9_2).f1).length c439_1, .slice none 0 0]) ?_ 2 _ rfl; (with_reducible repeat (first | refine blk_drewN ?_ _ | refine blk_drew ?_ | refine blk_alloc ?_ _)); refine blk_put (cs := #[.int .i64 ((rd_T31 l1 x9_2).f0), .slice none 0 0, .slice none 0 0]) ?_ 1 _ rfl; (with_reducible repeat (first | refine blk_drewN ?_ _ | refine blk_drew ?_ | refine blk_alloc ?_ _)); refine blk_put (cs := #[.int .i64 0, .slice none 0 0, .slice none 0 0]) ?_ 0 _ rfl; (with_reducible repeat (first | refine blk_drewN ?_ _ | refine blk_drew ?_ | refine blk_alloc ?_ _)); exact BK440.out⟩, ⟨bZ⟩⟩
     case rest =>
      clear HC17; (try clear c8 c9 c15 c15b0 c16 c16b0 hcz19_0 hcz19_1 hcz19_2 hfz19_0 hfz19_1 hfz19_2 hx439_0 hx439_1 hx439_2 p439 q439); obtain ⟨kq, x65_16, rfl, HA, HJ16, HO_6, HO_7, HO_8, BK440, HB⟩ := hcut
      cases kq with
      | zero => exact absurd HA.out (by simp [spec_StepDown.j2])
      | succ kj16 =>
       have H := HA.out; clear HA; simp only [spec_StepDown.j2] at H
       by_cases c32 : x65_16 = true
       ·subst c32; rw [if_pos rfl] at H; simp only [Option.some.injEq, Prod.mk.injEq] at H; obtain ⟨rfl, rfl⟩ := H; go_wp2; go_ret2; exact ⟨_, tZC, by (with_reducible repeat (first | apply Kd.R_alloc | apply Kd.R_drewN | apply Kd.R_drew)); exact Kd.R_mono HO_6.out (fun _ hk => trivial), bZ⟩
       replace c32 := Bool.eq_false_iff.mpr c32; subst c32; rw [if_neg Bool.false_ne_true] at H
       by_cases c33 : x8_2.length < 17592186044416
       rotate_left
       ·rw [if_neg c33] at H; exact absurd H (by simp)
       rw [if_pos c33] at H; have LMc33 := Aside0.mk c33; clear c33; obtain ⟨y443, hy443⟩ : ∃ y_ : List Int, y_ = (x8_2 ++ [((rd_T31 l1 x9_2).f0)]) := ⟨_, rfl⟩; replace H : (spec_StepDown.l1 kj16 l0 l1 y426 x7_2 y443 x9_2 0 ((rd_T31 l1 x9_2).f0) ((rd_T31 l1 x9_2).f1) ((rd_T31 l1 x9_2).f2)) = some (r1, r2) := by first | (rw [hy443]; with_reducible exact H) | (have H2_ := (Option.bind_some _ _).symm.trans H; rw [hy443]; with_reducible exact H2_) | (have H2_ := (Option.bind_some _ _).symm.trans H; with_reducible exact H2_) | with_reducible exact H | (rw [hy443]; exact H) | exact H
       have Ny443 := Aside0.mk hy443; clear hy443; have H' := Aside0.mk H; clear H; obtain ⟨hcz34_0, hcz34_1, hcz34_2, hfz34_0, hfz34_1, hfz34_2⟩ := bc3 BK440.out
       go_wp2_with (first | ((with_reducible refine gate_builtin (b := .append) (xs := #[.tmp 67, .tmp 70]) rfl ?_); (try (refine gate_guard (by rfl) ?_; dsimp only)); at_builtin; refine Kd.R_append (Kd.int .i64) (w0 := w) w.heap.size rfl (.tmp 67) (.tmp 70) 24 3 (.int .i64 0) 8 rfl Try.underlying24 info3 rfl (by decide) (by omega) u8 x8_2 ((rd_T31 l1 x9_2).f0) [.int .i64 ((rd_T31 l1 x9_2).f0)] (fun k_ => some k_ ≠ (v427 : Value).ownBlock ∧ some k_ ≠ (v434 : Value).ownBlock) (fun _ => False) rfl rfl ?aP (fun _ hk => hk.elim) ?aF ?aO ?aB ?aS ?aL ?_; (case aP => exact rfl); (case aB => exact bZ); (case aF => exact (fun k_ hk => ⟨Kd.fresh' (Kd.R_lt (lZR HO_6.out)) k_ hk, Kd.fresh' (Kd.R_lt (lZR HO_7.out)) k_ hk⟩)); (case aO => exact (lZR HO_8.out)); (case aS => exact (below_size bZ)); (case aL => have := LMc33.out; omega); intro v444 w35 ho hb hg hat; rw [← Ny443.out] at ho; replace HO_6 := aZ (Kd.R_after (ok := (fun k_ => some k_ ≠ (v434 : Value).ownBlock)) (lZR HO_6.out) hg hat); replace HO_7 := aZ (Kd.R_after (ok := (fun k_ => some k_ ≠ (v427 : Value).ownBlock)) (lZR HO_7.out) hg hat); replace BK440 := aZ (blk_grown (bkZ BK440.out) hg (Kd.R_ne HO_8.out BK440.out (by decide))); replace HB := aZ (hb); have HO445 := aZ (ho); clear HO_8; clear ho hb hg hat))
       go_loopg [11] kj16 (fun kq v11 w' => ∃ (x11_4 : Int), v11 = .int .i64 x11_4 ∧ Aside0 (spec_StepDown.l1 kq l0 l1 y426 x7_2 y443 x9_2 x11_4 ((rd_T31 l1 x9_2).f0) ((rd_T31 l1 x9_2).f1) ((rd_T31 l1 x9_2).f2) = some (r1, r2)) ∧ Aside0 (kq ≤ kj16) ∧ Aside0 (Kd.R (Kd.int .i64) 3 w' w.heap.size (fun k_ => some k_ ≠ (v434 : Value).ownBlock ∧ some k_ ≠ (v444 : Value).ownBlock) v427 y426) ∧ Aside0 (Kd.R (Kd.int .i64) 3 w' w.heap.size (fun k_ => some k_ ≠ (v427 : Value).ownBlock ∧ some k_ ≠ (v444 : Value).ownBlock) v434 x7_2) ∧ Aside0 (Kd.R (Kd.int .i64) 3 w' w.heap.size (fun k_ => some k_ ≠ (v427 : Value).ownBlock ∧ some k_ ≠ (v434 : Value).ownBlock) v444 y443) ∧ Aside0 (w'.heap[gb440]? = some (.cells #[.int .i64 ((rd_T31 l1 x9_2).f0), (.slice A439_1 ((rd_T31 l1 x9_2).f1).length c439_1), (.slice A439_2 ((rd_T31 l1 x9_2).f2).length c439_2)] 31 (0, 0))) ∧ Aside0 (Below w.heap.size w w'))
       case atStart => exact ⟨(0), tZB, H', ⟨Nat.le_refl _⟩, ⟨lZR HO_6.out⟩, ⟨lZR HO_7.out⟩, ⟨lZR HO445.out⟩, ⟨bkZ BK440.out⟩, ⟨bZ⟩⟩
       case round =>
        clear H'; (try clear c8 c9 c15 c15b0 c16 c16b0 c32 c33 hcz19_0 hcz19_1 hcz19_2 hcz34_0 hcz34_1 hcz34_2 hfz19_0 hfz19_1 hfz19_2 hfz34_0 hfz34_1 hfz34_2 hx439_0 hx439_1 hx439_2 p439 q439); obtain ⟨x11_4, rfl, HA, HK4, HO_6, HO_7, HO_8, BK440, HB⟩ := hrel
        cases gk with
        | zero => exact absurd HA.out (by simp [spec_StepDown.l1])
        | succ k4 =>
         have H := HA.out; clear HA; simp only [spec_StepDown.l1] at H
         by_cases c36 : x11_4 < (((rd_T31 l1 x9_2).f1).length : Int)
         rotate_left
         ·rw [if_neg c36] at H; have c36b0 := decide_eq_false c36; clear c36
          by_cases c59 : 0 ≤ ((rd_T31 l1 x9_2).f0)
          rotate_left
          ·rw [if_neg c59] at H; exact absurd H (by simp)
          rw [if_pos c59] at H; have c59b0 := decide_eq_true c59; clear c59
          by_cases c60 : ((rd_T31 l1 x9_2).f0) < (x7_2.length : Int)
          rotate_left
          ·rw [if_neg c60] at H; exact absurd H (by simp)
          rw [if_pos c60] at H; have c60b0 := decide_eq_true c60; clear c60; replace H := Option.bind_eq_some_iff.mp H; obtain ⟨t454, A610, H⟩ := H; replace H : (if (t454.length : Int) = 0 then (some (y426, false)) else (spec_StepDown.l2 k4 l0 l1 y426 (x7_2.set (((rd_T31 l1 x9_2).f0) : Int).toNat 0) y443 x9_2 t454 0 ((rd_T31 l1 x9_2).f0) ((rd_T31 l1 x9_2).f1) ((rd_T31 l1 x9_2).f2))) = some (r1, r2) := H; have A61 := Aside0.mk A610; clear A610
          by_cases c62 : (t454.length : Int) = 0
          ·rw [if_pos c62] at H; have c62b0 : ((t454.length : Int) == 0) = true := beq_iff_eq.mpr c62; have c62b1 : ((t454.length : Int) != 0) = false := bne_eq_false_iff_eq.mpr c62; clear c62; simp only [Option.some.injEq, Prod.mk.injEq] at H; obtain ⟨rfl, rfl⟩ := H; obtain ⟨hcz63_0, hcz63_1, hcz63_2, hfz63_0, hfz63_1, hfz63_2⟩ := bc3 BK440.out
           try go_wp2
           replace HO_6 := aZ (Kd.R_drew HO_6.out); replace HO_7 := aZ (Kd.R_drew HO_7.out); replace HO_8 := aZ (Kd.R_drew HO_8.out); replace BK440 := aZ (blk_drew BK440.out); replace HB := aZ (below_drew1 HB.out); obtain ⟨Ao65, co65, eo65⟩ := Kd.R_slice HO_7.out; (first | subst eo65 | (injection eo65 with f1_ f2_ f3_; have f4_ := f1_.symm; have f5_ := f3_.symm; clear f1_ f2_ f3_; subst f4_; subst f5_)); have p453 : 0 ≤ (((rd_T31 l1 x9_2).f0) : Int) := of_decide_eq_true tZE; have q453 : ((rd_T31 l1 x9_2).f0) < (x7_2.length : Int) := of_decide_eq_true tZE; obtain ⟨ad453, e453, hx453_0⟩ := Kd.at_int (Kd.R_reads' HO_7.out).2.2 ((rd_T31 l1 x9_2).f0) p453 q453
           cases e453
           replace p453 := eq_true p453; replace q453 := eq_true q453; refine start_ (n := 9) (S := fun w' => w'.cell? ⟨gb440, 0, none⟩ = some (.int .i64 ((rd_T31 l1 x9_2).f0)) ∧ w'.cell? ⟨gb440, 1, none⟩ = some (.slice A439_1 ((rd_T31 l1 x9_2).f1).length c439_1) ∧ w'.cell? ⟨gb440, 2, none⟩ = some (.slice A439_2 ((rd_T31 l1 x9_2).f2).length c439_2) ∧ w'.cell? (ad453.add (((rd_T31 l1 x9_2).f0)).toNat) = some (.int .i64 (rd x7_2 ((rd_T31 l1 x9_2).f0)))) (ds := []) L0' kZ rfl rfl ⟨(blk_cell BK440.out 0).trans rfl, (blk_cell BK440.out 1).trans rfl, (blk_cell BK440.out 2).trans rfl, hx453_0⟩ (fun hHeld => ?_); refine with_tabW spec_StepDown.tab18 spec_StepDown.bits18 (fun HT_ HW_ => ?_); generalize wr.drew = w64 at HO_6 HO_7 HO_8 BK440 HB hx453_0 hHeld ⊢; refine pure_ (i := 0) (N := some 111) (v := ?_) (a' := ?_) L1' rfl rfl (any_of HT_.out kZ) (fun _ _ _ h => h) (Or.inl ⟨by rfl, ?_⟩) ?_ ?_
           rotate_left
           ·intro w'; go_simp; with_reducible rfl
           rotate_left
           ·simp only [Act.put, sZ1, sZ2, sZ3, i64_w, i32_w]; rfl
           refine pure_ (i := 1) (N := some 112) (v := ?_) (a' := ?_) L2' rfl rfl (any_of HT_.out kZ) (fun _ _ _ h => h) (Or.inl ⟨by rfl, ?_⟩) ?_ ?_; rotate_left
           ·intro w'; go_simp; with_reducible rfl
           rotate_left
           ·simp only [Act.put, sZ1, sZ2, sZ3, i64_w, i32_w]; rfl
           refine pure_ (i := 5) (N := some 116) (v := ?_) (a' := ?_) L3' rfl rfl (any_of HT_.out kZ) (fun _ _ _ h => h) (Or.inl ⟨by rfl, ?_⟩) ?_ ?_; rotate_left
           ·intro w'; go_simp; with_reducible rfl
           rotate_left
           ·simp only [Act.put, sZ1, sZ2, sZ3, i64_w, i32_w]; rfl
           refine take_ (i := 2) (N := some 113) (v := ?_) (a' := ?_) L4' rfl rfl (take_ofW HT_.out HW_.out kZ) (fun _ _ _ h => h) (Or.inl ⟨by rfl, ?_⟩) hHeld ?_ ?_; rotate_left
           ·rintro w' ⟨s0, s1, s2, s3⟩
            go_simp; with_reducible rfl
           rotate_left
           ·simp only [Act.put, sZ1, sZ2, sZ3, i64_w, i32_w]; rfl
           refine pure_ (i := 3) (N := some 114) (v := ?_) (a' := ?_) L5' rfl rfl (any_of HT_.out kZ) (fun _ _ _ h => h) (Or.inl ⟨by rfl, ?_⟩) ?_ ?_; rotate_left
           ·intro w'; go_simp; with_reducible rfl
           rotate_left
           ·simp only [Act.put, sZ1, sZ2, sZ3, i64_w, i32_w]; rfl
           refine take_ (i := 4) (N := some 115) (v := ?_) (a' := ?_) L6' rfl rfl (take_ofW HT_.out HW_.out kZ) (fun _ _ _ h => h) (Or.inl ⟨by rfl, ?_⟩) hHeld ?_ ?_; rotate_left
           ·rintro w' ⟨s0, s1, s2, s3⟩
            go_simp; with_reducible rfl
           rotate_left
           ·simp only [Act.put, sZ1, sZ2, sZ3, i64_w, i32_w]; rfl
           refine take_ (i := 6) (N := some 117) (v := ?_) (a' := ?_) L7' rfl rfl (take_ofW HT_.out HW_.out kZ) (fun _ _ _ h => h) (Or.inl ⟨by rfl, ?_⟩) hHeld ?_ ?_; rotate_left
           ·rintro w' ⟨s0, s1, s2, s3⟩
            go_simp; with_reducible rfl
           rotate_left
           ·simp only [Act.put, sZ1, sZ2, sZ3, i64_w, i32_w]; rfl
           refine one_ (i := 7) (N := some 118) L8' rfl rfl (one_of HT_.out kZ) (by decide) (fun K hK => ?_); refine goes_ Try.func40 kZ rfl #[.int .i64 (rd x7_2 ((rd_T31 l1 x9_2).f0)), .slice A439_2 ((rd_T31 l1 x9_2).f2).length c439_2] (by rfl) rfl rfl tZA ?_
           with_reducible refine (spec_Shares.calls k4 (rd x7_2 ((rd_T31 l1 x9_2).f0)) _ _ ((rd_T31 l1 x9_2).f2) t454 _ ?side1 ?side2 A61.out).mono ?_
           (case side1 => repeat (first | exact (Kd.C_below HR439_2.out HB.out) | (with_reducible refine Kd.C_alloc ?_ _) | (with_reducible refine Kd.C_drewN ?_ _) | (with_reducible refine Kd.C_drew ?_)))
           (case side2 => exact HC439_2.out)
           rintro e w66 ⟨v455, rfl, ho0, hb⟩
           have HS3_ := (hb.cell (World.block_lt_of_cell? _ _ (hHeld.2.2.2))).trans (hHeld.2.2.2); refine ⟨_, rfl, ?_⟩; have HO456 := aZ (Kd.R_lower (Kd.R_new' (Kd.R_new' (Kd.R_new' ho0 (Kd.R_lt (lZR HO_6.out))) (Kd.R_lt (lZR HO_7.out))) (Kd.R_lt (lZR HO_8.out))) (below_size bZ)); replace HO_6 := aZ (Kd.R_elder' (lZR HO_6.out) (Kd.R_base ho0) hb); replace HO_7 := aZ (Kd.R_elder' (lZR HO_7.out) (Kd.R_base ho0) hb); replace HO_8 := aZ (Kd.R_elder' (lZR HO_8.out) (Kd.R_base ho0) hb); replace BK440 := aZ (blk_below (bkZ BK440.out) hb); replace HB := aZ (below_step bZ hb); (try clear hb); (try clear hb2); (try clear hk); (try clear hi); (try clear ho0); refine hK.out _ _ ⟨(blk_cell BK440.out 0).trans rfl, (blk_cell BK440.out 1).trans rfl, (blk_cell BK440.out 2).trans rfl, HS3_⟩ (fun hHeld => ?_); clear hK K; refine norm_ (a' := ?_) ?_ ?_; rotate_left
           ·show Act.put _ (some 118) _ = _
            simp only [Act.put, sZ1, sZ2, sZ3, i64_w, i32_w]; rfl
           refine pure_ (i := 8) (N := some 12) (v := ?_) (a' := ?_) L9' rfl rfl (any_of HT_.out kZ) (fun _ _ _ h => h) (Or.inl ⟨by rfl, ?_⟩) ?_ ?_; rotate_left
           ·intro w'; go_simp; with_reducible rfl
           rotate_left
           ·simp only [Act.put, sZ1, sZ2, sZ3, i64_w, i32_w]; rfl
           refine done_ (done_of HT_.out kZ) ?_; obtain ⟨Ao67, co67, eo67⟩ := Kd.R_slice HO456.out; subst eo67
           try go_wp2
           go_ret2; exact ⟨_, tZC, by (with_reducible repeat (first | apply Kd.R_alloc | apply Kd.R_drewN | apply Kd.R_drew)); exact Kd.R_mono HO_6.out (fun _ hk => trivial), bZ⟩
          rw [if_neg c62] at H; have c62b0 : ((t454.length : Int) == 0) = false := beq_eq_false_iff_ne.mpr c62; have c62b1 : ((t454.length : Int) != 0) = true := bne_iff_ne.mpr c62; have c62b2 : ¬ (t454 = []) := fun h_ => c62 (by rw [h_]; rfl)
          obtain ⟨y457, hy457⟩ : ∃ y_ : List Int, y_ = (x7_2.set (((rd_T31 l1 x9_2).f0) : Int).toNat 0) := ⟨_, rfl⟩; replace H : (spec_StepDown.l2 k4 l0 l1 y426 y457 y443 x9_2 t454 0 ((rd_T31 l1 x9_2).f0) ((rd_T31 l1 x9_2).f1) ((rd_T31 l1 x9_2).f2)) = some (r1, r2) := by first | (rw [hy457]; with_reducible exact H) | (have H2_ := (Option.bind_some _ _).symm.trans H; rw [hy457]; with_reducible exact H2_) | (have H2_ := (Option.bind_some _ _).symm.trans H; with_reducible exact H2_) | with_reducible exact H | (rw [hy457]; exact H) | exact H
          have Ny457 := Aside0.mk hy457; clear hy457; have H' := Aside0.mk H; clear H; obtain ⟨hcz69_0, hcz69_1, hcz69_2, hfz69_0, hfz69_1, hfz69_2⟩ := bc3 BK440.out
          try go_wp2
          replace HO_6 := aZ (Kd.R_drew HO_6.out); replace HO_7 := aZ (Kd.R_drew HO_7.out); replace HO_8 := aZ (Kd.R_drew HO_8.out); replace BK440 := aZ (blk_drew BK440.out); replace HB := aZ (below_drew1 HB.out); obtain ⟨Ao71, co71, eo71⟩ := Kd.R_slice HO_7.out; (first | subst eo71 | (injection eo71 with f1_ f2_ f3_; have f4_ := f1_.symm; have f5_ := f3_.symm; clear f1_ f2_ f3_; subst f4_; subst f5_)); have p453 : 0 ≤ (((rd_T31 l1 x9_2).f0) : Int) := of_decide_eq_true tZE; have q453 : ((rd_T31 l1 x9_2).f0) < (x7_2.length : Int) := of_decide_eq_true tZE; obtain ⟨ad453, e453, hx453_0⟩ := Kd.at_int (Kd.R_reads' HO_7.out).2.2 ((rd_T31 l1 x9_2).f0) p453 q453
          cases e453
          replace p453 := eq_true p453; replace q453 := eq_true q453; refine start_ (n := 9) (S := fun w' => w'.cell? ⟨gb440, 0, none⟩ = some (.int .i64 ((rd_T31 l1 x9_2).f0)) ∧ w'.cell? ⟨gb440, 1, none⟩ = some (.slice A439_1 ((rd_T31 l1 x9_2).f1).length c439_1) ∧ w'.cell? ⟨gb440, 2, none⟩ = some (.slice A439_2 ((rd_T31 l1 x9_2).f2).length c439_2) ∧ w'.cell? (ad453.add (((rd_T31 l1 x9_2).f0)).toNat) = some (.int .i64 (rd x7_2 ((rd_T31 l1 x9_2).f0)))) (ds := []) L0' kZ rfl rfl ⟨(blk_cell BK440.out 0).trans rfl, (blk_cell BK440.out 1).trans rfl, (blk_cell BK440.out 2).trans rfl, hx453_0⟩ (fun hHeld => ?_); refine with_tabW spec_StepDown.tab18 spec_StepDown.bits18 (fun HT_ HW_ => ?_); generalize wr.drew = w70 at HO_6 HO_7 HO_8 BK440 HB hx453_0 hHeld ⊢; refine pure_ (i := 0) (N := some 111) (v := ?_) (a' := ?_) L1' rfl rfl (any_of HT_.out kZ) (fun _ _ _ h => h) (Or.inl ⟨by rfl, ?_⟩) ?_ ?_
          rotate_left
          ·intro w'; go_simp; with_reducible rfl
          rotate_left
          ·simp only [Act.put, sZ1, sZ2, sZ3, i64_w, i32_w]; rfl
          refine pure_ (i := 1) (N := some 112) (v := ?_) (a' := ?_) L2' rfl rfl (any_of HT_.out kZ) (fun _ _ _ h => h) (Or.inl ⟨by rfl, ?_⟩) ?_ ?_; rotate_left
          ·intro w'; go_simp; with_reducible rfl
          rotate_left
          ·simp only [Act.put, sZ1, sZ2, sZ3, i64_w, i32_w]; rfl
          refine pure_ (i := 5) (N := some 116) (v := ?_) (a' := ?_) L3' rfl rfl (any_of HT_.out kZ) (fun _ _ _ h => h) (Or.inl ⟨by rfl, ?_⟩) ?_ ?_; rotate_left
          ·intro w'; go_simp; with_reducible rfl
          rotate_left
          ·simp only [Act.put, sZ1, sZ2, sZ3, i64_w, i32_w]; rfl
          refine take_ (i := 2) (N := some 113) (v := ?_) (a' := ?_) L4' rfl rfl (take_ofW HT_.out HW_.out kZ) (fun _ _ _ h => h) (Or.inl ⟨by rfl, ?_⟩) hHeld ?_ ?_; rotate_left
          ·rintro w' ⟨s0, s1, s2, s3⟩
           go_simp; with_reducible rfl
          rotate_left
          ·simp only [Act.put, sZ1, sZ2, sZ3, i64_w, i32_w]; rfl
          refine pure_ (i := 3) (N := some 114) (v := ?_) (a' := ?_) L5' rfl rfl (any_of HT_.out kZ) (fun _ _ _ h => h) (Or.inl ⟨by rfl, ?_⟩) ?_ ?_; rotate_left
          ·intro w'; go_simp; with_reducible rfl
          rotate_left
          ·simp only [Act.put, sZ1, sZ2, sZ3, i64_w, i32_w]; rfl
          refine take_ (i := 4) (N := some 115) (v := ?_) (a' := ?_) L6' rfl rfl (take_ofW HT_.out HW_.out kZ) (fun _ _ _ h => h) (Or.inl ⟨by rfl, ?_⟩) hHeld ?_ ?_; rotate_left
          ·rintro w' ⟨s0, s1, s2, s3⟩
           go_simp; with_reducible rfl
          rotate_left
          ·simp only [Act.put, sZ1, sZ2, sZ3, i64_w, i32_w]; rfl
          refine take_ (i := 6) (N := some 117) (v := ?_) (a' := ?_) L7' rfl rfl (take_ofW HT_.out HW_.out kZ) (fun _ _ _ h => h) (Or.inl ⟨by rfl, ?_⟩) hHeld ?_ ?_; rotate_left
          ·rintro w' ⟨s0, s1, s2, s3⟩
           go_simp; with_reducible rfl
          rotate_left
          ·simp only [Act.put, sZ1, sZ2, sZ3, i64_w, i32_w]; rfl
          refine one_ (i := 7) (N := some 118) L8' rfl rfl (one_of HT_.out kZ) (by decide) (fun K hK => ?_); refine goes_ Try.func40 kZ rfl #[.int .i64 (rd x7_2 ((rd_T31 l1 x9_2).f0)), .slice A439_2 ((rd_T31 l1 x9_2).f2).length c439_2] (by rfl) rfl rfl tZA ?_
          with_reducible refine (spec_Shares.calls k4 (rd x7_2 ((rd_T31 l1 x9_2).f0)) _ _ ((rd_T31 l1 x9_2).f2) t454 _ ?side1 ?side2 A61.out).mono ?_
          (case side1 => repeat (first | exact (Kd.C_below HR439_2.out HB.out) | (with_reducible refine Kd.C_alloc ?_ _) | (with_reducible refine Kd.C_drewN ?_ _) | (with_reducible refine Kd.C_drew ?_)))
          (case side2 => exact HC439_2.out)
          rintro e w72 ⟨v455, rfl, ho0, hb⟩
          have HS3_ := (hb.cell (World.block_lt_of_cell? _ _ (hHeld.2.2.2))).trans (hHeld.2.2.2); refine ⟨_, rfl, ?_⟩; have HO456 := aZ (Kd.R_lower (Kd.R_new' (Kd.R_new' (Kd.R_new' ho0 (Kd.R_lt (lZR HO_6.out))) (Kd.R_lt (lZR HO_7.out))) (Kd.R_lt (lZR HO_8.out))) (below_size bZ)); replace HO_6 := aZ (Kd.R_elder' (lZR HO_6.out) (Kd.R_base ho0) hb); replace HO_7 := aZ (Kd.R_elder' (lZR HO_7.out) (Kd.R_base ho0) hb); replace HO_8 := aZ (Kd.R_elder' (lZR HO_8.out) (Kd.R_base ho0) hb); replace BK440 := aZ (blk_below (bkZ BK440.out) hb); replace HB := aZ (below_step bZ hb); (try clear hb); (try clear hb2); (try clear hk); (try clear hi); (try clear ho0); refine hK.out _ _ ⟨(blk_cell BK440.out 0).trans rfl, (blk_cell BK440.out 1).trans rfl, (blk_cell BK440.out 2).trans rfl, HS3_⟩ (fun hHeld => ?_); clear hK K; refine norm_ (a' := ?_) ?_ ?_; rotate_left
          ·show Act.put _ (some 118) _ = _
           simp only [Act.put, sZ1, sZ2, sZ3, i64_w, i32_w]; rfl
          refine pure_ (i := 8) (N := some 12) (v := ?_) (a' := ?_) L9' rfl rfl (any_of HT_.out kZ) (fun _ _ _ h => h) (Or.inl ⟨by rfl, ?_⟩) ?_ ?_; rotate_left
          ·intro w'; go_simp; with_reducible rfl
          rotate_left
          ·simp only [Act.put, sZ1, sZ2, sZ3, i64_w, i32_w]; rfl
          refine done_ (done_of HT_.out kZ) ?_; obtain ⟨Ao73, co73, eo73⟩ := Kd.R_slice HO456.out; subst eo73; obtain ⟨hcz74_0, hcz74_1, hcz74_2, hfz74_0, hfz74_1, hfz74_2⟩ := bc3 BK440.out; have p68 : 0 ≤ (((rd_T31 l1 x9_2).f0) : Int) := of_decide_eq_true tZE; have q68 : (((rd_T31 l1 x9_2).f0) : Int) < ((x7_2.length : Int) : Int) := of_decide_eq_true tZE; obtain ⟨go68, co68, eo68, gb68, gl68, cl68, HG68⟩ := Kd.R_form HO_7.out (by omega); (first | cases eo68 | (injection eo68 with ea_ en_ ec_; (first | subst ea_ | (injection ea_ with ea_; subst ea_)); subst ec_; clear en_)); have GB68 := Aside0.mk gb68; have GG68 := Aside0.mk HG68; clear gb68 gl68 HG68; (first | simp only [add_plain] at hx453_0 | skip); obtain ⟨hx68_0, hf68_0⟩ := Kd.R_celln 0 HO_7.out (((rd_T31 l1 x9_2).f0) : Int) p68 q68; replace p68 := eq_true p68; replace q68 := eq_true q68
          have n_ := aZ (Kd.R_mono (ok' := (fun k_ => some k_ ≠ (v427 : Value).ownBlock ∧ some k_ ≠ (v444 : Value).ownBlock ∧ some k_ ≠ (.slice Ao73 t454.length co73 : Value).ownBlock)) HO_7.out (fun k_ hk => ⟨hk.1.1, ⟨hk.1.2, hk.2⟩⟩)); clear HO_7; have HO_7 := n_; clear n_; obtain ⟨hy75_, hz75_⟩ := Kd.R_celln 0 HO_7.out (((rd_T31 l1 x9_2).f0) : Int) (of_decide_eq_true tZE) (of_decide_eq_true tZE); have HP75 := Kd.R_putg HO_7.out (((rd_T31 l1 x9_2).f0) : Int) 0
          try go_wp2_with (first | ((with_reducible refine gate_store (t := 3) (p := 126) rfl ?_); refine store_event (t := 3) (p := 126) (v := ?vo_w76) (w1 := (w72.setCell ⟨go68, (((rd_T31 l1 x9_2).f0) : Int).toNat, none⟩ (.int .i64 0))) ?hg ?ho ?hn ?hr ?_; (case ho => rfl); (case hg => rfl); (case hn => rfl); (case hr => first | (go_simp; done) | (go_simp; rfl)); intro w76 hw; have hg : w72.grownBy w76 (some go68) := (by rw [hw]; exact HP75.2); have hp_ : Kd.R (Kd.int .i64) 3 w76 w.heap.size (fun k_ => some k_ ≠ (v427 : Value).ownBlock ∧ some k_ ≠ (v444 : Value).ownBlock ∧ some k_ ≠ (.slice Ao73 t454.length co73 : Value).ownBlock) (.slice (some ⟨go68, 0, none⟩) x7_2.length co71) y457 := (by rw [hw, Ny457.out]; exact HP75.1); clear HP75; replace HO_6 := aZ (Kd.R_after (v := (.slice (some ⟨go68, 0, none⟩) x7_2.length co71)) (v1 := (.slice (some ⟨go68, 0, none⟩) x7_2.length co71)) (ok := (fun k_ => some k_ ≠ (v444 : Value).ownBlock ∧ some k_ ≠ (.slice Ao73 t454.length co73 : Value).ownBlock)) (by (with_reducible repeat (first | apply Kd.R_alloc | apply Kd.R_drewN | apply Kd.R_drew)); exact Kd.R_mono HO_6.out (fun _ hk => ⟨⟨hk.1.2, hk.2⟩, hk.1.1⟩)) hg (.inl rfl)); replace HO_8 := aZ (Kd.R_after (v := (.slice (some ⟨go68, 0, none⟩) x7_2.length co71)) (v1 := (.slice (some ⟨go68, 0, none⟩) x7_2.length co71)) (ok := (fun k_ => some k_ ≠ (v427 : Value).ownBlock ∧ some k_ ≠ (.slice Ao73 t454.length co73 : Value).ownBlock)) (by (with_reducible repeat (first | apply Kd.R_alloc | apply Kd.R_drewN | apply Kd.R_drew)); exact Kd.R_mono HO_8.out (fun _ hk => ⟨⟨hk.1.1, hk.2⟩, hk.1.2⟩)) hg (.inl rfl)); replace BK440 := aZ (blk_grown (bkZ BK440.out) hg (Kd.R_ne HO_7.out BK440.out (by decide))); replace HO_7 := aZ (hp_); replace HO456 := aZ (Kd.R_after (v := (.slice (some ⟨go68, 0, none⟩) x7_2.length co71)) (v1 := (.slice (some ⟨go68, 0, none⟩) x7_2.length co71)) (ok := (fun k_ => some k_ ≠ (v427 : Value).ownBlock ∧ some k_ ≠ (v444 : Value).ownBlock)) (by (with_reducible repeat (first | apply Kd.R_alloc | apply Kd.R_drewN | apply Kd.R_drew)); exact Kd.R_mono HO456.out (fun _ hk => ⟨⟨hk.1.1.2, hk.2⟩, hk.1.2⟩)) hg (.inl rfl)); replace HB := aZ ((by rw [hw]; exact below_set (HB.out) GB68.out : Below w.heap.size w w76)); clear hg hw hp_))
          (try simp only [add_plain])
          go_loopg [13] k4 (fun kq v13 w' => ∃ (x7_5 : List Int) (x13_5 : Int), v13 = .int .i64 x13_5 ∧ Aside0 (spec_StepDown.l2 kq l0 l1 y426 x7_5 y443 x9_2 t454 x13_5 ((rd_T31 l1 x9_2).f0) ((rd_T31 l1 x9_2).f1) ((rd_T31 l1 x9_2).f2) = some (r1, r2)) ∧ Aside0 (kq ≤ k4) ∧ Aside0 (Kd.R (Kd.int .i64) 3 w' w.heap.size (fun k_ => some k_ ≠ ((.slice (some ⟨go68, 0, none⟩) x7_2.length co71) : Value).ownBlock ∧ some k_ ≠ (v444 : Value).ownBlock ∧ some k_ ≠ ((.slice Ao73 t454.length co73) : Value).ownBlock) v427 y426) ∧ Aside0 (Kd.R (Kd.int .i64) 3 w' w.heap.size (fun k_ => some k_ ≠ (v427 : Value).ownBlock ∧ some k_ ≠ (v444 : Value).ownBlock ∧ some k_ ≠ ((.slice Ao73 t454.length co73) : Value).ownBlock) (.slice (some ⟨go68, 0, none⟩) x7_2.length co71) x7_5) ∧ Aside0 (Kd.R (Kd.int .i64) 3 w' w.heap.size (fun k_ => some k_ ≠ (v427 : Value).ownBlock ∧ some k_ ≠ ((.slice (some ⟨go68, 0, none⟩) x7_2.length co71) : Value).ownBlock ∧ some k_ ≠ ((.slice Ao73 t454.length co73) : Value).ownBlock) v444 y443) ∧ Aside0 (Kd.R (Kd.int .i64) 3 w' w.heap.size (fun k_ => some k_ ≠ (v427 : Value).ownBlock ∧ some k_ ≠ ((.slice (some ⟨go68, 0, none⟩) x7_2.length co71) : Value).ownBlock ∧ some k_ ≠ (v444 : Value).ownBlock) (.slice Ao73 t454.length co73) t454) ∧ Aside0 (w'.heap[gb440]? = some (.cells #[.int .i64 ((rd_T31 l1 x9_2).f0), (.slice A439_1 ((rd_T31 l1 x9_2).f1).length c439_1), (.slice A439_2 ((rd_T31 l1 x9_2).f2).length c439_2)] 31 (0, 0))) ∧ Aside0 (Below w.heap.size w w'))
          case atStart => exact ⟨(y457), (0), tZB, H', ⟨Nat.le_refl _⟩, ⟨by (with_reducible repeat (first | apply Kd.R_alloc | apply Kd.R_drewN | apply Kd.R_drew)); exact Kd.R_mono HO_6.out (fun _ hk => ⟨hk.2, ⟨hk.1.1, hk.1.2⟩⟩)⟩, ⟨lZR HO_7.out⟩, ⟨by (with_reducible repeat (first | apply Kd.R_alloc | apply Kd.R_drewN | apply Kd.R_drew)); exact Kd.R_mono HO_8.out (fun _ hk => ⟨hk.1.1, ⟨hk.2, hk.1.2⟩⟩)⟩, ⟨by (with_reducible repeat (first | apply Kd.R_alloc | apply Kd.R_drewN | apply Kd.R_drew)); exact Kd.R_mono HO456.out (fun _ hk => ⟨hk.1.1, ⟨hk.2, hk.1.2⟩⟩)⟩, ⟨bkZ BK440.out⟩, ⟨bZ⟩⟩
          case round =>
           clear H'; (try clear c36 c36b0 c59 c59b0 c60 c60b0 c62 c62b0 c62b1 c62b2 p68 q68 hcz69_0 hcz69_1 hcz69_2 hcz74_0 hcz74_1 hcz74_2 hfz69_0 hfz69_1 hfz69_2 hfz74_0 hfz74_1 hfz74_2 hx453_0 hx68_0 p453 p68 q453 q68); obtain ⟨x7_5, x13_5, rfl, HA, HK5, HO_6, HO_7, HO_8, HO_12, BK440, HB⟩ := hrel; have hl7_5 := (Kd.R_reads' HO_7.out).1; rw [hl7_5] at HO_7; (try simp only [hl7_5]); (try simp only [hl7_5] at BK440); (try simp only [hl7_5] at HO_6); (try simp only [hl7_5] at HO_8); (try simp only [hl7_5] at HO_12)
           cases gk with
           | zero => exact absurd HA.out (by simp [spec_StepDown.l2])
           | succ k5 =>
            have H := HA.out; clear HA; simp only [spec_StepDown.l2] at H
            by_cases c77 : x13_5 < (t454.length : Int)
            rotate_left
            ·rw [if_neg c77] at H; have c77b0 := decide_eq_false c77; clear c77; have H' := Aside0.mk H; clear H; go_wp2; (try simp only [← hl7_5])
             go_roundg k5
             case measure => have := HJ2.out; have := HK2.out; have := HJ16.out; have := HK4.out; have := HK5.out; omega
             case rel => exact ⟨(x7_5), (y443), (wrap64 (x9_2 + 1)), tZB, H', ⟨by have := HJ2.out; have := HK2.out; have := HJ16.out; have := HK4.out; have := HK5.out; omega⟩, ⟨by (try simp only [hl7_5]); (with_reducible repeat (first | apply Kd.R_alloc | apply Kd.R_drewN | apply Kd.R_drew)); exact Kd.R_mono HO_6.out (fun _ hk => ⟨hk.1, hk.2.1⟩)⟩, ⟨by (try simp only [hl7_5]); (with_reducible repeat (first | apply Kd.R_alloc | apply Kd.R_drewN | apply Kd.R_drew)); exact Kd.R_mono HO_7.out (fun _ hk => ⟨hk.1, hk.2.1⟩)⟩, ⟨by (try simp only [hl7_5]); (with_reducible repeat (first | apply Kd.R_alloc | apply Kd.R_drewN | apply Kd.R_drew)); exact Kd.R_mono HO_8.out (fun _ hk => ⟨hk.1, hk.2.1⟩)⟩, ⟨bZ⟩⟩
            rw [if_pos c77] at H; have c77b0 := decide_eq_true c77; clear c77
            by_cases c78 : 0 ≤ x13_5
            rotate_left
            ·rw [if_neg c78] at H; exact absurd H (by simp)
            rw [if_pos c78] at H; have c78b0 := decide_eq_true c78; clear c78
            by_cases c79 : x13_5 < (((rd_T31 l1 x9_2).f1).length : Int)
            rotate_left
            ·rw [if_neg c79] at H; exact absurd H (by simp)
            rw [if_pos c79] at H; have c79b0 := decide_eq_true c79; clear c79
            by_cases c80 : 0 ≤ (rd ((rd_T31 l1 x9_2).f1) x13_5)
            rotate_left
            ·rw [if_neg c80] at H; exact absurd H (by simp)
            rw [if_pos c80] at H; have c80b0 := decide_eq_true c80; clear c80
            by_cases c81 : (rd ((rd_T31 l1 x9_2).f1) x13_5) < (x7_5.length : Int)
            rotate_left
            ·rw [if_neg c81] at H; exact absurd H (by simp)
            rw [if_pos c81] at H; have c81b0 := decide_eq_true c81; clear c81; obtain ⟨y462, hy462⟩ : ∃ y_ : List Int, y_ = (x7_5.set ((rd ((rd_T31 l1 x9_2).f1) x13_5) : Int).toNat (wrap64 ((rd x7_5 (rd ((rd_T31 l1 x9_2).f1) x13_5)) + (rd t454 x13_5)))) := ⟨_, rfl⟩; replace H : ((spec_l1Amount.f (wrap64 ((rd x7_5 (rd ((rd_T31 l1 x9_2).f1) x13_5)) + (rd t454 x13_5)))).bind fun t465 => (if t465 = true then (spec_StepDown.l2 k5 l0 l1 y426 y462 y443 x9_2 t454 (wrap64 (x13_5 + 1)) ((rd_T31 l1 x9_2).f0) ((rd_T31 l1 x9_2).f1) ((rd_T31 l1 x9_2).f2)) else (some (y426, false)))) = some (r1, r2) := by first | (rw [hy462]; with_reducible exact H) | (have H2_ := (Option.bind_some _ _).symm.trans H; rw [hy462]; with_reducible exact H2_) | (have H2_ := (Option.bind_some _ _).symm.trans H; with_reducible exact H2_) | with_reducible exact H | (rw [hy462]; exact H) | exact H
            have Ny462 := Aside0.mk hy462; clear hy462; replace H := Option.bind_eq_some_iff.mp H; obtain ⟨t465, A840, H⟩ := H; replace H : (if t465 = true then (spec_StepDown.l2 k5 l0 l1 y426 y462 y443 x9_2 t454 (wrap64 (x13_5 + 1)) ((rd_T31 l1 x9_2).f0) ((rd_T31 l1 x9_2).f1) ((rd_T31 l1 x9_2).f2)) else (some (y426, false))) = some (r1, r2) := H; have A84 := Aside0.mk A840; clear A840
            by_cases c85 : t465 = true
            rotate_left
            ·replace c85 := Bool.eq_false_iff.mpr c85; subst c85; rw [if_neg Bool.false_ne_true] at H; simp only [Option.some.injEq, Prod.mk.injEq] at H; obtain ⟨rfl, rfl⟩ := H
             try go_wp2
             replace HO_6 := aZ (Kd.R_drew HO_6.out); replace HO_7 := aZ (Kd.R_drew HO_7.out); replace HO_8 := aZ (Kd.R_drew HO_8.out); replace HO_12 := aZ (Kd.R_drew HO_12.out); replace BK440 := aZ (blk_drew BK440.out); replace HB := aZ (below_drew1 HB.out); have p458 : 0 ≤ (x13_5 : Int) := of_decide_eq_true tZE; have q458 : x13_5 < (((rd_T31 l1 x9_2).f1).length : Int) := of_decide_eq_true tZE; obtain ⟨ad458, e458, hx458_0⟩ := Kd.at_int HR439_1.out x13_5 p458 q458; have hw458_0 := hx458_0
             cases e458
             replace hx458_0 := cZ HB hx458_0; replace p458 := eq_true p458; replace q458 := eq_true q458; have p459 : 0 ≤ (x13_5 : Int) := of_decide_eq_true tZE; have q459 : x13_5 < (((rd_T31 l1 x9_2).f1).length : Int) := of_decide_eq_true tZE; obtain ⟨ad459, e459, hx459_0⟩ := Kd.at_int HR439_1.out x13_5 p459 q459; have hw459_0 := hx459_0; obtain rfl : ad458 = ad459 := (by injection e459); replace hx459_0 := cZ HB hx459_0; replace p459 := eq_true p459; replace q459 := eq_true q459; have p460 : 0 ≤ ((rd ((rd_T31 l1 x9_2).f1) x13_5) : Int) := of_decide_eq_true tZE; have q460 : (rd ((rd_T31 l1 x9_2).f1) x13_5) < (x7_5.length : Int) := of_decide_eq_true tZE; obtain ⟨ad460, e460, hx460_0⟩ := Kd.at_int (Kd.R_reads' HO_7.out).2.2 (rd ((rd_T31 l1 x9_2).f1) x13_5) p460 q460; obtain rfl : (⟨go68, 0, none⟩ : Addr) = ad460 := (by injection e460)
             (first | simp only [add_plain] at hx460_0 | simp only [add_at] at hx460_0 | simp only [Addr.add, Nat.zero_add] at hx460_0 | skip); replace p460 := eq_true p460; replace q460 := eq_true q460; have p461 : 0 ≤ (x13_5 : Int) := of_decide_eq_true tZE; have q461 : x13_5 < (t454.length : Int) := of_decide_eq_true tZE; obtain ⟨ad461, e461, hx461_0⟩ := Kd.at_int (Kd.R_reads' HO_12.out).2.2 x13_5 p461 q461
             cases e461
             replace p461 := eq_true p461; replace q461 := eq_true q461; have p82 : 0 ≤ ((rd ((rd_T31 l1 x9_2).f1) x13_5) : Int) := of_decide_eq_true tZE; have q82 : ((rd ((rd_T31 l1 x9_2).f1) x13_5) : Int) < ((x7_5.length : Int) : Int) := of_decide_eq_true tZE; obtain ⟨hx82_0, hf82_0⟩ := Kd.R_celln 0 HO_7.out ((rd ((rd_T31 l1 x9_2).f1) x13_5) : Int) p82 q82; replace p82 := eq_true p82; replace q82 := eq_true q82; (try clear GG68); obtain ⟨cl91_, hgg91_⟩ := Kd.R_typed (HO_7.out) go68 rfl; have GG68 := Aside0.mk hgg91_; clear hgg91_; have HP91 := Kd.R_putn HO_7.out ((rd ((rd_T31 l1 x9_2).f1) x13_5) : Int) (wrap64 ((rd x7_5 (rd ((rd_T31 l1 x9_2).f1) x13_5)) + (rd t454 x13_5))); rw [← Ny462.out] at HP91; have HQ91 := Aside0.mk HP91; clear HP91
             refine start_ (n := 21) (S := fun w' => w'.cell? ⟨gb440, 0, none⟩ = some (.int .i64 ((rd_T31 l1 x9_2).f0)) ∧ w'.cell? ⟨gb440, 1, none⟩ = some (.slice (some ad458) ((rd_T31 l1 x9_2).f1).length c439_1) ∧ w'.cell? ⟨gb440, 2, none⟩ = some (.slice A439_2 ((rd_T31 l1 x9_2).f2).length c439_2) ∧ w'.cell? (ad458.add (x13_5).toNat) = some (.int .i64 (rd ((rd_T31 l1 x9_2).f1) x13_5)) ∧ w'.cell? (ad458.add (x13_5).toNat) = some (.int .i64 (rd ((rd_T31 l1 x9_2).f1) x13_5)) ∧ w'.cell? ⟨go68, ((rd ((rd_T31 l1 x9_2).f1) x13_5)).toNat, none⟩ = some (.int .i64 (rd x7_5 (rd ((rd_T31 l1 x9_2).f1) x13_5))) ∧ w'.cell? (ad461.add (x13_5).toNat) = some (.int .i64 (rd t454 x13_5))) (ds := [20]) L10' kZ rfl rfl ⟨(blk_cell BK440.out 0).trans rfl, (blk_cell BK440.out 1).trans rfl, (blk_cell BK440.out 2).trans rfl, ((HB.out.cell (World.block_lt_of_cell? w _ hw458_0)).trans hw458_0), ((HB.out.cell (World.block_lt_of_cell? w _ hw459_0)).trans hw459_0), hx460_0, hx461_0⟩ (fun hHeld => ?_); refine with_tabW spec_StepDown.tab25 spec_StepDown.bits25 (fun HT_ HW_ => ?_)
             generalize wr.drew = w90 at HO_6 HO_7 HO_8 HO_12 BK440 HB GG68 HQ91 hf82_0 hx458_0 hx459_0 hx460_0 hx461_0 hx82_0 hHeld ⊢; refine pure_ (i := 0) (N := some 133) (v := ?_) (a' := ?_) L11' rfl rfl (any_of HT_.out kZ) (fun _ _ _ h => h) (Or.inl ⟨by rfl, ?_⟩) ?_ ?_; rotate_left
             ·intro w'; go_simp; with_reducible rfl
             rotate_left
             ·simp only [Act.put, sZ1, sZ2, sZ3, i64_w, i32_w]; rfl
             refine pure_ (i := 1) (N := some 134) (v := ?_) (a' := ?_) L12' rfl rfl (any_of HT_.out kZ) (fun _ _ _ h => h) (Or.inl ⟨by rfl, ?_⟩) ?_ ?_; rotate_left
             ·intro w'; go_simp; with_reducible rfl
             rotate_left
             ·simp only [Act.put, sZ1, sZ2, sZ3, i64_w, i32_w]; rfl
             refine pure_ (i := 3) (N := some 136) (v := ?_) (a' := ?_) L13' rfl rfl (any_of HT_.out kZ) (fun _ _ _ h => h) (Or.inl ⟨by rfl, ?_⟩) ?_ ?_; rotate_left
             ·intro w'; go_simp; with_reducible rfl
             rotate_left
             ·simp only [Act.put, sZ1, sZ2, sZ3, i64_w, i32_w]; rfl
             refine pure_ (i := 6) (N := some 139) (v := ?_) (a' := ?_) L14' rfl rfl (any_of HT_.out kZ) (fun _ _ _ h => h) (Or.inl ⟨by rfl, ?_⟩) ?_ ?_; rotate_left
             ·intro w'; go_simp; with_reducible rfl
             rotate_left
             ·simp only [Act.put, sZ1, sZ2, sZ3, i64_w, i32_w]; rfl
             refine pure_ (i := 7) (N := some 140) (v := ?_) (a' := ?_) L15' rfl rfl (any_of HT_.out kZ) (fun _ _ _ h => h) (Or.inl ⟨by rfl, ?_⟩) ?_ ?_; rotate_left
             ·intro w'; go_simp; with_reducible rfl
             rotate_left
             ·simp only [Act.put, sZ1, sZ2, sZ3, i64_w, i32_w]; rfl
             refine pure_ (i := 9) (N := some 142) (v := ?_) (a' := ?_) L16' rfl rfl (any_of HT_.out kZ) (fun _ _ _ h => h) (Or.inl ⟨by rfl, ?_⟩) ?_ ?_; rotate_left
             ·intro w'; go_simp; with_reducible rfl
             rotate_left
             ·simp only [Act.put, sZ1, sZ2, sZ3, i64_w, i32_w]; rfl
             refine pure_ (i := 14) (N := some 147) (v := ?_) (a' := ?_) L17' rfl rfl (any_of HT_.out kZ) (fun _ _ _ h => h) (Or.inl ⟨by rfl, ?_⟩) ?_ ?_; rotate_left
             ·intro w'; go_simp; with_reducible rfl
             rotate_left
             ·simp only [Act.put, sZ1, sZ2, sZ3, i64_w, i32_w]; rfl
             refine pure_ (i := 15) (N := some 148) (v := ?_) (a' := ?_) L18' rfl rfl (any_of HT_.out kZ) (fun _ _ _ h => h) (Or.inl ⟨by rfl, ?_⟩) ?_ ?_; rotate_left
             ·intro w'; go_simp; with_reducible rfl
             rotate_left
             ·simp only [Act.put, sZ1, sZ2, sZ3, i64_w, i32_w]; rfl
             refine pure_ (i := 16) (N := some 149) (v := ?_) (a' := ?_) L19' rfl rfl (any_of HT_.out kZ) (fun _ _ _ h => h) (Or.inl ⟨by rfl, ?_⟩) ?_ ?_; rotate_left
             ·intro w'; go_simp; with_reducible rfl
             rotate_left
             ·simp only [Act.put, sZ1, sZ2, sZ3, i64_w, i32_w]; rfl
             refine take_ (i := 2) (N := some 135) (v := ?_) (a' := ?_) L20' rfl rfl (take_ofW HT_.out HW_.out kZ) (fun _ _ _ h => h) (Or.inl ⟨by rfl, ?_⟩) hHeld ?_ ?_; rotate_left
             ·rintro w' ⟨s0, s1, s2, s3, s4, s5, s6⟩
              go_simp; with_reducible rfl
             rotate_left
             ·simp only [Act.put, sZ1, sZ2, sZ3, i64_w, i32_w]; rfl
             refine pure_ (i := 4) (N := some 137) (v := ?_) (a' := ?_) L21' rfl rfl (any_of HT_.out kZ) (fun _ _ _ h => h) (Or.inl ⟨by rfl, ?_⟩) ?_ ?_; rotate_left
             ·intro w'; go_simp; with_reducible rfl
             rotate_left
             ·simp only [Act.put, sZ1, sZ2, sZ3, i64_w, i32_w]; rfl
             refine take_ (i := 5) (N := some 138) (v := ?_) (a' := ?_) L22' rfl rfl (take_ofW HT_.out HW_.out kZ) (fun _ _ _ h => h) (Or.inl ⟨by rfl, ?_⟩) hHeld ?_ ?_; rotate_left
             ·rintro w' ⟨s0, s1, s2, s3, s4, s5, s6⟩
              go_simp; with_reducible rfl
             rotate_left
             ·simp only [Act.put, sZ1, sZ2, sZ3, i64_w, i32_w]; rfl
             refine take_ (i := 8) (N := some 141) (v := ?_) (a' := ?_) L23' rfl rfl (take_ofW HT_.out HW_.out kZ) (fun _ _ _ h => h) (Or.inl ⟨by rfl, ?_⟩) hHeld ?_ ?_; rotate_left
             ·rintro w' ⟨s0, s1, s2, s3, s4, s5, s6⟩
              go_simp; with_reducible rfl
             rotate_left
             ·simp only [Act.put, sZ1, sZ2, sZ3, i64_w, i32_w]; rfl
             refine pure_ (i := 10) (N := some 143) (v := ?_) (a' := ?_) L24' rfl rfl (any_of HT_.out kZ) (fun _ _ _ h => h) (Or.inl ⟨by rfl, ?_⟩) ?_ ?_; rotate_left
             ·intro w'; go_simp; with_reducible rfl
             rotate_left
             ·simp only [Act.put, sZ1, sZ2, sZ3, i64_w, i32_w]; rfl
             refine take_ (i := 11) (N := some 144) (v := ?_) (a' := ?_) L25' rfl rfl (take_ofW HT_.out HW_.out kZ) (fun _ _ _ h => h) (Or.inl ⟨by rfl, ?_⟩) hHeld ?_ ?_; rotate_left
             ·rintro w' ⟨s0, s1, s2, s3, s4, s5, s6⟩
              go_simp; with_reducible rfl
             rotate_left
             ·simp only [Act.put, sZ1, sZ2, sZ3, i64_w, i32_w]; rfl
             refine pure_ (i := 12) (N := some 145) (v := ?_) (a' := ?_) L26' rfl rfl (any_of HT_.out kZ) (fun _ _ _ h => h) (Or.inl ⟨by rfl, ?_⟩) ?_ ?_; rotate_left
             ·intro w'; go_simp; with_reducible rfl
             rotate_left
             ·simp only [Act.put, sZ1, sZ2, sZ3, i64_w, i32_w]; rfl
             refine take_ (i := 13) (N := some 146) (v := ?_) (a' := ?_) L27' rfl rfl (take_ofW HT_.out HW_.out kZ) (fun _ _ _ h => h) (Or.inl ⟨by rfl, ?_⟩) hHeld ?_ ?_; rotate_left
             ·rintro w' ⟨s0, s1, s2, s3, s4, s5, s6⟩
              go_simp; with_reducible rfl
             rotate_left
             ·simp only [Act.put, sZ1, sZ2, sZ3, i64_w, i32_w]; rfl
             refine take_ (i := 17) (N := some 150) (v := ?_) (a' := ?_) L28' rfl rfl (take_ofW HT_.out HW_.out kZ) (fun _ _ _ h => h) (Or.inl ⟨by rfl, ?_⟩) hHeld ?_ ?_; rotate_left
             ·rintro w' ⟨s0, s1, s2, s3, s4, s5, s6⟩
              go_simp; with_reducible rfl
             rotate_left
             ·simp only [Act.put, sZ1, sZ2, sZ3, i64_w, i32_w]; rfl
             refine pure_ (i := 18) (N := some 151) (v := ?_) (a' := ?_) L29' rfl rfl (any_of HT_.out kZ) (fun _ _ _ h => h) (Or.inl ⟨by rfl, ?_⟩) ?_ ?_; rotate_left
             ·intro w'; go_simp; with_reducible rfl
             rotate_left
             ·simp only [Act.put, sZ1, sZ2, sZ3, i64_w, i32_w]; rfl
             refine pure_ (i := 19) (N := some 152) (v := ?_) (a' := ?_) L30' rfl rfl (any_of HT_.out kZ) (fun _ _ _ h => h) (Or.inl ⟨by rfl, ?_⟩) ?_ ?_; rotate_left
             ·intro w'; go_simp; with_reducible rfl
             rotate_left
             ·simp only [Act.put, sZ1, sZ2, sZ3, i64_w, i32_w]; rfl
             refine last_ (i := 20) (N := none) L31' rfl rfl (one_of HT_.out kZ) (by decide) (fun K hK => ?_); refine skip_ (w1 := ?_) (by rfl) rfl ?_ ?_; rotate_left
             ·go_simp; rfl
             refine hK.out _ _ ?_; clear hK K; refine done_ (done_of HT_.out kZ) ?_; (try have hnb92 : gb440 ≠ go68 := (fun he_ => by have h1_ := BK440.out; have h2_ := GG68.out; rw [he_] at h1_; have h3_ := h1_.symm.trans h2_; injection h3_ with h3_; injection h3_ with _ h4_ _; exact absurd h4_ (by decide))); (try have hnc92 := Ne.symm hnb92); obtain ⟨hcz93_0, hcz93_1, hcz93_2, hfz93_0, hfz93_1, hfz93_2⟩ := bc3 BK440.out; have p463 : 0 ≤ (x13_5 : Int) := of_decide_eq_true tZE; have q463 : x13_5 < (((rd_T31 l1 x9_2).f1).length : Int) := of_decide_eq_true tZE; obtain ⟨ad463, e463, hx463_0⟩ := Kd.at_int HR439_1.out x13_5 p463 q463; obtain rfl : ad458 = ad463 := (by injection e463); have hn463_0 : ad458.block ≠ go68 := Nat.ne_of_lt (Nat.lt_of_lt_of_le (by have := World.block_lt_of_cell? _ _ hx463_0; first | rwa [add_block] at this | exact this) GB68.out); replace hx463_0 := cZ HB hx463_0
             replace hx463_0 := (cell_far (p := ⟨go68, ((rd ((rd_T31 l1 x9_2).f1) x13_5) : Int).toNat, none⟩) (by first | (rw [add_block]; exact hn463_0) | (show (Addr.add _ _).block ≠ _; rw [add_block]; exact hn463_0) | exact hn463_0) (.int .i64 (wrap64 ((rd x7_5 (rd ((rd_T31 l1 x9_2).f1) x13_5)) + (rd t454 x13_5))))).trans hx463_0; clear hn463_0; replace p463 := eq_true p463; replace q463 := eq_true q463; have p83 : 0 ≤ ((rd ((rd_T31 l1 x9_2).f1) x13_5) : Int) := of_decide_eq_true tZE; have q83 : ((rd ((rd_T31 l1 x9_2).f1) x13_5) : Int) < ((x7_5.length : Int) : Int) := of_decide_eq_true tZE; replace p83 := eq_true p83; replace q83 := eq_true q83
             try go_wp2_with (first | ((with_reducible refine gate_callee (f := 41) rfl ?_); refine goesL_ (some 161) rfl rfl Try.func41 kZ rfl #[.int .i64 (wrap64 ((rd x7_5 (rd ((rd_T31 l1 x9_2).f1) x13_5)) + (rd t454 x13_5)))] rfl tZA ?_; (with_reducible refine (spec_l1Amount.calls (wrap64 ((rd x7_5 (rd ((rd_T31 l1 x9_2).f1) x13_5)) + (rd t454 x13_5))) false _ A84.out).mono ?_); rintro e w' ⟨rfl, ⟨nd, rfl⟩⟩; refine ⟨_, rfl, ?_⟩))
             go_ret2; exact ⟨_, tZC, by (with_reducible repeat (first | apply Kd.R_alloc | apply Kd.R_drewN | apply Kd.R_drew)); exact Kd.R_mono (Kd.R_far (p := ⟨go68, ((rd ((rd_T31 l1 x9_2).f1) x13_5) : Int).toNat, none⟩) (Kd.R_mono HO_6.out (fun k_ hk => (⟨hk, fun e_ => hk.1 (by rw [e_]; rfl)⟩ : _ ∧ k_ ≠ go68))) (fun _ hk => hk.2) (.int .i64 (wrap64 ((rd x7_5 (rd ((rd_T31 l1 x9_2).f1) x13_5)) + (rd t454 x13_5))))) (fun _ hk => trivial), bZ⟩
            subst c85; rw [if_pos rfl] at H; have H' := Aside0.mk H; clear H
            try go_wp2
            replace HO_6 := aZ (Kd.R_drew HO_6.out); replace HO_7 := aZ (Kd.R_drew HO_7.out); replace HO_8 := aZ (Kd.R_drew HO_8.out); replace HO_12 := aZ (Kd.R_drew HO_12.out); replace BK440 := aZ (blk_drew BK440.out); replace HB := aZ (below_drew1 HB.out); have p458 : 0 ≤ (x13_5 : Int) := of_decide_eq_true tZE; have q458 : x13_5 < (((rd_T31 l1 x9_2).f1).length : Int) := of_decide_eq_true tZE; obtain ⟨ad458, e458, hx458_0⟩ := Kd.at_int HR439_1.out x13_5 p458 q458; have hw458_0 := hx458_0
            cases e458
            replace hx458_0 := cZ HB hx458_0; replace p458 := eq_true p458; replace q458 := eq_true q458; have p459 : 0 ≤ (x13_5 : Int) := of_decide_eq_true tZE; have q459 : x13_5 < (((rd_T31 l1 x9_2).f1).length : Int) := of_decide_eq_true tZE; obtain ⟨ad459, e459, hx459_0⟩ := Kd.at_int HR439_1.out x13_5 p459 q459; have hw459_0 := hx459_0; obtain rfl : ad458 = ad459 := (by injection e459); replace hx459_0 := cZ HB hx459_0; replace p459 := eq_true p459; replace q459 := eq_true q459; have p460 : 0 ≤ ((rd ((rd_T31 l1 x9_2).f1) x13_5) : Int) := of_decide_eq_true tZE; have q460 : (rd ((rd_T31 l1 x9_2).f1) x13_5) < (x7_5.length : Int) := of_decide_eq_true tZE; obtain ⟨ad460, e460, hx460_0⟩ := Kd.at_int (Kd.R_reads' HO_7.out).2.2 (rd ((rd_T31 l1 x9_2).f1) x13_5) p460 q460; obtain rfl : (⟨go68, 0, none⟩ : Addr) = ad460 := (by injection e460)
            (first | simp only [add_plain] at hx460_0 | simp only [add_at] at hx460_0 | simp only [Addr.add, Nat.zero_add] at hx460_0 | skip); replace p460 := eq_true p460; replace q460 := eq_true q460; have p461 : 0 ≤ (x13_5 : Int) := of_decide_eq_true tZE; have q461 : x13_5 < (t454.length : Int) := of_decide_eq_true tZE; obtain ⟨ad461, e461, hx461_0⟩ := Kd.at_int (Kd.R_reads' HO_12.out).2.2 x13_5 p461 q461
            cases e461
            replace p461 := eq_true p461; replace q461 := eq_true q461; have p82 : 0 ≤ ((rd ((rd_T31 l1 x9_2).f1) x13_5) : Int) := of_decide_eq_true tZE; have q82 : ((rd ((rd_T31 l1 x9_2).f1) x13_5) : Int) < ((x7_5.length : Int) : Int) := of_decide_eq_true tZE; obtain ⟨hx82_0, hf82_0⟩ := Kd.R_celln 0 HO_7.out ((rd ((rd_T31 l1 x9_2).f1) x13_5) : Int) p82 q82; replace p82 := eq_true p82; replace q82 := eq_true q82; (try clear GG68); obtain ⟨cl87_, hgg87_⟩ := Kd.R_typed (HO_7.out) go68 rfl; have GG68 := Aside0.mk hgg87_; clear hgg87_; have HP87 := Kd.R_putn HO_7.out ((rd ((rd_T31 l1 x9_2).f1) x13_5) : Int) (wrap64 ((rd x7_5 (rd ((rd_T31 l1 x9_2).f1) x13_5)) + (rd t454 x13_5))); rw [← Ny462.out] at HP87; have HQ87 := Aside0.mk HP87; clear HP87
            refine start_ (n := 21) (S := fun w' => w'.cell? ⟨gb440, 0, none⟩ = some (.int .i64 ((rd_T31 l1 x9_2).f0)) ∧ w'.cell? ⟨gb440, 1, none⟩ = some (.slice (some ad458) ((rd_T31 l1 x9_2).f1).length c439_1) ∧ w'.cell? ⟨gb440, 2, none⟩ = some (.slice A439_2 ((rd_T31 l1 x9_2).f2).length c439_2) ∧ w'.cell? (ad458.add (x13_5).toNat) = some (.int .i64 (rd ((rd_T31 l1 x9_2).f1) x13_5)) ∧ w'.cell? (ad458.add (x13_5).toNat) = some (.int .i64 (rd ((rd_T31 l1 x9_2).f1) x13_5)) ∧ w'.cell? ⟨go68, ((rd ((rd_T31 l1 x9_2).f1) x13_5)).toNat, none⟩ = some (.int .i64 (rd x7_5 (rd ((rd_T31 l1 x9_2).f1) x13_5))) ∧ w'.cell? (ad461.add (x13_5).toNat) = some (.int .i64 (rd t454 x13_5))) (ds := [20]) L10' kZ rfl rfl ⟨(blk_cell BK440.out 0).trans rfl, (blk_cell BK440.out 1).trans rfl, (blk_cell BK440.out 2).trans rfl, ((HB.out.cell (World.block_lt_of_cell? w _ hw458_0)).trans hw458_0), ((HB.out.cell (World.block_lt_of_cell? w _ hw459_0)).trans hw459_0), hx460_0, hx461_0⟩ (fun hHeld => ?_); refine with_tabW spec_StepDown.tab25 spec_StepDown.bits25 (fun HT_ HW_ => ?_)
            generalize wr.drew = w86 at HO_6 HO_7 HO_8 HO_12 BK440 HB GG68 HQ87 hf82_0 hx458_0 hx459_0 hx460_0 hx461_0 hx82_0 hHeld ⊢; refine pure_ (i := 0) (N := some 133) (v := ?_) (a' := ?_) L11' rfl rfl (any_of HT_.out kZ) (fun _ _ _ h => h) (Or.inl ⟨by rfl, ?_⟩) ?_ ?_; rotate_left
            ·intro w'; go_simp; with_reducible rfl
            rotate_left
            ·simp only [Act.put, sZ1, sZ2, sZ3, i64_w, i32_w]; rfl
            refine pure_ (i := 1) (N := some 134) (v := ?_) (a' := ?_) L12' rfl rfl (any_of HT_.out kZ) (fun _ _ _ h => h) (Or.inl ⟨by rfl, ?_⟩) ?_ ?_; rotate_left
            ·intro w'; go_simp; with_reducible rfl
            rotate_left
            ·simp only [Act.put, sZ1, sZ2, sZ3, i64_w, i32_w]; rfl
            refine pure_ (i := 3) (N := some 136) (v := ?_) (a' := ?_) L13' rfl rfl (any_of HT_.out kZ) (fun _ _ _ h => h) (Or.inl ⟨by rfl, ?_⟩) ?_ ?_; rotate_left
            ·intro w'; go_simp; with_reducible rfl
            rotate_left
            ·simp only [Act.put, sZ1, sZ2, sZ3, i64_w, i32_w]; rfl
            refine pure_ (i := 6) (N := some 139) (v := ?_) (a' := ?_) L14' rfl rfl (any_of HT_.out kZ) (fun _ _ _ h => h) (Or.inl ⟨by rfl, ?_⟩) ?_ ?_; rotate_left
            ·intro w'; go_simp; with_reducible rfl
            rotate_left
            ·simp only [Act.put, sZ1, sZ2, sZ3, i64_w, i32_w]; rfl
            refine pure_ (i := 7) (N := some 140) (v := ?_) (a' := ?_) L15' rfl rfl (any_of HT_.out kZ) (fun _ _ _ h => h) (Or.inl ⟨by rfl, ?_⟩) ?_ ?_; rotate_left
            ·intro w'; go_simp; with_reducible rfl
            rotate_left
            ·simp only [Act.put, sZ1, sZ2, sZ3, i64_w, i32_w]; rfl
            refine pure_ (i := 9) (N := some 142) (v := ?_) (a' := ?_) L16' rfl rfl (any_of HT_.out kZ) (fun _ _ _ h => h) (Or.inl ⟨by rfl, ?_⟩) ?_ ?_; rotate_left
            ·intro w'; go_simp; with_reducible rfl
            rotate_left
            ·simp only [Act.put, sZ1, sZ2, sZ3, i64_w, i32_w]; rfl
            refine pure_ (i := 14) (N := some 147) (v := ?_) (a' := ?_) L17' rfl rfl (any_of HT_.out kZ) (fun _ _ _ h => h) (Or.inl ⟨by rfl, ?_⟩) ?_ ?_; rotate_left
            ·intro w'; go_simp; with_reducible rfl
            rotate_left
            ·simp only [Act.put, sZ1, sZ2, sZ3, i64_w, i32_w]; rfl
            refine pure_ (i := 15) (N := some 148) (v := ?_) (a' := ?_) L18' rfl rfl (any_of HT_.out kZ) (fun _ _ _ h => h) (Or.inl ⟨by rfl, ?_⟩) ?_ ?_; rotate_left
            ·intro w'; go_simp; with_reducible rfl
            rotate_left
            ·simp only [Act.put, sZ1, sZ2, sZ3, i64_w, i32_w]; rfl
            refine pure_ (i := 16) (N := some 149) (v := ?_) (a' := ?_) L19' rfl rfl (any_of HT_.out kZ) (fun _ _ _ h => h) (Or.inl ⟨by rfl, ?_⟩) ?_ ?_; rotate_left
            ·intro w'; go_simp; with_reducible rfl
            rotate_left
            ·simp only [Act.put, sZ1, sZ2, sZ3, i64_w, i32_w]; rfl
            refine take_ (i := 2) (N := some 135) (v := ?_) (a' := ?_) L20' rfl rfl (take_ofW HT_.out HW_.out kZ) (fun _ _ _ h => h) (Or.inl ⟨by rfl, ?_⟩) hHeld ?_ ?_; rotate_left
            ·rintro w' ⟨s0, s1, s2, s3, s4, s5, s6⟩
             go_simp; with_reducible rfl
            rotate_left
            ·simp only [Act.put, sZ1, sZ2, sZ3, i64_w, i32_w]; rfl
            refine pure_ (i := 4) (N := some 137) (v := ?_) (a' := ?_) L21' rfl rfl (any_of HT_.out kZ) (fun _ _ _ h => h) (Or.inl ⟨by rfl, ?_⟩) ?_ ?_; rotate_left
            ·intro w'; go_simp; with_reducible rfl
            rotate_left
            ·simp only [Act.put, sZ1, sZ2, sZ3, i64_w, i32_w]; rfl
            refine take_ (i := 5) (N := some 138) (v := ?_) (a' := ?_) L22' rfl rfl (take_ofW HT_.out HW_.out kZ) (fun _ _ _ h => h) (Or.inl ⟨by rfl, ?_⟩) hHeld ?_ ?_; rotate_left
            ·rintro w' ⟨s0, s1, s2, s3, s4, s5, s6⟩
             go_simp; with_reducible rfl
            rotate_left
            ·simp only [Act.put, sZ1, sZ2, sZ3, i64_w, i32_w]; rfl
            refine take_ (i := 8) (N := some 141) (v := ?_) (a' := ?_) L23' rfl rfl (take_ofW HT_.out HW_.out kZ) (fun _ _ _ h => h) (Or.inl ⟨by rfl, ?_⟩) hHeld ?_ ?_; rotate_left
            ·rintro w' ⟨s0, s1, s2, s3, s4, s5, s6⟩
             go_simp; with_reducible rfl
            rotate_left
            ·simp only [Act.put, sZ1, sZ2, sZ3, i64_w, i32_w]; rfl
            refine pure_ (i := 10) (N := some 143) (v := ?_) (a' := ?_) L24' rfl rfl (any_of HT_.out kZ) (fun _ _ _ h => h) (Or.inl ⟨by rfl, ?_⟩) ?_ ?_; rotate_left
            ·intro w'; go_simp; with_reducible rfl
            rotate_left
            ·simp only [Act.put, sZ1, sZ2, sZ3, i64_w, i32_w]; rfl
            refine take_ (i := 11) (N := some 144) (v := ?_) (a' := ?_) L25' rfl rfl (take_ofW HT_.out HW_.out kZ) (fun _ _ _ h => h) (Or.inl ⟨by rfl, ?_⟩) hHeld ?_ ?_; rotate_left
            ·rintro w' ⟨s0, s1, s2, s3, s4, s5, s6⟩
             go_simp; with_reducible rfl
            rotate_left
            ·simp only [Act.put, sZ1, sZ2, sZ3, i64_w, i32_w]; rfl
            refine pure_ (i := 12) (N := some 145) (v := ?_) (a' := ?_) L26' rfl rfl (any_of HT_.out kZ) (fun _ _ _ h => h) (Or.inl ⟨by rfl, ?_⟩) ?_ ?_; rotate_left
            ·intro w'; go_simp; with_reducible rfl
            rotate_left
            ·simp only [Act.put, sZ1, sZ2, sZ3, i64_w, i32_w]; rfl
            refine take_ (i := 13) (N := some 146) (v := ?_) (a' := ?_) L27' rfl rfl (take_ofW HT_.out HW_.out kZ) (fun _ _ _ h => h) (Or.inl ⟨by rfl, ?_⟩) hHeld ?_ ?_; rotate_left
            ·rintro w' ⟨s0, s1, s2, s3, s4, s5, s6⟩
             go_simp; with_reducible rfl
            rotate_left
            ·simp only [Act.put, sZ1, sZ2, sZ3, i64_w, i32_w]; rfl
            refine take_ (i := 17) (N := some 150) (v := ?_) (a' := ?_) L28' rfl rfl (take_ofW HT_.out HW_.out kZ) (fun _ _ _ h => h) (Or.inl ⟨by rfl, ?_⟩) hHeld ?_ ?_; rotate_left
            ·rintro w' ⟨s0, s1, s2, s3, s4, s5, s6⟩
             go_simp; with_reducible rfl
            rotate_left
            ·simp only [Act.put, sZ1, sZ2, sZ3, i64_w, i32_w]; rfl
            refine pure_ (i := 18) (N := some 151) (v := ?_) (a' := ?_) L29' rfl rfl (any_of HT_.out kZ) (fun _ _ _ h => h) (Or.inl ⟨by rfl, ?_⟩) ?_ ?_; rotate_left
            ·intro w'; go_simp; with_reducible rfl
            rotate_left
            ·simp only [Act.put, sZ1, sZ2, sZ3, i64_w, i32_w]; rfl
            refine pure_ (i := 19) (N := some 152) (v := ?_) (a' := ?_) L30' rfl rfl (any_of HT_.out kZ) (fun _ _ _ h => h) (Or.inl ⟨by rfl, ?_⟩) ?_ ?_; rotate_left
            ·intro w'; go_simp; with_reducible rfl
            rotate_left
            ·simp only [Act.put, sZ1, sZ2, sZ3, i64_w, i32_w]; rfl
            refine last_ (i := 20) (N := none) L31' rfl rfl (one_of HT_.out kZ) (by decide) (fun K hK => ?_); refine skip_ (w1 := ?_) (by rfl) rfl ?_ ?_; rotate_left
            ·go_simp; rfl
            refine hK.out _ _ ?_; clear hK K; refine done_ (done_of HT_.out kZ) ?_; (try have hnb88 : gb440 ≠ go68 := (fun he_ => by have h1_ := BK440.out; have h2_ := GG68.out; rw [he_] at h1_; have h3_ := h1_.symm.trans h2_; injection h3_ with h3_; injection h3_ with _ h4_ _; exact absurd h4_ (by decide))); (try have hnc88 := Ne.symm hnb88); obtain ⟨hcz89_0, hcz89_1, hcz89_2, hfz89_0, hfz89_1, hfz89_2⟩ := bc3 BK440.out; have p463 : 0 ≤ (x13_5 : Int) := of_decide_eq_true tZE; have q463 : x13_5 < (((rd_T31 l1 x9_2).f1).length : Int) := of_decide_eq_true tZE; obtain ⟨ad463, e463, hx463_0⟩ := Kd.at_int HR439_1.out x13_5 p463 q463; obtain rfl : ad458 = ad463 := (by injection e463); have hn463_0 : ad458.block ≠ go68 := Nat.ne_of_lt (Nat.lt_of_lt_of_le (by have := World.block_lt_of_cell? _ _ hx463_0; first | rwa [add_block] at this | exact this) GB68.out); replace hx463_0 := cZ HB hx463_0
            replace hx463_0 := (cell_far (p := ⟨go68, ((rd ((rd_T31 l1 x9_2).f1) x13_5) : Int).toNat, none⟩) (by first | (rw [add_block]; exact hn463_0) | (show (Addr.add _ _).block ≠ _; rw [add_block]; exact hn463_0) | exact hn463_0) (.int .i64 (wrap64 ((rd x7_5 (rd ((rd_T31 l1 x9_2).f1) x13_5)) + (rd t454 x13_5))))).trans hx463_0; clear hn463_0; replace p463 := eq_true p463; replace q463 := eq_true q463; have p83 : 0 ≤ ((rd ((rd_T31 l1 x9_2).f1) x13_5) : Int) := of_decide_eq_true tZE; have q83 : ((rd ((rd_T31 l1 x9_2).f1) x13_5) : Int) < ((x7_5.length : Int) : Int) := of_decide_eq_true tZE; replace p83 := eq_true p83; replace q83 := eq_true q83
            try go_wp2_with (first | ((with_reducible refine gate_callee (f := 41) rfl ?_); refine goesL_ (some 161) rfl rfl Try.func41 kZ rfl #[.int .i64 (wrap64 ((rd x7_5 (rd ((rd_T31 l1 x9_2).f1) x13_5)) + (rd t454 x13_5)))] rfl tZA ?_; (with_reducible refine (spec_l1Amount.calls (wrap64 ((rd x7_5 (rd ((rd_T31 l1 x9_2).f1) x13_5)) + (rd t454 x13_5))) true _ A84.out).mono ?_); rintro e w' ⟨rfl, ⟨nd, rfl⟩⟩; refine ⟨_, rfl, ?_⟩))
            (try simp only [← hl7_5])
            go_roundg k5
            case measure => have := HJ2.out; have := HK2.out; have := HJ16.out; have := HK4.out; have := HK5.out; omega
            case rel => exact ⟨(y462), (wrap64 (x13_5 + 1)), tZB, H', ⟨by have := HJ2.out; have := HK2.out; have := HJ16.out; have := HK4.out; have := HK5.out; omega⟩, ⟨by (try simp only [hl7_5]); (with_reducible repeat (first | apply Kd.R_alloc | apply Kd.R_drewN | apply Kd.R_drew)); exact Kd.R_mono (Kd.R_far (p := ⟨go68, ((rd ((rd_T31 l1 x9_2).f1) x13_5) : Int).toNat, none⟩) (Kd.R_mono HO_6.out (fun k_ hk => (⟨hk, fun e_ => hk.1 (by rw [e_]; rfl)⟩ : _ ∧ k_ ≠ go68))) (fun _ hk => hk.2) (.int .i64 (wrap64 ((rd x7_5 (rd ((rd_T31 l1 x9_2).f1) x13_5)) + (rd t454 x13_5))))) (fun _ hk => ⟨hk.1.1, ⟨hk.1.2.1, hk.1.2.2⟩⟩)⟩, ⟨by (try simp only [hl7_5]); (with_reducible repeat (first | apply Kd.R_alloc | apply Kd.R_drewN | apply Kd.R_drew)); exact HQ87.out⟩, ⟨by (try simp only [hl7_5]); (with_reducible repeat (first | apply Kd.R_alloc | apply Kd.R_drewN | apply Kd.R_drew)); exact Kd.R_mono (Kd.R_far (p := ⟨go68, ((rd ((rd_T31 l1 x9_2).f1) x13_5) : Int).toNat, none⟩) (Kd.R_mono HO_8.out (fun k_ hk => (⟨hk, fun e_ => hk.2.1 (by rw [e_]; rfl)⟩ : _ ∧ k_ ≠ go68))) (fun _ hk => hk.2) (.int .i64 (wrap64 ((rd x7_5 (rd ((rd_T31 l1 x9_2).f1) x13_5)) + (rd t454 x13_5))))) (fun _ hk => ⟨hk.1.1, ⟨hk.1.2.1, hk.1.2.2⟩⟩)⟩, ⟨by (try simp only [hl7_5]); (with_reducible repeat (first | apply Kd.R_alloc | apply Kd.R_drewN | apply Kd.R_drew)); exact Kd.R_mono (Kd.R_far (p := ⟨go68, ((rd ((rd_T31 l1 x9_2).f1) x13_5) : Int).toNat, none⟩) (Kd.R_mono HO_12.out (fun k_ hk => (⟨hk, fun e_ => hk.2.1 (by rw [e_]; rfl)⟩ : _ ∧ k_ ≠ go68))) (fun _ hk => hk.2) (.int .i64 (wrap64 ((rd x7_5 (rd ((rd_T31 l1 x9_2).f1) x13_5)) + (rd t454 x13_5))))) (fun _ hk => ⟨hk.1.1, ⟨hk.1.2.1, hk.1.2.2⟩⟩)⟩, ⟨by (try simp only [hl7_5]); (with_reducible repeat (first | refine blk_drewN ?_ _ | refine blk_drew ?_ | refine blk_alloc ?_ _)); refine blk_far ?_ (by have h_ := Kd.R_ne HO_7.out BK440.out (by decide); intro e_; exact h_ (by rw [e_]; rfl)) _; (with_reducible repeat (first | refine blk_drewN ?_ _ | refine blk_drew ?_ | refine blk_alloc ?_ _)); exact BK440.out⟩, ⟨bZ⟩⟩
         rw [if_pos c36] at H; have c36b0 := decide_eq_true c36; clear c36
         by_cases c37 : 0 ≤ x11_4
         rotate_left
         ·rw [if_neg c37] at H; exact absurd H (by simp)
         rw [if_pos c37] at H; have c37b0 := decide_eq_true c37; clear c37; replace H := Option.bind_eq_some_iff.mp H; obtain ⟨t447, A380, H⟩ := H; replace H : (if t447 = true then ((spec_l7Has.f k4 y443 (rd ((rd_T31 l1 x9_2).f1) x11_4)).bind fun t449 => (if t449 = true then (some (y426, false)) else (if x11_4 ≤ (((rd_T31 l1 x9_2).f1).length : Int) then ((spec_l7Has.f k4 (((rd_T31 l1 x9_2).f1).take (x11_4 : Int).toNat) (rd ((rd_T31 l1 x9_2).f1) x11_4)).bind fun t452 => (if t452 = true then (some (y426, false)) else (spec_StepDown.l1 k4 l0 l1 y426 x7_2 y443 x9_2 (wrap64 (x11_4 + 1)) ((rd_T31 l1 x9_2).f0) ((rd_T31 l1 x9_2).f1) ((rd_T31 l1 x9_2).f2)))) else (none)))) else (some (y426, false))) = some (r1, r2) := H; have A38 := Aside0.mk A380; clear A380
         by_cases c39 : t447 = true
         rotate_left
         ·replace c39 := Bool.eq_false_iff.mpr c39; subst c39; rw [if_neg Bool.false_ne_true] at H; simp only [Option.some.injEq, Prod.mk.injEq] at H; obtain ⟨rfl, rfl⟩ := H; obtain ⟨hcz57_0, hcz57_1, hcz57_2, hfz57_0, hfz57_1, hfz57_2⟩ := bc3 BK440.out
          try go_wp2
          replace HO_6 := aZ (Kd.R_drew HO_6.out); replace HO_7 := aZ (Kd.R_drew HO_7.out); replace HO_8 := aZ (Kd.R_drew HO_8.out); replace BK440 := aZ (blk_drew BK440.out); replace HB := aZ (below_drew1 HB.out); have p446 : 0 ≤ (x11_4 : Int) := of_decide_eq_true tZE; have q446 : x11_4 < (((rd_T31 l1 x9_2).f1).length : Int) := of_decide_eq_true tZE; obtain ⟨ad446, e446, hx446_0⟩ := Kd.at_int HR439_1.out x11_4 p446 q446; have hw446_0 := hx446_0
          cases e446
          replace hx446_0 := cZ HB hx446_0; replace p446 := eq_true p446; replace q446 := eq_true q446; refine start_ (n := 31) (S := fun w' => w'.cell? ⟨gb440, 0, none⟩ = some (.int .i64 ((rd_T31 l1 x9_2).f0)) ∧ w'.cell? ⟨gb440, 1, none⟩ = some (.slice (some ad446) ((rd_T31 l1 x9_2).f1).length c439_1) ∧ w'.cell? ⟨gb440, 2, none⟩ = some (.slice A439_2 ((rd_T31 l1 x9_2).f2).length c439_2) ∧ w'.cell? (ad446.add (x11_4).toNat) = some (.int .i64 (rd ((rd_T31 l1 x9_2).f1) x11_4))) (ds := []) L32' kZ rfl rfl ⟨(blk_cell BK440.out 0).trans rfl, (blk_cell BK440.out 1).trans rfl, (blk_cell BK440.out 2).trans rfl, ((HB.out.cell (World.block_lt_of_cell? w _ hw446_0)).trans hw446_0)⟩ (fun hHeld => ?_); refine with_tabW spec_StepDown.tab16 spec_StepDown.bits16 (fun HT_ HW_ => ?_); generalize wr.drew = w58 at HO_6 HO_7 HO_8 BK440 HB hx446_0 hHeld ⊢
          refine pure_ (i := 0) (N := some 79) (v := ?_) (a' := ?_) L33' rfl rfl (any_of HT_.out kZ) (fun _ _ _ h => h) (Or.inl ⟨by rfl, ?_⟩) ?_ ?_; rotate_left
          ·intro w'; go_simp; with_reducible rfl
          rotate_left
          ·simp only [Act.put, sZ1, sZ2, sZ3, i64_w, i32_w]; rfl
          refine pure_ (i := 2) (N := some 81) (v := ?_) (a' := ?_) L34' rfl rfl (any_of HT_.out kZ) (fun _ _ _ h => h) (Or.inl ⟨by rfl, ?_⟩) ?_ ?_; rotate_left
          ·intro w'; go_simp; with_reducible rfl
          rotate_left
          ·simp only [Act.put, sZ1, sZ2, sZ3, i64_w, i32_w]; rfl
          refine pure_ (i := 5) (N := some 84) (v := ?_) (a' := ?_) L35' rfl rfl (any_of HT_.out kZ) (fun _ _ _ h => h) (Or.inl ⟨by rfl, ?_⟩) ?_ ?_; rotate_left
          ·intro w'; go_simp; with_reducible rfl
          rotate_left
          ·simp only [Act.put, sZ1, sZ2, sZ3, i64_w, i32_w]; rfl
          refine pure_ (i := 6) (N := some 85) (v := ?_) (a' := ?_) L36' rfl rfl (any_of HT_.out kZ) (fun _ _ _ h => h) (Or.inl ⟨by rfl, ?_⟩) ?_ ?_; rotate_left
          ·intro w'; go_simp; with_reducible rfl
          rotate_left
          ·simp only [Act.put, sZ1, sZ2, sZ3, i64_w, i32_w]; rfl
          refine pure_ (i := 7) (N := some 86) (v := ?_) (a' := ?_) L37' rfl rfl (any_of HT_.out kZ) (fun _ _ _ h => h) (Or.inl ⟨by rfl, ?_⟩) ?_ ?_; rotate_left
          ·intro w'; go_simp; with_reducible rfl
          rotate_left
          ·simp only [Act.put, sZ1, sZ2, sZ3, i64_w, i32_w]; rfl
          refine take_ (i := 1) (N := some 80) (v := ?_) (a' := ?_) L38' rfl rfl (take_ofW HT_.out HW_.out kZ) (fun _ _ _ h => h) (Or.inl ⟨by rfl, ?_⟩) hHeld ?_ ?_; rotate_left
          ·rintro w' ⟨s0, s1, s2, s3⟩
           go_simp; with_reducible rfl
          rotate_left
          ·simp only [Act.put, sZ1, sZ2, sZ3, i64_w, i32_w]; rfl
          refine pure_ (i := 3) (N := some 82) (v := ?_) (a' := ?_) L39' rfl rfl (any_of HT_.out kZ) (fun _ _ _ h => h) (Or.inl ⟨by rfl, ?_⟩) ?_ ?_; rotate_left
          ·intro w'; go_simp; with_reducible rfl
          rotate_left
          ·simp only [Act.put, sZ1, sZ2, sZ3, i64_w, i32_w]; rfl
          refine take_ (i := 4) (N := some 83) (v := ?_) (a' := ?_) L40' rfl rfl (take_ofW HT_.out HW_.out kZ) (fun _ _ _ h => h) (Or.inl ⟨by rfl, ?_⟩) hHeld ?_ ?_; rotate_left
          ·rintro w' ⟨s0, s1, s2, s3⟩
           go_simp; with_reducible rfl
          rotate_left
          ·simp only [Act.put, sZ1, sZ2, sZ3, i64_w, i32_w]; rfl
          refine one_ (i := 8) (N := some 87) L41' rfl rfl (one_of HT_.out kZ) (by decide) (fun K hK => ?_); refine goes_ Try.func38 kZ rfl #[.int .i64 (rd ((rd_T31 l1 x9_2).f1) x11_4), .int .i64 0, .int .i64 (wrap64 ((l0.length : Int) - 1))] (by rfl) rfl rfl tZA ?_
          with_reducible refine (spec_l1In.calls (rd ((rd_T31 l1 x9_2).f1) x11_4) 0 (wrap64 ((l0.length : Int) - 1)) false _ A38.out).mono ?_
          rintro e w' ⟨rfl, ⟨nd, rfl⟩⟩
          refine ⟨_, rfl, ?_⟩; refine hK.out _ _ ⟨(blk_cell BK440.out 0).trans rfl, (blk_cell BK440.out 1).trans rfl, (blk_cell BK440.out 2).trans rfl, ((HB.out.cell (World.block_lt_of_cell? w _ hw446_0)).trans hw446_0)⟩ (fun hHeld => ?_); clear hK K; refine norm_ (a' := ?_) ?_ ?_; rotate_left
          ·show Act.put _ (some 87) _ = _
           simp only [Act.put, sZ1, sZ2, sZ3, i64_w, i32_w]; rfl
          refine pure_ (i := 9) (N := some 88) (v := ?_) (a' := ?_) L42' rfl rfl (any_of HT_.out kZ) (fun _ _ _ h => h) (Or.inl ⟨by rfl, ?_⟩) ?_ ?_; rotate_left
          ·intro w'; go_simp; with_reducible rfl
          rotate_left
          ·simp only [Act.put, sZ1, sZ2, sZ3, i64_w, i32_w]; rfl
          refine pure_ (i := 10) (N := some 89) (v := ?_) (a' := ?_) L43' rfl rfl (any_of HT_.out kZ) (fun _ _ _ h => h) (Or.inl ⟨by rfl, ?_⟩) ?_ ?_; rotate_left
          ·intro w'; go_simp; with_reducible rfl
          rotate_left
          ·simp only [Act.put, sZ1, sZ2, sZ3, i64_w, i32_w]; rfl
          refine pure_ (i := 11) (N := some 90) (v := undef) (a' := ?_) L44' rfl rfl (any_of HT_.out kZ) (fun _ _ _ h => h) (Or.inr ⟨by rfl, rfl⟩) ?_ ?_; rotate_left
          ·simp only [Act.put, sZ1, sZ2, sZ3, i64_w, i32_w]; rfl
          refine pure_ (i := 12) (N := some 91) (v := undef) (a' := ?_) L45' rfl rfl (any_of HT_.out kZ) (fun _ _ _ h => h) (Or.inr ⟨by rfl, rfl⟩) ?_ ?_; rotate_left
          ·simp only [Act.put, sZ1, sZ2, sZ3, i64_w, i32_w]; rfl
          refine pure_ (i := 13) (N := some 92) (v := undef) (a' := ?_) L46' rfl rfl (any_of HT_.out kZ) (fun _ _ _ h => h) (Or.inr ⟨by rfl, rfl⟩) ?_ ?_; rotate_left
          ·simp only [Act.put, sZ1, sZ2, sZ3, i64_w, i32_w]; rfl
          refine pure_ (i := 14) (N := some 93) (v := undef) (a' := ?_) L47' rfl rfl (any_of HT_.out kZ) (fun _ _ _ h => h) (Or.inr ⟨by rfl, rfl⟩) ?_ ?_; rotate_left
          ·simp only [Act.put, sZ1, sZ2, sZ3, i64_w, i32_w]; rfl
          refine pure_ (i := 15) (N := some 94) (v := undef) (a' := ?_) L48' rfl rfl (any_of HT_.out kZ) (fun _ _ _ h => h) (Or.inr ⟨by rfl, rfl⟩) ?_ ?_; rotate_left
          ·simp only [Act.put, sZ1, sZ2, sZ3, i64_w, i32_w]; rfl
          refine pure_ (i := 16) (N := some 95) (v := undef) (a' := ?_) L49' rfl rfl (any_of HT_.out kZ) (fun _ _ _ h => h) (Or.inr ⟨by rfl, rfl⟩) ?_ ?_; rotate_left
          ·simp only [Act.put, sZ1, sZ2, sZ3, i64_w, i32_w]; rfl
          refine pure_ (i := 17) (N := some 96) (v := undef) (a' := ?_) L50' rfl rfl (any_of HT_.out kZ) (fun _ _ _ h => h) (Or.inr ⟨by rfl, rfl⟩) ?_ ?_; rotate_left
          ·simp only [Act.put, sZ1, sZ2, sZ3, i64_w, i32_w]; rfl
          refine pure_ (i := 18) (N := some 97) (v := ?_) (a' := ?_) L51' rfl rfl (any_of HT_.out kZ) (fun _ _ _ h => h) (Or.inl ⟨by rfl, ?_⟩) ?_ ?_; rotate_left
          ·intro w'; go_simp; with_reducible rfl
          rotate_left
          ·simp only [Act.put, sZ1, sZ2, sZ3, i64_w, i32_w]; rfl
          refine pure_ (i := 19) (N := some 98) (v := ?_) (a' := ?_) L52' rfl rfl (any_of HT_.out kZ) (fun _ _ _ h => h) (Or.inl ⟨by rfl, ?_⟩) ?_ ?_; rotate_left
          ·intro w'; go_simp; with_reducible rfl
          rotate_left
          ·simp only [Act.put, sZ1, sZ2, sZ3, i64_w, i32_w]; rfl
          refine pure_ (i := 20) (N := some 99) (v := undef) (a' := ?_) L53' rfl rfl (any_of HT_.out kZ) (fun _ _ _ h => h) (Or.inr ⟨by rfl, rfl⟩) ?_ ?_; rotate_left
          ·simp only [Act.put, sZ1, sZ2, sZ3, i64_w, i32_w]; rfl
          refine pure_ (i := 21) (N := some 100) (v := undef) (a' := ?_) L54' rfl rfl (any_of HT_.out kZ) (fun _ _ _ h => h) (Or.inr ⟨by rfl, rfl⟩) ?_ ?_; rotate_left
          ·simp only [Act.put, sZ1, sZ2, sZ3, i64_w, i32_w]; rfl
          refine pure_ (i := 22) (N := some 101) (v := undef) (a' := ?_) L55' rfl rfl (any_of HT_.out kZ) (fun _ _ _ h => h) (Or.inr ⟨by rfl, rfl⟩) ?_ ?_; rotate_left
          ·simp only [Act.put, sZ1, sZ2, sZ3, i64_w, i32_w]; rfl
          refine pure_ (i := 23) (N := some 102) (v := undef) (a' := ?_) L56' rfl rfl (any_of HT_.out kZ) (fun _ _ _ h => h) (Or.inr ⟨by rfl, rfl⟩) ?_ ?_; rotate_left
          ·simp only [Act.put, sZ1, sZ2, sZ3, i64_w, i32_w]; rfl
          refine pure_ (i := 24) (N := some 103) (v := undef) (a' := ?_) L57' rfl rfl (any_of HT_.out kZ) (fun _ _ _ h => h) (Or.inr ⟨by rfl, rfl⟩) ?_ ?_; rotate_left
          ·simp only [Act.put, sZ1, sZ2, sZ3, i64_w, i32_w]; rfl
          refine pure_ (i := 25) (N := some 104) (v := undef) (a' := ?_) L58' rfl rfl (any_of HT_.out kZ) (fun _ _ _ h => h) (Or.inr ⟨by rfl, rfl⟩) ?_ ?_; rotate_left
          ·simp only [Act.put, sZ1, sZ2, sZ3, i64_w, i32_w]; rfl
          refine pure_ (i := 26) (N := some 105) (v := undef) (a' := ?_) L59' rfl rfl (any_of HT_.out kZ) (fun _ _ _ h => h) (Or.inr ⟨by rfl, rfl⟩) ?_ ?_; rotate_left
          ·simp only [Act.put, sZ1, sZ2, sZ3, i64_w, i32_w]; rfl
          refine pure_ (i := 27) (N := some 106) (v := undef) (a' := ?_) L60' rfl rfl (any_of HT_.out kZ) (fun _ _ _ h => h) (Or.inr ⟨by rfl, rfl⟩) ?_ ?_; rotate_left
          ·simp only [Act.put, sZ1, sZ2, sZ3, i64_w, i32_w]; rfl
          refine pure_ (i := 28) (N := some 107) (v := undef) (a' := ?_) L61' rfl rfl (any_of HT_.out kZ) (fun _ _ _ h => h) (Or.inr ⟨by rfl, rfl⟩) ?_ ?_; rotate_left
          ·simp only [Act.put, sZ1, sZ2, sZ3, i64_w, i32_w]; rfl
          refine pure_ (i := 29) (N := some 108) (v := undef) (a' := ?_) L62' rfl rfl (any_of HT_.out kZ) (fun _ _ _ h => h) (Or.inr ⟨by rfl, rfl⟩) ?_ ?_; rotate_left
          ·simp only [Act.put, sZ1, sZ2, sZ3, i64_w, i32_w]; rfl
          refine pure_ (i := 30) (N := some 109) (v := ?_) (a' := ?_) L63' rfl rfl (any_of HT_.out kZ) (fun _ _ _ h => h) (Or.inl ⟨by rfl, ?_⟩) ?_ ?_; rotate_left
          ·intro w'; go_simp; with_reducible rfl
          rotate_left
          ·simp only [Act.put, sZ1, sZ2, sZ3, i64_w, i32_w]; rfl
          refine done_ (done_of HT_.out kZ) ?_
          try go_wp2
          go_ret2; exact ⟨_, tZC, by (with_reducible repeat (first | apply Kd.R_alloc | apply Kd.R_drewN | apply Kd.R_drew)); exact Kd.R_mono HO_6.out (fun _ hk => trivial), bZ⟩
         subst c39; rw [if_pos rfl] at H; replace H := Option.bind_eq_some_iff.mp H; obtain ⟨t449, A400, H⟩ := H; replace H : (if t449 = true then (some (y426, false)) else (if x11_4 ≤ (((rd_T31 l1 x9_2).f1).length : Int) then ((spec_l7Has.f k4 (((rd_T31 l1 x9_2).f1).take (x11_4 : Int).toNat) (rd ((rd_T31 l1 x9_2).f1) x11_4)).bind fun t452 => (if t452 = true then (some (y426, false)) else (spec_StepDown.l1 k4 l0 l1 y426 x7_2 y443 x9_2 (wrap64 (x11_4 + 1)) ((rd_T31 l1 x9_2).f0) ((rd_T31 l1 x9_2).f1) ((rd_T31 l1 x9_2).f2)))) else (none))) = some (r1, r2) := H; have A40 := Aside0.mk A400; clear A400
         by_cases c41 : t449 = true
         ·subst c41; rw [if_pos rfl] at H; simp only [Option.some.injEq, Prod.mk.injEq] at H; obtain ⟨rfl, rfl⟩ := H; obtain ⟨hcz42_0, hcz42_1, hcz42_2, hfz42_0, hfz42_1, hfz42_2⟩ := bc3 BK440.out
          try go_wp2
          replace HO_6 := aZ (Kd.R_drew HO_6.out); replace HO_7 := aZ (Kd.R_drew HO_7.out); replace HO_8 := aZ (Kd.R_drew HO_8.out); replace BK440 := aZ (blk_drew BK440.out); replace HB := aZ (below_drew1 HB.out); have p446 : 0 ≤ (x11_4 : Int) := of_decide_eq_true tZE; have q446 : x11_4 < (((rd_T31 l1 x9_2).f1).length : Int) := of_decide_eq_true tZE; obtain ⟨ad446, e446, hx446_0⟩ := Kd.at_int HR439_1.out x11_4 p446 q446; have hw446_0 := hx446_0
          cases e446
          replace hx446_0 := cZ HB hx446_0; replace p446 := eq_true p446; replace q446 := eq_true q446; have p448 : 0 ≤ (x11_4 : Int) := of_decide_eq_true tZE; have q448 : x11_4 < (((rd_T31 l1 x9_2).f1).length : Int) := of_decide_eq_true tZE; obtain ⟨ad448, e448, hx448_0⟩ := Kd.at_int HR439_1.out x11_4 p448 q448; have hw448_0 := hx448_0; obtain rfl : ad446 = ad448 := (by injection e448); replace hx448_0 := cZ HB hx448_0; replace p448 := eq_true p448; replace q448 := eq_true q448
          refine start_ (n := 31) (S := fun w' => w'.cell? ⟨gb440, 0, none⟩ = some (.int .i64 ((rd_T31 l1 x9_2).f0)) ∧ w'.cell? ⟨gb440, 1, none⟩ = some (.slice (some ad446) ((rd_T31 l1 x9_2).f1).length c439_1) ∧ w'.cell? ⟨gb440, 2, none⟩ = some (.slice A439_2 ((rd_T31 l1 x9_2).f2).length c439_2) ∧ w'.cell? (ad446.add (x11_4).toNat) = some (.int .i64 (rd ((rd_T31 l1 x9_2).f1) x11_4)) ∧ w'.cell? (ad446.add (x11_4).toNat) = some (.int .i64 (rd ((rd_T31 l1 x9_2).f1) x11_4))) (ds := []) L32' kZ rfl rfl ⟨(blk_cell BK440.out 0).trans rfl, (blk_cell BK440.out 1).trans rfl, (blk_cell BK440.out 2).trans rfl, ((HB.out.cell (World.block_lt_of_cell? w _ hw446_0)).trans hw446_0), ((HB.out.cell (World.block_lt_of_cell? w _ hw448_0)).trans hw448_0)⟩ (fun hHeld => ?_); refine with_tabW spec_StepDown.tab16 spec_StepDown.bits16 (fun HT_ HW_ => ?_)
          generalize wr.drew = w43 at HO_6 HO_7 HO_8 BK440 HB hx446_0 hx448_0 hHeld ⊢; refine pure_ (i := 0) (N := some 79) (v := ?_) (a' := ?_) L33' rfl rfl (any_of HT_.out kZ) (fun _ _ _ h => h) (Or.inl ⟨by rfl, ?_⟩) ?_ ?_; rotate_left
          ·intro w'; go_simp; with_reducible rfl
          rotate_left
          ·simp only [Act.put, sZ1, sZ2, sZ3, i64_w, i32_w]; rfl
          refine pure_ (i := 2) (N := some 81) (v := ?_) (a' := ?_) L34' rfl rfl (any_of HT_.out kZ) (fun _ _ _ h => h) (Or.inl ⟨by rfl, ?_⟩) ?_ ?_; rotate_left
          ·intro w'; go_simp; with_reducible rfl
          rotate_left
          ·simp only [Act.put, sZ1, sZ2, sZ3, i64_w, i32_w]; rfl
          refine pure_ (i := 5) (N := some 84) (v := ?_) (a' := ?_) L35' rfl rfl (any_of HT_.out kZ) (fun _ _ _ h => h) (Or.inl ⟨by rfl, ?_⟩) ?_ ?_; rotate_left
          ·intro w'; go_simp; with_reducible rfl
          rotate_left
          ·simp only [Act.put, sZ1, sZ2, sZ3, i64_w, i32_w]; rfl
          refine pure_ (i := 6) (N := some 85) (v := ?_) (a' := ?_) L36' rfl rfl (any_of HT_.out kZ) (fun _ _ _ h => h) (Or.inl ⟨by rfl, ?_⟩) ?_ ?_; rotate_left
          ·intro w'; go_simp; with_reducible rfl
          rotate_left
          ·simp only [Act.put, sZ1, sZ2, sZ3, i64_w, i32_w]; rfl
          refine pure_ (i := 7) (N := some 86) (v := ?_) (a' := ?_) L37' rfl rfl (any_of HT_.out kZ) (fun _ _ _ h => h) (Or.inl ⟨by rfl, ?_⟩) ?_ ?_; rotate_left
          ·intro w'; go_simp; with_reducible rfl
          rotate_left
          ·simp only [Act.put, sZ1, sZ2, sZ3, i64_w, i32_w]; rfl
          refine take_ (i := 1) (N := some 80) (v := ?_) (a' := ?_) L38' rfl rfl (take_ofW HT_.out HW_.out kZ) (fun _ _ _ h => h) (Or.inl ⟨by rfl, ?_⟩) hHeld ?_ ?_; rotate_left
          ·rintro w' ⟨s0, s1, s2, s3, s4⟩
           go_simp; with_reducible rfl
          rotate_left
          ·simp only [Act.put, sZ1, sZ2, sZ3, i64_w, i32_w]; rfl
          refine pure_ (i := 3) (N := some 82) (v := ?_) (a' := ?_) L39' rfl rfl (any_of HT_.out kZ) (fun _ _ _ h => h) (Or.inl ⟨by rfl, ?_⟩) ?_ ?_; rotate_left
          ·intro w'; go_simp; with_reducible rfl
          rotate_left
          ·simp only [Act.put, sZ1, sZ2, sZ3, i64_w, i32_w]; rfl
          refine take_ (i := 4) (N := some 83) (v := ?_) (a' := ?_) L40' rfl rfl (take_ofW HT_.out HW_.out kZ) (fun _ _ _ h => h) (Or.inl ⟨by rfl, ?_⟩) hHeld ?_ ?_; rotate_left
          ·rintro w' ⟨s0, s1, s2, s3, s4⟩
           go_simp; with_reducible rfl
          rotate_left
          ·simp only [Act.put, sZ1, sZ2, sZ3, i64_w, i32_w]; rfl
          refine one_ (i := 8) (N := some 87) L41' rfl rfl (one_of HT_.out kZ) (by decide) (fun K hK => ?_); refine goes_ Try.func38 kZ rfl #[.int .i64 (rd ((rd_T31 l1 x9_2).f1) x11_4), .int .i64 0, .int .i64 (wrap64 ((l0.length : Int) - 1))] (by rfl) rfl rfl tZA ?_
          with_reducible refine (spec_l1In.calls (rd ((rd_T31 l1 x9_2).f1) x11_4) 0 (wrap64 ((l0.length : Int) - 1)) true _ A38.out).mono ?_
          rintro e w' ⟨rfl, ⟨nd, rfl⟩⟩
          refine ⟨_, rfl, ?_⟩; obtain ⟨Ao44, co44, eo44⟩ := Kd.R_slice HO_8.out; (first | subst eo44 | (injection eo44 with f1_ f2_ f3_; have f4_ := f1_.symm; have f5_ := f3_.symm; clear f1_ f2_ f3_; subst f4_; subst f5_)); refine hK.out _ _ ⟨(blk_cell BK440.out 0).trans rfl, (blk_cell BK440.out 1).trans rfl, (blk_cell BK440.out 2).trans rfl, ((HB.out.cell (World.block_lt_of_cell? w _ hw446_0)).trans hw446_0), ((HB.out.cell (World.block_lt_of_cell? w _ hw448_0)).trans hw448_0)⟩ (fun hHeld => ?_); clear hK K; refine norm_ (a' := ?_) ?_ ?_; rotate_left
          ·show Act.put _ (some 87) _ = _
           simp only [Act.put, sZ1, sZ2, sZ3, i64_w, i32_w]; rfl
          refine pure_ (i := 9) (N := some 88) (v := ?_) (a' := ?_) L42' rfl rfl (any_of HT_.out kZ) (fun _ _ _ h => h) (Or.inl ⟨by rfl, ?_⟩) ?_ ?_; rotate_left
          ·intro w'; go_simp; with_reducible rfl
          rotate_left
          ·simp only [Act.put, sZ1, sZ2, sZ3, i64_w, i32_w]; rfl
          refine pure_ (i := 10) (N := some 89) (v := ?_) (a' := ?_) L43' rfl rfl (any_of HT_.out kZ) (fun _ _ _ h => h) (Or.inl ⟨by rfl, ?_⟩) ?_ ?_; rotate_left
          ·intro w'; go_simp; with_reducible rfl
          rotate_left
          ·simp only [Act.put, sZ1, sZ2, sZ3, i64_w, i32_w]; rfl
          refine pure_ (i := 11) (N := some 90) (v := ?_) (a' := ?_) L44' rfl rfl (any_of HT_.out kZ) (fun _ _ _ h => h) (Or.inl ⟨by rfl, ?_⟩) ?_ ?_; rotate_left
          ·intro w'; go_simp; with_reducible rfl
          rotate_left
          ·simp only [Act.put, sZ1, sZ2, sZ3, i64_w, i32_w]; rfl
          refine pure_ (i := 12) (N := some 91) (v := ?_) (a' := ?_) L45' rfl rfl (any_of HT_.out kZ) (fun _ _ _ h => h) (Or.inl ⟨by rfl, ?_⟩) ?_ ?_; rotate_left
          ·intro w'; go_simp; with_reducible rfl
          rotate_left
          ·simp only [Act.put, sZ1, sZ2, sZ3, i64_w, i32_w]; rfl
          refine pure_ (i := 14) (N := some 93) (v := ?_) (a' := ?_) L64' rfl rfl (any_of HT_.out kZ) (fun _ _ _ h => h) (Or.inl ⟨by rfl, ?_⟩) ?_ ?_; rotate_left
          ·intro w'; go_simp; with_reducible rfl
          rotate_left
          ·simp only [Act.put, sZ1, sZ2, sZ3, i64_w, i32_w]; rfl
          refine take_ (i := 13) (N := some 92) (v := ?_) (a' := ?_) L47' rfl rfl (take_ofW HT_.out HW_.out kZ) (fun _ _ _ h => h) (Or.inl ⟨by rfl, ?_⟩) hHeld ?_ ?_; rotate_left
          ·rintro w' ⟨s0, s1, s2, s3, s4⟩
           go_simp; with_reducible rfl
          rotate_left
          ·simp only [Act.put, sZ1, sZ2, sZ3, i64_w, i32_w]; rfl
          refine pure_ (i := 15) (N := some 94) (v := ?_) (a' := ?_) L48' rfl rfl (any_of HT_.out kZ) (fun _ _ _ h => h) (Or.inl ⟨by rfl, ?_⟩) ?_ ?_; rotate_left
          ·intro w'; go_simp; with_reducible rfl
          rotate_left
          ·simp only [Act.put, sZ1, sZ2, sZ3, i64_w, i32_w]; rfl
          refine take_ (i := 16) (N := some 95) (v := ?_) (a' := ?_) L49' rfl rfl (take_ofW HT_.out HW_.out kZ) (fun _ _ _ h => h) (Or.inl ⟨by rfl, ?_⟩) hHeld ?_ ?_; rotate_left
          ·rintro w' ⟨s0, s1, s2, s3, s4⟩
           go_simp; with_reducible rfl
          rotate_left
          ·simp only [Act.put, sZ1, sZ2, sZ3, i64_w, i32_w]; rfl
          refine one_ (i := 17) (N := some 96) L50' rfl rfl (one_of HT_.out kZ) (by decide) (fun K hK => ?_); refine goes_ Try.func39 kZ rfl #[.slice Ao44 y443.length co44, .int .i64 (rd ((rd_T31 l1 x9_2).f1) x11_4)] (by rfl) rfl rfl tZA ?_
          with_reducible refine (spec_l7Has.calls k4 _ _ y443 (rd ((rd_T31 l1 x9_2).f1) x11_4) true _ ?side1 ?side2 A40.out).mono ?_
          (case side1 => repeat (first | exact (Kd.R_reads' HO_8.out).2.2 | (with_reducible refine Kd.C_alloc ?_ _) | (with_reducible refine Kd.C_drewN ?_ _) | (with_reducible refine Kd.C_drew ?_)))
          (case side2 => exact (Kd.R_reads' HO_8.out).2.1)
          rintro e w' ⟨rfl, ⟨nd, rfl⟩⟩
          refine ⟨_, rfl, ?_⟩; refine hK.out _ _ ⟨(blk_cell BK440.out 0).trans rfl, (blk_cell BK440.out 1).trans rfl, (blk_cell BK440.out 2).trans rfl, ((HB.out.cell (World.block_lt_of_cell? w _ hw446_0)).trans hw446_0), ((HB.out.cell (World.block_lt_of_cell? w _ hw448_0)).trans hw448_0)⟩ (fun hHeld => ?_); clear hK K; refine norm_ (a' := ?_) ?_ ?_; rotate_left
          ·show Act.put _ (some 96) _ = _
           simp only [Act.put, sZ1, sZ2, sZ3, i64_w, i32_w]; rfl
          refine pure_ (i := 18) (N := some 97) (v := ?_) (a' := ?_) L51' rfl rfl (any_of HT_.out kZ) (fun _ _ _ h => h) (Or.inl ⟨by rfl, ?_⟩) ?_ ?_; rotate_left
          ·intro w'; go_simp; with_reducible rfl
          rotate_left
          ·simp only [Act.put, sZ1, sZ2, sZ3, i64_w, i32_w]; rfl
          refine pure_ (i := 19) (N := some 98) (v := ?_) (a' := ?_) L52' rfl rfl (any_of HT_.out kZ) (fun _ _ _ h => h) (Or.inl ⟨by rfl, ?_⟩) ?_ ?_; rotate_left
          ·intro w'; go_simp; with_reducible rfl
          rotate_left
          ·simp only [Act.put, sZ1, sZ2, sZ3, i64_w, i32_w]; rfl
          refine pure_ (i := 20) (N := some 99) (v := undef) (a' := ?_) L53' rfl rfl (any_of HT_.out kZ) (fun _ _ _ h => h) (Or.inr ⟨by rfl, rfl⟩) ?_ ?_; rotate_left
          ·simp only [Act.put, sZ1, sZ2, sZ3, i64_w, i32_w]; rfl
          refine pure_ (i := 21) (N := some 100) (v := undef) (a' := ?_) L54' rfl rfl (any_of HT_.out kZ) (fun _ _ _ h => h) (Or.inr ⟨by rfl, rfl⟩) ?_ ?_; rotate_left
          ·simp only [Act.put, sZ1, sZ2, sZ3, i64_w, i32_w]; rfl
          refine pure_ (i := 22) (N := some 101) (v := undef) (a' := ?_) L55' rfl rfl (any_of HT_.out kZ) (fun _ _ _ h => h) (Or.inr ⟨by rfl, rfl⟩) ?_ ?_; rotate_left
          ·simp only [Act.put, sZ1, sZ2, sZ3, i64_w, i32_w]; rfl
          refine pure_ (i := 23) (N := some 102) (v := undef) (a' := ?_) L56' rfl rfl (any_of HT_.out kZ) (fun _ _ _ h => h) (Or.inr ⟨by rfl, rfl⟩) ?_ ?_; rotate_left
          ·simp only [Act.put, sZ1, sZ2, sZ3, i64_w, i32_w]; rfl
          refine pure_ (i := 24) (N := some 103) (v := undef) (a' := ?_) L57' rfl rfl (any_of HT_.out kZ) (fun _ _ _ h => h) (Or.inr ⟨by rfl, rfl⟩) ?_ ?_; rotate_left
          ·simp only [Act.put, sZ1, sZ2, sZ3, i64_w, i32_w]; rfl
          refine pure_ (i := 25) (N := some 104) (v := undef) (a' := ?_) L58' rfl rfl (any_of HT_.out kZ) (fun _ _ _ h => h) (Or.inr ⟨by rfl, rfl⟩) ?_ ?_; rotate_left
          ·simp only [Act.put, sZ1, sZ2, sZ3, i64_w, i32_w]; rfl
          refine pure_ (i := 26) (N := some 105) (v := undef) (a' := ?_) L59' rfl rfl (any_of HT_.out kZ) (fun _ _ _ h => h) (Or.inr ⟨by rfl, rfl⟩) ?_ ?_; rotate_left
          ·simp only [Act.put, sZ1, sZ2, sZ3, i64_w, i32_w]; rfl
          refine pure_ (i := 27) (N := some 106) (v := undef) (a' := ?_) L60' rfl rfl (any_of HT_.out kZ) (fun _ _ _ h => h) (Or.inr ⟨by rfl, rfl⟩) ?_ ?_; rotate_left
          ·simp only [Act.put, sZ1, sZ2, sZ3, i64_w, i32_w]; rfl
          refine pure_ (i := 28) (N := some 107) (v := undef) (a' := ?_) L61' rfl rfl (any_of HT_.out kZ) (fun _ _ _ h => h) (Or.inr ⟨by rfl, rfl⟩) ?_ ?_; rotate_left
          ·simp only [Act.put, sZ1, sZ2, sZ3, i64_w, i32_w]; rfl
          refine pure_ (i := 29) (N := some 108) (v := undef) (a' := ?_) L62' rfl rfl (any_of HT_.out kZ) (fun _ _ _ h => h) (Or.inr ⟨by rfl, rfl⟩) ?_ ?_; rotate_left
          ·simp only [Act.put, sZ1, sZ2, sZ3, i64_w, i32_w]; rfl
          refine pure_ (i := 30) (N := some 109) (v := ?_) (a' := ?_) L63' rfl rfl (any_of HT_.out kZ) (fun _ _ _ h => h) (Or.inl ⟨by rfl, ?_⟩) ?_ ?_; rotate_left
          ·intro w'; go_simp; with_reducible rfl
          rotate_left
          ·simp only [Act.put, sZ1, sZ2, sZ3, i64_w, i32_w]; rfl
          refine done_ (done_of HT_.out kZ) ?_
          try go_wp2
          go_ret2; exact ⟨_, tZC, by (with_reducible repeat (first | apply Kd.R_alloc | apply Kd.R_drewN | apply Kd.R_drew)); exact Kd.R_mono HO_6.out (fun _ hk => trivial), bZ⟩
         replace c41 := Bool.eq_false_iff.mpr c41; subst c41; rw [if_neg Bool.false_ne_true] at H; have c45b0 := eq_true (of_decide_eq_true tZE : 0 ≤ x11_4)
         by_cases c46 : x11_4 ≤ (((rd_T31 l1 x9_2).f1).length : Int)
         rotate_left
         ·rw [if_neg c46] at H; exact absurd H (by simp)
         rw [if_pos c46] at H; have c46b0 := eq_true c46; have c46b1 := decide_eq_true c46; clear c46; replace H := Option.bind_eq_some_iff.mp H; obtain ⟨t452, A470, H⟩ := H; replace H : (if t452 = true then (some (y426, false)) else (spec_StepDown.l1 k4 l0 l1 y426 x7_2 y443 x9_2 (wrap64 (x11_4 + 1)) ((rd_T31 l1 x9_2).f0) ((rd_T31 l1 x9_2).f1) ((rd_T31 l1 x9_2).f2))) = some (r1, r2) := H; have A47 := Aside0.mk A470; clear A470
         by_cases c48 : t452 = true
         ·subst c48; rw [if_pos rfl] at H; simp only [Option.some.injEq, Prod.mk.injEq] at H; obtain ⟨rfl, rfl⟩ := H; obtain ⟨hcz49_0, hcz49_1, hcz49_2, hfz49_0, hfz49_1, hfz49_2⟩ := bc3 BK440.out
          try go_wp2
          replace HO_6 := aZ (Kd.R_drew HO_6.out); replace HO_7 := aZ (Kd.R_drew HO_7.out); replace HO_8 := aZ (Kd.R_drew HO_8.out); replace BK440 := aZ (blk_drew BK440.out); replace HB := aZ (below_drew1 HB.out); have p446 : 0 ≤ (x11_4 : Int) := of_decide_eq_true tZE; have q446 : x11_4 < (((rd_T31 l1 x9_2).f1).length : Int) := of_decide_eq_true tZE; obtain ⟨ad446, e446, hx446_0⟩ := Kd.at_int HR439_1.out x11_4 p446 q446; have hw446_0 := hx446_0
          cases e446
          replace hx446_0 := cZ HB hx446_0; replace p446 := eq_true p446; replace q446 := eq_true q446; have p448 : 0 ≤ (x11_4 : Int) := of_decide_eq_true tZE; have q448 : x11_4 < (((rd_T31 l1 x9_2).f1).length : Int) := of_decide_eq_true tZE; obtain ⟨ad448, e448, hx448_0⟩ := Kd.at_int HR439_1.out x11_4 p448 q448; have hw448_0 := hx448_0; obtain rfl : ad446 = ad448 := (by injection e448); replace hx448_0 := cZ HB hx448_0; replace p448 := eq_true p448; replace q448 := eq_true q448; have p451 : 0 ≤ (x11_4 : Int) := of_decide_eq_true tZE; have q451 : x11_4 < (((rd_T31 l1 x9_2).f1).length : Int) := of_decide_eq_true tZE; obtain ⟨ad451, e451, hx451_0⟩ := Kd.at_int HR439_1.out x11_4 p451 q451; have hw451_0 := hx451_0; obtain rfl : ad446 = ad451 := (by injection e451); replace hx451_0 := cZ HB hx451_0; replace p451 := eq_true p451; replace q451 := eq_true q451
          refine start_ (n := 31) (S := fun w' => w'.cell? ⟨gb440, 0, none⟩ = some (.int .i64 ((rd_T31 l1 x9_2).f0)) ∧ w'.cell? ⟨gb440, 1, none⟩ = some (.slice (some ad446) ((rd_T31 l1 x9_2).f1).length c439_1) ∧ w'.cell? ⟨gb440, 2, none⟩ = some (.slice A439_2 ((rd_T31 l1 x9_2).f2).length c439_2) ∧ w'.cell? (ad446.add (x11_4).toNat) = some (.int .i64 (rd ((rd_T31 l1 x9_2).f1) x11_4)) ∧ w'.cell? (ad446.add (x11_4).toNat) = some (.int .i64 (rd ((rd_T31 l1 x9_2).f1) x11_4)) ∧ w'.cell? (ad446.add (x11_4).toNat) = some (.int .i64 (rd ((rd_T31 l1 x9_2).f1) x11_4))) (ds := []) L32' kZ rfl rfl ⟨(blk_cell BK440.out 0).trans rfl, (blk_cell BK440.out 1).trans rfl, (blk_cell BK440.out 2).trans rfl, ((HB.out.cell (World.block_lt_of_cell? w _ hw446_0)).trans hw446_0), ((HB.out.cell (World.block_lt_of_cell? w _ hw448_0)).trans hw448_0), ((HB.out.cell (World.block_lt_of_cell? w _ hw451_0)).trans hw451_0)⟩ (fun hHeld => ?_); refine with_tabW spec_StepDown.tab16 spec_StepDown.bits16 (fun HT_ HW_ => ?_)
          generalize wr.drew = w50 at HO_6 HO_7 HO_8 BK440 HB hx446_0 hx448_0 hx451_0 hHeld ⊢; refine pure_ (i := 0) (N := some 79) (v := ?_) (a' := ?_) L33' rfl rfl (any_of HT_.out kZ) (fun _ _ _ h => h) (Or.inl ⟨by rfl, ?_⟩) ?_ ?_; rotate_left
          ·intro w'; go_simp; with_reducible rfl
          rotate_left
          ·simp only [Act.put, sZ1, sZ2, sZ3, i64_w, i32_w]; rfl
          refine pure_ (i := 2) (N := some 81) (v := ?_) (a' := ?_) L34' rfl rfl (any_of HT_.out kZ) (fun _ _ _ h => h) (Or.inl ⟨by rfl, ?_⟩) ?_ ?_; rotate_left
          ·intro w'; go_simp; with_reducible rfl
          rotate_left
          ·simp only [Act.put, sZ1, sZ2, sZ3, i64_w, i32_w]; rfl
          refine pure_ (i := 5) (N := some 84) (v := ?_) (a' := ?_) L35' rfl rfl (any_of HT_.out kZ) (fun _ _ _ h => h) (Or.inl ⟨by rfl, ?_⟩) ?_ ?_; rotate_left
          ·intro w'; go_simp; with_reducible rfl
          rotate_left
          ·simp only [Act.put, sZ1, sZ2, sZ3, i64_w, i32_w]; rfl
          refine pure_ (i := 6) (N := some 85) (v := ?_) (a' := ?_) L36' rfl rfl (any_of HT_.out kZ) (fun _ _ _ h => h) (Or.inl ⟨by rfl, ?_⟩) ?_ ?_; rotate_left
          ·intro w'; go_simp; with_reducible rfl
          rotate_left
          ·simp only [Act.put, sZ1, sZ2, sZ3, i64_w, i32_w]; rfl
          refine pure_ (i := 7) (N := some 86) (v := ?_) (a' := ?_) L37' rfl rfl (any_of HT_.out kZ) (fun _ _ _ h => h) (Or.inl ⟨by rfl, ?_⟩) ?_ ?_; rotate_left
          ·intro w'; go_simp; with_reducible rfl
          rotate_left
          ·simp only [Act.put, sZ1, sZ2, sZ3, i64_w, i32_w]; rfl
          refine take_ (i := 1) (N := some 80) (v := ?_) (a' := ?_) L38' rfl rfl (take_ofW HT_.out HW_.out kZ) (fun _ _ _ h => h) (Or.inl ⟨by rfl, ?_⟩) hHeld ?_ ?_; rotate_left
          ·rintro w' ⟨s0, s1, s2, s3, s4, s5⟩
           go_simp; with_reducible rfl
          rotate_left
          ·simp only [Act.put, sZ1, sZ2, sZ3, i64_w, i32_w]; rfl
          refine pure_ (i := 3) (N := some 82) (v := ?_) (a' := ?_) L39' rfl rfl (any_of HT_.out kZ) (fun _ _ _ h => h) (Or.inl ⟨by rfl, ?_⟩) ?_ ?_; rotate_left
          ·intro w'; go_simp; with_reducible rfl
          rotate_left
          ·simp only [Act.put, sZ1, sZ2, sZ3, i64_w, i32_w]; rfl
          refine take_ (i := 4) (N := some 83) (v := ?_) (a' := ?_) L40' rfl rfl (take_ofW HT_.out HW_.out kZ) (fun _ _ _ h => h) (Or.inl ⟨by rfl, ?_⟩) hHeld ?_ ?_; rotate_left
          ·rintro w' ⟨s0, s1, s2, s3, s4, s5⟩
           go_simp; with_reducible rfl
          rotate_left
          ·simp only [Act.put, sZ1, sZ2, sZ3, i64_w, i32_w]; rfl
          refine one_ (i := 8) (N := some 87) L41' rfl rfl (one_of HT_.out kZ) (by decide) (fun K hK => ?_); refine goes_ Try.func38 kZ rfl #[.int .i64 (rd ((rd_T31 l1 x9_2).f1) x11_4), .int .i64 0, .int .i64 (wrap64 ((l0.length : Int) - 1))] (by rfl) rfl rfl tZA ?_
          with_reducible refine (spec_l1In.calls (rd ((rd_T31 l1 x9_2).f1) x11_4) 0 (wrap64 ((l0.length : Int) - 1)) true _ A38.out).mono ?_
          rintro e w' ⟨rfl, ⟨nd, rfl⟩⟩
          refine ⟨_, rfl, ?_⟩; obtain ⟨Ao51, co51, eo51⟩ := Kd.R_slice HO_8.out; (first | subst eo51 | (injection eo51 with f1_ f2_ f3_; have f4_ := f1_.symm; have f5_ := f3_.symm; clear f1_ f2_ f3_; subst f4_; subst f5_)); refine hK.out _ _ ⟨(blk_cell BK440.out 0).trans rfl, (blk_cell BK440.out 1).trans rfl, (blk_cell BK440.out 2).trans rfl, ((HB.out.cell (World.block_lt_of_cell? w _ hw446_0)).trans hw446_0), ((HB.out.cell (World.block_lt_of_cell? w _ hw448_0)).trans hw448_0), ((HB.out.cell (World.block_lt_of_cell? w _ hw451_0)).trans hw451_0)⟩ (fun hHeld => ?_); clear hK K; refine norm_ (a' := ?_) ?_ ?_; rotate_left
          ·show Act.put _ (some 87) _ = _
           simp only [Act.put, sZ1, sZ2, sZ3, i64_w, i32_w]; rfl
          refine pure_ (i := 9) (N := some 88) (v := ?_) (a' := ?_) L42' rfl rfl (any_of HT_.out kZ) (fun _ _ _ h => h) (Or.inl ⟨by rfl, ?_⟩) ?_ ?_; rotate_left
          ·intro w'; go_simp; with_reducible rfl
          rotate_left
          ·simp only [Act.put, sZ1, sZ2, sZ3, i64_w, i32_w]; rfl
          refine pure_ (i := 10) (N := some 89) (v := ?_) (a' := ?_) L43' rfl rfl (any_of HT_.out kZ) (fun _ _ _ h => h) (Or.inl ⟨by rfl, ?_⟩) ?_ ?_; rotate_left
          ·intro w'; go_simp; with_reducible rfl
          rotate_left
          ·simp only [Act.put, sZ1, sZ2, sZ3, i64_w, i32_w]; rfl
          refine pure_ (i := 11) (N := some 90) (v := ?_) (a' := ?_) L44' rfl rfl (any_of HT_.out kZ) (fun _ _ _ h => h) (Or.inl ⟨by rfl, ?_⟩) ?_ ?_; rotate_left
          ·intro w'; go_simp; with_reducible rfl
          rotate_left
          ·simp only [Act.put, sZ1, sZ2, sZ3, i64_w, i32_w]; rfl
          refine pure_ (i := 12) (N := some 91) (v := ?_) (a' := ?_) L45' rfl rfl (any_of HT_.out kZ) (fun _ _ _ h => h) (Or.inl ⟨by rfl, ?_⟩) ?_ ?_; rotate_left
          ·intro w'; go_simp; with_reducible rfl
          rotate_left
          ·simp only [Act.put, sZ1, sZ2, sZ3, i64_w, i32_w]; rfl
          refine pure_ (i := 14) (N := some 93) (v := ?_) (a' := ?_) L64' rfl rfl (any_of HT_.out kZ) (fun _ _ _ h => h) (Or.inl ⟨by rfl, ?_⟩) ?_ ?_; rotate_left
          ·intro w'; go_simp; with_reducible rfl
          rotate_left
          ·simp only [Act.put, sZ1, sZ2, sZ3, i64_w, i32_w]; rfl
          refine take_ (i := 13) (N := some 92) (v := ?_) (a' := ?_) L47' rfl rfl (take_ofW HT_.out HW_.out kZ) (fun _ _ _ h => h) (Or.inl ⟨by rfl, ?_⟩) hHeld ?_ ?_; rotate_left
          ·rintro w' ⟨s0, s1, s2, s3, s4, s5⟩
           go_simp; with_reducible rfl
          rotate_left
          ·simp only [Act.put, sZ1, sZ2, sZ3, i64_w, i32_w]; rfl
          refine pure_ (i := 15) (N := some 94) (v := ?_) (a' := ?_) L48' rfl rfl (any_of HT_.out kZ) (fun _ _ _ h => h) (Or.inl ⟨by rfl, ?_⟩) ?_ ?_; rotate_left
          ·intro w'; go_simp; with_reducible rfl
          rotate_left
          ·simp only [Act.put, sZ1, sZ2, sZ3, i64_w, i32_w]; rfl
          refine take_ (i := 16) (N := some 95) (v := ?_) (a' := ?_) L49' rfl rfl (take_ofW HT_.out HW_.out kZ) (fun _ _ _ h => h) (Or.inl ⟨by rfl, ?_⟩) hHeld ?_ ?_; rotate_left
          ·rintro w' ⟨s0, s1, s2, s3, s4, s5⟩
           go_simp; with_reducible rfl
          rotate_left
          ·simp only [Act.put, sZ1, sZ2, sZ3, i64_w, i32_w]; rfl
          refine one_ (i := 17) (N := some 96) L50' rfl rfl (one_of HT_.out kZ) (by decide) (fun K hK => ?_); refine goes_ Try.func39 kZ rfl #[.slice Ao51 y443.length co51, .int .i64 (rd ((rd_T31 l1 x9_2).f1) x11_4)] (by rfl) rfl rfl tZA ?_
          with_reducible refine (spec_l7Has.calls k4 _ _ y443 (rd ((rd_T31 l1 x9_2).f1) x11_4) false _ ?side1 ?side2 A40.out).mono ?_
          (case side1 => repeat (first | exact (Kd.R_reads' HO_8.out).2.2 | (with_reducible refine Kd.C_alloc ?_ _) | (with_reducible refine Kd.C_drewN ?_ _) | (with_reducible refine Kd.C_drew ?_)))
          (case side2 => exact (Kd.R_reads' HO_8.out).2.1)
          rintro e w' ⟨rfl, ⟨nd, rfl⟩⟩
          refine ⟨_, rfl, ?_⟩; obtain ⟨i052, hi052, _, hsz52, _⟩ := info_parts info3; obtain ⟨hcut52, hA52, hC52⟩ := print_take_of (P := Try.prog) (Value.int .i64) 0 24 3 .i64 Try.underlying24 hi052 hsz52 (some ad446) c439_1 ((rd_T31 l1 x9_2).f1) x11_4 (of_decide_eq_true tZE) (of_decide_eq_true tZE) HC439_1.out; have HR450 := aZ (Kd.C_of_reads (h1 := fun _ => rfl) (hA52 _ (Kd.reads_of_C HR439_1.out))); have HC450 := Aside0.mk hC52; clear hA52 hC52 hi052 hsz52; refine hK.out _ _ ⟨(blk_cell BK440.out 0).trans rfl, (blk_cell BK440.out 1).trans rfl, (blk_cell BK440.out 2).trans rfl, ((HB.out.cell (World.block_lt_of_cell? w _ hw446_0)).trans hw446_0), ((HB.out.cell (World.block_lt_of_cell? w _ hw448_0)).trans hw448_0), ((HB.out.cell (World.block_lt_of_cell? w _ hw451_0)).trans hw451_0)⟩ (fun hHeld => ?_); clear hK K; refine norm_ (a' := ?_) ?_ ?_; rotate_left
          ·show Act.put _ (some 96) _ = _
           simp only [Act.put, sZ1, sZ2, sZ3, i64_w, i32_w]; rfl
          refine pure_ (i := 18) (N := some 97) (v := ?_) (a' := ?_) L51' rfl rfl (any_of HT_.out kZ) (fun _ _ _ h => h) (Or.inl ⟨by rfl, ?_⟩) ?_ ?_; rotate_left
          ·intro w'; go_simp; with_reducible rfl
          rotate_left
          ·simp only [Act.put, sZ1, sZ2, sZ3, i64_w, i32_w]; rfl
          refine pure_ (i := 19) (N := some 98) (v := ?_) (a' := ?_) L52' rfl rfl (any_of HT_.out kZ) (fun _ _ _ h => h) (Or.inl ⟨by rfl, ?_⟩) ?_ ?_; rotate_left
          ·intro w'; go_simp; with_reducible rfl
          rotate_left
          ·simp only [Act.put, sZ1, sZ2, sZ3, i64_w, i32_w]; rfl
          refine pure_ (i := 20) (N := some 99) (v := ?_) (a' := ?_) L53' rfl rfl (any_of HT_.out kZ) (fun _ _ _ h => h) (Or.inl ⟨by rfl, ?_⟩) ?_ ?_; rotate_left
          ·intro w'; go_simp; with_reducible rfl
          rotate_left
          ·simp only [Act.put, sZ1, sZ2, sZ3, i64_w, i32_w]; rfl
          refine pure_ (i := 22) (N := some 101) (v := ?_) (a' := ?_) L65' rfl rfl (any_of HT_.out kZ) (fun _ _ _ h => h) (Or.inl ⟨by rfl, ?_⟩) ?_ ?_; rotate_left
          ·intro w'; go_simp; with_reducible rfl
          rotate_left
          ·simp only [Act.put, sZ1, sZ2, sZ3, i64_w, i32_w]; rfl
          refine pure_ (i := 24) (N := some 103) (v := ?_) (a' := ?_) L66' rfl rfl (any_of HT_.out kZ) (fun _ _ _ h => h) (Or.inl ⟨by rfl, ?_⟩) ?_ ?_; rotate_left
          ·intro w'; go_simp; with_reducible rfl
          rotate_left
          ·simp only [Act.put, sZ1, sZ2, sZ3, i64_w, i32_w]; rfl
          refine pure_ (i := 26) (N := some 105) (v := ?_) (a' := ?_) L67' rfl rfl (any_of HT_.out kZ) (fun _ _ _ h => h) (Or.inl ⟨by rfl, ?_⟩) ?_ ?_; rotate_left
          ·intro w'; go_simp; with_reducible rfl
          rotate_left
          ·simp only [Act.put, sZ1, sZ2, sZ3, i64_w, i32_w]; rfl
          refine take_ (i := 21) (N := some 100) (v := ?_) (a' := ?_) L68' rfl rfl (take_ofW HT_.out HW_.out kZ) (fun _ _ _ h => h) (Or.inl ⟨by rfl, ?_⟩) hHeld ?_ ?_; rotate_left
          ·rintro w' ⟨s0, s1, s2, s3, s4, s5⟩
           go_simp; with_reducible rfl
          rotate_left
          ·simp only [Act.put, sZ1, sZ2, sZ3, i64_w, i32_w]; rfl
          refine pure_ (i := 23) (N := some 102) (v := ?_) (a' := ?_) L69' rfl rfl (any_of HT_.out kZ) (fun _ _ _ h => h) (Or.inl ⟨by rfl, ?_⟩) ?_ ?_; rotate_left
          ·intro w'; go_simp; with_reducible rfl
          rotate_left
          ·simp only [Act.put, sZ1, sZ2, sZ3, i64_w, i32_w]; rfl
          refine take_ (i := 25) (N := some 104) (v := ?_) (a' := ?_) L59' rfl rfl (take_ofW HT_.out HW_.out kZ) (fun _ _ _ h => h) (Or.inl ⟨by rfl, ?_⟩) hHeld ?_ ?_; rotate_left
          ·rintro w' ⟨s0, s1, s2, s3, s4, s5⟩
           go_simp; with_reducible rfl
          rotate_left
          ·simp only [Act.put, sZ1, sZ2, sZ3, i64_w, i32_w]; rfl
          refine pure_ (i := 27) (N := some 106) (v := ?_) (a' := ?_) L60' rfl rfl (any_of HT_.out kZ) (fun _ _ _ h => h) (Or.inl ⟨by rfl, ?_⟩) ?_ ?_; rotate_left
          ·intro w'; go_simp; with_reducible rfl
          rotate_left
          ·simp only [Act.put, sZ1, sZ2, sZ3, i64_w, i32_w]; rfl
          refine take_ (i := 28) (N := some 107) (v := ?_) (a' := ?_) L61' rfl rfl (take_ofW HT_.out HW_.out kZ) (fun _ _ _ h => h) (Or.inl ⟨by rfl, ?_⟩) hHeld ?_ ?_; rotate_left
          ·rintro w' ⟨s0, s1, s2, s3, s4, s5⟩
           go_simp; with_reducible rfl
          rotate_left
          ·simp only [Act.put, sZ1, sZ2, sZ3, i64_w, i32_w]; rfl
          refine one_ (i := 29) (N := some 108) L62' rfl rfl (one_of HT_.out kZ) (by decide) (fun K hK => ?_); refine goes_ Try.func39 kZ rfl #[.slice (some ad446) (((rd_T31 l1 x9_2).f1).take (x11_4 : Int).toNat).length c439_1, .int .i64 (rd ((rd_T31 l1 x9_2).f1) x11_4)] (by rfl) rfl rfl (by (try simp only [List.map_toArray, List.map_cons, List.map_nil]); first | done | (rw [show (((rd_T31 l1 x9_2).f1).take (x11_4 : Int).toNat).length = x11_4.toNat from (by rw [List.length_take]; have h_ : (x11_4 : Int) ≤ (((rd_T31 l1 x9_2).f1).length : Int) := of_decide_eq_true tZE; omega)] <;> rfl) | rfl | (simp only [List.length_drop, List.length_take]; rfl)) ?_
          with_reducible refine (spec_l7Has.calls k4 _ _ (((rd_T31 l1 x9_2).f1).take (x11_4 : Int).toNat) (rd ((rd_T31 l1 x9_2).f1) x11_4) true _ ?side1 ?side2 A47.out).mono ?_
          (case side1 => repeat (first | exact (Kd.C_below HR450.out bZ) | (with_reducible refine Kd.C_alloc ?_ _) | (with_reducible refine Kd.C_drewN ?_ _) | (with_reducible refine Kd.C_drew ?_)))
          (case side2 => exact HC450.out)
          rintro e w' ⟨rfl, ⟨nd, rfl⟩⟩
          refine ⟨_, rfl, ?_⟩; refine hK.out _ _ ⟨(blk_cell BK440.out 0).trans rfl, (blk_cell BK440.out 1).trans rfl, (blk_cell BK440.out 2).trans rfl, ((HB.out.cell (World.block_lt_of_cell? w _ hw446_0)).trans hw446_0), ((HB.out.cell (World.block_lt_of_cell? w _ hw448_0)).trans hw448_0), ((HB.out.cell (World.block_lt_of_cell? w _ hw451_0)).trans hw451_0)⟩ (fun hHeld => ?_); clear hK K; refine norm_ (a' := ?_) ?_ ?_; rotate_left
          ·show Act.put _ (some 108) _ = _
           simp only [Act.put, sZ1, sZ2, sZ3, i64_w, i32_w]; rfl
          refine pure_ (i := 30) (N := some 109) (v := ?_) (a' := ?_) L63' rfl rfl (any_of HT_.out kZ) (fun _ _ _ h => h) (Or.inl ⟨by rfl, ?_⟩) ?_ ?_; rotate_left
          ·intro w'; go_simp; with_reducible rfl
          rotate_left
          ·simp only [Act.put, sZ1, sZ2, sZ3, i64_w, i32_w]; rfl
          refine done_ (done_of HT_.out kZ) ?_
          try go_wp2
          go_ret2; exact ⟨_, tZC, by (with_reducible repeat (first | apply Kd.R_alloc | apply Kd.R_drewN | apply Kd.R_drew)); exact Kd.R_mono HO_6.out (fun _ hk => trivial), bZ⟩
         replace c48 := Bool.eq_false_iff.mpr c48; subst c48; rw [if_neg Bool.false_ne_true] at H; have H' := Aside0.mk H; clear H; obtain ⟨hcz53_0, hcz53_1, hcz53_2, hfz53_0, hfz53_1, hfz53_2⟩ := bc3 BK440.out
         try go_wp2
         replace HO_6 := aZ (Kd.R_drew HO_6.out); replace HO_7 := aZ (Kd.R_drew HO_7.out); replace HO_8 := aZ (Kd.R_drew HO_8.out); replace BK440 := aZ (blk_drew BK440.out); replace HB := aZ (below_drew1 HB.out); have p446 : 0 ≤ (x11_4 : Int) := of_decide_eq_true tZE; have q446 : x11_4 < (((rd_T31 l1 x9_2).f1).length : Int) := of_decide_eq_true tZE; obtain ⟨ad446, e446, hx446_0⟩ := Kd.at_int HR439_1.out x11_4 p446 q446; have hw446_0 := hx446_0
         cases e446
         replace hx446_0 := cZ HB hx446_0; replace p446 := eq_true p446; replace q446 := eq_true q446; have p448 : 0 ≤ (x11_4 : Int) := of_decide_eq_true tZE; have q448 : x11_4 < (((rd_T31 l1 x9_2).f1).length : Int) := of_decide_eq_true tZE; obtain ⟨ad448, e448, hx448_0⟩ := Kd.at_int HR439_1.out x11_4 p448 q448; have hw448_0 := hx448_0; obtain rfl : ad446 = ad448 := (by injection e448); replace hx448_0 := cZ HB hx448_0; replace p448 := eq_true p448; replace q448 := eq_true q448; have p451 : 0 ≤ (x11_4 : Int) := of_decide_eq_true tZE; have q451 : x11_4 < (((rd_T31 l1 x9_2).f1).length : Int) := of_decide_eq_true tZE; obtain ⟨ad451, e451, hx451_0⟩ := Kd.at_int HR439_1.out x11_4 p451 q451; have hw451_0 := hx451_0; obtain rfl : ad446 = ad451 := (by injection e451); replace hx451_0 := cZ HB hx451_0; replace p451 := eq_true p451; replace q451 := eq_true q451
         refine start_ (n := 31) (S := fun w' => w'.cell? ⟨gb440, 0, none⟩ = some (.int .i64 ((rd_T31 l1 x9_2).f0)) ∧ w'.cell? ⟨gb440, 1, none⟩ = some (.slice (some ad446) ((rd_T31 l1 x9_2).f1).length c439_1) ∧ w'.cell? ⟨gb440, 2, none⟩ = some (.slice A439_2 ((rd_T31 l1 x9_2).f2).length c439_2) ∧ w'.cell? (ad446.add (x11_4).toNat) = some (.int .i64 (rd ((rd_T31 l1 x9_2).f1) x11_4)) ∧ w'.cell? (ad446.add (x11_4).toNat) = some (.int .i64 (rd ((rd_T31 l1 x9_2).f1) x11_4)) ∧ w'.cell? (ad446.add (x11_4).toNat) = some (.int .i64 (rd ((rd_T31 l1 x9_2).f1) x11_4))) (ds := []) L32' kZ rfl rfl ⟨(blk_cell BK440.out 0).trans rfl, (blk_cell BK440.out 1).trans rfl, (blk_cell BK440.out 2).trans rfl, ((HB.out.cell (World.block_lt_of_cell? w _ hw446_0)).trans hw446_0), ((HB.out.cell (World.block_lt_of_cell? w _ hw448_0)).trans hw448_0), ((HB.out.cell (World.block_lt_of_cell? w _ hw451_0)).trans hw451_0)⟩ (fun hHeld => ?_); refine with_tabW spec_StepDown.tab16 spec_StepDown.bits16 (fun HT_ HW_ => ?_)
         generalize wr.drew = w54 at HO_6 HO_7 HO_8 BK440 HB hx446_0 hx448_0 hx451_0 hHeld ⊢; refine pure_ (i := 0) (N := some 79) (v := ?_) (a' := ?_) L33' rfl rfl (any_of HT_.out kZ) (fun _ _ _ h => h) (Or.inl ⟨by rfl, ?_⟩) ?_ ?_; rotate_left
         ·intro w'; go_simp; with_reducible rfl
         rotate_left
         ·simp only [Act.put, sZ1, sZ2, sZ3, i64_w, i32_w]; rfl
         refine pure_ (i := 2) (N := some 81) (v := ?_) (a' := ?_) L34' rfl rfl (any_of HT_.out kZ) (fun _ _ _ h => h) (Or.inl ⟨by rfl, ?_⟩) ?_ ?_; rotate_left
         ·intro w'; go_simp; with_reducible rfl
         rotate_left
         ·simp only [Act.put, sZ1, sZ2, sZ3, i64_w, i32_w]; rfl
         refine pure_ (i := 5) (N := some 84) (v := ?_) (a' := ?_) L35' rfl rfl (any_of HT_.out kZ) (fun _ _ _ h => h) (Or.inl ⟨by rfl, ?_⟩) ?_ ?_; rotate_left
         ·intro w'; go_simp; with_reducible rfl
         rotate_left
         ·simp only [Act.put, sZ1, sZ2, sZ3, i64_w, i32_w]; rfl
         refine pure_ (i := 6) (N := some 85) (v := ?_) (a' := ?_) L36' rfl rfl (any_of HT_.out kZ) (fun _ _ _ h => h) (Or.inl ⟨by rfl, ?_⟩) ?_ ?_; rotate_left
         ·intro w'; go_simp; with_reducible rfl
         rotate_left
         ·simp only [Act.put, sZ1, sZ2, sZ3, i64_w, i32_w]; rfl
         refine pure_ (i := 7) (N := some 86) (v := ?_) (a' := ?_) L37' rfl rfl (any_of HT_.out kZ) (fun _ _ _ h => h) (Or.inl ⟨by rfl, ?_⟩) ?_ ?_; rotate_left
         ·intro w'; go_simp; with_reducible rfl
         rotate_left
         ·simp only [Act.put, sZ1, sZ2, sZ3, i64_w, i32_w]; rfl
         refine take_ (i := 1) (N := some 80) (v := ?_) (a' := ?_) L38' rfl rfl (take_ofW HT_.out HW_.out kZ) (fun _ _ _ h => h) (Or.inl ⟨by rfl, ?_⟩) hHeld ?_ ?_; rotate_left
         ·rintro w' ⟨s0, s1, s2, s3, s4, s5⟩
          go_simp; with_reducible rfl
         rotate_left
         ·simp only [Act.put, sZ1, sZ2, sZ3, i64_w, i32_w]; rfl
         refine pure_ (i := 3) (N := some 82) (v := ?_) (a' := ?_) L39' rfl rfl (any_of HT_.out kZ) (fun _ _ _ h => h) (Or.inl ⟨by rfl, ?_⟩) ?_ ?_; rotate_left
         ·intro w'; go_simp; with_reducible rfl
         rotate_left
         ·simp only [Act.put, sZ1, sZ2, sZ3, i64_w, i32_w]; rfl
         refine take_ (i := 4) (N := some 83) (v := ?_) (a' := ?_) L40' rfl rfl (take_ofW HT_.out HW_.out kZ) (fun _ _ _ h => h) (Or.inl ⟨by rfl, ?_⟩) hHeld ?_ ?_; rotate_left
         ·rintro w' ⟨s0, s1, s2, s3, s4, s5⟩
          go_simp; with_reducible rfl
         rotate_left
         ·simp only [Act.put, sZ1, sZ2, sZ3, i64_w, i32_w]; rfl
         refine one_ (i := 8) (N := some 87) L41' rfl rfl (one_of HT_.out kZ) (by decide) (fun K hK => ?_); refine goes_ Try.func38 kZ rfl #[.int .i64 (rd ((rd_T31 l1 x9_2).f1) x11_4), .int .i64 0, .int .i64 (wrap64 ((l0.length : Int) - 1))] (by rfl) rfl rfl tZA ?_
         with_reducible refine (spec_l1In.calls (rd ((rd_T31 l1 x9_2).f1) x11_4) 0 (wrap64 ((l0.length : Int) - 1)) true _ A38.out).mono ?_
         rintro e w' ⟨rfl, ⟨nd, rfl⟩⟩
         refine ⟨_, rfl, ?_⟩; obtain ⟨Ao55, co55, eo55⟩ := Kd.R_slice HO_8.out; (first | subst eo55 | (injection eo55 with f1_ f2_ f3_; have f4_ := f1_.symm; have f5_ := f3_.symm; clear f1_ f2_ f3_; subst f4_; subst f5_)); refine hK.out _ _ ⟨(blk_cell BK440.out 0).trans rfl, (blk_cell BK440.out 1).trans rfl, (blk_cell BK440.out 2).trans rfl, ((HB.out.cell (World.block_lt_of_cell? w _ hw446_0)).trans hw446_0), ((HB.out.cell (World.block_lt_of_cell? w _ hw448_0)).trans hw448_0), ((HB.out.cell (World.block_lt_of_cell? w _ hw451_0)).trans hw451_0)⟩ (fun hHeld => ?_); clear hK K; refine norm_ (a' := ?_) ?_ ?_; rotate_left
         ·show Act.put _ (some 87) _ = _
          simp only [Act.put, sZ1, sZ2, sZ3, i64_w, i32_w]; rfl
         refine pure_ (i := 9) (N := some 88) (v := ?_) (a' := ?_) L42' rfl rfl (any_of HT_.out kZ) (fun _ _ _ h => h) (Or.inl ⟨by rfl, ?_⟩) ?_ ?_; rotate_left
         ·intro w'; go_simp; with_reducible rfl
         rotate_left
         ·simp only [Act.put, sZ1, sZ2, sZ3, i64_w, i32_w]; rfl
         refine pure_ (i := 10) (N := some 89) (v := ?_) (a' := ?_) L43' rfl rfl (any_of HT_.out kZ) (fun _ _ _ h => h) (Or.inl ⟨by rfl, ?_⟩) ?_ ?_; rotate_left
         ·intro w'; go_simp; with_reducible rfl
         rotate_left
         ·simp only [Act.put, sZ1, sZ2, sZ3, i64_w, i32_w]; rfl
         refine pure_ (i := 11) (N := some 90) (v := ?_) (a' := ?_) L44' rfl rfl (any_of HT_.out kZ) (fun _ _ _ h => h) (Or.inl ⟨by rfl, ?_⟩) ?_ ?_; rotate_left
         ·intro w'; go_simp; with_reducible rfl
         rotate_left
         ·simp only [Act.put, sZ1, sZ2, sZ3, i64_w, i32_w]; rfl
         refine pure_ (i := 12) (N := some 91) (v := ?_) (a' := ?_) L45' rfl rfl (any_of HT_.out kZ) (fun _ _ _ h => h) (Or.inl ⟨by rfl, ?_⟩) ?_ ?_; rotate_left
         ·intro w'; go_simp; with_reducible rfl
         rotate_left
         ·simp only [Act.put, sZ1, sZ2, sZ3, i64_w, i32_w]; rfl
         refine pure_ (i := 14) (N := some 93) (v := ?_) (a' := ?_) L64' rfl rfl (any_of HT_.out kZ) (fun _ _ _ h => h) (Or.inl ⟨by rfl, ?_⟩) ?_ ?_; rotate_left
         ·intro w'; go_simp; with_reducible rfl
         rotate_left
         ·simp only [Act.put, sZ1, sZ2, sZ3, i64_w, i32_w]; rfl
         refine take_ (i := 13) (N := some 92) (v := ?_) (a' := ?_) L47' rfl rfl (take_ofW HT_.out HW_.out kZ) (fun _ _ _ h => h) (Or.inl ⟨by rfl, ?_⟩) hHeld ?_ ?_; rotate_left
         ·rintro w' ⟨s0, s1, s2, s3, s4, s5⟩
          go_simp; with_reducible rfl
         rotate_left
         ·simp only [Act.put, sZ1, sZ2, sZ3, i64_w, i32_w]; rfl
         refine pure_ (i := 15) (N := some 94) (v := ?_) (a' := ?_) L48' rfl rfl (any_of HT_.out kZ) (fun _ _ _ h => h) (Or.inl ⟨by rfl, ?_⟩) ?_ ?_; rotate_left
         ·intro w'; go_simp; with_reducible rfl
         rotate_left
         ·simp only [Act.put, sZ1, sZ2, sZ3, i64_w, i32_w]; rfl
         refine take_ (i := 16) (N := some 95) (v := ?_) (a' := ?_) L49' rfl rfl (take_ofW HT_.out HW_.out kZ) (fun _ _ _ h => h) (Or.inl ⟨by rfl, ?_⟩) hHeld ?_ ?_; rotate_left
         ·rintro w' ⟨s0, s1, s2, s3, s4, s5⟩
          go_simp; with_reducible rfl
         rotate_left
         ·simp only [Act.put, sZ1, sZ2, sZ3, i64_w, i32_w]; rfl
         refine one_ (i := 17) (N := some 96) L50' rfl rfl (one_of HT_.out kZ) (by decide) (fun K hK => ?_); refine goes_ Try.func39 kZ rfl #[.slice Ao55 y443.length co55, .int .i64 (rd ((rd_T31 l1 x9_2).f1) x11_4)] (by rfl) rfl rfl tZA ?_
         with_reducible refine (spec_l7Has.calls k4 _ _ y443 (rd ((rd_T31 l1 x9_2).f1) x11_4) false _ ?side1 ?side2 A40.out).mono ?_
         (case side1 => repeat (first | exact (Kd.R_reads' HO_8.out).2.2 | (with_reducible refine Kd.C_alloc ?_ _) | (with_reducible refine Kd.C_drewN ?_ _) | (with_reducible refine Kd.C_drew ?_)))
         (case side2 => exact (Kd.R_reads' HO_8.out).2.1)
         rintro e w' ⟨rfl, ⟨nd, rfl⟩⟩
         refine ⟨_, rfl, ?_⟩; obtain ⟨i056, hi056, _, hsz56, _⟩ := info_parts info3; obtain ⟨hcut56, hA56, hC56⟩ := print_take_of (P := Try.prog) (Value.int .i64) 0 24 3 .i64 Try.underlying24 hi056 hsz56 (some ad446) c439_1 ((rd_T31 l1 x9_2).f1) x11_4 (of_decide_eq_true tZE) (of_decide_eq_true tZE) HC439_1.out; have HR450 := aZ (Kd.C_of_reads (h1 := fun _ => rfl) (hA56 _ (Kd.reads_of_C HR439_1.out))); have HC450 := Aside0.mk hC56; clear hA56 hC56 hi056 hsz56; refine hK.out _ _ ⟨(blk_cell BK440.out 0).trans rfl, (blk_cell BK440.out 1).trans rfl, (blk_cell BK440.out 2).trans rfl, ((HB.out.cell (World.block_lt_of_cell? w _ hw446_0)).trans hw446_0), ((HB.out.cell (World.block_lt_of_cell? w _ hw448_0)).trans hw448_0), ((HB.out.cell (World.block_lt_of_cell? w _ hw451_0)).trans hw451_0)⟩ (fun hHeld => ?_); clear hK K; refine norm_ (a' := ?_) ?_ ?_; rotate_left
         ·show Act.put _ (some 96) _ = _
          simp only [Act.put, sZ1, sZ2, sZ3, i64_w, i32_w]; rfl
         refine pure_ (i := 18) (N := some 97) (v := ?_) (a' := ?_) L51' rfl rfl (any_of HT_.out kZ) (fun _ _ _ h => h) (Or.inl ⟨by rfl, ?_⟩) ?_ ?_; rotate_left
         ·intro w'; go_simp; with_reducible rfl
         rotate_left
         ·simp only [Act.put, sZ1, sZ2, sZ3, i64_w, i32_w]; rfl
         refine pure_ (i := 19) (N := some 98) (v := ?_) (a' := ?_) L52' rfl rfl (any_of HT_.out kZ) (fun _ _ _ h => h) (Or.inl ⟨by rfl, ?_⟩) ?_ ?_; rotate_left
         ·intro w'; go_simp; with_reducible rfl
         rotate_left
         ·simp only [Act.put, sZ1, sZ2, sZ3, i64_w, i32_w]; rfl
         refine pure_ (i := 20) (N := some 99) (v := ?_) (a' := ?_) L53' rfl rfl (any_of HT_.out kZ) (fun _ _ _ h => h) (Or.inl ⟨by rfl, ?_⟩) ?_ ?_; rotate_left
         ·intro w'; go_simp; with_reducible rfl
         rotate_left
         ·simp only [Act.put, sZ1, sZ2, sZ3, i64_w, i32_w]; rfl
         refine pure_ (i := 22) (N := some 101) (v := ?_) (a' := ?_) L65' rfl rfl (any_of HT_.out kZ) (fun _ _ _ h => h) (Or.inl ⟨by rfl, ?_⟩) ?_ ?_; rotate_left
         ·intro w'; go_simp; with_reducible rfl
         rotate_left
         ·simp only [Act.put, sZ1, sZ2, sZ3, i64_w, i32_w]; rfl
         refine pure_ (i := 24) (N := some 103) (v := ?_) (a' := ?_) L66' rfl rfl (any_of HT_.out kZ) (fun _ _ _ h => h) (Or.inl ⟨by rfl, ?_⟩) ?_ ?_; rotate_left
         ·intro w'; go_simp; with_reducible rfl
         rotate_left
         ·simp only [Act.put, sZ1, sZ2, sZ3, i64_w, i32_w]; rfl
         refine pure_ (i := 26) (N := some 105) (v := ?_) (a' := ?_) L67' rfl rfl (any_of HT_.out kZ) (fun _ _ _ h => h) (Or.inl ⟨by rfl, ?_⟩) ?_ ?_; rotate_left
         ·intro w'; go_simp; with_reducible rfl
         rotate_left
         ·simp only [Act.put, sZ1, sZ2, sZ3, i64_w, i32_w]; rfl
         refine take_ (i := 21) (N := some 100) (v := ?_) (a' := ?_) L68' rfl rfl (take_ofW HT_.out HW_.out kZ) (fun _ _ _ h => h) (Or.inl ⟨by rfl, ?_⟩) hHeld ?_ ?_; rotate_left
         ·rintro w' ⟨s0, s1, s2, s3, s4, s5⟩
          go_simp; with_reducible rfl
         rotate_left
         ·simp only [Act.put, sZ1, sZ2, sZ3, i64_w, i32_w]; rfl
         refine pure_ (i := 23) (N := some 102) (v := ?_) (a' := ?_) L69' rfl rfl (any_of HT_.out kZ) (fun _ _ _ h => h) (Or.inl ⟨by rfl, ?_⟩) ?_ ?_; rotate_left
         ·intro w'; go_simp; with_reducible rfl
         rotate_left
         ·simp only [Act.put, sZ1, sZ2, sZ3, i64_w, i32_w]; rfl
         refine take_ (i := 25) (N := some 104) (v := ?_) (a' := ?_) L59' rfl rfl (take_ofW HT_.out HW_.out kZ) (fun _ _ _ h => h) (Or.inl ⟨by rfl, ?_⟩) hHeld ?_ ?_; rotate_left
         ·rintro w' ⟨s0, s1, s2, s3, s4, s5⟩
          go_simp; with_reducible rfl
         rotate_left
         ·simp only [Act.put, sZ1, sZ2, sZ3, i64_w, i32_w]; rfl
         refine pure_ (i := 27) (N := some 106) (v := ?_) (a' := ?_) L60' rfl rfl (any_of HT_.out kZ) (fun _ _ _ h => h) (Or.inl ⟨by rfl, ?_⟩) ?_ ?_; rotate_left
         ·intro w'; go_simp; with_reducible rfl
         rotate_left
         ·simp only [Act.put, sZ1, sZ2, sZ3, i64_w, i32_w]; rfl
         refine take_ (i := 28) (N := some 107) (v := ?_) (a' := ?_) L61' rfl rfl (take_ofW HT_.out HW_.out kZ) (fun _ _ _ h => h) (Or.inl ⟨by rfl, ?_⟩) hHeld ?_ ?_; rotate_left
         ·rintro w' ⟨s0, s1, s2, s3, s4, s5⟩
          go_simp; with_reducible rfl
         rotate_left
         ·simp only [Act.put, sZ1, sZ2, sZ3, i64_w, i32_w]; rfl
         refine one_ (i := 29) (N := some 108) L62' rfl rfl (one_of HT_.out kZ) (by decide) (fun K hK => ?_); refine goes_ Try.func39 kZ rfl #[.slice (some ad446) (((rd_T31 l1 x9_2).f1).take (x11_4 : Int).toNat).length c439_1, .int .i64 (rd ((rd_T31 l1 x9_2).f1) x11_4)] (by rfl) rfl rfl (by (try simp only [List.map_toArray, List.map_cons, List.map_nil]); first | done | (rw [show (((rd_T31 l1 x9_2).f1).take (x11_4 : Int).toNat).length = x11_4.toNat from (by rw [List.length_take]; have h_ : (x11_4 : Int) ≤ (((rd_T31 l1 x9_2).f1).length : Int) := of_decide_eq_true tZE; omega)] <;> rfl) | rfl | (simp only [List.length_drop, List.length_take]; rfl)) ?_
         with_reducible refine (spec_l7Has.calls k4 _ _ (((rd_T31 l1 x9_2).f1).take (x11_4 : Int).toNat) (rd ((rd_T31 l1 x9_2).f1) x11_4) false _ ?side1 ?side2 A47.out).mono ?_
         (case side1 => repeat (first | exact (Kd.C_below HR450.out bZ) | (with_reducible refine Kd.C_alloc ?_ _) | (with_reducible refine Kd.C_drewN ?_ _) | (with_reducible refine Kd.C_drew ?_)))
         (case side2 => exact HC450.out)
         rintro e w' ⟨rfl, ⟨nd, rfl⟩⟩
         refine ⟨_, rfl, ?_⟩; refine hK.out _ _ ⟨(blk_cell BK440.out 0).trans rfl, (blk_cell BK440.out 1).trans rfl, (blk_cell BK440.out 2).trans rfl, ((HB.out.cell (World.block_lt_of_cell? w _ hw446_0)).trans hw446_0), ((HB.out.cell (World.block_lt_of_cell? w _ hw448_0)).trans hw448_0), ((HB.out.cell (World.block_lt_of_cell? w _ hw451_0)).trans hw451_0)⟩ (fun hHeld => ?_); clear hK K; refine norm_ (a' := ?_) ?_ ?_; rotate_left
         ·show Act.put _ (some 108) _ = _
          simp only [Act.put, sZ1, sZ2, sZ3, i64_w, i32_w]; rfl
         refine pure_ (i := 30) (N := some 109) (v := ?_) (a' := ?_) L63' rfl rfl (any_of HT_.out kZ) (fun _ _ _ h => h) (Or.inl ⟨by rfl, ?_⟩) ?_ ?_; rotate_left
         ·intro w'; go_simp; with_reducible rfl
         rotate_left
         ·simp only [Act.put, sZ1, sZ2, sZ3, i64_w, i32_w]; rfl
         refine done_ (done_of HT_.out kZ) ?_
         try go_wp2
         go_roundg k4
         case measure => have := HJ2.out; have := HK2.out; have := HJ16.out; have := HK4.out; omega
         case rel => exact ⟨(wrap64 (x11_4 + 1)), tZB, H', ⟨by have := HJ2.out; have := HK2.out; have := HJ16.out; have := HK4.out; omega⟩, ⟨lZR HO_6.out⟩, ⟨lZR HO_7.out⟩, ⟨lZR HO_8.out⟩, ⟨bkZ BK440.out⟩, ⟨bZ⟩⟩
end Go.Proofs.Ytfkakbpjddgmeaa.PFnHandedOn
