import Derived.Test.YtnbecbgpefmcoaaVPFnExactVoidx0
import Derived.Test.YtnbecbgpefmcoaaVPFnExactVoidx1
import Derived.Test.YtnbecbgpefmcoaaVPFnExactVoidx2
import Derived.Test.YtnbecbgpefmcoaaVPFnExactVoidx3
import Derived.Test.YtnbecbgpefmcoaaVSlimWords
namespace Go.Proofs.Ytnbecbgpefmcoaa.PFnExactVoid
open Go.Proofs.Ytnbecbgpefmcoaa.SlimWords
open Go.RowKit Go.Proofs.YtnbecbgpefmcoaaW.PrintWords Go.Proofs.YtnbecbgpefmcoaaW.PrintLast Go.Proofs.YtnbecbgpefmcoaaW.PrintMore Go.Proofs.Ytnbecbgpefmcoaa.MapWords
attribute [local go_sem] max2_int min2_int max_two min_two max_three min_three max_four min_four
set_option linter.unusedVariables false
set_option linter.unusedSimpArgs false
private abbrev I' := true
private abbrev O' := false
private abbrev L0' : Array Bool := #[O',O',O',O',O',O',O',O',O',O',O',O',O',O',O',O',O',O',O',O',O',O']
private abbrev L1' : Array Bool := #[I',O',O',O',O',O',O',O',O',O',O',O',O',O',O',O',O',O',O',O',O',O']
private abbrev L2' : Array Bool := #[I',O',I',O',O',O',O',O',O',O',O',O',O',O',O',O',O',O',O',O',O',O']
private abbrev L3' : Array Bool := #[I',O',I',O',O',O',I',O',O',O',O',O',O',O',O',O',O',O',O',O',O',O']
private abbrev L4' : Array Bool := #[I',I',I',O',O',O',I',O',O',O',O',O',O',O',O',O',O',O',O',O',O',O']
private abbrev L5' : Array Bool := #[I',I',I',I',O',O',I',O',O',O',O',O',O',O',O',O',O',O',O',O',O',O']
private abbrev L6' : Array Bool := #[I',I',I',I',I',O',I',O',O',O',O',O',O',O',O',O',O',O',O',O',O',O']
private abbrev L7' : Array Bool := #[I',I',I',I',I',I',I',O',O',O',O',O',O',O',O',O',O',O',O',O',O',O']
private abbrev L8' : Array Bool := #[I',I',I',I',I',I',I',I',O',O',O',O',O',O',O',O',O',O',O',O',O',O']
private abbrev L9' : Array Bool := #[I',I',I',I',I',I',I',I',I',O',O',O',O',O',O',O',O',O',O',O',O',O']
private abbrev L10' : Array Bool := #[I',I',I',I',I',I',I',I',I',I',O',O',O',O',O',O',O',O',O',O',O',O']
private abbrev L11' : Array Bool := #[I',I',I',I',I',I',I',I',I',I',I',O',O',O',O',O',O',O',O',O',O',O']
private abbrev L12' : Array Bool := #[I',I',I',I',I',I',I',I',I',I',I',I',O',O',O',O',O',O',O',O',O',O']
private abbrev L13' : Array Bool := #[I',I',I',I',I',I',I',I',I',I',I',I',I',O',O',O',O',O',O',O',O',O']
private abbrev L14' : Array Bool := #[I',I',I',I',I',I',I',I',I',I',I',I',I',I',O',O',O',O',O',O',O',O']
private abbrev L15' : Array Bool := #[I',I',I',I',I',I',I',I',I',I',I',I',I',I',I',O',O',O',O',O',O',O']
private abbrev L16' : Array Bool := #[I',I',I',I',I',I',I',I',I',I',I',I',I',I',I',I',O',O',O',O',O',O']
private abbrev L17' : Array Bool := #[I',I',I',I',I',I',I',I',I',I',I',I',I',I',I',I',I',O',O',O',O',O']
private abbrev L18' : Array Bool := #[I',I',I',I',I',I',I',I',I',I',I',I',I',I',I',I',I',I',O',O',O',O']
private abbrev L19' : Array Bool := #[I',I',I',I',I',I',I',I',I',I',I',I',I',I',I',I',I',I',I',O',O',O']
private abbrev L20' : Array Bool := #[I',I',I',I',I',I',I',I',I',I',I',I',I',I',I',I',I',I',I',I',O',O']
private abbrev L21' : Array Bool := #[I',I',I',I',I',I',I',I',I',I',I',I',I',I',I',I',I',I',I',I',I',O']
private abbrev L22' : Array Bool := #[I',I',I',I',I',I',I',I',I',I',I',I',I',I',I',I',I',I',I',I',I',I']
private abbrev L23' : Array Bool := #[I',I',I',I',I',I',I',I',I',I',I',I',I',I',O',I',O',O',O',O',O',O']
private abbrev L24' : Array Bool := #[O',O',O',O',O',O',O',O',O',O',O',O',O']
private abbrev L25' : Array Bool := #[I',O',O',O',O',O',O',O',O',O',O',O',O']
private abbrev L26' : Array Bool := #[I',O',I',O',O',O',O',O',O',O',O',O',O']
private abbrev L27' : Array Bool := #[I',O',I',O',O',O',I',O',O',O',O',O',O']
private abbrev L28' : Array Bool := #[I',O',I',O',O',O',I',O',I',O',O',O',O']
private abbrev L29' : Array Bool := #[I',I',I',O',O',O',I',O',I',O',O',O',O']
private abbrev L30' : Array Bool := #[I',I',I',I',O',O',I',O',I',O',O',O',O']
private abbrev L31' : Array Bool := #[I',I',I',I',I',O',I',O',I',O',O',O',O']
private abbrev L32' : Array Bool := #[I',I',I',I',I',I',I',O',I',O',O',O',O']
private abbrev L33' : Array Bool := #[I',I',I',I',I',I',I',I',I',O',O',O',O']
private abbrev L34' : Array Bool := #[I',I',I',I',I',I',I',I',I',I',O',O',O']
private abbrev L35' : Array Bool := #[I',I',I',I',I',I',I',I',I',I',I',O',O']
private abbrev L36' : Array Bool := #[I',I',I',I',I',I',I',I',I',I',I',I',O']
private abbrev L37' : Array Bool := #[I',I',I',I',I',I',I',I',I',I',I',I',I']
private abbrev L38' : Array Bool := #[I',I',I',O',O',O',O',O',O',O',O',O',O',O',O',O',O',O',O',O',O',O']
private abbrev L39' : Array Bool := #[I',I',I',I',O',O',O',O',O',O',O',O',O',O',O',O',O',O',O',O',O',O']
private abbrev L40' : Array Bool := #[I',I',I',I',I',O',O',O',O',O',O',O',O',O',O',O',O',O',O',O',O',O']
private abbrev L41' : Array Bool := #[I',I',I',I',I',I',O',O',O',O',O',O',O',O',O',O',O',O',O',O',O',O']
private abbrev L42' : Array Bool := #[I',I',I',I',I',I',O',I',O',O',O',O',O',O',O',O',O',O',O',O',O',O']
private abbrev L43' : Array Bool := #[I',I',I',I',I',I',I',I',I',I',I',I',O',O',I',O',O',O',O',O',O',O']
private abbrev L44' : Array Bool := #[I',I',I',I',I',I',I',I',I',I',I',I',O',O',I',O',I',O',O',O',O',O']
private abbrev L45' : Array Bool := #[I',I',I',I',I',I',I',I',I',I',I',I',O',O',I',I',I',O',O',O',O',O']
private abbrev L46' : Array Bool := #[I',I',I',I',I',I',I',I',I',I',I',I',O',O',I',I',I',I',O',O',O',O']
private abbrev L47' : Array Bool := #[I',I',I',I',I',I',I',I',I',I',I',I',O',O',I',I',I',I',I',O',O',O']
private abbrev L48' : Array Bool := #[I',I',I',I',I',I',I',I',I',I',I',I',O',O',I',I',I',I',I',I',O',O']
private abbrev L49' : Array Bool := #[I',I',I',I',I',I',I',I',I',I',I',I',I',O',I',I',I',I',I',I',O',O']
mutual
def spec_RegisterOk.j0 : Nat → Bool → List (S304) → List (S230) → Option (Bool)
  | 0, _, _, _ => none
  | k + 1, x19, x112000, x112001 => if x19 = true then (some false) else (spec_RegisterOk.l0 k 0 x112000 x112001)
def spec_RegisterOk.l0 : Nat → Int → List (S304) → List (S230) → Option (Bool)
  | 0, _, _, _ => none
  | k + 1, x3, x112000, x112001 => if x3 < (x112000.length : Int) then (if 0 ≤ x3 then ((spec_NameOk.f k ((rd_T304 x112000 x3).f0)).bind fun t113 => (if t113 = true then ((spec_l1In.f ((rd_T304 x112000 x3).f1) 1 8).bind fun t115 => (spec_RegisterOk.j2 k x3 (!t115) x112000 x112001)) else (spec_RegisterOk.j2 k x3 true x112000 x112001))) else (none)) else (spec_RegisterOk.l3 k 0 x112000 x112001)
def spec_RegisterOk.j2 : Nat → Int → Bool → List (S304) → List (S230) → Option (Bool)
  | 0, _, _, _, _ => none
  | k + 1, x3, x44, x112000, x112001 => if x44 = true then (some false) else (spec_RegisterOk.l1 k x3 0 x112000 x112001)
def spec_RegisterOk.l1 : Nat → Int → Int → List (S304) → List (S230) → Option (Bool)
  | 0, _, _, _, _ => none
  | k + 1, x3, x4, x112000, x112001 => if x4 < x3 then (if 0 ≤ x4 then (if x4 < (x112000.length : Int) then (if 0 ≤ x3 then (if x3 < (x112000.length : Int) then (if ((rd_T304 x112000 x4).f0).toList = ((rd_T304 x112000 x3).f0).toList then (some false) else (spec_RegisterOk.l1 k x3 (wrap64 (x4 + 1)) x112000 x112001)) else (none)) else (none)) else (none)) else (none)) else (spec_RegisterOk.l2 k x3 0 0 0 x112000 x112001)
def spec_RegisterOk.l2 : Nat → Int → Int → Int → Int → List (S304) → List (S230) → Option (Bool)
  | 0, _, _, _, _, _, _ => none
  | k + 1, x3, x5, x6, x7, x112000, x112001 => if x7 < (x112001.length : Int) then (if 0 ≤ x7 then (if ((rd_T230 x112001 x7).f0) = x3 then (if ((rd_T230 x112001 x7).f1) = (wrap64 (x5 + 1)) then (if ((rd_T230 x112001 x7).f2) < x6 then (some false) else ((spec_l1Text.f k (wrap64 (x5 + 1))).bind fun t120 => (if 0 ≤ x3 then (if x3 < (x112000.length : Int) then (if (t120.size : Int) > ((rd_T304 x112000 x3).f1) then (some false) else (spec_RegisterOk.l2 k x3 (wrap64 (x5 + 1)) ((rd_T230 x112001 x7).f2) (wrap64 (x7 + 1)) x112000 x112001)) else (none)) else (none)))) else (some false)) else (spec_RegisterOk.l2 k x3 x5 x6 (wrap64 (x7 + 1)) x112000 x112001)) else (none)) else (spec_RegisterOk.l0 k (wrap64 (x3 + 1)) x112000 x112001)
def spec_RegisterOk.l3 : Nat → Int → List (S304) → List (S230) → Option (Bool)
  | 0, _, _, _ => none
  | k + 1, x9, x112000, x112001 => if x9 < (x112001.length : Int) then (if 0 ≤ x9 then ((spec_l1In.f ((rd_T230 x112001 x9).f0) 0 (wrap64 ((x112000.length : Int) - 1))).bind fun t123 => (if t123 = true then ((spec_l2Day.f ((rd_T230 x112001 x9).f2)).bind fun t125 => (if t125 = true then (spec_RegisterOk.l3 k (wrap64 (x9 + 1)) x112000 x112001) else (some false))) else (some false))) else (none)) else (some true)
end
def spec_RegisterOk.f (k : Nat) (l0_0 : List (S304)) (l0_1 : List (S230)) : Option (Bool) := if (l0_0.length : Int) > 20 then (spec_RegisterOk.j0 k true l0_0 l0_1) else (spec_RegisterOk.j0 k (decide ((l0_1.length : Int) > 400)) l0_0 l0_1)
theorem spec_RegisterOk.mono_l : ∀ k, (∀ y0 y1 y2, LeO (spec_RegisterOk.j0 k y0 y1 y2) (spec_RegisterOk.j0 (k + 1) y0 y1 y2)) ∧ (∀ y0 y1 y2, LeO (spec_RegisterOk.l0 k y0 y1 y2) (spec_RegisterOk.l0 (k + 1) y0 y1 y2)) ∧ (∀ y0 y1 y2 y3, LeO (spec_RegisterOk.j2 k y0 y1 y2 y3) (spec_RegisterOk.j2 (k + 1) y0 y1 y2 y3)) ∧ (∀ y0 y1 y2 y3, LeO (spec_RegisterOk.l1 k y0 y1 y2 y3) (spec_RegisterOk.l1 (k + 1) y0 y1 y2 y3)) ∧ (∀ y0 y1 y2 y3 y4 y5, LeO (spec_RegisterOk.l2 k y0 y1 y2 y3 y4 y5) (spec_RegisterOk.l2 (k + 1) y0 y1 y2 y3 y4 y5)) ∧ (∀ y0 y1 y2, LeO (spec_RegisterOk.l3 k y0 y1 y2) (spec_RegisterOk.l3 (k + 1) y0 y1 y2))
  | 0 => ⟨fun _ _ _ r h => by simp [spec_RegisterOk.j0] at h, fun _ _ _ r h => by simp [spec_RegisterOk.l0] at h, fun _ _ _ _ r h => by simp [spec_RegisterOk.j2] at h, fun _ _ _ _ r h => by simp [spec_RegisterOk.l1] at h, fun _ _ _ _ _ _ r h => by simp [spec_RegisterOk.l2] at h, fun _ _ _ r h => by simp [spec_RegisterOk.l3] at h⟩
  | k + 1 => by
    obtain ⟨ih0, ih1, ih2, ih3, ih4, ih5⟩ := spec_RegisterOk.mono_l k
    refine ⟨?_, ?_, ?_, ?_, ?_, ?_⟩
    · intro y0 y1 y2
      unfold spec_RegisterOk.j0
      repeat' first
      | (with_reducible exact ih0 _ _ _)
      | (with_reducible exact ih1 _ _ _)
      | (with_reducible exact ih2 _ _ _ _)
      | (with_reducible exact ih3 _ _ _ _)
      | (with_reducible exact ih4 _ _ _ _ _ _)
      | (with_reducible exact ih5 _ _ _)
      | (with_reducible exact spec_NameOk.mono _ _)
      | (with_reducible exact spec_l1Text.mono _ _)
      | (with_reducible exact LeO.refl _)
      | (with_reducible exact LeO.none _)
      | (with_reducible refine LeO.ite ?_ ?_)
      | (with_reducible refine LeO.bind ?_ (fun _ => ?_))
      | exact ih0 _ _ _
      | exact ih1 _ _ _
      | exact ih2 _ _ _ _
      | exact ih3 _ _ _ _
      | exact ih4 _ _ _ _ _ _
      | exact ih5 _ _ _
      | exact spec_NameOk.mono _ _
      | exact spec_l1Text.mono _ _
      | exact LeO.none _
      | refine LeO.ite ?_ ?_
      | refine LeO.bind ?_ (fun _ => ?_)
    · intro y0 y1 y2
      unfold spec_RegisterOk.l0
      repeat' first
      | (with_reducible exact ih0 _ _ _)
      | (with_reducible exact ih1 _ _ _)
      | (with_reducible exact ih2 _ _ _ _)
      | (with_reducible exact ih3 _ _ _ _)
      | (with_reducible exact ih4 _ _ _ _ _ _)
      | (with_reducible exact ih5 _ _ _)
      | (with_reducible exact spec_NameOk.mono _ _)
      | (with_reducible exact spec_l1Text.mono _ _)
      | (with_reducible exact LeO.refl _)
      | (with_reducible exact LeO.none _)
      | (with_reducible refine LeO.ite ?_ ?_)
      | (with_reducible refine LeO.bind ?_ (fun _ => ?_))
      | exact ih0 _ _ _
      | exact ih1 _ _ _
      | exact ih2 _ _ _ _
      | exact ih3 _ _ _ _
      | exact ih4 _ _ _ _ _ _
      | exact ih5 _ _ _
      | exact spec_NameOk.mono _ _
      | exact spec_l1Text.mono _ _
      | exact LeO.none _
      | refine LeO.ite ?_ ?_
      | refine LeO.bind ?_ (fun _ => ?_)
    · intro y0 y1 y2 y3
      unfold spec_RegisterOk.j2
      repeat' first
      | (with_reducible exact ih0 _ _ _)
      | (with_reducible exact ih1 _ _ _)
      | (with_reducible exact ih2 _ _ _ _)
      | (with_reducible exact ih3 _ _ _ _)
      | (with_reducible exact ih4 _ _ _ _ _ _)
      | (with_reducible exact ih5 _ _ _)
      | (with_reducible exact spec_NameOk.mono _ _)
      | (with_reducible exact spec_l1Text.mono _ _)
      | (with_reducible exact LeO.refl _)
      | (with_reducible exact LeO.none _)
      | (with_reducible refine LeO.ite ?_ ?_)
      | (with_reducible refine LeO.bind ?_ (fun _ => ?_))
      | exact ih0 _ _ _
      | exact ih1 _ _ _
      | exact ih2 _ _ _ _
      | exact ih3 _ _ _ _
      | exact ih4 _ _ _ _ _ _
      | exact ih5 _ _ _
      | exact spec_NameOk.mono _ _
      | exact spec_l1Text.mono _ _
      | exact LeO.none _
      | refine LeO.ite ?_ ?_
      | refine LeO.bind ?_ (fun _ => ?_)
    · intro y0 y1 y2 y3
      unfold spec_RegisterOk.l1
      repeat' first
      | (with_reducible exact ih0 _ _ _)
      | (with_reducible exact ih1 _ _ _)
      | (with_reducible exact ih2 _ _ _ _)
      | (with_reducible exact ih3 _ _ _ _)
      | (with_reducible exact ih4 _ _ _ _ _ _)
      | (with_reducible exact ih5 _ _ _)
      | (with_reducible exact spec_NameOk.mono _ _)
      | (with_reducible exact spec_l1Text.mono _ _)
      | (with_reducible exact LeO.refl _)
      | (with_reducible exact LeO.none _)
      | (with_reducible refine LeO.ite ?_ ?_)
      | (with_reducible refine LeO.bind ?_ (fun _ => ?_))
      | exact ih0 _ _ _
      | exact ih1 _ _ _
      | exact ih2 _ _ _ _
      | exact ih3 _ _ _ _
      | exact ih4 _ _ _ _ _ _
      | exact ih5 _ _ _
      | exact spec_NameOk.mono _ _
      | exact spec_l1Text.mono _ _
      | exact LeO.none _
      | refine LeO.ite ?_ ?_
      | refine LeO.bind ?_ (fun _ => ?_)
    · intro y0 y1 y2 y3 y4 y5
      unfold spec_RegisterOk.l2
      repeat' first
      | (with_reducible exact ih0 _ _ _)
      | (with_reducible exact ih1 _ _ _)
      | (with_reducible exact ih2 _ _ _ _)
      | (with_reducible exact ih3 _ _ _ _)
      | (with_reducible exact ih4 _ _ _ _ _ _)
      | (with_reducible exact ih5 _ _ _)
      | (with_reducible exact spec_NameOk.mono _ _)
      | (with_reducible exact spec_l1Text.mono _ _)
      | (with_reducible exact LeO.refl _)
      | (with_reducible exact LeO.none _)
      | (with_reducible refine LeO.ite ?_ ?_)
      | (with_reducible refine LeO.bind ?_ (fun _ => ?_))
      | exact ih0 _ _ _
      | exact ih1 _ _ _
      | exact ih2 _ _ _ _
      | exact ih3 _ _ _ _
      | exact ih4 _ _ _ _ _ _
      | exact ih5 _ _ _
      | exact spec_NameOk.mono _ _
      | exact spec_l1Text.mono _ _
      | exact LeO.none _
      | refine LeO.ite ?_ ?_
      | refine LeO.bind ?_ (fun _ => ?_)
    · intro y0 y1 y2
      unfold spec_RegisterOk.l3
      repeat' first
      | (with_reducible exact ih0 _ _ _)
      | (with_reducible exact ih1 _ _ _)
      | (with_reducible exact ih2 _ _ _ _)
      | (with_reducible exact ih3 _ _ _ _)
      | (with_reducible exact ih4 _ _ _ _ _ _)
      | (with_reducible exact ih5 _ _ _)
      | (with_reducible exact spec_NameOk.mono _ _)
      | (with_reducible exact spec_l1Text.mono _ _)
      | (with_reducible exact LeO.refl _)
      | (with_reducible exact LeO.none _)
      | (with_reducible refine LeO.ite ?_ ?_)
      | (with_reducible refine LeO.bind ?_ (fun _ => ?_))
      | exact ih0 _ _ _
      | exact ih1 _ _ _
      | exact ih2 _ _ _ _
      | exact ih3 _ _ _ _
      | exact ih4 _ _ _ _ _ _
      | exact ih5 _ _ _
      | exact spec_NameOk.mono _ _
      | exact spec_l1Text.mono _ _
      | exact LeO.none _
      | refine LeO.ite ?_ ?_
      | refine LeO.bind ?_ (fun _ => ?_)
theorem spec_RegisterOk.mono : ∀ a0 a1 k, LeO (spec_RegisterOk.f k a0 a1) (spec_RegisterOk.f (k + 1) a0 a1) := by
 intro a0 a1 k
 obtain ⟨ih0, ih1, ih2, ih3, ih4, ih5⟩ := spec_RegisterOk.mono_l k
 unfold spec_RegisterOk.f
 repeat' first
     | (with_reducible exact ih0 _ _ _)
     | (with_reducible exact ih1 _ _ _)
     | (with_reducible exact ih2 _ _ _ _)
     | (with_reducible exact ih3 _ _ _ _)
     | (with_reducible exact ih4 _ _ _ _ _ _)
     | (with_reducible exact ih5 _ _ _)
     | (with_reducible exact spec_NameOk.mono _ _)
     | (with_reducible exact spec_l1Text.mono _ _)
     | (with_reducible exact LeO.refl _)
     | (with_reducible exact LeO.none _)
     | (with_reducible refine LeO.ite ?_ ?_)
     | (with_reducible refine LeO.bind ?_ (fun _ => ?_))
     | exact ih0 _ _ _
     | exact ih1 _ _ _
     | exact ih2 _ _ _ _
     | exact ih3 _ _ _ _
     | exact ih4 _ _ _ _ _ _
     | exact ih5 _ _ _
     | exact spec_NameOk.mono _ _
     | exact spec_l1Text.mono _ _
     | exact LeO.none _
     | refine LeO.ite ?_ ?_
     | refine LeO.bind ?_ (fun _ => ?_)
def spec_RegisterOk.T11 : Bool × List (List Nat × List Nat) := (true, [([], []), ([0], [0]), ([], []), ([1, 2], [1, 2]), ([3], [3]), ([4], [4]), ([], []), ([6], [6]), ([], []), ([7, 8], [7, 8]), ([9], [9]), ([10], [10]), ([5, 11], [5, 11])])
def spec_RegisterOk.B11 : List Nat := [0, 1, 0, 7, 15, 31, 0, 64, 0, 448, 960, 1984, 4095]
theorem spec_RegisterOk.tab11 : rtab .any (opsOf Try.f148 11) = spec_RegisterOk.T11 := by kernel_rfl
theorem spec_RegisterOk.bits11 : waitsOk spec_RegisterOk.T11.2 spec_RegisterOk.B11 = true := by kernel_rfl
def spec_RegisterOk.T21 : Bool × List (List Nat × List Nat) := (true, [([], []), ([0], [0]), ([], []), ([1, 2], [1, 2]), ([3], [3]), ([4], [4]), ([5, 4], [4, 5]), ([4], [4]), ([6, 7, 4], [4, 6, 7]), ([4, 8], [4, 8]), ([9, 4], [9]), ([10], [10]), ([11, 10, 10], [10, 11]), ([12, 10], [10, 12]), ([10], [10]), ([14, 10], [10, 14]), ([10], [10]), ([15, 16, 10], [10, 15, 16]), ([17, 10], [10, 17]), ([18, 10], [10, 18]), ([13, 19, 10], [10, 13, 19]), ([10, 20], [10, 20])])
def spec_RegisterOk.B21 : List Nat := [0, 1, 0, 7, 15, 31, 63, 31, 255, 511, 1023, 2047, 4095, 8191, 2047, 18431, 2047, 116735, 247807, 509951, 1048575, 2097151]
theorem spec_RegisterOk.tab21 : rtab .any (opsOf Try.f148 21) = spec_RegisterOk.T21 := by kernel_rfl
theorem spec_RegisterOk.bits21 : waitsOk spec_RegisterOk.T21.2 spec_RegisterOk.B21 = true := by kernel_rfl
def spec_RegisterOk.T27 : Bool × List (List Nat × List Nat) := (true, [([], []), ([0], [0]), ([], []), ([1, 2], [1, 2]), ([3], [3]), ([4], [4]), ([], []), ([6], [6]), ([7], [7]), ([8], [8]), ([5, 9], [5, 9]), ([10], [10]), ([11, 10], [11]), ([12], [12]), ([13, 12], [12, 13]), ([12], [12]), ([14, 15, 12], [12, 14, 15]), ([16, 12], [12, 16]), ([17, 12], [12, 17]), ([18, 12, 12], [12, 18]), ([19, 12], [12, 19]), ([12, 20], [12, 20])])
def spec_RegisterOk.B27 : List Nat := [0, 1, 0, 7, 15, 31, 0, 64, 192, 448, 1023, 2047, 4095, 8191, 16383, 8191, 65535, 131071, 262143, 524287, 1048575, 2097151]
theorem spec_RegisterOk.tab27 : rtab .any (opsOf Try.f148 27) = spec_RegisterOk.T27 := by kernel_rfl
theorem spec_RegisterOk.bits27 : waitsOk spec_RegisterOk.T27.2 spec_RegisterOk.B27 = true := by kernel_rfl
set_option maxHeartbeats 8000000 in
set_option maxRecDepth 100000 in
theorem spec_RegisterOk.calls (k : Nat) (A0_0 : Option Addr) (c0_0 : Nat) (l0_0 : List (S304)) (A0_1 : Option Addr) (c0_1 : Nat) (l0_1 : List (S230)) (r : Bool) (w : World) (hr0_0 : Kd.C k304 w A0_0 l0_0.length l0_0) (hc0_0 : l0_0.length ≤ c0_0) (hr0_1 : Kd.C k230 w A0_1 l0_1.length l0_1) (hc0_1 : l0_1.length ≤ c0_1) (h : spec_RegisterOk.f k l0_0 l0_1 = some r) :
    Calls Try.prog 148 #[.agg #[.slice A0_0 l0_0.length c0_0, .slice A0_1 l0_1.length c0_1]] w fun e w' => e = .returned (.bool r) ∧ Below w.heap.size w w' := by
 have hu86 := Try.underlying86
 have hu230 := Try.underlying230
 have HR0_0 := Aside0.mk hr0_0
 have HC0_0 := Aside0.mk hc0_0
 clear hr0_0 hc0_0
 have HR0_1 := Aside0.mk hr0_1
 have HC0_1 := Aside0.mk hc0_1
 clear hr0_1 hc0_1
 have HB := aZ (Below.refl w.heap.size w)
 have H : (if (l0_0.length : Int) > 20 then (spec_RegisterOk.j0 k true l0_0 l0_1) else (spec_RegisterOk.j0 k (decide ((l0_1.length : Int) > 400)) l0_0 l0_1)) = some r := h
 clear h
 have HC2 := Aside0.mk H
 clear H
 go_enter Try.func148, Try.ntmps148
 go_upto_region 1 with (first | ((with_reducible refine gate_dst (N := 1) rfl ?_); (try (refine gate_guard (by rfl) ?_; dsimp only)); refine box_event ?hg (N := 1) ?hd (cs := #[.slice A0_0 l0_0.length c0_0, .slice A0_1 l0_1.length c0_1]) (t := 86) ?hr ?_; (case hd => rfl); (case hg => rfl); (case hr => first | (go_simp; done) | (go_simp; rfl)); intro gb111 hg w3 hbox hb; have BK111 := aZ (hbox); have GW111 := aZ ((by rw [hg]; exact (below_size (lZB HB.out)) : w.heap.size ≤ gb111)); have GE111 := aZ ((by rw [hg]; exact (below_size (lZB HB.out)) : w.heap.size ≤ gb111)); replace HB := aZ (below_step (lZB HB.out) hb); clear hb hbox hg))
 (try simp only [Act.put, sZ1, sZ2, sZ3])
 go_cut [19] (fun v19 wc => ∃ (kq : Nat) (x19_1 : Bool), v19 = .bool x19_1 ∧ Aside0 (spec_RegisterOk.j0 kq x19_1 l0_0 l0_1 = some r) ∧ Aside0 (kq ≤ k) ∧ Aside0 (wc.heap[gb111]? = some (.cells #[(.slice A0_0 l0_0.length c0_0), (.slice A0_1 l0_1.length c0_1)] 86 (0, 0))) ∧ Aside0 (Below w.heap.size w wc))
 case first =>
  have H := HC2.out
  clear HC2
  by_cases c4 : (l0_0.length : Int) > 20
  ·rw [if_pos c4] at H
   have c4b0 : decide (20 < (l0_0.length : Int)) = true := decide_eq_true c4
   have c4b1 : decide (20 < l0_0.length) = true := decide_eq_true (by omega)
   clear c4
   (first | rw [c4b0] | (simp only [i64_w, i32_w]; rw [c4b0]) | skip)
   have H' := Aside0.mk H
   clear H
   have hcz5_0 : w3.cell? ⟨gb111, 0, none⟩ = some (.slice A0_0 l0_0.length c0_0) := (blk_cell BK111.out 0).trans rfl
   have hcz5_1 : w3.cell? ⟨gb111, 1, none⟩ = some (.slice A0_1 l0_1.length c0_1) := (blk_cell BK111.out 1).trans rfl
   have hfz5_0 := blk_frozen BK111.out 0
   have hfz5_1 := blk_frozen BK111.out 1
   go_wp2
   go_meet
   case rel => exact ⟨_, (true), tZB, H', ⟨by first | omega | exact Nat.le_refl _⟩, ⟨bkZ BK111.out⟩, ⟨bZ⟩⟩
  rw [if_neg c4] at H
  have c4b0 : decide (20 < (l0_0.length : Int)) = false := decide_eq_false c4
  have c4b1 : decide (20 < l0_0.length) = false := decide_eq_false (by omega)
  clear c4
  (first | rw [c4b0] | (simp only [i64_w, i32_w]; rw [c4b0]) | skip)
  have H' := Aside0.mk H
  clear H
  have hcz6_0 : w3.cell? ⟨gb111, 0, none⟩ = some (.slice A0_0 l0_0.length c0_0) := (blk_cell BK111.out 0).trans rfl
  have hcz6_1 : w3.cell? ⟨gb111, 1, none⟩ = some (.slice A0_1 l0_1.length c0_1) := (blk_cell BK111.out 1).trans rfl
  have hfz6_0 := blk_frozen BK111.out 0
  have hfz6_1 := blk_frozen BK111.out 1
  go_wp2
  go_meet
  case rel => exact ⟨_, (decide ((l0_1.length : Int) > 400)), tZB, H', ⟨by first | omega | exact Nat.le_refl _⟩, ⟨bkZ BK111.out⟩, ⟨bZ⟩⟩
 case rest =>
  clear HC2
  try clear c1
  try clear p2
  try clear c4
  try clear c4b0
  try clear c4b1
  try clear hcz5_0
  try clear hcz5_1
  try clear hcz6_0
  try clear hcz6_1
  try clear hfz5_0
  try clear hfz5_1
  try clear hfz6_0
  try clear hfz6_1
  obtain ⟨kq, x19_1, rfl, HA, HJ1, BK111, HB⟩ := hcut
  cases kq with
  | zero => exact absurd HA.out (by simp [spec_RegisterOk.j0])
  | succ kj1 =>
   have H := HA.out
   clear HA
   simp only [spec_RegisterOk.j0] at H
   by_cases c7 : x19_1 = true
   ·subst c7
    have H1 : (some false) = some r := by rw [if_pos rfl] at H; exact H
    clear H
    have H := H1
    clear H1
    obtain rfl := Option.some.inj H
    go_wp2
    go_ret
    exact ⟨tZC, bZ⟩
   replace c7 := Bool.eq_false_iff.mpr c7
   subst c7
   have H1 : (spec_RegisterOk.l0 kj1 0 l0_0 l0_1) = some r := by rw [if_neg (show ¬ (false = true) by decide)] at H; exact H
   clear H
   have H := H1
   clear H1
   have H' := Aside0.mk H
   clear H
   go_wp2
   go_loopg [3] kj1 (fun kq v3 w' => ∃ (x3_2 : Int), v3 = .int .i64 x3_2 ∧ Aside0 (spec_RegisterOk.l0 kq x3_2 l0_0 l0_1 = some r) ∧ Aside0 (kq ≤ kj1) ∧ Aside0 (w'.heap[gb111]? = some (.cells #[(.slice A0_0 l0_0.length c0_0), (.slice A0_1 l0_1.length c0_1)] 86 (0, 0))) ∧ Aside0 (Below w.heap.size w w'))
   case atStart => exact ⟨(0), tZB, H', ⟨Nat.le_refl _⟩, ⟨bkZ BK111.out⟩, ⟨bZ⟩⟩
   case round =>
    clear H'
    try clear c1
    try clear p2
    try clear c4
    try clear c4b0
    try clear c4b1
    try clear c7
    try clear hcz5_0
    try clear hcz5_1
    try clear hcz6_0
    try clear hcz6_1
    try clear hfz5_0
    try clear hfz5_1
    try clear hfz6_0
    try clear hfz6_1
    try clear p2
    obtain ⟨x3_2, rfl, HA, HK2, BK111, HB⟩ := hrel
    cases gk with
    | zero => exact absurd HA.out (by simp [spec_RegisterOk.l0])
    | succ k2 =>
     have H := HA.out
     clear HA
     simp only [spec_RegisterOk.l0] at H
     by_cases c8 : x3_2 < (l0_0.length : Int)
     rotate_left
     ·rw [if_neg c8] at H
      have c8b0 := decide_eq_false c8
      clear c8
      have H' := Aside0.mk H
      clear H
      have hcz67_0 : wr.cell? ⟨gb111, 0, none⟩ = some (.slice A0_0 l0_0.length c0_0) := (blk_cell BK111.out 0).trans rfl
      have hcz67_1 : wr.cell? ⟨gb111, 1, none⟩ = some (.slice A0_1 l0_1.length c0_1) := (blk_cell BK111.out 1).trans rfl
      have hfz67_0 := blk_frozen BK111.out 0
      have hfz67_1 := blk_frozen BK111.out 1
      go_wp2
      go_loopg [9] k2 (fun kq v9 w' => ∃ (x9_3 : Int), v9 = .int .i64 x9_3 ∧ Aside0 (spec_RegisterOk.l3 kq x9_3 l0_0 l0_1 = some r) ∧ Aside0 (kq ≤ k2) ∧ Aside0 (w'.heap[gb111]? = some (.cells #[(.slice A0_0 l0_0.length c0_0), (.slice A0_1 l0_1.length c0_1)] 86 (0, 0))) ∧ Aside0 (Below w.heap.size w w'))
      case atStart => exact ⟨(0), tZB, H', ⟨Nat.le_refl _⟩, ⟨bkZ BK111.out⟩, ⟨bZ⟩⟩
      case round =>
       clear H'
       try clear p1
       try clear q1
       try clear hx1
       try clear c2
       try clear p2
       try clear c3
       try clear c4
       try clear c5
       try clear c6
       try clear p6
       try clear c8
       try clear c8b0
       try clear p11
       try clear q11
       try clear hx11
       try clear p12
       try clear q12
       try clear hx12
       try clear c22
       try clear c26
       try clear c26b0
       try clear c27
       try clear c28
       try clear c28b0
       try clear c28b1
       try clear c29
       try clear c29b0
       try clear c29b1
       try clear c38
       try clear c39
       try clear c40
       try clear c40b0
       try clear c50
       try clear c58
       try clear c64
       try clear p64
       try clear hcz48_0
       try clear hcz48_1
       try clear hcz51_0
       try clear hcz51_1
       try clear hcz51_2
       try clear hcz51_3
       try clear hcz55_0
       try clear hcz55_1
       try clear hcz55_2
       try clear hcz55_3
       try clear hcz56_0
       try clear hcz56_1
       try clear hcz59_0
       try clear hcz59_1
       try clear hcz59_2
       try clear hcz59_3
       try clear hcz62_0
       try clear hcz62_1
       try clear hcz65_0
       try clear hcz65_1
       try clear hcz65_2
       try clear hcz65_3
       try clear hcz66_0
       try clear hcz66_1
       try clear hcz67_0
       try clear hcz67_1
       try clear hfz48_0
       try clear hfz48_1
       try clear hfz51_0
       try clear hfz51_1
       try clear hfz51_2
       try clear hfz51_3
       try clear hfz55_0
       try clear hfz55_1
       try clear hfz55_2
       try clear hfz55_3
       try clear hfz56_0
       try clear hfz56_1
       try clear hfz59_0
       try clear hfz59_1
       try clear hfz59_2
       try clear hfz59_3
       try clear hfz62_0
       try clear hfz62_1
       try clear hfz65_0
       try clear hfz65_1
       try clear hfz65_2
       try clear hfz65_3
       try clear hfz66_0
       try clear hfz66_1
       try clear hfz67_0
       try clear hfz67_1
       try clear hx118_0
       try clear hx118_1
       try clear hx118_2
       try clear hx118_3
       try clear hx121_0
       try clear hx121_1
       try clear p118
       try clear p121
       try clear q118
       try clear q121
       obtain ⟨x9_3, rfl, HA, HK3, BK111, HB⟩ := hrel
       cases gk with
       | zero => exact absurd HA.out (by simp [spec_RegisterOk.l3])
       | succ k3 =>
        have H := HA.out
        clear HA
        simp only [spec_RegisterOk.l3] at H
        by_cases c68 : x9_3 < (l0_1.length : Int)
        rotate_left
        ·rw [if_neg c68] at H
         have c68b0 := decide_eq_false c68
         clear c68
         obtain rfl := Option.some.inj H
         have hcz80_0 : wr.cell? ⟨gb111, 0, none⟩ = some (.slice A0_0 l0_0.length c0_0) := (blk_cell BK111.out 0).trans rfl
         have hcz80_1 : wr.cell? ⟨gb111, 1, none⟩ = some (.slice A0_1 l0_1.length c0_1) := (blk_cell BK111.out 1).trans rfl
         have hfz80_0 := blk_frozen BK111.out 0
         have hfz80_1 := blk_frozen BK111.out 1
         go_wp2
         go_ret
         exact ⟨tZC, bZ⟩
        rw [if_pos c68] at H
        have c68b0 := decide_eq_true c68
        clear c68
        by_cases c69 : 0 ≤ x9_3
        rotate_left
        ·rw [if_neg c69] at H
         exact absurd H (by simp)
        rw [if_pos c69] at H
        have c69b0 := decide_eq_true c69
        clear c69
        replace H := Option.bind_eq_some_iff.mp H
        obtain ⟨t123, A700, H⟩ := H
        replace H : (if t123 = true then ((spec_l2Day.f ((rd_T230 l0_1 x9_3).f2)).bind fun t125 => (if t125 = true then (spec_RegisterOk.l3 k3 (wrap64 (x9_3 + 1)) l0_0 l0_1) else (some false))) else (some false)) = some r := H
        have A70 := Aside0.mk A700
        clear A700
        by_cases c71 : t123 = true
        rotate_left
        ·replace c71 := Bool.eq_false_iff.mpr c71
         subst c71
         have H1 : (some false) = some r := by rw [if_neg (show ¬ (false = true) by decide)] at H; exact H
         clear H
         have H := H1
         clear H1
         obtain rfl := Option.some.inj H
         have hcz78_0 : wr.cell? ⟨gb111, 0, none⟩ = some (.slice A0_0 l0_0.length c0_0) := (blk_cell BK111.out 0).trans rfl
         have hcz78_1 : wr.cell? ⟨gb111, 1, none⟩ = some (.slice A0_1 l0_1.length c0_1) := (blk_cell BK111.out 1).trans rfl
         have hfz78_0 := blk_frozen BK111.out 0
         have hfz78_1 := blk_frozen BK111.out 1
         try go_wp2
         replace BK111 := aZ (blk_drew BK111.out)
         replace HB := aZ (below_drew1 HB.out)
         have p122 : 0 ≤ (x9_3 : Int) := of_decide_eq_true tZE
         have q122 : x9_3 < (l0_1.length : Int) := of_decide_eq_true tZE
         obtain ⟨ad122, e122, hx122_0, hx122_1, hx122_2, hx122_3⟩ := at_T230 HR0_1.out x9_3 p122 q122
         have hw122_3 := hx122_3
         have hw122_2 := hx122_2
         have hw122_1 := hx122_1
         have hw122_0 := hx122_0
         cases e122
         replace hx122_0 := cZ HB hx122_0
         replace hx122_1 := cZ HB hx122_1
         replace hx122_2 := cZ HB hx122_2
         replace hx122_3 := cZ HB hx122_3
         replace p122 := eq_true p122
         replace q122 := eq_true q122
         refine start_ (n := 22) (S := fun w' => w'.cell? ⟨gb111, 0, none⟩ = some (.slice A0_0 l0_0.length c0_0) ∧ w'.cell? ⟨gb111, 1, none⟩ = some (.slice (some ad122) l0_1.length c0_1) ∧ w'.cell? (ad122.add ((x9_3).toNat * 4)) = some (.int .i64 ((rd_T230 l0_1 x9_3).f0)) ∧ w'.cell? ⟨(ad122.add ((x9_3).toNat * 4)).block, (ad122.add ((x9_3).toNat * 4)).off + 1, none⟩ = some (.int .i64 ((rd_T230 l0_1 x9_3).f1)) ∧ w'.cell? ⟨(ad122.add ((x9_3).toNat * 4)).block, (ad122.add ((x9_3).toNat * 4)).off + 2, none⟩ = some (.int .i64 ((rd_T230 l0_1 x9_3).f2)) ∧ w'.cell? ⟨(ad122.add ((x9_3).toNat * 4)).block, (ad122.add ((x9_3).toNat * 4)).off + 3, none⟩ = some (.bool ((rd_T230 l0_1 x9_3).f3))) (ds := []) L0' kZ rfl rfl ⟨(blk_cell BK111.out 0).trans rfl, (blk_cell BK111.out 1).trans rfl, ((HB.out.cell (World.block_lt_of_cell? w _ hw122_0)).trans hw122_0), ((HB.out.cell (World.block_lt_of_cell? w _ hw122_1)).trans hw122_1), ((HB.out.cell (World.block_lt_of_cell? w _ hw122_2)).trans hw122_2), ((HB.out.cell (World.block_lt_of_cell? w _ hw122_3)).trans hw122_3)⟩ (fun hHeld => ?_); refine with_tabW spec_RegisterOk.tab27 spec_RegisterOk.bits27 (fun HT_ HW_ => ?_)
         generalize wr.drew = w79 at BK111 HB hx122_0 hx122_1 hx122_2 hx122_3 hHeld ⊢
         refine pure_ (i := 0) (N := some 112) (v := ?_) (a' := ?_) L1' rfl rfl (any_of HT_.out kZ) (fun _ _ _ h => h) (Or.inl ⟨by rfl, ?_⟩) ?_ ?_
         rotate_left
         ·intro w'
          go_simp
          with_reducible rfl
         rotate_left
         ·simp only [Act.put, sZ1, sZ2, sZ3, i64_w, i32_w]
          rfl
         refine pure_ (i := 2) (N := some 114) (v := ?_) (a' := ?_) L2' rfl rfl (any_of HT_.out kZ) (fun _ _ _ h => h) (Or.inl ⟨by rfl, ?_⟩) ?_ ?_
         rotate_left
         ·intro w'
          go_simp
          with_reducible rfl
         rotate_left
         ·simp only [Act.put, sZ1, sZ2, sZ3, i64_w, i32_w]
          rfl
         refine pure_ (i := 6) (N := some 118) (v := ?_) (a' := ?_) L3' rfl rfl (any_of HT_.out kZ) (fun _ _ _ h => h) (Or.inl ⟨by rfl, ?_⟩) ?_ ?_
         rotate_left
         ·intro w'
          go_simp
          with_reducible rfl
         rotate_left
         ·simp only [Act.put, sZ1, sZ2, sZ3, i64_w, i32_w]
          rfl
         refine take_ (i := 1) (N := some 113) (v := ?_) (a' := ?_) L4' rfl rfl (take_ofW HT_.out HW_.out kZ) (fun _ _ _ h => h) (Or.inl ⟨by rfl, ?_⟩) hHeld ?_ ?_
         rotate_left
         ·rintro w' ⟨s0, s1, s2, s3, s4, s5⟩
          go_simp
          with_reducible rfl
         rotate_left
         ·simp only [Act.put, sZ1, sZ2, sZ3, i64_w, i32_w]
          rfl
         refine pure_ (i := 3) (N := some 115) (v := ?_) (a' := ?_) L5' rfl rfl (any_of HT_.out kZ) (fun _ _ _ h => h) (Or.inl ⟨by rfl, ?_⟩) ?_ ?_
         rotate_left
         ·intro w'
          go_simp
          with_reducible rfl
         rotate_left
         ·simp only [Act.put, sZ1, sZ2, sZ3, i64_w, i32_w]
          rfl
         refine pure_ (i := 4) (N := some 116) (v := ?_) (a' := ?_) L6' rfl rfl (any_of HT_.out kZ) (fun _ _ _ h => h) (Or.inl ⟨by rfl, ?_⟩) ?_ ?_
         rotate_left
         ·intro w'
          go_simp
          with_reducible rfl
         rotate_left
         ·simp only [Act.put, sZ1, sZ2, sZ3, i64_w, i32_w]
          rfl
         refine take_ (i := 5) (N := some 117) (v := ?_) (a' := ?_) L7' rfl rfl (take_ofW HT_.out HW_.out kZ) (fun _ _ _ h => h) (Or.inl ⟨by rfl, ?_⟩) hHeld ?_ ?_
         rotate_left
         ·rintro w' ⟨s0, s1, s2, s3, s4, s5⟩
          go_simp
          with_reducible rfl
         rotate_left
         ·simp only [Act.put, sZ1, sZ2, sZ3, i64_w, i32_w]
          rfl
         refine take_ (i := 7) (N := some 119) (v := ?_) (a' := ?_) L8' rfl rfl (take_ofW HT_.out HW_.out kZ) (fun _ _ _ h => h) (Or.inl ⟨by rfl, ?_⟩) hHeld ?_ ?_
         rotate_left
         ·rintro w' ⟨s0, s1, s2, s3, s4, s5⟩
          go_simp
          with_reducible rfl
         rotate_left
         ·simp only [Act.put, sZ1, sZ2, sZ3, i64_w, i32_w]
          rfl
         refine pure_ (i := 8) (N := some 120) (v := ?_) (a' := ?_) L9' rfl rfl (any_of HT_.out kZ) (fun _ _ _ h => h) (Or.inl ⟨by rfl, ?_⟩) ?_ ?_
         rotate_left
         ·intro w'
          go_simp
          with_reducible rfl
         rotate_left
         ·simp only [Act.put, sZ1, sZ2, sZ3, i64_w, i32_w]
          rfl
         refine pure_ (i := 9) (N := some 121) (v := ?_) (a' := ?_) L10' rfl rfl (any_of HT_.out kZ) (fun _ _ _ h => h) (Or.inl ⟨by rfl, ?_⟩) ?_ ?_
         rotate_left
         ·intro w'
          go_simp
          with_reducible rfl
         rotate_left
         ·simp only [Act.put, sZ1, sZ2, sZ3, i64_w, i32_w]
          rfl
         refine one_ (i := 10) (N := some 122) L11' rfl rfl (one_of HT_.out kZ) (by decide) (fun K hK => ?_)
         refine goes_ Try.func108 kZ rfl #[.int .i64 ((rd_T230 l0_1 x9_3).f0), .int .i64 0, .int .i64 (wrap64 ((l0_0.length : Int) - 1))] (by rfl) rfl rfl tZA ?_
         with_reducible refine (spec_l1In.calls ((rd_T230 l0_1 x9_3).f0) 0 (wrap64 ((l0_0.length : Int) - 1)) false _ A70.out).mono ?_
         rintro e w' ⟨rfl, ⟨nd, rfl⟩⟩
         refine ⟨_, rfl, ?_⟩
         refine hK.out _ _ ⟨(blk_cell BK111.out 0).trans rfl, (blk_cell BK111.out 1).trans rfl, ((HB.out.cell (World.block_lt_of_cell? w _ hw122_0)).trans hw122_0), ((HB.out.cell (World.block_lt_of_cell? w _ hw122_1)).trans hw122_1), ((HB.out.cell (World.block_lt_of_cell? w _ hw122_2)).trans hw122_2), ((HB.out.cell (World.block_lt_of_cell? w _ hw122_3)).trans hw122_3)⟩ (fun hHeld => ?_)
         clear hK K
         refine norm_ (a' := ?_) ?_ ?_
         rotate_left
         ·show Act.put _ (some 122) _ = _
          simp only [Act.put, sZ1, sZ2, sZ3, i64_w, i32_w]
          rfl
         refine pure_ (i := 11) (N := some 123) (v := ?_) (a' := ?_) L12' rfl rfl (any_of HT_.out kZ) (fun _ _ _ h => h) (Or.inl ⟨by rfl, ?_⟩) ?_ ?_
         rotate_left
         ·intro w'
          go_simp
          with_reducible rfl
         rotate_left
         ·simp only [Act.put, sZ1, sZ2, sZ3, i64_w, i32_w]
          rfl
         refine pure_ (i := 12) (N := some 124) (v := ?_) (a' := ?_) L13' rfl rfl (any_of HT_.out kZ) (fun _ _ _ h => h) (Or.inl ⟨by rfl, ?_⟩) ?_ ?_
         rotate_left
         ·intro w'
          go_simp
          with_reducible rfl
         rotate_left
         ·simp only [Act.put, sZ1, sZ2, sZ3, i64_w, i32_w]
          rfl
         refine pure_ (i := 13) (N := some 125) (v := undef) (a' := ?_) L14' rfl rfl (any_of HT_.out kZ) (fun _ _ _ h => h) (Or.inr ⟨by rfl, rfl⟩) ?_ ?_
         rotate_left
         ·simp only [Act.put, sZ1, sZ2, sZ3, i64_w, i32_w]
          rfl
         refine pure_ (i := 14) (N := some 126) (v := undef) (a' := ?_) L15' rfl rfl (any_of HT_.out kZ) (fun _ _ _ h => h) (Or.inr ⟨by rfl, rfl⟩) ?_ ?_
         rotate_left
         ·simp only [Act.put, sZ1, sZ2, sZ3, i64_w, i32_w]
          rfl
         refine pure_ (i := 15) (N := some 127) (v := undef) (a' := ?_) L16' rfl rfl (any_of HT_.out kZ) (fun _ _ _ h => h) (Or.inr ⟨by rfl, rfl⟩) ?_ ?_
         rotate_left
         ·simp only [Act.put, sZ1, sZ2, sZ3, i64_w, i32_w]
          rfl
         refine pure_ (i := 16) (N := some 128) (v := undef) (a' := ?_) L17' rfl rfl (any_of HT_.out kZ) (fun _ _ _ h => h) (Or.inr ⟨by rfl, rfl⟩) ?_ ?_
         rotate_left
         ·simp only [Act.put, sZ1, sZ2, sZ3, i64_w, i32_w]
          rfl
         refine pure_ (i := 17) (N := some 129) (v := undef) (a' := ?_) L18' rfl rfl (any_of HT_.out kZ) (fun _ _ _ h => h) (Or.inr ⟨by rfl, rfl⟩) ?_ ?_
         rotate_left
         ·simp only [Act.put, sZ1, sZ2, sZ3, i64_w, i32_w]
          rfl
         refine pure_ (i := 18) (N := some 130) (v := undef) (a' := ?_) L19' rfl rfl (any_of HT_.out kZ) (fun _ _ _ h => h) (Or.inr ⟨by rfl, rfl⟩) ?_ ?_
         rotate_left
         ·simp only [Act.put, sZ1, sZ2, sZ3, i64_w, i32_w]
          rfl
         refine pure_ (i := 19) (N := some 131) (v := undef) (a' := ?_) L20' rfl rfl (any_of HT_.out kZ) (fun _ _ _ h => h) (Or.inr ⟨by rfl, rfl⟩) ?_ ?_
         rotate_left
         ·simp only [Act.put, sZ1, sZ2, sZ3, i64_w, i32_w]
          rfl
         refine pure_ (i := 20) (N := some 132) (v := undef) (a' := ?_) L21' rfl rfl (any_of HT_.out kZ) (fun _ _ _ h => h) (Or.inr ⟨by rfl, rfl⟩) ?_ ?_
         rotate_left
         ·simp only [Act.put, sZ1, sZ2, sZ3, i64_w, i32_w]
          rfl
         refine pure_ (i := 21) (N := some 133) (v := ?_) (a' := ?_) L22' rfl rfl (any_of HT_.out kZ) (fun _ _ _ h => h) (Or.inl ⟨by rfl, ?_⟩) ?_ ?_
         rotate_left
         ·intro w'
          go_simp
          with_reducible rfl
         rotate_left
         ·simp only [Act.put, sZ1, sZ2, sZ3, i64_w, i32_w]
          rfl
         refine done_ (done_of HT_.out kZ) ?_
         try go_wp2
         go_ret
         exact ⟨tZC, bZ⟩
        subst c71
        have H1 : ((spec_l2Day.f ((rd_T230 l0_1 x9_3).f2)).bind fun t125 => (if t125 = true then (spec_RegisterOk.l3 k3 (wrap64 (x9_3 + 1)) l0_0 l0_1) else (some false))) = some r := by rw [if_pos rfl] at H; exact H
        clear H
        have H := H1
        clear H1
        replace H := Option.bind_eq_some_iff.mp H
        obtain ⟨t125, A720, H⟩ := H
        replace H : (if t125 = true then (spec_RegisterOk.l3 k3 (wrap64 (x9_3 + 1)) l0_0 l0_1) else (some false)) = some r := H
        have A72 := Aside0.mk A720
        clear A720
        by_cases c73 : t125 = true
        rotate_left
        ·replace c73 := Bool.eq_false_iff.mpr c73
         subst c73
         have H1 : (some false) = some r := by rw [if_neg (show ¬ (false = true) by decide)] at H; exact H
         clear H
         have H := H1
         clear H1
         obtain rfl := Option.some.inj H
         have hcz76_0 : wr.cell? ⟨gb111, 0, none⟩ = some (.slice A0_0 l0_0.length c0_0) := (blk_cell BK111.out 0).trans rfl
         have hcz76_1 : wr.cell? ⟨gb111, 1, none⟩ = some (.slice A0_1 l0_1.length c0_1) := (blk_cell BK111.out 1).trans rfl
         have hfz76_0 := blk_frozen BK111.out 0
         have hfz76_1 := blk_frozen BK111.out 1
         try go_wp2
         replace BK111 := aZ (blk_drew BK111.out)
         replace HB := aZ (below_drew1 HB.out)
         have p122 : 0 ≤ (x9_3 : Int) := of_decide_eq_true tZE
         have q122 : x9_3 < (l0_1.length : Int) := of_decide_eq_true tZE
         obtain ⟨ad122, e122, hx122_0, hx122_1, hx122_2, hx122_3⟩ := at_T230 HR0_1.out x9_3 p122 q122
         have hw122_3 := hx122_3
         have hw122_2 := hx122_2
         have hw122_1 := hx122_1
         have hw122_0 := hx122_0
         cases e122
         replace hx122_0 := cZ HB hx122_0
         replace hx122_1 := cZ HB hx122_1
         replace hx122_2 := cZ HB hx122_2
         replace hx122_3 := cZ HB hx122_3
         replace p122 := eq_true p122
         replace q122 := eq_true q122
         have p124 : 0 ≤ (x9_3 : Int) := of_decide_eq_true tZE
         have q124 : x9_3 < (l0_1.length : Int) := of_decide_eq_true tZE
         obtain ⟨ad124, e124, hx124_0, hx124_1, hx124_2, hx124_3⟩ := at_T230 HR0_1.out x9_3 p124 q124
         have hw124_3 := hx124_3
         have hw124_2 := hx124_2
         have hw124_1 := hx124_1
         have hw124_0 := hx124_0
         obtain rfl : ad122 = ad124 := (by injection e124)
         replace hx124_0 := cZ HB hx124_0
         replace hx124_1 := cZ HB hx124_1
         replace hx124_2 := cZ HB hx124_2
         replace hx124_3 := cZ HB hx124_3
         replace p124 := eq_true p124
         replace q124 := eq_true q124
         refine start_ (n := 22) (S := fun w' => w'.cell? ⟨gb111, 0, none⟩ = some (.slice A0_0 l0_0.length c0_0) ∧ w'.cell? ⟨gb111, 1, none⟩ = some (.slice (some ad122) l0_1.length c0_1) ∧ w'.cell? (ad122.add ((x9_3).toNat * 4)) = some (.int .i64 ((rd_T230 l0_1 x9_3).f0)) ∧ w'.cell? ⟨(ad122.add ((x9_3).toNat * 4)).block, (ad122.add ((x9_3).toNat * 4)).off + 1, none⟩ = some (.int .i64 ((rd_T230 l0_1 x9_3).f1)) ∧ w'.cell? ⟨(ad122.add ((x9_3).toNat * 4)).block, (ad122.add ((x9_3).toNat * 4)).off + 2, none⟩ = some (.int .i64 ((rd_T230 l0_1 x9_3).f2)) ∧ w'.cell? ⟨(ad122.add ((x9_3).toNat * 4)).block, (ad122.add ((x9_3).toNat * 4)).off + 3, none⟩ = some (.bool ((rd_T230 l0_1 x9_3).f3)) ∧ w'.cell? (ad122.add ((x9_3).toNat * 4)) = some (.int .i64 ((rd_T230 l0_1 x9_3).f0)) ∧ w'.cell? ⟨(ad122.add ((x9_3).toNat * 4)).block, (ad122.add ((x9_3).toNat * 4)).off + 1, none⟩ = some (.int .i64 ((rd_T230 l0_1 x9_3).f1)) ∧ w'.cell? ⟨(ad122.add ((x9_3).toNat * 4)).block, (ad122.add ((x9_3).toNat * 4)).off + 2, none⟩ = some (.int .i64 ((rd_T230 l0_1 x9_3).f2)) ∧ w'.cell? ⟨(ad122.add ((x9_3).toNat * 4)).block, (ad122.add ((x9_3).toNat * 4)).off + 3, none⟩ = some (.bool ((rd_T230 l0_1 x9_3).f3))) (ds := []) L0' kZ rfl rfl ⟨(blk_cell BK111.out 0).trans rfl, (blk_cell BK111.out 1).trans rfl, ((HB.out.cell (World.block_lt_of_cell? w _ hw122_0)).trans hw122_0), ((HB.out.cell (World.block_lt_of_cell? w _ hw122_1)).trans hw122_1), ((HB.out.cell (World.block_lt_of_cell? w _ hw122_2)).trans hw122_2), ((HB.out.cell (World.block_lt_of_cell? w _ hw122_3)).trans hw122_3), ((HB.out.cell (World.block_lt_of_cell? w _ hw124_0)).trans hw124_0), ((HB.out.cell (World.block_lt_of_cell? w _ hw124_1)).trans hw124_1), ((HB.out.cell (World.block_lt_of_cell? w _ hw124_2)).trans hw124_2), ((HB.out.cell (World.block_lt_of_cell? w _ hw124_3)).trans hw124_3)⟩ (fun hHeld => ?_); refine with_tabW spec_RegisterOk.tab27 spec_RegisterOk.bits27 (fun HT_ HW_ => ?_)
         generalize wr.drew = w77 at BK111 HB hx122_0 hx122_1 hx122_2 hx122_3 hx124_0 hx124_1 hx124_2 hx124_3 hHeld ⊢
         refine pure_ (i := 0) (N := some 112) (v := ?_) (a' := ?_) L1' rfl rfl (any_of HT_.out kZ) (fun _ _ _ h => h) (Or.inl ⟨by rfl, ?_⟩) ?_ ?_
         rotate_left
         ·intro w'
          go_simp
          with_reducible rfl
         rotate_left
         ·simp only [Act.put, sZ1, sZ2, sZ3, i64_w, i32_w]
          rfl
         refine pure_ (i := 2) (N := some 114) (v := ?_) (a' := ?_) L2' rfl rfl (any_of HT_.out kZ) (fun _ _ _ h => h) (Or.inl ⟨by rfl, ?_⟩) ?_ ?_
         rotate_left
         ·intro w'
          go_simp
          with_reducible rfl
         rotate_left
         ·simp only [Act.put, sZ1, sZ2, sZ3, i64_w, i32_w]
          rfl
         refine pure_ (i := 6) (N := some 118) (v := ?_) (a' := ?_) L3' rfl rfl (any_of HT_.out kZ) (fun _ _ _ h => h) (Or.inl ⟨by rfl, ?_⟩) ?_ ?_
         rotate_left
         ·intro w'
          go_simp
          with_reducible rfl
         rotate_left
         ·simp only [Act.put, sZ1, sZ2, sZ3, i64_w, i32_w]
          rfl
         refine take_ (i := 1) (N := some 113) (v := ?_) (a' := ?_) L4' rfl rfl (take_ofW HT_.out HW_.out kZ) (fun _ _ _ h => h) (Or.inl ⟨by rfl, ?_⟩) hHeld ?_ ?_
         rotate_left
         ·rintro w' ⟨s0, s1, s2, s3, s4, s5, s6, s7, s8, s9⟩
          go_simp
          with_reducible rfl
         rotate_left
         ·simp only [Act.put, sZ1, sZ2, sZ3, i64_w, i32_w]
          rfl
         refine pure_ (i := 3) (N := some 115) (v := ?_) (a' := ?_) L5' rfl rfl (any_of HT_.out kZ) (fun _ _ _ h => h) (Or.inl ⟨by rfl, ?_⟩) ?_ ?_
         rotate_left
         ·intro w'
          go_simp
          with_reducible rfl
         rotate_left
         ·simp only [Act.put, sZ1, sZ2, sZ3, i64_w, i32_w]
          rfl
         refine pure_ (i := 4) (N := some 116) (v := ?_) (a' := ?_) L6' rfl rfl (any_of HT_.out kZ) (fun _ _ _ h => h) (Or.inl ⟨by rfl, ?_⟩) ?_ ?_
         rotate_left
         ·intro w'
          go_simp
          with_reducible rfl
         rotate_left
         ·simp only [Act.put, sZ1, sZ2, sZ3, i64_w, i32_w]
          rfl
         refine take_ (i := 5) (N := some 117) (v := ?_) (a' := ?_) L7' rfl rfl (take_ofW HT_.out HW_.out kZ) (fun _ _ _ h => h) (Or.inl ⟨by rfl, ?_⟩) hHeld ?_ ?_
         rotate_left
         ·rintro w' ⟨s0, s1, s2, s3, s4, s5, s6, s7, s8, s9⟩
          go_simp
          with_reducible rfl
         rotate_left
         ·simp only [Act.put, sZ1, sZ2, sZ3, i64_w, i32_w]
          rfl
         refine take_ (i := 7) (N := some 119) (v := ?_) (a' := ?_) L8' rfl rfl (take_ofW HT_.out HW_.out kZ) (fun _ _ _ h => h) (Or.inl ⟨by rfl, ?_⟩) hHeld ?_ ?_
         rotate_left
         ·rintro w' ⟨s0, s1, s2, s3, s4, s5, s6, s7, s8, s9⟩
          go_simp
          with_reducible rfl
         rotate_left
         ·simp only [Act.put, sZ1, sZ2, sZ3, i64_w, i32_w]
          rfl
         refine pure_ (i := 8) (N := some 120) (v := ?_) (a' := ?_) L9' rfl rfl (any_of HT_.out kZ) (fun _ _ _ h => h) (Or.inl ⟨by rfl, ?_⟩) ?_ ?_
         rotate_left
         ·intro w'
          go_simp
          with_reducible rfl
         rotate_left
         ·simp only [Act.put, sZ1, sZ2, sZ3, i64_w, i32_w]
          rfl
         refine pure_ (i := 9) (N := some 121) (v := ?_) (a' := ?_) L10' rfl rfl (any_of HT_.out kZ) (fun _ _ _ h => h) (Or.inl ⟨by rfl, ?_⟩) ?_ ?_
         rotate_left
         ·intro w'
          go_simp
          with_reducible rfl
         rotate_left
         ·simp only [Act.put, sZ1, sZ2, sZ3, i64_w, i32_w]
          rfl
         refine one_ (i := 10) (N := some 122) L11' rfl rfl (one_of HT_.out kZ) (by decide) (fun K hK => ?_)
         refine goes_ Try.func108 kZ rfl #[.int .i64 ((rd_T230 l0_1 x9_3).f0), .int .i64 0, .int .i64 (wrap64 ((l0_0.length : Int) - 1))] (by rfl) rfl rfl tZA ?_
         with_reducible refine (spec_l1In.calls ((rd_T230 l0_1 x9_3).f0) 0 (wrap64 ((l0_0.length : Int) - 1)) true _ A70.out).mono ?_
         rintro e w' ⟨rfl, ⟨nd, rfl⟩⟩
         refine ⟨_, rfl, ?_⟩
         refine hK.out _ _ ⟨(blk_cell BK111.out 0).trans rfl, (blk_cell BK111.out 1).trans rfl, ((HB.out.cell (World.block_lt_of_cell? w _ hw122_0)).trans hw122_0), ((HB.out.cell (World.block_lt_of_cell? w _ hw122_1)).trans hw122_1), ((HB.out.cell (World.block_lt_of_cell? w _ hw122_2)).trans hw122_2), ((HB.out.cell (World.block_lt_of_cell? w _ hw122_3)).trans hw122_3), ((HB.out.cell (World.block_lt_of_cell? w _ hw124_0)).trans hw124_0), ((HB.out.cell (World.block_lt_of_cell? w _ hw124_1)).trans hw124_1), ((HB.out.cell (World.block_lt_of_cell? w _ hw124_2)).trans hw124_2), ((HB.out.cell (World.block_lt_of_cell? w _ hw124_3)).trans hw124_3)⟩ (fun hHeld => ?_)
         clear hK K
         refine norm_ (a' := ?_) ?_ ?_
         rotate_left
         ·show Act.put _ (some 122) _ = _
          simp only [Act.put, sZ1, sZ2, sZ3, i64_w, i32_w]
          rfl
         refine pure_ (i := 11) (N := some 123) (v := ?_) (a' := ?_) L12' rfl rfl (any_of HT_.out kZ) (fun _ _ _ h => h) (Or.inl ⟨by rfl, ?_⟩) ?_ ?_
         rotate_left
         ·intro w'
          go_simp
          with_reducible rfl
         rotate_left
         ·simp only [Act.put, sZ1, sZ2, sZ3, i64_w, i32_w]
          rfl
         refine pure_ (i := 12) (N := some 124) (v := ?_) (a' := ?_) L13' rfl rfl (any_of HT_.out kZ) (fun _ _ _ h => h) (Or.inl ⟨by rfl, ?_⟩) ?_ ?_
         rotate_left
         ·intro w'
          go_simp
          with_reducible rfl
         rotate_left
         ·simp only [Act.put, sZ1, sZ2, sZ3, i64_w, i32_w]
          rfl
         refine pure_ (i := 13) (N := some 125) (v := ?_) (a' := ?_) L14' rfl rfl (any_of HT_.out kZ) (fun _ _ _ h => h) (Or.inl ⟨by rfl, ?_⟩) ?_ ?_
         rotate_left
         ·intro w'
          go_simp
          with_reducible rfl
         rotate_left
         ·simp only [Act.put, sZ1, sZ2, sZ3, i64_w, i32_w]
          rfl
         refine pure_ (i := 15) (N := some 127) (v := ?_) (a' := ?_) L23' rfl rfl (any_of HT_.out kZ) (fun _ _ _ h => h) (Or.inl ⟨by rfl, ?_⟩) ?_ ?_
         rotate_left
         ·intro w'
          go_simp
          with_reducible rfl
         rotate_left
         ·simp only [Act.put, sZ1, sZ2, sZ3, i64_w, i32_w]
          rfl
         refine take_ (i := 14) (N := some 126) (v := ?_) (a' := ?_) L16' rfl rfl (take_ofW HT_.out HW_.out kZ) (fun _ _ _ h => h) (Or.inl ⟨by rfl, ?_⟩) hHeld ?_ ?_
         rotate_left
         ·rintro w' ⟨s0, s1, s2, s3, s4, s5, s6, s7, s8, s9⟩
          go_simp
          with_reducible rfl
         rotate_left
         ·simp only [Act.put, sZ1, sZ2, sZ3, i64_w, i32_w]
          rfl
         refine pure_ (i := 16) (N := some 128) (v := ?_) (a' := ?_) L17' rfl rfl (any_of HT_.out kZ) (fun _ _ _ h => h) (Or.inl ⟨by rfl, ?_⟩) ?_ ?_
         rotate_left
         ·intro w'
          go_simp
          with_reducible rfl
         rotate_left
         ·simp only [Act.put, sZ1, sZ2, sZ3, i64_w, i32_w]
          rfl
         refine pure_ (i := 17) (N := some 129) (v := ?_) (a' := ?_) L18' rfl rfl (any_of HT_.out kZ) (fun _ _ _ h => h) (Or.inl ⟨by rfl, ?_⟩) ?_ ?_
         rotate_left
         ·intro w'
          go_simp
          with_reducible rfl
         rotate_left
         ·simp only [Act.put, sZ1, sZ2, sZ3, i64_w, i32_w]
          rfl
         refine take_ (i := 18) (N := some 130) (v := ?_) (a' := ?_) L19' rfl rfl (take_ofW HT_.out HW_.out kZ) (fun _ _ _ h => h) (Or.inl ⟨by rfl, ?_⟩) hHeld ?_ ?_
         rotate_left
         ·rintro w' ⟨s0, s1, s2, s3, s4, s5, s6, s7, s8, s9⟩
          go_simp
          with_reducible rfl
         rotate_left
         ·simp only [Act.put, sZ1, sZ2, sZ3, i64_w, i32_w]
          rfl
         refine one_ (i := 19) (N := some 131) L20' rfl rfl (one_of HT_.out kZ) (by decide) (fun K hK => ?_)
         refine goes_ Try.func122 kZ rfl #[.int .i64 ((rd_T230 l0_1 x9_3).f2)] (by rfl) rfl rfl tZA ?_
         with_reducible refine (spec_l2Day.calls ((rd_T230 l0_1 x9_3).f2) false _ A72.out).mono ?_
         rintro e w' ⟨rfl, ⟨nd, rfl⟩⟩
         refine ⟨_, rfl, ?_⟩
         refine hK.out _ _ ⟨(blk_cell BK111.out 0).trans rfl, (blk_cell BK111.out 1).trans rfl, ((HB.out.cell (World.block_lt_of_cell? w _ hw122_0)).trans hw122_0), ((HB.out.cell (World.block_lt_of_cell? w _ hw122_1)).trans hw122_1), ((HB.out.cell (World.block_lt_of_cell? w _ hw122_2)).trans hw122_2), ((HB.out.cell (World.block_lt_of_cell? w _ hw122_3)).trans hw122_3), ((HB.out.cell (World.block_lt_of_cell? w _ hw124_0)).trans hw124_0), ((HB.out.cell (World.block_lt_of_cell? w _ hw124_1)).trans hw124_1), ((HB.out.cell (World.block_lt_of_cell? w _ hw124_2)).trans hw124_2), ((HB.out.cell (World.block_lt_of_cell? w _ hw124_3)).trans hw124_3)⟩ (fun hHeld => ?_)
         clear hK K
         refine norm_ (a' := ?_) ?_ ?_
         rotate_left
         ·show Act.put _ (some 131) _ = _
          simp only [Act.put, sZ1, sZ2, sZ3, i64_w, i32_w]
          rfl
         refine pure_ (i := 20) (N := some 132) (v := ?_) (a' := ?_) L21' rfl rfl (any_of HT_.out kZ) (fun _ _ _ h => h) (Or.inl ⟨by rfl, ?_⟩) ?_ ?_
         rotate_left
         ·intro w'
          go_simp
          with_reducible rfl
         rotate_left
         ·simp only [Act.put, sZ1, sZ2, sZ3, i64_w, i32_w]
          rfl
         refine pure_ (i := 21) (N := some 133) (v := ?_) (a' := ?_) L22' rfl rfl (any_of HT_.out kZ) (fun _ _ _ h => h) (Or.inl ⟨by rfl, ?_⟩) ?_ ?_
         rotate_left
         ·intro w'
          go_simp
          with_reducible rfl
         rotate_left
         ·simp only [Act.put, sZ1, sZ2, sZ3, i64_w, i32_w]
          rfl
         refine done_ (done_of HT_.out kZ) ?_
         try go_wp2
         go_ret
         exact ⟨tZC, bZ⟩
        subst c73
        have H1 : (spec_RegisterOk.l3 k3 (wrap64 (x9_3 + 1)) l0_0 l0_1) = some r := by rw [if_pos rfl] at H; exact H
        clear H
        have H := H1
        clear H1
        have H' := Aside0.mk H
        clear H
        have hcz74_0 : wr.cell? ⟨gb111, 0, none⟩ = some (.slice A0_0 l0_0.length c0_0) := (blk_cell BK111.out 0).trans rfl
        have hcz74_1 : wr.cell? ⟨gb111, 1, none⟩ = some (.slice A0_1 l0_1.length c0_1) := (blk_cell BK111.out 1).trans rfl
        have hfz74_0 := blk_frozen BK111.out 0
        have hfz74_1 := blk_frozen BK111.out 1
        try go_wp2
        replace BK111 := aZ (blk_drew BK111.out)
        replace HB := aZ (below_drew1 HB.out)
        have p122 : 0 ≤ (x9_3 : Int) := of_decide_eq_true tZE
        have q122 : x9_3 < (l0_1.length : Int) := of_decide_eq_true tZE
        obtain ⟨ad122, e122, hx122_0, hx122_1, hx122_2, hx122_3⟩ := at_T230 HR0_1.out x9_3 p122 q122
        have hw122_3 := hx122_3
        have hw122_2 := hx122_2
        have hw122_1 := hx122_1
        have hw122_0 := hx122_0
        cases e122
        replace hx122_0 := cZ HB hx122_0
        replace hx122_1 := cZ HB hx122_1
        replace hx122_2 := cZ HB hx122_2
        replace hx122_3 := cZ HB hx122_3
        replace p122 := eq_true p122
        replace q122 := eq_true q122
        have p124 : 0 ≤ (x9_3 : Int) := of_decide_eq_true tZE
        have q124 : x9_3 < (l0_1.length : Int) := of_decide_eq_true tZE
        obtain ⟨ad124, e124, hx124_0, hx124_1, hx124_2, hx124_3⟩ := at_T230 HR0_1.out x9_3 p124 q124
        have hw124_3 := hx124_3
        have hw124_2 := hx124_2
        have hw124_1 := hx124_1
        have hw124_0 := hx124_0
        obtain rfl : ad122 = ad124 := (by injection e124)
        replace hx124_0 := cZ HB hx124_0
        replace hx124_1 := cZ HB hx124_1
        replace hx124_2 := cZ HB hx124_2
        replace hx124_3 := cZ HB hx124_3
        replace p124 := eq_true p124
        replace q124 := eq_true q124
        refine start_ (n := 22) (S := fun w' => w'.cell? ⟨gb111, 0, none⟩ = some (.slice A0_0 l0_0.length c0_0) ∧ w'.cell? ⟨gb111, 1, none⟩ = some (.slice (some ad122) l0_1.length c0_1) ∧ w'.cell? (ad122.add ((x9_3).toNat * 4)) = some (.int .i64 ((rd_T230 l0_1 x9_3).f0)) ∧ w'.cell? ⟨(ad122.add ((x9_3).toNat * 4)).block, (ad122.add ((x9_3).toNat * 4)).off + 1, none⟩ = some (.int .i64 ((rd_T230 l0_1 x9_3).f1)) ∧ w'.cell? ⟨(ad122.add ((x9_3).toNat * 4)).block, (ad122.add ((x9_3).toNat * 4)).off + 2, none⟩ = some (.int .i64 ((rd_T230 l0_1 x9_3).f2)) ∧ w'.cell? ⟨(ad122.add ((x9_3).toNat * 4)).block, (ad122.add ((x9_3).toNat * 4)).off + 3, none⟩ = some (.bool ((rd_T230 l0_1 x9_3).f3)) ∧ w'.cell? (ad122.add ((x9_3).toNat * 4)) = some (.int .i64 ((rd_T230 l0_1 x9_3).f0)) ∧ w'.cell? ⟨(ad122.add ((x9_3).toNat * 4)).block, (ad122.add ((x9_3).toNat * 4)).off + 1, none⟩ = some (.int .i64 ((rd_T230 l0_1 x9_3).f1)) ∧ w'.cell? ⟨(ad122.add ((x9_3).toNat * 4)).block, (ad122.add ((x9_3).toNat * 4)).off + 2, none⟩ = some (.int .i64 ((rd_T230 l0_1 x9_3).f2)) ∧ w'.cell? ⟨(ad122.add ((x9_3).toNat * 4)).block, (ad122.add ((x9_3).toNat * 4)).off + 3, none⟩ = some (.bool ((rd_T230 l0_1 x9_3).f3))) (ds := []) L0' kZ rfl rfl ⟨(blk_cell BK111.out 0).trans rfl, (blk_cell BK111.out 1).trans rfl, ((HB.out.cell (World.block_lt_of_cell? w _ hw122_0)).trans hw122_0), ((HB.out.cell (World.block_lt_of_cell? w _ hw122_1)).trans hw122_1), ((HB.out.cell (World.block_lt_of_cell? w _ hw122_2)).trans hw122_2), ((HB.out.cell (World.block_lt_of_cell? w _ hw122_3)).trans hw122_3), ((HB.out.cell (World.block_lt_of_cell? w _ hw124_0)).trans hw124_0), ((HB.out.cell (World.block_lt_of_cell? w _ hw124_1)).trans hw124_1), ((HB.out.cell (World.block_lt_of_cell? w _ hw124_2)).trans hw124_2), ((HB.out.cell (World.block_lt_of_cell? w _ hw124_3)).trans hw124_3)⟩ (fun hHeld => ?_); refine with_tabW spec_RegisterOk.tab27 spec_RegisterOk.bits27 (fun HT_ HW_ => ?_)
        generalize wr.drew = w75 at BK111 HB hx122_0 hx122_1 hx122_2 hx122_3 hx124_0 hx124_1 hx124_2 hx124_3 hHeld ⊢
        refine pure_ (i := 0) (N := some 112) (v := ?_) (a' := ?_) L1' rfl rfl (any_of HT_.out kZ) (fun _ _ _ h => h) (Or.inl ⟨by rfl, ?_⟩) ?_ ?_
        rotate_left
        ·intro w'
         go_simp
         with_reducible rfl
        rotate_left
        ·simp only [Act.put, sZ1, sZ2, sZ3, i64_w, i32_w]
         rfl
        refine pure_ (i := 2) (N := some 114) (v := ?_) (a' := ?_) L2' rfl rfl (any_of HT_.out kZ) (fun _ _ _ h => h) (Or.inl ⟨by rfl, ?_⟩) ?_ ?_
        rotate_left
        ·intro w'
         go_simp
         with_reducible rfl
        rotate_left
        ·simp only [Act.put, sZ1, sZ2, sZ3, i64_w, i32_w]
         rfl
        refine pure_ (i := 6) (N := some 118) (v := ?_) (a' := ?_) L3' rfl rfl (any_of HT_.out kZ) (fun _ _ _ h => h) (Or.inl ⟨by rfl, ?_⟩) ?_ ?_
        rotate_left
        ·intro w'
         go_simp
         with_reducible rfl
        rotate_left
        ·simp only [Act.put, sZ1, sZ2, sZ3, i64_w, i32_w]
         rfl
        refine take_ (i := 1) (N := some 113) (v := ?_) (a' := ?_) L4' rfl rfl (take_ofW HT_.out HW_.out kZ) (fun _ _ _ h => h) (Or.inl ⟨by rfl, ?_⟩) hHeld ?_ ?_
        rotate_left
        ·rintro w' ⟨s0, s1, s2, s3, s4, s5, s6, s7, s8, s9⟩
         go_simp
         with_reducible rfl
        rotate_left
        ·simp only [Act.put, sZ1, sZ2, sZ3, i64_w, i32_w]
         rfl
        refine pure_ (i := 3) (N := some 115) (v := ?_) (a' := ?_) L5' rfl rfl (any_of HT_.out kZ) (fun _ _ _ h => h) (Or.inl ⟨by rfl, ?_⟩) ?_ ?_
        rotate_left
        ·intro w'
         go_simp
         with_reducible rfl
        rotate_left
        ·simp only [Act.put, sZ1, sZ2, sZ3, i64_w, i32_w]
         rfl
        refine pure_ (i := 4) (N := some 116) (v := ?_) (a' := ?_) L6' rfl rfl (any_of HT_.out kZ) (fun _ _ _ h => h) (Or.inl ⟨by rfl, ?_⟩) ?_ ?_
        rotate_left
        ·intro w'
         go_simp
         with_reducible rfl
        rotate_left
        ·simp only [Act.put, sZ1, sZ2, sZ3, i64_w, i32_w]
         rfl
        refine take_ (i := 5) (N := some 117) (v := ?_) (a' := ?_) L7' rfl rfl (take_ofW HT_.out HW_.out kZ) (fun _ _ _ h => h) (Or.inl ⟨by rfl, ?_⟩) hHeld ?_ ?_
        rotate_left
        ·rintro w' ⟨s0, s1, s2, s3, s4, s5, s6, s7, s8, s9⟩
         go_simp
         with_reducible rfl
        rotate_left
        ·simp only [Act.put, sZ1, sZ2, sZ3, i64_w, i32_w]
         rfl
        refine take_ (i := 7) (N := some 119) (v := ?_) (a' := ?_) L8' rfl rfl (take_ofW HT_.out HW_.out kZ) (fun _ _ _ h => h) (Or.inl ⟨by rfl, ?_⟩) hHeld ?_ ?_
        rotate_left
        ·rintro w' ⟨s0, s1, s2, s3, s4, s5, s6, s7, s8, s9⟩
         go_simp
         with_reducible rfl
        rotate_left
        ·simp only [Act.put, sZ1, sZ2, sZ3, i64_w, i32_w]
         rfl
        refine pure_ (i := 8) (N := some 120) (v := ?_) (a' := ?_) L9' rfl rfl (any_of HT_.out kZ) (fun _ _ _ h => h) (Or.inl ⟨by rfl, ?_⟩) ?_ ?_
        rotate_left
        ·intro w'
         go_simp
         with_reducible rfl
        rotate_left
        ·simp only [Act.put, sZ1, sZ2, sZ3, i64_w, i32_w]
         rfl
        refine pure_ (i := 9) (N := some 121) (v := ?_) (a' := ?_) L10' rfl rfl (any_of HT_.out kZ) (fun _ _ _ h => h) (Or.inl ⟨by rfl, ?_⟩) ?_ ?_
        rotate_left
        ·intro w'
         go_simp
         with_reducible rfl
        rotate_left
        ·simp only [Act.put, sZ1, sZ2, sZ3, i64_w, i32_w]
         rfl
        refine one_ (i := 10) (N := some 122) L11' rfl rfl (one_of HT_.out kZ) (by decide) (fun K hK => ?_)
        refine goes_ Try.func108 kZ rfl #[.int .i64 ((rd_T230 l0_1 x9_3).f0), .int .i64 0, .int .i64 (wrap64 ((l0_0.length : Int) - 1))] (by rfl) rfl rfl tZA ?_
        with_reducible refine (spec_l1In.calls ((rd_T230 l0_1 x9_3).f0) 0 (wrap64 ((l0_0.length : Int) - 1)) true _ A70.out).mono ?_
        rintro e w' ⟨rfl, ⟨nd, rfl⟩⟩
        refine ⟨_, rfl, ?_⟩
        refine hK.out _ _ ⟨(blk_cell BK111.out 0).trans rfl, (blk_cell BK111.out 1).trans rfl, ((HB.out.cell (World.block_lt_of_cell? w _ hw122_0)).trans hw122_0), ((HB.out.cell (World.block_lt_of_cell? w _ hw122_1)).trans hw122_1), ((HB.out.cell (World.block_lt_of_cell? w _ hw122_2)).trans hw122_2), ((HB.out.cell (World.block_lt_of_cell? w _ hw122_3)).trans hw122_3), ((HB.out.cell (World.block_lt_of_cell? w _ hw124_0)).trans hw124_0), ((HB.out.cell (World.block_lt_of_cell? w _ hw124_1)).trans hw124_1), ((HB.out.cell (World.block_lt_of_cell? w _ hw124_2)).trans hw124_2), ((HB.out.cell (World.block_lt_of_cell? w _ hw124_3)).trans hw124_3)⟩ (fun hHeld => ?_)
        clear hK K
        refine norm_ (a' := ?_) ?_ ?_
        rotate_left
        ·show Act.put _ (some 122) _ = _
         simp only [Act.put, sZ1, sZ2, sZ3, i64_w, i32_w]
         rfl
        refine pure_ (i := 11) (N := some 123) (v := ?_) (a' := ?_) L12' rfl rfl (any_of HT_.out kZ) (fun _ _ _ h => h) (Or.inl ⟨by rfl, ?_⟩) ?_ ?_
        rotate_left
        ·intro w'
         go_simp
         with_reducible rfl
        rotate_left
        ·simp only [Act.put, sZ1, sZ2, sZ3, i64_w, i32_w]
         rfl
        refine pure_ (i := 12) (N := some 124) (v := ?_) (a' := ?_) L13' rfl rfl (any_of HT_.out kZ) (fun _ _ _ h => h) (Or.inl ⟨by rfl, ?_⟩) ?_ ?_
        rotate_left
        ·intro w'
         go_simp
         with_reducible rfl
        rotate_left
        ·simp only [Act.put, sZ1, sZ2, sZ3, i64_w, i32_w]
         rfl
        refine pure_ (i := 13) (N := some 125) (v := ?_) (a' := ?_) L14' rfl rfl (any_of HT_.out kZ) (fun _ _ _ h => h) (Or.inl ⟨by rfl, ?_⟩) ?_ ?_
        rotate_left
        ·intro w'
         go_simp
         with_reducible rfl
        rotate_left
        ·simp only [Act.put, sZ1, sZ2, sZ3, i64_w, i32_w]
         rfl
        refine pure_ (i := 15) (N := some 127) (v := ?_) (a' := ?_) L23' rfl rfl (any_of HT_.out kZ) (fun _ _ _ h => h) (Or.inl ⟨by rfl, ?_⟩) ?_ ?_
        rotate_left
        ·intro w'
         go_simp
         with_reducible rfl
        rotate_left
        ·simp only [Act.put, sZ1, sZ2, sZ3, i64_w, i32_w]
         rfl
        refine take_ (i := 14) (N := some 126) (v := ?_) (a' := ?_) L16' rfl rfl (take_ofW HT_.out HW_.out kZ) (fun _ _ _ h => h) (Or.inl ⟨by rfl, ?_⟩) hHeld ?_ ?_
        rotate_left
        ·rintro w' ⟨s0, s1, s2, s3, s4, s5, s6, s7, s8, s9⟩
         go_simp
         with_reducible rfl
        rotate_left
        ·simp only [Act.put, sZ1, sZ2, sZ3, i64_w, i32_w]
         rfl
        refine pure_ (i := 16) (N := some 128) (v := ?_) (a' := ?_) L17' rfl rfl (any_of HT_.out kZ) (fun _ _ _ h => h) (Or.inl ⟨by rfl, ?_⟩) ?_ ?_
        rotate_left
        ·intro w'
         go_simp
         with_reducible rfl
        rotate_left
        ·simp only [Act.put, sZ1, sZ2, sZ3, i64_w, i32_w]
         rfl
        refine pure_ (i := 17) (N := some 129) (v := ?_) (a' := ?_) L18' rfl rfl (any_of HT_.out kZ) (fun _ _ _ h => h) (Or.inl ⟨by rfl, ?_⟩) ?_ ?_
        rotate_left
        ·intro w'
         go_simp
         with_reducible rfl
        rotate_left
        ·simp only [Act.put, sZ1, sZ2, sZ3, i64_w, i32_w]
         rfl
        refine take_ (i := 18) (N := some 130) (v := ?_) (a' := ?_) L19' rfl rfl (take_ofW HT_.out HW_.out kZ) (fun _ _ _ h => h) (Or.inl ⟨by rfl, ?_⟩) hHeld ?_ ?_
        rotate_left
        ·rintro w' ⟨s0, s1, s2, s3, s4, s5, s6, s7, s8, s9⟩
         go_simp
         with_reducible rfl
        rotate_left
        ·simp only [Act.put, sZ1, sZ2, sZ3, i64_w, i32_w]
         rfl
        refine one_ (i := 19) (N := some 131) L20' rfl rfl (one_of HT_.out kZ) (by decide) (fun K hK => ?_)
        refine goes_ Try.func122 kZ rfl #[.int .i64 ((rd_T230 l0_1 x9_3).f2)] (by rfl) rfl rfl tZA ?_
        with_reducible refine (spec_l2Day.calls ((rd_T230 l0_1 x9_3).f2) true _ A72.out).mono ?_
        rintro e w' ⟨rfl, ⟨nd, rfl⟩⟩
        refine ⟨_, rfl, ?_⟩
        refine hK.out _ _ ⟨(blk_cell BK111.out 0).trans rfl, (blk_cell BK111.out 1).trans rfl, ((HB.out.cell (World.block_lt_of_cell? w _ hw122_0)).trans hw122_0), ((HB.out.cell (World.block_lt_of_cell? w _ hw122_1)).trans hw122_1), ((HB.out.cell (World.block_lt_of_cell? w _ hw122_2)).trans hw122_2), ((HB.out.cell (World.block_lt_of_cell? w _ hw122_3)).trans hw122_3), ((HB.out.cell (World.block_lt_of_cell? w _ hw124_0)).trans hw124_0), ((HB.out.cell (World.block_lt_of_cell? w _ hw124_1)).trans hw124_1), ((HB.out.cell (World.block_lt_of_cell? w _ hw124_2)).trans hw124_2), ((HB.out.cell (World.block_lt_of_cell? w _ hw124_3)).trans hw124_3)⟩ (fun hHeld => ?_)
        clear hK K
        refine norm_ (a' := ?_) ?_ ?_
        rotate_left
        ·show Act.put _ (some 131) _ = _
         simp only [Act.put, sZ1, sZ2, sZ3, i64_w, i32_w]
         rfl
        refine pure_ (i := 20) (N := some 132) (v := ?_) (a' := ?_) L21' rfl rfl (any_of HT_.out kZ) (fun _ _ _ h => h) (Or.inl ⟨by rfl, ?_⟩) ?_ ?_
        rotate_left
        ·intro w'
         go_simp
         with_reducible rfl
        rotate_left
        ·simp only [Act.put, sZ1, sZ2, sZ3, i64_w, i32_w]
         rfl
        refine pure_ (i := 21) (N := some 133) (v := ?_) (a' := ?_) L22' rfl rfl (any_of HT_.out kZ) (fun _ _ _ h => h) (Or.inl ⟨by rfl, ?_⟩) ?_ ?_
        rotate_left
        ·intro w'
         go_simp
         with_reducible rfl
        rotate_left
        ·simp only [Act.put, sZ1, sZ2, sZ3, i64_w, i32_w]
         rfl
        refine done_ (done_of HT_.out kZ) ?_
        try go_wp2
        go_roundg k3
        case measure => have := HJ1.out; have := HK2.out; have := HK3.out; omega
        case rel => exact ⟨(wrap64 (x9_3 + 1)), tZB, H', ⟨by have := HJ1.out; have := HK2.out; have := HK3.out; omega⟩, ⟨bkZ BK111.out⟩, ⟨bZ⟩⟩
     rw [if_pos c8] at H
     have c8b0 := decide_eq_true c8
     clear c8
     have HC9 := Aside0.mk H
     clear H
     have hcz10_0 : wr.cell? ⟨gb111, 0, none⟩ = some (.slice A0_0 l0_0.length c0_0) := (blk_cell BK111.out 0).trans rfl
     have hcz10_1 : wr.cell? ⟨gb111, 1, none⟩ = some (.slice A0_1 l0_1.length c0_1) := (blk_cell BK111.out 1).trans rfl
     have hfz10_0 := blk_frozen BK111.out 0
     have hfz10_1 := blk_frozen BK111.out 1
     go_upto_region 6 with (fail)
     go_cut [44] (fun v44 wc => ∃ (kq : Nat) (x44_8 : Bool), v44 = .bool x44_8 ∧ Aside0 (spec_RegisterOk.j2 kq x3_2 x44_8 l0_0 l0_1 = some r) ∧ Aside0 (kq ≤ k2) ∧ Aside0 (wc.heap[gb111]? = some (.cells #[(.slice A0_0 l0_0.length c0_0), (.slice A0_1 l0_1.length c0_1)] 86 (0, 0))) ∧ Aside0 (Below w.heap.size w wc))
     case first =>
      have H := HC9.out
      clear HC9
      by_cases c11 : 0 ≤ x3_2
      rotate_left
      ·rw [if_neg c11] at H
       exact absurd H (by simp)
      rw [if_pos c11] at H
      have c11b0 := decide_eq_true c11
      clear c11
      (first | rw [c11b0] | (simp only [i64_w, i32_w]; rw [c11b0]) | skip)
      replace H := Option.bind_eq_some_iff.mp H
      obtain ⟨t113, A120, H⟩ := H
      replace H : (if t113 = true then ((spec_l1In.f ((rd_T304 l0_0 x3_2).f1) 1 8).bind fun t115 => (spec_RegisterOk.j2 k2 x3_2 (!t115) l0_0 l0_1)) else (spec_RegisterOk.j2 k2 x3_2 true l0_0 l0_1)) = some r := H
      have A12 := Aside0.mk A120
      clear A120
      by_cases c13 : t113 = true
      rotate_left
      ·replace c13 := Bool.eq_false_iff.mpr c13
       subst c13
       have H1 : (spec_RegisterOk.j2 k2 x3_2 true l0_0 l0_1) = some r := by rw [if_neg (show ¬ (false = true) by decide)] at H; exact H
       clear H
       have H := H1
       clear H1
       have H' := Aside0.mk H
       clear H
       have hcz16_0 : wr.cell? ⟨gb111, 0, none⟩ = some (.slice A0_0 l0_0.length c0_0) := (blk_cell BK111.out 0).trans rfl
       have hcz16_1 : wr.cell? ⟨gb111, 1, none⟩ = some (.slice A0_1 l0_1.length c0_1) := (blk_cell BK111.out 1).trans rfl
       have hfz16_0 := blk_frozen BK111.out 0
       have hfz16_1 := blk_frozen BK111.out 1
       have p112 : 0 ≤ (x3_2 : Int) := of_decide_eq_true tZE
       have q112 : x3_2 < (l0_0.length : Int) := of_decide_eq_true tZE
       obtain ⟨ad112, e112, hx112_0, hx112_1⟩ := at_T304 HR0_0.out x3_2 p112 q112
       cases e112
       replace hx112_0 := cZ HB hx112_0
       replace hx112_1 := cZ HB hx112_1
       replace p112 := eq_true p112
       replace q112 := eq_true q112
       go_wp2_with (first | ((with_reducible refine gate_callee (f := 193) rfl ?_); refine goesL_ (some 33) rfl rfl Try.func193 kZ rfl #[.string ((rd_T304 l0_0 x3_2).f0)] rfl tZA ?_; (with_reducible refine (spec_NameOk.calls k2 ((rd_T304 l0_0 x3_2).f0) false _ A12.out).mono ?_); rintro e w' ⟨rfl, ⟨nd, rfl⟩⟩; refine ⟨_, rfl, ?_⟩))
       go_meet
       case rel => exact ⟨_, (true), tZB, H', ⟨by have := HJ1.out; have := HK2.out; first | omega | exact Nat.le_refl _⟩, ⟨bkZ BK111.out⟩, ⟨bZ⟩⟩
      subst c13
      have H1 : ((spec_l1In.f ((rd_T304 l0_0 x3_2).f1) 1 8).bind fun t115 => (spec_RegisterOk.j2 k2 x3_2 (!t115) l0_0 l0_1)) = some r := by rw [if_pos rfl] at H; exact H
      clear H
      have H := H1
      clear H1
      replace H := Option.bind_eq_some_iff.mp H
      obtain ⟨t115, A140, H⟩ := H
      replace H : (spec_RegisterOk.j2 k2 x3_2 (!t115) l0_0 l0_1) = some r := H
      have A14 := Aside0.mk A140
      clear A140
      have H' := Aside0.mk H
      clear H
      have hcz15_0 : wr.cell? ⟨gb111, 0, none⟩ = some (.slice A0_0 l0_0.length c0_0) := (blk_cell BK111.out 0).trans rfl
      have hcz15_1 : wr.cell? ⟨gb111, 1, none⟩ = some (.slice A0_1 l0_1.length c0_1) := (blk_cell BK111.out 1).trans rfl
      have hfz15_0 := blk_frozen BK111.out 0
      have hfz15_1 := blk_frozen BK111.out 1
      have p112 : 0 ≤ (x3_2 : Int) := of_decide_eq_true tZE
      have q112 : x3_2 < (l0_0.length : Int) := of_decide_eq_true tZE
      obtain ⟨ad112, e112, hx112_0, hx112_1⟩ := at_T304 HR0_0.out x3_2 p112 q112
      cases e112
      replace hx112_0 := cZ HB hx112_0
      replace hx112_1 := cZ HB hx112_1
      replace p112 := eq_true p112
      replace q112 := eq_true q112
      go_wp2_with (first | ((with_reducible refine gate_callee (f := 193) rfl ?_); refine goesL_ (some 33) rfl rfl Try.func193 kZ rfl #[.string ((rd_T304 l0_0 x3_2).f0)] rfl tZA ?_; (with_reducible refine (spec_NameOk.calls k2 ((rd_T304 l0_0 x3_2).f0) true _ A12.out).mono ?_); rintro e w' ⟨rfl, ⟨nd, rfl⟩⟩; refine ⟨_, rfl, ?_⟩; have p114 : 0 ≤ (x3_2 : Int) := of_decide_eq_true tZE; have q114 : x3_2 < (l0_0.length : Int) := of_decide_eq_true tZE; obtain ⟨ad114, e114, hx114_0, hx114_1⟩ := at_T304 HR0_0.out x3_2 p114 q114; obtain rfl : ad112 = ad114 := (by injection e114); replace hx114_0 := cZ HB hx114_0; replace hx114_1 := cZ HB hx114_1; replace p114 := eq_true p114; replace q114 := eq_true q114) | (go_at_call 108; (with_reducible refine (spec_l1In.calls ((rd_T304 l0_0 x3_2).f1) 1 8 t115 _ A14.out).mono ?_); rintro e w' ⟨rfl, ⟨nd, rfl⟩⟩))
      go_meet
      case rel => exact ⟨_, (!t115), tZB, H', ⟨by have := HJ1.out; have := HK2.out; first | omega | exact Nat.le_refl _⟩, ⟨bkZ BK111.out⟩, ⟨bZ⟩⟩
     case rest =>
      clear HC9
      try clear c1
      try clear p1
      try clear q1
      try clear hx1
      try clear p2
      try clear c4
      try clear c4b0
      try clear c4b1
      try clear c7
      try clear c8
      try clear c8b0
      try clear c11
      try clear c11b0
      try clear p11
      try clear q11
      try clear hx11
      try clear c13
      try clear c14
      try clear hcz10_0
      try clear hcz10_1
      try clear hcz15_0
      try clear hcz15_1
      try clear hcz16_0
      try clear hcz16_1
      try clear hcz5_0
      try clear hcz5_1
      try clear hcz6_0
      try clear hcz6_1
      try clear hfz10_0
      try clear hfz10_1
      try clear hfz15_0
      try clear hfz15_1
      try clear hfz16_0
      try clear hfz16_1
      try clear hfz5_0
      try clear hfz5_1
      try clear hfz6_0
      try clear hfz6_1
      try clear hx112_0
      try clear hx112_1
      try clear hx114_0
      try clear hx114_1
      try clear p112
      try clear p114
      try clear p2
      try clear q112
      try clear q114
      obtain ⟨kq, x44_8, rfl, HA, HJ8, BK111, HB⟩ := hcut
      cases kq with
      | zero => exact absurd HA.out (by simp [spec_RegisterOk.j2])
      | succ kj8 =>
       have H := HA.out
       clear HA
       simp only [spec_RegisterOk.j2] at H
       by_cases c17 : x44_8 = true
       ·subst c17
        have H1 : (some false) = some r := by rw [if_pos rfl] at H; exact H
        clear H
        have H := H1
        clear H1
        obtain rfl := Option.some.inj H
        go_wp2
        go_ret
        exact ⟨tZC, bZ⟩
       replace c17 := Bool.eq_false_iff.mpr c17
       subst c17
       have H1 : (spec_RegisterOk.l1 kj8 x3_2 0 l0_0 l0_1) = some r := by rw [if_neg (show ¬ (false = true) by decide)] at H; exact H
       clear H
       have H := H1
       clear H1
       have H' := Aside0.mk H
       clear H
       go_wp2
       go_loopg [4] kj8 (fun kq v4 w' => ∃ (x4_4 : Int), v4 = .int .i64 x4_4 ∧ Aside0 (spec_RegisterOk.l1 kq x3_2 x4_4 l0_0 l0_1 = some r) ∧ Aside0 (kq ≤ kj8) ∧ Aside0 (w'.heap[gb111]? = some (.cells #[(.slice A0_0 l0_0.length c0_0), (.slice A0_1 l0_1.length c0_1)] 86 (0, 0))) ∧ Aside0 (Below w.heap.size w w'))
       case atStart => exact ⟨(0), tZB, H', ⟨Nat.le_refl _⟩, ⟨bkZ BK111.out⟩, ⟨bZ⟩⟩
       case round =>
        clear H'
        try clear c1
        try clear p1
        try clear q1
        try clear hx1
        try clear p2
        try clear c4
        try clear c4b0
        try clear c4b1
        try clear c7
        try clear c8
        try clear c8b0
        try clear c11
        try clear c11b0
        try clear p11
        try clear q11
        try clear hx11
        try clear c13
        try clear c14
        try clear c17
        try clear hcz10_0
        try clear hcz10_1
        try clear hcz15_0
        try clear hcz15_1
        try clear hcz16_0
        try clear hcz16_1
        try clear hcz5_0
        try clear hcz5_1
        try clear hcz6_0
        try clear hcz6_1
        try clear hfz10_0
        try clear hfz10_1
        try clear hfz15_0
        try clear hfz15_1
        try clear hfz16_0
        try clear hfz16_1
        try clear hfz5_0
        try clear hfz5_1
        try clear hfz6_0
        try clear hfz6_1
        try clear hx112_0
        try clear hx112_1
        try clear hx114_0
        try clear hx114_1
        try clear p1
        try clear p11
        try clear p112
        try clear p114
        try clear p2
        try clear q1
        try clear q11
        try clear q112
        try clear q114
        obtain ⟨x4_4, rfl, HA, HK4, BK111, HB⟩ := hrel
        cases gk with
        | zero => exact absurd HA.out (by simp [spec_RegisterOk.l1])
        | succ k4 =>
         have H := HA.out
         clear HA
         simp only [spec_RegisterOk.l1] at H
         by_cases c18 : x4_4 < x3_2
         ·rw [if_pos c18] at H
          have c18b0 := decide_eq_true c18
          clear c18
          by_cases c19 : 0 ≤ x4_4
          rotate_left
          ·rw [if_neg c19] at H
           exact absurd H (by simp)
          rw [if_pos c19] at H
          have c19b0 := decide_eq_true c19
          clear c19
          by_cases c20 : x4_4 < (l0_0.length : Int)
          rotate_left
          ·rw [if_neg c20] at H
           exact absurd H (by simp)
          rw [if_pos c20] at H
          have c20b0 := decide_eq_true c20
          clear c20
          by_cases c21 : 0 ≤ x3_2
          rotate_left
          ·rw [if_neg c21] at H
           exact absurd H (by simp)
          rw [if_pos c21] at H
          have c21b0 := decide_eq_true c21
          clear c21
          by_cases c22 : x3_2 < (l0_0.length : Int)
          rotate_left
          ·rw [if_neg c22] at H
           exact absurd H (by simp)
          rw [if_pos c22] at H
          have c22b0 := decide_eq_true c22
          clear c22
          by_cases c23 : ((rd_T304 l0_0 x4_4).f0).toList = ((rd_T304 l0_0 x3_2).f0).toList
          ·rw [if_pos c23] at H
           have c23b0 : (((rd_T304 l0_0 x4_4).f0).toList == ((rd_T304 l0_0 x3_2).f0).toList) = true := beq_iff_eq.mpr c23
           have c23b1 : (((rd_T304 l0_0 x4_4).f0).toList != ((rd_T304 l0_0 x3_2).f0).toList) = false := bne_eq_false_iff_eq.mpr c23
           clear c23
           obtain rfl := Option.some.inj H
           try go_wp2
           replace BK111 := aZ (blk_drew BK111.out)
           replace HB := aZ (below_drew1 HB.out)
           have p116 : 0 ≤ (x4_4 : Int) := of_decide_eq_true tZE
           have q116 : x4_4 < (l0_0.length : Int) := of_decide_eq_true tZE
           obtain ⟨ad116, e116, hx116_0, hx116_1⟩ := at_T304 HR0_0.out x4_4 p116 q116
           have hw116_1 := hx116_1
           have hw116_0 := hx116_0
           cases e116
           replace hx116_0 := cZ HB hx116_0
           replace hx116_1 := cZ HB hx116_1
           replace p116 := eq_true p116
           replace q116 := eq_true q116
           have p117 : 0 ≤ (x3_2 : Int) := of_decide_eq_true tZE
           have q117 : x3_2 < (l0_0.length : Int) := of_decide_eq_true tZE
           obtain ⟨ad117, e117, hx117_0, hx117_1⟩ := at_T304 HR0_0.out x3_2 p117 q117
           have hw117_1 := hx117_1
           have hw117_0 := hx117_0
           obtain rfl : ad116 = ad117 := (by injection e117)
           replace hx117_0 := cZ HB hx117_0
           replace hx117_1 := cZ HB hx117_1
           replace p117 := eq_true p117
           replace q117 := eq_true q117
           refine start_ (n := 13) (S := fun w' => w'.cell? ⟨gb111, 0, none⟩ = some (.slice (some ad116) l0_0.length c0_0) ∧ w'.cell? ⟨gb111, 1, none⟩ = some (.slice A0_1 l0_1.length c0_1) ∧ w'.cell? (ad116.add ((x4_4).toNat * 2)) = some (.string ((rd_T304 l0_0 x4_4).f0)) ∧ w'.cell? ⟨(ad116.add ((x4_4).toNat * 2)).block, (ad116.add ((x4_4).toNat * 2)).off + 1, none⟩ = some (.int .i64 ((rd_T304 l0_0 x4_4).f1)) ∧ w'.cell? (ad116.add ((x3_2).toNat * 2)) = some (.string ((rd_T304 l0_0 x3_2).f0)) ∧ w'.cell? ⟨(ad116.add ((x3_2).toNat * 2)).block, (ad116.add ((x3_2).toNat * 2)).off + 1, none⟩ = some (.int .i64 ((rd_T304 l0_0 x3_2).f1))) (ds := []) L24' kZ rfl rfl ⟨(blk_cell BK111.out 0).trans rfl, (blk_cell BK111.out 1).trans rfl, ((HB.out.cell (World.block_lt_of_cell? w _ hw116_0)).trans hw116_0), ((HB.out.cell (World.block_lt_of_cell? w _ hw116_1)).trans hw116_1), ((HB.out.cell (World.block_lt_of_cell? w _ hw117_0)).trans hw117_0), ((HB.out.cell (World.block_lt_of_cell? w _ hw117_1)).trans hw117_1)⟩ (fun hHeld => ?_); refine with_tabW spec_RegisterOk.tab11 spec_RegisterOk.bits11 (fun HT_ HW_ => ?_)
           generalize wr.drew = w24 at BK111 HB hx116_0 hx116_1 hx117_0 hx117_1 hHeld ⊢
           refine pure_ (i := 0) (N := some 50) (v := ?_) (a' := ?_) L25' rfl rfl (any_of HT_.out kZ) (fun _ _ _ h => h) (Or.inl ⟨by rfl, ?_⟩) ?_ ?_
           rotate_left
           ·intro w'
            go_simp
            with_reducible rfl
           rotate_left
           ·simp only [Act.put, sZ1, sZ2, sZ3, i64_w, i32_w]
            rfl
           refine pure_ (i := 2) (N := some 52) (v := ?_) (a' := ?_) L26' rfl rfl (any_of HT_.out kZ) (fun _ _ _ h => h) (Or.inl ⟨by rfl, ?_⟩) ?_ ?_
           rotate_left
           ·intro w'
            go_simp
            with_reducible rfl
           rotate_left
           ·simp only [Act.put, sZ1, sZ2, sZ3, i64_w, i32_w]
            rfl
           refine pure_ (i := 6) (N := some 56) (v := ?_) (a' := ?_) L27' rfl rfl (any_of HT_.out kZ) (fun _ _ _ h => h) (Or.inl ⟨by rfl, ?_⟩) ?_ ?_
           rotate_left
           ·intro w'
            go_simp
            with_reducible rfl
           rotate_left
           ·simp only [Act.put, sZ1, sZ2, sZ3, i64_w, i32_w]
            rfl
           refine pure_ (i := 8) (N := some 58) (v := ?_) (a' := ?_) L28' rfl rfl (any_of HT_.out kZ) (fun _ _ _ h => h) (Or.inl ⟨by rfl, ?_⟩) ?_ ?_
           rotate_left
           ·intro w'
            go_simp
            with_reducible rfl
           rotate_left
           ·simp only [Act.put, sZ1, sZ2, sZ3, i64_w, i32_w]
            rfl
           refine take_ (i := 1) (N := some 51) (v := ?_) (a' := ?_) L29' rfl rfl (take_ofW HT_.out HW_.out kZ) (fun _ _ _ h => h) (Or.inl ⟨by rfl, ?_⟩) hHeld ?_ ?_
           rotate_left
           ·rintro w' ⟨s0, s1, s2, s3, s4, s5⟩
            go_simp
            with_reducible rfl
           rotate_left
           ·simp only [Act.put, sZ1, sZ2, sZ3, i64_w, i32_w]
            rfl
           refine pure_ (i := 3) (N := some 53) (v := ?_) (a' := ?_) L30' rfl rfl (any_of HT_.out kZ) (fun _ _ _ h => h) (Or.inl ⟨by rfl, ?_⟩) ?_ ?_
           rotate_left
           ·intro w'
            go_simp
            with_reducible rfl
           rotate_left
           ·simp only [Act.put, sZ1, sZ2, sZ3, i64_w, i32_w]
            rfl
           refine pure_ (i := 4) (N := some 54) (v := ?_) (a' := ?_) L31' rfl rfl (any_of HT_.out kZ) (fun _ _ _ h => h) (Or.inl ⟨by rfl, ?_⟩) ?_ ?_
           rotate_left
           ·intro w'
            go_simp
            with_reducible rfl
           rotate_left
           ·simp only [Act.put, sZ1, sZ2, sZ3, i64_w, i32_w]
            rfl
           refine take_ (i := 5) (N := some 55) (v := ?_) (a' := ?_) L32' rfl rfl (take_ofW HT_.out HW_.out kZ) (fun _ _ _ h => h) (Or.inl ⟨by rfl, ?_⟩) hHeld ?_ ?_
           rotate_left
           ·rintro w' ⟨s0, s1, s2, s3, s4, s5⟩
            go_simp
            with_reducible rfl
           rotate_left
           ·simp only [Act.put, sZ1, sZ2, sZ3, i64_w, i32_w]
            rfl
           refine take_ (i := 7) (N := some 57) (v := ?_) (a' := ?_) L33' rfl rfl (take_ofW HT_.out HW_.out kZ) (fun _ _ _ h => h) (Or.inl ⟨by rfl, ?_⟩) hHeld ?_ ?_
           rotate_left
           ·rintro w' ⟨s0, s1, s2, s3, s4, s5⟩
            go_simp
            with_reducible rfl
           rotate_left
           ·simp only [Act.put, sZ1, sZ2, sZ3, i64_w, i32_w]
            rfl
           refine pure_ (i := 9) (N := some 59) (v := ?_) (a' := ?_) L34' rfl rfl (any_of HT_.out kZ) (fun _ _ _ h => h) (Or.inl ⟨by rfl, ?_⟩) ?_ ?_
           rotate_left
           ·intro w'
            go_simp
            with_reducible rfl
           rotate_left
           ·simp only [Act.put, sZ1, sZ2, sZ3, i64_w, i32_w]
            rfl
           refine pure_ (i := 10) (N := some 60) (v := ?_) (a' := ?_) L35' rfl rfl (any_of HT_.out kZ) (fun _ _ _ h => h) (Or.inl ⟨by rfl, ?_⟩) ?_ ?_
           rotate_left
           ·intro w'
            go_simp
            with_reducible rfl
           rotate_left
           ·simp only [Act.put, sZ1, sZ2, sZ3, i64_w, i32_w]
            rfl
           refine take_ (i := 11) (N := some 61) (v := ?_) (a' := ?_) L36' rfl rfl (take_ofW HT_.out HW_.out kZ) (fun _ _ _ h => h) (Or.inl ⟨by rfl, ?_⟩) hHeld ?_ ?_
           rotate_left
           ·rintro w' ⟨s0, s1, s2, s3, s4, s5⟩
            go_simp
            with_reducible rfl
           rotate_left
           ·simp only [Act.put, sZ1, sZ2, sZ3, i64_w, i32_w]
            rfl
           refine pure_ (i := 12) (N := some 62) (v := ?_) (a' := ?_) L37' rfl rfl (any_of HT_.out kZ) (fun _ _ _ h => h) (Or.inl ⟨by rfl, ?_⟩) ?_ ?_
           rotate_left
           ·intro w'
            go_simp
            with_reducible rfl
           rotate_left
           ·simp only [Act.put, sZ1, sZ2, sZ3, i64_w, i32_w]
            rfl
           refine done_ (done_of HT_.out kZ) ?_
           try go_wp2
           go_ret
           exact ⟨tZC, bZ⟩
          rw [if_neg c23] at H
          have c23b0 : (((rd_T304 l0_0 x4_4).f0).toList == ((rd_T304 l0_0 x3_2).f0).toList) = false := beq_eq_false_iff_ne.mpr c23
          have c23b1 : (((rd_T304 l0_0 x4_4).f0).toList != ((rd_T304 l0_0 x3_2).f0).toList) = true := bne_iff_ne.mpr c23
          have H' := Aside0.mk H
          clear H
          try go_wp2
          replace BK111 := aZ (blk_drew BK111.out)
          replace HB := aZ (below_drew1 HB.out)
          have p116 : 0 ≤ (x4_4 : Int) := of_decide_eq_true tZE
          have q116 : x4_4 < (l0_0.length : Int) := of_decide_eq_true tZE
          obtain ⟨ad116, e116, hx116_0, hx116_1⟩ := at_T304 HR0_0.out x4_4 p116 q116
          have hw116_1 := hx116_1
          have hw116_0 := hx116_0
          cases e116
          replace hx116_0 := cZ HB hx116_0
          replace hx116_1 := cZ HB hx116_1
          replace p116 := eq_true p116
          replace q116 := eq_true q116
          have p117 : 0 ≤ (x3_2 : Int) := of_decide_eq_true tZE
          have q117 : x3_2 < (l0_0.length : Int) := of_decide_eq_true tZE
          obtain ⟨ad117, e117, hx117_0, hx117_1⟩ := at_T304 HR0_0.out x3_2 p117 q117
          have hw117_1 := hx117_1
          have hw117_0 := hx117_0
          obtain rfl : ad116 = ad117 := (by injection e117)
          replace hx117_0 := cZ HB hx117_0
          replace hx117_1 := cZ HB hx117_1
          replace p117 := eq_true p117
          replace q117 := eq_true q117
          refine start_ (n := 13) (S := fun w' => w'.cell? ⟨gb111, 0, none⟩ = some (.slice (some ad116) l0_0.length c0_0) ∧ w'.cell? ⟨gb111, 1, none⟩ = some (.slice A0_1 l0_1.length c0_1) ∧ w'.cell? (ad116.add ((x4_4).toNat * 2)) = some (.string ((rd_T304 l0_0 x4_4).f0)) ∧ w'.cell? ⟨(ad116.add ((x4_4).toNat * 2)).block, (ad116.add ((x4_4).toNat * 2)).off + 1, none⟩ = some (.int .i64 ((rd_T304 l0_0 x4_4).f1)) ∧ w'.cell? (ad116.add ((x3_2).toNat * 2)) = some (.string ((rd_T304 l0_0 x3_2).f0)) ∧ w'.cell? ⟨(ad116.add ((x3_2).toNat * 2)).block, (ad116.add ((x3_2).toNat * 2)).off + 1, none⟩ = some (.int .i64 ((rd_T304 l0_0 x3_2).f1))) (ds := []) L24' kZ rfl rfl ⟨(blk_cell BK111.out 0).trans rfl, (blk_cell BK111.out 1).trans rfl, ((HB.out.cell (World.block_lt_of_cell? w _ hw116_0)).trans hw116_0), ((HB.out.cell (World.block_lt_of_cell? w _ hw116_1)).trans hw116_1), ((HB.out.cell (World.block_lt_of_cell? w _ hw117_0)).trans hw117_0), ((HB.out.cell (World.block_lt_of_cell? w _ hw117_1)).trans hw117_1)⟩ (fun hHeld => ?_); refine with_tabW spec_RegisterOk.tab11 spec_RegisterOk.bits11 (fun HT_ HW_ => ?_)
          generalize wr.drew = w25 at BK111 HB hx116_0 hx116_1 hx117_0 hx117_1 hHeld ⊢
          refine pure_ (i := 0) (N := some 50) (v := ?_) (a' := ?_) L25' rfl rfl (any_of HT_.out kZ) (fun _ _ _ h => h) (Or.inl ⟨by rfl, ?_⟩) ?_ ?_
          rotate_left
          ·intro w'
           go_simp
           with_reducible rfl
          rotate_left
          ·simp only [Act.put, sZ1, sZ2, sZ3, i64_w, i32_w]
           rfl
          refine pure_ (i := 2) (N := some 52) (v := ?_) (a' := ?_) L26' rfl rfl (any_of HT_.out kZ) (fun _ _ _ h => h) (Or.inl ⟨by rfl, ?_⟩) ?_ ?_
          rotate_left
          ·intro w'
           go_simp
           with_reducible rfl
          rotate_left
          ·simp only [Act.put, sZ1, sZ2, sZ3, i64_w, i32_w]
           rfl
          refine pure_ (i := 6) (N := some 56) (v := ?_) (a' := ?_) L27' rfl rfl (any_of HT_.out kZ) (fun _ _ _ h => h) (Or.inl ⟨by rfl, ?_⟩) ?_ ?_
          rotate_left
          ·intro w'
           go_simp
           with_reducible rfl
          rotate_left
          ·simp only [Act.put, sZ1, sZ2, sZ3, i64_w, i32_w]
           rfl
          refine pure_ (i := 8) (N := some 58) (v := ?_) (a' := ?_) L28' rfl rfl (any_of HT_.out kZ) (fun _ _ _ h => h) (Or.inl ⟨by rfl, ?_⟩) ?_ ?_
          rotate_left
          ·intro w'
           go_simp
           with_reducible rfl
          rotate_left
          ·simp only [Act.put, sZ1, sZ2, sZ3, i64_w, i32_w]
           rfl
          refine take_ (i := 1) (N := some 51) (v := ?_) (a' := ?_) L29' rfl rfl (take_ofW HT_.out HW_.out kZ) (fun _ _ _ h => h) (Or.inl ⟨by rfl, ?_⟩) hHeld ?_ ?_
          rotate_left
          ·rintro w' ⟨s0, s1, s2, s3, s4, s5⟩
           go_simp
           with_reducible rfl
          rotate_left
          ·simp only [Act.put, sZ1, sZ2, sZ3, i64_w, i32_w]
           rfl
          refine pure_ (i := 3) (N := some 53) (v := ?_) (a' := ?_) L30' rfl rfl (any_of HT_.out kZ) (fun _ _ _ h => h) (Or.inl ⟨by rfl, ?_⟩) ?_ ?_
          rotate_left
          ·intro w'
           go_simp
           with_reducible rfl
          rotate_left
          ·simp only [Act.put, sZ1, sZ2, sZ3, i64_w, i32_w]
           rfl
          refine pure_ (i := 4) (N := some 54) (v := ?_) (a' := ?_) L31' rfl rfl (any_of HT_.out kZ) (fun _ _ _ h => h) (Or.inl ⟨by rfl, ?_⟩) ?_ ?_
          rotate_left
          ·intro w'
           go_simp
           with_reducible rfl
          rotate_left
          ·simp only [Act.put, sZ1, sZ2, sZ3, i64_w, i32_w]
           rfl
          refine take_ (i := 5) (N := some 55) (v := ?_) (a' := ?_) L32' rfl rfl (take_ofW HT_.out HW_.out kZ) (fun _ _ _ h => h) (Or.inl ⟨by rfl, ?_⟩) hHeld ?_ ?_
          rotate_left
          ·rintro w' ⟨s0, s1, s2, s3, s4, s5⟩
           go_simp
           with_reducible rfl
          rotate_left
          ·simp only [Act.put, sZ1, sZ2, sZ3, i64_w, i32_w]
           rfl
          refine take_ (i := 7) (N := some 57) (v := ?_) (a' := ?_) L33' rfl rfl (take_ofW HT_.out HW_.out kZ) (fun _ _ _ h => h) (Or.inl ⟨by rfl, ?_⟩) hHeld ?_ ?_
          rotate_left
          ·rintro w' ⟨s0, s1, s2, s3, s4, s5⟩
           go_simp
           with_reducible rfl
          rotate_left
          ·simp only [Act.put, sZ1, sZ2, sZ3, i64_w, i32_w]
           rfl
          refine pure_ (i := 9) (N := some 59) (v := ?_) (a' := ?_) L34' rfl rfl (any_of HT_.out kZ) (fun _ _ _ h => h) (Or.inl ⟨by rfl, ?_⟩) ?_ ?_
          rotate_left
          ·intro w'
           go_simp
           with_reducible rfl
          rotate_left
          ·simp only [Act.put, sZ1, sZ2, sZ3, i64_w, i32_w]
           rfl
          refine pure_ (i := 10) (N := some 60) (v := ?_) (a' := ?_) L35' rfl rfl (any_of HT_.out kZ) (fun _ _ _ h => h) (Or.inl ⟨by rfl, ?_⟩) ?_ ?_
          rotate_left
          ·intro w'
           go_simp
           with_reducible rfl
          rotate_left
          ·simp only [Act.put, sZ1, sZ2, sZ3, i64_w, i32_w]
           rfl
          refine take_ (i := 11) (N := some 61) (v := ?_) (a' := ?_) L36' rfl rfl (take_ofW HT_.out HW_.out kZ) (fun _ _ _ h => h) (Or.inl ⟨by rfl, ?_⟩) hHeld ?_ ?_
          rotate_left
          ·rintro w' ⟨s0, s1, s2, s3, s4, s5⟩
           go_simp
           with_reducible rfl
          rotate_left
          ·simp only [Act.put, sZ1, sZ2, sZ3, i64_w, i32_w]
           rfl
          refine pure_ (i := 12) (N := some 62) (v := ?_) (a' := ?_) L37' rfl rfl (any_of HT_.out kZ) (fun _ _ _ h => h) (Or.inl ⟨by rfl, ?_⟩) ?_ ?_
          rotate_left
          ·intro w'
           go_simp
           with_reducible rfl
          rotate_left
          ·simp only [Act.put, sZ1, sZ2, sZ3, i64_w, i32_w]
           rfl
          refine done_ (done_of HT_.out kZ) ?_
          try go_wp2
          go_roundg k4
          case measure => have := HJ1.out; have := HK2.out; have := HJ8.out; have := HK4.out; omega
          case rel => exact ⟨(wrap64 (x4_4 + 1)), tZB, H', ⟨by have := HJ1.out; have := HK2.out; have := HJ8.out; have := HK4.out; omega⟩, ⟨bkZ BK111.out⟩, ⟨bZ⟩⟩
         rw [if_neg c18] at H
         have c18b0 := decide_eq_false c18
         clear c18
         have H' := Aside0.mk H
         clear H
         go_wp2
         go_loopg [5, 6, 7] k4 (fun kq v5 v6 v7 w' => ∃ (x5_5 : Int) (x6_5 : Int) (x7_5 : Int), v5 = .int .i64 x5_5 ∧ v6 = .int .i64 x6_5 ∧ v7 = .int .i64 x7_5 ∧ Aside0 (spec_RegisterOk.l2 kq x3_2 x5_5 x6_5 x7_5 l0_0 l0_1 = some r) ∧ Aside0 (kq ≤ k4) ∧ Aside0 (w'.heap[gb111]? = some (.cells #[(.slice A0_0 l0_0.length c0_0), (.slice A0_1 l0_1.length c0_1)] 86 (0, 0))) ∧ Aside0 (Below w.heap.size w w'))
         case atStart => exact ⟨(0), (0), (0), tZB, tZB, tZB, H', ⟨Nat.le_refl _⟩, ⟨bkZ BK111.out⟩, ⟨bZ⟩⟩
         case round =>
          clear H'
          try clear c1
          try clear p1
          try clear q1
          try clear hx1
          try clear c2
          try clear p2
          try clear c4
          try clear c4b0
          try clear c4b1
          try clear p6
          try clear c7
          try clear c8
          try clear c8b0
          try clear c11
          try clear c11b0
          try clear p11
          try clear q11
          try clear hx11
          try clear c13
          try clear c14
          try clear c17
          try clear c18
          try clear c18b0
          try clear c19
          try clear c19b0
          try clear c20
          try clear c20b0
          try clear c21
          try clear c21b0
          try clear c22
          try clear c22b0
          try clear c23
          try clear c23b0
          try clear c23b1
          try clear hcz10_0
          try clear hcz10_1
          try clear hcz15_0
          try clear hcz15_1
          try clear hcz16_0
          try clear hcz16_1
          try clear hcz5_0
          try clear hcz5_1
          try clear hcz6_0
          try clear hcz6_1
          try clear hfz10_0
          try clear hfz10_1
          try clear hfz15_0
          try clear hfz15_1
          try clear hfz16_0
          try clear hfz16_1
          try clear hfz5_0
          try clear hfz5_1
          try clear hfz6_0
          try clear hfz6_1
          try clear hx112_0
          try clear hx112_1
          try clear hx114_0
          try clear hx114_1
          try clear hx116_0
          try clear hx116_1
          try clear hx117_0
          try clear hx117_1
          try clear p1
          try clear p11
          try clear p112
          try clear p114
          try clear p116
          try clear p117
          try clear p2
          try clear q1
          try clear q11
          try clear q112
          try clear q114
          try clear q116
          try clear q117
          obtain ⟨x5_5, x6_5, x7_5, rfl, rfl, rfl, HA, HK5, BK111, HB⟩ := hrel
          cases gk with
          | zero => exact absurd HA.out (by simp [spec_RegisterOk.l2])
          | succ k5 =>
           have H := HA.out
           clear HA
           simp only [spec_RegisterOk.l2] at H
           by_cases c26 : x7_5 < (l0_1.length : Int)
           rotate_left
           ·rw [if_neg c26] at H
            have c26b0 := decide_eq_false c26
            clear c26
            have H' := Aside0.mk H
            clear H
            have hcz66_0 : wr.cell? ⟨gb111, 0, none⟩ = some (.slice A0_0 l0_0.length c0_0) := (blk_cell BK111.out 0).trans rfl
            have hcz66_1 : wr.cell? ⟨gb111, 1, none⟩ = some (.slice A0_1 l0_1.length c0_1) := (blk_cell BK111.out 1).trans rfl
            have hfz66_0 := blk_frozen BK111.out 0
            have hfz66_1 := blk_frozen BK111.out 1
            go_wp2
            go_roundg k5
            case measure => have := HJ1.out; have := HK2.out; have := HJ8.out; have := HK4.out; have := HK5.out; omega
            case rel => exact ⟨(wrap64 (x3_2 + 1)), tZB, H', ⟨by have := HJ1.out; have := HK2.out; have := HJ8.out; have := HK4.out; have := HK5.out; omega⟩, ⟨bkZ BK111.out⟩, ⟨bZ⟩⟩
           rw [if_pos c26] at H
           have c26b0 := decide_eq_true c26
           clear c26
           by_cases c27 : 0 ≤ x7_5
           rotate_left
           ·rw [if_neg c27] at H
            exact absurd H (by simp)
           rw [if_pos c27] at H
           have c27b0 := decide_eq_true c27
           clear c27
           by_cases c28 : ((rd_T230 l0_1 x7_5).f0) = x3_2
           rotate_left
           ·rw [if_neg c28] at H
            have c28b0 : (((rd_T230 l0_1 x7_5).f0) == x3_2) = false := beq_eq_false_iff_ne.mpr c28
            have c28b1 : (((rd_T230 l0_1 x7_5).f0) != x3_2) = true := bne_iff_ne.mpr c28
            have H' := Aside0.mk H
            clear H
            have hcz62_0 : wr.cell? ⟨gb111, 0, none⟩ = some (.slice A0_0 l0_0.length c0_0) := (blk_cell BK111.out 0).trans rfl
            have hcz62_1 : wr.cell? ⟨gb111, 1, none⟩ = some (.slice A0_1 l0_1.length c0_1) := (blk_cell BK111.out 1).trans rfl
            have hfz62_0 := blk_frozen BK111.out 0
            have hfz62_1 := blk_frozen BK111.out 1
            have p118 : 0 ≤ (x7_5 : Int) := of_decide_eq_true tZE
            have q118 : x7_5 < (l0_1.length : Int) := of_decide_eq_true tZE
            obtain ⟨ad118, e118, hx118_0, hx118_1, hx118_2, hx118_3⟩ := at_T230 HR0_1.out x7_5 p118 q118
            cases e118
            replace hx118_0 := cZ HB hx118_0
            replace hx118_1 := cZ HB hx118_1
            replace hx118_2 := cZ HB hx118_2
            replace hx118_3 := cZ HB hx118_3
            replace p118 := eq_true p118
            replace q118 := eq_true q118
            go_wp2_with (first | ((with_reducible refine gate_dst (N := 8) rfl ?_); (try (refine gate_guard (by rfl) ?_; dsimp only)); refine box_event ?hg (N := 8) ?hd (cs := #[.int .i64 0, .int .i64 0, .int .i64 0, .bool false]) (t := 230) ?hr ?_; (case hd => rfl); (case hg => rfl); (case hr => first | (go_simp; done) | (go_simp; rfl)); intro gb119 hg w63 hbox hb; have BK119 := aZ (hbox); have GW119 := aZ ((by rw [hg]; exact (below_size bZ) : w.heap.size ≤ gb119)); have GE119 := aZ ((by rw [hg]; exact (below_size bZ) : w.heap.size ≤ gb119)); replace HB := aZ (below_step bZ hb); have NB111_119 := aZ ((by rw [hg]; exact Nat.ne_of_lt (blk_lt (bkZ BK111.out)) : gb111 ≠ gb119)); have NB119_111 := aZ ((by rw [hg]; exact Nat.ne_of_gt (blk_lt (bkZ BK111.out)) : gb119 ≠ gb111)); replace BK111 := aZ (blk_below (bkZ BK111.out) hb); clear hb hbox hg; have hnb64 := NB119_111.out; have hnc64 := NB111_119.out; have hcz65_0 : w63.cell? ⟨gb119, 0, none⟩ = some (.int .i64 0) := (blk_cell BK119.out 0).trans rfl; have hcz65_1 : w63.cell? ⟨gb119, 1, none⟩ = some (.int .i64 0) := (blk_cell BK119.out 1).trans rfl; have hcz65_2 : w63.cell? ⟨gb119, 2, none⟩ = some (.int .i64 0) := (blk_cell BK119.out 2).trans rfl; have hcz65_3 : w63.cell? ⟨gb119, 3, none⟩ = some (.bool false) := (blk_cell BK119.out 3).trans rfl; have hfz65_0 := blk_frozen BK119.out 0; have hfz65_1 := blk_frozen BK119.out 1; have hfz65_2 := blk_frozen BK119.out 2; have hfz65_3 := blk_frozen BK119.out 3))
            go_roundg k5
            case measure => have := HJ1.out; have := HK2.out; have := HJ8.out; have := HK4.out; have := HK5.out; omega
            case rel => exact ⟨(x5_5), (x6_5), (wrap64 (x7_5 + 1)), tZB, tZB, tZB, H', ⟨by have := HJ1.out; have := HK2.out; have := HJ8.out; have := HK4.out; have := HK5.out; omega⟩, ⟨by (with_reducible repeat (first | refine blk_drewN ?_ _ | refine blk_drew ?_ | refine blk_alloc ?_ _)); refine blk_far ?_ NB111_119.out _; (with_reducible repeat (first | refine blk_drewN ?_ _ | refine blk_drew ?_ | refine blk_alloc ?_ _)); refine blk_far ?_ NB111_119.out _; (with_reducible repeat (first | refine blk_drewN ?_ _ | refine blk_drew ?_ | refine blk_alloc ?_ _)); refine blk_far ?_ NB111_119.out _; (with_reducible repeat (first | refine blk_drewN ?_ _ | refine blk_drew ?_ | refine blk_alloc ?_ _)); refine blk_far ?_ NB111_119.out _; (with_reducible repeat (first | refine blk_drewN ?_ _ | refine blk_drew ?_ | refine blk_alloc ?_ _)); exact BK111.out⟩, ⟨bZ⟩⟩
           rw [if_pos c28] at H
           have c28b0 : (((rd_T230 l0_1 x7_5).f0) == x3_2) = true := beq_iff_eq.mpr c28
           have c28b1 : (((rd_T230 l0_1 x7_5).f0) != x3_2) = false := bne_eq_false_iff_eq.mpr c28
           clear c28
           by_cases c29 : ((rd_T230 l0_1 x7_5).f1) = (wrap64 (x5_5 + 1))
           rotate_left
           ·rw [if_neg c29] at H
            have c29b0 : (((rd_T230 l0_1 x7_5).f1) == (wrap64 (x5_5 + 1))) = false := beq_eq_false_iff_ne.mpr c29
            have c29b1 : (((rd_T230 l0_1 x7_5).f1) != (wrap64 (x5_5 + 1))) = true := bne_iff_ne.mpr c29
            obtain rfl := Option.some.inj H
            have hcz56_0 : wr.cell? ⟨gb111, 0, none⟩ = some (.slice A0_0 l0_0.length c0_0) := (blk_cell BK111.out 0).trans rfl
            have hcz56_1 : wr.cell? ⟨gb111, 1, none⟩ = some (.slice A0_1 l0_1.length c0_1) := (blk_cell BK111.out 1).trans rfl
            have hfz56_0 := blk_frozen BK111.out 0
            have hfz56_1 := blk_frozen BK111.out 1
            have p118 : 0 ≤ (x7_5 : Int) := of_decide_eq_true tZE
            have q118 : x7_5 < (l0_1.length : Int) := of_decide_eq_true tZE
            obtain ⟨ad118, e118, hx118_0, hx118_1, hx118_2, hx118_3⟩ := at_T230 HR0_1.out x7_5 p118 q118
            cases e118
            replace hx118_0 := cZ HB hx118_0
            replace hx118_1 := cZ HB hx118_1
            replace hx118_2 := cZ HB hx118_2
            replace hx118_3 := cZ HB hx118_3
            replace p118 := eq_true p118
            replace q118 := eq_true q118
            try go_wp2_with (first | ((with_reducible refine gate_dst (N := 8) rfl ?_); (try (refine gate_guard (by rfl) ?_; dsimp only)); refine box_event ?hg (N := 8) ?hd (cs := #[.int .i64 0, .int .i64 0, .int .i64 0, .bool false]) (t := 230) ?hr ?_; (case hd => rfl); (case hg => rfl); (case hr => first | (go_simp; done) | (go_simp; rfl)); intro gb119 hg w57 hbox hb; have BK119 := aZ (hbox); have GW119 := aZ ((by rw [hg]; exact (below_size bZ) : w.heap.size ≤ gb119)); have GE119 := aZ ((by rw [hg]; exact (below_size bZ) : w.heap.size ≤ gb119)); replace HB := aZ (below_step bZ hb); have NB111_119 := aZ ((by rw [hg]; exact Nat.ne_of_lt (blk_lt (bkZ BK111.out)) : gb111 ≠ gb119)); have NB119_111 := aZ ((by rw [hg]; exact Nat.ne_of_gt (blk_lt (bkZ BK111.out)) : gb119 ≠ gb111)); replace BK111 := aZ (blk_below (bkZ BK111.out) hb); clear hb hbox hg; have hnb58 := NB119_111.out; have hnc58 := NB111_119.out; have hcz59_0 : w57.cell? ⟨gb119, 0, none⟩ = some (.int .i64 0) := (blk_cell BK119.out 0).trans rfl; have hcz59_1 : w57.cell? ⟨gb119, 1, none⟩ = some (.int .i64 0) := (blk_cell BK119.out 1).trans rfl; have hcz59_2 : w57.cell? ⟨gb119, 2, none⟩ = some (.int .i64 0) := (blk_cell BK119.out 2).trans rfl; have hcz59_3 : w57.cell? ⟨gb119, 3, none⟩ = some (.bool false) := (blk_cell BK119.out 3).trans rfl; have hfz59_0 := blk_frozen BK119.out 0; have hfz59_1 := blk_frozen BK119.out 1; have hfz59_2 := blk_frozen BK119.out 2; have hfz59_3 := blk_frozen BK119.out 3))
            have n0_ : Aside0 (((((w57.setCell ⟨gb119, 0, none⟩ (.int .i64 ((rd_T230 l0_1 x7_5).f0))).setCell ⟨gb119, 1, none⟩ (.int .i64 ((rd_T230 l0_1 x7_5).f1))).setCell ⟨gb119, 2, none⟩ (.int .i64 ((rd_T230 l0_1 x7_5).f2))).setCell ⟨gb119, 3, none⟩ (.bool ((rd_T230 l0_1 x7_5).f3))).heap[gb111]? = some (.cells #[.slice A0_0 l0_0.length c0_0, .slice (some ad118) l0_1.length c0_1] 86 (0, 0))) := ⟨by (with_reducible repeat (first | refine blk_drewN ?_ _ | refine blk_drew ?_ | refine blk_alloc ?_ _)); refine blk_far ?_ NB111_119.out _; (with_reducible repeat (first | refine blk_drewN ?_ _ | refine blk_drew ?_ | refine blk_alloc ?_ _)); refine blk_far ?_ NB111_119.out _; (with_reducible repeat (first | refine blk_drewN ?_ _ | refine blk_drew ?_ | refine blk_alloc ?_ _)); refine blk_far ?_ NB111_119.out _; (with_reducible repeat (first | refine blk_drewN ?_ _ | refine blk_drew ?_ | refine blk_alloc ?_ _)); refine blk_far ?_ NB111_119.out _; (with_reducible repeat (first | refine blk_drewN ?_ _ | refine blk_drew ?_ | refine blk_alloc ?_ _)); exact BK111.out⟩
            have n1_ : Aside0 (((((w57.setCell ⟨gb119, 0, none⟩ (.int .i64 ((rd_T230 l0_1 x7_5).f0))).setCell ⟨gb119, 1, none⟩ (.int .i64 ((rd_T230 l0_1 x7_5).f1))).setCell ⟨gb119, 2, none⟩ (.int .i64 ((rd_T230 l0_1 x7_5).f2))).setCell ⟨gb119, 3, none⟩ (.bool ((rd_T230 l0_1 x7_5).f3))).heap[gb119]? = some (.cells #[.int .i64 ((rd_T230 l0_1 x7_5).f0), .int .i64 ((rd_T230 l0_1 x7_5).f1), .int .i64 ((rd_T230 l0_1 x7_5).f2), .bool ((rd_T230 l0_1 x7_5).f3)] 230 (0, 0))) := ⟨by (with_reducible repeat (first | refine blk_drewN ?_ _ | refine blk_drew ?_ | refine blk_alloc ?_ _)); refine blk_put (cs := #[.int .i64 ((rd_T230 l0_1 x7_5).f0), .int .i64 ((rd_T230 l0_1 x7_5).f1), .int .i64 ((rd_T230 l0_1 x7_5).f2), .bool false]) ?_ 3 _ rfl; (with_reducible repeat (first | refine blk_drewN ?_ _ | refine blk_drew ?_ | refine blk_alloc ?_ _)); refine blk_put (cs := #[.int .i64 ((rd_T230 l0_1 x7_5).f0), .int .i64 ((rd_T230 l0_1 x7_5).f1), .int .i64 0, .bool false]) ?_ 2 _ rfl; (with_reducible repeat (first | refine blk_drewN ?_ _ | refine blk_drew ?_ | refine blk_alloc ?_ _)); refine blk_put (cs := #[.int .i64 ((rd_T230 l0_1 x7_5).f0), .int .i64 0, .int .i64 0, .bool false]) ?_ 1 _ rfl; (with_reducible repeat (first | refine blk_drewN ?_ _ | refine blk_drew ?_ | refine blk_alloc ?_ _)); refine blk_put (cs := #[.int .i64 0, .int .i64 0, .int .i64 0, .bool false]) ?_ 0 _ rfl; (with_reducible repeat (first | refine blk_drewN ?_ _ | refine blk_drew ?_ | refine blk_alloc ?_ _)); exact BK119.out⟩
            have n2_ : Aside0 (Below w.heap.size w ((((w57.setCell ⟨gb119, 0, none⟩ (.int .i64 ((rd_T230 l0_1 x7_5).f0))).setCell ⟨gb119, 1, none⟩ (.int .i64 ((rd_T230 l0_1 x7_5).f1))).setCell ⟨gb119, 2, none⟩ (.int .i64 ((rd_T230 l0_1 x7_5).f2))).setCell ⟨gb119, 3, none⟩ (.bool ((rd_T230 l0_1 x7_5).f3)))) := ⟨bZ⟩
            (try clear BK111)
            (try clear BK119)
            (try clear HB)
            generalize ((((w57.setCell ⟨gb119, 0, none⟩ (.int .i64 ((rd_T230 l0_1 x7_5).f0))).setCell ⟨gb119, 1, none⟩ (.int .i64 ((rd_T230 l0_1 x7_5).f1))).setCell ⟨gb119, 2, none⟩ (.int .i64 ((rd_T230 l0_1 x7_5).f2))).setCell ⟨gb119, 3, none⟩ (.bool ((rd_T230 l0_1 x7_5).f3))) = w60 at n0_ n1_ n2_ ⊢
            have BK111 := n0_
            have BK119 := n1_
            have HB := n2_
            clear n0_ n1_ n2_
            replace BK111 := aZ (blk_drew BK111.out)
            replace BK119 := aZ (blk_drew BK119.out)
            replace HB := aZ (below_drew1 HB.out)
            refine start_ (n := 22) (S := fun w' => w'.cell? ⟨gb119, 0, none⟩ = some (.int .i64 ((rd_T230 l0_1 x7_5).f0)) ∧ w'.cell? ⟨gb119, 1, none⟩ = some (.int .i64 ((rd_T230 l0_1 x7_5).f1)) ∧ w'.cell? ⟨gb119, 2, none⟩ = some (.int .i64 ((rd_T230 l0_1 x7_5).f2)) ∧ w'.cell? ⟨gb119, 3, none⟩ = some (.bool ((rd_T230 l0_1 x7_5).f3))) (ds := []) L0' kZ rfl rfl ⟨(blk_cell BK119.out 0).trans rfl, (blk_cell BK119.out 1).trans rfl, (blk_cell BK119.out 2).trans rfl, (blk_cell BK119.out 3).trans rfl⟩ (fun hHeld => ?_); refine with_tabW spec_RegisterOk.tab21 spec_RegisterOk.bits21 (fun HT_ HW_ => ?_)
            generalize w60.drew = w61 at BK111 BK119 HB hHeld ⊢
            refine pure_ (i := 0) (N := some 81) (v := ?_) (a' := ?_) L1' rfl rfl (any_of HT_.out kZ) (fun _ _ _ h => h) (Or.inl ⟨by rfl, ?_⟩) ?_ ?_
            rotate_left
            ·intro w'
             go_simp
             with_reducible rfl
            rotate_left
            ·simp only [Act.put, sZ1, sZ2, sZ3, i64_w, i32_w]
             rfl
            refine pure_ (i := 2) (N := some 83) (v := ?_) (a' := ?_) L2' rfl rfl (any_of HT_.out kZ) (fun _ _ _ h => h) (Or.inl ⟨by rfl, ?_⟩) ?_ ?_
            rotate_left
            ·intro w'
             go_simp
             with_reducible rfl
            rotate_left
            ·simp only [Act.put, sZ1, sZ2, sZ3, i64_w, i32_w]
             rfl
            refine take_ (i := 1) (N := some 82) (v := ?_) (a' := ?_) L38' rfl rfl (take_ofW HT_.out HW_.out kZ) (fun _ _ _ h => h) (Or.inl ⟨by rfl, ?_⟩) hHeld ?_ ?_
            rotate_left
            ·rintro w' ⟨s0, s1, s2, s3⟩
             go_simp
             with_reducible rfl
            rotate_left
            ·simp only [Act.put, sZ1, sZ2, sZ3, i64_w, i32_w]
             rfl
            refine pure_ (i := 3) (N := some 84) (v := ?_) (a' := ?_) L39' rfl rfl (any_of HT_.out kZ) (fun _ _ _ h => h) (Or.inl ⟨by rfl, ?_⟩) ?_ ?_
            rotate_left
            ·intro w'
             go_simp
             with_reducible rfl
            rotate_left
            ·simp only [Act.put, sZ1, sZ2, sZ3, i64_w, i32_w]
             rfl
            refine pure_ (i := 4) (N := some 85) (v := ?_) (a' := ?_) L40' rfl rfl (any_of HT_.out kZ) (fun _ _ _ h => h) (Or.inl ⟨by rfl, ?_⟩) ?_ ?_
            rotate_left
            ·intro w'
             go_simp
             with_reducible rfl
            rotate_left
            ·simp only [Act.put, sZ1, sZ2, sZ3, i64_w, i32_w]
             rfl
            refine pure_ (i := 5) (N := some 86) (v := undef) (a' := ?_) L41' rfl rfl (any_of HT_.out kZ) (fun _ _ _ h => h) (Or.inr ⟨by rfl, rfl⟩) ?_ ?_
            rotate_left
            ·simp only [Act.put, sZ1, sZ2, sZ3, i64_w, i32_w]
             rfl
            refine pure_ (i := 6) (N := some 87) (v := undef) (a' := ?_) L7' rfl rfl (any_of HT_.out kZ) (fun _ _ _ h => h) (Or.inr ⟨by rfl, rfl⟩) ?_ ?_
            rotate_left
            ·simp only [Act.put, sZ1, sZ2, sZ3, i64_w, i32_w]
             rfl
            refine pure_ (i := 7) (N := some 88) (v := undef) (a' := ?_) L8' rfl rfl (any_of HT_.out kZ) (fun _ _ _ h => h) (Or.inr ⟨by rfl, rfl⟩) ?_ ?_
            rotate_left
            ·simp only [Act.put, sZ1, sZ2, sZ3, i64_w, i32_w]
             rfl
            refine pure_ (i := 8) (N := some 89) (v := undef) (a' := ?_) L9' rfl rfl (any_of HT_.out kZ) (fun _ _ _ h => h) (Or.inr ⟨by rfl, rfl⟩) ?_ ?_
            rotate_left
            ·simp only [Act.put, sZ1, sZ2, sZ3, i64_w, i32_w]
             rfl
            refine pure_ (i := 9) (N := some 90) (v := ?_) (a' := ?_) L10' rfl rfl (any_of HT_.out kZ) (fun _ _ _ h => h) (Or.inl ⟨by rfl, ?_⟩) ?_ ?_
            rotate_left
            ·intro w'
             go_simp
             with_reducible rfl
            rotate_left
            ·simp only [Act.put, sZ1, sZ2, sZ3, i64_w, i32_w]
             rfl
            refine pure_ (i := 10) (N := some 91) (v := ?_) (a' := ?_) L11' rfl rfl (any_of HT_.out kZ) (fun _ _ _ h => h) (Or.inl ⟨by rfl, ?_⟩) ?_ ?_
            rotate_left
            ·intro w'
             go_simp
             with_reducible rfl
            rotate_left
            ·simp only [Act.put, sZ1, sZ2, sZ3, i64_w, i32_w]
             rfl
            refine pure_ (i := 11) (N := some 92) (v := undef) (a' := ?_) L12' rfl rfl (any_of HT_.out kZ) (fun _ _ _ h => h) (Or.inr ⟨by rfl, rfl⟩) ?_ ?_
            rotate_left
            ·simp only [Act.put, sZ1, sZ2, sZ3, i64_w, i32_w]
             rfl
            refine pure_ (i := 12) (N := some 93) (v := undef) (a' := ?_) L13' rfl rfl (any_of HT_.out kZ) (fun _ _ _ h => h) (Or.inr ⟨by rfl, rfl⟩) ?_ ?_
            rotate_left
            ·simp only [Act.put, sZ1, sZ2, sZ3, i64_w, i32_w]
             rfl
            refine pure_ (i := 13) (N := some 94) (v := undef) (a' := ?_) L14' rfl rfl (any_of HT_.out kZ) (fun _ _ _ h => h) (Or.inr ⟨by rfl, rfl⟩) ?_ ?_
            rotate_left
            ·simp only [Act.put, sZ1, sZ2, sZ3, i64_w, i32_w]
             rfl
            refine pure_ (i := 14) (N := some 95) (v := undef) (a' := ?_) L15' rfl rfl (any_of HT_.out kZ) (fun _ _ _ h => h) (Or.inr ⟨by rfl, rfl⟩) ?_ ?_
            rotate_left
            ·simp only [Act.put, sZ1, sZ2, sZ3, i64_w, i32_w]
             rfl
            refine pure_ (i := 15) (N := some 96) (v := undef) (a' := ?_) L16' rfl rfl (any_of HT_.out kZ) (fun _ _ _ h => h) (Or.inr ⟨by rfl, rfl⟩) ?_ ?_
            rotate_left
            ·simp only [Act.put, sZ1, sZ2, sZ3, i64_w, i32_w]
             rfl
            refine pure_ (i := 16) (N := some 97) (v := undef) (a' := ?_) L17' rfl rfl (any_of HT_.out kZ) (fun _ _ _ h => h) (Or.inr ⟨by rfl, rfl⟩) ?_ ?_
            rotate_left
            ·simp only [Act.put, sZ1, sZ2, sZ3, i64_w, i32_w]
             rfl
            refine pure_ (i := 17) (N := some 98) (v := undef) (a' := ?_) L18' rfl rfl (any_of HT_.out kZ) (fun _ _ _ h => h) (Or.inr ⟨by rfl, rfl⟩) ?_ ?_
            rotate_left
            ·simp only [Act.put, sZ1, sZ2, sZ3, i64_w, i32_w]
             rfl
            refine pure_ (i := 18) (N := some 99) (v := undef) (a' := ?_) L19' rfl rfl (any_of HT_.out kZ) (fun _ _ _ h => h) (Or.inr ⟨by rfl, rfl⟩) ?_ ?_
            rotate_left
            ·simp only [Act.put, sZ1, sZ2, sZ3, i64_w, i32_w]
             rfl
            refine pure_ (i := 19) (N := some 100) (v := undef) (a' := ?_) L20' rfl rfl (any_of HT_.out kZ) (fun _ _ _ h => h) (Or.inr ⟨by rfl, rfl⟩) ?_ ?_
            rotate_left
            ·simp only [Act.put, sZ1, sZ2, sZ3, i64_w, i32_w]
             rfl
            refine pure_ (i := 20) (N := some 101) (v := undef) (a' := ?_) L21' rfl rfl (any_of HT_.out kZ) (fun _ _ _ h => h) (Or.inr ⟨by rfl, rfl⟩) ?_ ?_
            rotate_left
            ·simp only [Act.put, sZ1, sZ2, sZ3, i64_w, i32_w]
             rfl
            refine pure_ (i := 21) (N := some 102) (v := ?_) (a' := ?_) L22' rfl rfl (any_of HT_.out kZ) (fun _ _ _ h => h) (Or.inl ⟨by rfl, ?_⟩) ?_ ?_
            rotate_left
            ·intro w'
             go_simp
             with_reducible rfl
            rotate_left
            ·simp only [Act.put, sZ1, sZ2, sZ3, i64_w, i32_w]
             rfl
            refine done_ (done_of HT_.out kZ) ?_
            try go_wp2
            go_ret
            exact ⟨tZC, bZ⟩
           rw [if_pos c29] at H
           have c29b0 : (((rd_T230 l0_1 x7_5).f1) == (wrap64 (x5_5 + 1))) = true := beq_iff_eq.mpr c29
           have c29b1 : (((rd_T230 l0_1 x7_5).f1) != (wrap64 (x5_5 + 1))) = false := bne_eq_false_iff_eq.mpr c29
           clear c29
           by_cases c30 : ((rd_T230 l0_1 x7_5).f2) < x6_5
           ·rw [if_pos c30] at H
            have c30b0 := decide_eq_true c30
            clear c30
            obtain rfl := Option.some.inj H
            have hcz31_0 : wr.cell? ⟨gb111, 0, none⟩ = some (.slice A0_0 l0_0.length c0_0) := (blk_cell BK111.out 0).trans rfl
            have hcz31_1 : wr.cell? ⟨gb111, 1, none⟩ = some (.slice A0_1 l0_1.length c0_1) := (blk_cell BK111.out 1).trans rfl
            have hfz31_0 := blk_frozen BK111.out 0
            have hfz31_1 := blk_frozen BK111.out 1
            have p118 : 0 ≤ (x7_5 : Int) := of_decide_eq_true tZE
            have q118 : x7_5 < (l0_1.length : Int) := of_decide_eq_true tZE
            obtain ⟨ad118, e118, hx118_0, hx118_1, hx118_2, hx118_3⟩ := at_T230 HR0_1.out x7_5 p118 q118
            cases e118
            replace hx118_0 := cZ HB hx118_0
            replace hx118_1 := cZ HB hx118_1
            replace hx118_2 := cZ HB hx118_2
            replace hx118_3 := cZ HB hx118_3
            replace p118 := eq_true p118
            replace q118 := eq_true q118
            try go_wp2_with (first | ((with_reducible refine gate_dst (N := 8) rfl ?_); (try (refine gate_guard (by rfl) ?_; dsimp only)); refine box_event ?hg (N := 8) ?hd (cs := #[.int .i64 0, .int .i64 0, .int .i64 0, .bool false]) (t := 230) ?hr ?_; (case hd => rfl); (case hg => rfl); (case hr => first | (go_simp; done) | (go_simp; rfl)); intro gb119 hg w32 hbox hb; have BK119 := aZ (hbox); have GW119 := aZ ((by rw [hg]; exact (below_size bZ) : w.heap.size ≤ gb119)); have GE119 := aZ ((by rw [hg]; exact (below_size bZ) : w.heap.size ≤ gb119)); replace HB := aZ (below_step bZ hb); have NB111_119 := aZ ((by rw [hg]; exact Nat.ne_of_lt (blk_lt (bkZ BK111.out)) : gb111 ≠ gb119)); have NB119_111 := aZ ((by rw [hg]; exact Nat.ne_of_gt (blk_lt (bkZ BK111.out)) : gb119 ≠ gb111)); replace BK111 := aZ (blk_below (bkZ BK111.out) hb); clear hb hbox hg; have hnb33 := NB119_111.out; have hnc33 := NB111_119.out; have hcz34_0 : w32.cell? ⟨gb119, 0, none⟩ = some (.int .i64 0) := (blk_cell BK119.out 0).trans rfl; have hcz34_1 : w32.cell? ⟨gb119, 1, none⟩ = some (.int .i64 0) := (blk_cell BK119.out 1).trans rfl; have hcz34_2 : w32.cell? ⟨gb119, 2, none⟩ = some (.int .i64 0) := (blk_cell BK119.out 2).trans rfl; have hcz34_3 : w32.cell? ⟨gb119, 3, none⟩ = some (.bool false) := (blk_cell BK119.out 3).trans rfl; have hfz34_0 := blk_frozen BK119.out 0; have hfz34_1 := blk_frozen BK119.out 1; have hfz34_2 := blk_frozen BK119.out 2; have hfz34_3 := blk_frozen BK119.out 3))
            have n0_ : Aside0 (((((w32.setCell ⟨gb119, 0, none⟩ (.int .i64 ((rd_T230 l0_1 x7_5).f0))).setCell ⟨gb119, 1, none⟩ (.int .i64 ((rd_T230 l0_1 x7_5).f1))).setCell ⟨gb119, 2, none⟩ (.int .i64 ((rd_T230 l0_1 x7_5).f2))).setCell ⟨gb119, 3, none⟩ (.bool ((rd_T230 l0_1 x7_5).f3))).heap[gb111]? = some (.cells #[.slice A0_0 l0_0.length c0_0, .slice (some ad118) l0_1.length c0_1] 86 (0, 0))) := ⟨by (with_reducible repeat (first | refine blk_drewN ?_ _ | refine blk_drew ?_ | refine blk_alloc ?_ _)); refine blk_far ?_ NB111_119.out _; (with_reducible repeat (first | refine blk_drewN ?_ _ | refine blk_drew ?_ | refine blk_alloc ?_ _)); refine blk_far ?_ NB111_119.out _; (with_reducible repeat (first | refine blk_drewN ?_ _ | refine blk_drew ?_ | refine blk_alloc ?_ _)); refine blk_far ?_ NB111_119.out _; (with_reducible repeat (first | refine blk_drewN ?_ _ | refine blk_drew ?_ | refine blk_alloc ?_ _)); refine blk_far ?_ NB111_119.out _; (with_reducible repeat (first | refine blk_drewN ?_ _ | refine blk_drew ?_ | refine blk_alloc ?_ _)); exact BK111.out⟩
            have n1_ : Aside0 (((((w32.setCell ⟨gb119, 0, none⟩ (.int .i64 ((rd_T230 l0_1 x7_5).f0))).setCell ⟨gb119, 1, none⟩ (.int .i64 ((rd_T230 l0_1 x7_5).f1))).setCell ⟨gb119, 2, none⟩ (.int .i64 ((rd_T230 l0_1 x7_5).f2))).setCell ⟨gb119, 3, none⟩ (.bool ((rd_T230 l0_1 x7_5).f3))).heap[gb119]? = some (.cells #[.int .i64 ((rd_T230 l0_1 x7_5).f0), .int .i64 ((rd_T230 l0_1 x7_5).f1), .int .i64 ((rd_T230 l0_1 x7_5).f2), .bool ((rd_T230 l0_1 x7_5).f3)] 230 (0, 0))) := ⟨by (with_reducible repeat (first | refine blk_drewN ?_ _ | refine blk_drew ?_ | refine blk_alloc ?_ _)); refine blk_put (cs := #[.int .i64 ((rd_T230 l0_1 x7_5).f0), .int .i64 ((rd_T230 l0_1 x7_5).f1), .int .i64 ((rd_T230 l0_1 x7_5).f2), .bool false]) ?_ 3 _ rfl; (with_reducible repeat (first | refine blk_drewN ?_ _ | refine blk_drew ?_ | refine blk_alloc ?_ _)); refine blk_put (cs := #[.int .i64 ((rd_T230 l0_1 x7_5).f0), .int .i64 ((rd_T230 l0_1 x7_5).f1), .int .i64 0, .bool false]) ?_ 2 _ rfl; (with_reducible repeat (first | refine blk_drewN ?_ _ | refine blk_drew ?_ | refine blk_alloc ?_ _)); refine blk_put (cs := #[.int .i64 ((rd_T230 l0_1 x7_5).f0), .int .i64 0, .int .i64 0, .bool false]) ?_ 1 _ rfl; (with_reducible repeat (first | refine blk_drewN ?_ _ | refine blk_drew ?_ | refine blk_alloc ?_ _)); refine blk_put (cs := #[.int .i64 0, .int .i64 0, .int .i64 0, .bool false]) ?_ 0 _ rfl; (with_reducible repeat (first | refine blk_drewN ?_ _ | refine blk_drew ?_ | refine blk_alloc ?_ _)); exact BK119.out⟩
            have n2_ : Aside0 (Below w.heap.size w ((((w32.setCell ⟨gb119, 0, none⟩ (.int .i64 ((rd_T230 l0_1 x7_5).f0))).setCell ⟨gb119, 1, none⟩ (.int .i64 ((rd_T230 l0_1 x7_5).f1))).setCell ⟨gb119, 2, none⟩ (.int .i64 ((rd_T230 l0_1 x7_5).f2))).setCell ⟨gb119, 3, none⟩ (.bool ((rd_T230 l0_1 x7_5).f3)))) := ⟨bZ⟩
            (try clear BK111)
            (try clear BK119)
            (try clear HB)
            generalize ((((w32.setCell ⟨gb119, 0, none⟩ (.int .i64 ((rd_T230 l0_1 x7_5).f0))).setCell ⟨gb119, 1, none⟩ (.int .i64 ((rd_T230 l0_1 x7_5).f1))).setCell ⟨gb119, 2, none⟩ (.int .i64 ((rd_T230 l0_1 x7_5).f2))).setCell ⟨gb119, 3, none⟩ (.bool ((rd_T230 l0_1 x7_5).f3))) = w35 at n0_ n1_ n2_ ⊢
            have BK111 := n0_
            have BK119 := n1_
            have HB := n2_
            clear n0_ n1_ n2_
            replace BK111 := aZ (blk_drew BK111.out)
            replace BK119 := aZ (blk_drew BK119.out)
            replace HB := aZ (below_drew1 HB.out)
            refine start_ (n := 22) (S := fun w' => w'.cell? ⟨gb119, 0, none⟩ = some (.int .i64 ((rd_T230 l0_1 x7_5).f0)) ∧ w'.cell? ⟨gb119, 1, none⟩ = some (.int .i64 ((rd_T230 l0_1 x7_5).f1)) ∧ w'.cell? ⟨gb119, 2, none⟩ = some (.int .i64 ((rd_T230 l0_1 x7_5).f2)) ∧ w'.cell? ⟨gb119, 3, none⟩ = some (.bool ((rd_T230 l0_1 x7_5).f3))) (ds := []) L0' kZ rfl rfl ⟨(blk_cell BK119.out 0).trans rfl, (blk_cell BK119.out 1).trans rfl, (blk_cell BK119.out 2).trans rfl, (blk_cell BK119.out 3).trans rfl⟩ (fun hHeld => ?_); refine with_tabW spec_RegisterOk.tab21 spec_RegisterOk.bits21 (fun HT_ HW_ => ?_)
            generalize w35.drew = w36 at BK111 BK119 HB hHeld ⊢
            refine pure_ (i := 0) (N := some 81) (v := ?_) (a' := ?_) L1' rfl rfl (any_of HT_.out kZ) (fun _ _ _ h => h) (Or.inl ⟨by rfl, ?_⟩) ?_ ?_
            rotate_left
            ·intro w'
             go_simp
             with_reducible rfl
            rotate_left
            ·simp only [Act.put, sZ1, sZ2, sZ3, i64_w, i32_w]
             rfl
            refine pure_ (i := 2) (N := some 83) (v := ?_) (a' := ?_) L2' rfl rfl (any_of HT_.out kZ) (fun _ _ _ h => h) (Or.inl ⟨by rfl, ?_⟩) ?_ ?_
            rotate_left
            ·intro w'
             go_simp
             with_reducible rfl
            rotate_left
            ·simp only [Act.put, sZ1, sZ2, sZ3, i64_w, i32_w]
             rfl
            refine take_ (i := 1) (N := some 82) (v := ?_) (a' := ?_) L38' rfl rfl (take_ofW HT_.out HW_.out kZ) (fun _ _ _ h => h) (Or.inl ⟨by rfl, ?_⟩) hHeld ?_ ?_
            rotate_left
            ·rintro w' ⟨s0, s1, s2, s3⟩
             go_simp
             with_reducible rfl
            rotate_left
            ·simp only [Act.put, sZ1, sZ2, sZ3, i64_w, i32_w]
             rfl
            refine pure_ (i := 3) (N := some 84) (v := ?_) (a' := ?_) L39' rfl rfl (any_of HT_.out kZ) (fun _ _ _ h => h) (Or.inl ⟨by rfl, ?_⟩) ?_ ?_
            rotate_left
            ·intro w'
             go_simp
             with_reducible rfl
            rotate_left
            ·simp only [Act.put, sZ1, sZ2, sZ3, i64_w, i32_w]
             rfl
            refine pure_ (i := 4) (N := some 85) (v := ?_) (a' := ?_) L40' rfl rfl (any_of HT_.out kZ) (fun _ _ _ h => h) (Or.inl ⟨by rfl, ?_⟩) ?_ ?_
            rotate_left
            ·intro w'
             go_simp
             with_reducible rfl
            rotate_left
            ·simp only [Act.put, sZ1, sZ2, sZ3, i64_w, i32_w]
             rfl
            refine pure_ (i := 5) (N := some 86) (v := ?_) (a' := ?_) L41' rfl rfl (any_of HT_.out kZ) (fun _ _ _ h => h) (Or.inl ⟨by rfl, ?_⟩) ?_ ?_
            rotate_left
            ·intro w'
             go_simp
             with_reducible rfl
            rotate_left
            ·simp only [Act.put, sZ1, sZ2, sZ3, i64_w, i32_w]
             rfl
            refine pure_ (i := 7) (N := some 88) (v := ?_) (a' := ?_) L42' rfl rfl (any_of HT_.out kZ) (fun _ _ _ h => h) (Or.inl ⟨by rfl, ?_⟩) ?_ ?_
            rotate_left
            ·intro w'
             go_simp
             with_reducible rfl
            rotate_left
            ·simp only [Act.put, sZ1, sZ2, sZ3, i64_w, i32_w]
             rfl
            refine take_ (i := 6) (N := some 87) (v := ?_) (a' := ?_) L8' rfl rfl (take_ofW HT_.out HW_.out kZ) (fun _ _ _ h => h) (Or.inl ⟨by rfl, ?_⟩) hHeld ?_ ?_
            rotate_left
            ·rintro w' ⟨s0, s1, s2, s3⟩
             go_simp
             with_reducible rfl
            rotate_left
            ·simp only [Act.put, sZ1, sZ2, sZ3, i64_w, i32_w]
             rfl
            refine pure_ (i := 8) (N := some 89) (v := ?_) (a' := ?_) L9' rfl rfl (any_of HT_.out kZ) (fun _ _ _ h => h) (Or.inl ⟨by rfl, ?_⟩) ?_ ?_
            rotate_left
            ·intro w'
             go_simp
             with_reducible rfl
            rotate_left
            ·simp only [Act.put, sZ1, sZ2, sZ3, i64_w, i32_w]
             rfl
            refine pure_ (i := 9) (N := some 90) (v := ?_) (a' := ?_) L10' rfl rfl (any_of HT_.out kZ) (fun _ _ _ h => h) (Or.inl ⟨by rfl, ?_⟩) ?_ ?_
            rotate_left
            ·intro w'
             go_simp
             with_reducible rfl
            rotate_left
            ·simp only [Act.put, sZ1, sZ2, sZ3, i64_w, i32_w]
             rfl
            refine pure_ (i := 10) (N := some 91) (v := ?_) (a' := ?_) L11' rfl rfl (any_of HT_.out kZ) (fun _ _ _ h => h) (Or.inl ⟨by rfl, ?_⟩) ?_ ?_
            rotate_left
            ·intro w'
             go_simp
             with_reducible rfl
            rotate_left
            ·simp only [Act.put, sZ1, sZ2, sZ3, i64_w, i32_w]
             rfl
            refine pure_ (i := 11) (N := some 92) (v := undef) (a' := ?_) L12' rfl rfl (any_of HT_.out kZ) (fun _ _ _ h => h) (Or.inr ⟨by rfl, rfl⟩) ?_ ?_
            rotate_left
            ·simp only [Act.put, sZ1, sZ2, sZ3, i64_w, i32_w]
             rfl
            refine pure_ (i := 12) (N := some 93) (v := undef) (a' := ?_) L13' rfl rfl (any_of HT_.out kZ) (fun _ _ _ h => h) (Or.inr ⟨by rfl, rfl⟩) ?_ ?_
            rotate_left
            ·simp only [Act.put, sZ1, sZ2, sZ3, i64_w, i32_w]
             rfl
            refine pure_ (i := 13) (N := some 94) (v := undef) (a' := ?_) L14' rfl rfl (any_of HT_.out kZ) (fun _ _ _ h => h) (Or.inr ⟨by rfl, rfl⟩) ?_ ?_
            rotate_left
            ·simp only [Act.put, sZ1, sZ2, sZ3, i64_w, i32_w]
             rfl
            refine pure_ (i := 14) (N := some 95) (v := undef) (a' := ?_) L15' rfl rfl (any_of HT_.out kZ) (fun _ _ _ h => h) (Or.inr ⟨by rfl, rfl⟩) ?_ ?_
            rotate_left
            ·simp only [Act.put, sZ1, sZ2, sZ3, i64_w, i32_w]
             rfl
            refine pure_ (i := 15) (N := some 96) (v := undef) (a' := ?_) L16' rfl rfl (any_of HT_.out kZ) (fun _ _ _ h => h) (Or.inr ⟨by rfl, rfl⟩) ?_ ?_
            rotate_left
            ·simp only [Act.put, sZ1, sZ2, sZ3, i64_w, i32_w]
             rfl
            refine pure_ (i := 16) (N := some 97) (v := undef) (a' := ?_) L17' rfl rfl (any_of HT_.out kZ) (fun _ _ _ h => h) (Or.inr ⟨by rfl, rfl⟩) ?_ ?_
            rotate_left
            ·simp only [Act.put, sZ1, sZ2, sZ3, i64_w, i32_w]
             rfl
            refine pure_ (i := 17) (N := some 98) (v := undef) (a' := ?_) L18' rfl rfl (any_of HT_.out kZ) (fun _ _ _ h => h) (Or.inr ⟨by rfl, rfl⟩) ?_ ?_
            rotate_left
            ·simp only [Act.put, sZ1, sZ2, sZ3, i64_w, i32_w]
             rfl
            refine pure_ (i := 18) (N := some 99) (v := undef) (a' := ?_) L19' rfl rfl (any_of HT_.out kZ) (fun _ _ _ h => h) (Or.inr ⟨by rfl, rfl⟩) ?_ ?_
            rotate_left
            ·simp only [Act.put, sZ1, sZ2, sZ3, i64_w, i32_w]
             rfl
            refine pure_ (i := 19) (N := some 100) (v := undef) (a' := ?_) L20' rfl rfl (any_of HT_.out kZ) (fun _ _ _ h => h) (Or.inr ⟨by rfl, rfl⟩) ?_ ?_
            rotate_left
            ·simp only [Act.put, sZ1, sZ2, sZ3, i64_w, i32_w]
             rfl
            refine pure_ (i := 20) (N := some 101) (v := undef) (a' := ?_) L21' rfl rfl (any_of HT_.out kZ) (fun _ _ _ h => h) (Or.inr ⟨by rfl, rfl⟩) ?_ ?_
            rotate_left
            ·simp only [Act.put, sZ1, sZ2, sZ3, i64_w, i32_w]
             rfl
            refine pure_ (i := 21) (N := some 102) (v := ?_) (a' := ?_) L22' rfl rfl (any_of HT_.out kZ) (fun _ _ _ h => h) (Or.inl ⟨by rfl, ?_⟩) ?_ ?_
            rotate_left
            ·intro w'
             go_simp
             with_reducible rfl
            rotate_left
            ·simp only [Act.put, sZ1, sZ2, sZ3, i64_w, i32_w]
             rfl
            refine done_ (done_of HT_.out kZ) ?_
            try go_wp2
            go_ret
            exact ⟨tZC, bZ⟩
           rw [if_neg c30] at H
           have c30b0 := decide_eq_false c30
           clear c30
           replace H := Option.bind_eq_some_iff.mp H
           obtain ⟨t120, A370, H⟩ := H
           replace H : (if 0 ≤ x3_2 then (if x3_2 < (l0_0.length : Int) then (if (t120.size : Int) > ((rd_T304 l0_0 x3_2).f1) then (some false) else (spec_RegisterOk.l2 k5 x3_2 (wrap64 (x5_5 + 1)) ((rd_T230 l0_1 x7_5).f2) (wrap64 (x7_5 + 1)) l0_0 l0_1)) else (none)) else (none)) = some r := H
           have A37 := Aside0.mk A370
           clear A370
           by_cases c38 : 0 ≤ x3_2
           rotate_left
           ·rw [if_neg c38] at H
            exact absurd H (by simp)
           rw [if_pos c38] at H
           have c38b0 := decide_eq_true c38
           clear c38
           by_cases c39 : x3_2 < (l0_0.length : Int)
           rotate_left
           ·rw [if_neg c39] at H
            exact absurd H (by simp)
           rw [if_pos c39] at H
           have c39b0 := decide_eq_true c39
           clear c39
           by_cases c40 : (t120.size : Int) > ((rd_T304 l0_0 x3_2).f1)
           ·rw [if_pos c40] at H
            have c40b0 : decide (((rd_T304 l0_0 x3_2).f1) < (t120.size : Int)) = true := decide_eq_true c40
            clear c40
            obtain rfl := Option.some.inj H
            have hcz41_0 : wr.cell? ⟨gb111, 0, none⟩ = some (.slice A0_0 l0_0.length c0_0) := (blk_cell BK111.out 0).trans rfl
            have hcz41_1 : wr.cell? ⟨gb111, 1, none⟩ = some (.slice A0_1 l0_1.length c0_1) := (blk_cell BK111.out 1).trans rfl
            have hfz41_0 := blk_frozen BK111.out 0
            have hfz41_1 := blk_frozen BK111.out 1
            have p118 : 0 ≤ (x7_5 : Int) := of_decide_eq_true tZE
            have q118 : x7_5 < (l0_1.length : Int) := of_decide_eq_true tZE
            obtain ⟨ad118, e118, hx118_0, hx118_1, hx118_2, hx118_3⟩ := at_T230 HR0_1.out x7_5 p118 q118
            cases e118
            replace hx118_0 := cZ HB hx118_0
            replace hx118_1 := cZ HB hx118_1
            replace hx118_2 := cZ HB hx118_2
            replace hx118_3 := cZ HB hx118_3
            replace p118 := eq_true p118
            replace q118 := eq_true q118
            try go_wp2_with (first | ((with_reducible refine gate_dst (N := 8) rfl ?_); (try (refine gate_guard (by rfl) ?_; dsimp only)); refine box_event ?hg (N := 8) ?hd (cs := #[.int .i64 0, .int .i64 0, .int .i64 0, .bool false]) (t := 230) ?hr ?_; (case hd => rfl); (case hg => rfl); (case hr => first | (go_simp; done) | (go_simp; rfl)); intro gb119 hg w42 hbox hb; have BK119 := aZ (hbox); have GW119 := aZ ((by rw [hg]; exact (below_size bZ) : w.heap.size ≤ gb119)); have GE119 := aZ ((by rw [hg]; exact (below_size bZ) : w.heap.size ≤ gb119)); replace HB := aZ (below_step bZ hb); have NB111_119 := aZ ((by rw [hg]; exact Nat.ne_of_lt (blk_lt (bkZ BK111.out)) : gb111 ≠ gb119)); have NB119_111 := aZ ((by rw [hg]; exact Nat.ne_of_gt (blk_lt (bkZ BK111.out)) : gb119 ≠ gb111)); replace BK111 := aZ (blk_below (bkZ BK111.out) hb); clear hb hbox hg; have hnb43 := NB119_111.out; have hnc43 := NB111_119.out; have hcz44_0 : w42.cell? ⟨gb119, 0, none⟩ = some (.int .i64 0) := (blk_cell BK119.out 0).trans rfl; have hcz44_1 : w42.cell? ⟨gb119, 1, none⟩ = some (.int .i64 0) := (blk_cell BK119.out 1).trans rfl; have hcz44_2 : w42.cell? ⟨gb119, 2, none⟩ = some (.int .i64 0) := (blk_cell BK119.out 2).trans rfl; have hcz44_3 : w42.cell? ⟨gb119, 3, none⟩ = some (.bool false) := (blk_cell BK119.out 3).trans rfl; have hfz44_0 := blk_frozen BK119.out 0; have hfz44_1 := blk_frozen BK119.out 1; have hfz44_2 := blk_frozen BK119.out 2; have hfz44_3 := blk_frozen BK119.out 3))
            have n0_ : Aside0 (((((w42.setCell ⟨gb119, 0, none⟩ (.int .i64 ((rd_T230 l0_1 x7_5).f0))).setCell ⟨gb119, 1, none⟩ (.int .i64 ((rd_T230 l0_1 x7_5).f1))).setCell ⟨gb119, 2, none⟩ (.int .i64 ((rd_T230 l0_1 x7_5).f2))).setCell ⟨gb119, 3, none⟩ (.bool ((rd_T230 l0_1 x7_5).f3))).heap[gb111]? = some (.cells #[.slice A0_0 l0_0.length c0_0, .slice (some ad118) l0_1.length c0_1] 86 (0, 0))) := ⟨by (with_reducible repeat (first | refine blk_drewN ?_ _ | refine blk_drew ?_ | refine blk_alloc ?_ _)); refine blk_far ?_ NB111_119.out _; (with_reducible repeat (first | refine blk_drewN ?_ _ | refine blk_drew ?_ | refine blk_alloc ?_ _)); refine blk_far ?_ NB111_119.out _; (with_reducible repeat (first | refine blk_drewN ?_ _ | refine blk_drew ?_ | refine blk_alloc ?_ _)); refine blk_far ?_ NB111_119.out _; (with_reducible repeat (first | refine blk_drewN ?_ _ | refine blk_drew ?_ | refine blk_alloc ?_ _)); refine blk_far ?_ NB111_119.out _; (with_reducible repeat (first | refine blk_drewN ?_ _ | refine blk_drew ?_ | refine blk_alloc ?_ _)); exact BK111.out⟩
            have n1_ : Aside0 (((((w42.setCell ⟨gb119, 0, none⟩ (.int .i64 ((rd_T230 l0_1 x7_5).f0))).setCell ⟨gb119, 1, none⟩ (.int .i64 ((rd_T230 l0_1 x7_5).f1))).setCell ⟨gb119, 2, none⟩ (.int .i64 ((rd_T230 l0_1 x7_5).f2))).setCell ⟨gb119, 3, none⟩ (.bool ((rd_T230 l0_1 x7_5).f3))).heap[gb119]? = some (.cells #[.int .i64 ((rd_T230 l0_1 x7_5).f0), .int .i64 ((rd_T230 l0_1 x7_5).f1), .int .i64 ((rd_T230 l0_1 x7_5).f2), .bool ((rd_T230 l0_1 x7_5).f3)] 230 (0, 0))) := ⟨by (with_reducible repeat (first | refine blk_drewN ?_ _ | refine blk_drew ?_ | refine blk_alloc ?_ _)); refine blk_put (cs := #[.int .i64 ((rd_T230 l0_1 x7_5).f0), .int .i64 ((rd_T230 l0_1 x7_5).f1), .int .i64 ((rd_T230 l0_1 x7_5).f2), .bool false]) ?_ 3 _ rfl; (with_reducible repeat (first | refine blk_drewN ?_ _ | refine blk_drew ?_ | refine blk_alloc ?_ _)); refine blk_put (cs := #[.int .i64 ((rd_T230 l0_1 x7_5).f0), .int .i64 ((rd_T230 l0_1 x7_5).f1), .int .i64 0, .bool false]) ?_ 2 _ rfl; (with_reducible repeat (first | refine blk_drewN ?_ _ | refine blk_drew ?_ | refine blk_alloc ?_ _)); refine blk_put (cs := #[.int .i64 ((rd_T230 l0_1 x7_5).f0), .int .i64 0, .int .i64 0, .bool false]) ?_ 1 _ rfl; (with_reducible repeat (first | refine blk_drewN ?_ _ | refine blk_drew ?_ | refine blk_alloc ?_ _)); refine blk_put (cs := #[.int .i64 0, .int .i64 0, .int .i64 0, .bool false]) ?_ 0 _ rfl; (with_reducible repeat (first | refine blk_drewN ?_ _ | refine blk_drew ?_ | refine blk_alloc ?_ _)); exact BK119.out⟩
            have n2_ : Aside0 (Below w.heap.size w ((((w42.setCell ⟨gb119, 0, none⟩ (.int .i64 ((rd_T230 l0_1 x7_5).f0))).setCell ⟨gb119, 1, none⟩ (.int .i64 ((rd_T230 l0_1 x7_5).f1))).setCell ⟨gb119, 2, none⟩ (.int .i64 ((rd_T230 l0_1 x7_5).f2))).setCell ⟨gb119, 3, none⟩ (.bool ((rd_T230 l0_1 x7_5).f3)))) := ⟨bZ⟩
            (try clear BK111)
            (try clear BK119)
            (try clear HB)
            generalize ((((w42.setCell ⟨gb119, 0, none⟩ (.int .i64 ((rd_T230 l0_1 x7_5).f0))).setCell ⟨gb119, 1, none⟩ (.int .i64 ((rd_T230 l0_1 x7_5).f1))).setCell ⟨gb119, 2, none⟩ (.int .i64 ((rd_T230 l0_1 x7_5).f2))).setCell ⟨gb119, 3, none⟩ (.bool ((rd_T230 l0_1 x7_5).f3))) = w45 at n0_ n1_ n2_ ⊢
            have BK111 := n0_
            have BK119 := n1_
            have HB := n2_
            clear n0_ n1_ n2_
            replace BK111 := aZ (blk_drew BK111.out)
            replace BK119 := aZ (blk_drew BK119.out)
            replace HB := aZ (below_drew1 HB.out)
            have p121 : 0 ≤ (x3_2 : Int) := of_decide_eq_true tZE
            have q121 : x3_2 < (l0_0.length : Int) := of_decide_eq_true tZE
            obtain ⟨ad121, e121, hx121_0, hx121_1⟩ := at_T304 HR0_0.out x3_2 p121 q121
            have hw121_1 := hx121_1
            have hw121_0 := hx121_0
            cases e121
            replace hx121_0 := cZ HB hx121_0
            replace hx121_1 := cZ HB hx121_1
            replace p121 := eq_true p121
            replace q121 := eq_true q121
            refine start_ (n := 22) (S := fun w' => w'.cell? ⟨gb119, 0, none⟩ = some (.int .i64 ((rd_T230 l0_1 x7_5).f0)) ∧ w'.cell? ⟨gb119, 1, none⟩ = some (.int .i64 ((rd_T230 l0_1 x7_5).f1)) ∧ w'.cell? ⟨gb119, 2, none⟩ = some (.int .i64 ((rd_T230 l0_1 x7_5).f2)) ∧ w'.cell? ⟨gb119, 3, none⟩ = some (.bool ((rd_T230 l0_1 x7_5).f3)) ∧ w'.cell? ⟨gb111, 0, none⟩ = some (.slice (some ad121) l0_0.length c0_0) ∧ w'.cell? ⟨gb111, 1, none⟩ = some (.slice (some ad118) l0_1.length c0_1) ∧ w'.cell? (ad121.add ((x3_2).toNat * 2)) = some (.string ((rd_T304 l0_0 x3_2).f0)) ∧ w'.cell? ⟨(ad121.add ((x3_2).toNat * 2)).block, (ad121.add ((x3_2).toNat * 2)).off + 1, none⟩ = some (.int .i64 ((rd_T304 l0_0 x3_2).f1))) (ds := []) L0' kZ rfl rfl ⟨(blk_cell BK119.out 0).trans rfl, (blk_cell BK119.out 1).trans rfl, (blk_cell BK119.out 2).trans rfl, (blk_cell BK119.out 3).trans rfl, (blk_cell BK111.out 0).trans rfl, (blk_cell BK111.out 1).trans rfl, ((HB.out.cell (World.block_lt_of_cell? w _ hw121_0)).trans hw121_0), ((HB.out.cell (World.block_lt_of_cell? w _ hw121_1)).trans hw121_1)⟩ (fun hHeld => ?_); refine with_tabW spec_RegisterOk.tab21 spec_RegisterOk.bits21 (fun HT_ HW_ => ?_)
            generalize w45.drew = w46 at BK111 BK119 HB hx121_0 hx121_1 hHeld ⊢
            refine pure_ (i := 0) (N := some 81) (v := ?_) (a' := ?_) L1' rfl rfl (any_of HT_.out kZ) (fun _ _ _ h => h) (Or.inl ⟨by rfl, ?_⟩) ?_ ?_
            rotate_left
            ·intro w'
             go_simp
             with_reducible rfl
            rotate_left
            ·simp only [Act.put, sZ1, sZ2, sZ3, i64_w, i32_w]
             rfl
            refine pure_ (i := 2) (N := some 83) (v := ?_) (a' := ?_) L2' rfl rfl (any_of HT_.out kZ) (fun _ _ _ h => h) (Or.inl ⟨by rfl, ?_⟩) ?_ ?_
            rotate_left
            ·intro w'
             go_simp
             with_reducible rfl
            rotate_left
            ·simp only [Act.put, sZ1, sZ2, sZ3, i64_w, i32_w]
             rfl
            refine take_ (i := 1) (N := some 82) (v := ?_) (a' := ?_) L38' rfl rfl (take_ofW HT_.out HW_.out kZ) (fun _ _ _ h => h) (Or.inl ⟨by rfl, ?_⟩) hHeld ?_ ?_
            rotate_left
            ·rintro w' ⟨s0, s1, s2, s3, s4, s5, s6, s7⟩
             go_simp
             with_reducible rfl
            rotate_left
            ·simp only [Act.put, sZ1, sZ2, sZ3, i64_w, i32_w]
             rfl
            refine pure_ (i := 3) (N := some 84) (v := ?_) (a' := ?_) L39' rfl rfl (any_of HT_.out kZ) (fun _ _ _ h => h) (Or.inl ⟨by rfl, ?_⟩) ?_ ?_
            rotate_left
            ·intro w'
             go_simp
             with_reducible rfl
            rotate_left
            ·simp only [Act.put, sZ1, sZ2, sZ3, i64_w, i32_w]
             rfl
            refine pure_ (i := 4) (N := some 85) (v := ?_) (a' := ?_) L40' rfl rfl (any_of HT_.out kZ) (fun _ _ _ h => h) (Or.inl ⟨by rfl, ?_⟩) ?_ ?_
            rotate_left
            ·intro w'
             go_simp
             with_reducible rfl
            rotate_left
            ·simp only [Act.put, sZ1, sZ2, sZ3, i64_w, i32_w]
             rfl
            refine pure_ (i := 5) (N := some 86) (v := ?_) (a' := ?_) L41' rfl rfl (any_of HT_.out kZ) (fun _ _ _ h => h) (Or.inl ⟨by rfl, ?_⟩) ?_ ?_
            rotate_left
            ·intro w'
             go_simp
             with_reducible rfl
            rotate_left
            ·simp only [Act.put, sZ1, sZ2, sZ3, i64_w, i32_w]
             rfl
            refine pure_ (i := 7) (N := some 88) (v := ?_) (a' := ?_) L42' rfl rfl (any_of HT_.out kZ) (fun _ _ _ h => h) (Or.inl ⟨by rfl, ?_⟩) ?_ ?_
            rotate_left
            ·intro w'
             go_simp
             with_reducible rfl
            rotate_left
            ·simp only [Act.put, sZ1, sZ2, sZ3, i64_w, i32_w]
             rfl
            refine take_ (i := 6) (N := some 87) (v := ?_) (a' := ?_) L8' rfl rfl (take_ofW HT_.out HW_.out kZ) (fun _ _ _ h => h) (Or.inl ⟨by rfl, ?_⟩) hHeld ?_ ?_
            rotate_left
            ·rintro w' ⟨s0, s1, s2, s3, s4, s5, s6, s7⟩
             go_simp
             with_reducible rfl
            rotate_left
            ·simp only [Act.put, sZ1, sZ2, sZ3, i64_w, i32_w]
             rfl
            refine pure_ (i := 8) (N := some 89) (v := ?_) (a' := ?_) L9' rfl rfl (any_of HT_.out kZ) (fun _ _ _ h => h) (Or.inl ⟨by rfl, ?_⟩) ?_ ?_
            rotate_left
            ·intro w'
             go_simp
             with_reducible rfl
            rotate_left
            ·simp only [Act.put, sZ1, sZ2, sZ3, i64_w, i32_w]
             rfl
            refine pure_ (i := 9) (N := some 90) (v := ?_) (a' := ?_) L10' rfl rfl (any_of HT_.out kZ) (fun _ _ _ h => h) (Or.inl ⟨by rfl, ?_⟩) ?_ ?_
            rotate_left
            ·intro w'
             go_simp
             with_reducible rfl
            rotate_left
            ·simp only [Act.put, sZ1, sZ2, sZ3, i64_w, i32_w]
             rfl
            refine pure_ (i := 10) (N := some 91) (v := ?_) (a' := ?_) L11' rfl rfl (any_of HT_.out kZ) (fun _ _ _ h => h) (Or.inl ⟨by rfl, ?_⟩) ?_ ?_
            rotate_left
            ·intro w'
             go_simp
             with_reducible rfl
            rotate_left
            ·simp only [Act.put, sZ1, sZ2, sZ3, i64_w, i32_w]
             rfl
            refine pure_ (i := 11) (N := some 92) (v := ?_) (a' := ?_) L12' rfl rfl (any_of HT_.out kZ) (fun _ _ _ h => h) (Or.inl ⟨by rfl, ?_⟩) ?_ ?_
            rotate_left
            ·intro w'
             go_simp
             with_reducible rfl
            rotate_left
            ·simp only [Act.put, sZ1, sZ2, sZ3, i64_w, i32_w]
             rfl
            refine pure_ (i := 14) (N := some 95) (v := ?_) (a' := ?_) L43' rfl rfl (any_of HT_.out kZ) (fun _ _ _ h => h) (Or.inl ⟨by rfl, ?_⟩) ?_ ?_
            rotate_left
            ·intro w'
             go_simp
             with_reducible rfl
            rotate_left
            ·simp only [Act.put, sZ1, sZ2, sZ3, i64_w, i32_w]
             rfl
            refine pure_ (i := 16) (N := some 97) (v := ?_) (a' := ?_) L44' rfl rfl (any_of HT_.out kZ) (fun _ _ _ h => h) (Or.inl ⟨by rfl, ?_⟩) ?_ ?_
            rotate_left
            ·intro w'
             go_simp
             with_reducible rfl
            rotate_left
            ·simp only [Act.put, sZ1, sZ2, sZ3, i64_w, i32_w]
             rfl
            refine take_ (i := 15) (N := some 96) (v := ?_) (a' := ?_) L45' rfl rfl (take_ofW HT_.out HW_.out kZ) (fun _ _ _ h => h) (Or.inl ⟨by rfl, ?_⟩) hHeld ?_ ?_
            rotate_left
            ·rintro w' ⟨s0, s1, s2, s3, s4, s5, s6, s7⟩
             go_simp
             with_reducible rfl
            rotate_left
            ·simp only [Act.put, sZ1, sZ2, sZ3, i64_w, i32_w]
             rfl
            refine pure_ (i := 17) (N := some 98) (v := ?_) (a' := ?_) L46' rfl rfl (any_of HT_.out kZ) (fun _ _ _ h => h) (Or.inl ⟨by rfl, ?_⟩) ?_ ?_
            rotate_left
            ·intro w'
             go_simp
             with_reducible rfl
            rotate_left
            ·simp only [Act.put, sZ1, sZ2, sZ3, i64_w, i32_w]
             rfl
            refine pure_ (i := 18) (N := some 99) (v := ?_) (a' := ?_) L47' rfl rfl (any_of HT_.out kZ) (fun _ _ _ h => h) (Or.inl ⟨by rfl, ?_⟩) ?_ ?_
            rotate_left
            ·intro w'
             go_simp
             with_reducible rfl
            rotate_left
            ·simp only [Act.put, sZ1, sZ2, sZ3, i64_w, i32_w]
             rfl
            refine take_ (i := 19) (N := some 100) (v := ?_) (a' := ?_) L48' rfl rfl (take_ofW HT_.out HW_.out kZ) (fun _ _ _ h => h) (Or.inl ⟨by rfl, ?_⟩) hHeld ?_ ?_
            rotate_left
            ·rintro w' ⟨s0, s1, s2, s3, s4, s5, s6, s7⟩
             go_simp
             with_reducible rfl
            rotate_left
            ·simp only [Act.put, sZ1, sZ2, sZ3, i64_w, i32_w]
             rfl
            refine one_ (i := 12) (N := some 93) L49' rfl rfl (one_of HT_.out kZ) (by decide) (fun K hK => ?_)
            refine goes_ Try.func223 kZ rfl #[.int .i64 (wrap64 (x5_5 + 1))] (by rfl) rfl rfl tZA ?_
            with_reducible refine (spec_l1Text.calls k5 (wrap64 (x5_5 + 1)) t120 _ A37.out).mono ?_
            rintro e w47 ⟨rfl, hb⟩
            refine ⟨_, rfl, ?_⟩
            replace BK111 := aZ (blk_below (bkZ BK111.out) hb)
            replace BK119 := aZ (blk_below (bkZ BK119.out) hb)
            replace HB := aZ (below_step bZ hb)
            (try clear hb)
            (try clear hb2)
            (try clear hk)
            (try clear hi)
            refine hK.out _ _ ⟨(blk_cell BK119.out 0).trans rfl, (blk_cell BK119.out 1).trans rfl, (blk_cell BK119.out 2).trans rfl, (blk_cell BK119.out 3).trans rfl, (blk_cell BK111.out 0).trans rfl, (blk_cell BK111.out 1).trans rfl, ((HB.out.cell (World.block_lt_of_cell? w _ hw121_0)).trans hw121_0), ((HB.out.cell (World.block_lt_of_cell? w _ hw121_1)).trans hw121_1)⟩ (fun hHeld => ?_)
            clear hK K
            refine norm_ (a' := ?_) ?_ ?_
            rotate_left
            ·show Act.put _ (some 93) _ = _
             simp only [Act.put, sZ1, sZ2, sZ3, i64_w, i32_w]
             rfl
            refine pure_ (i := 13) (N := some 94) (v := ?_) (a' := ?_) L20' rfl rfl (any_of HT_.out kZ) (fun _ _ _ h => h) (Or.inl ⟨by rfl, ?_⟩) ?_ ?_
            rotate_left
            ·intro w'
             go_simp
             with_reducible rfl
            rotate_left
            ·simp only [Act.put, sZ1, sZ2, sZ3, i64_w, i32_w]
             rfl
            refine pure_ (i := 20) (N := some 101) (v := ?_) (a' := ?_) L21' rfl rfl (any_of HT_.out kZ) (fun _ _ _ h => h) (Or.inl ⟨by rfl, ?_⟩) ?_ ?_
            rotate_left
            ·intro w'
             go_simp
             with_reducible rfl
            rotate_left
            ·simp only [Act.put, sZ1, sZ2, sZ3, i64_w, i32_w]
             rfl
            refine pure_ (i := 21) (N := some 102) (v := ?_) (a' := ?_) L22' rfl rfl (any_of HT_.out kZ) (fun _ _ _ h => h) (Or.inl ⟨by rfl, ?_⟩) ?_ ?_
            rotate_left
            ·intro w'
             go_simp
             with_reducible rfl
            rotate_left
            ·simp only [Act.put, sZ1, sZ2, sZ3, i64_w, i32_w]
             rfl
            refine done_ (done_of HT_.out kZ) ?_
            try go_wp2
            go_ret
            exact ⟨tZC, bZ⟩
           rw [if_neg c40] at H
           have c40b0 : decide (((rd_T304 l0_0 x3_2).f1) < (t120.size : Int)) = false := decide_eq_false c40
           clear c40
           have H' := Aside0.mk H
           clear H
           have hcz48_0 : wr.cell? ⟨gb111, 0, none⟩ = some (.slice A0_0 l0_0.length c0_0) := (blk_cell BK111.out 0).trans rfl
           have hcz48_1 : wr.cell? ⟨gb111, 1, none⟩ = some (.slice A0_1 l0_1.length c0_1) := (blk_cell BK111.out 1).trans rfl
           have hfz48_0 := blk_frozen BK111.out 0
           have hfz48_1 := blk_frozen BK111.out 1
           have p118 : 0 ≤ (x7_5 : Int) := of_decide_eq_true tZE
           have q118 : x7_5 < (l0_1.length : Int) := of_decide_eq_true tZE
           obtain ⟨ad118, e118, hx118_0, hx118_1, hx118_2, hx118_3⟩ := at_T230 HR0_1.out x7_5 p118 q118
           cases e118
           replace hx118_0 := cZ HB hx118_0
           replace hx118_1 := cZ HB hx118_1
           replace hx118_2 := cZ HB hx118_2
           replace hx118_3 := cZ HB hx118_3
           replace p118 := eq_true p118
           replace q118 := eq_true q118
           try go_wp2_with (first | ((with_reducible refine gate_dst (N := 8) rfl ?_); (try (refine gate_guard (by rfl) ?_; dsimp only)); refine box_event ?hg (N := 8) ?hd (cs := #[.int .i64 0, .int .i64 0, .int .i64 0, .bool false]) (t := 230) ?hr ?_; (case hd => rfl); (case hg => rfl); (case hr => first | (go_simp; done) | (go_simp; rfl)); intro gb119 hg w49 hbox hb; have BK119 := aZ (hbox); have GW119 := aZ ((by rw [hg]; exact (below_size bZ) : w.heap.size ≤ gb119)); have GE119 := aZ ((by rw [hg]; exact (below_size bZ) : w.heap.size ≤ gb119)); replace HB := aZ (below_step bZ hb); have NB111_119 := aZ ((by rw [hg]; exact Nat.ne_of_lt (blk_lt (bkZ BK111.out)) : gb111 ≠ gb119)); have NB119_111 := aZ ((by rw [hg]; exact Nat.ne_of_gt (blk_lt (bkZ BK111.out)) : gb119 ≠ gb111)); replace BK111 := aZ (blk_below (bkZ BK111.out) hb); clear hb hbox hg; have hnb50 := NB119_111.out; have hnc50 := NB111_119.out; have hcz51_0 : w49.cell? ⟨gb119, 0, none⟩ = some (.int .i64 0) := (blk_cell BK119.out 0).trans rfl; have hcz51_1 : w49.cell? ⟨gb119, 1, none⟩ = some (.int .i64 0) := (blk_cell BK119.out 1).trans rfl; have hcz51_2 : w49.cell? ⟨gb119, 2, none⟩ = some (.int .i64 0) := (blk_cell BK119.out 2).trans rfl; have hcz51_3 : w49.cell? ⟨gb119, 3, none⟩ = some (.bool false) := (blk_cell BK119.out 3).trans rfl; have hfz51_0 := blk_frozen BK119.out 0; have hfz51_1 := blk_frozen BK119.out 1; have hfz51_2 := blk_frozen BK119.out 2; have hfz51_3 := blk_frozen BK119.out 3))
           have n0_ : Aside0 (((((w49.setCell ⟨gb119, 0, none⟩ (.int .i64 ((rd_T230 l0_1 x7_5).f0))).setCell ⟨gb119, 1, none⟩ (.int .i64 ((rd_T230 l0_1 x7_5).f1))).setCell ⟨gb119, 2, none⟩ (.int .i64 ((rd_T230 l0_1 x7_5).f2))).setCell ⟨gb119, 3, none⟩ (.bool ((rd_T230 l0_1 x7_5).f3))).heap[gb111]? = some (.cells #[.slice A0_0 l0_0.length c0_0, .slice (some ad118) l0_1.length c0_1] 86 (0, 0))) := ⟨by (with_reducible repeat (first | refine blk_drewN ?_ _ | refine blk_drew ?_ | refine blk_alloc ?_ _)); refine blk_far ?_ NB111_119.out _; (with_reducible repeat (first | refine blk_drewN ?_ _ | refine blk_drew ?_ | refine blk_alloc ?_ _)); refine blk_far ?_ NB111_119.out _; (with_reducible repeat (first | refine blk_drewN ?_ _ | refine blk_drew ?_ | refine blk_alloc ?_ _)); refine blk_far ?_ NB111_119.out _; (with_reducible repeat (first | refine blk_drewN ?_ _ | refine blk_drew ?_ | refine blk_alloc ?_ _)); refine blk_far ?_ NB111_119.out _; (with_reducible repeat (first | refine blk_drewN ?_ _ | refine blk_drew ?_ | refine blk_alloc ?_ _)); exact BK111.out⟩
           have n1_ : Aside0 (((((w49.setCell ⟨gb119, 0, none⟩ (.int .i64 ((rd_T230 l0_1 x7_5).f0))).setCell ⟨gb119, 1, none⟩ (.int .i64 ((rd_T230 l0_1 x7_5).f1))).setCell ⟨gb119, 2, none⟩ (.int .i64 ((rd_T230 l0_1 x7_5).f2))).setCell ⟨gb119, 3, none⟩ (.bool ((rd_T230 l0_1 x7_5).f3))).heap[gb119]? = some (.cells #[.int .i64 ((rd_T230 l0_1 x7_5).f0), .int .i64 ((rd_T230 l0_1 x7_5).f1), .int .i64 ((rd_T230 l0_1 x7_5).f2), .bool ((rd_T230 l0_1 x7_5).f3)] 230 (0, 0))) := ⟨by (with_reducible repeat (first | refine blk_drewN ?_ _ | refine blk_drew ?_ | refine blk_alloc ?_ _)); refine blk_put (cs := #[.int .i64 ((rd_T230 l0_1 x7_5).f0), .int .i64 ((rd_T230 l0_1 x7_5).f1), .int .i64 ((rd_T230 l0_1 x7_5).f2), .bool false]) ?_ 3 _ rfl; (with_reducible repeat (first | refine blk_drewN ?_ _ | refine blk_drew ?_ | refine blk_alloc ?_ _)); refine blk_put (cs := #[.int .i64 ((rd_T230 l0_1 x7_5).f0), .int .i64 ((rd_T230 l0_1 x7_5).f1), .int .i64 0, .bool false]) ?_ 2 _ rfl; (with_reducible repeat (first | refine blk_drewN ?_ _ | refine blk_drew ?_ | refine blk_alloc ?_ _)); refine blk_put (cs := #[.int .i64 ((rd_T230 l0_1 x7_5).f0), .int .i64 0, .int .i64 0, .bool false]) ?_ 1 _ rfl; (with_reducible repeat (first | refine blk_drewN ?_ _ | refine blk_drew ?_ | refine blk_alloc ?_ _)); refine blk_put (cs := #[.int .i64 0, .int .i64 0, .int .i64 0, .bool false]) ?_ 0 _ rfl; (with_reducible repeat (first | refine blk_drewN ?_ _ | refine blk_drew ?_ | refine blk_alloc ?_ _)); exact BK119.out⟩
           have n2_ : Aside0 (Below w.heap.size w ((((w49.setCell ⟨gb119, 0, none⟩ (.int .i64 ((rd_T230 l0_1 x7_5).f0))).setCell ⟨gb119, 1, none⟩ (.int .i64 ((rd_T230 l0_1 x7_5).f1))).setCell ⟨gb119, 2, none⟩ (.int .i64 ((rd_T230 l0_1 x7_5).f2))).setCell ⟨gb119, 3, none⟩ (.bool ((rd_T230 l0_1 x7_5).f3)))) := ⟨bZ⟩
           (try clear BK111)
           (try clear BK119)
           (try clear HB)
           generalize ((((w49.setCell ⟨gb119, 0, none⟩ (.int .i64 ((rd_T230 l0_1 x7_5).f0))).setCell ⟨gb119, 1, none⟩ (.int .i64 ((rd_T230 l0_1 x7_5).f1))).setCell ⟨gb119, 2, none⟩ (.int .i64 ((rd_T230 l0_1 x7_5).f2))).setCell ⟨gb119, 3, none⟩ (.bool ((rd_T230 l0_1 x7_5).f3))) = w52 at n0_ n1_ n2_ ⊢
           have BK111 := n0_
           have BK119 := n1_
           have HB := n2_
           clear n0_ n1_ n2_
           replace BK111 := aZ (blk_drew BK111.out)
           replace BK119 := aZ (blk_drew BK119.out)
           replace HB := aZ (below_drew1 HB.out)
           have p121 : 0 ≤ (x3_2 : Int) := of_decide_eq_true tZE
           have q121 : x3_2 < (l0_0.length : Int) := of_decide_eq_true tZE
           obtain ⟨ad121, e121, hx121_0, hx121_1⟩ := at_T304 HR0_0.out x3_2 p121 q121
           have hw121_1 := hx121_1
           have hw121_0 := hx121_0
           cases e121
           replace hx121_0 := cZ HB hx121_0
           replace hx121_1 := cZ HB hx121_1
           replace p121 := eq_true p121
           replace q121 := eq_true q121
           refine start_ (n := 22) (S := fun w' => w'.cell? ⟨gb119, 0, none⟩ = some (.int .i64 ((rd_T230 l0_1 x7_5).f0)) ∧ w'.cell? ⟨gb119, 1, none⟩ = some (.int .i64 ((rd_T230 l0_1 x7_5).f1)) ∧ w'.cell? ⟨gb119, 2, none⟩ = some (.int .i64 ((rd_T230 l0_1 x7_5).f2)) ∧ w'.cell? ⟨gb119, 3, none⟩ = some (.bool ((rd_T230 l0_1 x7_5).f3)) ∧ w'.cell? ⟨gb111, 0, none⟩ = some (.slice (some ad121) l0_0.length c0_0) ∧ w'.cell? ⟨gb111, 1, none⟩ = some (.slice (some ad118) l0_1.length c0_1) ∧ w'.cell? (ad121.add ((x3_2).toNat * 2)) = some (.string ((rd_T304 l0_0 x3_2).f0)) ∧ w'.cell? ⟨(ad121.add ((x3_2).toNat * 2)).block, (ad121.add ((x3_2).toNat * 2)).off + 1, none⟩ = some (.int .i64 ((rd_T304 l0_0 x3_2).f1))) (ds := []) L0' kZ rfl rfl ⟨(blk_cell BK119.out 0).trans rfl, (blk_cell BK119.out 1).trans rfl, (blk_cell BK119.out 2).trans rfl, (blk_cell BK119.out 3).trans rfl, (blk_cell BK111.out 0).trans rfl, (blk_cell BK111.out 1).trans rfl, ((HB.out.cell (World.block_lt_of_cell? w _ hw121_0)).trans hw121_0), ((HB.out.cell (World.block_lt_of_cell? w _ hw121_1)).trans hw121_1)⟩ (fun hHeld => ?_); refine with_tabW spec_RegisterOk.tab21 spec_RegisterOk.bits21 (fun HT_ HW_ => ?_)
           generalize w52.drew = w53 at BK111 BK119 HB hx121_0 hx121_1 hHeld ⊢
           refine pure_ (i := 0) (N := some 81) (v := ?_) (a' := ?_) L1' rfl rfl (any_of HT_.out kZ) (fun _ _ _ h => h) (Or.inl ⟨by rfl, ?_⟩) ?_ ?_
           rotate_left
           ·intro w'
            go_simp
            with_reducible rfl
           rotate_left
           ·simp only [Act.put, sZ1, sZ2, sZ3, i64_w, i32_w]
            rfl
           refine pure_ (i := 2) (N := some 83) (v := ?_) (a' := ?_) L2' rfl rfl (any_of HT_.out kZ) (fun _ _ _ h => h) (Or.inl ⟨by rfl, ?_⟩) ?_ ?_
           rotate_left
           ·intro w'
            go_simp
            with_reducible rfl
           rotate_left
           ·simp only [Act.put, sZ1, sZ2, sZ3, i64_w, i32_w]
            rfl
           refine take_ (i := 1) (N := some 82) (v := ?_) (a' := ?_) L38' rfl rfl (take_ofW HT_.out HW_.out kZ) (fun _ _ _ h => h) (Or.inl ⟨by rfl, ?_⟩) hHeld ?_ ?_
           rotate_left
           ·rintro w' ⟨s0, s1, s2, s3, s4, s5, s6, s7⟩
            go_simp
            with_reducible rfl
           rotate_left
           ·simp only [Act.put, sZ1, sZ2, sZ3, i64_w, i32_w]
            rfl
           refine pure_ (i := 3) (N := some 84) (v := ?_) (a' := ?_) L39' rfl rfl (any_of HT_.out kZ) (fun _ _ _ h => h) (Or.inl ⟨by rfl, ?_⟩) ?_ ?_
           rotate_left
           ·intro w'
            go_simp
            with_reducible rfl
           rotate_left
           ·simp only [Act.put, sZ1, sZ2, sZ3, i64_w, i32_w]
            rfl
           refine pure_ (i := 4) (N := some 85) (v := ?_) (a' := ?_) L40' rfl rfl (any_of HT_.out kZ) (fun _ _ _ h => h) (Or.inl ⟨by rfl, ?_⟩) ?_ ?_
           rotate_left
           ·intro w'
            go_simp
            with_reducible rfl
           rotate_left
           ·simp only [Act.put, sZ1, sZ2, sZ3, i64_w, i32_w]
            rfl
           refine pure_ (i := 5) (N := some 86) (v := ?_) (a' := ?_) L41' rfl rfl (any_of HT_.out kZ) (fun _ _ _ h => h) (Or.inl ⟨by rfl, ?_⟩) ?_ ?_
           rotate_left
           ·intro w'
            go_simp
            with_reducible rfl
           rotate_left
           ·simp only [Act.put, sZ1, sZ2, sZ3, i64_w, i32_w]
            rfl
           refine pure_ (i := 7) (N := some 88) (v := ?_) (a' := ?_) L42' rfl rfl (any_of HT_.out kZ) (fun _ _ _ h => h) (Or.inl ⟨by rfl, ?_⟩) ?_ ?_
           rotate_left
           ·intro w'
            go_simp
            with_reducible rfl
           rotate_left
           ·simp only [Act.put, sZ1, sZ2, sZ3, i64_w, i32_w]
            rfl
           refine take_ (i := 6) (N := some 87) (v := ?_) (a' := ?_) L8' rfl rfl (take_ofW HT_.out HW_.out kZ) (fun _ _ _ h => h) (Or.inl ⟨by rfl, ?_⟩) hHeld ?_ ?_
           rotate_left
           ·rintro w' ⟨s0, s1, s2, s3, s4, s5, s6, s7⟩
            go_simp
            with_reducible rfl
           rotate_left
           ·simp only [Act.put, sZ1, sZ2, sZ3, i64_w, i32_w]
            rfl
           refine pure_ (i := 8) (N := some 89) (v := ?_) (a' := ?_) L9' rfl rfl (any_of HT_.out kZ) (fun _ _ _ h => h) (Or.inl ⟨by rfl, ?_⟩) ?_ ?_
           rotate_left
           ·intro w'
            go_simp
            with_reducible rfl
           rotate_left
           ·simp only [Act.put, sZ1, sZ2, sZ3, i64_w, i32_w]
            rfl
           refine pure_ (i := 9) (N := some 90) (v := ?_) (a' := ?_) L10' rfl rfl (any_of HT_.out kZ) (fun _ _ _ h => h) (Or.inl ⟨by rfl, ?_⟩) ?_ ?_
           rotate_left
           ·intro w'
            go_simp
            with_reducible rfl
           rotate_left
           ·simp only [Act.put, sZ1, sZ2, sZ3, i64_w, i32_w]
            rfl
           refine pure_ (i := 10) (N := some 91) (v := ?_) (a' := ?_) L11' rfl rfl (any_of HT_.out kZ) (fun _ _ _ h => h) (Or.inl ⟨by rfl, ?_⟩) ?_ ?_
           rotate_left
           ·intro w'
            go_simp
            with_reducible rfl
           rotate_left
           ·simp only [Act.put, sZ1, sZ2, sZ3, i64_w, i32_w]
            rfl
           refine pure_ (i := 11) (N := some 92) (v := ?_) (a' := ?_) L12' rfl rfl (any_of HT_.out kZ) (fun _ _ _ h => h) (Or.inl ⟨by rfl, ?_⟩) ?_ ?_
           rotate_left
           ·intro w'
            go_simp
            with_reducible rfl
           rotate_left
           ·simp only [Act.put, sZ1, sZ2, sZ3, i64_w, i32_w]
            rfl
           refine pure_ (i := 14) (N := some 95) (v := ?_) (a' := ?_) L43' rfl rfl (any_of HT_.out kZ) (fun _ _ _ h => h) (Or.inl ⟨by rfl, ?_⟩) ?_ ?_
           rotate_left
           ·intro w'
            go_simp
            with_reducible rfl
           rotate_left
           ·simp only [Act.put, sZ1, sZ2, sZ3, i64_w, i32_w]
            rfl
           refine pure_ (i := 16) (N := some 97) (v := ?_) (a' := ?_) L44' rfl rfl (any_of HT_.out kZ) (fun _ _ _ h => h) (Or.inl ⟨by rfl, ?_⟩) ?_ ?_
           rotate_left
           ·intro w'
            go_simp
            with_reducible rfl
           rotate_left
           ·simp only [Act.put, sZ1, sZ2, sZ3, i64_w, i32_w]
            rfl
           refine take_ (i := 15) (N := some 96) (v := ?_) (a' := ?_) L45' rfl rfl (take_ofW HT_.out HW_.out kZ) (fun _ _ _ h => h) (Or.inl ⟨by rfl, ?_⟩) hHeld ?_ ?_
           rotate_left
           ·rintro w' ⟨s0, s1, s2, s3, s4, s5, s6, s7⟩
            go_simp
            with_reducible rfl
           rotate_left
           ·simp only [Act.put, sZ1, sZ2, sZ3, i64_w, i32_w]
            rfl
           refine pure_ (i := 17) (N := some 98) (v := ?_) (a' := ?_) L46' rfl rfl (any_of HT_.out kZ) (fun _ _ _ h => h) (Or.inl ⟨by rfl, ?_⟩) ?_ ?_
           rotate_left
           ·intro w'
            go_simp
            with_reducible rfl
           rotate_left
           ·simp only [Act.put, sZ1, sZ2, sZ3, i64_w, i32_w]
            rfl
           refine pure_ (i := 18) (N := some 99) (v := ?_) (a' := ?_) L47' rfl rfl (any_of HT_.out kZ) (fun _ _ _ h => h) (Or.inl ⟨by rfl, ?_⟩) ?_ ?_
           rotate_left
           ·intro w'
            go_simp
            with_reducible rfl
           rotate_left
           ·simp only [Act.put, sZ1, sZ2, sZ3, i64_w, i32_w]
            rfl
           refine take_ (i := 19) (N := some 100) (v := ?_) (a' := ?_) L48' rfl rfl (take_ofW HT_.out HW_.out kZ) (fun _ _ _ h => h) (Or.inl ⟨by rfl, ?_⟩) hHeld ?_ ?_
           rotate_left
           ·rintro w' ⟨s0, s1, s2, s3, s4, s5, s6, s7⟩
            go_simp
            with_reducible rfl
           rotate_left
           ·simp only [Act.put, sZ1, sZ2, sZ3, i64_w, i32_w]
            rfl
           refine one_ (i := 12) (N := some 93) L49' rfl rfl (one_of HT_.out kZ) (by decide) (fun K hK => ?_)
           refine goes_ Try.func223 kZ rfl #[.int .i64 (wrap64 (x5_5 + 1))] (by rfl) rfl rfl tZA ?_
           with_reducible refine (spec_l1Text.calls k5 (wrap64 (x5_5 + 1)) t120 _ A37.out).mono ?_
           rintro e w54 ⟨rfl, hb⟩
           refine ⟨_, rfl, ?_⟩
           replace BK111 := aZ (blk_below (bkZ BK111.out) hb)
           replace BK119 := aZ (blk_below (bkZ BK119.out) hb)
           replace HB := aZ (below_step bZ hb)
           (try clear hb)
           (try clear hb2)
           (try clear hk)
           (try clear hi)
           refine hK.out _ _ ⟨(blk_cell BK119.out 0).trans rfl, (blk_cell BK119.out 1).trans rfl, (blk_cell BK119.out 2).trans rfl, (blk_cell BK119.out 3).trans rfl, (blk_cell BK111.out 0).trans rfl, (blk_cell BK111.out 1).trans rfl, ((HB.out.cell (World.block_lt_of_cell? w _ hw121_0)).trans hw121_0), ((HB.out.cell (World.block_lt_of_cell? w _ hw121_1)).trans hw121_1)⟩ (fun hHeld => ?_)
           clear hK K
           refine norm_ (a' := ?_) ?_ ?_
           rotate_left
           ·show Act.put _ (some 93) _ = _
            simp only [Act.put, sZ1, sZ2, sZ3, i64_w, i32_w]
            rfl
           refine pure_ (i := 13) (N := some 94) (v := ?_) (a' := ?_) L20' rfl rfl (any_of HT_.out kZ) (fun _ _ _ h => h) (Or.inl ⟨by rfl, ?_⟩) ?_ ?_
           rotate_left
           ·intro w'
            go_simp
            with_reducible rfl
           rotate_left
           ·simp only [Act.put, sZ1, sZ2, sZ3, i64_w, i32_w]
            rfl
           refine pure_ (i := 20) (N := some 101) (v := ?_) (a' := ?_) L21' rfl rfl (any_of HT_.out kZ) (fun _ _ _ h => h) (Or.inl ⟨by rfl, ?_⟩) ?_ ?_
           rotate_left
           ·intro w'
            go_simp
            with_reducible rfl
           rotate_left
           ·simp only [Act.put, sZ1, sZ2, sZ3, i64_w, i32_w]
            rfl
           refine pure_ (i := 21) (N := some 102) (v := ?_) (a' := ?_) L22' rfl rfl (any_of HT_.out kZ) (fun _ _ _ h => h) (Or.inl ⟨by rfl, ?_⟩) ?_ ?_
           rotate_left
           ·intro w'
            go_simp
            with_reducible rfl
           rotate_left
           ·simp only [Act.put, sZ1, sZ2, sZ3, i64_w, i32_w]
            rfl
           refine done_ (done_of HT_.out kZ) ?_
           have hcz55_0 : w54.cell? ⟨gb119, 0, none⟩ = some (.int .i64 ((rd_T230 l0_1 x7_5).f0)) := (blk_cell BK119.out 0).trans rfl
           have hcz55_1 : w54.cell? ⟨gb119, 1, none⟩ = some (.int .i64 ((rd_T230 l0_1 x7_5).f1)) := (blk_cell BK119.out 1).trans rfl
           have hcz55_2 : w54.cell? ⟨gb119, 2, none⟩ = some (.int .i64 ((rd_T230 l0_1 x7_5).f2)) := (blk_cell BK119.out 2).trans rfl
           have hcz55_3 : w54.cell? ⟨gb119, 3, none⟩ = some (.bool ((rd_T230 l0_1 x7_5).f3)) := (blk_cell BK119.out 3).trans rfl
           have hfz55_0 := blk_frozen BK119.out 0
           have hfz55_1 := blk_frozen BK119.out 1
           have hfz55_2 := blk_frozen BK119.out 2
           have hfz55_3 := blk_frozen BK119.out 3
           try go_wp2
           go_roundg k5
           case measure => have := HJ1.out; have := HK2.out; have := HJ8.out; have := HK4.out; have := HK5.out; omega
           case rel => exact ⟨(wrap64 (x5_5 + 1)), ((rd_T230 l0_1 x7_5).f2), (wrap64 (x7_5 + 1)), tZB, tZB, tZB, H', ⟨by have := HJ1.out; have := HK2.out; have := HJ8.out; have := HK4.out; have := HK5.out; omega⟩, ⟨bkZ BK111.out⟩, ⟨bZ⟩⟩
end Go.Proofs.Ytnbecbgpefmcoaa.PFnExactVoid
