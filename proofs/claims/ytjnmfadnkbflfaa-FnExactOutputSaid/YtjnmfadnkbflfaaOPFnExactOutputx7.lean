import Derived.Test.YtjnmfadnkbflfaaOPFnExactOutputx0
import Derived.Test.YtjnmfadnkbflfaaOPFnExactOutputx4
import Derived.Test.YtjnmfadnkbflfaaOPFnExactOutputx5
import Derived.Test.YtjnmfadnkbflfaaOPFnExactOutputx6
import Derived.Test.YtjnmfadnkbflfaaOSlimWords
namespace Go.Proofs.Ytjnmfadnkbflfaa.PFnExactOutput
open Go.Proofs.Ytjnmfadnkbflfaa.SlimWords
open Go.RowKit Go.Proofs.YtjnmfadnkbflfaaW.PrintWords Go.Proofs.YtjnmfadnkbflfaaW.PrintLast Go.Proofs.YtjnmfadnkbflfaaW.PrintMore Go.Proofs.Ytjnmfadnkbflfaa.MapWords Go.Proofs.Ytjnmfadnkbflfaa.IterWords Go.Proofs.Ytjnmfadnkbflfaa.MarkWords Go.Proofs.Ytjnmfadnkbflfaa.ArrWords
attribute [local go_sem] ptrOf_slice max2_int min2_int max_two min_two max_three min_three max_four min_four
set_option linter.unusedVariables false
set_option linter.unusedSimpArgs false
mutual
def spec_ItemsOk.l0 : Nat → List (S130) → Int → Int → Option (Bool)
  | 0, _, _, _ => none
  | k + 1, x0, x3, x4 => if x4 < x3 then (if 0 ≤ x4 then (if x4 < (x0.length : Int) then ((spec_NameOk.f k ((rd_T130 x0 x4).f0)).bind fun t190 => (if t190 = true then ((spec_l1In.f ((rd_T130 x0 x4).f1) 1 1000000).bind fun t191 => (if t191 = true then (if (((rd_T130 x0 x4).f3).length : Int) > 30 then (spec_ItemsOk.j1 k x0 x3 x4 true ((rd_T130 x0 x4).f0) ((rd_T130 x0 x4).f1) ((rd_T130 x0 x4).f2) ((rd_T130 x0 x4).f3) ((rd_T130 x0 x4).f4)) else (if (((rd_T130 x0 x4).f4).length : Int) > 30 then (spec_ItemsOk.j1 k x0 x3 x4 true ((rd_T130 x0 x4).f0) ((rd_T130 x0 x4).f1) ((rd_T130 x0 x4).f2) ((rd_T130 x0 x4).f3) ((rd_T130 x0 x4).f4)) else (if (rd_T130 x0 x4).f2 = true then (if (((rd_T130 x0 x4).f3).length : Int) = 0 then (spec_ItemsOk.j1 k x0 x3 x4 true ((rd_T130 x0 x4).f0) ((rd_T130 x0 x4).f1) ((rd_T130 x0 x4).f2) ((rd_T130 x0 x4).f3) ((rd_T130 x0 x4).f4)) else (spec_ItemsOk.j1 k x0 x3 x4 (decide ((((rd_T130 x0 x4).f4).length : Int) > 0)) ((rd_T130 x0 x4).f0) ((rd_T130 x0 x4).f1) ((rd_T130 x0 x4).f2) ((rd_T130 x0 x4).f3) ((rd_T130 x0 x4).f4))) else (spec_ItemsOk.j1 k x0 x3 x4 false ((rd_T130 x0 x4).f0) ((rd_T130 x0 x4).f1) ((rd_T130 x0 x4).f2) ((rd_T130 x0 x4).f3) ((rd_T130 x0 x4).f4))))) else (spec_ItemsOk.j1 k x0 x3 x4 true ((rd_T130 x0 x4).f0) ((rd_T130 x0 x4).f1) ((rd_T130 x0 x4).f2) ((rd_T130 x0 x4).f3) ((rd_T130 x0 x4).f4)))) else (spec_ItemsOk.j1 k x0 x3 x4 true ((rd_T130 x0 x4).f0) ((rd_T130 x0 x4).f1) ((rd_T130 x0 x4).f2) ((rd_T130 x0 x4).f3) ((rd_T130 x0 x4).f4)))) else (none)) else (none)) else ((spec_l17Levels.f k x0).bind fun t199 => (spec_ItemsOk.l4 k x3 t199 0))
def spec_ItemsOk.j1 : Nat → List (S130) → Int → Int → Bool → ByteArray → Int → Bool → List (S149) → List (S149) → Option (Bool)
  | 0, _, _, _, _, _, _, _, _, _ => none
  | k + 1, x0, x3, x4, x62, x190000, x190001, x190002, x190003, x190004 => if x62 = true then (some false) else (spec_ItemsOk.l1 k x0 x3 x4 0 x190000 x190001 x190002 x190003 x190004)
def spec_ItemsOk.l1 : Nat → List (S130) → Int → Int → Int → ByteArray → Int → Bool → List (S149) → List (S149) → Option (Bool)
  | 0, _, _, _, _, _, _, _, _, _ => none
  | k + 1, x0, x3, x4, x6, x190000, x190001, x190002, x190003, x190004 => if x6 < x4 then (if 0 ≤ x6 then (if x6 < (x0.length : Int) then (if ((rd_T130 x0 x6).f0).toList = x190000.toList then (some false) else (spec_ItemsOk.l1 k x0 x3 x4 (wrap64 (x6 + 1)) x190000 x190001 x190002 x190003 x190004)) else (none)) else (none)) else (spec_ItemsOk.l2 k x0 x3 x4 0 x190000 x190001 x190002 x190003 x190004)
def spec_ItemsOk.l2 : Nat → List (S130) → Int → Int → Int → ByteArray → Int → Bool → List (S149) → List (S149) → Option (Bool)
  | 0, _, _, _, _, _, _, _, _, _ => none
  | k + 1, x0, x3, x4, x7, x190000, x190001, x190002, x190003, x190004 => if x7 < (x190003.length : Int) then (if 0 ≤ x7 then ((spec_l17Part.f ((rd_T149 x190003 x7).f0) ((rd_T149 x190003 x7).f1) ((rd_T149 x190003 x7).f2) ((rd_T149 x190003 x7).f3) ((rd_T149 x190003 x7).f4) ((rd_T149 x190003 x7).f5) x4 x3).bind fun t194 => (if t194 = true then (spec_ItemsOk.l2 k x0 x3 x4 (wrap64 (x7 + 1)) x190000 x190001 x190002 x190003 x190004) else (some false))) else (none)) else (spec_ItemsOk.l3 k x0 x3 x4 0 x190000 x190001 x190002 x190003 x190004)
def spec_ItemsOk.l3 : Nat → List (S130) → Int → Int → Int → ByteArray → Int → Bool → List (S149) → List (S149) → Option (Bool)
  | 0, _, _, _, _, _, _, _, _, _ => none
  | k + 1, x0, x3, x4, x8, x190000, x190001, x190002, x190003, x190004 => if x8 < (x190004.length : Int) then (if 0 ≤ x8 then ((spec_l17Part.f ((rd_T149 x190004 x8).f0) ((rd_T149 x190004 x8).f1) ((rd_T149 x190004 x8).f2) ((rd_T149 x190004 x8).f3) ((rd_T149 x190004 x8).f4) ((rd_T149 x190004 x8).f5) x4 x3).bind fun t196 => (if t196 = true then (if ((rd_T149 x190004 x8).f2) = 0 then (if ((rd_T149 x190004 x8).f5) = 0 then (spec_ItemsOk.l3 k x0 x3 x4 (wrap64 (x8 + 1)) x190000 x190001 x190002 x190003 x190004) else (some false)) else (some false)) else (some false))) else (none)) else (spec_ItemsOk.l0 k x0 x3 (wrap64 (x4 + 1)))
def spec_ItemsOk.l4 : Nat → Int → List Int → Int → Option (Bool)
  | 0, _, _, _ => none
  | k + 1, x3, x9, x10 => if x10 < x3 then (if 0 ≤ x10 then (if x10 < (x9.length : Int) then (if (rd x9 x10) > 20 then (some false) else (spec_ItemsOk.l4 k x3 x9 (wrap64 (x10 + 1)))) else (none)) else (none)) else (some true)
end
def spec_ItemsOk.f (k : Nat) (l0 : List (S130)) : Option (Bool) := (spec_l1In.f (l0.length : Int) 1 60).bind fun t187 => (if t187 = true then (spec_ItemsOk.l0 k l0 (l0.length : Int) 0) else (some false))
theorem spec_ItemsOk.mono_l : ∀ k, (∀ y0 y1 y2, LeO (spec_ItemsOk.l0 k y0 y1 y2) (spec_ItemsOk.l0 (k + 1) y0 y1 y2)) ∧ (∀ y0 y1 y2 y3 y4 y5 y6 y7 y8, LeO (spec_ItemsOk.j1 k y0 y1 y2 y3 y4 y5 y6 y7 y8) (spec_ItemsOk.j1 (k + 1) y0 y1 y2 y3 y4 y5 y6 y7 y8)) ∧ (∀ y0 y1 y2 y3 y4 y5 y6 y7 y8, LeO (spec_ItemsOk.l1 k y0 y1 y2 y3 y4 y5 y6 y7 y8) (spec_ItemsOk.l1 (k + 1) y0 y1 y2 y3 y4 y5 y6 y7 y8)) ∧ (∀ y0 y1 y2 y3 y4 y5 y6 y7 y8, LeO (spec_ItemsOk.l2 k y0 y1 y2 y3 y4 y5 y6 y7 y8) (spec_ItemsOk.l2 (k + 1) y0 y1 y2 y3 y4 y5 y6 y7 y8)) ∧ (∀ y0 y1 y2 y3 y4 y5 y6 y7 y8, LeO (spec_ItemsOk.l3 k y0 y1 y2 y3 y4 y5 y6 y7 y8) (spec_ItemsOk.l3 (k + 1) y0 y1 y2 y3 y4 y5 y6 y7 y8)) ∧ (∀ y0 y1 y2, LeO (spec_ItemsOk.l4 k y0 y1 y2) (spec_ItemsOk.l4 (k + 1) y0 y1 y2))
  | 0 => ⟨fun _ _ _ r h => by simp [spec_ItemsOk.l0] at h, fun _ _ _ _ _ _ _ _ _ r h => by simp [spec_ItemsOk.j1] at h, fun _ _ _ _ _ _ _ _ _ r h => by simp [spec_ItemsOk.l1] at h, fun _ _ _ _ _ _ _ _ _ r h => by simp [spec_ItemsOk.l2] at h, fun _ _ _ _ _ _ _ _ _ r h => by simp [spec_ItemsOk.l3] at h, fun _ _ _ r h => by simp [spec_ItemsOk.l4] at h⟩
  | k + 1 => by
    obtain ⟨ih0, ih1, ih2, ih3, ih4, ih5⟩ := spec_ItemsOk.mono_l k
    refine ⟨?_, ?_, ?_, ?_, ?_, ?_⟩
    · intro y0 y1 y2
      unfold spec_ItemsOk.l0
      repeat' first
      | (with_reducible exact ih0 _ _ _)
      | (with_reducible exact ih1 _ _ _ _ _ _ _ _ _)
      | (with_reducible exact ih2 _ _ _ _ _ _ _ _ _)
      | (with_reducible exact ih3 _ _ _ _ _ _ _ _ _)
      | (with_reducible exact ih4 _ _ _ _ _ _ _ _ _)
      | (with_reducible exact ih5 _ _ _)
      | (with_reducible exact spec_NameOk.mono _ _)
      | (with_reducible exact spec_l17Levels.mono _ _)
      | (with_reducible exact LeO.refl _)
      | (with_reducible exact LeO.none _)
      | (with_reducible refine LeO.ite ?_ ?_)
      | (with_reducible refine LeO.bind ?_ (fun _ => ?_))
      | exact ih0 _ _ _
      | exact ih1 _ _ _ _ _ _ _ _ _
      | exact ih2 _ _ _ _ _ _ _ _ _
      | exact ih3 _ _ _ _ _ _ _ _ _
      | exact ih4 _ _ _ _ _ _ _ _ _
      | exact ih5 _ _ _
      | exact spec_NameOk.mono _ _
      | exact spec_l17Levels.mono _ _
      | exact LeO.none _
      | refine LeO.ite ?_ ?_
      | refine LeO.bind ?_ (fun _ => ?_)
    · intro y0 y1 y2 y3 y4 y5 y6 y7 y8
      unfold spec_ItemsOk.j1
      repeat' first
      | (with_reducible exact ih0 _ _ _)
      | (with_reducible exact ih1 _ _ _ _ _ _ _ _ _)
      | (with_reducible exact ih2 _ _ _ _ _ _ _ _ _)
      | (with_reducible exact ih3 _ _ _ _ _ _ _ _ _)
      | (with_reducible exact ih4 _ _ _ _ _ _ _ _ _)
      | (with_reducible exact ih5 _ _ _)
      | (with_reducible exact spec_NameOk.mono _ _)
      | (with_reducible exact spec_l17Levels.mono _ _)
      | (with_reducible exact LeO.refl _)
      | (with_reducible exact LeO.none _)
      | (with_reducible refine LeO.ite ?_ ?_)
      | (with_reducible refine LeO.bind ?_ (fun _ => ?_))
      | exact ih0 _ _ _
      | exact ih1 _ _ _ _ _ _ _ _ _
      | exact ih2 _ _ _ _ _ _ _ _ _
      | exact ih3 _ _ _ _ _ _ _ _ _
      | exact ih4 _ _ _ _ _ _ _ _ _
      | exact ih5 _ _ _
      | exact spec_NameOk.mono _ _
      | exact spec_l17Levels.mono _ _
      | exact LeO.none _
      | refine LeO.ite ?_ ?_
      | refine LeO.bind ?_ (fun _ => ?_)
    · intro y0 y1 y2 y3 y4 y5 y6 y7 y8
      unfold spec_ItemsOk.l1
      repeat' first
      | (with_reducible exact ih0 _ _ _)
      | (with_reducible exact ih1 _ _ _ _ _ _ _ _ _)
      | (with_reducible exact ih2 _ _ _ _ _ _ _ _ _)
      | (with_reducible exact ih3 _ _ _ _ _ _ _ _ _)
      | (with_reducible exact ih4 _ _ _ _ _ _ _ _ _)
      | (with_reducible exact ih5 _ _ _)
      | (with_reducible exact spec_NameOk.mono _ _)
      | (with_reducible exact spec_l17Levels.mono _ _)
      | (with_reducible exact LeO.refl _)
      | (with_reducible exact LeO.none _)
      | (with_reducible refine LeO.ite ?_ ?_)
      | (with_reducible refine LeO.bind ?_ (fun _ => ?_))
      | exact ih0 _ _ _
      | exact ih1 _ _ _ _ _ _ _ _ _
      | exact ih2 _ _ _ _ _ _ _ _ _
      | exact ih3 _ _ _ _ _ _ _ _ _
      | exact ih4 _ _ _ _ _ _ _ _ _
      | exact ih5 _ _ _
      | exact spec_NameOk.mono _ _
      | exact spec_l17Levels.mono _ _
      | exact LeO.none _
      | refine LeO.ite ?_ ?_
      | refine LeO.bind ?_ (fun _ => ?_)
    · intro y0 y1 y2 y3 y4 y5 y6 y7 y8
      unfold spec_ItemsOk.l2
      repeat' first
      | (with_reducible exact ih0 _ _ _)
      | (with_reducible exact ih1 _ _ _ _ _ _ _ _ _)
      | (with_reducible exact ih2 _ _ _ _ _ _ _ _ _)
      | (with_reducible exact ih3 _ _ _ _ _ _ _ _ _)
      | (with_reducible exact ih4 _ _ _ _ _ _ _ _ _)
      | (with_reducible exact ih5 _ _ _)
      | (with_reducible exact spec_NameOk.mono _ _)
      | (with_reducible exact spec_l17Levels.mono _ _)
      | (with_reducible exact LeO.refl _)
      | (with_reducible exact LeO.none _)
      | (with_reducible refine LeO.ite ?_ ?_)
      | (with_reducible refine LeO.bind ?_ (fun _ => ?_))
      | exact ih0 _ _ _
      | exact ih1 _ _ _ _ _ _ _ _ _
      | exact ih2 _ _ _ _ _ _ _ _ _
      | exact ih3 _ _ _ _ _ _ _ _ _
      | exact ih4 _ _ _ _ _ _ _ _ _
      | exact ih5 _ _ _
      | exact spec_NameOk.mono _ _
      | exact spec_l17Levels.mono _ _
      | exact LeO.none _
      | refine LeO.ite ?_ ?_
      | refine LeO.bind ?_ (fun _ => ?_)
    · intro y0 y1 y2 y3 y4 y5 y6 y7 y8
      unfold spec_ItemsOk.l3
      repeat' first
      | (with_reducible exact ih0 _ _ _)
      | (with_reducible exact ih1 _ _ _ _ _ _ _ _ _)
      | (with_reducible exact ih2 _ _ _ _ _ _ _ _ _)
      | (with_reducible exact ih3 _ _ _ _ _ _ _ _ _)
      | (with_reducible exact ih4 _ _ _ _ _ _ _ _ _)
      | (with_reducible exact ih5 _ _ _)
      | (with_reducible exact spec_NameOk.mono _ _)
      | (with_reducible exact spec_l17Levels.mono _ _)
      | (with_reducible exact LeO.refl _)
      | (with_reducible exact LeO.none _)
      | (with_reducible refine LeO.ite ?_ ?_)
      | (with_reducible refine LeO.bind ?_ (fun _ => ?_))
      | exact ih0 _ _ _
      | exact ih1 _ _ _ _ _ _ _ _ _
      | exact ih2 _ _ _ _ _ _ _ _ _
      | exact ih3 _ _ _ _ _ _ _ _ _
      | exact ih4 _ _ _ _ _ _ _ _ _
      | exact ih5 _ _ _
      | exact spec_NameOk.mono _ _
      | exact spec_l17Levels.mono _ _
      | exact LeO.none _
      | refine LeO.ite ?_ ?_
      | refine LeO.bind ?_ (fun _ => ?_)
    · intro y0 y1 y2
      unfold spec_ItemsOk.l4
      repeat' first
      | (with_reducible exact ih0 _ _ _)
      | (with_reducible exact ih1 _ _ _ _ _ _ _ _ _)
      | (with_reducible exact ih2 _ _ _ _ _ _ _ _ _)
      | (with_reducible exact ih3 _ _ _ _ _ _ _ _ _)
      | (with_reducible exact ih4 _ _ _ _ _ _ _ _ _)
      | (with_reducible exact ih5 _ _ _)
      | (with_reducible exact spec_NameOk.mono _ _)
      | (with_reducible exact spec_l17Levels.mono _ _)
      | (with_reducible exact LeO.refl _)
      | (with_reducible exact LeO.none _)
      | (with_reducible refine LeO.ite ?_ ?_)
      | (with_reducible refine LeO.bind ?_ (fun _ => ?_))
      | exact ih0 _ _ _
      | exact ih1 _ _ _ _ _ _ _ _ _
      | exact ih2 _ _ _ _ _ _ _ _ _
      | exact ih3 _ _ _ _ _ _ _ _ _
      | exact ih4 _ _ _ _ _ _ _ _ _
      | exact ih5 _ _ _
      | exact spec_NameOk.mono _ _
      | exact spec_l17Levels.mono _ _
      | exact LeO.none _
      | refine LeO.ite ?_ ?_
      | refine LeO.bind ?_ (fun _ => ?_)
theorem spec_ItemsOk.mono : ∀ a0 k, LeO (spec_ItemsOk.f k a0) (spec_ItemsOk.f (k + 1) a0) := by
 intro a0 k
 obtain ⟨ih0, ih1, ih2, ih3, ih4, ih5⟩ := spec_ItemsOk.mono_l k
 unfold spec_ItemsOk.f
 repeat' first
     | (with_reducible exact ih0 _ _ _)
     | (with_reducible exact ih1 _ _ _ _ _ _ _ _ _)
     | (with_reducible exact ih2 _ _ _ _ _ _ _ _ _)
     | (with_reducible exact ih3 _ _ _ _ _ _ _ _ _)
     | (with_reducible exact ih4 _ _ _ _ _ _ _ _ _)
     | (with_reducible exact ih5 _ _ _)
     | (with_reducible exact spec_NameOk.mono _ _)
     | (with_reducible exact spec_l17Levels.mono _ _)
     | (with_reducible exact LeO.refl _)
     | (with_reducible exact LeO.none _)
     | (with_reducible refine LeO.ite ?_ ?_)
     | (with_reducible refine LeO.bind ?_ (fun _ => ?_))
     | exact ih0 _ _ _
     | exact ih1 _ _ _ _ _ _ _ _ _
     | exact ih2 _ _ _ _ _ _ _ _ _
     | exact ih3 _ _ _ _ _ _ _ _ _
     | exact ih4 _ _ _ _ _ _ _ _ _
     | exact ih5 _ _ _
     | exact spec_NameOk.mono _ _
     | exact spec_l17Levels.mono _ _
     | exact LeO.none _
     | refine LeO.ite ?_ ?_
     | refine LeO.bind ?_ (fun _ => ?_)
set_option maxHeartbeats 8000000 in
set_option maxRecDepth 100000 in
theorem spec_ItemsOk.calls (k : Nat) (A0 : Option Addr) (c0 : Nat) (l0 : List (S130)) (r : Bool) (w : World) (hr0 : Kd.C k130 w A0 l0.length l0) (hc0 : l0.length ≤ c0) (h : spec_ItemsOk.f k l0 = some r) :
    Calls Try.prog 88 #[.slice A0 l0.length c0] w fun e w' => e = .returned (.bool r) ∧ Below w.heap.size w w' := by
 have hu130 := Try.underlying130
 have hu149 := Try.underlying149
 have HR0 := Aside0.mk hr0
 have HC0 := Aside0.mk hc0
 clear hr0 hc0
 have HB := aZ (Below.refl w.heap.size w)
 have H : ((spec_l1In.f (l0.length : Int) 1 60).bind fun t187 => (if t187 = true then (spec_ItemsOk.l0 k l0 (l0.length : Int) 0) else (some false))) = some r := h
 clear h
 replace H := Option.bind_eq_some_iff.mp H
 obtain ⟨t187, A20, H⟩ := H
 replace H : (if t187 = true then (spec_ItemsOk.l0 k l0 (l0.length : Int) 0) else (some false)) = some r := H
 have A2 := Aside0.mk A20
 clear A20
 by_cases c3 : t187 = true
 rotate_left
 ·replace c3 := Bool.eq_false_iff.mpr c3
  subst c3
  have H1 : (some false) = some r := by rw [if_neg (show ¬ (false = true) by decide)] at H; exact H
  clear H
  have H := H1
  clear H1
  obtain rfl := Option.some.inj H
  go_enter Try.func88, Try.ntmps88
  go_wp2_with (first | (go_at_call 72; (with_reducible refine (spec_l1In.calls (l0.length : Int) 1 60 false _ A2.out).mono ?_); rintro e w' ⟨rfl, ⟨nd, rfl⟩⟩; (try first | exact ⟨rfl, _, World.drewN_drewN _ _ _⟩ | exact ⟨rfl, _, Eq.trans (World.drewN_drewN _ _ _) (congrArg (World.drewN _) (Nat.add_assoc _ _ _))⟩)))
  repeat (go_quiet (first | (go_at_call 72; (with_reducible refine (spec_l1In.calls (l0.length : Int) 1 60 false _ A2.out).mono ?_); rintro e w' ⟨rfl, ⟨nd, rfl⟩⟩; (try first | exact ⟨rfl, _, World.drewN_drewN _ _ _⟩ | exact ⟨rfl, _, Eq.trans (World.drewN_drewN _ _ _) (congrArg (World.drewN _) (Nat.add_assoc _ _ _))⟩))); try go_wp2_with (first | (go_at_call 72; (with_reducible refine (spec_l1In.calls (l0.length : Int) 1 60 false _ A2.out).mono ?_); rintro e w' ⟨rfl, ⟨nd, rfl⟩⟩; (try first | exact ⟨rfl, _, World.drewN_drewN _ _ _⟩ | exact ⟨rfl, _, Eq.trans (World.drewN_drewN _ _ _) (congrArg (World.drewN _) (Nat.add_assoc _ _ _))⟩))))
  go_ret
  exact ⟨tZC, bZ⟩
 subst c3
 have H1 : (spec_ItemsOk.l0 k l0 (l0.length : Int) 0) = some r := by rw [if_pos rfl] at H; exact H
 clear H
 have H := H1
 clear H1
 have H' := Aside0.mk H
 clear H
 go_enter Try.func88, Try.ntmps88
 go_wp2_with (first | (go_at_call 72; (with_reducible refine (spec_l1In.calls (l0.length : Int) 1 60 true _ A2.out).mono ?_); rintro e w' ⟨rfl, ⟨nd, rfl⟩⟩; (try first | exact ⟨rfl, _, World.drewN_drewN _ _ _⟩ | exact ⟨rfl, _, Eq.trans (World.drewN_drewN _ _ _) (congrArg (World.drewN _) (Nat.add_assoc _ _ _))⟩)))
 repeat (go_quiet (first | (go_at_call 72; (with_reducible refine (spec_l1In.calls (l0.length : Int) 1 60 true _ A2.out).mono ?_); rintro e w' ⟨rfl, ⟨nd, rfl⟩⟩; (try first | exact ⟨rfl, _, World.drewN_drewN _ _ _⟩ | exact ⟨rfl, _, Eq.trans (World.drewN_drewN _ _ _) (congrArg (World.drewN _) (Nat.add_assoc _ _ _))⟩))); try go_wp2_with (first | (go_at_call 72; (with_reducible refine (spec_l1In.calls (l0.length : Int) 1 60 true _ A2.out).mono ?_); rintro e w' ⟨rfl, ⟨nd, rfl⟩⟩; (try first | exact ⟨rfl, _, World.drewN_drewN _ _ _⟩ | exact ⟨rfl, _, Eq.trans (World.drewN_drewN _ _ _) (congrArg (World.drewN _) (Nat.add_assoc _ _ _))⟩))))
 go_loopg [4] k (fun kq v4 w' => ∃ (x4_1 : Int), v4 = .int .i64 x4_1 ∧ Aside0 (spec_ItemsOk.l0 kq l0 (l0.length : Int) x4_1 = some r) ∧ Aside0 (kq ≤ k) ∧ Aside0 (Below w.heap.size w w'))
 case atStart => exact ⟨(0), tZB, H', ⟨Nat.le_refl _⟩, ⟨bZ⟩⟩
 case round =>
  clear H'
  try clear p2
  try clear c3
  obtain ⟨x4_1, rfl, HA, HK1, HB⟩ := hrel
  cases gk with
  | zero => exact absurd HA.out (by simp [spec_ItemsOk.l0])
  | succ k1 =>
   have H := HA.out
   clear HA
   simp only [spec_ItemsOk.l0] at H
   by_cases c4 : x4_1 < (l0.length : Int)
   rotate_left
   ·rw [if_neg c4] at H
    have c4b0 := decide_eq_false c4
    clear c4
    replace H := Option.bind_eq_some_iff.mp H
    obtain ⟨t199, A600, H⟩ := H
    replace H : (spec_ItemsOk.l4 k1 (l0.length : Int) t199 0) = some r := H
    have A60 := Aside0.mk A600
    clear A600
    have H' := Aside0.mk H
    clear H
    go_wp2_with (first | (go_at_call 89; (with_reducible refine (spec_l17Levels.calls k1 _ _ l0 t199 _ ?side1 ?side2 A60.out).mono ?_); (case side1 => repeat (first | exact (Kd.C_below HR0.out HB.out) | (with_reducible refine Kd.C_alloc ?_ _) | (with_reducible refine Kd.C_drewN ?_ _) | (with_reducible refine Kd.C_drew ?_))); (case side2 => exact HC0.out); rintro e w61 ⟨v200, rfl, ho0, hb⟩; have HO201 := aZ (Kd.R_lower ho0 (below_size (lZB HB.out))); replace HB := aZ (below_step (lZB HB.out) hb); (try clear hb); (try clear hb2); (try clear hk); (try clear hi); (try clear ho0)))
    repeat (go_quiet (first | (go_at_call 89; (with_reducible refine (spec_l17Levels.calls k1 _ _ l0 t199 _ ?side1 ?side2 A60.out).mono ?_); (case side1 => repeat (first | exact (Kd.C_below HR0.out HB.out) | (with_reducible refine Kd.C_alloc ?_ _) | (with_reducible refine Kd.C_drewN ?_ _) | (with_reducible refine Kd.C_drew ?_))); (case side2 => exact HC0.out); rintro e w61 ⟨v200, rfl, ho0, hb⟩; have HO201 := aZ (Kd.R_lower ho0 (below_size (lZB HB.out))); replace HB := aZ (below_step (lZB HB.out) hb); (try clear hb); (try clear hb2); (try clear hk); (try clear hi); (try clear ho0))); try go_wp2_with (first | (go_at_call 89; (with_reducible refine (spec_l17Levels.calls k1 _ _ l0 t199 _ ?side1 ?side2 A60.out).mono ?_); (case side1 => repeat (first | exact (Kd.C_below HR0.out HB.out) | (with_reducible refine Kd.C_alloc ?_ _) | (with_reducible refine Kd.C_drewN ?_ _) | (with_reducible refine Kd.C_drew ?_))); (case side2 => exact HC0.out); rintro e w61 ⟨v200, rfl, ho0, hb⟩; have HO201 := aZ (Kd.R_lower ho0 (below_size (lZB HB.out))); replace HB := aZ (below_step (lZB HB.out) hb); (try clear hb); (try clear hb2); (try clear hk); (try clear hi); (try clear ho0))))
    go_loopg [10] k1 (fun kq v10 w' => ∃ (x10_2 : Int), v10 = .int .i64 x10_2 ∧ Aside0 (spec_ItemsOk.l4 kq (l0.length : Int) t199 x10_2 = some r) ∧ Aside0 (kq ≤ k1) ∧ Aside0 (Kd.R (Kd.int .i64) 3 w' w.heap.size (fun _ => True) v200 t199) ∧ Aside0 (Below w.heap.size w w'))
    case atStart => exact ⟨(0), tZB, H', ⟨Nat.le_refl _⟩, ⟨lZR HO201.out⟩, ⟨bZ⟩⟩
    case round =>
     clear H'
     try clear c1
     try clear p1
     try clear q1
     try clear hx1
     try clear c2
     try clear p2
     try clear c3
     try clear c4
     try clear c4b0
     try clear c5
     try clear c5b0
     try clear c6
     try clear c6b0
     try clear p6
     try clear c8
     try clear c11
     try clear c13
     try clear c14
     try clear c14b0
     try clear c14b1
     try clear c16
     try clear c16b0
     try clear c16b1
     try clear c18
     try clear p18
     try clear q18
     try clear hx18
     try clear c19
     try clear p19
     try clear q19
     try clear hx19
     try clear c20
     try clear c20b0
     try clear c20b1
     try clear c20b2
     try clear c26
     try clear c27
     try clear c27b0
     try clear c28
     try clear c28b0
     try clear c29
     try clear c29b0
     try clear c30
     try clear c30b0
     try clear c30b1
     try clear c33
     try clear c33b0
     try clear c34
     try clear c34b0
     try clear c36
     try clear c42
     try clear c42b0
     try clear c43
     try clear c43b0
     try clear c45
     try clear c46
     try clear c46b0
     try clear c46b1
     try clear c47
     try clear c47b0
     try clear c47b1
     try clear hcz15_0
     try clear hcz15_1
     try clear hcz15_2
     try clear hcz15_3
     try clear hcz15_4
     try clear hcz17_0
     try clear hcz17_1
     try clear hcz17_2
     try clear hcz17_3
     try clear hcz17_4
     try clear hcz21_0
     try clear hcz21_1
     try clear hcz21_2
     try clear hcz21_3
     try clear hcz21_4
     try clear hcz22_0
     try clear hcz22_1
     try clear hcz22_2
     try clear hcz22_3
     try clear hcz22_4
     try clear hcz23_0
     try clear hcz23_1
     try clear hcz23_2
     try clear hcz23_3
     try clear hcz23_4
     try clear hcz24_0
     try clear hcz24_1
     try clear hcz24_2
     try clear hcz24_3
     try clear hcz24_4
     try clear hcz25_0
     try clear hcz25_1
     try clear hcz25_2
     try clear hcz25_3
     try clear hcz25_4
     try clear hcz31_0
     try clear hcz31_1
     try clear hcz31_2
     try clear hcz31_3
     try clear hcz31_4
     try clear hcz32_0
     try clear hcz32_1
     try clear hcz32_2
     try clear hcz32_3
     try clear hcz32_4
     try clear hcz37_0
     try clear hcz37_1
     try clear hcz37_2
     try clear hcz37_3
     try clear hcz37_4
     try clear hcz39_0
     try clear hcz39_1
     try clear hcz39_2
     try clear hcz39_3
     try clear hcz39_4
     try clear hcz41_0
     try clear hcz41_1
     try clear hcz41_2
     try clear hcz41_3
     try clear hcz41_4
     try clear hcz48_0
     try clear hcz48_1
     try clear hcz48_2
     try clear hcz48_3
     try clear hcz48_4
     try clear hcz50_0
     try clear hcz50_1
     try clear hcz50_2
     try clear hcz50_3
     try clear hcz50_4
     try clear hcz51_0
     try clear hcz51_1
     try clear hcz51_2
     try clear hcz51_3
     try clear hcz51_4
     try clear hcz53_0
     try clear hcz53_1
     try clear hcz53_2
     try clear hcz53_3
     try clear hcz53_4
     try clear hcz54_0
     try clear hcz54_1
     try clear hcz54_2
     try clear hcz54_3
     try clear hcz54_4
     try clear hcz56_0
     try clear hcz56_1
     try clear hcz56_2
     try clear hcz56_3
     try clear hcz56_4
     try clear hcz57_0
     try clear hcz57_1
     try clear hcz57_2
     try clear hcz57_3
     try clear hcz57_4
     try clear hcz59_0
     try clear hcz59_1
     try clear hcz59_2
     try clear hcz59_3
     try clear hcz59_4
     try clear hcz9_0
     try clear hcz9_1
     try clear hcz9_2
     try clear hcz9_3
     try clear hcz9_4
     try clear hfz15_0
     try clear hfz15_1
     try clear hfz15_2
     try clear hfz15_3
     try clear hfz15_4
     try clear hfz17_0
     try clear hfz17_1
     try clear hfz17_2
     try clear hfz17_3
     try clear hfz17_4
     try clear hfz21_0
     try clear hfz21_1
     try clear hfz21_2
     try clear hfz21_3
     try clear hfz21_4
     try clear hfz22_0
     try clear hfz22_1
     try clear hfz22_2
     try clear hfz22_3
     try clear hfz22_4
     try clear hfz23_0
     try clear hfz23_1
     try clear hfz23_2
     try clear hfz23_3
     try clear hfz23_4
     try clear hfz24_0
     try clear hfz24_1
     try clear hfz24_2
     try clear hfz24_3
     try clear hfz24_4
     try clear hfz25_0
     try clear hfz25_1
     try clear hfz25_2
     try clear hfz25_3
     try clear hfz25_4
     try clear hfz31_0
     try clear hfz31_1
     try clear hfz31_2
     try clear hfz31_3
     try clear hfz31_4
     try clear hfz32_0
     try clear hfz32_1
     try clear hfz32_2
     try clear hfz32_3
     try clear hfz32_4
     try clear hfz37_0
     try clear hfz37_1
     try clear hfz37_2
     try clear hfz37_3
     try clear hfz37_4
     try clear hfz39_0
     try clear hfz39_1
     try clear hfz39_2
     try clear hfz39_3
     try clear hfz39_4
     try clear hfz41_0
     try clear hfz41_1
     try clear hfz41_2
     try clear hfz41_3
     try clear hfz41_4
     try clear hfz48_0
     try clear hfz48_1
     try clear hfz48_2
     try clear hfz48_3
     try clear hfz48_4
     try clear hfz50_0
     try clear hfz50_1
     try clear hfz50_2
     try clear hfz50_3
     try clear hfz50_4
     try clear hfz51_0
     try clear hfz51_1
     try clear hfz51_2
     try clear hfz51_3
     try clear hfz51_4
     try clear hfz53_0
     try clear hfz53_1
     try clear hfz53_2
     try clear hfz53_3
     try clear hfz53_4
     try clear hfz54_0
     try clear hfz54_1
     try clear hfz54_2
     try clear hfz54_3
     try clear hfz54_4
     try clear hfz56_0
     try clear hfz56_1
     try clear hfz56_2
     try clear hfz56_3
     try clear hfz56_4
     try clear hfz57_0
     try clear hfz57_1
     try clear hfz57_2
     try clear hfz57_3
     try clear hfz57_4
     try clear hfz59_0
     try clear hfz59_1
     try clear hfz59_2
     try clear hfz59_3
     try clear hfz59_4
     try clear hfz9_0
     try clear hfz9_1
     try clear hfz9_2
     try clear hfz9_3
     try clear hfz9_4
     try clear hx188_0
     try clear hx188_1
     try clear hx188_2
     try clear hx188_3
     try clear hx188_4
     try clear hx192_0
     try clear hx192_1
     try clear hx192_2
     try clear hx192_3
     try clear hx192_4
     try clear hx193_0
     try clear hx193_1
     try clear hx193_2
     try clear hx193_3
     try clear hx193_4
     try clear hx193_5
     try clear hx195_0
     try clear hx195_1
     try clear hx195_2
     try clear hx195_3
     try clear hx195_4
     try clear hx195_5
     try clear hx197_0
     try clear hx197_1
     try clear hx197_2
     try clear hx197_3
     try clear hx197_4
     try clear hx197_5
     try clear hx198_0
     try clear hx198_1
     try clear hx198_2
     try clear hx198_3
     try clear hx198_4
     try clear hx198_5
     try clear p1
     try clear p18
     try clear p188
     try clear p19
     try clear p192
     try clear p193
     try clear p195
     try clear p197
     try clear p198
     try clear p2
     try clear p6
     try clear q1
     try clear q18
     try clear q188
     try clear q19
     try clear q192
     try clear q193
     try clear q195
     try clear q197
     try clear q198
     obtain ⟨x10_2, rfl, HA, HK2, HO_9, HB⟩ := hrel
     cases gk with
     | zero => exact absurd HA.out (by simp [spec_ItemsOk.l4])
     | succ k2 =>
      have H := HA.out
      clear HA
      simp only [spec_ItemsOk.l4] at H
      by_cases c62 : x10_2 < (l0.length : Int)
      rotate_left
      ·rw [if_neg c62] at H
       have c62b0 := decide_eq_false c62
       clear c62
       obtain rfl := Option.some.inj H
       go_wp2
       repeat (go_quiet (fail); try go_wp2)
       go_ret
       exact ⟨tZC, bZ⟩
      rw [if_pos c62] at H
      have c62b0 := decide_eq_true c62
      clear c62
      by_cases c63 : 0 ≤ x10_2
      rotate_left
      ·rw [if_neg c63] at H
       exact absurd H (by simp)
      rw [if_pos c63] at H
      have c63b0 := decide_eq_true c63
      clear c63
      by_cases c64 : x10_2 < (t199.length : Int)
      rotate_left
      ·rw [if_neg c64] at H
       exact absurd H (by simp)
      rw [if_pos c64] at H
      have c64b0 := decide_eq_true c64
      clear c64
      by_cases c65 : (rd t199 x10_2) > 20
      ·rw [if_pos c65] at H
       have c65b0 : decide (20 < (rd t199 x10_2)) = true := decide_eq_true c65
       clear c65
       obtain rfl := Option.some.inj H
       obtain ⟨Ao66, co66, eo66⟩ := Kd.R_slice HO_9.out
       subst eo66
       have p202 : 0 ≤ (x10_2 : Int) := of_decide_eq_true tZE
       have q202 : x10_2 < (t199.length : Int) := of_decide_eq_true tZE
       obtain ⟨ad202, e202, hx202_0⟩ := Kd.at_int (Kd.R_reads' HO_9.out).2.2 x10_2 p202 q202
       cases e202
       replace p202 := eq_true p202
       replace q202 := eq_true q202
       go_wp2
       repeat (go_quiet (fail); try go_wp2)
       go_ret
       exact ⟨tZC, bZ⟩
      rw [if_neg c65] at H
      have c65b0 : decide (20 < (rd t199 x10_2)) = false := decide_eq_false c65
      clear c65
      have H' := Aside0.mk H
      clear H
      obtain ⟨Ao67, co67, eo67⟩ := Kd.R_slice HO_9.out
      subst eo67
      have p202 : 0 ≤ (x10_2 : Int) := of_decide_eq_true tZE
      have q202 : x10_2 < (t199.length : Int) := of_decide_eq_true tZE
      obtain ⟨ad202, e202, hx202_0⟩ := Kd.at_int (Kd.R_reads' HO_9.out).2.2 x10_2 p202 q202
      cases e202
      replace p202 := eq_true p202
      replace q202 := eq_true q202
      go_wp2
      repeat (go_quiet (fail); try go_wp2)
      go_roundg k2
      case measure => have := HK1.out; have := HK2.out; omega
      case rel => exact ⟨(wrap64 (x10_2 + 1)), tZB, H', ⟨by have := HK1.out; have := HK2.out; omega⟩, ⟨lZR HO_9.out⟩, ⟨bZ⟩⟩
   rw [if_pos c4] at H
   have c4b0 := decide_eq_true c4
   clear c4
   by_cases c5 : 0 ≤ x4_1
   rotate_left
   ·rw [if_neg c5] at H
    exact absurd H (by simp)
   rw [if_pos c5] at H
   have c5b0 := decide_eq_true c5
   clear c5
   by_cases c6 : x4_1 < (l0.length : Int)
   rotate_left
   ·rw [if_neg c6] at H
    exact absurd H (by simp)
   rw [if_pos c6] at H
   have c6b0 := decide_eq_true c6
   clear c6
   have HC7 := Aside0.mk H
   clear H
   have p188 : 0 ≤ (x4_1 : Int) := of_decide_eq_true tZE
   have q188 : x4_1 < (l0.length : Int) := of_decide_eq_true tZE
   obtain ⟨ad188, A188_3, c188_3, A188_4, c188_4, e188, hx188_0, hx188_1, hx188_2, hx188_3, hx188_4, hl188_3, hi188_3, hl188_4, hi188_4⟩ := at_T130 HR0.out x4_1 p188 q188
   have hz188_3 := hx188_3
   have hz188_4 := hx188_4
   cases e188
   replace hx188_0 := cZ HB hx188_0
   replace hx188_1 := cZ HB hx188_1
   replace hx188_2 := cZ HB hx188_2
   replace hx188_3 := cZ HB hx188_3
   replace hx188_4 := cZ HB hx188_4
   have HR188_3 := Aside0.mk hi188_3
   have HC188_3 := Aside0.mk hl188_3
   clear hi188_3 hl188_3
   have HR188_4 := Aside0.mk hi188_4
   have HC188_4 := Aside0.mk hl188_4
   clear hi188_4 hl188_4
   replace p188 := eq_true p188
   replace q188 := eq_true q188
   go_upto_region 8 with (first | ((with_reducible refine gate_dst (N := 5) rfl ?_); (try (refine gate_guard (by rfl) ?_; dsimp only)); refine box_event ?hg (N := 5) ?hd (cs := #[.string (⟨#[]⟩ : ByteArray), .int .i64 0, .bool false, .slice none 0 0, .slice none 0 0]) (t := 130) ?hr ?_; (case hd => rfl); (case hg => rfl); (case hr => first | (go_simp; done) | (go_simp; rfl)); intro gb189 hg w8 hbox hb; have BK189 := aZ (hbox); have GW189 := aZ ((by rw [hg]; exact (below_size (lZB HB.out)) : w.heap.size ≤ gb189)); have GE189 := aZ ((by rw [hg]; exact (below_size (lZB HB.out)) : w.heap.size ≤ gb189)); replace HB := aZ (below_step (lZB HB.out) hb); clear hb hbox hg; have hcz9_0 : w8.cell? ⟨gb189, 0, none⟩ = some (.string (⟨#[]⟩ : ByteArray)) := (blk_cell BK189.out 0).trans rfl; have hcz9_1 : w8.cell? ⟨gb189, 1, none⟩ = some (.int .i64 0) := (blk_cell BK189.out 1).trans rfl; have hcz9_2 : w8.cell? ⟨gb189, 2, none⟩ = some (.bool false) := (blk_cell BK189.out 2).trans rfl; have hcz9_3 : w8.cell? ⟨gb189, 3, none⟩ = some (.slice none 0 0) := (blk_cell BK189.out 3).trans rfl; have hcz9_4 : w8.cell? ⟨gb189, 4, none⟩ = some (.slice none 0 0) := (blk_cell BK189.out 4).trans rfl; have hfz9_0 := blk_frozen BK189.out 0; have hfz9_1 := blk_frozen BK189.out 1; have hfz9_2 := blk_frozen BK189.out 2; have hfz9_3 := blk_frozen BK189.out 3; have hfz9_4 := blk_frozen BK189.out 4))
   repeat (go_quiet (first | ((with_reducible refine gate_dst (N := 5) rfl ?_); (try (refine gate_guard (by rfl) ?_; dsimp only)); refine box_event ?hg (N := 5) ?hd (cs := #[.string (⟨#[]⟩ : ByteArray), .int .i64 0, .bool false, .slice none 0 0, .slice none 0 0]) (t := 130) ?hr ?_; (case hd => rfl); (case hg => rfl); (case hr => first | (go_simp; done) | (go_simp; rfl)); intro gb189 hg w8 hbox hb; have BK189 := aZ (hbox); have GW189 := aZ ((by rw [hg]; exact (below_size (lZB HB.out)) : w.heap.size ≤ gb189)); have GE189 := aZ ((by rw [hg]; exact (below_size (lZB HB.out)) : w.heap.size ≤ gb189)); replace HB := aZ (below_step (lZB HB.out) hb); clear hb hbox hg; have hcz9_0 : w8.cell? ⟨gb189, 0, none⟩ = some (.string (⟨#[]⟩ : ByteArray)) := (blk_cell BK189.out 0).trans rfl; have hcz9_1 : w8.cell? ⟨gb189, 1, none⟩ = some (.int .i64 0) := (blk_cell BK189.out 1).trans rfl; have hcz9_2 : w8.cell? ⟨gb189, 2, none⟩ = some (.bool false) := (blk_cell BK189.out 2).trans rfl; have hcz9_3 : w8.cell? ⟨gb189, 3, none⟩ = some (.slice none 0 0) := (blk_cell BK189.out 3).trans rfl; have hcz9_4 : w8.cell? ⟨gb189, 4, none⟩ = some (.slice none 0 0) := (blk_cell BK189.out 4).trans rfl; have hfz9_0 := blk_frozen BK189.out 0; have hfz9_1 := blk_frozen BK189.out 1; have hfz9_2 := blk_frozen BK189.out 2; have hfz9_3 := blk_frozen BK189.out 3; have hfz9_4 := blk_frozen BK189.out 4)); go_upto_region 8 with (first | ((with_reducible refine gate_dst (N := 5) rfl ?_); (try (refine gate_guard (by rfl) ?_; dsimp only)); refine box_event ?hg (N := 5) ?hd (cs := #[.string (⟨#[]⟩ : ByteArray), .int .i64 0, .bool false, .slice none 0 0, .slice none 0 0]) (t := 130) ?hr ?_; (case hd => rfl); (case hg => rfl); (case hr => first | (go_simp; done) | (go_simp; rfl)); intro gb189 hg w8 hbox hb; have BK189 := aZ (hbox); have GW189 := aZ ((by rw [hg]; exact (below_size (lZB HB.out)) : w.heap.size ≤ gb189)); have GE189 := aZ ((by rw [hg]; exact (below_size (lZB HB.out)) : w.heap.size ≤ gb189)); replace HB := aZ (below_step (lZB HB.out) hb); clear hb hbox hg; have hcz9_0 : w8.cell? ⟨gb189, 0, none⟩ = some (.string (⟨#[]⟩ : ByteArray)) := (blk_cell BK189.out 0).trans rfl; have hcz9_1 : w8.cell? ⟨gb189, 1, none⟩ = some (.int .i64 0) := (blk_cell BK189.out 1).trans rfl; have hcz9_2 : w8.cell? ⟨gb189, 2, none⟩ = some (.bool false) := (blk_cell BK189.out 2).trans rfl; have hcz9_3 : w8.cell? ⟨gb189, 3, none⟩ = some (.slice none 0 0) := (blk_cell BK189.out 3).trans rfl; have hcz9_4 : w8.cell? ⟨gb189, 4, none⟩ = some (.slice none 0 0) := (blk_cell BK189.out 4).trans rfl; have hfz9_0 := blk_frozen BK189.out 0; have hfz9_1 := blk_frozen BK189.out 1; have hfz9_2 := blk_frozen BK189.out 2; have hfz9_3 := blk_frozen BK189.out 3; have hfz9_4 := blk_frozen BK189.out 4)))
   (try simp only [Act.put, sZ1, sZ2, sZ3])
   go_cut [62] (fun v62 wc => ∃ (kq : Nat) (x62_6 : Bool), v62 = .bool x62_6 ∧ Aside0 (spec_ItemsOk.j1 kq l0 (l0.length : Int) x4_1 x62_6 ((rd_T130 l0 x4_1).f0) ((rd_T130 l0 x4_1).f1) ((rd_T130 l0 x4_1).f2) ((rd_T130 l0 x4_1).f3) ((rd_T130 l0 x4_1).f4) = some r) ∧ Aside0 (kq ≤ k1) ∧ Aside0 (wc.heap[gb189]? = some (.cells #[.string ((rd_T130 l0 x4_1).f0), .int .i64 ((rd_T130 l0 x4_1).f1), .bool ((rd_T130 l0 x4_1).f2), (.slice A188_3 ((rd_T130 l0 x4_1).f3).length c188_3), (.slice A188_4 ((rd_T130 l0 x4_1).f4).length c188_4)] 130 (0, 0))) ∧ Aside0 (Below w.heap.size w wc))
   case first =>
    have H := HC7.out
    clear HC7
    replace H := Option.bind_eq_some_iff.mp H
    obtain ⟨t190, A100, H⟩ := H
    replace H : (if t190 = true then ((spec_l1In.f ((rd_T130 l0 x4_1).f1) 1 1000000).bind fun t191 => (if t191 = true then (if (((rd_T130 l0 x4_1).f3).length : Int) > 30 then (spec_ItemsOk.j1 k1 l0 (l0.length : Int) x4_1 true ((rd_T130 l0 x4_1).f0) ((rd_T130 l0 x4_1).f1) ((rd_T130 l0 x4_1).f2) ((rd_T130 l0 x4_1).f3) ((rd_T130 l0 x4_1).f4)) else (if (((rd_T130 l0 x4_1).f4).length : Int) > 30 then (spec_ItemsOk.j1 k1 l0 (l0.length : Int) x4_1 true ((rd_T130 l0 x4_1).f0) ((rd_T130 l0 x4_1).f1) ((rd_T130 l0 x4_1).f2) ((rd_T130 l0 x4_1).f3) ((rd_T130 l0 x4_1).f4)) else (if (rd_T130 l0 x4_1).f2 = true then (if (((rd_T130 l0 x4_1).f3).length : Int) = 0 then (spec_ItemsOk.j1 k1 l0 (l0.length : Int) x4_1 true ((rd_T130 l0 x4_1).f0) ((rd_T130 l0 x4_1).f1) ((rd_T130 l0 x4_1).f2) ((rd_T130 l0 x4_1).f3) ((rd_T130 l0 x4_1).f4)) else (spec_ItemsOk.j1 k1 l0 (l0.length : Int) x4_1 (decide ((((rd_T130 l0 x4_1).f4).length : Int) > 0)) ((rd_T130 l0 x4_1).f0) ((rd_T130 l0 x4_1).f1) ((rd_T130 l0 x4_1).f2) ((rd_T130 l0 x4_1).f3) ((rd_T130 l0 x4_1).f4))) else (spec_ItemsOk.j1 k1 l0 (l0.length : Int) x4_1 false ((rd_T130 l0 x4_1).f0) ((rd_T130 l0 x4_1).f1) ((rd_T130 l0 x4_1).f2) ((rd_T130 l0 x4_1).f3) ((rd_T130 l0 x4_1).f4))))) else (spec_ItemsOk.j1 k1 l0 (l0.length : Int) x4_1 true ((rd_T130 l0 x4_1).f0) ((rd_T130 l0 x4_1).f1) ((rd_T130 l0 x4_1).f2) ((rd_T130 l0 x4_1).f3) ((rd_T130 l0 x4_1).f4)))) else (spec_ItemsOk.j1 k1 l0 (l0.length : Int) x4_1 true ((rd_T130 l0 x4_1).f0) ((rd_T130 l0 x4_1).f1) ((rd_T130 l0 x4_1).f2) ((rd_T130 l0 x4_1).f3) ((rd_T130 l0 x4_1).f4))) = some r := H
    have A10 := Aside0.mk A100
    clear A100
    by_cases c11 : t190 = true
    rotate_left
    ·replace c11 := Bool.eq_false_iff.mpr c11
     subst c11
     have H1 : (spec_ItemsOk.j1 k1 l0 (l0.length : Int) x4_1 true ((rd_T130 l0 x4_1).f0) ((rd_T130 l0 x4_1).f1) ((rd_T130 l0 x4_1).f2) ((rd_T130 l0 x4_1).f3) ((rd_T130 l0 x4_1).f4)) = some r := by rw [if_neg (show ¬ (false = true) by decide)] at H; exact H
     clear H
     have H := H1
     clear H1
     have H' := Aside0.mk H
     clear H
     have hcz25_0 : w8.cell? ⟨gb189, 0, none⟩ = some (.string (⟨#[]⟩ : ByteArray)) := (blk_cell BK189.out 0).trans rfl
     have hcz25_1 : w8.cell? ⟨gb189, 1, none⟩ = some (.int .i64 0) := (blk_cell BK189.out 1).trans rfl
     have hcz25_2 : w8.cell? ⟨gb189, 2, none⟩ = some (.bool false) := (blk_cell BK189.out 2).trans rfl
     have hcz25_3 : w8.cell? ⟨gb189, 3, none⟩ = some (.slice none 0 0) := (blk_cell BK189.out 3).trans rfl
     have hcz25_4 : w8.cell? ⟨gb189, 4, none⟩ = some (.slice none 0 0) := (blk_cell BK189.out 4).trans rfl
     have hfz25_0 := blk_frozen BK189.out 0
     have hfz25_1 := blk_frozen BK189.out 1
     have hfz25_2 := blk_frozen BK189.out 2
     have hfz25_3 := blk_frozen BK189.out 3
     have hfz25_4 := blk_frozen BK189.out 4
     go_wp2_with (first | (go_at_call 153; (with_reducible refine (spec_NameOk.calls k1 ((rd_T130 l0 x4_1).f0) false _ A10.out).mono ?_); rintro e w' ⟨rfl, ⟨nd, rfl⟩⟩; (try first | exact ⟨rfl, _, World.drewN_drewN _ _ _⟩ | exact ⟨rfl, _, Eq.trans (World.drewN_drewN _ _ _) (congrArg (World.drewN _) (Nat.add_assoc _ _ _))⟩)))
     repeat (go_quiet (first | (go_at_call 153; (with_reducible refine (spec_NameOk.calls k1 ((rd_T130 l0 x4_1).f0) false _ A10.out).mono ?_); rintro e w' ⟨rfl, ⟨nd, rfl⟩⟩; (try first | exact ⟨rfl, _, World.drewN_drewN _ _ _⟩ | exact ⟨rfl, _, Eq.trans (World.drewN_drewN _ _ _) (congrArg (World.drewN _) (Nat.add_assoc _ _ _))⟩))); try go_wp2_with (first | (go_at_call 153; (with_reducible refine (spec_NameOk.calls k1 ((rd_T130 l0 x4_1).f0) false _ A10.out).mono ?_); rintro e w' ⟨rfl, ⟨nd, rfl⟩⟩; (try first | exact ⟨rfl, _, World.drewN_drewN _ _ _⟩ | exact ⟨rfl, _, Eq.trans (World.drewN_drewN _ _ _) (congrArg (World.drewN _) (Nat.add_assoc _ _ _))⟩))))
     go_meet
     case rel => exact ⟨_, (true), tZB, H', ⟨by have := HK1.out; first | omega | exact Nat.le_refl _⟩, ⟨by (with_reducible repeat (first | refine blk_drewN ?_ _ | refine blk_drew ?_ | refine blk_alloc ?_ _)); refine blk_put (cs := #[.string ((rd_T130 l0 x4_1).f0), .int .i64 ((rd_T130 l0 x4_1).f1), .bool ((rd_T130 l0 x4_1).f2), .slice A188_3 ((rd_T130 l0 x4_1).f3).length c188_3, .slice none 0 0]) ?_ 4 _ rfl; (with_reducible repeat (first | refine blk_drewN ?_ _ | refine blk_drew ?_ | refine blk_alloc ?_ _)); refine blk_put (cs := #[.string ((rd_T130 l0 x4_1).f0), .int .i64 ((rd_T130 l0 x4_1).f1), .bool ((rd_T130 l0 x4_1).f2), .slice none 0 0, .slice none 0 0]) ?_ 3 _ rfl; (with_reducible repeat (first | refine blk_drewN ?_ _ | refine blk_drew ?_ | refine blk_alloc ?_ _)); refine blk_put (cs := #[.string ((rd_T130 l0 x4_1).f0), .int .i64 ((rd_T130 l0 x4_1).f1), .bool false, .slice none 0 0, .slice none 0 0]) ?_ 2 _ rfl; (with_reducible repeat (first | refine blk_drewN ?_ _ | refine blk_drew ?_ | refine blk_alloc ?_ _)); refine blk_put (cs := #[.string ((rd_T130 l0 x4_1).f0), .int .i64 0, .bool false, .slice none 0 0, .slice none 0 0]) ?_ 1 _ rfl; (with_reducible repeat (first | refine blk_drewN ?_ _ | refine blk_drew ?_ | refine blk_alloc ?_ _)); refine blk_put (cs := #[.string (⟨#[]⟩ : ByteArray), .int .i64 0, .bool false, .slice none 0 0, .slice none 0 0]) ?_ 0 _ rfl; (with_reducible repeat (first | refine blk_drewN ?_ _ | refine blk_drew ?_ | refine blk_alloc ?_ _)); exact BK189.out⟩, ⟨bZ⟩⟩
    subst c11
    have H1 : ((spec_l1In.f ((rd_T130 l0 x4_1).f1) 1 1000000).bind fun t191 => (if t191 = true then (if (((rd_T130 l0 x4_1).f3).length : Int) > 30 then (spec_ItemsOk.j1 k1 l0 (l0.length : Int) x4_1 true ((rd_T130 l0 x4_1).f0) ((rd_T130 l0 x4_1).f1) ((rd_T130 l0 x4_1).f2) ((rd_T130 l0 x4_1).f3) ((rd_T130 l0 x4_1).f4)) else (if (((rd_T130 l0 x4_1).f4).length : Int) > 30 then (spec_ItemsOk.j1 k1 l0 (l0.length : Int) x4_1 true ((rd_T130 l0 x4_1).f0) ((rd_T130 l0 x4_1).f1) ((rd_T130 l0 x4_1).f2) ((rd_T130 l0 x4_1).f3) ((rd_T130 l0 x4_1).f4)) else (if (rd_T130 l0 x4_1).f2 = true then (if (((rd_T130 l0 x4_1).f3).length : Int) = 0 then (spec_ItemsOk.j1 k1 l0 (l0.length : Int) x4_1 true ((rd_T130 l0 x4_1).f0) ((rd_T130 l0 x4_1).f1) ((rd_T130 l0 x4_1).f2) ((rd_T130 l0 x4_1).f3) ((rd_T130 l0 x4_1).f4)) else (spec_ItemsOk.j1 k1 l0 (l0.length : Int) x4_1 (decide ((((rd_T130 l0 x4_1).f4).length : Int) > 0)) ((rd_T130 l0 x4_1).f0) ((rd_T130 l0 x4_1).f1) ((rd_T130 l0 x4_1).f2) ((rd_T130 l0 x4_1).f3) ((rd_T130 l0 x4_1).f4))) else (spec_ItemsOk.j1 k1 l0 (l0.length : Int) x4_1 false ((rd_T130 l0 x4_1).f0) ((rd_T130 l0 x4_1).f1) ((rd_T130 l0 x4_1).f2) ((rd_T130 l0 x4_1).f3) ((rd_T130 l0 x4_1).f4))))) else (spec_ItemsOk.j1 k1 l0 (l0.length : Int) x4_1 true ((rd_T130 l0 x4_1).f0) ((rd_T130 l0 x4_1).f1) ((rd_T130 l0 x4_1).f2) ((rd_T130 l0 x4_1).f3) ((rd_T130 l0 x4_1).f4)))) = some r := by rw [if_pos rfl] at H; exact H
    clear H
    have H := H1
    clear H1
    replace H := Option.bind_eq_some_iff.mp H
    obtain ⟨t191, A120, H⟩ := H
    replace H : (if t191 = true then (if (((rd_T130 l0 x4_1).f3).length : Int) > 30 then (spec_ItemsOk.j1 k1 l0 (l0.length : Int) x4_1 true ((rd_T130 l0 x4_1).f0) ((rd_T130 l0 x4_1).f1) ((rd_T130 l0 x4_1).f2) ((rd_T130 l0 x4_1).f3) ((rd_T130 l0 x4_1).f4)) else (if (((rd_T130 l0 x4_1).f4).length : Int) > 30 then (spec_ItemsOk.j1 k1 l0 (l0.length : Int) x4_1 true ((rd_T130 l0 x4_1).f0) ((rd_T130 l0 x4_1).f1) ((rd_T130 l0 x4_1).f2) ((rd_T130 l0 x4_1).f3) ((rd_T130 l0 x4_1).f4)) else (if (rd_T130 l0 x4_1).f2 = true then (if (((rd_T130 l0 x4_1).f3).length : Int) = 0 then (spec_ItemsOk.j1 k1 l0 (l0.length : Int) x4_1 true ((rd_T130 l0 x4_1).f0) ((rd_T130 l0 x4_1).f1) ((rd_T130 l0 x4_1).f2) ((rd_T130 l0 x4_1).f3) ((rd_T130 l0 x4_1).f4)) else (spec_ItemsOk.j1 k1 l0 (l0.length : Int) x4_1 (decide ((((rd_T130 l0 x4_1).f4).length : Int) > 0)) ((rd_T130 l0 x4_1).f0) ((rd_T130 l0 x4_1).f1) ((rd_T130 l0 x4_1).f2) ((rd_T130 l0 x4_1).f3) ((rd_T130 l0 x4_1).f4))) else (spec_ItemsOk.j1 k1 l0 (l0.length : Int) x4_1 false ((rd_T130 l0 x4_1).f0) ((rd_T130 l0 x4_1).f1) ((rd_T130 l0 x4_1).f2) ((rd_T130 l0 x4_1).f3) ((rd_T130 l0 x4_1).f4))))) else (spec_ItemsOk.j1 k1 l0 (l0.length : Int) x4_1 true ((rd_T130 l0 x4_1).f0) ((rd_T130 l0 x4_1).f1) ((rd_T130 l0 x4_1).f2) ((rd_T130 l0 x4_1).f3) ((rd_T130 l0 x4_1).f4))) = some r := H
    have A12 := Aside0.mk A120
    clear A120
    by_cases c13 : t191 = true
    rotate_left
    ·replace c13 := Bool.eq_false_iff.mpr c13
     subst c13
     have H1 : (spec_ItemsOk.j1 k1 l0 (l0.length : Int) x4_1 true ((rd_T130 l0 x4_1).f0) ((rd_T130 l0 x4_1).f1) ((rd_T130 l0 x4_1).f2) ((rd_T130 l0 x4_1).f3) ((rd_T130 l0 x4_1).f4)) = some r := by rw [if_neg (show ¬ (false = true) by decide)] at H; exact H
     clear H
     have H := H1
     clear H1
     have H' := Aside0.mk H
     clear H
     have hcz24_0 : w8.cell? ⟨gb189, 0, none⟩ = some (.string (⟨#[]⟩ : ByteArray)) := (blk_cell BK189.out 0).trans rfl
     have hcz24_1 : w8.cell? ⟨gb189, 1, none⟩ = some (.int .i64 0) := (blk_cell BK189.out 1).trans rfl
     have hcz24_2 : w8.cell? ⟨gb189, 2, none⟩ = some (.bool false) := (blk_cell BK189.out 2).trans rfl
     have hcz24_3 : w8.cell? ⟨gb189, 3, none⟩ = some (.slice none 0 0) := (blk_cell BK189.out 3).trans rfl
     have hcz24_4 : w8.cell? ⟨gb189, 4, none⟩ = some (.slice none 0 0) := (blk_cell BK189.out 4).trans rfl
     have hfz24_0 := blk_frozen BK189.out 0
     have hfz24_1 := blk_frozen BK189.out 1
     have hfz24_2 := blk_frozen BK189.out 2
     have hfz24_3 := blk_frozen BK189.out 3
     have hfz24_4 := blk_frozen BK189.out 4
     go_wp2_with (first | (go_at_call 153; (with_reducible refine (spec_NameOk.calls k1 ((rd_T130 l0 x4_1).f0) true _ A10.out).mono ?_); rintro e w' ⟨rfl, ⟨nd, rfl⟩⟩; (try first | exact ⟨rfl, _, World.drewN_drewN _ _ _⟩ | exact ⟨rfl, _, Eq.trans (World.drewN_drewN _ _ _) (congrArg (World.drewN _) (Nat.add_assoc _ _ _))⟩)) | (go_at_call 72; (with_reducible refine (spec_l1In.calls ((rd_T130 l0 x4_1).f1) 1 1000000 false _ A12.out).mono ?_); rintro e w' ⟨rfl, ⟨nd, rfl⟩⟩; (try first | exact ⟨rfl, _, World.drewN_drewN _ _ _⟩ | exact ⟨rfl, _, Eq.trans (World.drewN_drewN _ _ _) (congrArg (World.drewN _) (Nat.add_assoc _ _ _))⟩)))
     repeat (go_quiet (first | (go_at_call 153; (with_reducible refine (spec_NameOk.calls k1 ((rd_T130 l0 x4_1).f0) true _ A10.out).mono ?_); rintro e w' ⟨rfl, ⟨nd, rfl⟩⟩; (try first | exact ⟨rfl, _, World.drewN_drewN _ _ _⟩ | exact ⟨rfl, _, Eq.trans (World.drewN_drewN _ _ _) (congrArg (World.drewN _) (Nat.add_assoc _ _ _))⟩)) | (go_at_call 72; (with_reducible refine (spec_l1In.calls ((rd_T130 l0 x4_1).f1) 1 1000000 false _ A12.out).mono ?_); rintro e w' ⟨rfl, ⟨nd, rfl⟩⟩; (try first | exact ⟨rfl, _, World.drewN_drewN _ _ _⟩ | exact ⟨rfl, _, Eq.trans (World.drewN_drewN _ _ _) (congrArg (World.drewN _) (Nat.add_assoc _ _ _))⟩))); try go_wp2_with (first | (go_at_call 153; (with_reducible refine (spec_NameOk.calls k1 ((rd_T130 l0 x4_1).f0) true _ A10.out).mono ?_); rintro e w' ⟨rfl, ⟨nd, rfl⟩⟩; (try first | exact ⟨rfl, _, World.drewN_drewN _ _ _⟩ | exact ⟨rfl, _, Eq.trans (World.drewN_drewN _ _ _) (congrArg (World.drewN _) (Nat.add_assoc _ _ _))⟩)) | (go_at_call 72; (with_reducible refine (spec_l1In.calls ((rd_T130 l0 x4_1).f1) 1 1000000 false _ A12.out).mono ?_); rintro e w' ⟨rfl, ⟨nd, rfl⟩⟩; (try first | exact ⟨rfl, _, World.drewN_drewN _ _ _⟩ | exact ⟨rfl, _, Eq.trans (World.drewN_drewN _ _ _) (congrArg (World.drewN _) (Nat.add_assoc _ _ _))⟩))))
     go_meet
     case rel => exact ⟨_, (true), tZB, H', ⟨by have := HK1.out; first | omega | exact Nat.le_refl _⟩, ⟨by (with_reducible repeat (first | refine blk_drewN ?_ _ | refine blk_drew ?_ | refine blk_alloc ?_ _)); refine blk_put (cs := #[.string ((rd_T130 l0 x4_1).f0), .int .i64 ((rd_T130 l0 x4_1).f1), .bool ((rd_T130 l0 x4_1).f2), .slice A188_3 ((rd_T130 l0 x4_1).f3).length c188_3, .slice none 0 0]) ?_ 4 _ rfl; (with_reducible repeat (first | refine blk_drewN ?_ _ | refine blk_drew ?_ | refine blk_alloc ?_ _)); refine blk_put (cs := #[.string ((rd_T130 l0 x4_1).f0), .int .i64 ((rd_T130 l0 x4_1).f1), .bool ((rd_T130 l0 x4_1).f2), .slice none 0 0, .slice none 0 0]) ?_ 3 _ rfl; (with_reducible repeat (first | refine blk_drewN ?_ _ | refine blk_drew ?_ | refine blk_alloc ?_ _)); refine blk_put (cs := #[.string ((rd_T130 l0 x4_1).f0), .int .i64 ((rd_T130 l0 x4_1).f1), .bool false, .slice none 0 0, .slice none 0 0]) ?_ 2 _ rfl; (with_reducible repeat (first | refine blk_drewN ?_ _ | refine blk_drew ?_ | refine blk_alloc ?_ _)); refine blk_put (cs := #[.string ((rd_T130 l0 x4_1).f0), .int .i64 0, .bool false, .slice none 0 0, .slice none 0 0]) ?_ 1 _ rfl; (with_reducible repeat (first | refine blk_drewN ?_ _ | refine blk_drew ?_ | refine blk_alloc ?_ _)); refine blk_put (cs := #[.string (⟨#[]⟩ : ByteArray), .int .i64 0, .bool false, .slice none 0 0, .slice none 0 0]) ?_ 0 _ rfl; (with_reducible repeat (first | refine blk_drewN ?_ _ | refine blk_drew ?_ | refine blk_alloc ?_ _)); exact BK189.out⟩, ⟨bZ⟩⟩
    subst c13
    have H1 : (if (((rd_T130 l0 x4_1).f3).length : Int) > 30 then (spec_ItemsOk.j1 k1 l0 (l0.length : Int) x4_1 true ((rd_T130 l0 x4_1).f0) ((rd_T130 l0 x4_1).f1) ((rd_T130 l0 x4_1).f2) ((rd_T130 l0 x4_1).f3) ((rd_T130 l0 x4_1).f4)) else (if (((rd_T130 l0 x4_1).f4).length : Int) > 30 then (spec_ItemsOk.j1 k1 l0 (l0.length : Int) x4_1 true ((rd_T130 l0 x4_1).f0) ((rd_T130 l0 x4_1).f1) ((rd_T130 l0 x4_1).f2) ((rd_T130 l0 x4_1).f3) ((rd_T130 l0 x4_1).f4)) else (if (rd_T130 l0 x4_1).f2 = true then (if (((rd_T130 l0 x4_1).f3).length : Int) = 0 then (spec_ItemsOk.j1 k1 l0 (l0.length : Int) x4_1 true ((rd_T130 l0 x4_1).f0) ((rd_T130 l0 x4_1).f1) ((rd_T130 l0 x4_1).f2) ((rd_T130 l0 x4_1).f3) ((rd_T130 l0 x4_1).f4)) else (spec_ItemsOk.j1 k1 l0 (l0.length : Int) x4_1 (decide ((((rd_T130 l0 x4_1).f4).length : Int) > 0)) ((rd_T130 l0 x4_1).f0) ((rd_T130 l0 x4_1).f1) ((rd_T130 l0 x4_1).f2) ((rd_T130 l0 x4_1).f3) ((rd_T130 l0 x4_1).f4))) else (spec_ItemsOk.j1 k1 l0 (l0.length : Int) x4_1 false ((rd_T130 l0 x4_1).f0) ((rd_T130 l0 x4_1).f1) ((rd_T130 l0 x4_1).f2) ((rd_T130 l0 x4_1).f3) ((rd_T130 l0 x4_1).f4))))) = some r := by rw [if_pos rfl] at H; exact H
    clear H
    have H := H1
    clear H1
    by_cases c14 : (((rd_T130 l0 x4_1).f3).length : Int) > 30
    ·rw [if_pos c14] at H
     have c14b0 : decide (30 < (((rd_T130 l0 x4_1).f3).length : Int)) = true := decide_eq_true c14
     have c14b1 : decide (30 < ((rd_T130 l0 x4_1).f3).length) = true := decide_eq_true (by omega)
     clear c14
     (first | rw [c14b0] | (simp only [i64_w, i32_w]; rw [c14b0]) | skip)
     have H' := Aside0.mk H
     clear H
     have hcz15_0 : w8.cell? ⟨gb189, 0, none⟩ = some (.string (⟨#[]⟩ : ByteArray)) := (blk_cell BK189.out 0).trans rfl
     have hcz15_1 : w8.cell? ⟨gb189, 1, none⟩ = some (.int .i64 0) := (blk_cell BK189.out 1).trans rfl
     have hcz15_2 : w8.cell? ⟨gb189, 2, none⟩ = some (.bool false) := (blk_cell BK189.out 2).trans rfl
     have hcz15_3 : w8.cell? ⟨gb189, 3, none⟩ = some (.slice none 0 0) := (blk_cell BK189.out 3).trans rfl
     have hcz15_4 : w8.cell? ⟨gb189, 4, none⟩ = some (.slice none 0 0) := (blk_cell BK189.out 4).trans rfl
     have hfz15_0 := blk_frozen BK189.out 0
     have hfz15_1 := blk_frozen BK189.out 1
     have hfz15_2 := blk_frozen BK189.out 2
     have hfz15_3 := blk_frozen BK189.out 3
     have hfz15_4 := blk_frozen BK189.out 4
     go_wp2_with (first | (go_at_call 153; (with_reducible refine (spec_NameOk.calls k1 ((rd_T130 l0 x4_1).f0) true _ A10.out).mono ?_); rintro e w' ⟨rfl, ⟨nd, rfl⟩⟩; (try first | exact ⟨rfl, _, World.drewN_drewN _ _ _⟩ | exact ⟨rfl, _, Eq.trans (World.drewN_drewN _ _ _) (congrArg (World.drewN _) (Nat.add_assoc _ _ _))⟩)) | (go_at_call 72; (with_reducible refine (spec_l1In.calls ((rd_T130 l0 x4_1).f1) 1 1000000 true _ A12.out).mono ?_); rintro e w' ⟨rfl, ⟨nd, rfl⟩⟩; (try first | exact ⟨rfl, _, World.drewN_drewN _ _ _⟩ | exact ⟨rfl, _, Eq.trans (World.drewN_drewN _ _ _) (congrArg (World.drewN _) (Nat.add_assoc _ _ _))⟩)))
     repeat (go_quiet (first | (go_at_call 153; (with_reducible refine (spec_NameOk.calls k1 ((rd_T130 l0 x4_1).f0) true _ A10.out).mono ?_); rintro e w' ⟨rfl, ⟨nd, rfl⟩⟩; (try first | exact ⟨rfl, _, World.drewN_drewN _ _ _⟩ | exact ⟨rfl, _, Eq.trans (World.drewN_drewN _ _ _) (congrArg (World.drewN _) (Nat.add_assoc _ _ _))⟩)) | (go_at_call 72; (with_reducible refine (spec_l1In.calls ((rd_T130 l0 x4_1).f1) 1 1000000 true _ A12.out).mono ?_); rintro e w' ⟨rfl, ⟨nd, rfl⟩⟩; (try first | exact ⟨rfl, _, World.drewN_drewN _ _ _⟩ | exact ⟨rfl, _, Eq.trans (World.drewN_drewN _ _ _) (congrArg (World.drewN _) (Nat.add_assoc _ _ _))⟩))); try go_wp2_with (first | (go_at_call 153; (with_reducible refine (spec_NameOk.calls k1 ((rd_T130 l0 x4_1).f0) true _ A10.out).mono ?_); rintro e w' ⟨rfl, ⟨nd, rfl⟩⟩; (try first | exact ⟨rfl, _, World.drewN_drewN _ _ _⟩ | exact ⟨rfl, _, Eq.trans (World.drewN_drewN _ _ _) (congrArg (World.drewN _) (Nat.add_assoc _ _ _))⟩)) | (go_at_call 72; (with_reducible refine (spec_l1In.calls ((rd_T130 l0 x4_1).f1) 1 1000000 true _ A12.out).mono ?_); rintro e w' ⟨rfl, ⟨nd, rfl⟩⟩; (try first | exact ⟨rfl, _, World.drewN_drewN _ _ _⟩ | exact ⟨rfl, _, Eq.trans (World.drewN_drewN _ _ _) (congrArg (World.drewN _) (Nat.add_assoc _ _ _))⟩))))
     go_meet
     case rel => exact ⟨_, (true), tZB, H', ⟨by have := HK1.out; first | omega | exact Nat.le_refl _⟩, ⟨by (with_reducible repeat (first | refine blk_drewN ?_ _ | refine blk_drew ?_ | refine blk_alloc ?_ _)); refine blk_put (cs := #[.string ((rd_T130 l0 x4_1).f0), .int .i64 ((rd_T130 l0 x4_1).f1), .bool ((rd_T130 l0 x4_1).f2), .slice A188_3 ((rd_T130 l0 x4_1).f3).length c188_3, .slice none 0 0]) ?_ 4 _ rfl; (with_reducible repeat (first | refine blk_drewN ?_ _ | refine blk_drew ?_ | refine blk_alloc ?_ _)); refine blk_put (cs := #[.string ((rd_T130 l0 x4_1).f0), .int .i64 ((rd_T130 l0 x4_1).f1), .bool ((rd_T130 l0 x4_1).f2), .slice none 0 0, .slice none 0 0]) ?_ 3 _ rfl; (with_reducible repeat (first | refine blk_drewN ?_ _ | refine blk_drew ?_ | refine blk_alloc ?_ _)); refine blk_put (cs := #[.string ((rd_T130 l0 x4_1).f0), .int .i64 ((rd_T130 l0 x4_1).f1), .bool false, .slice none 0 0, .slice none 0 0]) ?_ 2 _ rfl; (with_reducible repeat (first | refine blk_drewN ?_ _ | refine blk_drew ?_ | refine blk_alloc ?_ _)); refine blk_put (cs := #[.string ((rd_T130 l0 x4_1).f0), .int .i64 0, .bool false, .slice none 0 0, .slice none 0 0]) ?_ 1 _ rfl; (with_reducible repeat (first | refine blk_drewN ?_ _ | refine blk_drew ?_ | refine blk_alloc ?_ _)); refine blk_put (cs := #[.string (⟨#[]⟩ : ByteArray), .int .i64 0, .bool false, .slice none 0 0, .slice none 0 0]) ?_ 0 _ rfl; (with_reducible repeat (first | refine blk_drewN ?_ _ | refine blk_drew ?_ | refine blk_alloc ?_ _)); exact BK189.out⟩, ⟨bZ⟩⟩
    rw [if_neg c14] at H
    have c14b0 : decide (30 < (((rd_T130 l0 x4_1).f3).length : Int)) = false := decide_eq_false c14
    have c14b1 : decide (30 < ((rd_T130 l0 x4_1).f3).length) = false := decide_eq_false (by omega)
    clear c14
    (first | rw [c14b0] | (simp only [i64_w, i32_w]; rw [c14b0]) | skip)
    by_cases c16 : (((rd_T130 l0 x4_1).f4).length : Int) > 30
    ·rw [if_pos c16] at H
     have c16b0 : decide (30 < (((rd_T130 l0 x4_1).f4).length : Int)) = true := decide_eq_true c16
     have c16b1 : decide (30 < ((rd_T130 l0 x4_1).f4).length) = true := decide_eq_true (by omega)
     clear c16
     have H' := Aside0.mk H
     clear H
     have hcz17_0 : w8.cell? ⟨gb189, 0, none⟩ = some (.string (⟨#[]⟩ : ByteArray)) := (blk_cell BK189.out 0).trans rfl
     have hcz17_1 : w8.cell? ⟨gb189, 1, none⟩ = some (.int .i64 0) := (blk_cell BK189.out 1).trans rfl
     have hcz17_2 : w8.cell? ⟨gb189, 2, none⟩ = some (.bool false) := (blk_cell BK189.out 2).trans rfl
     have hcz17_3 : w8.cell? ⟨gb189, 3, none⟩ = some (.slice none 0 0) := (blk_cell BK189.out 3).trans rfl
     have hcz17_4 : w8.cell? ⟨gb189, 4, none⟩ = some (.slice none 0 0) := (blk_cell BK189.out 4).trans rfl
     have hfz17_0 := blk_frozen BK189.out 0
     have hfz17_1 := blk_frozen BK189.out 1
     have hfz17_2 := blk_frozen BK189.out 2
     have hfz17_3 := blk_frozen BK189.out 3
     have hfz17_4 := blk_frozen BK189.out 4
     go_wp2_with (first | (go_at_call 153; (with_reducible refine (spec_NameOk.calls k1 ((rd_T130 l0 x4_1).f0) true _ A10.out).mono ?_); rintro e w' ⟨rfl, ⟨nd, rfl⟩⟩; (try first | exact ⟨rfl, _, World.drewN_drewN _ _ _⟩ | exact ⟨rfl, _, Eq.trans (World.drewN_drewN _ _ _) (congrArg (World.drewN _) (Nat.add_assoc _ _ _))⟩)) | (go_at_call 72; (with_reducible refine (spec_l1In.calls ((rd_T130 l0 x4_1).f1) 1 1000000 true _ A12.out).mono ?_); rintro e w' ⟨rfl, ⟨nd, rfl⟩⟩; (try first | exact ⟨rfl, _, World.drewN_drewN _ _ _⟩ | exact ⟨rfl, _, Eq.trans (World.drewN_drewN _ _ _) (congrArg (World.drewN _) (Nat.add_assoc _ _ _))⟩)))
     repeat (go_quiet (first | (go_at_call 153; (with_reducible refine (spec_NameOk.calls k1 ((rd_T130 l0 x4_1).f0) true _ A10.out).mono ?_); rintro e w' ⟨rfl, ⟨nd, rfl⟩⟩; (try first | exact ⟨rfl, _, World.drewN_drewN _ _ _⟩ | exact ⟨rfl, _, Eq.trans (World.drewN_drewN _ _ _) (congrArg (World.drewN _) (Nat.add_assoc _ _ _))⟩)) | (go_at_call 72; (with_reducible refine (spec_l1In.calls ((rd_T130 l0 x4_1).f1) 1 1000000 true _ A12.out).mono ?_); rintro e w' ⟨rfl, ⟨nd, rfl⟩⟩; (try first | exact ⟨rfl, _, World.drewN_drewN _ _ _⟩ | exact ⟨rfl, _, Eq.trans (World.drewN_drewN _ _ _) (congrArg (World.drewN _) (Nat.add_assoc _ _ _))⟩))); try go_wp2_with (first | (go_at_call 153; (with_reducible refine (spec_NameOk.calls k1 ((rd_T130 l0 x4_1).f0) true _ A10.out).mono ?_); rintro e w' ⟨rfl, ⟨nd, rfl⟩⟩; (try first | exact ⟨rfl, _, World.drewN_drewN _ _ _⟩ | exact ⟨rfl, _, Eq.trans (World.drewN_drewN _ _ _) (congrArg (World.drewN _) (Nat.add_assoc _ _ _))⟩)) | (go_at_call 72; (with_reducible refine (spec_l1In.calls ((rd_T130 l0 x4_1).f1) 1 1000000 true _ A12.out).mono ?_); rintro e w' ⟨rfl, ⟨nd, rfl⟩⟩; (try first | exact ⟨rfl, _, World.drewN_drewN _ _ _⟩ | exact ⟨rfl, _, Eq.trans (World.drewN_drewN _ _ _) (congrArg (World.drewN _) (Nat.add_assoc _ _ _))⟩))))
     go_meet
     case rel => exact ⟨_, (true), tZB, H', ⟨by have := HK1.out; first | omega | exact Nat.le_refl _⟩, ⟨by (with_reducible repeat (first | refine blk_drewN ?_ _ | refine blk_drew ?_ | refine blk_alloc ?_ _)); refine blk_put (cs := #[.string ((rd_T130 l0 x4_1).f0), .int .i64 ((rd_T130 l0 x4_1).f1), .bool ((rd_T130 l0 x4_1).f2), .slice A188_3 ((rd_T130 l0 x4_1).f3).length c188_3, .slice none 0 0]) ?_ 4 _ rfl; (with_reducible repeat (first | refine blk_drewN ?_ _ | refine blk_drew ?_ | refine blk_alloc ?_ _)); refine blk_put (cs := #[.string ((rd_T130 l0 x4_1).f0), .int .i64 ((rd_T130 l0 x4_1).f1), .bool ((rd_T130 l0 x4_1).f2), .slice none 0 0, .slice none 0 0]) ?_ 3 _ rfl; (with_reducible repeat (first | refine blk_drewN ?_ _ | refine blk_drew ?_ | refine blk_alloc ?_ _)); refine blk_put (cs := #[.string ((rd_T130 l0 x4_1).f0), .int .i64 ((rd_T130 l0 x4_1).f1), .bool false, .slice none 0 0, .slice none 0 0]) ?_ 2 _ rfl; (with_reducible repeat (first | refine blk_drewN ?_ _ | refine blk_drew ?_ | refine blk_alloc ?_ _)); refine blk_put (cs := #[.string ((rd_T130 l0 x4_1).f0), .int .i64 0, .bool false, .slice none 0 0, .slice none 0 0]) ?_ 1 _ rfl; (with_reducible repeat (first | refine blk_drewN ?_ _ | refine blk_drew ?_ | refine blk_alloc ?_ _)); refine blk_put (cs := #[.string (⟨#[]⟩ : ByteArray), .int .i64 0, .bool false, .slice none 0 0, .slice none 0 0]) ?_ 0 _ rfl; (with_reducible repeat (first | refine blk_drewN ?_ _ | refine blk_drew ?_ | refine blk_alloc ?_ _)); exact BK189.out⟩, ⟨bZ⟩⟩
    rw [if_neg c16] at H
    have c16b0 : decide (30 < (((rd_T130 l0 x4_1).f4).length : Int)) = false := decide_eq_false c16
    have c16b1 : decide (30 < ((rd_T130 l0 x4_1).f4).length) = false := decide_eq_false (by omega)
    clear c16
    obtain ⟨bq18, hbq18⟩ : ∃ b_ : Bool, b_ = ((rd_T130 l0 x4_1).f2) := ⟨_, rfl⟩
    replace H : (if bq18 = true then (if (((rd_T130 l0 x4_1).f3).length : Int) = 0 then (spec_ItemsOk.j1 k1 l0 (l0.length : Int) x4_1 true ((rd_T130 l0 x4_1).f0) ((rd_T130 l0 x4_1).f1) bq18 ((rd_T130 l0 x4_1).f3) ((rd_T130 l0 x4_1).f4)) else (spec_ItemsOk.j1 k1 l0 (l0.length : Int) x4_1 (decide ((((rd_T130 l0 x4_1).f4).length : Int) > 0)) ((rd_T130 l0 x4_1).f0) ((rd_T130 l0 x4_1).f1) bq18 ((rd_T130 l0 x4_1).f3) ((rd_T130 l0 x4_1).f4))) else (spec_ItemsOk.j1 k1 l0 (l0.length : Int) x4_1 false ((rd_T130 l0 x4_1).f0) ((rd_T130 l0 x4_1).f1) bq18 ((rd_T130 l0 x4_1).f3) ((rd_T130 l0 x4_1).f4))) = some r := by rw [← hbq18] at H; exact H
    have Nbq18 := Aside0.mk hbq18
    clear hbq18
    (try rw [← Nbq18.out] at hx188_2)
    (try rw [← Nbq18.out])
    by_cases c19 : bq18 = true
    rotate_left
    ·replace c19 := Bool.eq_false_iff.mpr c19
     subst c19
     have H1 : (spec_ItemsOk.j1 k1 l0 (l0.length : Int) x4_1 false ((rd_T130 l0 x4_1).f0) ((rd_T130 l0 x4_1).f1) false ((rd_T130 l0 x4_1).f3) ((rd_T130 l0 x4_1).f4)) = some r := by rw [if_neg (show ¬ (false = true) by decide)] at H; exact H
     clear H
     have H := H1
     clear H1
     have H' := Aside0.mk H
     clear H
     have hcz23_0 : w8.cell? ⟨gb189, 0, none⟩ = some (.string (⟨#[]⟩ : ByteArray)) := (blk_cell BK189.out 0).trans rfl
     have hcz23_1 : w8.cell? ⟨gb189, 1, none⟩ = some (.int .i64 0) := (blk_cell BK189.out 1).trans rfl
     have hcz23_2 : w8.cell? ⟨gb189, 2, none⟩ = some (.bool false) := (blk_cell BK189.out 2).trans rfl
     have hcz23_3 : w8.cell? ⟨gb189, 3, none⟩ = some (.slice none 0 0) := (blk_cell BK189.out 3).trans rfl
     have hcz23_4 : w8.cell? ⟨gb189, 4, none⟩ = some (.slice none 0 0) := (blk_cell BK189.out 4).trans rfl
     have hfz23_0 := blk_frozen BK189.out 0
     have hfz23_1 := blk_frozen BK189.out 1
     have hfz23_2 := blk_frozen BK189.out 2
     have hfz23_3 := blk_frozen BK189.out 3
     have hfz23_4 := blk_frozen BK189.out 4
     go_wp2_with (first | (go_at_call 153; (with_reducible refine (spec_NameOk.calls k1 ((rd_T130 l0 x4_1).f0) true _ A10.out).mono ?_); rintro e w' ⟨rfl, ⟨nd, rfl⟩⟩; (try first | exact ⟨rfl, _, World.drewN_drewN _ _ _⟩ | exact ⟨rfl, _, Eq.trans (World.drewN_drewN _ _ _) (congrArg (World.drewN _) (Nat.add_assoc _ _ _))⟩)) | (go_at_call 72; (with_reducible refine (spec_l1In.calls ((rd_T130 l0 x4_1).f1) 1 1000000 true _ A12.out).mono ?_); rintro e w' ⟨rfl, ⟨nd, rfl⟩⟩; (try first | exact ⟨rfl, _, World.drewN_drewN _ _ _⟩ | exact ⟨rfl, _, Eq.trans (World.drewN_drewN _ _ _) (congrArg (World.drewN _) (Nat.add_assoc _ _ _))⟩)))
     repeat (go_quiet (first | (go_at_call 153; (with_reducible refine (spec_NameOk.calls k1 ((rd_T130 l0 x4_1).f0) true _ A10.out).mono ?_); rintro e w' ⟨rfl, ⟨nd, rfl⟩⟩; (try first | exact ⟨rfl, _, World.drewN_drewN _ _ _⟩ | exact ⟨rfl, _, Eq.trans (World.drewN_drewN _ _ _) (congrArg (World.drewN _) (Nat.add_assoc _ _ _))⟩)) | (go_at_call 72; (with_reducible refine (spec_l1In.calls ((rd_T130 l0 x4_1).f1) 1 1000000 true _ A12.out).mono ?_); rintro e w' ⟨rfl, ⟨nd, rfl⟩⟩; (try first | exact ⟨rfl, _, World.drewN_drewN _ _ _⟩ | exact ⟨rfl, _, Eq.trans (World.drewN_drewN _ _ _) (congrArg (World.drewN _) (Nat.add_assoc _ _ _))⟩))); try go_wp2_with (first | (go_at_call 153; (with_reducible refine (spec_NameOk.calls k1 ((rd_T130 l0 x4_1).f0) true _ A10.out).mono ?_); rintro e w' ⟨rfl, ⟨nd, rfl⟩⟩; (try first | exact ⟨rfl, _, World.drewN_drewN _ _ _⟩ | exact ⟨rfl, _, Eq.trans (World.drewN_drewN _ _ _) (congrArg (World.drewN _) (Nat.add_assoc _ _ _))⟩)) | (go_at_call 72; (with_reducible refine (spec_l1In.calls ((rd_T130 l0 x4_1).f1) 1 1000000 true _ A12.out).mono ?_); rintro e w' ⟨rfl, ⟨nd, rfl⟩⟩; (try first | exact ⟨rfl, _, World.drewN_drewN _ _ _⟩ | exact ⟨rfl, _, Eq.trans (World.drewN_drewN _ _ _) (congrArg (World.drewN _) (Nat.add_assoc _ _ _))⟩))))
     go_meet
     case rel => (try rw [← Nbq18.out]); exact ⟨_, (false), tZB, H', ⟨by have := HK1.out; first | omega | exact Nat.le_refl _⟩, ⟨by (with_reducible repeat (first | refine blk_drewN ?_ _ | refine blk_drew ?_ | refine blk_alloc ?_ _)); refine blk_put (cs := #[.string ((rd_T130 l0 x4_1).f0), .int .i64 ((rd_T130 l0 x4_1).f1), .bool (false), .slice A188_3 ((rd_T130 l0 x4_1).f3).length c188_3, .slice none 0 0]) ?_ 4 _ rfl; (with_reducible repeat (first | refine blk_drewN ?_ _ | refine blk_drew ?_ | refine blk_alloc ?_ _)); refine blk_put (cs := #[.string ((rd_T130 l0 x4_1).f0), .int .i64 ((rd_T130 l0 x4_1).f1), .bool (false), .slice none 0 0, .slice none 0 0]) ?_ 3 _ rfl; (with_reducible repeat (first | refine blk_drewN ?_ _ | refine blk_drew ?_ | refine blk_alloc ?_ _)); refine blk_put (cs := #[.string ((rd_T130 l0 x4_1).f0), .int .i64 ((rd_T130 l0 x4_1).f1), .bool false, .slice none 0 0, .slice none 0 0]) ?_ 2 _ rfl; (with_reducible repeat (first | refine blk_drewN ?_ _ | refine blk_drew ?_ | refine blk_alloc ?_ _)); refine blk_put (cs := #[.string ((rd_T130 l0 x4_1).f0), .int .i64 0, .bool false, .slice none 0 0, .slice none 0 0]) ?_ 1 _ rfl; (with_reducible repeat (first | refine blk_drewN ?_ _ | refine blk_drew ?_ | refine blk_alloc ?_ _)); refine blk_put (cs := #[.string (⟨#[]⟩ : ByteArray), .int .i64 0, .bool false, .slice none 0 0, .slice none 0 0]) ?_ 0 _ rfl; (with_reducible repeat (first | refine blk_drewN ?_ _ | refine blk_drew ?_ | refine blk_alloc ?_ _)); exact BK189.out⟩, ⟨bZ⟩⟩
    subst c19
    have H1 : (if (((rd_T130 l0 x4_1).f3).length : Int) = 0 then (spec_ItemsOk.j1 k1 l0 (l0.length : Int) x4_1 true ((rd_T130 l0 x4_1).f0) ((rd_T130 l0 x4_1).f1) true ((rd_T130 l0 x4_1).f3) ((rd_T130 l0 x4_1).f4)) else (spec_ItemsOk.j1 k1 l0 (l0.length : Int) x4_1 (decide ((((rd_T130 l0 x4_1).f4).length : Int) > 0)) ((rd_T130 l0 x4_1).f0) ((rd_T130 l0 x4_1).f1) true ((rd_T130 l0 x4_1).f3) ((rd_T130 l0 x4_1).f4))) = some r := by rw [if_pos rfl] at H; exact H
    clear H
    have H := H1
    clear H1
    by_cases c20 : (((rd_T130 l0 x4_1).f3).length : Int) = 0
    ·rw [if_pos c20] at H
     have c20b0 : ((((rd_T130 l0 x4_1).f3).length : Int) == 0) = true := beq_iff_eq.mpr c20
     have c20b1 : ((((rd_T130 l0 x4_1).f3).length : Int) != 0) = false := bne_eq_false_iff_eq.mpr c20
     clear c20
     have H' := Aside0.mk H
     clear H
     have hcz21_0 : w8.cell? ⟨gb189, 0, none⟩ = some (.string (⟨#[]⟩ : ByteArray)) := (blk_cell BK189.out 0).trans rfl
     have hcz21_1 : w8.cell? ⟨gb189, 1, none⟩ = some (.int .i64 0) := (blk_cell BK189.out 1).trans rfl
     have hcz21_2 : w8.cell? ⟨gb189, 2, none⟩ = some (.bool false) := (blk_cell BK189.out 2).trans rfl
     have hcz21_3 : w8.cell? ⟨gb189, 3, none⟩ = some (.slice none 0 0) := (blk_cell BK189.out 3).trans rfl
     have hcz21_4 : w8.cell? ⟨gb189, 4, none⟩ = some (.slice none 0 0) := (blk_cell BK189.out 4).trans rfl
     have hfz21_0 := blk_frozen BK189.out 0
     have hfz21_1 := blk_frozen BK189.out 1
     have hfz21_2 := blk_frozen BK189.out 2
     have hfz21_3 := blk_frozen BK189.out 3
     have hfz21_4 := blk_frozen BK189.out 4
     go_wp2_with (first | (go_at_call 153; (with_reducible refine (spec_NameOk.calls k1 ((rd_T130 l0 x4_1).f0) true _ A10.out).mono ?_); rintro e w' ⟨rfl, ⟨nd, rfl⟩⟩; (try first | exact ⟨rfl, _, World.drewN_drewN _ _ _⟩ | exact ⟨rfl, _, Eq.trans (World.drewN_drewN _ _ _) (congrArg (World.drewN _) (Nat.add_assoc _ _ _))⟩)) | (go_at_call 72; (with_reducible refine (spec_l1In.calls ((rd_T130 l0 x4_1).f1) 1 1000000 true _ A12.out).mono ?_); rintro e w' ⟨rfl, ⟨nd, rfl⟩⟩; (try first | exact ⟨rfl, _, World.drewN_drewN _ _ _⟩ | exact ⟨rfl, _, Eq.trans (World.drewN_drewN _ _ _) (congrArg (World.drewN _) (Nat.add_assoc _ _ _))⟩)))
     repeat (go_quiet (first | (go_at_call 153; (with_reducible refine (spec_NameOk.calls k1 ((rd_T130 l0 x4_1).f0) true _ A10.out).mono ?_); rintro e w' ⟨rfl, ⟨nd, rfl⟩⟩; (try first | exact ⟨rfl, _, World.drewN_drewN _ _ _⟩ | exact ⟨rfl, _, Eq.trans (World.drewN_drewN _ _ _) (congrArg (World.drewN _) (Nat.add_assoc _ _ _))⟩)) | (go_at_call 72; (with_reducible refine (spec_l1In.calls ((rd_T130 l0 x4_1).f1) 1 1000000 true _ A12.out).mono ?_); rintro e w' ⟨rfl, ⟨nd, rfl⟩⟩; (try first | exact ⟨rfl, _, World.drewN_drewN _ _ _⟩ | exact ⟨rfl, _, Eq.trans (World.drewN_drewN _ _ _) (congrArg (World.drewN _) (Nat.add_assoc _ _ _))⟩))); try go_wp2_with (first | (go_at_call 153; (with_reducible refine (spec_NameOk.calls k1 ((rd_T130 l0 x4_1).f0) true _ A10.out).mono ?_); rintro e w' ⟨rfl, ⟨nd, rfl⟩⟩; (try first | exact ⟨rfl, _, World.drewN_drewN _ _ _⟩ | exact ⟨rfl, _, Eq.trans (World.drewN_drewN _ _ _) (congrArg (World.drewN _) (Nat.add_assoc _ _ _))⟩)) | (go_at_call 72; (with_reducible refine (spec_l1In.calls ((rd_T130 l0 x4_1).f1) 1 1000000 true _ A12.out).mono ?_); rintro e w' ⟨rfl, ⟨nd, rfl⟩⟩; (try first | exact ⟨rfl, _, World.drewN_drewN _ _ _⟩ | exact ⟨rfl, _, Eq.trans (World.drewN_drewN _ _ _) (congrArg (World.drewN _) (Nat.add_assoc _ _ _))⟩))))
     go_meet
     case rel => (try rw [← Nbq18.out]); exact ⟨_, (true), tZB, H', ⟨by have := HK1.out; first | omega | exact Nat.le_refl _⟩, ⟨by (with_reducible repeat (first | refine blk_drewN ?_ _ | refine blk_drew ?_ | refine blk_alloc ?_ _)); refine blk_put (cs := #[.string ((rd_T130 l0 x4_1).f0), .int .i64 ((rd_T130 l0 x4_1).f1), .bool (true), .slice A188_3 ((rd_T130 l0 x4_1).f3).length c188_3, .slice none 0 0]) ?_ 4 _ rfl; (with_reducible repeat (first | refine blk_drewN ?_ _ | refine blk_drew ?_ | refine blk_alloc ?_ _)); refine blk_put (cs := #[.string ((rd_T130 l0 x4_1).f0), .int .i64 ((rd_T130 l0 x4_1).f1), .bool (true), .slice none 0 0, .slice none 0 0]) ?_ 3 _ rfl; (with_reducible repeat (first | refine blk_drewN ?_ _ | refine blk_drew ?_ | refine blk_alloc ?_ _)); refine blk_put (cs := #[.string ((rd_T130 l0 x4_1).f0), .int .i64 ((rd_T130 l0 x4_1).f1), .bool false, .slice none 0 0, .slice none 0 0]) ?_ 2 _ rfl; (with_reducible repeat (first | refine blk_drewN ?_ _ | refine blk_drew ?_ | refine blk_alloc ?_ _)); refine blk_put (cs := #[.string ((rd_T130 l0 x4_1).f0), .int .i64 0, .bool false, .slice none 0 0, .slice none 0 0]) ?_ 1 _ rfl; (with_reducible repeat (first | refine blk_drewN ?_ _ | refine blk_drew ?_ | refine blk_alloc ?_ _)); refine blk_put (cs := #[.string (⟨#[]⟩ : ByteArray), .int .i64 0, .bool false, .slice none 0 0, .slice none 0 0]) ?_ 0 _ rfl; (with_reducible repeat (first | refine blk_drewN ?_ _ | refine blk_drew ?_ | refine blk_alloc ?_ _)); exact BK189.out⟩, ⟨bZ⟩⟩
    rw [if_neg c20] at H
    have c20b0 : ((((rd_T130 l0 x4_1).f3).length : Int) == 0) = false := beq_eq_false_iff_ne.mpr c20
    have c20b1 : ((((rd_T130 l0 x4_1).f3).length : Int) != 0) = true := bne_iff_ne.mpr c20
    have c20b2 : ¬ (((rd_T130 l0 x4_1).f3) = []) := fun h_ => c20 (by rw [h_]; rfl)
    have H' := Aside0.mk H
    clear H
    have hcz22_0 : w8.cell? ⟨gb189, 0, none⟩ = some (.string (⟨#[]⟩ : ByteArray)) := (blk_cell BK189.out 0).trans rfl
    have hcz22_1 : w8.cell? ⟨gb189, 1, none⟩ = some (.int .i64 0) := (blk_cell BK189.out 1).trans rfl
    have hcz22_2 : w8.cell? ⟨gb189, 2, none⟩ = some (.bool false) := (blk_cell BK189.out 2).trans rfl
    have hcz22_3 : w8.cell? ⟨gb189, 3, none⟩ = some (.slice none 0 0) := (blk_cell BK189.out 3).trans rfl
    have hcz22_4 : w8.cell? ⟨gb189, 4, none⟩ = some (.slice none 0 0) := (blk_cell BK189.out 4).trans rfl
    have hfz22_0 := blk_frozen BK189.out 0
    have hfz22_1 := blk_frozen BK189.out 1
    have hfz22_2 := blk_frozen BK189.out 2
    have hfz22_3 := blk_frozen BK189.out 3
    have hfz22_4 := blk_frozen BK189.out 4
    go_wp2_with (first | (go_at_call 153; (with_reducible refine (spec_NameOk.calls k1 ((rd_T130 l0 x4_1).f0) true _ A10.out).mono ?_); rintro e w' ⟨rfl, ⟨nd, rfl⟩⟩; (try first | exact ⟨rfl, _, World.drewN_drewN _ _ _⟩ | exact ⟨rfl, _, Eq.trans (World.drewN_drewN _ _ _) (congrArg (World.drewN _) (Nat.add_assoc _ _ _))⟩)) | (go_at_call 72; (with_reducible refine (spec_l1In.calls ((rd_T130 l0 x4_1).f1) 1 1000000 true _ A12.out).mono ?_); rintro e w' ⟨rfl, ⟨nd, rfl⟩⟩; (try first | exact ⟨rfl, _, World.drewN_drewN _ _ _⟩ | exact ⟨rfl, _, Eq.trans (World.drewN_drewN _ _ _) (congrArg (World.drewN _) (Nat.add_assoc _ _ _))⟩)))
    repeat (go_quiet (first | (go_at_call 153; (with_reducible refine (spec_NameOk.calls k1 ((rd_T130 l0 x4_1).f0) true _ A10.out).mono ?_); rintro e w' ⟨rfl, ⟨nd, rfl⟩⟩; (try first | exact ⟨rfl, _, World.drewN_drewN _ _ _⟩ | exact ⟨rfl, _, Eq.trans (World.drewN_drewN _ _ _) (congrArg (World.drewN _) (Nat.add_assoc _ _ _))⟩)) | (go_at_call 72; (with_reducible refine (spec_l1In.calls ((rd_T130 l0 x4_1).f1) 1 1000000 true _ A12.out).mono ?_); rintro e w' ⟨rfl, ⟨nd, rfl⟩⟩; (try first | exact ⟨rfl, _, World.drewN_drewN _ _ _⟩ | exact ⟨rfl, _, Eq.trans (World.drewN_drewN _ _ _) (congrArg (World.drewN _) (Nat.add_assoc _ _ _))⟩))); try go_wp2_with (first | (go_at_call 153; (with_reducible refine (spec_NameOk.calls k1 ((rd_T130 l0 x4_1).f0) true _ A10.out).mono ?_); rintro e w' ⟨rfl, ⟨nd, rfl⟩⟩; (try first | exact ⟨rfl, _, World.drewN_drewN _ _ _⟩ | exact ⟨rfl, _, Eq.trans (World.drewN_drewN _ _ _) (congrArg (World.drewN _) (Nat.add_assoc _ _ _))⟩)) | (go_at_call 72; (with_reducible refine (spec_l1In.calls ((rd_T130 l0 x4_1).f1) 1 1000000 true _ A12.out).mono ?_); rintro e w' ⟨rfl, ⟨nd, rfl⟩⟩; (try first | exact ⟨rfl, _, World.drewN_drewN _ _ _⟩ | exact ⟨rfl, _, Eq.trans (World.drewN_drewN _ _ _) (congrArg (World.drewN _) (Nat.add_assoc _ _ _))⟩))))
    go_meet
    case rel => (try rw [← Nbq18.out]); exact ⟨_, (decide ((((rd_T130 l0 x4_1).f4).length : Int) > 0)), tZB, H', ⟨by have := HK1.out; first | omega | exact Nat.le_refl _⟩, ⟨by (with_reducible repeat (first | refine blk_drewN ?_ _ | refine blk_drew ?_ | refine blk_alloc ?_ _)); refine blk_put (cs := #[.string ((rd_T130 l0 x4_1).f0), .int .i64 ((rd_T130 l0 x4_1).f1), .bool (true), .slice A188_3 ((rd_T130 l0 x4_1).f3).length c188_3, .slice none 0 0]) ?_ 4 _ rfl; (with_reducible repeat (first | refine blk_drewN ?_ _ | refine blk_drew ?_ | refine blk_alloc ?_ _)); refine blk_put (cs := #[.string ((rd_T130 l0 x4_1).f0), .int .i64 ((rd_T130 l0 x4_1).f1), .bool (true), .slice none 0 0, .slice none 0 0]) ?_ 3 _ rfl; (with_reducible repeat (first | refine blk_drewN ?_ _ | refine blk_drew ?_ | refine blk_alloc ?_ _)); refine blk_put (cs := #[.string ((rd_T130 l0 x4_1).f0), .int .i64 ((rd_T130 l0 x4_1).f1), .bool false, .slice none 0 0, .slice none 0 0]) ?_ 2 _ rfl; (with_reducible repeat (first | refine blk_drewN ?_ _ | refine blk_drew ?_ | refine blk_alloc ?_ _)); refine blk_put (cs := #[.string ((rd_T130 l0 x4_1).f0), .int .i64 0, .bool false, .slice none 0 0, .slice none 0 0]) ?_ 1 _ rfl; (with_reducible repeat (first | refine blk_drewN ?_ _ | refine blk_drew ?_ | refine blk_alloc ?_ _)); refine blk_put (cs := #[.string (⟨#[]⟩ : ByteArray), .int .i64 0, .bool false, .slice none 0 0, .slice none 0 0]) ?_ 0 _ rfl; (with_reducible repeat (first | refine blk_drewN ?_ _ | refine blk_drew ?_ | refine blk_alloc ?_ _)); exact BK189.out⟩, ⟨bZ⟩⟩
   case rest =>
    clear HC7
    try clear c1
    try clear p1
    try clear q1
    try clear hx1
    try clear c2
    try clear p2
    try clear c3
    try clear c4
    try clear c4b0
    try clear c5
    try clear c5b0
    try clear c6
    try clear c6b0
    try clear c8
    try clear c11
    try clear c13
    try clear c14
    try clear c14b0
    try clear c14b1
    try clear c16
    try clear c16b0
    try clear c16b1
    try clear c18
    try clear p18
    try clear q18
    try clear hx18
    try clear c19
    try clear c20
    try clear c20b0
    try clear c20b1
    try clear c20b2
    try clear hcz15_0
    try clear hcz15_1
    try clear hcz15_2
    try clear hcz15_3
    try clear hcz15_4
    try clear hcz17_0
    try clear hcz17_1
    try clear hcz17_2
    try clear hcz17_3
    try clear hcz17_4
    try clear hcz21_0
    try clear hcz21_1
    try clear hcz21_2
    try clear hcz21_3
    try clear hcz21_4
    try clear hcz22_0
    try clear hcz22_1
    try clear hcz22_2
    try clear hcz22_3
    try clear hcz22_4
    try clear hcz23_0
    try clear hcz23_1
    try clear hcz23_2
    try clear hcz23_3
    try clear hcz23_4
    try clear hcz24_0
    try clear hcz24_1
    try clear hcz24_2
    try clear hcz24_3
    try clear hcz24_4
    try clear hcz25_0
    try clear hcz25_1
    try clear hcz25_2
    try clear hcz25_3
    try clear hcz25_4
    try clear hcz9_0
    try clear hcz9_1
    try clear hcz9_2
    try clear hcz9_3
    try clear hcz9_4
    try clear hfz15_0
    try clear hfz15_1
    try clear hfz15_2
    try clear hfz15_3
    try clear hfz15_4
    try clear hfz17_0
    try clear hfz17_1
    try clear hfz17_2
    try clear hfz17_3
    try clear hfz17_4
    try clear hfz21_0
    try clear hfz21_1
    try clear hfz21_2
    try clear hfz21_3
    try clear hfz21_4
    try clear hfz22_0
    try clear hfz22_1
    try clear hfz22_2
    try clear hfz22_3
    try clear hfz22_4
    try clear hfz23_0
    try clear hfz23_1
    try clear hfz23_2
    try clear hfz23_3
    try clear hfz23_4
    try clear hfz24_0
    try clear hfz24_1
    try clear hfz24_2
    try clear hfz24_3
    try clear hfz24_4
    try clear hfz25_0
    try clear hfz25_1
    try clear hfz25_2
    try clear hfz25_3
    try clear hfz25_4
    try clear hfz9_0
    try clear hfz9_1
    try clear hfz9_2
    try clear hfz9_3
    try clear hfz9_4
    try clear hx188_0
    try clear hx188_1
    try clear hx188_2
    try clear hx188_3
    try clear hx188_4
    try clear p188
    try clear p2
    try clear q188
    obtain ⟨kq, x62_6, rfl, HA, HJ6, BK189, HB⟩ := hcut
    cases kq with
    | zero => exact absurd HA.out (by simp [spec_ItemsOk.j1])
    | succ kj6 =>
     have H := HA.out
     clear HA
     simp only [spec_ItemsOk.j1] at H
     by_cases c26 : x62_6 = true
     ·subst c26
      have H1 : (some false) = some r := by rw [if_pos rfl] at H; exact H
      clear H
      have H := H1
      clear H1
      obtain rfl := Option.some.inj H
      go_wp2
      repeat (go_quiet (fail); try go_wp2)
      go_ret
      exact ⟨tZC, bZ⟩
     replace c26 := Bool.eq_false_iff.mpr c26
     subst c26
     have H1 : (spec_ItemsOk.l1 kj6 l0 (l0.length : Int) x4_1 0 ((rd_T130 l0 x4_1).f0) ((rd_T130 l0 x4_1).f1) ((rd_T130 l0 x4_1).f2) ((rd_T130 l0 x4_1).f3) ((rd_T130 l0 x4_1).f4)) = some r := by rw [if_neg (show ¬ (false = true) by decide)] at H; exact H
     clear H
     have H := H1
     clear H1
     have H' := Aside0.mk H
     clear H
     go_wp2
     repeat (go_quiet (fail); try go_wp2)
     go_loopg [6] kj6 (fun kq v6 w' => ∃ (x6_3 : Int), v6 = .int .i64 x6_3 ∧ Aside0 (spec_ItemsOk.l1 kq l0 (l0.length : Int) x4_1 x6_3 ((rd_T130 l0 x4_1).f0) ((rd_T130 l0 x4_1).f1) ((rd_T130 l0 x4_1).f2) ((rd_T130 l0 x4_1).f3) ((rd_T130 l0 x4_1).f4) = some r) ∧ Aside0 (kq ≤ kj6) ∧ Aside0 (w'.heap[gb189]? = some (.cells #[.string ((rd_T130 l0 x4_1).f0), .int .i64 ((rd_T130 l0 x4_1).f1), .bool ((rd_T130 l0 x4_1).f2), (.slice A188_3 ((rd_T130 l0 x4_1).f3).length c188_3), (.slice A188_4 ((rd_T130 l0 x4_1).f4).length c188_4)] 130 (0, 0))) ∧ Aside0 (Below w.heap.size w w'))
     case atStart => exact ⟨(0), tZB, H', ⟨Nat.le_refl _⟩, ⟨bkZ BK189.out⟩, ⟨bZ⟩⟩
     case round =>
      clear H'
      try clear c1
      try clear p1
      try clear q1
      try clear hx1
      try clear c2
      try clear p2
      try clear c3
      try clear c4
      try clear c4b0
      try clear c5
      try clear c5b0
      try clear c6
      try clear c6b0
      try clear c8
      try clear c11
      try clear c13
      try clear c14
      try clear c14b0
      try clear c14b1
      try clear c16
      try clear c16b0
      try clear c16b1
      try clear c18
      try clear p18
      try clear q18
      try clear hx18
      try clear c19
      try clear c20
      try clear c20b0
      try clear c20b1
      try clear c20b2
      try clear c26
      try clear hcz15_0
      try clear hcz15_1
      try clear hcz15_2
      try clear hcz15_3
      try clear hcz15_4
      try clear hcz17_0
      try clear hcz17_1
      try clear hcz17_2
      try clear hcz17_3
      try clear hcz17_4
      try clear hcz21_0
      try clear hcz21_1
      try clear hcz21_2
      try clear hcz21_3
      try clear hcz21_4
      try clear hcz22_0
      try clear hcz22_1
      try clear hcz22_2
      try clear hcz22_3
      try clear hcz22_4
      try clear hcz23_0
      try clear hcz23_1
      try clear hcz23_2
      try clear hcz23_3
      try clear hcz23_4
      try clear hcz24_0
      try clear hcz24_1
      try clear hcz24_2
      try clear hcz24_3
      try clear hcz24_4
      try clear hcz25_0
      try clear hcz25_1
      try clear hcz25_2
      try clear hcz25_3
      try clear hcz25_4
      try clear hcz9_0
      try clear hcz9_1
      try clear hcz9_2
      try clear hcz9_3
      try clear hcz9_4
      try clear hfz15_0
      try clear hfz15_1
      try clear hfz15_2
      try clear hfz15_3
      try clear hfz15_4
      try clear hfz17_0
      try clear hfz17_1
      try clear hfz17_2
      try clear hfz17_3
      try clear hfz17_4
      try clear hfz21_0
      try clear hfz21_1
      try clear hfz21_2
      try clear hfz21_3
      try clear hfz21_4
      try clear hfz22_0
      try clear hfz22_1
      try clear hfz22_2
      try clear hfz22_3
      try clear hfz22_4
      try clear hfz23_0
      try clear hfz23_1
      try clear hfz23_2
      try clear hfz23_3
      try clear hfz23_4
      try clear hfz24_0
      try clear hfz24_1
      try clear hfz24_2
      try clear hfz24_3
      try clear hfz24_4
      try clear hfz25_0
      try clear hfz25_1
      try clear hfz25_2
      try clear hfz25_3
      try clear hfz25_4
      try clear hfz9_0
      try clear hfz9_1
      try clear hfz9_2
      try clear hfz9_3
      try clear hfz9_4
      try clear hx188_0
      try clear hx188_1
      try clear hx188_2
      try clear hx188_3
      try clear hx188_4
      try clear p1
      try clear p18
      try clear p188
      try clear p2
      try clear q1
      try clear q18
      try clear q188
      obtain ⟨x6_3, rfl, HA, HK3, BK189, HB⟩ := hrel
      cases gk with
      | zero => exact absurd HA.out (by simp [spec_ItemsOk.l1])
      | succ k3 =>
       have H := HA.out
       clear HA
       simp only [spec_ItemsOk.l1] at H
       by_cases c27 : x6_3 < x4_1
       ·rw [if_pos c27] at H
        have c27b0 := decide_eq_true c27
        clear c27
        by_cases c28 : 0 ≤ x6_3
        rotate_left
        ·rw [if_neg c28] at H
         exact absurd H (by simp)
        rw [if_pos c28] at H
        have c28b0 := decide_eq_true c28
        clear c28
        by_cases c29 : x6_3 < (l0.length : Int)
        rotate_left
        ·rw [if_neg c29] at H
         exact absurd H (by simp)
        rw [if_pos c29] at H
        have c29b0 := decide_eq_true c29
        clear c29
        by_cases c30 : ((rd_T130 l0 x6_3).f0).toList = ((rd_T130 l0 x4_1).f0).toList
        ·rw [if_pos c30] at H
         have c30b0 : (((rd_T130 l0 x6_3).f0).toList == ((rd_T130 l0 x4_1).f0).toList) = true := beq_iff_eq.mpr c30
         have c30b1 : (((rd_T130 l0 x6_3).f0).toList != ((rd_T130 l0 x4_1).f0).toList) = false := bne_eq_false_iff_eq.mpr c30
         clear c30
         obtain rfl := Option.some.inj H
         have p192 : 0 ≤ (x6_3 : Int) := of_decide_eq_true tZE
         have q192 : x6_3 < (l0.length : Int) := of_decide_eq_true tZE
         obtain ⟨ad192, A192_3, c192_3, A192_4, c192_4, e192, hx192_0, hx192_1, hx192_2, hx192_3, hx192_4, hl192_3, hi192_3, hl192_4, hi192_4⟩ := at_T130 HR0.out x6_3 p192 q192
         have hz192_3 := hx192_3
         have hz192_4 := hx192_4
         obtain rfl : ad188 = ad192 := (by injection e192)
         replace hx192_0 := cZ HB hx192_0
         replace hx192_1 := cZ HB hx192_1
         replace hx192_2 := cZ HB hx192_2
         replace hx192_3 := cZ HB hx192_3
         replace hx192_4 := cZ HB hx192_4
         have HR192_3 := Aside0.mk hi192_3
         have HC192_3 := Aside0.mk hl192_3
         clear hi192_3 hl192_3
         have HR192_4 := Aside0.mk hi192_4
         have HC192_4 := Aside0.mk hl192_4
         clear hi192_4 hl192_4
         replace p192 := eq_true p192
         replace q192 := eq_true q192
         have hcz31_0 : wr.cell? ⟨gb189, 0, none⟩ = some (.string ((rd_T130 l0 x4_1).f0)) := (blk_cell BK189.out 0).trans rfl
         have hcz31_1 : wr.cell? ⟨gb189, 1, none⟩ = some (.int .i64 ((rd_T130 l0 x4_1).f1)) := (blk_cell BK189.out 1).trans rfl
         have hcz31_2 : wr.cell? ⟨gb189, 2, none⟩ = some (.bool ((rd_T130 l0 x4_1).f2)) := (blk_cell BK189.out 2).trans rfl
         have hcz31_3 : wr.cell? ⟨gb189, 3, none⟩ = some (.slice A188_3 ((rd_T130 l0 x4_1).f3).length c188_3) := (blk_cell BK189.out 3).trans rfl
         have hcz31_4 : wr.cell? ⟨gb189, 4, none⟩ = some (.slice A188_4 ((rd_T130 l0 x4_1).f4).length c188_4) := (blk_cell BK189.out 4).trans rfl
         have hfz31_0 := blk_frozen BK189.out 0
         have hfz31_1 := blk_frozen BK189.out 1
         have hfz31_2 := blk_frozen BK189.out 2
         have hfz31_3 := blk_frozen BK189.out 3
         have hfz31_4 := blk_frozen BK189.out 4
         go_wp2
         repeat (go_quiet (fail); try go_wp2)
         go_ret
         exact ⟨tZC, bZ⟩
        rw [if_neg c30] at H
        have c30b0 : (((rd_T130 l0 x6_3).f0).toList == ((rd_T130 l0 x4_1).f0).toList) = false := beq_eq_false_iff_ne.mpr c30
        have c30b1 : (((rd_T130 l0 x6_3).f0).toList != ((rd_T130 l0 x4_1).f0).toList) = true := bne_iff_ne.mpr c30
        have H' := Aside0.mk H
        clear H
        have p192 : 0 ≤ (x6_3 : Int) := of_decide_eq_true tZE
        have q192 : x6_3 < (l0.length : Int) := of_decide_eq_true tZE
        obtain ⟨ad192, A192_3, c192_3, A192_4, c192_4, e192, hx192_0, hx192_1, hx192_2, hx192_3, hx192_4, hl192_3, hi192_3, hl192_4, hi192_4⟩ := at_T130 HR0.out x6_3 p192 q192
        have hz192_3 := hx192_3
        have hz192_4 := hx192_4
        obtain rfl : ad188 = ad192 := (by injection e192)
        replace hx192_0 := cZ HB hx192_0
        replace hx192_1 := cZ HB hx192_1
        replace hx192_2 := cZ HB hx192_2
        replace hx192_3 := cZ HB hx192_3
        replace hx192_4 := cZ HB hx192_4
        have HR192_3 := Aside0.mk hi192_3
        have HC192_3 := Aside0.mk hl192_3
        clear hi192_3 hl192_3
        have HR192_4 := Aside0.mk hi192_4
        have HC192_4 := Aside0.mk hl192_4
        clear hi192_4 hl192_4
        replace p192 := eq_true p192
        replace q192 := eq_true q192
        have hcz32_0 : wr.cell? ⟨gb189, 0, none⟩ = some (.string ((rd_T130 l0 x4_1).f0)) := (blk_cell BK189.out 0).trans rfl
        have hcz32_1 : wr.cell? ⟨gb189, 1, none⟩ = some (.int .i64 ((rd_T130 l0 x4_1).f1)) := (blk_cell BK189.out 1).trans rfl
        have hcz32_2 : wr.cell? ⟨gb189, 2, none⟩ = some (.bool ((rd_T130 l0 x4_1).f2)) := (blk_cell BK189.out 2).trans rfl
        have hcz32_3 : wr.cell? ⟨gb189, 3, none⟩ = some (.slice A188_3 ((rd_T130 l0 x4_1).f3).length c188_3) := (blk_cell BK189.out 3).trans rfl
        have hcz32_4 : wr.cell? ⟨gb189, 4, none⟩ = some (.slice A188_4 ((rd_T130 l0 x4_1).f4).length c188_4) := (blk_cell BK189.out 4).trans rfl
        have hfz32_0 := blk_frozen BK189.out 0
        have hfz32_1 := blk_frozen BK189.out 1
        have hfz32_2 := blk_frozen BK189.out 2
        have hfz32_3 := blk_frozen BK189.out 3
        have hfz32_4 := blk_frozen BK189.out 4
        go_wp2
        repeat (go_quiet (fail); try go_wp2)
        go_roundg k3
        case measure => have := HK1.out; have := HJ6.out; have := HK3.out; omega
        case rel => exact ⟨(wrap64 (x6_3 + 1)), tZB, H', ⟨by have := HK1.out; have := HJ6.out; have := HK3.out; omega⟩, ⟨bkZ BK189.out⟩, ⟨bZ⟩⟩
       rw [if_neg c27] at H
       have c27b0 := decide_eq_false c27
       clear c27
       have H' := Aside0.mk H
       clear H
       go_wp2
       repeat (go_quiet (fail); try go_wp2)
       go_loopg [7] k3 (fun kq v7 w' => ∃ (x7_4 : Int), v7 = .int .i64 x7_4 ∧ Aside0 (spec_ItemsOk.l2 kq l0 (l0.length : Int) x4_1 x7_4 ((rd_T130 l0 x4_1).f0) ((rd_T130 l0 x4_1).f1) ((rd_T130 l0 x4_1).f2) ((rd_T130 l0 x4_1).f3) ((rd_T130 l0 x4_1).f4) = some r) ∧ Aside0 (kq ≤ k3) ∧ Aside0 (w'.heap[gb189]? = some (.cells #[.string ((rd_T130 l0 x4_1).f0), .int .i64 ((rd_T130 l0 x4_1).f1), .bool ((rd_T130 l0 x4_1).f2), (.slice A188_3 ((rd_T130 l0 x4_1).f3).length c188_3), (.slice A188_4 ((rd_T130 l0 x4_1).f4).length c188_4)] 130 (0, 0))) ∧ Aside0 (Below w.heap.size w w'))
       case atStart => exact ⟨(0), tZB, H', ⟨Nat.le_refl _⟩, ⟨bkZ BK189.out⟩, ⟨bZ⟩⟩
       case round =>
        clear H'
        try clear c1
        try clear p1
        try clear q1
        try clear hx1
        try clear c2
        try clear p2
        try clear c3
        try clear c4
        try clear c4b0
        try clear c5
        try clear c5b0
        try clear c6
        try clear c6b0
        try clear p6
        try clear c8
        try clear c11
        try clear c13
        try clear c14
        try clear c14b0
        try clear c14b1
        try clear c16
        try clear c16b0
        try clear c16b1
        try clear c18
        try clear p18
        try clear q18
        try clear hx18
        try clear c19
        try clear p19
        try clear q19
        try clear hx19
        try clear c20
        try clear c20b0
        try clear c20b1
        try clear c20b2
        try clear c26
        try clear c27
        try clear c27b0
        try clear c28
        try clear c28b0
        try clear c29
        try clear c29b0
        try clear c30
        try clear c30b0
        try clear c30b1
        try clear hcz15_0
        try clear hcz15_1
        try clear hcz15_2
        try clear hcz15_3
        try clear hcz15_4
        try clear hcz17_0
        try clear hcz17_1
        try clear hcz17_2
        try clear hcz17_3
        try clear hcz17_4
        try clear hcz21_0
        try clear hcz21_1
        try clear hcz21_2
        try clear hcz21_3
        try clear hcz21_4
        try clear hcz22_0
        try clear hcz22_1
        try clear hcz22_2
        try clear hcz22_3
        try clear hcz22_4
        try clear hcz23_0
        try clear hcz23_1
        try clear hcz23_2
        try clear hcz23_3
        try clear hcz23_4
        try clear hcz24_0
        try clear hcz24_1
        try clear hcz24_2
        try clear hcz24_3
        try clear hcz24_4
        try clear hcz25_0
        try clear hcz25_1
        try clear hcz25_2
        try clear hcz25_3
        try clear hcz25_4
        try clear hcz31_0
        try clear hcz31_1
        try clear hcz31_2
        try clear hcz31_3
        try clear hcz31_4
        try clear hcz32_0
        try clear hcz32_1
        try clear hcz32_2
        try clear hcz32_3
        try clear hcz32_4
        try clear hcz9_0
        try clear hcz9_1
        try clear hcz9_2
        try clear hcz9_3
        try clear hcz9_4
        try clear hfz15_0
        try clear hfz15_1
        try clear hfz15_2
        try clear hfz15_3
        try clear hfz15_4
        try clear hfz17_0
        try clear hfz17_1
        try clear hfz17_2
        try clear hfz17_3
        try clear hfz17_4
        try clear hfz21_0
        try clear hfz21_1
        try clear hfz21_2
        try clear hfz21_3
        try clear hfz21_4
        try clear hfz22_0
        try clear hfz22_1
        try clear hfz22_2
        try clear hfz22_3
        try clear hfz22_4
        try clear hfz23_0
        try clear hfz23_1
        try clear hfz23_2
        try clear hfz23_3
        try clear hfz23_4
        try clear hfz24_0
        try clear hfz24_1
        try clear hfz24_2
        try clear hfz24_3
        try clear hfz24_4
        try clear hfz25_0
        try clear hfz25_1
        try clear hfz25_2
        try clear hfz25_3
        try clear hfz25_4
        try clear hfz31_0
        try clear hfz31_1
        try clear hfz31_2
        try clear hfz31_3
        try clear hfz31_4
        try clear hfz32_0
        try clear hfz32_1
        try clear hfz32_2
        try clear hfz32_3
        try clear hfz32_4
        try clear hfz9_0
        try clear hfz9_1
        try clear hfz9_2
        try clear hfz9_3
        try clear hfz9_4
        try clear hx188_0
        try clear hx188_1
        try clear hx188_2
        try clear hx188_3
        try clear hx188_4
        try clear hx192_0
        try clear hx192_1
        try clear hx192_2
        try clear hx192_3
        try clear hx192_4
        try clear p1
        try clear p18
        try clear p188
        try clear p192
        try clear p2
        try clear q1
        try clear q18
        try clear q188
        try clear q192
        obtain ⟨x7_4, rfl, HA, HK4, BK189, HB⟩ := hrel
        cases gk with
        | zero => exact absurd HA.out (by simp [spec_ItemsOk.l2])
        | succ k4 =>
         have H := HA.out
         clear HA
         simp only [spec_ItemsOk.l2] at H
         by_cases c33 : x7_4 < (((rd_T130 l0 x4_1).f3).length : Int)
         ·rw [if_pos c33] at H
          have c33b0 := decide_eq_true c33
          clear c33
          by_cases c34 : 0 ≤ x7_4
          rotate_left
          ·rw [if_neg c34] at H
           exact absurd H (by simp)
          rw [if_pos c34] at H
          have c34b0 := decide_eq_true c34
          clear c34
          replace H := Option.bind_eq_some_iff.mp H
          obtain ⟨t194, A350, H⟩ := H
          replace H : (if t194 = true then (spec_ItemsOk.l2 k4 l0 (l0.length : Int) x4_1 (wrap64 (x7_4 + 1)) ((rd_T130 l0 x4_1).f0) ((rd_T130 l0 x4_1).f1) ((rd_T130 l0 x4_1).f2) ((rd_T130 l0 x4_1).f3) ((rd_T130 l0 x4_1).f4)) else (some false)) = some r := H
          have A35 := Aside0.mk A350
          clear A350
          by_cases c36 : t194 = true
          rotate_left
          ·replace c36 := Bool.eq_false_iff.mpr c36
           subst c36
           have H1 : (some false) = some r := by rw [if_neg (show ¬ (false = true) by decide)] at H; exact H
           clear H
           have H := H1
           clear H1
           obtain rfl := Option.some.inj H
           have hcz39_0 : wr.cell? ⟨gb189, 0, none⟩ = some (.string ((rd_T130 l0 x4_1).f0)) := (blk_cell BK189.out 0).trans rfl
           have hcz39_1 : wr.cell? ⟨gb189, 1, none⟩ = some (.int .i64 ((rd_T130 l0 x4_1).f1)) := (blk_cell BK189.out 1).trans rfl
           have hcz39_2 : wr.cell? ⟨gb189, 2, none⟩ = some (.bool ((rd_T130 l0 x4_1).f2)) := (blk_cell BK189.out 2).trans rfl
           have hcz39_3 : wr.cell? ⟨gb189, 3, none⟩ = some (.slice A188_3 ((rd_T130 l0 x4_1).f3).length c188_3) := (blk_cell BK189.out 3).trans rfl
           have hcz39_4 : wr.cell? ⟨gb189, 4, none⟩ = some (.slice A188_4 ((rd_T130 l0 x4_1).f4).length c188_4) := (blk_cell BK189.out 4).trans rfl
           have hfz39_0 := blk_frozen BK189.out 0
           have hfz39_1 := blk_frozen BK189.out 1
           have hfz39_2 := blk_frozen BK189.out 2
           have hfz39_3 := blk_frozen BK189.out 3
           have hfz39_4 := blk_frozen BK189.out 4
           have p193 : 0 ≤ (x7_4 : Int) := of_decide_eq_true tZE
           have q193 : x7_4 < (((rd_T130 l0 x4_1).f3).length : Int) := of_decide_eq_true tZE
           obtain ⟨ad193, e193, hx193_0, hx193_1, hx193_2, hx193_3, hx193_4, hx193_5⟩ := at_T149 HR188_3.out x7_4 p193 q193
           cases e193
           replace hx193_0 := cZ HB hx193_0
           replace hx193_1 := cZ HB hx193_1
           replace hx193_2 := cZ HB hx193_2
           replace hx193_3 := cZ HB hx193_3
           replace hx193_4 := cZ HB hx193_4
           replace hx193_5 := cZ HB hx193_5
           replace p193 := eq_true p193
           replace q193 := eq_true q193
           go_wp2_with (first | (go_at_call 154; (with_reducible refine (spec_l17Part.calls ((rd_T149 ((rd_T130 l0 x4_1).f3) x7_4).f0) ((rd_T149 ((rd_T130 l0 x4_1).f3) x7_4).f1) ((rd_T149 ((rd_T130 l0 x4_1).f3) x7_4).f2) ((rd_T149 ((rd_T130 l0 x4_1).f3) x7_4).f3) ((rd_T149 ((rd_T130 l0 x4_1).f3) x7_4).f4) ((rd_T149 ((rd_T130 l0 x4_1).f3) x7_4).f5) x4_1 (l0.length : Int) false _ A35.out).mono ?_); rintro e w40 ⟨rfl, hb⟩; replace BK189 := aZ (blk_below (bkZ BK189.out) hb); replace HB := aZ (below_step bZ hb); (try clear hb); (try clear hb2); (try clear hk); (try clear hi)))
           repeat (go_quiet (first | (go_at_call 154; (with_reducible refine (spec_l17Part.calls ((rd_T149 ((rd_T130 l0 x4_1).f3) x7_4).f0) ((rd_T149 ((rd_T130 l0 x4_1).f3) x7_4).f1) ((rd_T149 ((rd_T130 l0 x4_1).f3) x7_4).f2) ((rd_T149 ((rd_T130 l0 x4_1).f3) x7_4).f3) ((rd_T149 ((rd_T130 l0 x4_1).f3) x7_4).f4) ((rd_T149 ((rd_T130 l0 x4_1).f3) x7_4).f5) x4_1 (l0.length : Int) false _ A35.out).mono ?_); rintro e w40 ⟨rfl, hb⟩; replace BK189 := aZ (blk_below (bkZ BK189.out) hb); replace HB := aZ (below_step bZ hb); (try clear hb); (try clear hb2); (try clear hk); (try clear hi))); try go_wp2_with (first | (go_at_call 154; (with_reducible refine (spec_l17Part.calls ((rd_T149 ((rd_T130 l0 x4_1).f3) x7_4).f0) ((rd_T149 ((rd_T130 l0 x4_1).f3) x7_4).f1) ((rd_T149 ((rd_T130 l0 x4_1).f3) x7_4).f2) ((rd_T149 ((rd_T130 l0 x4_1).f3) x7_4).f3) ((rd_T149 ((rd_T130 l0 x4_1).f3) x7_4).f4) ((rd_T149 ((rd_T130 l0 x4_1).f3) x7_4).f5) x4_1 (l0.length : Int) false _ A35.out).mono ?_); rintro e w40 ⟨rfl, hb⟩; replace BK189 := aZ (blk_below (bkZ BK189.out) hb); replace HB := aZ (below_step bZ hb); (try clear hb); (try clear hb2); (try clear hk); (try clear hi))))
           go_ret
           exact ⟨tZC, bZ⟩
          subst c36
          have H1 : (spec_ItemsOk.l2 k4 l0 (l0.length : Int) x4_1 (wrap64 (x7_4 + 1)) ((rd_T130 l0 x4_1).f0) ((rd_T130 l0 x4_1).f1) ((rd_T130 l0 x4_1).f2) ((rd_T130 l0 x4_1).f3) ((rd_T130 l0 x4_1).f4)) = some r := by rw [if_pos rfl] at H; exact H
          clear H
          have H := H1
          clear H1
          have H' := Aside0.mk H
          clear H
          have hcz37_0 : wr.cell? ⟨gb189, 0, none⟩ = some (.string ((rd_T130 l0 x4_1).f0)) := (blk_cell BK189.out 0).trans rfl
          have hcz37_1 : wr.cell? ⟨gb189, 1, none⟩ = some (.int .i64 ((rd_T130 l0 x4_1).f1)) := (blk_cell BK189.out 1).trans rfl
          have hcz37_2 : wr.cell? ⟨gb189, 2, none⟩ = some (.bool ((rd_T130 l0 x4_1).f2)) := (blk_cell BK189.out 2).trans rfl
          have hcz37_3 : wr.cell? ⟨gb189, 3, none⟩ = some (.slice A188_3 ((rd_T130 l0 x4_1).f3).length c188_3) := (blk_cell BK189.out 3).trans rfl
          have hcz37_4 : wr.cell? ⟨gb189, 4, none⟩ = some (.slice A188_4 ((rd_T130 l0 x4_1).f4).length c188_4) := (blk_cell BK189.out 4).trans rfl
          have hfz37_0 := blk_frozen BK189.out 0
          have hfz37_1 := blk_frozen BK189.out 1
          have hfz37_2 := blk_frozen BK189.out 2
          have hfz37_3 := blk_frozen BK189.out 3
          have hfz37_4 := blk_frozen BK189.out 4
          have p193 : 0 ≤ (x7_4 : Int) := of_decide_eq_true tZE
          have q193 : x7_4 < (((rd_T130 l0 x4_1).f3).length : Int) := of_decide_eq_true tZE
          obtain ⟨ad193, e193, hx193_0, hx193_1, hx193_2, hx193_3, hx193_4, hx193_5⟩ := at_T149 HR188_3.out x7_4 p193 q193
          cases e193
          replace hx193_0 := cZ HB hx193_0
          replace hx193_1 := cZ HB hx193_1
          replace hx193_2 := cZ HB hx193_2
          replace hx193_3 := cZ HB hx193_3
          replace hx193_4 := cZ HB hx193_4
          replace hx193_5 := cZ HB hx193_5
          replace p193 := eq_true p193
          replace q193 := eq_true q193
          go_wp2_with (first | (go_at_call 154; (with_reducible refine (spec_l17Part.calls ((rd_T149 ((rd_T130 l0 x4_1).f3) x7_4).f0) ((rd_T149 ((rd_T130 l0 x4_1).f3) x7_4).f1) ((rd_T149 ((rd_T130 l0 x4_1).f3) x7_4).f2) ((rd_T149 ((rd_T130 l0 x4_1).f3) x7_4).f3) ((rd_T149 ((rd_T130 l0 x4_1).f3) x7_4).f4) ((rd_T149 ((rd_T130 l0 x4_1).f3) x7_4).f5) x4_1 (l0.length : Int) true _ A35.out).mono ?_); rintro e w38 ⟨rfl, hb⟩; replace BK189 := aZ (blk_below (bkZ BK189.out) hb); replace HB := aZ (below_step bZ hb); (try clear hb); (try clear hb2); (try clear hk); (try clear hi)))
          repeat (go_quiet (first | (go_at_call 154; (with_reducible refine (spec_l17Part.calls ((rd_T149 ((rd_T130 l0 x4_1).f3) x7_4).f0) ((rd_T149 ((rd_T130 l0 x4_1).f3) x7_4).f1) ((rd_T149 ((rd_T130 l0 x4_1).f3) x7_4).f2) ((rd_T149 ((rd_T130 l0 x4_1).f3) x7_4).f3) ((rd_T149 ((rd_T130 l0 x4_1).f3) x7_4).f4) ((rd_T149 ((rd_T130 l0 x4_1).f3) x7_4).f5) x4_1 (l0.length : Int) true _ A35.out).mono ?_); rintro e w38 ⟨rfl, hb⟩; replace BK189 := aZ (blk_below (bkZ BK189.out) hb); replace HB := aZ (below_step bZ hb); (try clear hb); (try clear hb2); (try clear hk); (try clear hi))); try go_wp2_with (first | (go_at_call 154; (with_reducible refine (spec_l17Part.calls ((rd_T149 ((rd_T130 l0 x4_1).f3) x7_4).f0) ((rd_T149 ((rd_T130 l0 x4_1).f3) x7_4).f1) ((rd_T149 ((rd_T130 l0 x4_1).f3) x7_4).f2) ((rd_T149 ((rd_T130 l0 x4_1).f3) x7_4).f3) ((rd_T149 ((rd_T130 l0 x4_1).f3) x7_4).f4) ((rd_T149 ((rd_T130 l0 x4_1).f3) x7_4).f5) x4_1 (l0.length : Int) true _ A35.out).mono ?_); rintro e w38 ⟨rfl, hb⟩; replace BK189 := aZ (blk_below (bkZ BK189.out) hb); replace HB := aZ (below_step bZ hb); (try clear hb); (try clear hb2); (try clear hk); (try clear hi))))
          go_roundg k4
          case measure => have := HK1.out; have := HJ6.out; have := HK3.out; have := HK4.out; omega
          case rel => exact ⟨(wrap64 (x7_4 + 1)), tZB, H', ⟨by have := HK1.out; have := HJ6.out; have := HK3.out; have := HK4.out; omega⟩, ⟨bkZ BK189.out⟩, ⟨bZ⟩⟩
         rw [if_neg c33] at H
         have c33b0 := decide_eq_false c33
         clear c33
         have H' := Aside0.mk H
         clear H
         have hcz41_0 : wr.cell? ⟨gb189, 0, none⟩ = some (.string ((rd_T130 l0 x4_1).f0)) := (blk_cell BK189.out 0).trans rfl
         have hcz41_1 : wr.cell? ⟨gb189, 1, none⟩ = some (.int .i64 ((rd_T130 l0 x4_1).f1)) := (blk_cell BK189.out 1).trans rfl
         have hcz41_2 : wr.cell? ⟨gb189, 2, none⟩ = some (.bool ((rd_T130 l0 x4_1).f2)) := (blk_cell BK189.out 2).trans rfl
         have hcz41_3 : wr.cell? ⟨gb189, 3, none⟩ = some (.slice A188_3 ((rd_T130 l0 x4_1).f3).length c188_3) := (blk_cell BK189.out 3).trans rfl
         have hcz41_4 : wr.cell? ⟨gb189, 4, none⟩ = some (.slice A188_4 ((rd_T130 l0 x4_1).f4).length c188_4) := (blk_cell BK189.out 4).trans rfl
         have hfz41_0 := blk_frozen BK189.out 0
         have hfz41_1 := blk_frozen BK189.out 1
         have hfz41_2 := blk_frozen BK189.out 2
         have hfz41_3 := blk_frozen BK189.out 3
         have hfz41_4 := blk_frozen BK189.out 4
         go_wp2
         repeat (go_quiet (fail); try go_wp2)
         go_loopg [8] k4 (fun kq v8 w' => ∃ (x8_5 : Int), v8 = .int .i64 x8_5 ∧ Aside0 (spec_ItemsOk.l3 kq l0 (l0.length : Int) x4_1 x8_5 ((rd_T130 l0 x4_1).f0) ((rd_T130 l0 x4_1).f1) ((rd_T130 l0 x4_1).f2) ((rd_T130 l0 x4_1).f3) ((rd_T130 l0 x4_1).f4) = some r) ∧ Aside0 (kq ≤ k4) ∧ Aside0 (w'.heap[gb189]? = some (.cells #[.string ((rd_T130 l0 x4_1).f0), .int .i64 ((rd_T130 l0 x4_1).f1), .bool ((rd_T130 l0 x4_1).f2), (.slice A188_3 ((rd_T130 l0 x4_1).f3).length c188_3), (.slice A188_4 ((rd_T130 l0 x4_1).f4).length c188_4)] 130 (0, 0))) ∧ Aside0 (Below w.heap.size w w'))
         case atStart => exact ⟨(0), tZB, H', ⟨Nat.le_refl _⟩, ⟨bkZ BK189.out⟩, ⟨bZ⟩⟩
         case round =>
          clear H'
          try clear c1
          try clear p1
          try clear q1
          try clear hx1
          try clear c2
          try clear p2
          try clear c3
          try clear c4
          try clear c4b0
          try clear c5
          try clear c5b0
          try clear c6
          try clear c6b0
          try clear p6
          try clear c8
          try clear c11
          try clear c13
          try clear c14
          try clear c14b0
          try clear c14b1
          try clear c16
          try clear c16b0
          try clear c16b1
          try clear c18
          try clear p18
          try clear q18
          try clear hx18
          try clear c19
          try clear p19
          try clear q19
          try clear hx19
          try clear c20
          try clear c20b0
          try clear c20b1
          try clear c20b2
          try clear c26
          try clear c27
          try clear c27b0
          try clear c28
          try clear c28b0
          try clear c29
          try clear c29b0
          try clear c30
          try clear c30b0
          try clear c30b1
          try clear c33
          try clear c33b0
          try clear c34
          try clear c34b0
          try clear c36
          try clear hcz15_0
          try clear hcz15_1
          try clear hcz15_2
          try clear hcz15_3
          try clear hcz15_4
          try clear hcz17_0
          try clear hcz17_1
          try clear hcz17_2
          try clear hcz17_3
          try clear hcz17_4
          try clear hcz21_0
          try clear hcz21_1
          try clear hcz21_2
          try clear hcz21_3
          try clear hcz21_4
          try clear hcz22_0
          try clear hcz22_1
          try clear hcz22_2
          try clear hcz22_3
          try clear hcz22_4
          try clear hcz23_0
          try clear hcz23_1
          try clear hcz23_2
          try clear hcz23_3
          try clear hcz23_4
          try clear hcz24_0
          try clear hcz24_1
          try clear hcz24_2
          try clear hcz24_3
          try clear hcz24_4
          try clear hcz25_0
          try clear hcz25_1
          try clear hcz25_2
          try clear hcz25_3
          try clear hcz25_4
          try clear hcz31_0
          try clear hcz31_1
          try clear hcz31_2
          try clear hcz31_3
          try clear hcz31_4
          try clear hcz32_0
          try clear hcz32_1
          try clear hcz32_2
          try clear hcz32_3
          try clear hcz32_4
          try clear hcz37_0
          try clear hcz37_1
          try clear hcz37_2
          try clear hcz37_3
          try clear hcz37_4
          try clear hcz39_0
          try clear hcz39_1
          try clear hcz39_2
          try clear hcz39_3
          try clear hcz39_4
          try clear hcz41_0
          try clear hcz41_1
          try clear hcz41_2
          try clear hcz41_3
          try clear hcz41_4
          try clear hcz9_0
          try clear hcz9_1
          try clear hcz9_2
          try clear hcz9_3
          try clear hcz9_4
          try clear hfz15_0
          try clear hfz15_1
          try clear hfz15_2
          try clear hfz15_3
          try clear hfz15_4
          try clear hfz17_0
          try clear hfz17_1
          try clear hfz17_2
          try clear hfz17_3
          try clear hfz17_4
          try clear hfz21_0
          try clear hfz21_1
          try clear hfz21_2
          try clear hfz21_3
          try clear hfz21_4
          try clear hfz22_0
          try clear hfz22_1
          try clear hfz22_2
          try clear hfz22_3
          try clear hfz22_4
          try clear hfz23_0
          try clear hfz23_1
          try clear hfz23_2
          try clear hfz23_3
          try clear hfz23_4
          try clear hfz24_0
          try clear hfz24_1
          try clear hfz24_2
          try clear hfz24_3
          try clear hfz24_4
          try clear hfz25_0
          try clear hfz25_1
          try clear hfz25_2
          try clear hfz25_3
          try clear hfz25_4
          try clear hfz31_0
          try clear hfz31_1
          try clear hfz31_2
          try clear hfz31_3
          try clear hfz31_4
          try clear hfz32_0
          try clear hfz32_1
          try clear hfz32_2
          try clear hfz32_3
          try clear hfz32_4
          try clear hfz37_0
          try clear hfz37_1
          try clear hfz37_2
          try clear hfz37_3
          try clear hfz37_4
          try clear hfz39_0
          try clear hfz39_1
          try clear hfz39_2
          try clear hfz39_3
          try clear hfz39_4
          try clear hfz41_0
          try clear hfz41_1
          try clear hfz41_2
          try clear hfz41_3
          try clear hfz41_4
          try clear hfz9_0
          try clear hfz9_1
          try clear hfz9_2
          try clear hfz9_3
          try clear hfz9_4
          try clear hx188_0
          try clear hx188_1
          try clear hx188_2
          try clear hx188_3
          try clear hx188_4
          try clear hx192_0
          try clear hx192_1
          try clear hx192_2
          try clear hx192_3
          try clear hx192_4
          try clear hx193_0
          try clear hx193_1
          try clear hx193_2
          try clear hx193_3
          try clear hx193_4
          try clear hx193_5
          try clear p1
          try clear p18
          try clear p188
          try clear p19
          try clear p192
          try clear p193
          try clear p2
          try clear p6
          try clear q1
          try clear q18
          try clear q188
          try clear q19
          try clear q192
          try clear q193
          obtain ⟨x8_5, rfl, HA, HK5, BK189, HB⟩ := hrel
          cases gk with
          | zero => exact absurd HA.out (by simp [spec_ItemsOk.l3])
          | succ k5 =>
           have H := HA.out
           clear HA
           simp only [spec_ItemsOk.l3] at H
           by_cases c42 : x8_5 < (((rd_T130 l0 x4_1).f4).length : Int)
           rotate_left
           ·rw [if_neg c42] at H
            have c42b0 := decide_eq_false c42
            clear c42
            have H' := Aside0.mk H
            clear H
            have hcz59_0 : wr.cell? ⟨gb189, 0, none⟩ = some (.string ((rd_T130 l0 x4_1).f0)) := (blk_cell BK189.out 0).trans rfl
            have hcz59_1 : wr.cell? ⟨gb189, 1, none⟩ = some (.int .i64 ((rd_T130 l0 x4_1).f1)) := (blk_cell BK189.out 1).trans rfl
            have hcz59_2 : wr.cell? ⟨gb189, 2, none⟩ = some (.bool ((rd_T130 l0 x4_1).f2)) := (blk_cell BK189.out 2).trans rfl
            have hcz59_3 : wr.cell? ⟨gb189, 3, none⟩ = some (.slice A188_3 ((rd_T130 l0 x4_1).f3).length c188_3) := (blk_cell BK189.out 3).trans rfl
            have hcz59_4 : wr.cell? ⟨gb189, 4, none⟩ = some (.slice A188_4 ((rd_T130 l0 x4_1).f4).length c188_4) := (blk_cell BK189.out 4).trans rfl
            have hfz59_0 := blk_frozen BK189.out 0
            have hfz59_1 := blk_frozen BK189.out 1
            have hfz59_2 := blk_frozen BK189.out 2
            have hfz59_3 := blk_frozen BK189.out 3
            have hfz59_4 := blk_frozen BK189.out 4
            go_wp2
            repeat (go_quiet (fail); try go_wp2)
            go_roundg k5
            case measure => have := HK1.out; have := HJ6.out; have := HK3.out; have := HK4.out; have := HK5.out; omega
            case rel => exact ⟨(wrap64 (x4_1 + 1)), tZB, H', ⟨by have := HK1.out; have := HJ6.out; have := HK3.out; have := HK4.out; have := HK5.out; omega⟩, ⟨bZ⟩⟩
           rw [if_pos c42] at H
           have c42b0 := decide_eq_true c42
           clear c42
           by_cases c43 : 0 ≤ x8_5
           rotate_left
           ·rw [if_neg c43] at H
            exact absurd H (by simp)
           rw [if_pos c43] at H
           have c43b0 := decide_eq_true c43
           clear c43
           replace H := Option.bind_eq_some_iff.mp H
           obtain ⟨t196, A440, H⟩ := H
           replace H : (if t196 = true then (if ((rd_T149 ((rd_T130 l0 x4_1).f4) x8_5).f2) = 0 then (if ((rd_T149 ((rd_T130 l0 x4_1).f4) x8_5).f5) = 0 then (spec_ItemsOk.l3 k5 l0 (l0.length : Int) x4_1 (wrap64 (x8_5 + 1)) ((rd_T130 l0 x4_1).f0) ((rd_T130 l0 x4_1).f1) ((rd_T130 l0 x4_1).f2) ((rd_T130 l0 x4_1).f3) ((rd_T130 l0 x4_1).f4)) else (some false)) else (some false)) else (some false)) = some r := H
           have A44 := Aside0.mk A440
           clear A440
           by_cases c45 : t196 = true
           rotate_left
           ·replace c45 := Bool.eq_false_iff.mpr c45
            subst c45
            have H1 : (some false) = some r := by rw [if_neg (show ¬ (false = true) by decide)] at H; exact H
            clear H
            have H := H1
            clear H1
            obtain rfl := Option.some.inj H
            have hcz57_0 : wr.cell? ⟨gb189, 0, none⟩ = some (.string ((rd_T130 l0 x4_1).f0)) := (blk_cell BK189.out 0).trans rfl
            have hcz57_1 : wr.cell? ⟨gb189, 1, none⟩ = some (.int .i64 ((rd_T130 l0 x4_1).f1)) := (blk_cell BK189.out 1).trans rfl
            have hcz57_2 : wr.cell? ⟨gb189, 2, none⟩ = some (.bool ((rd_T130 l0 x4_1).f2)) := (blk_cell BK189.out 2).trans rfl
            have hcz57_3 : wr.cell? ⟨gb189, 3, none⟩ = some (.slice A188_3 ((rd_T130 l0 x4_1).f3).length c188_3) := (blk_cell BK189.out 3).trans rfl
            have hcz57_4 : wr.cell? ⟨gb189, 4, none⟩ = some (.slice A188_4 ((rd_T130 l0 x4_1).f4).length c188_4) := (blk_cell BK189.out 4).trans rfl
            have hfz57_0 := blk_frozen BK189.out 0
            have hfz57_1 := blk_frozen BK189.out 1
            have hfz57_2 := blk_frozen BK189.out 2
            have hfz57_3 := blk_frozen BK189.out 3
            have hfz57_4 := blk_frozen BK189.out 4
            have p195 : 0 ≤ (x8_5 : Int) := of_decide_eq_true tZE
            have q195 : x8_5 < (((rd_T130 l0 x4_1).f4).length : Int) := of_decide_eq_true tZE
            obtain ⟨ad195, e195, hx195_0, hx195_1, hx195_2, hx195_3, hx195_4, hx195_5⟩ := at_T149 HR188_4.out x8_5 p195 q195
            cases e195
            replace hx195_0 := cZ HB hx195_0
            replace hx195_1 := cZ HB hx195_1
            replace hx195_2 := cZ HB hx195_2
            replace hx195_3 := cZ HB hx195_3
            replace hx195_4 := cZ HB hx195_4
            replace hx195_5 := cZ HB hx195_5
            replace p195 := eq_true p195
            replace q195 := eq_true q195
            go_wp2_with (first | (go_at_call 154; (with_reducible refine (spec_l17Part.calls ((rd_T149 ((rd_T130 l0 x4_1).f4) x8_5).f0) ((rd_T149 ((rd_T130 l0 x4_1).f4) x8_5).f1) ((rd_T149 ((rd_T130 l0 x4_1).f4) x8_5).f2) ((rd_T149 ((rd_T130 l0 x4_1).f4) x8_5).f3) ((rd_T149 ((rd_T130 l0 x4_1).f4) x8_5).f4) ((rd_T149 ((rd_T130 l0 x4_1).f4) x8_5).f5) x4_1 (l0.length : Int) false _ A44.out).mono ?_); rintro e w58 ⟨rfl, hb⟩; replace BK189 := aZ (blk_below (bkZ BK189.out) hb); replace HB := aZ (below_step bZ hb); (try clear hb); (try clear hb2); (try clear hk); (try clear hi)))
            repeat (go_quiet (first | (go_at_call 154; (with_reducible refine (spec_l17Part.calls ((rd_T149 ((rd_T130 l0 x4_1).f4) x8_5).f0) ((rd_T149 ((rd_T130 l0 x4_1).f4) x8_5).f1) ((rd_T149 ((rd_T130 l0 x4_1).f4) x8_5).f2) ((rd_T149 ((rd_T130 l0 x4_1).f4) x8_5).f3) ((rd_T149 ((rd_T130 l0 x4_1).f4) x8_5).f4) ((rd_T149 ((rd_T130 l0 x4_1).f4) x8_5).f5) x4_1 (l0.length : Int) false _ A44.out).mono ?_); rintro e w58 ⟨rfl, hb⟩; replace BK189 := aZ (blk_below (bkZ BK189.out) hb); replace HB := aZ (below_step bZ hb); (try clear hb); (try clear hb2); (try clear hk); (try clear hi))); try go_wp2_with (first | (go_at_call 154; (with_reducible refine (spec_l17Part.calls ((rd_T149 ((rd_T130 l0 x4_1).f4) x8_5).f0) ((rd_T149 ((rd_T130 l0 x4_1).f4) x8_5).f1) ((rd_T149 ((rd_T130 l0 x4_1).f4) x8_5).f2) ((rd_T149 ((rd_T130 l0 x4_1).f4) x8_5).f3) ((rd_T149 ((rd_T130 l0 x4_1).f4) x8_5).f4) ((rd_T149 ((rd_T130 l0 x4_1).f4) x8_5).f5) x4_1 (l0.length : Int) false _ A44.out).mono ?_); rintro e w58 ⟨rfl, hb⟩; replace BK189 := aZ (blk_below (bkZ BK189.out) hb); replace HB := aZ (below_step bZ hb); (try clear hb); (try clear hb2); (try clear hk); (try clear hi))))
            go_ret
            exact ⟨tZC, bZ⟩
           subst c45
           have H1 : (if ((rd_T149 ((rd_T130 l0 x4_1).f4) x8_5).f2) = 0 then (if ((rd_T149 ((rd_T130 l0 x4_1).f4) x8_5).f5) = 0 then (spec_ItemsOk.l3 k5 l0 (l0.length : Int) x4_1 (wrap64 (x8_5 + 1)) ((rd_T130 l0 x4_1).f0) ((rd_T130 l0 x4_1).f1) ((rd_T130 l0 x4_1).f2) ((rd_T130 l0 x4_1).f3) ((rd_T130 l0 x4_1).f4)) else (some false)) else (some false)) = some r := by rw [if_pos rfl] at H; exact H
           clear H
           have H := H1
           clear H1
           by_cases c46 : ((rd_T149 ((rd_T130 l0 x4_1).f4) x8_5).f2) = 0
           rotate_left
           ·rw [if_neg c46] at H
            have c46b0 : (((rd_T149 ((rd_T130 l0 x4_1).f4) x8_5).f2) == 0) = false := beq_eq_false_iff_ne.mpr c46
            have c46b1 : (((rd_T149 ((rd_T130 l0 x4_1).f4) x8_5).f2) != 0) = true := bne_iff_ne.mpr c46
            obtain rfl := Option.some.inj H
            have hcz54_0 : wr.cell? ⟨gb189, 0, none⟩ = some (.string ((rd_T130 l0 x4_1).f0)) := (blk_cell BK189.out 0).trans rfl
            have hcz54_1 : wr.cell? ⟨gb189, 1, none⟩ = some (.int .i64 ((rd_T130 l0 x4_1).f1)) := (blk_cell BK189.out 1).trans rfl
            have hcz54_2 : wr.cell? ⟨gb189, 2, none⟩ = some (.bool ((rd_T130 l0 x4_1).f2)) := (blk_cell BK189.out 2).trans rfl
            have hcz54_3 : wr.cell? ⟨gb189, 3, none⟩ = some (.slice A188_3 ((rd_T130 l0 x4_1).f3).length c188_3) := (blk_cell BK189.out 3).trans rfl
            have hcz54_4 : wr.cell? ⟨gb189, 4, none⟩ = some (.slice A188_4 ((rd_T130 l0 x4_1).f4).length c188_4) := (blk_cell BK189.out 4).trans rfl
            have hfz54_0 := blk_frozen BK189.out 0
            have hfz54_1 := blk_frozen BK189.out 1
            have hfz54_2 := blk_frozen BK189.out 2
            have hfz54_3 := blk_frozen BK189.out 3
            have hfz54_4 := blk_frozen BK189.out 4
            have p195 : 0 ≤ (x8_5 : Int) := of_decide_eq_true tZE
            have q195 : x8_5 < (((rd_T130 l0 x4_1).f4).length : Int) := of_decide_eq_true tZE
            obtain ⟨ad195, e195, hx195_0, hx195_1, hx195_2, hx195_3, hx195_4, hx195_5⟩ := at_T149 HR188_4.out x8_5 p195 q195
            cases e195
            replace hx195_0 := cZ HB hx195_0
            replace hx195_1 := cZ HB hx195_1
            replace hx195_2 := cZ HB hx195_2
            replace hx195_3 := cZ HB hx195_3
            replace hx195_4 := cZ HB hx195_4
            replace hx195_5 := cZ HB hx195_5
            replace p195 := eq_true p195
            replace q195 := eq_true q195
            go_wp2_with (first | (go_at_call 154; (with_reducible refine (spec_l17Part.calls ((rd_T149 ((rd_T130 l0 x4_1).f4) x8_5).f0) ((rd_T149 ((rd_T130 l0 x4_1).f4) x8_5).f1) ((rd_T149 ((rd_T130 l0 x4_1).f4) x8_5).f2) ((rd_T149 ((rd_T130 l0 x4_1).f4) x8_5).f3) ((rd_T149 ((rd_T130 l0 x4_1).f4) x8_5).f4) ((rd_T149 ((rd_T130 l0 x4_1).f4) x8_5).f5) x4_1 (l0.length : Int) true _ A44.out).mono ?_); rintro e w55 ⟨rfl, hb⟩; replace BK189 := aZ (blk_below (bkZ BK189.out) hb); replace HB := aZ (below_step bZ hb); (try clear hb); (try clear hb2); (try clear hk); (try clear hi); have hcz56_0 : w55.cell? ⟨gb189, 0, none⟩ = some (.string ((rd_T130 l0 x4_1).f0)) := (blk_cell BK189.out 0).trans rfl; have hcz56_1 : w55.cell? ⟨gb189, 1, none⟩ = some (.int .i64 ((rd_T130 l0 x4_1).f1)) := (blk_cell BK189.out 1).trans rfl; have hcz56_2 : w55.cell? ⟨gb189, 2, none⟩ = some (.bool ((rd_T130 l0 x4_1).f2)) := (blk_cell BK189.out 2).trans rfl; have hcz56_3 : w55.cell? ⟨gb189, 3, none⟩ = some (.slice A188_3 ((rd_T130 l0 x4_1).f3).length c188_3) := (blk_cell BK189.out 3).trans rfl; have hcz56_4 : w55.cell? ⟨gb189, 4, none⟩ = some (.slice (some ad195) ((rd_T130 l0 x4_1).f4).length c188_4) := (blk_cell BK189.out 4).trans rfl; have hfz56_0 := blk_frozen BK189.out 0; have hfz56_1 := blk_frozen BK189.out 1; have hfz56_2 := blk_frozen BK189.out 2; have hfz56_3 := blk_frozen BK189.out 3; have hfz56_4 := blk_frozen BK189.out 4; have p197 : 0 ≤ (x8_5 : Int) := of_decide_eq_true tZE; have q197 : x8_5 < (((rd_T130 l0 x4_1).f4).length : Int) := of_decide_eq_true tZE; obtain ⟨ad197, e197, hx197_0, hx197_1, hx197_2, hx197_3, hx197_4, hx197_5⟩ := at_T149 HR188_4.out x8_5 p197 q197; obtain rfl : ad195 = ad197 := (by injection e197); replace hx197_0 := cZ HB hx197_0; replace hx197_1 := cZ HB hx197_1; replace hx197_2 := cZ HB hx197_2; replace hx197_3 := cZ HB hx197_3; replace hx197_4 := cZ HB hx197_4; replace hx197_5 := cZ HB hx197_5; replace p197 := eq_true p197; replace q197 := eq_true q197))
            repeat (go_quiet (first | (go_at_call 154; (with_reducible refine (spec_l17Part.calls ((rd_T149 ((rd_T130 l0 x4_1).f4) x8_5).f0) ((rd_T149 ((rd_T130 l0 x4_1).f4) x8_5).f1) ((rd_T149 ((rd_T130 l0 x4_1).f4) x8_5).f2) ((rd_T149 ((rd_T130 l0 x4_1).f4) x8_5).f3) ((rd_T149 ((rd_T130 l0 x4_1).f4) x8_5).f4) ((rd_T149 ((rd_T130 l0 x4_1).f4) x8_5).f5) x4_1 (l0.length : Int) true _ A44.out).mono ?_); rintro e w55 ⟨rfl, hb⟩; replace BK189 := aZ (blk_below (bkZ BK189.out) hb); replace HB := aZ (below_step bZ hb); (try clear hb); (try clear hb2); (try clear hk); (try clear hi); have hcz56_0 : w55.cell? ⟨gb189, 0, none⟩ = some (.string ((rd_T130 l0 x4_1).f0)) := (blk_cell BK189.out 0).trans rfl; have hcz56_1 : w55.cell? ⟨gb189, 1, none⟩ = some (.int .i64 ((rd_T130 l0 x4_1).f1)) := (blk_cell BK189.out 1).trans rfl; have hcz56_2 : w55.cell? ⟨gb189, 2, none⟩ = some (.bool ((rd_T130 l0 x4_1).f2)) := (blk_cell BK189.out 2).trans rfl; have hcz56_3 : w55.cell? ⟨gb189, 3, none⟩ = some (.slice A188_3 ((rd_T130 l0 x4_1).f3).length c188_3) := (blk_cell BK189.out 3).trans rfl; have hcz56_4 : w55.cell? ⟨gb189, 4, none⟩ = some (.slice (some ad195) ((rd_T130 l0 x4_1).f4).length c188_4) := (blk_cell BK189.out 4).trans rfl; have hfz56_0 := blk_frozen BK189.out 0; have hfz56_1 := blk_frozen BK189.out 1; have hfz56_2 := blk_frozen BK189.out 2; have hfz56_3 := blk_frozen BK189.out 3; have hfz56_4 := blk_frozen BK189.out 4; have p197 : 0 ≤ (x8_5 : Int) := of_decide_eq_true tZE; have q197 : x8_5 < (((rd_T130 l0 x4_1).f4).length : Int) := of_decide_eq_true tZE; obtain ⟨ad197, e197, hx197_0, hx197_1, hx197_2, hx197_3, hx197_4, hx197_5⟩ := at_T149 HR188_4.out x8_5 p197 q197; obtain rfl : ad195 = ad197 := (by injection e197); replace hx197_0 := cZ HB hx197_0; replace hx197_1 := cZ HB hx197_1; replace hx197_2 := cZ HB hx197_2; replace hx197_3 := cZ HB hx197_3; replace hx197_4 := cZ HB hx197_4; replace hx197_5 := cZ HB hx197_5; replace p197 := eq_true p197; replace q197 := eq_true q197)); try go_wp2_with (first | (go_at_call 154; (with_reducible refine (spec_l17Part.calls ((rd_T149 ((rd_T130 l0 x4_1).f4) x8_5).f0) ((rd_T149 ((rd_T130 l0 x4_1).f4) x8_5).f1) ((rd_T149 ((rd_T130 l0 x4_1).f4) x8_5).f2) ((rd_T149 ((rd_T130 l0 x4_1).f4) x8_5).f3) ((rd_T149 ((rd_T130 l0 x4_1).f4) x8_5).f4) ((rd_T149 ((rd_T130 l0 x4_1).f4) x8_5).f5) x4_1 (l0.length : Int) true _ A44.out).mono ?_); rintro e w55 ⟨rfl, hb⟩; replace BK189 := aZ (blk_below (bkZ BK189.out) hb); replace HB := aZ (below_step bZ hb); (try clear hb); (try clear hb2); (try clear hk); (try clear hi); have hcz56_0 : w55.cell? ⟨gb189, 0, none⟩ = some (.string ((rd_T130 l0 x4_1).f0)) := (blk_cell BK189.out 0).trans rfl; have hcz56_1 : w55.cell? ⟨gb189, 1, none⟩ = some (.int .i64 ((rd_T130 l0 x4_1).f1)) := (blk_cell BK189.out 1).trans rfl; have hcz56_2 : w55.cell? ⟨gb189, 2, none⟩ = some (.bool ((rd_T130 l0 x4_1).f2)) := (blk_cell BK189.out 2).trans rfl; have hcz56_3 : w55.cell? ⟨gb189, 3, none⟩ = some (.slice A188_3 ((rd_T130 l0 x4_1).f3).length c188_3) := (blk_cell BK189.out 3).trans rfl; have hcz56_4 : w55.cell? ⟨gb189, 4, none⟩ = some (.slice (some ad195) ((rd_T130 l0 x4_1).f4).length c188_4) := (blk_cell BK189.out 4).trans rfl; have hfz56_0 := blk_frozen BK189.out 0; have hfz56_1 := blk_frozen BK189.out 1; have hfz56_2 := blk_frozen BK189.out 2; have hfz56_3 := blk_frozen BK189.out 3; have hfz56_4 := blk_frozen BK189.out 4; have p197 : 0 ≤ (x8_5 : Int) := of_decide_eq_true tZE; have q197 : x8_5 < (((rd_T130 l0 x4_1).f4).length : Int) := of_decide_eq_true tZE; obtain ⟨ad197, e197, hx197_0, hx197_1, hx197_2, hx197_3, hx197_4, hx197_5⟩ := at_T149 HR188_4.out x8_5 p197 q197; obtain rfl : ad195 = ad197 := (by injection e197); replace hx197_0 := cZ HB hx197_0; replace hx197_1 := cZ HB hx197_1; replace hx197_2 := cZ HB hx197_2; replace hx197_3 := cZ HB hx197_3; replace hx197_4 := cZ HB hx197_4; replace hx197_5 := cZ HB hx197_5; replace p197 := eq_true p197; replace q197 := eq_true q197)))
            go_ret
            exact ⟨tZC, bZ⟩
           rw [if_pos c46] at H
           have c46b0 : (((rd_T149 ((rd_T130 l0 x4_1).f4) x8_5).f2) == 0) = true := beq_iff_eq.mpr c46
           have c46b1 : (((rd_T149 ((rd_T130 l0 x4_1).f4) x8_5).f2) != 0) = false := bne_eq_false_iff_eq.mpr c46
           clear c46
           by_cases c47 : ((rd_T149 ((rd_T130 l0 x4_1).f4) x8_5).f5) = 0
           rotate_left
           ·rw [if_neg c47] at H
            have c47b0 : (((rd_T149 ((rd_T130 l0 x4_1).f4) x8_5).f5) == 0) = false := beq_eq_false_iff_ne.mpr c47
            have c47b1 : (((rd_T149 ((rd_T130 l0 x4_1).f4) x8_5).f5) != 0) = true := bne_iff_ne.mpr c47
            obtain rfl := Option.some.inj H
            have hcz51_0 : wr.cell? ⟨gb189, 0, none⟩ = some (.string ((rd_T130 l0 x4_1).f0)) := (blk_cell BK189.out 0).trans rfl
            have hcz51_1 : wr.cell? ⟨gb189, 1, none⟩ = some (.int .i64 ((rd_T130 l0 x4_1).f1)) := (blk_cell BK189.out 1).trans rfl
            have hcz51_2 : wr.cell? ⟨gb189, 2, none⟩ = some (.bool ((rd_T130 l0 x4_1).f2)) := (blk_cell BK189.out 2).trans rfl
            have hcz51_3 : wr.cell? ⟨gb189, 3, none⟩ = some (.slice A188_3 ((rd_T130 l0 x4_1).f3).length c188_3) := (blk_cell BK189.out 3).trans rfl
            have hcz51_4 : wr.cell? ⟨gb189, 4, none⟩ = some (.slice A188_4 ((rd_T130 l0 x4_1).f4).length c188_4) := (blk_cell BK189.out 4).trans rfl
            have hfz51_0 := blk_frozen BK189.out 0
            have hfz51_1 := blk_frozen BK189.out 1
            have hfz51_2 := blk_frozen BK189.out 2
            have hfz51_3 := blk_frozen BK189.out 3
            have hfz51_4 := blk_frozen BK189.out 4
            have p195 : 0 ≤ (x8_5 : Int) := of_decide_eq_true tZE
            have q195 : x8_5 < (((rd_T130 l0 x4_1).f4).length : Int) := of_decide_eq_true tZE
            obtain ⟨ad195, e195, hx195_0, hx195_1, hx195_2, hx195_3, hx195_4, hx195_5⟩ := at_T149 HR188_4.out x8_5 p195 q195
            cases e195
            replace hx195_0 := cZ HB hx195_0
            replace hx195_1 := cZ HB hx195_1
            replace hx195_2 := cZ HB hx195_2
            replace hx195_3 := cZ HB hx195_3
            replace hx195_4 := cZ HB hx195_4
            replace hx195_5 := cZ HB hx195_5
            replace p195 := eq_true p195
            replace q195 := eq_true q195
            go_wp2_with (first | (go_at_call 154; (with_reducible refine (spec_l17Part.calls ((rd_T149 ((rd_T130 l0 x4_1).f4) x8_5).f0) ((rd_T149 ((rd_T130 l0 x4_1).f4) x8_5).f1) ((rd_T149 ((rd_T130 l0 x4_1).f4) x8_5).f2) ((rd_T149 ((rd_T130 l0 x4_1).f4) x8_5).f3) ((rd_T149 ((rd_T130 l0 x4_1).f4) x8_5).f4) ((rd_T149 ((rd_T130 l0 x4_1).f4) x8_5).f5) x4_1 (l0.length : Int) true _ A44.out).mono ?_); rintro e w52 ⟨rfl, hb⟩; replace BK189 := aZ (blk_below (bkZ BK189.out) hb); replace HB := aZ (below_step bZ hb); (try clear hb); (try clear hb2); (try clear hk); (try clear hi); have hcz53_0 : w52.cell? ⟨gb189, 0, none⟩ = some (.string ((rd_T130 l0 x4_1).f0)) := (blk_cell BK189.out 0).trans rfl; have hcz53_1 : w52.cell? ⟨gb189, 1, none⟩ = some (.int .i64 ((rd_T130 l0 x4_1).f1)) := (blk_cell BK189.out 1).trans rfl; have hcz53_2 : w52.cell? ⟨gb189, 2, none⟩ = some (.bool ((rd_T130 l0 x4_1).f2)) := (blk_cell BK189.out 2).trans rfl; have hcz53_3 : w52.cell? ⟨gb189, 3, none⟩ = some (.slice A188_3 ((rd_T130 l0 x4_1).f3).length c188_3) := (blk_cell BK189.out 3).trans rfl; have hcz53_4 : w52.cell? ⟨gb189, 4, none⟩ = some (.slice (some ad195) ((rd_T130 l0 x4_1).f4).length c188_4) := (blk_cell BK189.out 4).trans rfl; have hfz53_0 := blk_frozen BK189.out 0; have hfz53_1 := blk_frozen BK189.out 1; have hfz53_2 := blk_frozen BK189.out 2; have hfz53_3 := blk_frozen BK189.out 3; have hfz53_4 := blk_frozen BK189.out 4; have p197 : 0 ≤ (x8_5 : Int) := of_decide_eq_true tZE; have q197 : x8_5 < (((rd_T130 l0 x4_1).f4).length : Int) := of_decide_eq_true tZE; obtain ⟨ad197, e197, hx197_0, hx197_1, hx197_2, hx197_3, hx197_4, hx197_5⟩ := at_T149 HR188_4.out x8_5 p197 q197; obtain rfl : ad195 = ad197 := (by injection e197); replace hx197_0 := cZ HB hx197_0; replace hx197_1 := cZ HB hx197_1; replace hx197_2 := cZ HB hx197_2; replace hx197_3 := cZ HB hx197_3; replace hx197_4 := cZ HB hx197_4; replace hx197_5 := cZ HB hx197_5; replace p197 := eq_true p197; replace q197 := eq_true q197; have p198 : 0 ≤ (x8_5 : Int) := of_decide_eq_true tZE; have q198 : x8_5 < (((rd_T130 l0 x4_1).f4).length : Int) := of_decide_eq_true tZE; obtain ⟨ad198, e198, hx198_0, hx198_1, hx198_2, hx198_3, hx198_4, hx198_5⟩ := at_T149 HR188_4.out x8_5 p198 q198; obtain rfl : ad195 = ad198 := (by injection e198); replace hx198_0 := cZ HB hx198_0; replace hx198_1 := cZ HB hx198_1; replace hx198_2 := cZ HB hx198_2; replace hx198_3 := cZ HB hx198_3; replace hx198_4 := cZ HB hx198_4; replace hx198_5 := cZ HB hx198_5; replace p198 := eq_true p198; replace q198 := eq_true q198))
            repeat (go_quiet (first | (go_at_call 154; (with_reducible refine (spec_l17Part.calls ((rd_T149 ((rd_T130 l0 x4_1).f4) x8_5).f0) ((rd_T149 ((rd_T130 l0 x4_1).f4) x8_5).f1) ((rd_T149 ((rd_T130 l0 x4_1).f4) x8_5).f2) ((rd_T149 ((rd_T130 l0 x4_1).f4) x8_5).f3) ((rd_T149 ((rd_T130 l0 x4_1).f4) x8_5).f4) ((rd_T149 ((rd_T130 l0 x4_1).f4) x8_5).f5) x4_1 (l0.length : Int) true _ A44.out).mono ?_); rintro e w52 ⟨rfl, hb⟩; replace BK189 := aZ (blk_below (bkZ BK189.out) hb); replace HB := aZ (below_step bZ hb); (try clear hb); (try clear hb2); (try clear hk); (try clear hi); have hcz53_0 : w52.cell? ⟨gb189, 0, none⟩ = some (.string ((rd_T130 l0 x4_1).f0)) := (blk_cell BK189.out 0).trans rfl; have hcz53_1 : w52.cell? ⟨gb189, 1, none⟩ = some (.int .i64 ((rd_T130 l0 x4_1).f1)) := (blk_cell BK189.out 1).trans rfl; have hcz53_2 : w52.cell? ⟨gb189, 2, none⟩ = some (.bool ((rd_T130 l0 x4_1).f2)) := (blk_cell BK189.out 2).trans rfl; have hcz53_3 : w52.cell? ⟨gb189, 3, none⟩ = some (.slice A188_3 ((rd_T130 l0 x4_1).f3).length c188_3) := (blk_cell BK189.out 3).trans rfl; have hcz53_4 : w52.cell? ⟨gb189, 4, none⟩ = some (.slice (some ad195) ((rd_T130 l0 x4_1).f4).length c188_4) := (blk_cell BK189.out 4).trans rfl; have hfz53_0 := blk_frozen BK189.out 0; have hfz53_1 := blk_frozen BK189.out 1; have hfz53_2 := blk_frozen BK189.out 2; have hfz53_3 := blk_frozen BK189.out 3; have hfz53_4 := blk_frozen BK189.out 4; have p197 : 0 ≤ (x8_5 : Int) := of_decide_eq_true tZE; have q197 : x8_5 < (((rd_T130 l0 x4_1).f4).length : Int) := of_decide_eq_true tZE; obtain ⟨ad197, e197, hx197_0, hx197_1, hx197_2, hx197_3, hx197_4, hx197_5⟩ := at_T149 HR188_4.out x8_5 p197 q197; obtain rfl : ad195 = ad197 := (by injection e197); replace hx197_0 := cZ HB hx197_0; replace hx197_1 := cZ HB hx197_1; replace hx197_2 := cZ HB hx197_2; replace hx197_3 := cZ HB hx197_3; replace hx197_4 := cZ HB hx197_4; replace hx197_5 := cZ HB hx197_5; replace p197 := eq_true p197; replace q197 := eq_true q197; have p198 : 0 ≤ (x8_5 : Int) := of_decide_eq_true tZE; have q198 : x8_5 < (((rd_T130 l0 x4_1).f4).length : Int) := of_decide_eq_true tZE; obtain ⟨ad198, e198, hx198_0, hx198_1, hx198_2, hx198_3, hx198_4, hx198_5⟩ := at_T149 HR188_4.out x8_5 p198 q198; obtain rfl : ad195 = ad198 := (by injection e198); replace hx198_0 := cZ HB hx198_0; replace hx198_1 := cZ HB hx198_1; replace hx198_2 := cZ HB hx198_2; replace hx198_3 := cZ HB hx198_3; replace hx198_4 := cZ HB hx198_4; replace hx198_5 := cZ HB hx198_5; replace p198 := eq_true p198; replace q198 := eq_true q198)); try go_wp2_with (first | (go_at_call 154; (with_reducible refine (spec_l17Part.calls ((rd_T149 ((rd_T130 l0 x4_1).f4) x8_5).f0) ((rd_T149 ((rd_T130 l0 x4_1).f4) x8_5).f1) ((rd_T149 ((rd_T130 l0 x4_1).f4) x8_5).f2) ((rd_T149 ((rd_T130 l0 x4_1).f4) x8_5).f3) ((rd_T149 ((rd_T130 l0 x4_1).f4) x8_5).f4) ((rd_T149 ((rd_T130 l0 x4_1).f4) x8_5).f5) x4_1 (l0.length : Int) true _ A44.out).mono ?_); rintro e w52 ⟨rfl, hb⟩; replace BK189 := aZ (blk_below (bkZ BK189.out) hb); replace HB := aZ (below_step bZ hb); (try clear hb); (try clear hb2); (try clear hk); (try clear hi); have hcz53_0 : w52.cell? ⟨gb189, 0, none⟩ = some (.string ((rd_T130 l0 x4_1).f0)) := (blk_cell BK189.out 0).trans rfl; have hcz53_1 : w52.cell? ⟨gb189, 1, none⟩ = some (.int .i64 ((rd_T130 l0 x4_1).f1)) := (blk_cell BK189.out 1).trans rfl; have hcz53_2 : w52.cell? ⟨gb189, 2, none⟩ = some (.bool ((rd_T130 l0 x4_1).f2)) := (blk_cell BK189.out 2).trans rfl; have hcz53_3 : w52.cell? ⟨gb189, 3, none⟩ = some (.slice A188_3 ((rd_T130 l0 x4_1).f3).length c188_3) := (blk_cell BK189.out 3).trans rfl; have hcz53_4 : w52.cell? ⟨gb189, 4, none⟩ = some (.slice (some ad195) ((rd_T130 l0 x4_1).f4).length c188_4) := (blk_cell BK189.out 4).trans rfl; have hfz53_0 := blk_frozen BK189.out 0; have hfz53_1 := blk_frozen BK189.out 1; have hfz53_2 := blk_frozen BK189.out 2; have hfz53_3 := blk_frozen BK189.out 3; have hfz53_4 := blk_frozen BK189.out 4; have p197 : 0 ≤ (x8_5 : Int) := of_decide_eq_true tZE; have q197 : x8_5 < (((rd_T130 l0 x4_1).f4).length : Int) := of_decide_eq_true tZE; obtain ⟨ad197, e197, hx197_0, hx197_1, hx197_2, hx197_3, hx197_4, hx197_5⟩ := at_T149 HR188_4.out x8_5 p197 q197; obtain rfl : ad195 = ad197 := (by injection e197); replace hx197_0 := cZ HB hx197_0; replace hx197_1 := cZ HB hx197_1; replace hx197_2 := cZ HB hx197_2; replace hx197_3 := cZ HB hx197_3; replace hx197_4 := cZ HB hx197_4; replace hx197_5 := cZ HB hx197_5; replace p197 := eq_true p197; replace q197 := eq_true q197; have p198 : 0 ≤ (x8_5 : Int) := of_decide_eq_true tZE; have q198 : x8_5 < (((rd_T130 l0 x4_1).f4).length : Int) := of_decide_eq_true tZE; obtain ⟨ad198, e198, hx198_0, hx198_1, hx198_2, hx198_3, hx198_4, hx198_5⟩ := at_T149 HR188_4.out x8_5 p198 q198; obtain rfl : ad195 = ad198 := (by injection e198); replace hx198_0 := cZ HB hx198_0; replace hx198_1 := cZ HB hx198_1; replace hx198_2 := cZ HB hx198_2; replace hx198_3 := cZ HB hx198_3; replace hx198_4 := cZ HB hx198_4; replace hx198_5 := cZ HB hx198_5; replace p198 := eq_true p198; replace q198 := eq_true q198)))
            go_ret
            exact ⟨tZC, bZ⟩
           rw [if_pos c47] at H
           have c47b0 : (((rd_T149 ((rd_T130 l0 x4_1).f4) x8_5).f5) == 0) = true := beq_iff_eq.mpr c47
           have c47b1 : (((rd_T149 ((rd_T130 l0 x4_1).f4) x8_5).f5) != 0) = false := bne_eq_false_iff_eq.mpr c47
           clear c47
           have H' := Aside0.mk H
           clear H
           have hcz48_0 : wr.cell? ⟨gb189, 0, none⟩ = some (.string ((rd_T130 l0 x4_1).f0)) := (blk_cell BK189.out 0).trans rfl
           have hcz48_1 : wr.cell? ⟨gb189, 1, none⟩ = some (.int .i64 ((rd_T130 l0 x4_1).f1)) := (blk_cell BK189.out 1).trans rfl
           have hcz48_2 : wr.cell? ⟨gb189, 2, none⟩ = some (.bool ((rd_T130 l0 x4_1).f2)) := (blk_cell BK189.out 2).trans rfl
           have hcz48_3 : wr.cell? ⟨gb189, 3, none⟩ = some (.slice A188_3 ((rd_T130 l0 x4_1).f3).length c188_3) := (blk_cell BK189.out 3).trans rfl
           have hcz48_4 : wr.cell? ⟨gb189, 4, none⟩ = some (.slice A188_4 ((rd_T130 l0 x4_1).f4).length c188_4) := (blk_cell BK189.out 4).trans rfl
           have hfz48_0 := blk_frozen BK189.out 0
           have hfz48_1 := blk_frozen BK189.out 1
           have hfz48_2 := blk_frozen BK189.out 2
           have hfz48_3 := blk_frozen BK189.out 3
           have hfz48_4 := blk_frozen BK189.out 4
           have p195 : 0 ≤ (x8_5 : Int) := of_decide_eq_true tZE
           have q195 : x8_5 < (((rd_T130 l0 x4_1).f4).length : Int) := of_decide_eq_true tZE
           obtain ⟨ad195, e195, hx195_0, hx195_1, hx195_2, hx195_3, hx195_4, hx195_5⟩ := at_T149 HR188_4.out x8_5 p195 q195
           cases e195
           replace hx195_0 := cZ HB hx195_0
           replace hx195_1 := cZ HB hx195_1
           replace hx195_2 := cZ HB hx195_2
           replace hx195_3 := cZ HB hx195_3
           replace hx195_4 := cZ HB hx195_4
           replace hx195_5 := cZ HB hx195_5
           replace p195 := eq_true p195
           replace q195 := eq_true q195
           go_wp2_with (first | (go_at_call 154; (with_reducible refine (spec_l17Part.calls ((rd_T149 ((rd_T130 l0 x4_1).f4) x8_5).f0) ((rd_T149 ((rd_T130 l0 x4_1).f4) x8_5).f1) ((rd_T149 ((rd_T130 l0 x4_1).f4) x8_5).f2) ((rd_T149 ((rd_T130 l0 x4_1).f4) x8_5).f3) ((rd_T149 ((rd_T130 l0 x4_1).f4) x8_5).f4) ((rd_T149 ((rd_T130 l0 x4_1).f4) x8_5).f5) x4_1 (l0.length : Int) true _ A44.out).mono ?_); rintro e w49 ⟨rfl, hb⟩; replace BK189 := aZ (blk_below (bkZ BK189.out) hb); replace HB := aZ (below_step bZ hb); (try clear hb); (try clear hb2); (try clear hk); (try clear hi); have hcz50_0 : w49.cell? ⟨gb189, 0, none⟩ = some (.string ((rd_T130 l0 x4_1).f0)) := (blk_cell BK189.out 0).trans rfl; have hcz50_1 : w49.cell? ⟨gb189, 1, none⟩ = some (.int .i64 ((rd_T130 l0 x4_1).f1)) := (blk_cell BK189.out 1).trans rfl; have hcz50_2 : w49.cell? ⟨gb189, 2, none⟩ = some (.bool ((rd_T130 l0 x4_1).f2)) := (blk_cell BK189.out 2).trans rfl; have hcz50_3 : w49.cell? ⟨gb189, 3, none⟩ = some (.slice A188_3 ((rd_T130 l0 x4_1).f3).length c188_3) := (blk_cell BK189.out 3).trans rfl; have hcz50_4 : w49.cell? ⟨gb189, 4, none⟩ = some (.slice (some ad195) ((rd_T130 l0 x4_1).f4).length c188_4) := (blk_cell BK189.out 4).trans rfl; have hfz50_0 := blk_frozen BK189.out 0; have hfz50_1 := blk_frozen BK189.out 1; have hfz50_2 := blk_frozen BK189.out 2; have hfz50_3 := blk_frozen BK189.out 3; have hfz50_4 := blk_frozen BK189.out 4; have p197 : 0 ≤ (x8_5 : Int) := of_decide_eq_true tZE; have q197 : x8_5 < (((rd_T130 l0 x4_1).f4).length : Int) := of_decide_eq_true tZE; obtain ⟨ad197, e197, hx197_0, hx197_1, hx197_2, hx197_3, hx197_4, hx197_5⟩ := at_T149 HR188_4.out x8_5 p197 q197; obtain rfl : ad195 = ad197 := (by injection e197); replace hx197_0 := cZ HB hx197_0; replace hx197_1 := cZ HB hx197_1; replace hx197_2 := cZ HB hx197_2; replace hx197_3 := cZ HB hx197_3; replace hx197_4 := cZ HB hx197_4; replace hx197_5 := cZ HB hx197_5; replace p197 := eq_true p197; replace q197 := eq_true q197; have p198 : 0 ≤ (x8_5 : Int) := of_decide_eq_true tZE; have q198 : x8_5 < (((rd_T130 l0 x4_1).f4).length : Int) := of_decide_eq_true tZE; obtain ⟨ad198, e198, hx198_0, hx198_1, hx198_2, hx198_3, hx198_4, hx198_5⟩ := at_T149 HR188_4.out x8_5 p198 q198; obtain rfl : ad195 = ad198 := (by injection e198); replace hx198_0 := cZ HB hx198_0; replace hx198_1 := cZ HB hx198_1; replace hx198_2 := cZ HB hx198_2; replace hx198_3 := cZ HB hx198_3; replace hx198_4 := cZ HB hx198_4; replace hx198_5 := cZ HB hx198_5; replace p198 := eq_true p198; replace q198 := eq_true q198))
           repeat (go_quiet (first | (go_at_call 154; (with_reducible refine (spec_l17Part.calls ((rd_T149 ((rd_T130 l0 x4_1).f4) x8_5).f0) ((rd_T149 ((rd_T130 l0 x4_1).f4) x8_5).f1) ((rd_T149 ((rd_T130 l0 x4_1).f4) x8_5).f2) ((rd_T149 ((rd_T130 l0 x4_1).f4) x8_5).f3) ((rd_T149 ((rd_T130 l0 x4_1).f4) x8_5).f4) ((rd_T149 ((rd_T130 l0 x4_1).f4) x8_5).f5) x4_1 (l0.length : Int) true _ A44.out).mono ?_); rintro e w49 ⟨rfl, hb⟩; replace BK189 := aZ (blk_below (bkZ BK189.out) hb); replace HB := aZ (below_step bZ hb); (try clear hb); (try clear hb2); (try clear hk); (try clear hi); have hcz50_0 : w49.cell? ⟨gb189, 0, none⟩ = some (.string ((rd_T130 l0 x4_1).f0)) := (blk_cell BK189.out 0).trans rfl; have hcz50_1 : w49.cell? ⟨gb189, 1, none⟩ = some (.int .i64 ((rd_T130 l0 x4_1).f1)) := (blk_cell BK189.out 1).trans rfl; have hcz50_2 : w49.cell? ⟨gb189, 2, none⟩ = some (.bool ((rd_T130 l0 x4_1).f2)) := (blk_cell BK189.out 2).trans rfl; have hcz50_3 : w49.cell? ⟨gb189, 3, none⟩ = some (.slice A188_3 ((rd_T130 l0 x4_1).f3).length c188_3) := (blk_cell BK189.out 3).trans rfl; have hcz50_4 : w49.cell? ⟨gb189, 4, none⟩ = some (.slice (some ad195) ((rd_T130 l0 x4_1).f4).length c188_4) := (blk_cell BK189.out 4).trans rfl; have hfz50_0 := blk_frozen BK189.out 0; have hfz50_1 := blk_frozen BK189.out 1; have hfz50_2 := blk_frozen BK189.out 2; have hfz50_3 := blk_frozen BK189.out 3; have hfz50_4 := blk_frozen BK189.out 4; have p197 : 0 ≤ (x8_5 : Int) := of_decide_eq_true tZE; have q197 : x8_5 < (((rd_T130 l0 x4_1).f4).length : Int) := of_decide_eq_true tZE; obtain ⟨ad197, e197, hx197_0, hx197_1, hx197_2, hx197_3, hx197_4, hx197_5⟩ := at_T149 HR188_4.out x8_5 p197 q197; obtain rfl : ad195 = ad197 := (by injection e197); replace hx197_0 := cZ HB hx197_0; replace hx197_1 := cZ HB hx197_1; replace hx197_2 := cZ HB hx197_2; replace hx197_3 := cZ HB hx197_3; replace hx197_4 := cZ HB hx197_4; replace hx197_5 := cZ HB hx197_5; replace p197 := eq_true p197; replace q197 := eq_true q197; have p198 : 0 ≤ (x8_5 : Int) := of_decide_eq_true tZE; have q198 : x8_5 < (((rd_T130 l0 x4_1).f4).length : Int) := of_decide_eq_true tZE; obtain ⟨ad198, e198, hx198_0, hx198_1, hx198_2, hx198_3, hx198_4, hx198_5⟩ := at_T149 HR188_4.out x8_5 p198 q198; obtain rfl : ad195 = ad198 := (by injection e198); replace hx198_0 := cZ HB hx198_0; replace hx198_1 := cZ HB hx198_1; replace hx198_2 := cZ HB hx198_2; replace hx198_3 := cZ HB hx198_3; replace hx198_4 := cZ HB hx198_4; replace hx198_5 := cZ HB hx198_5; replace p198 := eq_true p198; replace q198 := eq_true q198)); try go_wp2_with (first | (go_at_call 154; (with_reducible refine (spec_l17Part.calls ((rd_T149 ((rd_T130 l0 x4_1).f4) x8_5).f0) ((rd_T149 ((rd_T130 l0 x4_1).f4) x8_5).f1) ((rd_T149 ((rd_T130 l0 x4_1).f4) x8_5).f2) ((rd_T149 ((rd_T130 l0 x4_1).f4) x8_5).f3) ((rd_T149 ((rd_T130 l0 x4_1).f4) x8_5).f4) ((rd_T149 ((rd_T130 l0 x4_1).f4) x8_5).f5) x4_1 (l0.length : Int) true _ A44.out).mono ?_); rintro e w49 ⟨rfl, hb⟩; replace BK189 := aZ (blk_below (bkZ BK189.out) hb); replace HB := aZ (below_step bZ hb); (try clear hb); (try clear hb2); (try clear hk); (try clear hi); have hcz50_0 : w49.cell? ⟨gb189, 0, none⟩ = some (.string ((rd_T130 l0 x4_1).f0)) := (blk_cell BK189.out 0).trans rfl; have hcz50_1 : w49.cell? ⟨gb189, 1, none⟩ = some (.int .i64 ((rd_T130 l0 x4_1).f1)) := (blk_cell BK189.out 1).trans rfl; have hcz50_2 : w49.cell? ⟨gb189, 2, none⟩ = some (.bool ((rd_T130 l0 x4_1).f2)) := (blk_cell BK189.out 2).trans rfl; have hcz50_3 : w49.cell? ⟨gb189, 3, none⟩ = some (.slice A188_3 ((rd_T130 l0 x4_1).f3).length c188_3) := (blk_cell BK189.out 3).trans rfl; have hcz50_4 : w49.cell? ⟨gb189, 4, none⟩ = some (.slice (some ad195) ((rd_T130 l0 x4_1).f4).length c188_4) := (blk_cell BK189.out 4).trans rfl; have hfz50_0 := blk_frozen BK189.out 0; have hfz50_1 := blk_frozen BK189.out 1; have hfz50_2 := blk_frozen BK189.out 2; have hfz50_3 := blk_frozen BK189.out 3; have hfz50_4 := blk_frozen BK189.out 4; have p197 : 0 ≤ (x8_5 : Int) := of_decide_eq_true tZE; have q197 : x8_5 < (((rd_T130 l0 x4_1).f4).length : Int) := of_decide_eq_true tZE; obtain ⟨ad197, e197, hx197_0, hx197_1, hx197_2, hx197_3, hx197_4, hx197_5⟩ := at_T149 HR188_4.out x8_5 p197 q197; obtain rfl : ad195 = ad197 := (by injection e197); replace hx197_0 := cZ HB hx197_0; replace hx197_1 := cZ HB hx197_1; replace hx197_2 := cZ HB hx197_2; replace hx197_3 := cZ HB hx197_3; replace hx197_4 := cZ HB hx197_4; replace hx197_5 := cZ HB hx197_5; replace p197 := eq_true p197; replace q197 := eq_true q197; have p198 : 0 ≤ (x8_5 : Int) := of_decide_eq_true tZE; have q198 : x8_5 < (((rd_T130 l0 x4_1).f4).length : Int) := of_decide_eq_true tZE; obtain ⟨ad198, e198, hx198_0, hx198_1, hx198_2, hx198_3, hx198_4, hx198_5⟩ := at_T149 HR188_4.out x8_5 p198 q198; obtain rfl : ad195 = ad198 := (by injection e198); replace hx198_0 := cZ HB hx198_0; replace hx198_1 := cZ HB hx198_1; replace hx198_2 := cZ HB hx198_2; replace hx198_3 := cZ HB hx198_3; replace hx198_4 := cZ HB hx198_4; replace hx198_5 := cZ HB hx198_5; replace p198 := eq_true p198; replace q198 := eq_true q198)))
           go_roundg k5
           case measure => have := HK1.out; have := HJ6.out; have := HK3.out; have := HK4.out; have := HK5.out; omega
           case rel => exact ⟨(wrap64 (x8_5 + 1)), tZB, H', ⟨by have := HK1.out; have := HJ6.out; have := HK3.out; have := HK4.out; have := HK5.out; omega⟩, ⟨bkZ BK189.out⟩, ⟨bZ⟩⟩
end Go.Proofs.Ytjnmfadnkbflfaa.PFnExactOutput
