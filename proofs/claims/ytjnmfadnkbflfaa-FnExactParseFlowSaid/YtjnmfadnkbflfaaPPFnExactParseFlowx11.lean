import Derived.Test.YtjnmfadnkbflfaaPPFnExactParseFlowx0
import Derived.Test.YtjnmfadnkbflfaaPSlimWords
namespace Go.Proofs.Ytjnmfadnkbflfaa.PFnExactParseFlow
open Go.Proofs.Ytjnmfadnkbflfaa.SlimWords
open Go.RowKit Go.Proofs.YtjnmfadnkbflfaaW.PrintWords Go.Proofs.YtjnmfadnkbflfaaW.PrintLast Go.Proofs.YtjnmfadnkbflfaaW.PrintMore Go.Proofs.Ytjnmfadnkbflfaa.MapWords Go.Proofs.Ytjnmfadnkbflfaa.IterWords Go.Proofs.Ytjnmfadnkbflfaa.MarkWords
attribute [local go_sem] max2_int min2_int max_two min_two max_three min_three max_four min_four
set_option linter.unusedVariables false
set_option linter.unusedSimpArgs false
def impl_nameByte.f (a0 : Int) : Option (Bool) := if a0 ≥ 97 then (if a0 ≤ 122 then (some true) else (if a0 ≥ 65 then (if a0 ≤ 90 then (some true) else (if a0 ≥ 48 then (if a0 ≤ 57 then (some true) else (if a0 = 45 then (some true) else (if a0 = 95 then (some true) else (some (a0 == 46))))) else (if a0 = 45 then (some true) else (if a0 = 95 then (some true) else (some (a0 == 46)))))) else (if a0 ≥ 48 then (if a0 ≤ 57 then (some true) else (if a0 = 45 then (some true) else (if a0 = 95 then (some true) else (some (a0 == 46))))) else (if a0 = 45 then (some true) else (if a0 = 95 then (some true) else (some (a0 == 46))))))) else (if a0 ≥ 65 then (if a0 ≤ 90 then (some true) else (if a0 ≥ 48 then (if a0 ≤ 57 then (some true) else (if a0 = 45 then (some true) else (if a0 = 95 then (some true) else (some (a0 == 46))))) else (if a0 = 45 then (some true) else (if a0 = 95 then (some true) else (some (a0 == 46)))))) else (if a0 ≥ 48 then (if a0 ≤ 57 then (some true) else (if a0 = 45 then (some true) else (if a0 = 95 then (some true) else (some (a0 == 46))))) else (if a0 = 45 then (some true) else (if a0 = 95 then (some true) else (some (a0 == 46))))))
set_option maxHeartbeats 8000000 in
set_option maxRecDepth 100000 in
theorem impl_nameByte.calls (a0 : Int) (r : Bool) (w : World) (h : impl_nameByte.f a0 = some r) :
    Calls Try.prog 173 #[.int .u8 a0] w fun e w' => e = .returned (.bool r) ∧ Drawn0 w w' := by
 have H : (if a0 ≥ 97 then (if a0 ≤ 122 then (some true) else (if a0 ≥ 65 then (if a0 ≤ 90 then (some true) else (if a0 ≥ 48 then (if a0 ≤ 57 then (some true) else (if a0 = 45 then (some true) else (if a0 = 95 then (some true) else (some (a0 == 46))))) else (if a0 = 45 then (some true) else (if a0 = 95 then (some true) else (some (a0 == 46)))))) else (if a0 ≥ 48 then (if a0 ≤ 57 then (some true) else (if a0 = 45 then (some true) else (if a0 = 95 then (some true) else (some (a0 == 46))))) else (if a0 = 45 then (some true) else (if a0 = 95 then (some true) else (some (a0 == 46))))))) else (if a0 ≥ 65 then (if a0 ≤ 90 then (some true) else (if a0 ≥ 48 then (if a0 ≤ 57 then (some true) else (if a0 = 45 then (some true) else (if a0 = 95 then (some true) else (some (a0 == 46))))) else (if a0 = 45 then (some true) else (if a0 = 95 then (some true) else (some (a0 == 46)))))) else (if a0 ≥ 48 then (if a0 ≤ 57 then (some true) else (if a0 = 45 then (some true) else (if a0 = 95 then (some true) else (some (a0 == 46))))) else (if a0 = 45 then (some true) else (if a0 = 95 then (some true) else (some (a0 == 46))))))) = some r := h
 clear h
 by_cases c2 : a0 ≥ 97
 rotate_left
 ·rw [if_neg c2] at H; have c2b0 : decide (97 ≤ a0) = false := decide_eq_false c2; clear c2
  by_cases c18 : a0 ≥ 65
  rotate_left
  ·rw [if_neg c18] at H; have c18b0 : decide (65 ≤ a0) = false := decide_eq_false c18; clear c18
   by_cases c26 : a0 ≥ 48
   rotate_left
   ·rw [if_neg c26] at H; have c26b0 : decide (48 ≤ a0) = false := decide_eq_false c26; clear c26
    by_cases c30 : a0 = 45
    ·rw [if_pos c30] at H; have c30b0 : (a0 == 45) = true := beq_iff_eq.mpr c30; have c30b1 : (a0 != 45) = false := bne_eq_false_iff_eq.mpr c30; clear c30; obtain rfl := Option.some.inj H; go_enter Try.func173, Try.ntmps173; go_wp2; go_ret; exact ⟨tZB, tZD⟩
    rw [if_neg c30] at H; have c30b0 : (a0 == 45) = false := beq_eq_false_iff_ne.mpr c30; have c30b1 : (a0 != 45) = true := bne_iff_ne.mpr c30
    by_cases c31 : a0 = 95
    rotate_left
    ·rw [if_neg c31] at H; have c31b0 : (a0 == 95) = false := beq_eq_false_iff_ne.mpr c31; have c31b1 : (a0 != 95) = true := bne_iff_ne.mpr c31; obtain rfl := Option.some.inj H; go_enter Try.func173, Try.ntmps173; go_wp2; go_ret; exact ⟨tZB, tZD⟩
    rw [if_pos c31] at H; have c31b0 : (a0 == 95) = true := beq_iff_eq.mpr c31; have c31b1 : (a0 != 95) = false := bne_eq_false_iff_eq.mpr c31; clear c31; obtain rfl := Option.some.inj H; go_enter Try.func173, Try.ntmps173; go_wp2; go_ret; exact ⟨tZB, tZD⟩
   rw [if_pos c26] at H; have c26b0 : decide (48 ≤ a0) = true := decide_eq_true c26; clear c26
   by_cases c27 : a0 ≤ 57
   ·rw [if_pos c27] at H; have c27b0 := decide_eq_true c27; clear c27; obtain rfl := Option.some.inj H; go_enter Try.func173, Try.ntmps173; go_wp2; go_ret; exact ⟨tZB, tZD⟩
   rw [if_neg c27] at H; have c27b0 := decide_eq_false c27; clear c27
   by_cases c28 : a0 = 45
   ·rw [if_pos c28] at H; have c28b0 : (a0 == 45) = true := beq_iff_eq.mpr c28; have c28b1 : (a0 != 45) = false := bne_eq_false_iff_eq.mpr c28; clear c28; obtain rfl := Option.some.inj H; go_enter Try.func173, Try.ntmps173; go_wp2; go_ret; exact ⟨tZB, tZD⟩
   rw [if_neg c28] at H; have c28b0 : (a0 == 45) = false := beq_eq_false_iff_ne.mpr c28; have c28b1 : (a0 != 45) = true := bne_iff_ne.mpr c28
   by_cases c29 : a0 = 95
   rotate_left
   ·rw [if_neg c29] at H; have c29b0 : (a0 == 95) = false := beq_eq_false_iff_ne.mpr c29; have c29b1 : (a0 != 95) = true := bne_iff_ne.mpr c29; obtain rfl := Option.some.inj H; go_enter Try.func173, Try.ntmps173; go_wp2; go_ret; exact ⟨tZB, tZD⟩
   rw [if_pos c29] at H; have c29b0 : (a0 == 95) = true := beq_iff_eq.mpr c29; have c29b1 : (a0 != 95) = false := bne_eq_false_iff_eq.mpr c29; clear c29; obtain rfl := Option.some.inj H; go_enter Try.func173, Try.ntmps173; go_wp2; go_ret; exact ⟨tZB, tZD⟩
  rw [if_pos c18] at H; have c18b0 : decide (65 ≤ a0) = true := decide_eq_true c18; clear c18
  by_cases c19 : a0 ≤ 90
  ·rw [if_pos c19] at H; have c19b0 := decide_eq_true c19; clear c19; obtain rfl := Option.some.inj H; go_enter Try.func173, Try.ntmps173; go_wp2; go_ret; exact ⟨tZB, tZD⟩
  rw [if_neg c19] at H; have c19b0 := decide_eq_false c19; clear c19
  by_cases c20 : a0 ≥ 48
  rotate_left
  ·rw [if_neg c20] at H; have c20b0 : decide (48 ≤ a0) = false := decide_eq_false c20; clear c20
   by_cases c24 : a0 = 45
   ·rw [if_pos c24] at H; have c24b0 : (a0 == 45) = true := beq_iff_eq.mpr c24; have c24b1 : (a0 != 45) = false := bne_eq_false_iff_eq.mpr c24; clear c24; obtain rfl := Option.some.inj H; go_enter Try.func173, Try.ntmps173; go_wp2; go_ret; exact ⟨tZB, tZD⟩
   rw [if_neg c24] at H; have c24b0 : (a0 == 45) = false := beq_eq_false_iff_ne.mpr c24; have c24b1 : (a0 != 45) = true := bne_iff_ne.mpr c24
   by_cases c25 : a0 = 95
   rotate_left
   ·rw [if_neg c25] at H; have c25b0 : (a0 == 95) = false := beq_eq_false_iff_ne.mpr c25; have c25b1 : (a0 != 95) = true := bne_iff_ne.mpr c25; obtain rfl := Option.some.inj H; go_enter Try.func173, Try.ntmps173; go_wp2; go_ret; exact ⟨tZB, tZD⟩
   rw [if_pos c25] at H; have c25b0 : (a0 == 95) = true := beq_iff_eq.mpr c25; have c25b1 : (a0 != 95) = false := bne_eq_false_iff_eq.mpr c25; clear c25; obtain rfl := Option.some.inj H; go_enter Try.func173, Try.ntmps173; go_wp2; go_ret; exact ⟨tZB, tZD⟩
  rw [if_pos c20] at H; have c20b0 : decide (48 ≤ a0) = true := decide_eq_true c20; clear c20
  by_cases c21 : a0 ≤ 57
  ·rw [if_pos c21] at H; have c21b0 := decide_eq_true c21; clear c21; obtain rfl := Option.some.inj H; go_enter Try.func173, Try.ntmps173; go_wp2; go_ret; exact ⟨tZB, tZD⟩
  rw [if_neg c21] at H; have c21b0 := decide_eq_false c21; clear c21
  by_cases c22 : a0 = 45
  ·rw [if_pos c22] at H; have c22b0 : (a0 == 45) = true := beq_iff_eq.mpr c22; have c22b1 : (a0 != 45) = false := bne_eq_false_iff_eq.mpr c22; clear c22; obtain rfl := Option.some.inj H; go_enter Try.func173, Try.ntmps173; go_wp2; go_ret; exact ⟨tZB, tZD⟩
  rw [if_neg c22] at H; have c22b0 : (a0 == 45) = false := beq_eq_false_iff_ne.mpr c22; have c22b1 : (a0 != 45) = true := bne_iff_ne.mpr c22
  by_cases c23 : a0 = 95
  rotate_left
  ·rw [if_neg c23] at H; have c23b0 : (a0 == 95) = false := beq_eq_false_iff_ne.mpr c23; have c23b1 : (a0 != 95) = true := bne_iff_ne.mpr c23; obtain rfl := Option.some.inj H; go_enter Try.func173, Try.ntmps173; go_wp2; go_ret; exact ⟨tZB, tZD⟩
  rw [if_pos c23] at H; have c23b0 : (a0 == 95) = true := beq_iff_eq.mpr c23; have c23b1 : (a0 != 95) = false := bne_eq_false_iff_eq.mpr c23; clear c23; obtain rfl := Option.some.inj H; go_enter Try.func173, Try.ntmps173; go_wp2; go_ret; exact ⟨tZB, tZD⟩
 rw [if_pos c2] at H; have c2b0 : decide (97 ≤ a0) = true := decide_eq_true c2; clear c2
 by_cases c3 : a0 ≤ 122
 ·rw [if_pos c3] at H; have c3b0 := decide_eq_true c3; clear c3; obtain rfl := Option.some.inj H; go_enter Try.func173, Try.ntmps173; go_wp2; go_ret; exact ⟨tZB, tZD⟩
 rw [if_neg c3] at H; have c3b0 := decide_eq_false c3; clear c3
 by_cases c4 : a0 ≥ 65
 rotate_left
 ·rw [if_neg c4] at H; have c4b0 : decide (65 ≤ a0) = false := decide_eq_false c4; clear c4
  by_cases c12 : a0 ≥ 48
  rotate_left
  ·rw [if_neg c12] at H; have c12b0 : decide (48 ≤ a0) = false := decide_eq_false c12; clear c12
   by_cases c16 : a0 = 45
   ·rw [if_pos c16] at H; have c16b0 : (a0 == 45) = true := beq_iff_eq.mpr c16; have c16b1 : (a0 != 45) = false := bne_eq_false_iff_eq.mpr c16; clear c16; obtain rfl := Option.some.inj H; go_enter Try.func173, Try.ntmps173; go_wp2; go_ret; exact ⟨tZB, tZD⟩
   rw [if_neg c16] at H; have c16b0 : (a0 == 45) = false := beq_eq_false_iff_ne.mpr c16; have c16b1 : (a0 != 45) = true := bne_iff_ne.mpr c16
   by_cases c17 : a0 = 95
   rotate_left
   ·rw [if_neg c17] at H; have c17b0 : (a0 == 95) = false := beq_eq_false_iff_ne.mpr c17; have c17b1 : (a0 != 95) = true := bne_iff_ne.mpr c17; obtain rfl := Option.some.inj H; go_enter Try.func173, Try.ntmps173; go_wp2; go_ret; exact ⟨tZB, tZD⟩
   rw [if_pos c17] at H; have c17b0 : (a0 == 95) = true := beq_iff_eq.mpr c17; have c17b1 : (a0 != 95) = false := bne_eq_false_iff_eq.mpr c17; clear c17; obtain rfl := Option.some.inj H; go_enter Try.func173, Try.ntmps173; go_wp2; go_ret; exact ⟨tZB, tZD⟩
  rw [if_pos c12] at H; have c12b0 : decide (48 ≤ a0) = true := decide_eq_true c12; clear c12
  by_cases c13 : a0 ≤ 57
  ·rw [if_pos c13] at H; have c13b0 := decide_eq_true c13; clear c13; obtain rfl := Option.some.inj H; go_enter Try.func173, Try.ntmps173; go_wp2; go_ret; exact ⟨tZB, tZD⟩
  rw [if_neg c13] at H; have c13b0 := decide_eq_false c13; clear c13
  by_cases c14 : a0 = 45
  ·rw [if_pos c14] at H; have c14b0 : (a0 == 45) = true := beq_iff_eq.mpr c14; have c14b1 : (a0 != 45) = false := bne_eq_false_iff_eq.mpr c14; clear c14; obtain rfl := Option.some.inj H; go_enter Try.func173, Try.ntmps173; go_wp2; go_ret; exact ⟨tZB, tZD⟩
  rw [if_neg c14] at H; have c14b0 : (a0 == 45) = false := beq_eq_false_iff_ne.mpr c14; have c14b1 : (a0 != 45) = true := bne_iff_ne.mpr c14
  by_cases c15 : a0 = 95
  rotate_left
  ·rw [if_neg c15] at H; have c15b0 : (a0 == 95) = false := beq_eq_false_iff_ne.mpr c15; have c15b1 : (a0 != 95) = true := bne_iff_ne.mpr c15; obtain rfl := Option.some.inj H; go_enter Try.func173, Try.ntmps173; go_wp2; go_ret; exact ⟨tZB, tZD⟩
  rw [if_pos c15] at H; have c15b0 : (a0 == 95) = true := beq_iff_eq.mpr c15; have c15b1 : (a0 != 95) = false := bne_eq_false_iff_eq.mpr c15; clear c15; obtain rfl := Option.some.inj H; go_enter Try.func173, Try.ntmps173; go_wp2; go_ret; exact ⟨tZB, tZD⟩
 rw [if_pos c4] at H; have c4b0 : decide (65 ≤ a0) = true := decide_eq_true c4; clear c4
 by_cases c5 : a0 ≤ 90
 ·rw [if_pos c5] at H; have c5b0 := decide_eq_true c5; clear c5; obtain rfl := Option.some.inj H; go_enter Try.func173, Try.ntmps173; go_wp2; go_ret; exact ⟨tZB, tZD⟩
 rw [if_neg c5] at H; have c5b0 := decide_eq_false c5; clear c5
 by_cases c6 : a0 ≥ 48
 rotate_left
 ·rw [if_neg c6] at H; have c6b0 : decide (48 ≤ a0) = false := decide_eq_false c6; clear c6
  by_cases c10 : a0 = 45
  ·rw [if_pos c10] at H; have c10b0 : (a0 == 45) = true := beq_iff_eq.mpr c10; have c10b1 : (a0 != 45) = false := bne_eq_false_iff_eq.mpr c10; clear c10; obtain rfl := Option.some.inj H; go_enter Try.func173, Try.ntmps173; go_wp2; go_ret; exact ⟨tZB, tZD⟩
  rw [if_neg c10] at H; have c10b0 : (a0 == 45) = false := beq_eq_false_iff_ne.mpr c10; have c10b1 : (a0 != 45) = true := bne_iff_ne.mpr c10
  by_cases c11 : a0 = 95
  rotate_left
  ·rw [if_neg c11] at H; have c11b0 : (a0 == 95) = false := beq_eq_false_iff_ne.mpr c11; have c11b1 : (a0 != 95) = true := bne_iff_ne.mpr c11; obtain rfl := Option.some.inj H; go_enter Try.func173, Try.ntmps173; go_wp2; go_ret; exact ⟨tZB, tZD⟩
  rw [if_pos c11] at H; have c11b0 : (a0 == 95) = true := beq_iff_eq.mpr c11; have c11b1 : (a0 != 95) = false := bne_eq_false_iff_eq.mpr c11; clear c11; obtain rfl := Option.some.inj H; go_enter Try.func173, Try.ntmps173; go_wp2; go_ret; exact ⟨tZB, tZD⟩
 rw [if_pos c6] at H; have c6b0 : decide (48 ≤ a0) = true := decide_eq_true c6; clear c6
 by_cases c7 : a0 ≤ 57
 ·rw [if_pos c7] at H; have c7b0 := decide_eq_true c7; clear c7; obtain rfl := Option.some.inj H; go_enter Try.func173, Try.ntmps173; go_wp2; go_ret; exact ⟨tZB, tZD⟩
 rw [if_neg c7] at H; have c7b0 := decide_eq_false c7; clear c7
 by_cases c8 : a0 = 45
 ·rw [if_pos c8] at H; have c8b0 : (a0 == 45) = true := beq_iff_eq.mpr c8; have c8b1 : (a0 != 45) = false := bne_eq_false_iff_eq.mpr c8; clear c8; obtain rfl := Option.some.inj H; go_enter Try.func173, Try.ntmps173; go_wp2; go_ret; exact ⟨tZB, tZD⟩
 rw [if_neg c8] at H; have c8b0 : (a0 == 45) = false := beq_eq_false_iff_ne.mpr c8; have c8b1 : (a0 != 45) = true := bne_iff_ne.mpr c8
 by_cases c9 : a0 = 95
 rotate_left
 ·rw [if_neg c9] at H; have c9b0 : (a0 == 95) = false := beq_eq_false_iff_ne.mpr c9; have c9b1 : (a0 != 95) = true := bne_iff_ne.mpr c9; obtain rfl := Option.some.inj H; go_enter Try.func173, Try.ntmps173; go_wp2; go_ret; exact ⟨tZB, tZD⟩
 rw [if_pos c9] at H; have c9b0 : (a0 == 95) = true := beq_iff_eq.mpr c9; have c9b1 : (a0 != 95) = false := bne_eq_false_iff_eq.mpr c9; clear c9; obtain rfl := Option.some.inj H; go_enter Try.func173, Try.ntmps173; go_wp2; go_ret; exact ⟨tZB, tZD⟩
mutual
def impl_NameOk.j0 : Nat → ByteArray → Bool → Option (Bool)
  | 0, _, _ => none
  | k + 1, x0, x11 => if x11 = true then (some false) else (impl_NameOk.l0 k x0 0)
def impl_NameOk.l0 : Nat → ByteArray → Int → Option (Bool)
  | 0, _, _ => none
  | k + 1, x0, x3 => if x3 < (x0.size : Int) then (if 0 ≤ x3 then ((impl_nameByte.f (bt x0 x3)).bind fun t210 => (if t210 = true then (impl_NameOk.l0 k x0 (wrap64 (x3 + 1))) else (some false))) else (none)) else (some true)
end
def impl_NameOk.f (k : Nat) (a0 : ByteArray) : Option (Bool) := if (a0.size : Int) < 1 then (impl_NameOk.j0 k a0 true) else (impl_NameOk.j0 k a0 (decide ((a0.size : Int) > 20)))
theorem impl_NameOk.mono_l : ∀ k, (∀ y0 y1, LeO (impl_NameOk.j0 k y0 y1) (impl_NameOk.j0 (k + 1) y0 y1)) ∧ (∀ y0 y1, LeO (impl_NameOk.l0 k y0 y1) (impl_NameOk.l0 (k + 1) y0 y1))
  | 0 => ⟨fun _ _ r h => by simp [impl_NameOk.j0] at h, fun _ _ r h => by simp [impl_NameOk.l0] at h⟩
  | k + 1 => by
    obtain ⟨ih0, ih1⟩ := impl_NameOk.mono_l k
    refine ⟨?_, ?_⟩
    · intro y0 y1
      unfold impl_NameOk.j0
      repeat' first
      | (with_reducible exact ih0 _ _)
      | (with_reducible exact ih1 _ _)
      | (with_reducible exact LeO.refl _)
      | (with_reducible exact LeO.none _)
      | (with_reducible refine LeO.ite ?_ ?_)
      | (with_reducible refine LeO.bind ?_ (fun _ => ?_))
      | exact ih0 _ _
      | exact ih1 _ _
      | exact LeO.none _
      | refine LeO.ite ?_ ?_
      | refine LeO.bind ?_ (fun _ => ?_)
    · intro y0 y1
      unfold impl_NameOk.l0
      repeat' first
      | (with_reducible exact ih0 _ _)
      | (with_reducible exact ih1 _ _)
      | (with_reducible exact LeO.refl _)
      | (with_reducible exact LeO.none _)
      | (with_reducible refine LeO.ite ?_ ?_)
      | (with_reducible refine LeO.bind ?_ (fun _ => ?_))
      | exact ih0 _ _
      | exact ih1 _ _
      | exact LeO.none _
      | refine LeO.ite ?_ ?_
      | refine LeO.bind ?_ (fun _ => ?_)
theorem impl_NameOk.mono : ∀ a0 k, LeO (impl_NameOk.f k a0) (impl_NameOk.f (k + 1) a0) := by
 intro a0 k
 obtain ⟨ih0, ih1⟩ := impl_NameOk.mono_l k
 unfold impl_NameOk.f
 repeat' first
     | (with_reducible exact ih0 _ _)
     | (with_reducible exact ih1 _ _)
     | (with_reducible exact LeO.refl _)
     | (with_reducible exact LeO.none _)
     | (with_reducible refine LeO.ite ?_ ?_)
     | (with_reducible refine LeO.bind ?_ (fun _ => ?_))
     | exact ih0 _ _
     | exact ih1 _ _
     | exact LeO.none _
     | refine LeO.ite ?_ ?_
     | refine LeO.bind ?_ (fun _ => ?_)
set_option maxHeartbeats 8000000 in
set_option maxRecDepth 100000 in
theorem impl_NameOk.calls (k : Nat) (a0 : ByteArray) (r : Bool) (w : World) (h : impl_NameOk.f k a0 = some r) :
    Calls Try.prog 119 #[.string a0] w fun e w' => e = .returned (.bool r) ∧ Drawn0 w w' := by
 have H : (if (a0.size : Int) < 1 then (impl_NameOk.j0 k a0 true) else (impl_NameOk.j0 k a0 (decide ((a0.size : Int) > 20)))) = some r := h; clear h; have HC2 := Aside0.mk H; clear H; go_enter Try.func119, Try.ntmps119
 go_upto_region 1 with (fail)
 go_cut [11] (fun v11 wc => ∃ (kq : Nat) (x11_1 : Bool), v11 = .bool x11_1 ∧ Aside0 (impl_NameOk.j0 kq a0 x11_1 = some r) ∧ Aside0 (kq ≤ k) ∧ Drawn0 w wc)
 case first =>
  have H := HC2.out; clear HC2
  by_cases c3 : (a0.size : Int) < 1
  ·rw [if_pos c3] at H; have c3b0 := decide_eq_true c3; have c3b1 : decide (a0.size < 1) = true := decide_eq_true (by omega); clear c3; (first | rw [c3b0] | (simp only [i64_w, i32_w]; rw [c3b0]) | skip); have H' := Aside0.mk H; clear H; go_wp2; go_meet
   case rel => exact ⟨_, (true), tZB, H', ⟨by first | omega | exact Nat.le_refl _⟩, tZD⟩
  rw [if_neg c3] at H; have c3b0 := decide_eq_false c3; have c3b1 : decide (a0.size < 1) = false := decide_eq_false (by omega); clear c3; (first | rw [c3b0] | (simp only [i64_w, i32_w]; rw [c3b0]) | skip); have H' := Aside0.mk H; clear H; go_wp2; go_meet
  case rel => exact ⟨_, (decide ((a0.size : Int) > 20)), tZB, H', ⟨by first | omega | exact Nat.le_refl _⟩, tZD⟩
 case rest =>
  clear HC2; obtain ⟨kq, x11_1, rfl, HA, HJ1, ⟨mc1, rfl⟩⟩ := hcut
  cases kq with
  | zero => exact absurd HA.out (by simp [impl_NameOk.j0])
  | succ kj1 =>
   have H := HA.out; clear HA; simp only [impl_NameOk.j0] at H
   by_cases c4 : x11_1 = true
   ·subst c4; rw [if_pos rfl] at H; obtain rfl := Option.some.inj H; go_wp2; go_ret; exact ⟨tZB, tZD⟩
   replace c4 := Bool.eq_false_iff.mpr c4; subst c4; rw [if_neg Bool.false_ne_true] at H; have H' := Aside0.mk H; clear H; go_wp2
   go_loopg [3] kj1 (fun kq v3 w' => ∃ (x3_2 : Int), v3 = .int .i64 x3_2 ∧ Aside0 (impl_NameOk.l0 kq a0 x3_2 = some r) ∧ Aside0 (kq ≤ kj1) ∧ Drawn0 w w')
   case atStart => exact ⟨(0), tZB, H', ⟨Nat.le_refl _⟩, tZD⟩
   case round =>
    clear H'; (try clear c4); obtain ⟨x3_2, rfl, HA, HK2, ⟨m2, rfl⟩⟩ := hrel
    cases gk with
    | zero => exact absurd HA.out (by simp [impl_NameOk.l0])
    | succ k2 =>
     have H := HA.out; clear HA; simp only [impl_NameOk.l0] at H
     by_cases c5 : x3_2 < (a0.size : Int)
     rotate_left
     ·rw [if_neg c5] at H; have c5b0 := decide_eq_false c5; clear c5; obtain rfl := Option.some.inj H; go_wp2; go_ret; exact ⟨tZB, tZD⟩
     rw [if_pos c5] at H; have c5b0 := decide_eq_true c5; clear c5
     by_cases c6 : 0 ≤ x3_2
     rotate_left
     ·rw [if_neg c6] at H; exact absurd H (by simp)
     rw [if_pos c6] at H; have c6b0 := decide_eq_true c6; clear c6; replace H := Option.bind_eq_some_iff.mp H; obtain ⟨t210, A80, H⟩ := H; replace H : (if t210 = true then (impl_NameOk.l0 k2 a0 (wrap64 (x3_2 + 1))) else (some false)) = some r := H; have A8 := Aside0.mk A80; clear A80
     by_cases c9 : t210 = true
     rotate_left
     ·replace c9 := Bool.eq_false_iff.mpr c9; subst c9; rw [if_neg Bool.false_ne_true] at H; obtain rfl := Option.some.inj H; have p7 : 0 ≤ (x3_2 : Int) := of_decide_eq_true tZE; have q7 : x3_2 < (a0.size : Int) := of_decide_eq_true tZE; have hx7 := bt_at a0 x3_2; replace p7 := eq_true p7; replace q7 := eq_true q7
      go_wp2_with (first | ((with_reducible refine gate_callee (f := 173) rfl ?_); refine goesL_ (some 21) rfl rfl Try.func173 kZ rfl #[.int .u8 (bt a0 x3_2)] rfl tZA ?_; (with_reducible refine (impl_nameByte.calls (bt a0 x3_2) false _ A8.out).mono ?_); rintro e w' ⟨rfl, ⟨nd, rfl⟩⟩; refine ⟨_, rfl, ?_⟩))
      go_ret; exact ⟨tZB, tZD⟩
     subst c9; rw [if_pos rfl] at H; have H' := Aside0.mk H; clear H; have p7 : 0 ≤ (x3_2 : Int) := of_decide_eq_true tZE; have q7 : x3_2 < (a0.size : Int) := of_decide_eq_true tZE; have hx7 := bt_at a0 x3_2; replace p7 := eq_true p7; replace q7 := eq_true q7
     go_wp2_with (first | ((with_reducible refine gate_callee (f := 173) rfl ?_); refine goesL_ (some 21) rfl rfl Try.func173 kZ rfl #[.int .u8 (bt a0 x3_2)] rfl tZA ?_; (with_reducible refine (impl_nameByte.calls (bt a0 x3_2) true _ A8.out).mono ?_); rintro e w' ⟨rfl, ⟨nd, rfl⟩⟩; refine ⟨_, rfl, ?_⟩))
     go_roundg k2
     case measure => have := HJ1.out; have := HK2.out; omega
     case rel => exact ⟨(wrap64 (x3_2 + 1)), tZB, H', ⟨by have := HJ1.out; have := HK2.out; omega⟩, tZD⟩
mutual
def impl_cutAt.l0 : Nat → ByteArray → ByteArray → List ByteArray → Int → Int → Int → ByteArray → Option (List ByteArray)
  | 0, _, _, _, _, _, _, _ => none
  | k + 1, x0, x1, x5, x6, x7, x215000, x215001 => if itp x215000 < (x215001.size : Int) then (if (itp x215000) < x7 then (impl_cutAt.j1 k x0 x1 x5 x6 x7 (itp x215000) true (itw x215001 x215000) x215001) else (impl_cutAt.j1 k x0 x1 x5 x6 x7 (itp x215000) (decide ((wrap64 ((x0.size : Int) - (itp x215000))) < (x1.size : Int))) (itw x215001 x215000) x215001)) else (if 0 ≤ x6 then (if x6 ≤ (x0.size : Int) then (if x5.length < 8796093022208 then (some (x5 ++ [x0.extract (x6 : Int).toNat x0.size])) else (none)) else (none)) else (none))
def impl_cutAt.j1 : Nat → ByteArray → ByteArray → List ByteArray → Int → Int → Int → Bool → Int → ByteArray → Option (List ByteArray)
  | 0, _, _, _, _, _, _, _, _, _ => none
  | k + 1, x0, x1, x5, x6, x7, x8, x26, x215000, x215001 => if x26 = true then (impl_cutAt.l0 k x0 x1 x5 x6 x7 x215000 x215001) else (if 0 ≤ x8 then (if x8 ≤ (wrap64 (x8 + (x1.size : Int))) then (if (wrap64 (x8 + (x1.size : Int))) ≤ (x0.size : Int) then (if (x0.extract (x8 : Int).toNat ((wrap64 (x8 + (x1.size : Int))) : Int).toNat).toList = x1.toList then (if 0 ≤ x6 then (if x6 ≤ x8 then (if x8 ≤ (x0.size : Int) then (if x5.length < 8796093022208 then (impl_cutAt.l0 k x0 x1 (x5 ++ [x0.extract (x6 : Int).toNat (x8 : Int).toNat]) (wrap64 (x8 + (x1.size : Int))) (wrap64 (x8 + (x1.size : Int))) x215000 x215001) else (none)) else (none)) else (none)) else (none)) else (impl_cutAt.l0 k x0 x1 x5 x6 x7 x215000 x215001)) else (none)) else (none)) else (none))
end
def impl_cutAt.f (k : Nat) (a0 : ByteArray) (a1 : ByteArray) : Option (List ByteArray) := impl_cutAt.l0 k a0 a1 (([] : List ByteArray)) 0 0 0 a0
theorem impl_cutAt.mono_l : ∀ k, (∀ y0 y1 y2 y3 y4 y5 y6, LeO (impl_cutAt.l0 k y0 y1 y2 y3 y4 y5 y6) (impl_cutAt.l0 (k + 1) y0 y1 y2 y3 y4 y5 y6)) ∧ (∀ y0 y1 y2 y3 y4 y5 y6 y7 y8, LeO (impl_cutAt.j1 k y0 y1 y2 y3 y4 y5 y6 y7 y8) (impl_cutAt.j1 (k + 1) y0 y1 y2 y3 y4 y5 y6 y7 y8))
  | 0 => ⟨fun _ _ _ _ _ _ _ r h => by simp [impl_cutAt.l0] at h, fun _ _ _ _ _ _ _ _ _ r h => by simp [impl_cutAt.j1] at h⟩
  | k + 1 => by
    obtain ⟨ih0, ih1⟩ := impl_cutAt.mono_l k
    refine ⟨?_, ?_⟩
    · intro y0 y1 y2 y3 y4 y5 y6
      unfold impl_cutAt.l0
      repeat' first
      | (with_reducible exact ih0 _ _ _ _ _ _ _)
      | (with_reducible exact ih1 _ _ _ _ _ _ _ _ _)
      | (with_reducible exact LeO.refl _)
      | (with_reducible exact LeO.none _)
      | (with_reducible refine LeO.ite ?_ ?_)
      | (with_reducible refine LeO.bind ?_ (fun _ => ?_))
      | exact ih0 _ _ _ _ _ _ _
      | exact ih1 _ _ _ _ _ _ _ _ _
      | exact LeO.none _
      | refine LeO.ite ?_ ?_
      | refine LeO.bind ?_ (fun _ => ?_)
    · intro y0 y1 y2 y3 y4 y5 y6 y7 y8
      unfold impl_cutAt.j1
      repeat' first
      | (with_reducible exact ih0 _ _ _ _ _ _ _)
      | (with_reducible exact ih1 _ _ _ _ _ _ _ _ _)
      | (with_reducible exact LeO.refl _)
      | (with_reducible exact LeO.none _)
      | (with_reducible refine LeO.ite ?_ ?_)
      | (with_reducible refine LeO.bind ?_ (fun _ => ?_))
      | exact ih0 _ _ _ _ _ _ _
      | exact ih1 _ _ _ _ _ _ _ _ _
      | exact LeO.none _
      | refine LeO.ite ?_ ?_
      | refine LeO.bind ?_ (fun _ => ?_)
theorem impl_cutAt.mono : ∀ a0 a1 k, LeO (impl_cutAt.f k a0 a1) (impl_cutAt.f (k + 1) a0 a1) := by
 intro a0 a1 k
 obtain ⟨ih0, ih1⟩ := impl_cutAt.mono_l k
 unfold impl_cutAt.f
 repeat' first
     | (with_reducible exact ih0 _ _ _ _ _ _ _)
     | (with_reducible exact ih1 _ _ _ _ _ _ _ _ _)
     | (with_reducible exact LeO.refl _)
     | (with_reducible exact LeO.none _)
     | (with_reducible refine LeO.ite ?_ ?_)
     | (with_reducible refine LeO.bind ?_ (fun _ => ?_))
     | exact ih0 _ _ _ _ _ _ _
     | exact ih1 _ _ _ _ _ _ _ _ _
     | exact LeO.none _
     | refine LeO.ite ?_ ?_
     | refine LeO.bind ?_ (fun _ => ?_)
set_option maxHeartbeats 8000000 in
set_option maxRecDepth 100000 in
theorem impl_cutAt.calls (k : Nat) (a0 : ByteArray) (a1 : ByteArray) (r : List ByteArray) (w : World) (h : impl_cutAt.f k a0 a1 = some r) :
    Calls Try.prog 159 #[.string a0, .string a1] w fun e w' => ∃ v0_ : Value, e = .returned (v0_) ∧ Kd.R Kd.string 9 w' w.heap.size (fun _ => True) v0_ r ∧ Below w.heap.size w w' := by
 have HB := aZ (Below.refl w.heap.size w); have H : (impl_cutAt.l0 k a0 a1 (([] : List ByteArray)) 0 0 0 a0) = some r := h; clear h; obtain ⟨y211, hy211⟩ : ∃ y_ : List ByteArray, y_ = (([] : List ByteArray)) := ⟨_, rfl⟩; replace H : (impl_cutAt.l0 k a0 a1 y211 0 0 0 a0) = some r := by first | (rw [hy211]; with_reducible exact H) | (have H2_ := (Option.bind_some _ _).symm.trans H; rw [hy211]; with_reducible exact H2_) | (have H2_ := (Option.bind_some _ _).symm.trans H; with_reducible exact H2_) | with_reducible exact H | (rw [hy211]; exact H) | exact H
 have Ny211 := Aside0.mk hy211; clear hy211; have H' := Aside0.mk H; clear H; go_enter Try.func159, Try.ntmps159
 go_wp2_with (first | ((with_reducible refine gate_dst (N := 9) rfl ?_); (try (refine gate_guard (by rfl) ?_; dsimp only)); refine Kd.R_lit Kd.string _ 9 ?hg (N := 9) ?hd (xs := ([] : List ByteArray)) (inner := []) (ok := fun _ => True) (okp := fun _ => True) ?hr ?hp (fun _ hk => hk) trivial (Below.refl _ _) (Nat.le_refl _) (by simp) ?_; (case hd => rfl); (case hg => rfl); (case hr => first | (go_simp; done) | (go_simp; rfl)); (case hp => exact (Reps.none _ _)); intro v212 w3 ho4 hb hg_ hnew_; clear hg_ hnew_; (first | rw [← Ny211.out] at ho4 | (simp only [Int.reduceToNat] at ho4; rw [← Ny211.out] at ho4)); have HO213 := aZ (Kd.R_lower ho4 (below_size (lZB HB.out))); replace HB := aZ (below_step (lZB HB.out) hb); clear hb ho4) | ((with_reducible refine gate_dst (N := 11) rfl ?_); (try (refine gate_guard (by rfl) ?_; dsimp only)); refine irange_event rfl (N := 11) rfl (.tmp 10) 9 rfl Try.underlying9 (s := a0) (by first | rfl | (go_simp; done) | (go_simp; rfl)) ?_; intro gb214 hg w5 hbox hb; replace HO213 := aZ (Kd.R_below (lZR HO213.out) hb); have BK214 := aZ (hbox); have GW214 := aZ ((by rw [hg]; exact (below_size (lZB HB.out)) : w.heap.size ≤ gb214)); have GE214 := GW214; replace HB := aZ (below_step (lZB HB.out) hb); clear hb hbox hg; (try simp only [Act.put, sZ1, sZ2, sZ3])))
 repeat (go_step3; go_wp2_with (first | ((with_reducible refine gate_dst (N := 9) rfl ?_); (try (refine gate_guard (by rfl) ?_; dsimp only)); refine Kd.R_lit Kd.string _ 9 ?hg (N := 9) ?hd (xs := ([] : List ByteArray)) (inner := []) (ok := fun _ => True) (okp := fun _ => True) ?hr ?hp (fun _ hk => hk) trivial (Below.refl _ _) (Nat.le_refl _) (by simp) ?_; (case hd => rfl); (case hg => rfl); (case hr => first | (go_simp; done) | (go_simp; rfl)); (case hp => exact (Reps.none _ _)); intro v212 w3 ho4 hb hg_ hnew_; clear hg_ hnew_; (first | rw [← Ny211.out] at ho4 | (simp only [Int.reduceToNat] at ho4; rw [← Ny211.out] at ho4)); have HO213 := aZ (Kd.R_lower ho4 (below_size (lZB HB.out))); replace HB := aZ (below_step (lZB HB.out) hb); clear hb ho4) | ((with_reducible refine gate_dst (N := 11) rfl ?_); (try (refine gate_guard (by rfl) ?_; dsimp only)); refine irange_event rfl (N := 11) rfl (.tmp 10) 9 rfl Try.underlying9 (s := a0) (by first | rfl | (go_simp; done) | (go_simp; rfl)) ?_; intro gb214 hg w5 hbox hb; replace HO213 := aZ (Kd.R_below (lZR HO213.out) hb); have BK214 := aZ (hbox); have GW214 := aZ ((by rw [hg]; exact (below_size (lZB HB.out)) : w.heap.size ≤ gb214)); have GE214 := GW214; replace HB := aZ (below_step (lZB HB.out) hb); clear hb hbox hg; (try simp only [Act.put, sZ1, sZ2, sZ3]))))
 (try simp only [Exit.noGoto_ret, Exit.noGoto_normal, Exit.noGoto_exit])
 go_loopg [5, 6, 7] k (fun kq v5 v6 v7 w' => ∃ (x5_1 : List ByteArray) (x6_1 : Int) (x7_1 : Int) (x215000_1 : Int), v6 = .int .i64 x6_1 ∧ v7 = .int .i64 x7_1 ∧ Aside0 (impl_cutAt.l0 kq a0 a1 x5_1 x6_1 x7_1 x215000_1 a0 = some r) ∧ Aside0 (kq ≤ k) ∧ Aside0 (Kd.R Kd.string 9 w' w.heap.size (fun _ => True) v5 x5_1) ∧ Aside0 (w'.heap[gb214]? = some (.stringIter a0 (itn x215000_1))) ∧ Aside0 (Below w.heap.size w w'))
 case atStart => exact ⟨(y211), (0), (0), (0), tZB, tZB, H', ⟨Nat.le_refl _⟩, ⟨lZR HO213.out⟩, ⟨bkZ BK214.out⟩, ⟨bZ⟩⟩
 case round =>
  clear H'; obtain ⟨x5_1, x6_1, x7_1, x215000_1, rfl, rfl, HA, HK1, HO_5, BK214, HB⟩ := hrel
  cases gk with
  | zero => exact absurd HA.out (by simp [impl_cutAt.l0])
  | succ k1 =>
   have H := HA.out; clear HA; simp only [impl_cutAt.l0] at H
   by_cases c6 : itp x215000_1 < (a0.size : Int)
   rotate_left
   ·rw [if_neg c6] at H; have c6b0 := decide_eq_false c6; clear c6
    by_cases c20 : 0 ≤ x6_1
    rotate_left
    ·rw [if_neg c20] at H; exact absurd H (by simp)
    rw [if_pos c20] at H; have c20b0 := eq_true c20; have c20b1 := decide_eq_true c20; clear c20
    by_cases c21 : x6_1 ≤ (a0.size : Int)
    rotate_left
    ·rw [if_neg c21] at H; exact absurd H (by simp)
    rw [if_pos c21] at H; have c21b0 := eq_true c21; have c21b1 := decide_eq_true c21; clear c21
    by_cases c22 : x5_1.length < 8796093022208
    rotate_left
    ·rw [if_neg c22] at H; exact absurd H (by simp)
    rw [if_pos c22] at H; have LMc22 := Aside0.mk c22; clear c22; obtain ⟨y218, hy218⟩ : ∃ y_ : List ByteArray, y_ = (x5_1 ++ [a0.extract (x6_1 : Int).toNat a0.size]) := ⟨_, rfl⟩; replace H : (some y218) = some r := by first | (rw [hy218]; with_reducible exact H) | (have H2_ := (Option.bind_some _ _).symm.trans H; rw [hy218]; with_reducible exact H2_) | (have H2_ := (Option.bind_some _ _).symm.trans H; with_reducible exact H2_) | with_reducible exact H | (rw [hy218]; exact H) | exact H
    have Ny218 := Aside0.mk hy218; clear hy218; obtain rfl := Option.some.inj H
    go_wp2_with (first | ((with_reducible refine gate_dst (N := 12) rfl ?_); (try (refine gate_guard (by rfl) ?_; dsimp only)); refine iend_event rfl (.tmp 11) rfl (by first | rfl | (go_simp; done) | (go_simp; rfl)) (bkZ BK214.out) (of_decide_eq_false tZE : ¬ (itp x215000_1 < (a0.size : Int))) ?_) | ((with_reducible refine gate_builtin (b := .append) (xs := #[.tmp 48, .tmp 52]) rfl ?_); (try (refine gate_guard (by rfl) ?_; dsimp only)); at_builtin; refine Kd.R_append Kd.string (w0 := w) w.heap.size rfl (.tmp 48) (.tmp 52) 64 9 (.string ⟨#[]⟩) 16 rfl Try.underlying64 info9 rfl (by decide) (by omega) u5 x5_1 (a0.extract (x6_1 : Int).toNat a0.size) [.string (a0.extract (x6_1 : Int).toNat a0.size)] (fun _ => True) (fun _ => False) rfl rfl ?aP (fun _ hk => hk.elim) ?aF ?aO ?aB ?aS ?aL ?_; (case aP => exact rfl); (case aB => exact bZ); (case aF => exact (fun _ _ => trivial)); (case aO => exact (lZR HO_5.out)); (case aS => exact (below_size bZ)); (case aL => have := LMc22.out; omega); intro v219 w23 ho hb hg hat; rw [← Ny218.out] at ho; replace BK214 := aZ (blk_grown (bkZ BK214.out) hg (Kd.R_neI HO_5.out BK214.out)); replace HB := aZ (hb); have HO220 := aZ (ho); clear HO_5; clear ho hb hg hat))
    repeat (go_step3; go_wp2_with (first | ((with_reducible refine gate_dst (N := 12) rfl ?_); (try (refine gate_guard (by rfl) ?_; dsimp only)); refine iend_event rfl (.tmp 11) rfl (by first | rfl | (go_simp; done) | (go_simp; rfl)) (bkZ BK214.out) (of_decide_eq_false tZE : ¬ (itp x215000_1 < (a0.size : Int))) ?_) | ((with_reducible refine gate_builtin (b := .append) (xs := #[.tmp 48, .tmp 52]) rfl ?_); (try (refine gate_guard (by rfl) ?_; dsimp only)); at_builtin; refine Kd.R_append Kd.string (w0 := w) w.heap.size rfl (.tmp 48) (.tmp 52) 64 9 (.string ⟨#[]⟩) 16 rfl Try.underlying64 info9 rfl (by decide) (by omega) u5 x5_1 (a0.extract (x6_1 : Int).toNat a0.size) [.string (a0.extract (x6_1 : Int).toNat a0.size)] (fun _ => True) (fun _ => False) rfl rfl ?aP (fun _ hk => hk.elim) ?aF ?aO ?aB ?aS ?aL ?_; (case aP => exact rfl); (case aB => exact bZ); (case aF => exact (fun _ _ => trivial)); (case aO => exact (lZR HO_5.out)); (case aS => exact (below_size bZ)); (case aL => have := LMc22.out; omega); intro v219 w23 ho hb hg hat; rw [← Ny218.out] at ho; replace BK214 := aZ (blk_grown (bkZ BK214.out) hg (Kd.R_neI HO_5.out BK214.out)); replace HB := aZ (hb); have HO220 := aZ (ho); clear HO_5; clear ho hb hg hat)))
    (try simp only [Exit.noGoto_ret, Exit.noGoto_normal, Exit.noGoto_exit]); go_ret; exact ⟨_, tZC, lZR HO220.out, bZ⟩
   rw [if_pos c6] at H; have c6b0 := decide_eq_true c6; clear c6; have HC7 := Aside0.mk H; clear H
   go_upto_region 7 with (first | ((with_reducible refine gate_dst (N := 12) rfl ?_); (try (refine gate_guard (by rfl) ?_; dsimp only)); refine inext_event rfl (.tmp 11) rfl (by first | rfl | (go_simp; done) | (go_simp; rfl)) (bkZ BK214.out) (of_decide_eq_true tZE : itp x215000_1 < (a0.size : Int)) ?_; intro w8 hbox hg; replace HO_5 := aZ (Kd.R_iter (lZR HO_5.out) (bkZ BK214.out) hg); replace BK214 := aZ (hbox); replace HB := aZ (below_iter bZ GE214.out hg); clear hbox hg))
   (try simp only [Act.put, sZ1, sZ2, sZ3])
   go_cut [26] (fun v26 wc => ∃ (kq : Nat) (x26_6 : Bool), v26 = .bool x26_6 ∧ Aside0 (impl_cutAt.j1 kq a0 a1 x5_1 x6_1 x7_1 (itp x215000_1) x26_6 (itw a0 x215000_1) a0 = some r) ∧ Aside0 (kq ≤ k1) ∧ Aside0 (Kd.R Kd.string 9 wc w.heap.size (fun _ => True) u5 x5_1) ∧ Aside0 (wc.heap[gb214]? = some (.stringIter a0 (itn (itw a0 x215000_1)))) ∧ Aside0 (Below w.heap.size w wc))
   case first =>
    have H := HC7.out; clear HC7
    by_cases c9 : (itp x215000_1) < x7_1
    ·rw [if_pos c9] at H; have c9b0 := decide_eq_true c9; clear c9; (first | rw [c9b0] | (simp only [i64_w, i32_w]; rw [c9b0]) | skip); have H' := Aside0.mk H; clear H; go_wp2
     repeat (go_step3; go_wp2)
     (try simp only [Exit.noGoto_ret, Exit.noGoto_normal, Exit.noGoto_exit]); go_meet
     case rel => exact ⟨_, (true), tZB, H', ⟨by have := HK1.out; first | omega | exact Nat.le_refl _⟩, ⟨lZR HO_5.out⟩, ⟨bkZ BK214.out⟩, ⟨bZ⟩⟩
    rw [if_neg c9] at H; have c9b0 := decide_eq_false c9; clear c9; (first | rw [c9b0] | (simp only [i64_w, i32_w]; rw [c9b0]) | skip); have H' := Aside0.mk H; clear H; go_wp2
    repeat (go_step3; go_wp2)
    (try simp only [Exit.noGoto_ret, Exit.noGoto_normal, Exit.noGoto_exit]); go_meet
    case rel => exact ⟨_, (decide ((wrap64 ((a0.size : Int) - (itp x215000_1))) < (a1.size : Int))), tZB, H', ⟨by have := HK1.out; first | omega | exact Nat.le_refl _⟩, ⟨lZR HO_5.out⟩, ⟨bkZ BK214.out⟩, ⟨bZ⟩⟩
   case rest =>
    clear HC7; (try clear c6 c6b0); obtain ⟨kq, x26_6, rfl, HA, HJ6, HO_5, BK214, HB⟩ := hcut
    cases kq with
    | zero => exact absurd HA.out (by simp [impl_cutAt.j1])
    | succ kj6 =>
     have H := HA.out; clear HA; simp only [impl_cutAt.j1] at H
     by_cases c10 : x26_6 = true
     ·subst c10; rw [if_pos rfl] at H; have H' := Aside0.mk H; clear H; go_wp2
      repeat (go_step3; go_wp2)
      (try simp only [Exit.noGoto_ret, Exit.noGoto_normal, Exit.noGoto_exit])
      go_roundg kj6
      case measure => have := HK1.out; have := HJ6.out; omega
      case rel => exact ⟨(x5_1), (x6_1), (x7_1), ((itw a0 x215000_1)), tZB, tZB, H', ⟨by have := HK1.out; have := HJ6.out; omega⟩, ⟨lZR HO_5.out⟩, ⟨bkZ BK214.out⟩, ⟨bZ⟩⟩
     replace c10 := Bool.eq_false_iff.mpr c10; subst c10; rw [if_neg Bool.false_ne_true] at H
     by_cases c11 : 0 ≤ (itp x215000_1)
     rotate_left
     ·rw [if_neg c11] at H; exact absurd H (by simp)
     rw [if_pos c11] at H; have c11b0 := eq_true c11; have c11b1 := decide_eq_true c11; clear c11
     by_cases c12 : (itp x215000_1) ≤ (wrap64 ((itp x215000_1) + (a1.size : Int)))
     rotate_left
     ·rw [if_neg c12] at H; exact absurd H (by simp)
     rw [if_pos c12] at H; have c12b0 := eq_true c12; have c12b1 := decide_eq_true c12
     by_cases c13 : (wrap64 ((itp x215000_1) + (a1.size : Int))) ≤ (a0.size : Int)
     rotate_left
     ·rw [if_neg c13] at H; exact absurd H (by simp)
     rw [if_pos c13] at H; have c13b0 := eq_true c13; have c13b1 := decide_eq_true c13
     by_cases c14 : (a0.extract ((itp x215000_1) : Int).toNat ((wrap64 ((itp x215000_1) + (a1.size : Int))) : Int).toNat).toList = a1.toList
     rotate_left
     ·rw [if_neg c14] at H; have c14b0 : ((a0.extract ((itp x215000_1) : Int).toNat ((wrap64 ((itp x215000_1) + (a1.size : Int))) : Int).toNat).toList == a1.toList) = false := beq_eq_false_iff_ne.mpr c14; have c14b1 : ((a0.extract ((itp x215000_1) : Int).toNat ((wrap64 ((itp x215000_1) + (a1.size : Int))) : Int).toNat).toList != a1.toList) = true := bne_iff_ne.mpr c14; have H' := Aside0.mk H; clear H; go_wp2
      repeat (go_step3; go_wp2)
      (try simp only [Exit.noGoto_ret, Exit.noGoto_normal, Exit.noGoto_exit])
      go_roundg kj6
      case measure => have := HK1.out; have := HJ6.out; omega
      case rel => exact ⟨(x5_1), (x6_1), (x7_1), ((itw a0 x215000_1)), tZB, tZB, H', ⟨by have := HK1.out; have := HJ6.out; omega⟩, ⟨lZR HO_5.out⟩, ⟨bkZ BK214.out⟩, ⟨bZ⟩⟩
     rw [if_pos c14] at H; have c14b0 : ((a0.extract ((itp x215000_1) : Int).toNat ((wrap64 ((itp x215000_1) + (a1.size : Int))) : Int).toNat).toList == a1.toList) = true := beq_iff_eq.mpr c14; have c14b1 : ((a0.extract ((itp x215000_1) : Int).toNat ((wrap64 ((itp x215000_1) + (a1.size : Int))) : Int).toNat).toList != a1.toList) = false := bne_eq_false_iff_eq.mpr c14; clear c14
     by_cases c15 : 0 ≤ x6_1
     rotate_left
     ·rw [if_neg c15] at H; exact absurd H (by simp)
     rw [if_pos c15] at H; have c15b0 := eq_true c15; have c15b1 := decide_eq_true c15; clear c15
     by_cases c16 : x6_1 ≤ (itp x215000_1)
     rotate_left
     ·rw [if_neg c16] at H; exact absurd H (by simp)
     rw [if_pos c16] at H; have c16b0 := eq_true c16; have c16b1 := decide_eq_true c16; clear c16
     by_cases c17 : (itp x215000_1) ≤ (a0.size : Int)
     rotate_left
     ·rw [if_neg c17] at H; exact absurd H (by simp)
     rw [if_pos c17] at H; have c17b0 := eq_true c17; have c17b1 := decide_eq_true c17; clear c17
     by_cases c18 : x5_1.length < 8796093022208
     rotate_left
     ·rw [if_neg c18] at H; exact absurd H (by simp)
     rw [if_pos c18] at H; have LMc18 := Aside0.mk c18; clear c18; obtain ⟨y215, hy215⟩ : ∃ y_ : List ByteArray, y_ = (x5_1 ++ [a0.extract (x6_1 : Int).toNat ((itp x215000_1) : Int).toNat]) := ⟨_, rfl⟩; replace H : (impl_cutAt.l0 kj6 a0 a1 y215 (wrap64 ((itp x215000_1) + (a1.size : Int))) (wrap64 ((itp x215000_1) + (a1.size : Int))) (itw a0 x215000_1) a0) = some r := by first | (rw [hy215]; with_reducible exact H) | (have H2_ := (Option.bind_some _ _).symm.trans H; rw [hy215]; with_reducible exact H2_) | (have H2_ := (Option.bind_some _ _).symm.trans H; with_reducible exact H2_) | with_reducible exact H | (rw [hy215]; exact H) | exact H
     have Ny215 := Aside0.mk hy215; clear hy215; have H' := Aside0.mk H; clear H
     go_wp2_with (first | ((with_reducible refine gate_builtin (b := .append) (xs := #[.tmp 36, .tmp 41]) rfl ?_); (try (refine gate_guard (by rfl) ?_; dsimp only)); at_builtin; refine Kd.R_append Kd.string (w0 := w) w.heap.size rfl (.tmp 36) (.tmp 41) 64 9 (.string ⟨#[]⟩) 16 rfl Try.underlying64 info9 rfl (by decide) (by omega) u5 x5_1 (a0.extract (x6_1 : Int).toNat ((itp x215000_1) : Int).toNat) [.string (a0.extract (x6_1 : Int).toNat ((itp x215000_1) : Int).toNat)] (fun _ => True) (fun _ => False) rfl rfl ?aP (fun _ hk => hk.elim) ?aF ?aO ?aB ?aS ?aL ?_; (case aP => exact rfl); (case aB => exact bZ); (case aF => exact (fun _ _ => trivial)); (case aO => exact (lZR HO_5.out)); (case aS => exact (below_size bZ)); (case aL => have := LMc18.out; omega); intro v216 w19 ho hb hg hat; rw [← Ny215.out] at ho; replace BK214 := aZ (blk_grown (bkZ BK214.out) hg (Kd.R_neI HO_5.out BK214.out)); replace HB := aZ (hb); have HO217 := aZ (ho); clear HO_5; clear ho hb hg hat))
     repeat (go_step3; go_wp2_with (first | ((with_reducible refine gate_builtin (b := .append) (xs := #[.tmp 36, .tmp 41]) rfl ?_); (try (refine gate_guard (by rfl) ?_; dsimp only)); at_builtin; refine Kd.R_append Kd.string (w0 := w) w.heap.size rfl (.tmp 36) (.tmp 41) 64 9 (.string ⟨#[]⟩) 16 rfl Try.underlying64 info9 rfl (by decide) (by omega) u5 x5_1 (a0.extract (x6_1 : Int).toNat ((itp x215000_1) : Int).toNat) [.string (a0.extract (x6_1 : Int).toNat ((itp x215000_1) : Int).toNat)] (fun _ => True) (fun _ => False) rfl rfl ?aP (fun _ hk => hk.elim) ?aF ?aO ?aB ?aS ?aL ?_; (case aP => exact rfl); (case aB => exact bZ); (case aF => exact (fun _ _ => trivial)); (case aO => exact (lZR HO_5.out)); (case aS => exact (below_size bZ)); (case aL => have := LMc18.out; omega); intro v216 w19 ho hb hg hat; rw [← Ny215.out] at ho; replace BK214 := aZ (blk_grown (bkZ BK214.out) hg (Kd.R_neI HO_5.out BK214.out)); replace HB := aZ (hb); have HO217 := aZ (ho); clear HO_5; clear ho hb hg hat)))
     (try simp only [Exit.noGoto_ret, Exit.noGoto_normal, Exit.noGoto_exit])
     go_roundg kj6
     case measure => have := HK1.out; have := HJ6.out; omega
     case rel => exact ⟨(y215), (wrap64 ((itp x215000_1) + (a1.size : Int))), (wrap64 ((itp x215000_1) + (a1.size : Int))), ((itw a0 x215000_1)), tZB, tZB, H', ⟨by have := HK1.out; have := HJ6.out; omega⟩, ⟨lZR HO217.out⟩, ⟨bkZ BK214.out⟩, ⟨bZ⟩⟩
end Go.Proofs.Ytjnmfadnkbflfaa.PFnExactParseFlow
