import Derived.Test.YtadehdkmggpehaaUPFnMutualWholex0
import Derived.Test.YtadehdkmggpehaaUPFnMutualWholex1
import Derived.Test.YtadehdkmggpehaaUSlimWords
namespace Go.Proofs.Ytadehdkmggpehaa.PFnMutualWhole
open Go.Proofs.Ytadehdkmggpehaa.SlimWords
open Go.RowKit Go.Proofs.YtadehdkmggpehaaW.PrintWords Go.Proofs.YtadehdkmggpehaaW.PrintLast Go.Proofs.YtadehdkmggpehaaW.PrintMore Go.Proofs.Ytadehdkmggpehaa.MapWords Go.Proofs.Ytadehdkmggpehaa.IterWords Go.Proofs.Ytadehdkmggpehaa.MarkWords Go.Proofs.Ytadehdkmggpehaa.ArrWords
attribute [local go_sem] ptrOf_slice max2_int min2_int max_two min_two max_three min_three max_four min_four
set_option linter.unusedVariables false
set_option linter.unusedSimpArgs false
private abbrev I' := true
private abbrev O' := false
private abbrev L0' : Array Bool := #[O',O',O',O',O',O',O',O',O',O',O',O',O',O']
private abbrev L1' : Array Bool := #[I',O',O',O',O',O',O',O',O',O',O',O',O',O']
private abbrev L2' : Array Bool := #[I',I',O',O',O',O',O',O',O',O',O',O',O',O']
private abbrev L3' : Array Bool := #[I',I',I',O',O',O',O',O',O',O',O',O',O',O']
private abbrev L4' : Array Bool := #[I',I',I',I',O',O',O',O',O',O',O',O',O',O']
private abbrev L5' : Array Bool := #[I',I',I',I',O',I',O',O',O',O',O',O',O',O']
private abbrev L6' : Array Bool := #[I',I',I',I',O',I',O',O',O',I',O',O',O',O']
private abbrev L7' : Array Bool := #[I',I',I',I',I',I',O',O',O',I',O',O',O',O']
private abbrev L8' : Array Bool := #[I',I',I',I',I',I',I',O',O',I',O',O',O',O']
private abbrev L9' : Array Bool := #[I',I',I',I',I',I',I',I',O',I',O',O',O',O']
private abbrev L10' : Array Bool := #[I',I',I',I',I',I',I',I',I',I',O',O',O',O']
private abbrev L11' : Array Bool := #[I',I',I',I',I',I',I',I',I',I',I',O',O',O']
private abbrev L12' : Array Bool := #[I',I',I',I',I',I',I',I',I',I',I',I',O',O']
private abbrev L13' : Array Bool := #[I',I',I',I',I',I',I',I',I',I',I',I',I',O']
private abbrev L14' : Array Bool := #[I',I',I',I',I',I',I',I',I',I',I',I',I',I']
mutual
def spec_l7Shares.j0 : Nat → Int → Int → List (List Int) → Bool → Option (Bool)
  | 0, _, _, _, _ => none
  | k + 1, x0, x1, x2, x23 => if x23 = true then (some false) else (spec_l7Shares.l0 k x0 x1 x2 0)
def spec_l7Shares.l0 : Nat → Int → Int → List (List Int) → Int → Option (Bool)
  | 0, _, _, _, _ => none
  | k + 1, x0, x1, x2, x7 => if x7 < x1 then (if 0 ≤ x7 then (if x7 < (x2.length : Int) then (if ((rd_L2 x2 x7).length : Int) = x0 then (spec_l7Shares.l1 k x0 x1 x2 x7 0 0) else (some false)) else (none)) else (none)) else (some true)
def spec_l7Shares.l1 : Nat → Int → Int → List (List Int) → Int → Int → Int → Option (Bool)
  | 0, _, _, _, _, _, _ => none
  | k + 1, x0, x1, x2, x7, x8, x9 => if x9 < x0 then (if 0 ≤ x7 then (if x7 < (x2.length : Int) then (if 0 ≤ x9 then (if x9 < ((rd_L2 x2 x7).length : Int) then ((spec_l1In.f (rd (rd_L2 x2 x7) x9) 0 100).bind fun t459 => (if t459 = true then (spec_l7Shares.l1 k x0 x1 x2 x7 (wrap64 (x8 + (rd (rd_L2 x2 x7) x9))) (wrap64 (x9 + 1))) else (some false))) else (none)) else (none)) else (none)) else (none)) else (if x8 = 100 then (if 0 ≤ x7 then (if x7 < (x2.length : Int) then (if x7 < ((rd_L2 x2 x7).length : Int) then (if (rd (rd_L2 x2 x7) x7) = 0 then (spec_l7Shares.l0 k x0 x1 x2 (wrap64 (x7 + 1))) else (some false)) else (none)) else (none)) else (none)) else (some false))
end
def spec_l7Shares.f (k : Nat) (a0 : Int) (a1 : Int) (l2 : List (List Int)) : Option (Bool) := (spec_l1In.f a1 1 3).bind fun t455 => (if t455 = true then (if a1 ≥ a0 then (spec_l7Shares.j0 k a0 a1 l2 true) else (spec_l7Shares.j0 k a0 a1 l2 ((l2.length : Int) != a1))) else (spec_l7Shares.j0 k a0 a1 l2 true))
theorem spec_l7Shares.mono_l : ∀ k, (∀ y0 y1 y2 y3, LeO (spec_l7Shares.j0 k y0 y1 y2 y3) (spec_l7Shares.j0 (k + 1) y0 y1 y2 y3)) ∧ (∀ y0 y1 y2 y3, LeO (spec_l7Shares.l0 k y0 y1 y2 y3) (spec_l7Shares.l0 (k + 1) y0 y1 y2 y3)) ∧ (∀ y0 y1 y2 y3 y4 y5, LeO (spec_l7Shares.l1 k y0 y1 y2 y3 y4 y5) (spec_l7Shares.l1 (k + 1) y0 y1 y2 y3 y4 y5))
  | 0 => ⟨fun _ _ _ _ r h => by simp [spec_l7Shares.j0] at h, fun _ _ _ _ r h => by simp [spec_l7Shares.l0] at h, fun _ _ _ _ _ _ r h => by simp [spec_l7Shares.l1] at h⟩
  | k + 1 => by
    obtain ⟨ih0, ih1, ih2⟩ := spec_l7Shares.mono_l k
    refine ⟨?_, ?_, ?_⟩
    · intro y0 y1 y2 y3
      unfold spec_l7Shares.j0
      repeat' first
      | (with_reducible exact ih0 _ _ _ _)
      | (with_reducible exact ih1 _ _ _ _)
      | (with_reducible exact ih2 _ _ _ _ _ _)
      | (with_reducible exact LeO.refl _)
      | (with_reducible exact LeO.none _)
      | (with_reducible refine LeO.ite ?_ ?_)
      | (with_reducible refine LeO.bind ?_ (fun _ => ?_))
      | exact ih0 _ _ _ _
      | exact ih1 _ _ _ _
      | exact ih2 _ _ _ _ _ _
      | exact LeO.none _
      | refine LeO.ite ?_ ?_
      | refine LeO.bind ?_ (fun _ => ?_)
    · intro y0 y1 y2 y3
      unfold spec_l7Shares.l0
      repeat' first
      | (with_reducible exact ih0 _ _ _ _)
      | (with_reducible exact ih1 _ _ _ _)
      | (with_reducible exact ih2 _ _ _ _ _ _)
      | (with_reducible exact LeO.refl _)
      | (with_reducible exact LeO.none _)
      | (with_reducible refine LeO.ite ?_ ?_)
      | (with_reducible refine LeO.bind ?_ (fun _ => ?_))
      | exact ih0 _ _ _ _
      | exact ih1 _ _ _ _
      | exact ih2 _ _ _ _ _ _
      | exact LeO.none _
      | refine LeO.ite ?_ ?_
      | refine LeO.bind ?_ (fun _ => ?_)
    · intro y0 y1 y2 y3 y4 y5
      unfold spec_l7Shares.l1
      repeat' first
      | (with_reducible exact ih0 _ _ _ _)
      | (with_reducible exact ih1 _ _ _ _)
      | (with_reducible exact ih2 _ _ _ _ _ _)
      | (with_reducible exact LeO.refl _)
      | (with_reducible exact LeO.none _)
      | (with_reducible refine LeO.ite ?_ ?_)
      | (with_reducible refine LeO.bind ?_ (fun _ => ?_))
      | exact ih0 _ _ _ _
      | exact ih1 _ _ _ _
      | exact ih2 _ _ _ _ _ _
      | exact LeO.none _
      | refine LeO.ite ?_ ?_
      | refine LeO.bind ?_ (fun _ => ?_)
theorem spec_l7Shares.mono : ∀ a0 a1 a2 k, LeO (spec_l7Shares.f k a0 a1 a2) (spec_l7Shares.f (k + 1) a0 a1 a2) := by
 intro a0 a1 a2 k
 obtain ⟨ih0, ih1, ih2⟩ := spec_l7Shares.mono_l k
 unfold spec_l7Shares.f
 repeat' first
     | (with_reducible exact ih0 _ _ _ _)
     | (with_reducible exact ih1 _ _ _ _)
     | (with_reducible exact ih2 _ _ _ _ _ _)
     | (with_reducible exact LeO.refl _)
     | (with_reducible exact LeO.none _)
     | (with_reducible refine LeO.ite ?_ ?_)
     | (with_reducible refine LeO.bind ?_ (fun _ => ?_))
     | exact ih0 _ _ _ _
     | exact ih1 _ _ _ _
     | exact ih2 _ _ _ _ _ _
     | exact LeO.none _
     | refine LeO.ite ?_ ?_
     | refine LeO.bind ?_ (fun _ => ?_)
set_option maxHeartbeats 8000000 in
set_option maxRecDepth 100000 in
theorem spec_l7Shares.calls (k : Nat) (a0 : Int) (a1 : Int) (A2 : Option Addr) (c2 : Nat) (l2 : List (List Int)) (r : Bool) (w : World) (hr2 : Kd.C (Kd.slice 3 (Kd.int .i64)) w A2 l2.length l2) (hc2 : l2.length ≤ c2) (h : spec_l7Shares.f k a0 a1 l2 = some r) :
    Calls Try.prog 55 #[.int .i64 a0, .int .i64 a1, .slice A2 l2.length c2] w fun e w' => e = .returned (.bool r) ∧ Drawn0 w w' := by
 have HR2 := Aside0.mk hr2; have HC2 := Aside0.mk hc2; clear hr2 hc2; have H : ((spec_l1In.f a1 1 3).bind fun t455 => (if t455 = true then (if a1 ≥ a0 then (spec_l7Shares.j0 k a0 a1 l2 true) else (spec_l7Shares.j0 k a0 a1 l2 ((l2.length : Int) != a1))) else (spec_l7Shares.j0 k a0 a1 l2 true))) = some r := h; clear h; have HC4 := Aside0.mk H; clear H; go_enter Try.func55, Try.ntmps55
 go_upto_region 1 with (fail)
 go_cut [23] (fun v23 wc => ∃ (kq : Nat) (x23_3 : Bool), v23 = .bool x23_3 ∧ Aside0 (spec_l7Shares.j0 kq a0 a1 l2 x23_3 = some r) ∧ Aside0 (kq ≤ k) ∧ Drawn0 w wc)
 case first =>
  have H := HC4.out; clear HC4; replace H := Option.bind_eq_some_iff.mp H; obtain ⟨t455, A50, H⟩ := H; replace H : (if t455 = true then (if a1 ≥ a0 then (spec_l7Shares.j0 k a0 a1 l2 true) else (spec_l7Shares.j0 k a0 a1 l2 ((l2.length : Int) != a1))) else (spec_l7Shares.j0 k a0 a1 l2 true)) = some r := H; have A5 := Aside0.mk A50; clear A50
  by_cases c6 : t455 = true
  rotate_left
  ·replace c6 := Bool.eq_false_iff.mpr c6; subst c6; rw [if_neg Bool.false_ne_true] at H; have H' := Aside0.mk H; clear H
   go_wp2_with (first | ((with_reducible refine gate_callee (f := 32) rfl ?_); refine goesL_ (some 11) rfl rfl Try.func32 kZ rfl #[.int .i64 a1, .int .i64 1, .int .i64 3] rfl tZA ?_; (with_reducible refine (spec_l1In.calls a1 1 3 false _ A5.out).mono ?_); rintro e w' ⟨rfl, ⟨nd, rfl⟩⟩; refine ⟨_, rfl, ?_⟩))
   go_meet
   case rel => exact ⟨_, (true), tZB, H', ⟨by first | omega | exact Nat.le_refl _⟩, tZD⟩
  subst c6; rw [if_pos rfl] at H
  by_cases c7 : a1 ≥ a0
  ·rw [if_pos c7] at H; have c7b0 : decide (a0 ≤ a1) = true := decide_eq_true c7; clear c7; (first | rw [c7b0] | (simp only [i64_w, i32_w]; rw [c7b0]) | skip); have H' := Aside0.mk H; clear H
   go_wp2_with (first | ((with_reducible refine gate_callee (f := 32) rfl ?_); refine goesL_ (some 11) rfl rfl Try.func32 kZ rfl #[.int .i64 a1, .int .i64 1, .int .i64 3] rfl tZA ?_; (with_reducible refine (spec_l1In.calls a1 1 3 true _ A5.out).mono ?_); rintro e w' ⟨rfl, ⟨nd, rfl⟩⟩; refine ⟨_, rfl, ?_⟩))
   go_meet
   case rel => exact ⟨_, (true), tZB, H', ⟨by first | omega | exact Nat.le_refl _⟩, tZD⟩
  rw [if_neg c7] at H; have c7b0 : decide (a0 ≤ a1) = false := decide_eq_false c7; clear c7; (first | rw [c7b0] | (simp only [i64_w, i32_w]; rw [c7b0]) | skip); have H' := Aside0.mk H; clear H
  go_wp2_with (first | ((with_reducible refine gate_callee (f := 32) rfl ?_); refine goesL_ (some 11) rfl rfl Try.func32 kZ rfl #[.int .i64 a1, .int .i64 1, .int .i64 3] rfl tZA ?_; (with_reducible refine (spec_l1In.calls a1 1 3 true _ A5.out).mono ?_); rintro e w' ⟨rfl, ⟨nd, rfl⟩⟩; refine ⟨_, rfl, ?_⟩))
  go_meet
  case rel => exact ⟨_, (((l2.length : Int) != a1)), tZB, H', ⟨by first | omega | exact Nat.le_refl _⟩, tZD⟩
 case rest =>
  clear HC4; obtain ⟨kq, x23_3, rfl, HA, HJ3, ⟨mc3, rfl⟩⟩ := hcut
  cases kq with
  | zero => exact absurd HA.out (by simp [spec_l7Shares.j0])
  | succ kj3 =>
   have H := HA.out; clear HA; simp only [spec_l7Shares.j0] at H
   by_cases c8 : x23_3 = true
   ·subst c8; rw [if_pos rfl] at H; obtain rfl := Option.some.inj H; go_wp2; go_ret; exact ⟨tZB, tZD⟩
   replace c8 := Bool.eq_false_iff.mpr c8; subst c8; rw [if_neg Bool.false_ne_true] at H; have H' := Aside0.mk H; clear H; go_wp2
   go_loopg [7] kj3 (fun kq v7 w' => ∃ (x7_2 : Int), v7 = .int .i64 x7_2 ∧ Aside0 (spec_l7Shares.l0 kq a0 a1 l2 x7_2 = some r) ∧ Aside0 (kq ≤ kj3) ∧ Drawn0 w w')
   case atStart => exact ⟨(0), tZB, H', ⟨Nat.le_refl _⟩, tZD⟩
   case round =>
    clear H'; obtain ⟨x7_2, rfl, HA, HK2, ⟨m2, rfl⟩⟩ := hrel
    cases gk with
    | zero => exact absurd HA.out (by simp [spec_l7Shares.l0])
    | succ k2 =>
     have H := HA.out; clear HA; simp only [spec_l7Shares.l0] at H
     by_cases c9 : x7_2 < a1
     rotate_left
     ·rw [if_neg c9] at H; have c9b0 := decide_eq_false c9; clear c9; obtain rfl := Option.some.inj H; go_wp2; go_ret; exact ⟨tZB, tZD⟩
     rw [if_pos c9] at H; have c9b0 := decide_eq_true c9; clear c9
     by_cases c10 : 0 ≤ x7_2
     rotate_left
     ·rw [if_neg c10] at H; exact absurd H (by simp)
     rw [if_pos c10] at H; have c10b0 := decide_eq_true c10; clear c10
     by_cases c11 : x7_2 < (l2.length : Int)
     rotate_left
     ·rw [if_neg c11] at H; exact absurd H (by simp)
     rw [if_pos c11] at H; have c11b0 := decide_eq_true c11; clear c11
     by_cases c12 : ((rd_L2 l2 x7_2).length : Int) = a0
     rotate_left
     ·rw [if_neg c12] at H; have c12b0 : (((rd_L2 l2 x7_2).length : Int) == a0) = false := beq_eq_false_iff_ne.mpr c12; have c12b1 : (((rd_L2 l2 x7_2).length : Int) != a0) = true := bne_iff_ne.mpr c12; obtain rfl := Option.some.inj H; have p456 : 0 ≤ (x7_2 : Int) := of_decide_eq_true tZE; have q456 : x7_2 < (l2.length : Int) := of_decide_eq_true tZE; obtain ⟨ad456, A456_0, c456_0, e456, hx456_0, hl456_0, hi456_0⟩ := at_L2 HR2.out x7_2 p456 q456
      cases e456
      have HR456_0 := Aside0.mk hi456_0; have HC456_0 := Aside0.mk hl456_0; clear hi456_0 hl456_0; replace p456 := eq_true p456; replace q456 := eq_true q456; go_wp2; go_ret; exact ⟨tZB, tZD⟩
     rw [if_pos c12] at H; have c12b0 : (((rd_L2 l2 x7_2).length : Int) == a0) = true := beq_iff_eq.mpr c12; have c12b1 : (((rd_L2 l2 x7_2).length : Int) != a0) = false := bne_eq_false_iff_eq.mpr c12; clear c12; have H' := Aside0.mk H; clear H; have p456 : 0 ≤ (x7_2 : Int) := of_decide_eq_true tZE; have q456 : x7_2 < (l2.length : Int) := of_decide_eq_true tZE; obtain ⟨ad456, A456_0, c456_0, e456, hx456_0, hl456_0, hi456_0⟩ := at_L2 HR2.out x7_2 p456 q456
     cases e456
     have HR456_0 := Aside0.mk hi456_0; have HC456_0 := Aside0.mk hl456_0; clear hi456_0 hl456_0; replace p456 := eq_true p456; replace q456 := eq_true q456; go_wp2
     go_loopg [8, 9] k2 (fun kq v8 v9 w' => ∃ (x8_3 : Int) (x9_3 : Int), v8 = .int .i64 x8_3 ∧ v9 = .int .i64 x9_3 ∧ Aside0 (spec_l7Shares.l1 kq a0 a1 l2 x7_2 x8_3 x9_3 = some r) ∧ Aside0 (kq ≤ k2) ∧ Drawn0 w w')
     case atStart => exact ⟨(0), (0), tZB, tZB, H', ⟨Nat.le_refl _⟩, tZD⟩
     case round =>
      clear H'; (try clear c9b0 c10b0 c11b0 c12b0 c12b1 hx456_0 p456 q456); obtain ⟨x8_3, x9_3, rfl, rfl, HA, HK3, ⟨m3, rfl⟩⟩ := hrel
      cases gk with
      | zero => exact absurd HA.out (by simp [spec_l7Shares.l1])
      | succ k3 =>
       have H := HA.out; clear HA; simp only [spec_l7Shares.l1] at H
       by_cases c13 : x9_3 < a0
       rotate_left
       ·rw [if_neg c13] at H; have c13b0 := decide_eq_false c13; clear c13
        by_cases c20 : x8_3 = 100
        rotate_left
        ·rw [if_neg c20] at H; have c20b0 : (x8_3 == 100) = false := beq_eq_false_iff_ne.mpr c20; have c20b1 : (x8_3 != 100) = true := bne_iff_ne.mpr c20; obtain rfl := Option.some.inj H; go_wp2; go_ret; exact ⟨tZB, tZD⟩
        rw [if_pos c20] at H; have c20b0 : (x8_3 == 100) = true := beq_iff_eq.mpr c20; have c20b1 : (x8_3 != 100) = false := bne_eq_false_iff_eq.mpr c20; clear c20
        by_cases c21 : 0 ≤ x7_2
        rotate_left
        ·rw [if_neg c21] at H; exact absurd H (by simp)
        rw [if_pos c21] at H; have c21b0 := decide_eq_true c21; clear c21
        by_cases c22 : x7_2 < (l2.length : Int)
        rotate_left
        ·rw [if_neg c22] at H; exact absurd H (by simp)
        rw [if_pos c22] at H; have c22b0 := decide_eq_true c22; clear c22
        by_cases c23 : x7_2 < ((rd_L2 l2 x7_2).length : Int)
        rotate_left
        ·rw [if_neg c23] at H; exact absurd H (by simp)
        rw [if_pos c23] at H; have c23b0 := decide_eq_true c23; clear c23
        by_cases c24 : (rd (rd_L2 l2 x7_2) x7_2) = 0
        rotate_left
        ·rw [if_neg c24] at H; have c24b0 : ((rd (rd_L2 l2 x7_2) x7_2) == 0) = false := beq_eq_false_iff_ne.mpr c24; have c24b1 : ((rd (rd_L2 l2 x7_2) x7_2) != 0) = true := bne_iff_ne.mpr c24; obtain rfl := Option.some.inj H; have p462 : 0 ≤ (x7_2 : Int) := of_decide_eq_true tZE; have q462 : x7_2 < (l2.length : Int) := of_decide_eq_true tZE; obtain ⟨ad462, A462_0, c462_0, e462, hx462_0, hl462_0, hi462_0⟩ := at_L2 HR2.out x7_2 p462 q462; obtain rfl : ad456 = ad462 := (by injection e462); have HR462_0 := Aside0.mk hi462_0; have HC462_0 := Aside0.mk hl462_0; clear hi462_0 hl462_0; replace p462 := eq_true p462; replace q462 := eq_true q462; have p463 : 0 ≤ (x7_2 : Int) := of_decide_eq_true tZE; have q463 : x7_2 < ((rd_L2 l2 x7_2).length : Int) := of_decide_eq_true tZE; obtain ⟨ad463, e463, hx463_0⟩ := Kd.at_int HR462_0.out x7_2 p463 q463
         cases e463
         replace p463 := eq_true p463; replace q463 := eq_true q463; go_wp2; go_ret; exact ⟨tZB, tZD⟩
        rw [if_pos c24] at H; have c24b0 : ((rd (rd_L2 l2 x7_2) x7_2) == 0) = true := beq_iff_eq.mpr c24; have c24b1 : ((rd (rd_L2 l2 x7_2) x7_2) != 0) = false := bne_eq_false_iff_eq.mpr c24; clear c24; have H' := Aside0.mk H; clear H; have p462 : 0 ≤ (x7_2 : Int) := of_decide_eq_true tZE; have q462 : x7_2 < (l2.length : Int) := of_decide_eq_true tZE; obtain ⟨ad462, A462_0, c462_0, e462, hx462_0, hl462_0, hi462_0⟩ := at_L2 HR2.out x7_2 p462 q462; obtain rfl : ad456 = ad462 := (by injection e462); have HR462_0 := Aside0.mk hi462_0; have HC462_0 := Aside0.mk hl462_0; clear hi462_0 hl462_0; replace p462 := eq_true p462; replace q462 := eq_true q462; have p463 : 0 ≤ (x7_2 : Int) := of_decide_eq_true tZE; have q463 : x7_2 < ((rd_L2 l2 x7_2).length : Int) := of_decide_eq_true tZE; obtain ⟨ad463, e463, hx463_0⟩ := Kd.at_int HR462_0.out x7_2 p463 q463
        cases e463
        replace p463 := eq_true p463; replace q463 := eq_true q463; go_wp2
        go_roundg k3
        case measure => have := HJ3.out; have := HK2.out; have := HK3.out; omega
        case rel => exact ⟨(wrap64 (x7_2 + 1)), tZB, H', ⟨by have := HJ3.out; have := HK2.out; have := HK3.out; omega⟩, tZD⟩
       rw [if_pos c13] at H; have c13b0 := decide_eq_true c13; clear c13
       by_cases c14 : 0 ≤ x7_2
       rotate_left
       ·rw [if_neg c14] at H; exact absurd H (by simp)
       rw [if_pos c14] at H; have c14b0 := decide_eq_true c14; clear c14
       by_cases c15 : x7_2 < (l2.length : Int)
       rotate_left
       ·rw [if_neg c15] at H; exact absurd H (by simp)
       rw [if_pos c15] at H; have c15b0 := decide_eq_true c15; clear c15
       by_cases c16 : 0 ≤ x9_3
       rotate_left
       ·rw [if_neg c16] at H; exact absurd H (by simp)
       rw [if_pos c16] at H; have c16b0 := decide_eq_true c16; clear c16
       by_cases c17 : x9_3 < ((rd_L2 l2 x7_2).length : Int)
       rotate_left
       ·rw [if_neg c17] at H; exact absurd H (by simp)
       rw [if_pos c17] at H; have c17b0 := decide_eq_true c17; clear c17; replace H := Option.bind_eq_some_iff.mp H; obtain ⟨t459, A180, H⟩ := H; replace H : (if t459 = true then (spec_l7Shares.l1 k3 a0 a1 l2 x7_2 (wrap64 (x8_3 + (rd (rd_L2 l2 x7_2) x9_3))) (wrap64 (x9_3 + 1))) else (some false)) = some r := H; have A18 := Aside0.mk A180; clear A180
       by_cases c19 : t459 = true
       rotate_left
       ·replace c19 := Bool.eq_false_iff.mpr c19; subst c19; rw [if_neg Bool.false_ne_true] at H; obtain rfl := Option.some.inj H; have p457 : 0 ≤ (x7_2 : Int) := of_decide_eq_true tZE; have q457 : x7_2 < (l2.length : Int) := of_decide_eq_true tZE; obtain ⟨ad457, A457_0, c457_0, e457, hx457_0, hl457_0, hi457_0⟩ := at_L2 HR2.out x7_2 p457 q457; obtain rfl : ad456 = ad457 := (by injection e457); have HR457_0 := Aside0.mk hi457_0; have HC457_0 := Aside0.mk hl457_0; clear hi457_0 hl457_0; replace p457 := eq_true p457; replace q457 := eq_true q457; have p458 : 0 ≤ (x9_3 : Int) := of_decide_eq_true tZE; have q458 : x9_3 < ((rd_L2 l2 x7_2).length : Int) := of_decide_eq_true tZE; obtain ⟨ad458, e458, hx458_0⟩ := Kd.at_int HR457_0.out x9_3 p458 q458
        cases e458
        replace p458 := eq_true p458; replace q458 := eq_true q458
        go_wp2_with (first | ((with_reducible refine gate_callee (f := 32) rfl ?_); refine goesL_ (some 48) rfl rfl Try.func32 kZ rfl #[.int .i64 (rd (rd_L2 l2 x7_2) x9_3), .int .i64 0, .int .i64 100] rfl tZA ?_; (with_reducible refine (spec_l1In.calls (rd (rd_L2 l2 x7_2) x9_3) 0 100 false _ A18.out).mono ?_); rintro e w' ⟨rfl, ⟨nd, rfl⟩⟩; refine ⟨_, rfl, ?_⟩))
        go_ret; exact ⟨tZB, tZD⟩
       subst c19; rw [if_pos rfl] at H; have H' := Aside0.mk H; clear H; have p457 : 0 ≤ (x7_2 : Int) := of_decide_eq_true tZE; have q457 : x7_2 < (l2.length : Int) := of_decide_eq_true tZE; obtain ⟨ad457, A457_0, c457_0, e457, hx457_0, hl457_0, hi457_0⟩ := at_L2 HR2.out x7_2 p457 q457; obtain rfl : ad456 = ad457 := (by injection e457); have HR457_0 := Aside0.mk hi457_0; have HC457_0 := Aside0.mk hl457_0; clear hi457_0 hl457_0; replace p457 := eq_true p457; replace q457 := eq_true q457; have p458 : 0 ≤ (x9_3 : Int) := of_decide_eq_true tZE; have q458 : x9_3 < ((rd_L2 l2 x7_2).length : Int) := of_decide_eq_true tZE; obtain ⟨ad458, e458, hx458_0⟩ := Kd.at_int HR457_0.out x9_3 p458 q458
       cases e458
       replace p458 := eq_true p458; replace q458 := eq_true q458
       go_wp2_with (first | ((with_reducible refine gate_callee (f := 32) rfl ?_); refine goesL_ (some 48) rfl rfl Try.func32 kZ rfl #[.int .i64 (rd (rd_L2 l2 x7_2) x9_3), .int .i64 0, .int .i64 100] rfl tZA ?_; (with_reducible refine (spec_l1In.calls (rd (rd_L2 l2 x7_2) x9_3) 0 100 true _ A18.out).mono ?_); rintro e w' ⟨rfl, ⟨nd, rfl⟩⟩; refine ⟨_, rfl, ?_⟩; have p460 : 0 ≤ (x7_2 : Int) := of_decide_eq_true tZE; have q460 : x7_2 < (l2.length : Int) := of_decide_eq_true tZE; obtain ⟨ad460, A460_0, c460_0, e460, hx460_0, hl460_0, hi460_0⟩ := at_L2 HR2.out x7_2 p460 q460; obtain rfl : ad456 = ad460 := (by injection e460); have HR460_0 := Aside0.mk hi460_0; have HC460_0 := Aside0.mk hl460_0; clear hi460_0 hl460_0; replace p460 := eq_true p460; replace q460 := eq_true q460; have ea_ := Option.some.inj (hx457_0.symm.trans hx460_0); injection ea_ with ea_ en_ ec_; subst ea_; subst ec_; clear en_; have p461 : 0 ≤ (x9_3 : Int) := of_decide_eq_true tZE; have q461 : x9_3 < ((rd_L2 l2 x7_2).length : Int) := of_decide_eq_true tZE; obtain ⟨ad461, e461, hx461_0⟩ := Kd.at_int HR460_0.out x9_3 p461 q461; cases e461; replace p461 := eq_true p461; replace q461 := eq_true q461))
       go_roundg k3
       case measure => have := HJ3.out; have := HK2.out; have := HK3.out; omega
       case rel => exact ⟨(wrap64 (x8_3 + (rd (rd_L2 l2 x7_2) x9_3))), (wrap64 (x9_3 + 1)), tZB, tZB, H', ⟨by have := HJ3.out; have := HK2.out; have := HK3.out; omega⟩, tZD⟩
mutual
def spec_l7Det.l0 : Nat → List (List Int) → Int → Int → Int → Option (Int)
  | 0, _, _, _, _ => none
  | k + 1, x0, x3, x4, x5 => if x5 < (x0.length : Int) then (spec_l7Det.l1 k x0 x3 x4 x5 (([] : List (List Int))) 1) else (some x3)
def spec_l7Det.l1 : Nat → List (List Int) → Int → Int → Int → List (List Int) → Int → Option (Int)
  | 0, _, _, _, _, _, _ => none
  | k + 1, x0, x3, x4, x5, x6, x7 => if x7 < (x0.length : Int) then ((some (([] : List Int) : List Int)).bind fun y467 => (if 0 ≤ x7 then (if 0 ≤ x5 then (if x5 ≤ ((rd_L2 x0 x7).length : Int) then (if y467.length + ((rd_L2 x0 x7).take (x5 : Int).toNat).length < 17592186044416 then ((some (y467 ++ ((rd_L2 x0 x7).take (x5 : Int).toNat) : List Int)).bind fun y472 => (if 0 ≤ (wrap64 (x5 + 1)) then (if (wrap64 (x5 + 1)) ≤ ((rd_L2 x0 x7).length : Int) then (if y472.length + ((rd_L2 x0 x7).drop ((wrap64 (x5 + 1)) : Int).toNat).length < 17592186044416 then (if x6.length < 5864062014805 then (spec_l7Det.l1 k x0 x3 x4 x5 (x6 ++ [(y472 ++ ((rd_L2 x0 x7).drop ((wrap64 (x5 + 1)) : Int).toNat))]) (wrap64 (x7 + 1))) else (none)) else (none)) else (none)) else (none))) else (none)) else (none)) else (none)) else (none))) else (if 0 < (x0.length : Int) then (if 0 ≤ x5 then (if x5 < ((rd_L2 x0 0).length : Int) then ((spec_l7Det.f k x6).bind fun t485 => (spec_l7Det.l0 k x0 (wrap64 (x3 + (wrap64 ((wrap64 (x4 * (rd (rd_L2 x0 0) x5))) * t485)))) (wrap64 (-x4)) (wrap64 (x5 + 1)))) else (none)) else (none)) else (none))
def spec_l7Det.f : Nat → List (List Int) → Option (Int)
  | 0, _ => none
  | k + 1, l0 => if (l0.length : Int) = 0 then (some 1) else (spec_l7Det.l0 k l0 0 1 0)
end
theorem spec_l7Det.mono_l : ∀ k, (∀ y0, LeO (spec_l7Det.f k y0) (spec_l7Det.f (k + 1) y0)) ∧ (∀ y0 y1 y2 y3, LeO (spec_l7Det.l0 k y0 y1 y2 y3) (spec_l7Det.l0 (k + 1) y0 y1 y2 y3)) ∧ (∀ y0 y1 y2 y3 y4 y5, LeO (spec_l7Det.l1 k y0 y1 y2 y3 y4 y5) (spec_l7Det.l1 (k + 1) y0 y1 y2 y3 y4 y5))
  | 0 => ⟨fun _ r h => by simp [spec_l7Det.f] at h, fun _ _ _ _ r h => by simp [spec_l7Det.l0] at h, fun _ _ _ _ _ _ r h => by simp [spec_l7Det.l1] at h⟩
  | k + 1 => by
    obtain ⟨ih0, ih1, ih2⟩ := spec_l7Det.mono_l k
    refine ⟨?_, ?_, ?_⟩
    · intro y0
      unfold spec_l7Det.f
      repeat' first
      | (with_reducible exact ih0 _)
      | (with_reducible exact ih1 _ _ _ _)
      | (with_reducible exact ih2 _ _ _ _ _ _)
      | (with_reducible exact LeO.refl _)
      | (with_reducible exact LeO.none _)
      | (with_reducible refine LeO.ite ?_ ?_)
      | (with_reducible refine LeO.bind ?_ (fun _ => ?_))
      | exact ih0 _
      | exact ih1 _ _ _ _
      | exact ih2 _ _ _ _ _ _
      | exact LeO.none _
      | refine LeO.ite ?_ ?_
      | refine LeO.bind ?_ (fun _ => ?_)
    · intro y0 y1 y2 y3
      unfold spec_l7Det.l0
      repeat' first
      | (with_reducible exact ih0 _)
      | (with_reducible exact ih1 _ _ _ _)
      | (with_reducible exact ih2 _ _ _ _ _ _)
      | (with_reducible exact LeO.refl _)
      | (with_reducible exact LeO.none _)
      | (with_reducible refine LeO.ite ?_ ?_)
      | (with_reducible refine LeO.bind ?_ (fun _ => ?_))
      | exact ih0 _
      | exact ih1 _ _ _ _
      | exact ih2 _ _ _ _ _ _
      | exact LeO.none _
      | refine LeO.ite ?_ ?_
      | refine LeO.bind ?_ (fun _ => ?_)
    · intro y0 y1 y2 y3 y4 y5
      unfold spec_l7Det.l1
      repeat' first
      | (with_reducible exact ih0 _)
      | (with_reducible exact ih1 _ _ _ _)
      | (with_reducible exact ih2 _ _ _ _ _ _)
      | (with_reducible exact LeO.refl _)
      | (with_reducible exact LeO.none _)
      | (with_reducible refine LeO.ite ?_ ?_)
      | (with_reducible refine LeO.bind ?_ (fun _ => ?_))
      | exact ih0 _
      | exact ih1 _ _ _ _
      | exact ih2 _ _ _ _ _ _
      | exact LeO.none _
      | refine LeO.ite ?_ ?_
      | refine LeO.bind ?_ (fun _ => ?_)
theorem spec_l7Det.mono : ∀ a0 k, LeO (spec_l7Det.f k a0) (spec_l7Det.f (k + 1) a0) := by
 intro a0 k
 obtain ⟨ih0, ih1, ih2⟩ := spec_l7Det.mono_l k
 exact ih0 a0
def spec_l7Det.T14 : Bool × List (List Nat × List Nat) := (true, [([], []), ([], []), ([], []), ([2], [2]), ([3], [3]), ([], []), ([4, 5], [4, 5]), ([6], [6]), ([1, 7], [1, 7]), ([], []), ([9], [9]), ([8, 10], [8, 10]), ([0, 11], [0, 11]), ([12, 10, 0, 1, 2, 3, 4, 5, 6, 7, 8, 9, 10, 11, 12], [0, 12])])
def spec_l7Det.B14 : List Nat := [0, 0, 0, 4, 12, 0, 60, 124, 254, 0, 512, 2046, 4095, 8191]
theorem spec_l7Det.tab14 : rtab .any (opsOf Try.f76 14) = spec_l7Det.T14 := by kernel_rfl
theorem spec_l7Det.bits14 : waitsOk spec_l7Det.T14.2 spec_l7Det.B14 = true := by kernel_rfl
set_option maxHeartbeats 8000000 in
set_option maxRecDepth 100000 in
theorem spec_l7Det.calls (k : Nat) : ∀ (A0 : Option Addr) (c0 : Nat) (l0 : List (List Int)) (r : Int) (w : World) (hr0 : Kd.C (Kd.slice 3 (Kd.int .i64)) w A0 l0.length l0) (hc0 : l0.length ≤ c0) (h : spec_l7Det.f k l0 = some r),
    Calls Try.prog 76 #[.slice A0 l0.length c0] w fun e w' => e = .returned (.int .i64 r) ∧ Below w.heap.size w w' := by
 induction k using Nat.strongRecOn with
 | _ k ih =>
 intro A0 c0 l0 r w hr0 hc0 h
 cases k with
 | zero => exact absurd h (by simp [spec_l7Det.f])
 | succ k =>
 simp only [spec_l7Det.f] at h; have HR0 := Aside0.mk hr0; have HC0 := Aside0.mk hc0; clear hr0 hc0; have HB := aZ (Below.refl w.heap.size w); have H : (if (l0.length : Int) = 0 then (some 1) else (spec_l7Det.l0 k l0 0 1 0)) = some r := h; clear h
 by_cases c2 : (l0.length : Int) = 0
 ·rw [if_pos c2] at H; have c2b0 : ((l0.length : Int) == 0) = true := beq_iff_eq.mpr c2; have c2b1 : ((l0.length : Int) != 0) = false := bne_eq_false_iff_eq.mpr c2; clear c2; obtain rfl := Option.some.inj H; go_enter Try.func76, Try.ntmps76; go_wp2; go_ret; exact ⟨tZC, bZ⟩
 rw [if_neg c2] at H; have c2b0 : ((l0.length : Int) == 0) = false := beq_eq_false_iff_ne.mpr c2; have c2b1 : ((l0.length : Int) != 0) = true := bne_iff_ne.mpr c2; have c2b2 : ¬ (l0 = []) := fun h_ => c2 (by rw [h_]; rfl)
 have H' := Aside0.mk H; clear H; go_enter Try.func76, Try.ntmps76; go_wp2
 go_loopg [3, 4, 5] k (fun kq v3 v4 v5 w' => ∃ (x3_1 : Int) (x4_1 : Int) (x5_1 : Int), v3 = .int .i64 x3_1 ∧ v4 = .int .i64 x4_1 ∧ v5 = .int .i64 x5_1 ∧ Aside0 (spec_l7Det.l0 kq l0 x3_1 x4_1 x5_1 = some r) ∧ Aside0 (kq ≤ k) ∧ Aside0 (Below w.heap.size w w'))
 case atStart => exact ⟨(0), (1), (0), tZB, tZB, tZB, H', ⟨Nat.le_refl _⟩, ⟨bZ⟩⟩
 case round =>
  clear H'; (try clear c2 c2b0 c2b1 c2b2); obtain ⟨x3_1, x4_1, x5_1, rfl, rfl, rfl, HA, HK1, HB⟩ := hrel
  cases gk with
  | zero => exact absurd HA.out (by simp [spec_l7Det.l0])
  | succ k1 =>
   have H := HA.out; clear HA; simp only [spec_l7Det.l0] at H
   by_cases c3 : x5_1 < (l0.length : Int)
   rotate_left
   ·rw [if_neg c3] at H; have c3b0 := decide_eq_false c3; clear c3; obtain rfl := Option.some.inj H; go_wp2; go_ret; exact ⟨tZC, bZ⟩
   rw [if_pos c3] at H; have c3b0 := decide_eq_true c3; clear c3; obtain ⟨y464, hy464⟩ : ∃ y_ : List (List Int), y_ = (([] : List (List Int))) := ⟨_, rfl⟩; replace H : (spec_l7Det.l1 k1 l0 x3_1 x4_1 x5_1 y464 1) = some r := by first | (rw [hy464]; with_reducible exact H) | (have H2_ := (Option.bind_some _ _).symm.trans H; rw [hy464]; with_reducible exact H2_) | (have H2_ := (Option.bind_some _ _).symm.trans H; with_reducible exact H2_) | with_reducible exact H | (rw [hy464]; exact H) | exact H
   have Ny464 := Aside0.mk hy464; clear hy464; have H' := Aside0.mk H; clear H
   go_wp2_with (first | ((with_reducible refine gate_dst (N := 18) rfl ?_); refine Kd.S_lit (Kd.slice 3 (Kd.int .i64)) _ 24 ?hg (N := 18) ?hd (xs := ([] : List (List Int))) (inner := []) (ok := fun _ => True) (okp := fun _ => True) ?hr ?hp (fun _ hk => hk) trivial (Below.refl _ _) (Nat.le_refl _) (by simp) ?_; (case hd => rfl); (case hg => rfl); (case hr => first | (go_simp; done) | (go_simp; rfl)); (case hp => exact (Reps.none _ _)); intro v465 w4 ho5 hb hg_ hnew_; clear hg_ hnew_; (first | rw [← Ny464.out] at ho5 | (simp only [Int.reduceToNat] at ho5; rw [← Ny464.out] at ho5)); have HO466 := aZ (Kd.S_lower ho5 (below_size (lZB HB.out))); replace HB := aZ (below_step (lZB HB.out) hb); clear hb ho5))
   go_loopg [6, 7] k1 (fun kq v6 v7 w' => ∃ (x6_2 : List (List Int)) (x7_2 : Int), v7 = .int .i64 x7_2 ∧ Aside0 (spec_l7Det.l1 kq l0 x3_1 x4_1 x5_1 x6_2 x7_2 = some r) ∧ Aside0 (kq ≤ k1) ∧ Aside0 (Kd.S (Kd.slice 3 (Kd.int .i64)) 24 w' w.heap.size (fun _ => True) v6 x6_2) ∧ Aside0 (Below w.heap.size w w'))
   case atStart => exact ⟨(y464), (1), tZB, H', ⟨Nat.le_refl _⟩, ⟨lZS HO466.out⟩, ⟨bZ⟩⟩
   case round =>
    clear H'; (try clear c2 c2b0 c2b1 c2b2 c3b0); obtain ⟨x6_2, x7_2, rfl, HA, HK2, HO_6, HB⟩ := hrel
    cases gk with
    | zero => exact absurd HA.out (by simp [spec_l7Det.l1])
    | succ k2 =>
     have H := HA.out; clear HA; simp only [spec_l7Det.l1] at H
     by_cases c6 : x7_2 < (l0.length : Int)
     rotate_left
     ·rw [if_neg c6] at H; have c6b0 := decide_eq_false c6; clear c6
      by_cases c24 : 0 < (l0.length : Int)
      rotate_left
      ·rw [if_neg c24] at H; exact absurd H (by simp)
      rw [if_pos c24] at H; have c24b0 := decide_eq_true c24; have c24b1 : decide (0 < l0.length) = true := decide_eq_true (by omega); clear c24
      by_cases c25 : 0 ≤ x5_1
      rotate_left
      ·rw [if_neg c25] at H; exact absurd H (by simp)
      rw [if_pos c25] at H; have c25b0 := decide_eq_true c25; clear c25
      by_cases c26 : x5_1 < ((rd_L2 l0 0).length : Int)
      rotate_left
      ·rw [if_neg c26] at H; exact absurd H (by simp)
      rw [if_pos c26] at H; have c26b0 := decide_eq_true c26; clear c26; replace H := Option.bind_eq_some_iff.mp H; obtain ⟨t485, A270, H⟩ := H; replace H : (spec_l7Det.l0 k2 l0 (wrap64 (x3_1 + (wrap64 ((wrap64 (x4_1 * (rd (rd_L2 l0 0) x5_1))) * t485)))) (wrap64 (-x4_1)) (wrap64 (x5_1 + 1))) = some r := H; have A27 := Aside0.mk A270; clear A270; have H' := Aside0.mk H; clear H
      try go_wp2
      replace HO_6 := aZ (Kd.S_drew HO_6.out); replace HB := aZ (below_drew1 HB.out); have p483 : 0 ≤ (0 : Int) := (by omega); have q483 : 0 < (l0.length : Int) := of_decide_eq_true tZE; obtain ⟨ad483, A483_0, c483_0, e483, hx483_0, hl483_0, hi483_0⟩ := at_L2 HR0.out 0 p483 q483; have hw483_0 := hx483_0; (try rw [show ((0 : Int)).toNat = 0 from rfl] at hw483_0); (try rw [show 0 * 1 = 0 from rfl] at hw483_0); (try rw [Addr.add_zero'] at hw483_0); have hz483_0 := hx483_0
      cases e483
      have qi483 : (0 < l0.length) = True := eq_true (by omega); (try rw [show ((0 : Int)).toNat = 0 from rfl] at hx483_0); (try rw [Addr.add_zero'] at hx483_0); replace hx483_0 := cZ HB hx483_0; have HR483_0 := Aside0.mk hi483_0; have HC483_0 := Aside0.mk hl483_0; clear hi483_0 hl483_0; replace p483 := eq_true p483; replace q483 := eq_true q483; have p484 : 0 ≤ (x5_1 : Int) := of_decide_eq_true tZE; have q484 : x5_1 < ((rd_L2 l0 0).length : Int) := of_decide_eq_true tZE; obtain ⟨ad484, e484, hx484_0⟩ := Kd.at_int HR483_0.out x5_1 p484 q484; have hw484_0 := hx484_0
      cases e484
      replace hx484_0 := cZ HB hx484_0; replace p484 := eq_true p484; replace q484 := eq_true q484; obtain ⟨Ao29, co29, eo29⟩ := Kd.S_slice HO_6.out; (first | subst eo29 | (injection eo29 with f1_ f2_ f3_; have f4_ := f1_.symm; have f5_ := f3_.symm; clear f1_ f2_ f3_; subst f4_; subst f5_)); refine start_ (n := 14) (S := fun w' => w'.cell? ad483 = some (.slice (some ad484) (rd_L2 l0 0).length c483_0) ∧ w'.cell? (ad484.add (x5_1).toNat) = some (.int .i64 (rd (rd_L2 l0 0) x5_1))) (ds := []) L0' kZ rfl rfl ⟨((HB.out.cell (World.block_lt_of_cell? w _ hw483_0)).trans hw483_0), ((HB.out.cell (World.block_lt_of_cell? w _ hw484_0)).trans hw484_0)⟩ (fun hHeld => ?_); refine with_tabW spec_l7Det.tab14 spec_l7Det.bits14 (fun HT_ HW_ => ?_); generalize wr.drew = w28 at HO_6 HB HR483_0 hx483_0 hx484_0 hHeld ⊢
      refine pure_ (i := 0) (N := some 45) (v := ?_) (a' := ?_) L1' rfl rfl (any_of HT_.out kZ) (fun _ _ _ h => h) (Or.inl ⟨by rfl, ?_⟩) ?_ ?_; rotate_left
      ·intro w'; go_simp; with_reducible rfl
      rotate_left
      ·simp only [Act.put, sZ1, sZ2, sZ3, i64_w, i32_w]; rfl
      refine pure_ (i := 1) (N := some 46) (v := ?_) (a' := ?_) L2' rfl rfl (any_of HT_.out kZ) (fun _ _ _ h => h) (Or.inl ⟨by rfl, ?_⟩) ?_ ?_; rotate_left
      ·intro w'; go_simp; with_reducible rfl
      rotate_left
      ·simp only [Act.put, sZ1, sZ2, sZ3, i64_w, i32_w]; rfl
      refine pure_ (i := 2) (N := some 47) (v := ?_) (a' := ?_) L3' rfl rfl (any_of HT_.out kZ) (fun _ _ _ h => h) (Or.inl ⟨by rfl, ?_⟩) ?_ ?_; rotate_left
      ·intro w'; go_simp; with_reducible rfl
      rotate_left
      ·simp only [Act.put, sZ1, sZ2, sZ3, i64_w, i32_w]; rfl
      refine pure_ (i := 3) (N := some 48) (v := ?_) (a' := ?_) L4' rfl rfl (any_of HT_.out kZ) (fun _ _ _ h => h) (Or.inl ⟨by rfl, ?_⟩) ?_ ?_; rotate_left
      ·intro w'; go_simp; with_reducible rfl
      rotate_left
      ·simp only [Act.put, sZ1, sZ2, sZ3, i64_w, i32_w]; rfl
      refine pure_ (i := 5) (N := some 50) (v := ?_) (a' := ?_) L5' rfl rfl (any_of HT_.out kZ) (fun _ _ _ h => h) (Or.inl ⟨by rfl, ?_⟩) ?_ ?_; rotate_left
      ·intro w'; go_simp; with_reducible rfl
      rotate_left
      ·simp only [Act.put, sZ1, sZ2, sZ3, i64_w, i32_w]; rfl
      refine pure_ (i := 9) (N := some 54) (v := ?_) (a' := ?_) L6' rfl rfl (any_of HT_.out kZ) (fun _ _ _ h => h) (Or.inl ⟨by rfl, ?_⟩) ?_ ?_; rotate_left
      ·intro w'; go_simp; with_reducible rfl
      rotate_left
      ·simp only [Act.put, sZ1, sZ2, sZ3, i64_w, i32_w]; rfl
      refine take_ (i := 4) (N := some 49) (v := ?_) (a' := ?_) L7' rfl rfl (take_ofW HT_.out HW_.out kZ) (fun _ _ _ h => h) (Or.inl ⟨by rfl, ?_⟩) hHeld ?_ ?_; rotate_left
      ·rintro w' ⟨s0, s1⟩
       go_simp; with_reducible rfl
      rotate_left
      ·simp only [Act.put, sZ1, sZ2, sZ3, i64_w, i32_w]; rfl
      refine pure_ (i := 6) (N := some 51) (v := ?_) (a' := ?_) L8' rfl rfl (any_of HT_.out kZ) (fun _ _ _ h => h) (Or.inl ⟨by rfl, ?_⟩) ?_ ?_; rotate_left
      ·intro w'; go_simp; with_reducible rfl
      rotate_left
      ·simp only [Act.put, sZ1, sZ2, sZ3, i64_w, i32_w]; rfl
      refine take_ (i := 7) (N := some 52) (v := ?_) (a' := ?_) L9' rfl rfl (take_ofW HT_.out HW_.out kZ) (fun _ _ _ h => h) (Or.inl ⟨by rfl, ?_⟩) hHeld ?_ ?_; rotate_left
      ·rintro w' ⟨s0, s1⟩
       go_simp; with_reducible rfl
      rotate_left
      ·simp only [Act.put, sZ1, sZ2, sZ3, i64_w, i32_w]; rfl
      refine pure_ (i := 8) (N := some 53) (v := ?_) (a' := ?_) L10' rfl rfl (any_of HT_.out kZ) (fun _ _ _ h => h) (Or.inl ⟨by rfl, ?_⟩) ?_ ?_; rotate_left
      ·intro w'; go_simp; with_reducible rfl
      rotate_left
      ·simp only [Act.put, sZ1, sZ2, sZ3, i64_w, i32_w]; rfl
      refine one_ (i := 10) (N := some 55) L11' rfl rfl (one_of HT_.out kZ) (by decide) (fun K hK => ?_); refine goes_ Try.func76 kZ rfl #[.slice Ao29 x6_2.length co29] (by rfl) rfl rfl tZA ?_
      with_reducible refine (ih k2 (by have := HK1.out; have := HK2.out; omega) _ _ x6_2 t485 _ ?side1 ?side2 A27.out).mono ?_
      (case side1 => repeat (first | exact (Kd.S_reads' HO_6.out).2.2 | (with_reducible refine Kd.C_alloc ?_ _) | (with_reducible refine Kd.C_drewN ?_ _) | (with_reducible refine Kd.C_drew ?_)))
      (case side2 => exact (Kd.S_reads' HO_6.out).2.1)
      rintro e w30 ⟨rfl, hb⟩
      refine ⟨_, rfl, ?_⟩; replace HO_6 := aZ (Kd.S_below (lZS HO_6.out) hb); replace HB := aZ (below_step (lZB HB.out) hb); (try clear hb); (try clear hb2); (try clear hk); (try clear hi); refine hK.out _ _ ⟨((HB.out.cell (World.block_lt_of_cell? w _ hw483_0)).trans hw483_0), ((HB.out.cell (World.block_lt_of_cell? w _ hw484_0)).trans hw484_0)⟩ (fun hHeld => ?_); clear hK K; refine norm_ (a' := ?_) ?_ ?_; rotate_left
      ·show Act.put _ (some 55) _ = _
       simp only [Act.put, sZ1, sZ2, sZ3, i64_w, i32_w]; rfl
      refine pure_ (i := 11) (N := some 56) (v := ?_) (a' := ?_) L12' rfl rfl (any_of HT_.out kZ) (fun _ _ _ h => h) (Or.inl ⟨by rfl, ?_⟩) ?_ ?_; rotate_left
      ·intro w'; go_simp; with_reducible rfl
      rotate_left
      ·simp only [Act.put, sZ1, sZ2, sZ3, i64_w, i32_w]; rfl
      refine pure_ (i := 12) (N := some 57) (v := ?_) (a' := ?_) L13' rfl rfl (any_of HT_.out kZ) (fun _ _ _ h => h) (Or.inl ⟨by rfl, ?_⟩) ?_ ?_; rotate_left
      ·intro w'; go_simp; with_reducible rfl
      rotate_left
      ·simp only [Act.put, sZ1, sZ2, sZ3, i64_w, i32_w]; rfl
      refine pure_ (i := 13) (N := some 3) (v := ?_) (a' := ?_) L14' rfl rfl (any_of HT_.out kZ) (fun _ _ _ h => h) (Or.inl ⟨by rfl, ?_⟩) ?_ ?_; rotate_left
      ·intro w'; go_simp; with_reducible rfl
      rotate_left
      ·simp only [Act.put, sZ1, sZ2, sZ3, i64_w, i32_w]; rfl
      refine done_ (done_of HT_.out kZ) ?_
      try go_wp2
      go_roundg k2
      case measure => have := HK1.out; have := HK2.out; omega
      case rel => exact ⟨(wrap64 (x3_1 + (wrap64 ((wrap64 (x4_1 * (rd (rd_L2 l0 0) x5_1))) * t485)))), (wrap64 (-x4_1)), (wrap64 (x5_1 + 1)), tZB, tZB, tZB, H', ⟨by have := HK1.out; have := HK2.out; omega⟩, ⟨bZ⟩⟩
     rw [if_pos c6] at H; have c6b0 := decide_eq_true c6; clear c6; obtain ⟨y467, hy467⟩ : ∃ y_ : List Int, y_ = (([] : List Int)) := ⟨_, rfl⟩
     replace H : (if 0 ≤ x7_2 then (if 0 ≤ x5_1 then (if x5_1 ≤ ((rd_L2 l0 x7_2).length : Int) then (if y467.length + ((rd_L2 l0 x7_2).take (x5_1 : Int).toNat).length < 17592186044416 then ((some (y467 ++ ((rd_L2 l0 x7_2).take (x5_1 : Int).toNat) : List Int)).bind fun y472 => (if 0 ≤ (wrap64 (x5_1 + 1)) then (if (wrap64 (x5_1 + 1)) ≤ ((rd_L2 l0 x7_2).length : Int) then (if y472.length + ((rd_L2 l0 x7_2).drop ((wrap64 (x5_1 + 1)) : Int).toNat).length < 17592186044416 then (if x6_2.length < 5864062014805 then (spec_l7Det.l1 k2 l0 x3_1 x4_1 x5_1 (x6_2 ++ [(y472 ++ ((rd_L2 l0 x7_2).drop ((wrap64 (x5_1 + 1)) : Int).toNat))]) (wrap64 (x7_2 + 1))) else (none)) else (none)) else (none)) else (none))) else (none)) else (none)) else (none)) else (none)) = some r := by first | (rw [hy467]; with_reducible exact H) | (have H2_ := (Option.bind_some _ _).symm.trans H; rw [hy467]; with_reducible exact H2_) | (have H2_ := (Option.bind_some _ _).symm.trans H; with_reducible exact H2_) | with_reducible exact H | (rw [hy467]; exact H) | exact H
     have Ny467 := Aside0.mk hy467; clear hy467
     by_cases c7 : 0 ≤ x7_2
     rotate_left
     ·rw [if_neg c7] at H; exact absurd H (by simp)
     rw [if_pos c7] at H; have c7b0 := decide_eq_true c7; clear c7
     by_cases c8 : 0 ≤ x5_1
     rotate_left
     ·rw [if_neg c8] at H; exact absurd H (by simp)
     rw [if_pos c8] at H; have c8b0 := eq_true c8; have c8b1 := decide_eq_true c8; clear c8
     by_cases c9 : x5_1 ≤ ((rd_L2 l0 x7_2).length : Int)
     rotate_left
     ·rw [if_neg c9] at H; exact absurd H (by simp)
     rw [if_pos c9] at H; have c9b0 := eq_true c9; have c9b1 := decide_eq_true c9; clear c9
     by_cases c10 : y467.length + ((rd_L2 l0 x7_2).take (x5_1 : Int).toNat).length < 17592186044416
     rotate_left
     ·rw [if_neg c10] at H; exact absurd H (by simp)
     rw [if_pos c10] at H; have LMc10 := Aside0.mk c10; clear c10; obtain ⟨y472, hy472⟩ : ∃ y_ : List Int, y_ = (y467 ++ ((rd_L2 l0 x7_2).take (x5_1 : Int).toNat)) := ⟨_, rfl⟩; replace H : (if 0 ≤ (wrap64 (x5_1 + 1)) then (if (wrap64 (x5_1 + 1)) ≤ ((rd_L2 l0 x7_2).length : Int) then (if y472.length + ((rd_L2 l0 x7_2).drop ((wrap64 (x5_1 + 1)) : Int).toNat).length < 17592186044416 then (if x6_2.length < 5864062014805 then (spec_l7Det.l1 k2 l0 x3_1 x4_1 x5_1 (x6_2 ++ [(y472 ++ ((rd_L2 l0 x7_2).drop ((wrap64 (x5_1 + 1)) : Int).toNat))]) (wrap64 (x7_2 + 1))) else (none)) else (none)) else (none)) else (none)) = some r := by first | (rw [hy472]; with_reducible exact H) | (have H2_ := (Option.bind_some _ _).symm.trans H; rw [hy472]; with_reducible exact H2_) | (have H2_ := (Option.bind_some _ _).symm.trans H; with_reducible exact H2_) | with_reducible exact H | (rw [hy472]; exact H) | exact H
     have Ny472 := Aside0.mk hy472; clear hy472; obtain ⟨ji11, hji11⟩ : ∃ j_ : Int, (wrap64 (x5_1 + 1)) = j_ := ⟨_, rfl⟩; replace H : (if 0 ≤ (ji11) then (if (ji11) ≤ ((rd_L2 l0 x7_2).length : Int) then (if y472.length + ((rd_L2 l0 x7_2).drop ((ji11) : Int).toNat).length < 17592186044416 then (if x6_2.length < 5864062014805 then (spec_l7Det.l1 k2 l0 x3_1 x4_1 x5_1 (x6_2 ++ [(y472 ++ ((rd_L2 l0 x7_2).drop ((ji11) : Int).toNat))]) (wrap64 (x7_2 + 1))) else (none)) else (none)) else (none)) else (none)) = some r := by first | (rw [hji11] at H; exact H) | (simp only [hji11] at H ⊢; exact H)
     have hji11w : (IntKind.i64.wrap (x5_1 + 1)) = ji11 := (i64_w _).trans hji11
     by_cases c12 : 0 ≤ (ji11)
     rotate_left
     ·rw [if_neg c12] at H; exact absurd H (by simp)
     rw [if_pos c12] at H; have c12b0 := eq_true c12; have c12b1 := decide_eq_true c12; clear c12
     by_cases c13 : (ji11) ≤ ((rd_L2 l0 x7_2).length : Int)
     rotate_left
     ·rw [if_neg c13] at H; exact absurd H (by simp)
     rw [if_pos c13] at H; have c13b0 := eq_true c13; have c13b1 := decide_eq_true c13; clear c13
     by_cases c14 : y472.length + ((rd_L2 l0 x7_2).drop ((ji11) : Int).toNat).length < 17592186044416
     rotate_left
     ·rw [if_neg c14] at H; exact absurd H (by simp)
     rw [if_pos c14] at H; have LMc14 := Aside0.mk c14; clear c14; obtain ⟨y477, hy477⟩ : ∃ y_ : List Int, y_ = (y472 ++ ((rd_L2 l0 x7_2).drop ((ji11) : Int).toNat)) := ⟨_, rfl⟩; replace H : (if x6_2.length < 5864062014805 then (spec_l7Det.l1 k2 l0 x3_1 x4_1 x5_1 (x6_2 ++ [y477]) (wrap64 (x7_2 + 1))) else (none)) = some r := by first | (rw [hy477]; with_reducible exact H) | (have H2_ := (Option.bind_some _ _).symm.trans H; rw [hy477]; with_reducible exact H2_) | (have H2_ := (Option.bind_some _ _).symm.trans H; with_reducible exact H2_) | with_reducible exact H | (rw [hy477]; exact H) | exact H
     have Ny477 := Aside0.mk hy477; clear hy477
     by_cases c15 : x6_2.length < 5864062014805
     rotate_left
     ·rw [if_neg c15] at H; exact absurd H (by simp)
     rw [if_pos c15] at H; have LMc15 := Aside0.mk c15; clear c15; obtain ⟨y480, hy480⟩ : ∃ y_ : List (List Int), y_ = (x6_2 ++ [y477]) := ⟨_, rfl⟩; replace H : (spec_l7Det.l1 k2 l0 x3_1 x4_1 x5_1 y480 (wrap64 (x7_2 + 1))) = some r := by first | (rw [hy480]; with_reducible exact H) | (have H2_ := (Option.bind_some _ _).symm.trans H; rw [hy480]; with_reducible exact H2_) | (have H2_ := (Option.bind_some _ _).symm.trans H; with_reducible exact H2_) | with_reducible exact H | (rw [hy480]; exact H) | exact H
     have Ny480 := Aside0.mk hy480; clear hy480; have H' := Aside0.mk H; clear H
     go_wp2_with (first | ((with_reducible refine gate_dst (N := 25) rfl ?_); refine Kd.R_lit (Kd.int .i64) _ 3 ?hg (N := 25) ?hd (xs := ([] : List Int)) (inner := []) (ok := fun _ => True) (okp := fun _ => True) ?hr ?hp (fun _ hk => hk) trivial (Below.refl _ _) (Nat.le_refl _) (by simp) ?_; (case hd => rfl); (case hg => rfl); (case hr => first | (go_simp; done) | (go_simp; rfl)); (case hp => exact (Reps.none _ _)); intro v468 w16 ho17 hb hg_ hnew_; clear hg_ hnew_; (first | rw [← Ny467.out] at ho17 | (simp only [Int.reduceToNat] at ho17; rw [← Ny467.out] at ho17)); replace HO_6 := aZ (Kd.S_elder' (lZS HO_6.out) (Kd.R_base ho17) hb); have HO469 := aZ (Kd.R_lower ho17 (below_size (lZB HB.out))); replace HB := aZ (below_step (lZB HB.out) hb); clear hb ho17; have p470 : 0 ≤ (x7_2 : Int) := of_decide_eq_true tZE; have q470 : x7_2 < (l0.length : Int) := of_decide_eq_true tZE; obtain ⟨ad470, A470_0, c470_0, e470, hx470_0, hl470_0, hi470_0⟩ := at_L2 HR0.out x7_2 p470 q470; have hz470_0 := hx470_0; cases e470; replace hx470_0 := cZ HB hx470_0; have HR470_0 := Aside0.mk hi470_0; have HC470_0 := Aside0.mk hl470_0; clear hi470_0 hl470_0; replace p470 := eq_true p470; replace q470 := eq_true q470; obtain ⟨i018, hi018, _, hsz18, _⟩ := info_parts info3; obtain ⟨hcut18, hA18, hC18⟩ := print_take_of (P := Try.prog) (Value.int .i64) 0 24 3 .i64 Try.underlying24 hi018 hsz18 A470_0 c470_0 (rd_L2 l0 x7_2) x5_1 (of_decide_eq_true tZE) (of_decide_eq_true tZE) HC470_0.out; have HR471 := aZ (Kd.C_of_reads (h1 := fun _ => rfl) (hA18 _ (Kd.reads_of_C HR470_0.out))); have HC471 := Aside0.mk hC18; clear hA18 hC18 hi018 hsz18) | ((with_reducible refine gate_builtin (b := .append) (xs := #[.tmp 25, .tmp 31]) rfl ?_); at_builtin; refine Kd.R_append_rows (Kd.int .i64) (w0 := w) w.heap.size rfl (.tmp 25) (.tmp 31) 24 3 (.int .i64 0) 8 rfl Try.underlying24 info3 rfl (by decide) (by omega) v468 y467 ((rd_L2 l0 x7_2).take (x5_1 : Int).toNat) _ _ _ (fun _ => True) (fun _ => False) rfl rfl ?aO ?aR (fun _ _ h => h) (fun _ h => h.elim) ?aF ?aB ?aS ?aL ?_; (case aR => first | (have e_ := (show ((rd_L2 l0 x7_2).take (x5_1 : Int).toNat).length = x5_1.toNat from (by rw [List.length_take]; have h_ : (x5_1 : Int) ≤ ((rd_L2 l0 x7_2).length : Int) := of_decide_eq_true tZE; omega)); refine Eq.mp (congrArg (fun n_ => (Kd.int .i64).C _ _ n_ _) e_) ?_; repeat (first | exact (Kd.C_below HR471.out HB.out) | (with_reducible refine Kd.C_alloc ?_ _) | (with_reducible refine Kd.C_drewN ?_ _) | (with_reducible refine Kd.C_drew ?_))) | (repeat (first | exact (Kd.C_below HR471.out HB.out) | (with_reducible refine Kd.C_alloc ?_ _) | (with_reducible refine Kd.C_drewN ?_ _) | (with_reducible refine Kd.C_drew ?_)))); (case aB => exact (lZB HB.out)); (case aF => exact (fun _ _ => trivial)); (case aO => exact (lZR HO469.out)); (case aS => exact (below_size (lZB HB.out))); (case aL => have := LMc10.out; have hlx_ := (show ((rd_L2 l0 x7_2).take (x5_1 : Int).toNat).length = x5_1.toNat from (by rw [List.length_take]; have h_ : (x5_1 : Int) ≤ ((rd_L2 l0 x7_2).length : Int) := of_decide_eq_true tZE; omega)); omega); intro v473 w19 ho hb hg hat; rw [← Ny472.out] at ho; replace HO_6 := aZ (Kd.S_after (ok := (fun _ => True)) (lZS HO_6.out) hg hat); replace HB := aZ (hb); have HO474 := aZ (ho); clear HO469; clear ho hb hg hat; have p475 : 0 ≤ (x7_2 : Int) := of_decide_eq_true tZE; have q475 : x7_2 < (l0.length : Int) := of_decide_eq_true tZE; obtain ⟨ad475, A475_0, c475_0, e475, hx475_0, hl475_0, hi475_0⟩ := at_L2 HR0.out x7_2 p475 q475; have hz475_0 := hx475_0; obtain rfl : ad470 = ad475 := (by injection e475); replace hx475_0 := cZ HB hx475_0; have HR475_0 := Aside0.mk hi475_0; have HC475_0 := Aside0.mk hl475_0; clear hi475_0 hl475_0; replace p475 := eq_true p475; replace q475 := eq_true q475; obtain ⟨i020, hi020, _, hsz20, _⟩ := info_parts info3; obtain ⟨A20, hcut20, hA20, hC20⟩ := print_drop_of (P := Try.prog) (Value.int .i64) 0 24 3 .i64 Try.underlying24 hi020 hsz20 A475_0 c475_0 (rd_L2 l0 x7_2) (ji11) (of_decide_eq_true tZE) (of_decide_eq_true tZE) HC475_0.out; have HR476 := aZ (Kd.C_of_reads (h1 := fun _ => rfl) (hA20 _ (Kd.reads_of_C HR475_0.out))); have HC476 := Aside0.mk hC20; clear hA20 hC20 hi020 hsz20) | ((with_reducible refine gate_builtin (b := .append) (xs := #[.tmp 34, .tmp 41]) rfl ?_); at_builtin; refine Kd.R_append_rows (Kd.int .i64) (w0 := w) w.heap.size rfl (.tmp 34) (.tmp 41) 24 3 (.int .i64 0) 8 rfl Try.underlying24 info3 rfl (by decide) (by omega) v473 y472 ((rd_L2 l0 x7_2).drop ((ji11) : Int).toNat) _ _ _ (fun _ => True) (fun _ => False) rfl rfl ?aO ?aR (fun _ _ h => h) (fun _ h => h.elim) ?aF ?aB ?aS ?aL ?_; (case aR => first | (rw [← show ((rd_L2 l0 x7_2).drop ((ji11) : Int).toNat).length = ((rd_L2 l0 x7_2).length - (ji11).toNat) from List.length_drop]; repeat (first | exact (Kd.C_below HR476.out HB.out) | (with_reducible refine Kd.C_alloc ?_ _) | (with_reducible refine Kd.C_drewN ?_ _) | (with_reducible refine Kd.C_drew ?_))) | (repeat (first | exact (Kd.C_below HR476.out HB.out) | (with_reducible refine Kd.C_alloc ?_ _) | (with_reducible refine Kd.C_drewN ?_ _) | (with_reducible refine Kd.C_drew ?_)))); (case aB => exact (lZB HB.out)); (case aF => exact (fun _ _ => trivial)); (case aO => exact (lZR HO474.out)); (case aS => exact (below_size (lZB HB.out))); (case aL => have := LMc14.out; have hlx_ := (show ((rd_L2 l0 x7_2).drop ((ji11) : Int).toNat).length = ((rd_L2 l0 x7_2).length - (ji11).toNat) from List.length_drop); omega); intro v478 w21 ho hb hg hat; rw [← Ny477.out] at ho; replace HO_6 := aZ (Kd.S_after (ok := (fun _ => True)) (lZS HO_6.out) hg hat); replace HB := aZ (hb); have HO479 := aZ (ho); clear HO474; clear ho hb hg hat; obtain ⟨Ao23, co23, eo23⟩ := Kd.R_slice HO479.out; subst eo23) | ((with_reducible refine gate_builtin (b := .append) (xs := #[.tmp 33, .tmp 43]) rfl ?_); at_builtin; refine Kd.S_append (Kd.slice 3 (Kd.int .i64)) (w0 := w) w.heap.size rfl (.tmp 33) (.tmp 43) 25 24 (.slice none 0 0) 24 rfl Try.underlying25 info24 rfl (by decide) (by omega) u6 x6_2 y477 [.slice Ao23 y477.length co23] (fun _ => True) (fun k_ => some k_ = (.slice Ao23 y477.length co23 : Value).ownBlock) rfl rfl ?aP (fun k_ hk_ => ((Kd.R_mono (ok' := fun k_ => ((fun _ => True)) k_ ∧ some k_ ≠ (u6 : Value).ownBlock) (Kd.R_apart' (HO479.out) (Kd.S_typed HO_6.out) (by decide)) (fun k_ hk => ⟨trivial, hk.2⟩))).1 k_ hk_.symm) ?aF ?aO ?aB ?aS ?aL ?_; (case aP => exact Kd.M_row (Kd.R_mono (Kd.R_tight rfl (Kd.R_mono (ok' := fun k_ => ((fun _ => True)) k_ ∧ some k_ ≠ (u6 : Value).ownBlock) (Kd.R_apart' (HO479.out) (Kd.S_typed HO_6.out) (by decide)) (fun k_ hk => ⟨trivial, hk.2⟩))) (fun _ h_ => h_))); (case aB => exact (lZB HB.out)); (case aF => exact (fun _ _ => trivial)); (case aO => exact (by (with_reducible repeat (first | apply Kd.S_alloc | apply Kd.S_drewN | apply Kd.S_drew)); exact Kd.S_mono HO_6.out (fun k_ hk => ⟨trivial, fun e_ => hk.2 e_⟩))); (case aS => exact (below_size (lZB HB.out))); (case aL => have := LMc15.out; omega); intro v481 w22 ho hb hg hat; rw [← Ny480.out] at ho; replace HB := aZ (hb); have HO482 := aZ (ho); clear HO_6 HO479; clear ho hb hg hat))
     go_roundg k2
     case measure => have := HK1.out; have := HK2.out; omega
     case rel => exact ⟨(y480), (wrap64 (x7_2 + 1)), tZB, H', ⟨by have := HK1.out; have := HK2.out; omega⟩, ⟨lZS HO482.out⟩, ⟨bZ⟩⟩
end Go.Proofs.Ytadehdkmggpehaa.PFnMutualWhole
