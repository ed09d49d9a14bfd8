import Derived.Test.YtadehdkmggpehaaUPFnMutualWholex0
import Derived.Test.YtadehdkmggpehaaUPFnMutualWholex5
import Derived.Test.YtadehdkmggpehaaUPFnMutualWholex6
import Derived.Test.YtadehdkmggpehaaUSlimWords
namespace Go.Proofs.Ytadehdkmggpehaa.PFnMutualWhole
open Go.Proofs.Ytadehdkmggpehaa.SlimWords
open Go.RowKit Go.Proofs.YtadehdkmggpehaaW.PrintWords Go.Proofs.YtadehdkmggpehaaW.PrintLast Go.Proofs.YtadehdkmggpehaaW.PrintMore Go.Proofs.Ytadehdkmggpehaa.MapWords Go.Proofs.Ytadehdkmggpehaa.IterWords Go.Proofs.Ytadehdkmggpehaa.MarkWords Go.Proofs.Ytadehdkmggpehaa.ArrWords
attribute [local go_sem] ptrOf_slice max2_int min2_int max_two min_two max_three min_three max_four min_four
set_option linter.unusedVariables false
set_option linter.unusedSimpArgs false
mutual
def impl_Shares.j0 : Nat → Int → List Int → Bool → Option (List Int)
  | 0, _, _, _ => none
  | k + 1, x0, x1, x28 => if x28 = true then (some ([] : List Int)) else (impl_Shares.l0 k x0 x1 x1 (x1.length : Int) 0)
def impl_Shares.l0 : Nat → Int → List Int → List Int → Int → Int → Option (List Int)
  | 0, _, _, _, _, _ => none
  | k + 1, x0, x1, x29, x30, x31 => if x31 < x30 then (if 0 ≤ x31 then (if x31 < (x29.length : Int) then ((impl_factor.f (rd x29 x31)).bind fun t379 => (if t379 = true then (impl_Shares.l0 k x0 x1 x29 x30 (wrap64 (x31 + 1))) else (some ([] : List Int)))) else (none)) else (none)) else ((impl_sumOf.f k x1).bind fun t380 => (if t380 = 0 then (some ([] : List Int)) else (if 0 ≤ (x1.length : Int) then (if ((x1.length : Int) : Int).toNat ≤ 35184372088832 then (if ((x1.length : Int) : Int).toNat ≤ 17592186044416 then (impl_Shares.l1 k x0 t380 (List.replicate ((x1.length : Int) : Int).toNat 0) (List.replicate ((x1.length : Int) : Int).toNat z93) x1 (x1.length : Int) 0) else (none)) else (none)) else (none))))
def impl_Shares.l1 : Nat → Int → Int → List Int → List (S93) → List Int → Int → Int → Option (List Int)
  | 0, _, _, _, _, _, _, _ => none
  | k + 1, x0, x7, x8, x9, x49, x50, x51 => if x51 < x50 then (if 0 ≤ x51 then (if x51 < (x49.length : Int) then (if x7 = 0 then (none) else (if x51 < (x8.length : Int) then ((some (x8.set (x51 : Int).toNat (wrap64 (Int.tdiv (wrap64 (x0 * (rd x49 x51))) x7)) : List Int)).bind fun y388 => (if (Int.tmod (wrap64 (x0 * (rd x49 x51))) x7) < 0 then (if x51 < (x9.length : Int) then (impl_Shares.l1 k x0 x7 y388 (x9.set (x51 : Int).toNat (⟨x51, wrap64 (-(Int.tmod (wrap64 (x0 * (rd x49 x51))) x7))⟩ : S93)) x49 x50 (wrap64 (x51 + 1))) else (none)) else (if x51 < (x9.length : Int) then (impl_Shares.l1 k x0 x7 y388 (x9.set (x51 : Int).toNat (⟨x51, Int.tmod (wrap64 (x0 * (rd x49 x51))) x7⟩ : S93)) x49 x50 (wrap64 (x51 + 1))) else (none)))) else (none))) else (none)) else (none)) else ((impl_sumOf.f k x8).bind fun t391 => (if (wrap64 (x0 - t391)) < 0 then (impl_Shares.j3 k x8 x9 (wrap64 (-(wrap64 (x0 - t391)))) (-1)) else (impl_Shares.j3 k x8 x9 (wrap64 (x0 - t391)) 1)))
def impl_Shares.j3 : Nat → List Int → List (S93) → Int → Int → Option (List Int)
  | 0, _, _, _, _ => none
  | k + 1, x8, x9, x13, x14 => (impl_cutOff.f k x9 ()).bind fun t392 => (impl_Shares.l2 k x8 t392 x13 x14 0)
def impl_Shares.l2 : Nat → List Int → List (S93) → Int → Int → Int → Option (List Int)
  | 0, _, _, _, _, _ => none
  | k + 1, x8, x9, x13, x14, x15 => if x15 < x13 then (if 0 ≤ x15 then (if x15 < (x9.length : Int) then (if 0 ≤ ((rd_T93 x9 x15).f0) then (if ((rd_T93 x9 x15).f0) < (x8.length : Int) then (impl_Shares.l2 k (x8.set (((rd_T93 x9 x15).f0) : Int).toNat (wrap64 ((rd x8 ((rd_T93 x9 x15).f0)) + x14))) x9 x13 x14 (wrap64 (x15 + 1))) else (none)) else (none)) else (none)) else (none)) else (some x8)
end
def impl_Shares.f (k : Nat) (a0 : Int) (l1 : List Int) : Option (List Int) := (impl_amount.f a0).bind fun t377 => (if t377 = true then (if (l1.length : Int) = 0 then (impl_Shares.j0 k a0 l1 true) else (impl_Shares.j0 k a0 l1 (decide ((l1.length : Int) > 200)))) else (impl_Shares.j0 k a0 l1 true))
theorem impl_Shares.mono_l : ∀ k, (∀ y0 y1 y2, LeO (impl_Shares.j0 k y0 y1 y2) (impl_Shares.j0 (k + 1) y0 y1 y2)) ∧ (∀ y0 y1 y2 y3 y4, LeO (impl_Shares.l0 k y0 y1 y2 y3 y4) (impl_Shares.l0 (k + 1) y0 y1 y2 y3 y4)) ∧ (∀ y0 y1 y2 y3 y4 y5 y6, LeO (impl_Shares.l1 k y0 y1 y2 y3 y4 y5 y6) (impl_Shares.l1 (k + 1) y0 y1 y2 y3 y4 y5 y6)) ∧ (∀ y0 y1 y2 y3, LeO (impl_Shares.j3 k y0 y1 y2 y3) (impl_Shares.j3 (k + 1) y0 y1 y2 y3)) ∧ (∀ y0 y1 y2 y3 y4, LeO (impl_Shares.l2 k y0 y1 y2 y3 y4) (impl_Shares.l2 (k + 1) y0 y1 y2 y3 y4))
  | 0 => ⟨fun _ _ _ r h => by simp [impl_Shares.j0] at h, fun _ _ _ _ _ r h => by simp [impl_Shares.l0] at h, fun _ _ _ _ _ _ _ r h => by simp [impl_Shares.l1] at h, fun _ _ _ _ r h => by simp [impl_Shares.j3] at h, fun _ _ _ _ _ r h => by simp [impl_Shares.l2] at h⟩
  | k + 1 => by
    obtain ⟨ih0, ih1, ih2, ih3, ih4⟩ := impl_Shares.mono_l k
    refine ⟨?_, ?_, ?_, ?_, ?_⟩
    · intro y0 y1 y2
      unfold impl_Shares.j0
      repeat' first
      | (with_reducible exact ih0 _ _ _)
      | (with_reducible exact ih1 _ _ _ _ _)
      | (with_reducible exact ih2 _ _ _ _ _ _ _)
      | (with_reducible exact ih3 _ _ _ _)
      | (with_reducible exact ih4 _ _ _ _ _)
      | (with_reducible exact impl_cutOff.mono _ _ _)
      | (with_reducible exact impl_sumOf.mono _ _)
      | (with_reducible exact LeO.refl _)
      | (with_reducible exact LeO.none _)
      | (with_reducible refine LeO.ite ?_ ?_)
      | (with_reducible refine LeO.bind ?_ (fun _ => ?_))
      | exact ih0 _ _ _
      | exact ih1 _ _ _ _ _
      | exact ih2 _ _ _ _ _ _ _
      | exact ih3 _ _ _ _
      | exact ih4 _ _ _ _ _
      | exact impl_cutOff.mono _ _ _
      | exact impl_sumOf.mono _ _
      | exact LeO.none _
      | refine LeO.ite ?_ ?_
      | refine LeO.bind ?_ (fun _ => ?_)
    · intro y0 y1 y2 y3 y4
      unfold impl_Shares.l0
      repeat' first
      | (with_reducible exact ih0 _ _ _)
      | (with_reducible exact ih1 _ _ _ _ _)
      | (with_reducible exact ih2 _ _ _ _ _ _ _)
      | (with_reducible exact ih3 _ _ _ _)
      | (with_reducible exact ih4 _ _ _ _ _)
      | (with_reducible exact impl_cutOff.mono _ _ _)
      | (with_reducible exact impl_sumOf.mono _ _)
      | (with_reducible exact LeO.refl _)
      | (with_reducible exact LeO.none _)
      | (with_reducible refine LeO.ite ?_ ?_)
      | (with_reducible refine LeO.bind ?_ (fun _ => ?_))
      | exact ih0 _ _ _
      | exact ih1 _ _ _ _ _
      | exact ih2 _ _ _ _ _ _ _
      | exact ih3 _ _ _ _
      | exact ih4 _ _ _ _ _
      | exact impl_cutOff.mono _ _ _
      | exact impl_sumOf.mono _ _
      | exact LeO.none _
      | refine LeO.ite ?_ ?_
      | refine LeO.bind ?_ (fun _ => ?_)
    · intro y0 y1 y2 y3 y4 y5 y6
      unfold impl_Shares.l1
      repeat' first
      | (with_reducible exact ih0 _ _ _)
      | (with_reducible exact ih1 _ _ _ _ _)
      | (with_reducible exact ih2 _ _ _ _ _ _ _)
      | (with_reducible exact ih3 _ _ _ _)
      | (with_reducible exact ih4 _ _ _ _ _)
      | (with_reducible exact impl_cutOff.mono _ _ _)
      | (with_reducible exact impl_sumOf.mono _ _)
      | (with_reducible exact LeO.refl _)
      | (with_reducible exact LeO.none _)
      | (with_reducible refine LeO.ite ?_ ?_)
      | (with_reducible refine LeO.bind ?_ (fun _ => ?_))
      | exact ih0 _ _ _
      | exact ih1 _ _ _ _ _
      | exact ih2 _ _ _ _ _ _ _
      | exact ih3 _ _ _ _
      | exact ih4 _ _ _ _ _
      | exact impl_cutOff.mono _ _ _
      | exact impl_sumOf.mono _ _
      | exact LeO.none _
      | refine LeO.ite ?_ ?_
      | refine LeO.bind ?_ (fun _ => ?_)
    · intro y0 y1 y2 y3
      unfold impl_Shares.j3
      repeat' first
      | (with_reducible exact ih0 _ _ _)
      | (with_reducible exact ih1 _ _ _ _ _)
      | (with_reducible exact ih2 _ _ _ _ _ _ _)
      | (with_reducible exact ih3 _ _ _ _)
      | (with_reducible exact ih4 _ _ _ _ _)
      | (with_reducible exact impl_cutOff.mono _ _ _)
      | (with_reducible exact impl_sumOf.mono _ _)
      | (with_reducible exact LeO.refl _)
      | (with_reducible exact LeO.none _)
      | (with_reducible refine LeO.ite ?_ ?_)
      | (with_reducible refine LeO.bind ?_ (fun _ => ?_))
      | exact ih0 _ _ _
      | exact ih1 _ _ _ _ _
      | exact ih2 _ _ _ _ _ _ _
      | exact ih3 _ _ _ _
      | exact ih4 _ _ _ _ _
      | exact impl_cutOff.mono _ _ _
      | exact impl_sumOf.mono _ _
      | exact LeO.none _
      | refine LeO.ite ?_ ?_
      | refine LeO.bind ?_ (fun _ => ?_)
    · intro y0 y1 y2 y3 y4
      unfold impl_Shares.l2
      repeat' first
      | (with_reducible exact ih0 _ _ _)
      | (with_reducible exact ih1 _ _ _ _ _)
      | (with_reducible exact ih2 _ _ _ _ _ _ _)
      | (with_reducible exact ih3 _ _ _ _)
      | (with_reducible exact ih4 _ _ _ _ _)
      | (with_reducible exact impl_cutOff.mono _ _ _)
      | (with_reducible exact impl_sumOf.mono _ _)
      | (with_reducible exact LeO.refl _)
      | (with_reducible exact LeO.none _)
      | (with_reducible refine LeO.ite ?_ ?_)
      | (with_reducible refine LeO.bind ?_ (fun _ => ?_))
      | exact ih0 _ _ _
      | exact ih1 _ _ _ _ _
      | exact ih2 _ _ _ _ _ _ _
      | exact ih3 _ _ _ _
      | exact ih4 _ _ _ _ _
      | exact impl_cutOff.mono _ _ _
      | exact impl_sumOf.mono _ _
      | exact LeO.none _
      | refine LeO.ite ?_ ?_
      | refine LeO.bind ?_ (fun _ => ?_)
theorem impl_Shares.mono : ∀ a0 a1 k, LeO (impl_Shares.f k a0 a1) (impl_Shares.f (k + 1) a0 a1) := by
 intro a0 a1 k
 obtain ⟨ih0, ih1, ih2, ih3, ih4⟩ := impl_Shares.mono_l k
 unfold impl_Shares.f
 repeat' first
     | (with_reducible exact ih0 _ _ _)
     | (with_reducible exact ih1 _ _ _ _ _)
     | (with_reducible exact ih2 _ _ _ _ _ _ _)
     | (with_reducible exact ih3 _ _ _ _)
     | (with_reducible exact ih4 _ _ _ _ _)
     | (with_reducible exact impl_cutOff.mono _ _ _)
     | (with_reducible exact impl_sumOf.mono _ _)
     | (with_reducible exact LeO.refl _)
     | (with_reducible exact LeO.none _)
     | (with_reducible refine LeO.ite ?_ ?_)
     | (with_reducible refine LeO.bind ?_ (fun _ => ?_))
     | exact ih0 _ _ _
     | exact ih1 _ _ _ _ _
     | exact ih2 _ _ _ _ _ _ _
     | exact ih3 _ _ _ _
     | exact ih4 _ _ _ _ _
     | exact impl_cutOff.mono _ _ _
     | exact impl_sumOf.mono _ _
     | exact LeO.none _
     | refine LeO.ite ?_ ?_
     | refine LeO.bind ?_ (fun _ => ?_)
set_option maxHeartbeats 8000000 in
set_option maxRecDepth 100000 in
theorem impl_Shares.calls (k : Nat) (a0 : Int) (A1 : Option Addr) (c1 : Nat) (l1 : List Int) (r : List Int) (w : World) (hr1 : Kd.C (Kd.int .i64) w A1 l1.length l1) (hc1 : l1.length ≤ c1) (h : impl_Shares.f k a0 l1 = some r) :
    Calls Try.prog 41 #[.int .i64 a0, .slice A1 l1.length c1] w fun e w' => ∃ v0_ : Value, e = .returned (v0_) ∧ Kd.R (Kd.int .i64) 3 w' w.heap.size (fun _ => True) v0_ r ∧ Below w.heap.size w w' := by
 have hu93 := Try.underlying93; have HR1 := Aside0.mk hr1; have HC1 := Aside0.mk hc1; clear hr1 hc1; have HB := aZ (Below.refl w.heap.size w); have H : ((impl_amount.f a0).bind fun t377 => (if t377 = true then (if (l1.length : Int) = 0 then (impl_Shares.j0 k a0 l1 true) else (impl_Shares.j0 k a0 l1 (decide ((l1.length : Int) > 200)))) else (impl_Shares.j0 k a0 l1 true))) = some r := h; clear h; have HC3 := Aside0.mk H; clear H; go_enter Try.func41, Try.ntmps41
 go_upto_region 1 with (fail)
 go_cut [28] (fun v28 wc => ∃ (kq : Nat) (x28_2 : Bool), v28 = .bool x28_2 ∧ Aside0 (impl_Shares.j0 kq a0 l1 x28_2 = some r) ∧ Aside0 (kq ≤ k) ∧ Aside0 (Below w.heap.size w wc))
 case first =>
  have H := HC3.out; clear HC3; replace H := Option.bind_eq_some_iff.mp H; obtain ⟨t377, A40, H⟩ := H; replace H : (if t377 = true then (if (l1.length : Int) = 0 then (impl_Shares.j0 k a0 l1 true) else (impl_Shares.j0 k a0 l1 (decide ((l1.length : Int) > 200)))) else (impl_Shares.j0 k a0 l1 true)) = some r := H; have A4 := Aside0.mk A40; clear A40
  by_cases c5 : t377 = true
  rotate_left
  ·replace c5 := Bool.eq_false_iff.mpr c5; subst c5; rw [if_neg Bool.false_ne_true] at H; have H' := Aside0.mk H; clear H
   go_wp2_with (first | ((with_reducible refine gate_callee (f := 54) rfl ?_); refine goesL_ (some 17) rfl rfl Try.func54 kZ rfl #[.int .i64 a0] rfl tZA ?_; (with_reducible refine (impl_amount.calls a0 false _ A4.out).mono ?_); rintro e w' ⟨rfl, ⟨nd, rfl⟩⟩; refine ⟨_, rfl, ?_⟩))
   go_meet
   case rel => exact ⟨_, (true), tZB, H', ⟨by first | omega | exact Nat.le_refl _⟩, ⟨bZ⟩⟩
  subst c5; rw [if_pos rfl] at H
  by_cases c6 : (l1.length : Int) = 0
  ·rw [if_pos c6] at H; have c6b0 : ((l1.length : Int) == 0) = true := beq_iff_eq.mpr c6; have c6b1 : ((l1.length : Int) != 0) = false := bne_eq_false_iff_eq.mpr c6; clear c6; (first | rw [c6b0] | (simp only [i64_w, i32_w]; rw [c6b0]) | skip); have H' := Aside0.mk H; clear H
   go_wp2_with (first | ((with_reducible refine gate_callee (f := 54) rfl ?_); refine goesL_ (some 17) rfl rfl Try.func54 kZ rfl #[.int .i64 a0] rfl tZA ?_; (with_reducible refine (impl_amount.calls a0 true _ A4.out).mono ?_); rintro e w' ⟨rfl, ⟨nd, rfl⟩⟩; refine ⟨_, rfl, ?_⟩))
   go_meet
   case rel => exact ⟨_, (true), tZB, H', ⟨by first | omega | exact Nat.le_refl _⟩, ⟨bZ⟩⟩
  rw [if_neg c6] at H; have c6b0 : ((l1.length : Int) == 0) = false := beq_eq_false_iff_ne.mpr c6; have c6b1 : ((l1.length : Int) != 0) = true := bne_iff_ne.mpr c6; have c6b2 : ¬ (l1 = []) := fun h_ => c6 (by rw [h_]; rfl)
  (first | rw [c6b0] | (simp only [i64_w, i32_w]; rw [c6b0]) | skip); have H' := Aside0.mk H; clear H
  go_wp2_with (first | ((with_reducible refine gate_callee (f := 54) rfl ?_); refine goesL_ (some 17) rfl rfl Try.func54 kZ rfl #[.int .i64 a0] rfl tZA ?_; (with_reducible refine (impl_amount.calls a0 true _ A4.out).mono ?_); rintro e w' ⟨rfl, ⟨nd, rfl⟩⟩; refine ⟨_, rfl, ?_⟩))
  go_meet
  case rel => exact ⟨_, (decide ((l1.length : Int) > 200)), tZB, H', ⟨by first | omega | exact Nat.le_refl _⟩, ⟨bZ⟩⟩
 case rest =>
  clear HC3; obtain ⟨kq, x28_2, rfl, HA, HJ2, HB⟩ := hcut
  cases kq with
  | zero => exact absurd HA.out (by simp [impl_Shares.j0])
  | succ kj2 =>
   have H := HA.out; clear HA; simp only [impl_Shares.j0] at H
   by_cases c7 : x28_2 = true
   ·subst c7; rw [if_pos rfl] at H; obtain rfl := Option.some.inj H; go_wp2; go_ret; exact ⟨_, tZC, by first | exact Kd.R_nil _ _ _ _ _ | exact Kd.N_nil _ _ _ _ _ | exact Kd.V_nil _ _ _ _ _ | exact Kd.Q_nil _ _ _ _ _ | exact Kd.S_nil _ _ _ _ _, bZ⟩
   replace c7 := Bool.eq_false_iff.mpr c7; subst c7; rw [if_neg Bool.false_ne_true] at H; have H' := Aside0.mk H; clear H; go_wp2
   go_loopg [31] kj2 (fun kq v31 w' => ∃ (x31_2 : Int), v31 = .int .i64 x31_2 ∧ Aside0 (impl_Shares.l0 kq a0 l1 l1 (l1.length : Int) x31_2 = some r) ∧ Aside0 (kq ≤ kj2) ∧ Aside0 (Below w.heap.size w w'))
   case atStart => exact ⟨(0), tZB, H', ⟨Nat.le_refl _⟩, ⟨bZ⟩⟩
   case round =>
    clear H'; obtain ⟨x31_2, rfl, HA, HK2, HB⟩ := hrel
    cases gk with
    | zero => exact absurd HA.out (by simp [impl_Shares.l0])
    | succ k2 =>
     have H := HA.out; clear HA; simp only [impl_Shares.l0] at H
     by_cases c8 : x31_2 < (l1.length : Int)
     ·rw [if_pos c8] at H; have c8b0 := decide_eq_true c8; clear c8
      by_cases c9 : 0 ≤ x31_2
      rotate_left
      ·rw [if_neg c9] at H; exact absurd H (by simp)
      rw [if_pos c9] at H; have c9b0 := decide_eq_true c9; clear c9
      by_cases c10 : x31_2 < (l1.length : Int)
      rotate_left
      ·rw [if_neg c10] at H; exact absurd H (by simp)
      rw [if_pos c10] at H; have c10b0 := decide_eq_true c10; clear c10; replace H := Option.bind_eq_some_iff.mp H; obtain ⟨t379, A110, H⟩ := H; replace H : (if t379 = true then (impl_Shares.l0 k2 a0 l1 l1 (l1.length : Int) (wrap64 (x31_2 + 1))) else (some ([] : List Int))) = some r := H; have A11 := Aside0.mk A110; clear A110
      by_cases c12 : t379 = true
      ·subst c12; rw [if_pos rfl] at H; have H' := Aside0.mk H; clear H; have p378 : 0 ≤ (x31_2 : Int) := of_decide_eq_true tZE; have q378 : x31_2 < (l1.length : Int) := of_decide_eq_true tZE; obtain ⟨ad378, e378, hx378_0⟩ := Kd.at_int HR1.out x31_2 p378 q378
       cases e378
       replace hx378_0 := cZ HB hx378_0; replace p378 := eq_true p378; replace q378 := eq_true q378
       go_wp2_with (first | ((with_reducible refine gate_callee (f := 63) rfl ?_); refine goesL_ (some 36) rfl rfl Try.func63 kZ rfl #[.int .i64 (rd l1 x31_2)] rfl tZA ?_; (with_reducible refine (impl_factor.calls (rd l1 x31_2) true _ A11.out).mono ?_); rintro e w' ⟨rfl, ⟨nd, rfl⟩⟩; refine ⟨_, rfl, ?_⟩))
       go_roundg k2
       case measure => have := HJ2.out; have := HK2.out; omega
       case rel => exact ⟨(wrap64 (x31_2 + 1)), tZB, H', ⟨by have := HJ2.out; have := HK2.out; omega⟩, ⟨bZ⟩⟩
      replace c12 := Bool.eq_false_iff.mpr c12; subst c12; rw [if_neg Bool.false_ne_true] at H; obtain rfl := Option.some.inj H; have p378 : 0 ≤ (x31_2 : Int) := of_decide_eq_true tZE; have q378 : x31_2 < (l1.length : Int) := of_decide_eq_true tZE; obtain ⟨ad378, e378, hx378_0⟩ := Kd.at_int HR1.out x31_2 p378 q378
      cases e378
      replace hx378_0 := cZ HB hx378_0; replace p378 := eq_true p378; replace q378 := eq_true q378
      go_wp2_with (first | ((with_reducible refine gate_callee (f := 63) rfl ?_); refine goesL_ (some 36) rfl rfl Try.func63 kZ rfl #[.int .i64 (rd l1 x31_2)] rfl tZA ?_; (with_reducible refine (impl_factor.calls (rd l1 x31_2) false _ A11.out).mono ?_); rintro e w' ⟨rfl, ⟨nd, rfl⟩⟩; refine ⟨_, rfl, ?_⟩))
      go_ret; exact ⟨_, tZC, by first | exact Kd.R_nil _ _ _ _ _ | exact Kd.N_nil _ _ _ _ _ | exact Kd.V_nil _ _ _ _ _ | exact Kd.Q_nil _ _ _ _ _ | exact Kd.S_nil _ _ _ _ _, bZ⟩
     rw [if_neg c8] at H; have c8b0 := decide_eq_false c8; clear c8; replace H := Option.bind_eq_some_iff.mp H; obtain ⟨t380, A130, H⟩ := H; replace H : (if t380 = 0 then (some ([] : List Int)) else (if 0 ≤ (l1.length : Int) then (if ((l1.length : Int) : Int).toNat ≤ 35184372088832 then (if ((l1.length : Int) : Int).toNat ≤ 17592186044416 then (impl_Shares.l1 k2 a0 t380 (List.replicate ((l1.length : Int) : Int).toNat 0) (List.replicate ((l1.length : Int) : Int).toNat z93) l1 (l1.length : Int) 0) else (none)) else (none)) else (none))) = some r := H; have A13 := Aside0.mk A130; clear A130
     by_cases c14 : t380 = 0
     ·rw [if_pos c14] at H; have c14b0 : (t380 == 0) = true := beq_iff_eq.mpr c14; have c14b1 : (t380 != 0) = false := bne_eq_false_iff_eq.mpr c14; clear c14; obtain rfl := Option.some.inj H
      go_wp2_with (first | ((with_reducible refine gate_callee (f := 52) rfl ?_); refine goesL_ (some 40) rfl rfl Try.func52 kZ rfl #[.slice A1 l1.length c1] rfl tZA ?_; (with_reducible refine (impl_sumOf.calls k2 _ _ l1 t380 _ ?side1 ?side2 A13.out).mono ?_); (case side1 => repeat (first | exact (Kd.C_below HR1.out HB.out) | (with_reducible refine Kd.C_alloc ?_ _) | (with_reducible refine Kd.C_drewN ?_ _) | (with_reducible refine Kd.C_drew ?_))); (case side2 => exact HC1.out); rintro e w' ⟨rfl, ⟨nd, rfl⟩⟩; refine ⟨_, rfl, ?_⟩))
      go_ret; exact ⟨_, tZC, by first | exact Kd.R_nil _ _ _ _ _ | exact Kd.N_nil _ _ _ _ _ | exact Kd.V_nil _ _ _ _ _ | exact Kd.Q_nil _ _ _ _ _ | exact Kd.S_nil _ _ _ _ _, bZ⟩
     rw [if_neg c14] at H; have c14b0 : (t380 == 0) = false := beq_eq_false_iff_ne.mpr c14; have c14b1 : (t380 != 0) = true := bne_iff_ne.mpr c14
     by_cases c15 : 0 ≤ (l1.length : Int)
     rotate_left
     ·rw [if_neg c15] at H; exact absurd H (by simp)
     rw [if_pos c15] at H; have c15b0 := eq_true c15; have c15b1 := decide_eq_true c15; clear c15
     by_cases c16 : ((l1.length : Int) : Int).toNat ≤ 35184372088832
     rotate_left
     ·rw [if_neg c16] at H; exact absurd H (by simp)
     rw [if_pos c16] at H; have c16b0 := eq_true c16; have c16b1 := decide_eq_true c16; clear c16; obtain ⟨y381, hy381⟩ : ∃ y_ : List Int, y_ = (List.replicate ((l1.length : Int) : Int).toNat 0) := ⟨_, rfl⟩; replace H : (if ((l1.length : Int) : Int).toNat ≤ 17592186044416 then (impl_Shares.l1 k2 a0 t380 y381 (List.replicate ((l1.length : Int) : Int).toNat z93) l1 (l1.length : Int) 0) else (none)) = some r := by first | (rw [hy381]; with_reducible exact H) | (have H2_ := (Option.bind_some _ _).symm.trans H; rw [hy381]; with_reducible exact H2_) | (have H2_ := (Option.bind_some _ _).symm.trans H; with_reducible exact H2_) | with_reducible exact H | (rw [hy381]; exact H) | exact H
     have Ny381 := Aside0.mk hy381; clear hy381
     by_cases c17 : ((l1.length : Int) : Int).toNat ≤ 17592186044416
     rotate_left
     ·rw [if_neg c17] at H; exact absurd H (by simp)
     rw [if_pos c17] at H; have c17b0 := eq_true c17; have c17b1 := decide_eq_true c17; clear c17; obtain ⟨y384, hy384⟩ : ∃ y_ : List (S93), y_ = (List.replicate ((l1.length : Int) : Int).toNat z93) := ⟨_, rfl⟩; replace H : (impl_Shares.l1 k2 a0 t380 y381 y384 l1 (l1.length : Int) 0) = some r := by first | (rw [hy384]; with_reducible exact H) | (have H2_ := (Option.bind_some _ _).symm.trans H; rw [hy384]; with_reducible exact H2_) | (have H2_ := (Option.bind_some _ _).symm.trans H; with_reducible exact H2_) | with_reducible exact H | (rw [hy384]; exact H) | exact H
     have Ny384 := Aside0.mk hy384; clear hy384; have H' := Aside0.mk H; clear H
     go_wp2_with (first | ((with_reducible refine gate_callee (f := 52) rfl ?_); refine goesL_ (some 40) rfl rfl Try.func52 kZ rfl #[.slice A1 l1.length c1] rfl tZA ?_; (with_reducible refine (impl_sumOf.calls k2 _ _ l1 t380 _ ?side1 ?side2 A13.out).mono ?_); (case side1 => repeat (first | exact (Kd.C_below HR1.out HB.out) | (with_reducible refine Kd.C_alloc ?_ _) | (with_reducible refine Kd.C_drewN ?_ _) | (with_reducible refine Kd.C_drew ?_))); (case side2 => exact HC1.out); rintro e w' ⟨rfl, ⟨nd, rfl⟩⟩; refine ⟨_, rfl, ?_⟩) | ((with_reducible refine gate_dst (N := 45) rfl ?_); (try (refine gate_guard (by rfl) ?_; dsimp only)); refine Kd.R_make (Kd.int .i64) _ 3 rfl (N := 45) rfl 24 _ _ rfl (l1.length : Int) rfl rfl Try.underlying24 (.int .i64 0) 8 info3 rfl (by decide) (by omega) 0 (ok := fun _ => True) (okp := fun _ => True) rfl (fun _ hk => hk) trivial (of_decide_eq_true tZE) (Nat.le_trans (Nat.mul_le_mul_right _ (of_decide_eq_true tZE : (l1.length : Int).toNat ≤ 35184372088832)) (by omega)) (Below.refl _ _) (Nat.le_refl _) ?_; intro v382 w18 ho19 hb hg_ hnew_; clear hg_ hnew_; (first | rw [← Ny381.out] at ho19 | (simp only [Int.reduceToNat] at ho19; rw [← Ny381.out] at ho19)); have HO383 := aZ (Kd.R_lower ho19 (below_size (lZB HB.out))); replace HB := aZ (below_step (lZB HB.out) hb); clear hb ho19) | ((with_reducible refine gate_dst (N := 48) rfl ?_); (try (refine gate_guard (by rfl) ?_; dsimp only)); refine Kd.R_make k93 _ 93 rfl (N := 48) rfl 91 _ _ rfl (l1.length : Int) rfl rfl Try.underlying91 (.agg #[(.int .i64 0), (.int .i64 0)]) 16 info93 rfl (by decide) (by omega) z93 (ok := fun _ => True) (okp := fun _ => True) (k93_mkM _ _ _ z93 ) (fun _ hk => hk) trivial (of_decide_eq_true tZE) (Nat.le_trans (Nat.mul_le_mul_right _ (of_decide_eq_true tZE : (l1.length : Int).toNat ≤ 17592186044416)) (by omega)) (Below.refl _ _) (Nat.le_refl _) ?_; intro v385 w20 ho21 hb hg_ hnew_; clear hg_ hnew_; (first | rw [← Ny384.out] at ho21 | (simp only [Int.reduceToNat] at ho21; rw [← Ny384.out] at ho21)); replace HO383 := aZ (Kd.R_below (lZR HO383.out) hb); have HO386 := aZ (Kd.R_lower ho21 (below_size (lZB HB.out))); replace HB := aZ (below_step (lZB HB.out) hb); clear hb ho21))
     go_loopg [51] k2 (fun kq v51 w' => ∃ (x8_3 : List Int) (x9_3 : List (S93)) (x51_3 : Int), v51 = .int .i64 x51_3 ∧ Aside0 (impl_Shares.l1 kq a0 t380 x8_3 x9_3 l1 (l1.length : Int) x51_3 = some r) ∧ Aside0 (kq ≤ k2) ∧ Aside0 (Kd.R (Kd.int .i64) 3 w' w.heap.size (fun _ => True) v382 x8_3) ∧ Aside0 (Kd.R k93 93 w' w.heap.size (fun _ => True) v385 x9_3) ∧ Aside0 (Below w.heap.size w w'))
     case atStart => exact ⟨(y381), (y384), (0), tZB, H', ⟨Nat.le_refl _⟩, ⟨lZR HO383.out⟩, ⟨lZR HO386.out⟩, ⟨bZ⟩⟩
     case round =>
      clear H'; (try clear c1 c8b0 c14 c14b0 c14b1 c15b0 c15b1 c16b0 c16b1 c17b0 c17b1); obtain ⟨x8_3, x9_3, x51_3, rfl, HA, HK3, HO_8, HO_9, HB⟩ := hrel
      cases gk with
      | zero => exact absurd HA.out (by simp [impl_Shares.l1])
      | succ k3 =>
       have H := HA.out; clear HA; simp only [impl_Shares.l1] at H
       by_cases c22 : x51_3 < (l1.length : Int)
       rotate_left
       ·rw [if_neg c22] at H; have c22b0 := decide_eq_false c22; clear c22; replace H := Option.bind_eq_some_iff.mp H; obtain ⟨t391, A410, H⟩ := H; replace H : (if (wrap64 (a0 - t391)) < 0 then (impl_Shares.j3 k3 x8_3 x9_3 (wrap64 (-(wrap64 (a0 - t391)))) (-1)) else (impl_Shares.j3 k3 x8_3 x9_3 (wrap64 (a0 - t391)) 1)) = some r := H; have A41 := Aside0.mk A410; clear A410; have HC42 := Aside0.mk H; clear H; obtain ⟨Ao43, co43, eo43⟩ := Kd.R_slice HO_8.out; subst eo43
        go_upto_if 85 with (first | ((with_reducible refine gate_callee (f := 52) rfl ?_); refine goesL_ (some 82) rfl rfl Try.func52 kZ rfl #[.slice Ao43 x8_3.length co43] rfl tZA ?_; (with_reducible refine (impl_sumOf.calls k3 _ _ x8_3 t391 _ ?side1 ?side2 A41.out).mono ?_); (case side1 => repeat (first | exact (Kd.R_reads' HO_8.out).2.2 | (with_reducible refine Kd.C_alloc ?_ _) | (with_reducible refine Kd.C_drewN ?_ _) | (with_reducible refine Kd.C_drew ?_))); (case side2 => exact (Kd.R_reads' HO_8.out).2.1); rintro e w' ⟨rfl, ⟨nd, rfl⟩⟩; refine ⟨_, rfl, ?_⟩))
        (try simp only [Act.put, sZ1, sZ2, sZ3])
        go_cut [13, 14] (fun v13 v14 wc => ∃ (kq : Nat) (x13_41 : Int) (x14_41 : Int), v13 = .int .i64 x13_41 ∧ v14 = .int .i64 x14_41 ∧ Aside0 (impl_Shares.j3 kq x8_3 x9_3 x13_41 x14_41 = some r) ∧ Aside0 (kq ≤ k3) ∧ Aside0 (Kd.R (Kd.int .i64) 3 wc w.heap.size (fun _ => True) (.slice Ao43 x8_3.length co43) x8_3) ∧ Aside0 (Kd.R k93 93 wc w.heap.size (fun _ => True) v385 x9_3) ∧ Aside0 (Below w.heap.size w wc))
        case first =>
         have H := HC42.out; clear HC42
         by_cases c44 : (wrap64 (a0 - t391)) < 0
         rotate_left
         ·rw [if_neg c44] at H; have c44b0 := decide_eq_false c44; clear c44; (first | rw [c44b0] | (simp only [i64_w, i32_w]; rw [c44b0]) | skip); have H' := Aside0.mk H; clear H; go_wp2; go_meet
          case rel => exact ⟨_, (wrap64 (a0 - t391)), (1), tZB, tZB, H', ⟨by have := HJ2.out; have := HK2.out; have := HK3.out; first | omega | exact Nat.le_refl _⟩, ⟨lZR HO_8.out⟩, ⟨lZR HO_9.out⟩, ⟨bZ⟩⟩
         rw [if_pos c44] at H; have c44b0 := decide_eq_true c44; clear c44; (first | rw [c44b0] | (simp only [i64_w, i32_w]; rw [c44b0]) | skip); have H' := Aside0.mk H; clear H; go_wp2; go_meet
         case rel => exact ⟨_, (wrap64 (-(wrap64 (a0 - t391)))), ((-1)), tZB, tZB, H', ⟨by have := HJ2.out; have := HK2.out; have := HK3.out; first | omega | exact Nat.le_refl _⟩, ⟨lZR HO_8.out⟩, ⟨lZR HO_9.out⟩, ⟨bZ⟩⟩
        case rest =>
         clear HC42; (try clear c1 c8b0 c14 c14b0 c14b1 c15b0 c15b1 c16b0 c16b1 c17b0 c17b1 c22b0); obtain ⟨kq, x13_41, x14_41, rfl, rfl, HA, HJ41, HO_8, HO_9, HB⟩ := hcut
         cases kq with
         | zero => exact absurd HA.out (by simp [impl_Shares.j3])
         | succ kj41 =>
          have H := HA.out; clear HA; simp only [impl_Shares.j3] at H; replace H := Option.bind_eq_some_iff.mp H; obtain ⟨t392, A450, H⟩ := H; replace H : (impl_Shares.l2 kj41 x8_3 t392 x13_41 x14_41 0) = some r := H; have A45 := Aside0.mk A450; clear A450; have H' := Aside0.mk H; clear H; obtain ⟨Ao46, co46, eo46⟩ := Kd.R_slice HO_9.out; subst eo46
          go_wp2_with (first | ((with_reducible refine gate_callee (f := 64) rfl ?_); refine goesL_ (some 89) rfl rfl Try.func64 kZ rfl #[.slice Ao46 x9_3.length co46, .func (.func 65) #[] #[]] rfl tZA ?_; (with_reducible refine (impl_cutOff.calls kj41 (fun k_ => some k_ = (.slice Ao46 x9_3.length co46 : Value).ownBlock) (.slice Ao46 x9_3.length co46) x9_3 () t392 w _ ?side1 ?side2 A45.out).mono ?_); (case side1 => repeat (first | (with_reducible first | exact HB.out | apply below_alloc | apply pw_below_drewN | apply below_drew1) | exact HB.out)); (case side2 => exact Kd.R_tight rfl HO_9.out); rintro e w47 ⟨rfl, hy0, hb, hkp⟩; refine ⟨_, rfl, ?_⟩; replace HO_8 := aZ (Kd.R_mono (ok' := fun k_ => True) (Kd.R_keptB ((Kd.R_apart' HO_8.out (Kd.R_typed HO_9.out) (by decide))) hkp (fun k_ hk_ hs_ => (hk_.2) hs_)) (fun k_ hk_ => trivial)); replace HO_9 := aZ (Kd.R_reok rfl hy0 (fun k_ e_ => HO_9.out.1 k_ e_)); replace HB := aZ (hb); (try clear hb); (try clear hkp); (try clear hy0)))
          go_loopg [15] kj41 (fun kq v15 w' => ∃ (x8_5 : List Int) (x15_5 : Int), v15 = .int .i64 x15_5 ∧ Aside0 (impl_Shares.l2 kq x8_5 t392 x13_41 x14_41 x15_5 = some r) ∧ Aside0 (kq ≤ kj41) ∧ Aside0 (Kd.R (Kd.int .i64) 3 w' w.heap.size (fun _ => True) (.slice Ao43 x8_3.length co43) x8_5) ∧ Aside0 (Kd.R k93 93 w' w.heap.size (fun _ => True) (.slice Ao46 x9_3.length co46) t392) ∧ Aside0 (Below w.heap.size w w'))
          case atStart => exact ⟨(x8_3), (0), tZB, H', ⟨Nat.le_refl _⟩, ⟨lZR HO_8.out⟩, ⟨lZR HO_9.out⟩, ⟨bZ⟩⟩
          case round =>
           clear H'; (try clear c1 c8b0 c14 c14b0 c14b1 c15b0 c15b1 c16b0 c16b1 c17b0 c17b1 c22b0); obtain ⟨x8_5, x15_5, rfl, HA, HK5, HO_8, HO_9, HB⟩ := hrel; have hl8_5 := (Kd.R_reads' HO_8.out).1; rw [hl8_5] at HO_8; (try simp only [hl8_5]); (try simp only [hl8_5] at HO_9); have hl9_5 := (Kd.R_reads' HO_9.out).1; rw [hl9_5] at HO_9; (try simp only [hl9_5]); (try simp only [hl9_5] at HO_8)
           cases gk with
           | zero => exact absurd HA.out (by simp [impl_Shares.l2])
           | succ k5 =>
            have H := HA.out; clear HA; simp only [impl_Shares.l2] at H
            by_cases c48 : x15_5 < x13_41
            rotate_left
            ·rw [if_neg c48] at H; have c48b0 := decide_eq_false c48; clear c48; obtain rfl := Option.some.inj H; go_wp2; go_ret; exact ⟨_, tZC, lZR HO_8.out, bZ⟩
            rw [if_pos c48] at H; have c48b0 := decide_eq_true c48; clear c48
            by_cases c49 : 0 ≤ x15_5
            rotate_left
            ·rw [if_neg c49] at H; exact absurd H (by simp)
            rw [if_pos c49] at H; have c49b0 := decide_eq_true c49; clear c49
            by_cases c50 : x15_5 < (t392.length : Int)
            rotate_left
            ·rw [if_neg c50] at H; exact absurd H (by simp)
            rw [if_pos c50] at H; have c50b0 := decide_eq_true c50; clear c50
            by_cases c51 : 0 ≤ ((rd_T93 t392 x15_5).f0)
            rotate_left
            ·rw [if_neg c51] at H; exact absurd H (by simp)
            rw [if_pos c51] at H; have c51b0 := decide_eq_true c51; clear c51
            by_cases c52 : ((rd_T93 t392 x15_5).f0) < (x8_5.length : Int)
            rotate_left
            ·rw [if_neg c52] at H; exact absurd H (by simp)
            rw [if_pos c52] at H; have c52b0 := decide_eq_true c52; clear c52; obtain ⟨y395, hy395⟩ : ∃ y_ : List Int, y_ = (x8_5.set (((rd_T93 t392 x15_5).f0) : Int).toNat (wrap64 ((rd x8_5 ((rd_T93 t392 x15_5).f0)) + x14_41))) := ⟨_, rfl⟩; replace H : (impl_Shares.l2 k5 y395 t392 x13_41 x14_41 (wrap64 (x15_5 + 1))) = some r := by first | (rw [hy395]; with_reducible exact H) | (have H2_ := (Option.bind_some _ _).symm.trans H; rw [hy395]; with_reducible exact H2_) | (have H2_ := (Option.bind_some _ _).symm.trans H; with_reducible exact H2_) | with_reducible exact H | (rw [hy395]; exact H) | exact H
            have Ny395 := Aside0.mk hy395; clear hy395; have H' := Aside0.mk H; clear H; have p393 : 0 ≤ (x15_5 : Int) := of_decide_eq_true tZE; have q393 : x15_5 < (t392.length : Int) := of_decide_eq_true tZE; obtain ⟨ad393, e393, hx393_0, hx393_1⟩ := at_T93 (Kd.R_reads' HO_9.out).2.2 x15_5 p393 q393
            cases e393
            replace p393 := eq_true p393; replace q393 := eq_true q393; have p394 : 0 ≤ (((rd_T93 t392 x15_5).f0) : Int) := of_decide_eq_true tZE; have q394 : ((rd_T93 t392 x15_5).f0) < (x8_5.length : Int) := of_decide_eq_true tZE; obtain ⟨ad394, e394, hx394_0⟩ := Kd.at_int (Kd.R_reads' HO_8.out).2.2 ((rd_T93 t392 x15_5).f0) p394 q394
            cases e394
            replace p394 := eq_true p394; replace q394 := eq_true q394; have p53 : 0 ≤ (((rd_T93 t392 x15_5).f0) : Int) := of_decide_eq_true tZE; have q53 : (((rd_T93 t392 x15_5).f0) : Int) < ((x8_5.length : Int) : Int) := of_decide_eq_true tZE; obtain ⟨go53, co53, eo53, gb53, gl53, cl53, HG53⟩ := Kd.R_form HO_8.out (by omega); (first | cases eo53 | (injection eo53 with ea_ en_ ec_; (first | subst ea_ | (injection ea_ with ea_; subst ea_)); subst ec_; clear en_)); have GB53 := Aside0.mk gb53; have GG53 := Aside0.mk HG53; clear gb53 gl53 HG53; (first | simp only [add_plain] at hx394_0 | skip); obtain ⟨hx53_0, hf53_0⟩ := Kd.R_celln 0 HO_8.out (((rd_T93 t392 x15_5).f0) : Int) p53 q53; replace p53 := eq_true p53; replace q53 := eq_true q53; have HP54 := Kd.R_putg HO_8.out (((rd_T93 t392 x15_5).f0) : Int) (wrap64 ((rd x8_5 ((rd_T93 t392 x15_5).f0)) + x14_41))
            go_wp2_with (first | ((with_reducible refine gate_store (t := 3) (p := 105) rfl ?_); refine store_event (t := 3) (p := 105) (v := ?vo_w55) (w1 := (wr.setCell ⟨go53, (((rd_T93 t392 x15_5).f0) : Int).toNat, none⟩ (.int .i64 (wrap64 ((rd x8_5 ((rd_T93 t392 x15_5).f0)) + x14_41))))) ?hg ?ho ?hn ?hr ?_; (case ho => rfl); (case hg => rfl); (case hn => rfl); (case hr => first | (go_simp; done) | (go_simp; rfl)); intro w55 hw; have hg : wr.grownBy w55 (some go53) := (by rw [hw]; exact HP54.2); have hp_ : Kd.R (Kd.int .i64) 3 w55 w.heap.size (fun _ => True) (.slice (some ⟨go53, 0, none⟩) x8_5.length co43) y395 := (by rw [hw, Ny395.out]; exact HP54.1); clear HP54; replace HO_9 := aZ (Kd.R_over' (v := (.slice (some ⟨go53, 0, none⟩) x8_5.length co43)) (lZR HO_9.out) (Kd.R_typed HO_8.out) (by decide) hg); replace HO_8 := aZ (hp_); replace HB := aZ ((by rw [hw]; exact below_set (HB.out) GB53.out : Below w.heap.size w w55)); clear hg hw hp_))
            (try simp only [← hl8_5, ← hl9_5])
            go_roundg k5
            case measure => have := HJ2.out; have := HK2.out; have := HK3.out; have := HJ41.out; have := HK5.out; omega
            case rel => exact ⟨(y395), (wrap64 (x15_5 + 1)), tZB, H', ⟨by have := HJ2.out; have := HK2.out; have := HK3.out; have := HJ41.out; have := HK5.out; omega⟩, ⟨by (try simp only [hl8_5]); (try simp only [hl9_5]); (with_reducible repeat (first | apply Kd.R_alloc | apply Kd.R_drewN | apply Kd.R_drew)); exact HO_8.out⟩, ⟨by (try simp only [hl8_5]); (try simp only [hl9_5]); (with_reducible repeat (first | apply Kd.R_alloc | apply Kd.R_drewN | apply Kd.R_drew)); exact HO_9.out⟩, ⟨bZ⟩⟩
       rw [if_pos c22] at H; have c22b0 := decide_eq_true c22; clear c22
       by_cases c23 : 0 ≤ x51_3
       rotate_left
       ·rw [if_neg c23] at H; exact absurd H (by simp)
       rw [if_pos c23] at H; have c23b0 := decide_eq_true c23; clear c23
       by_cases c24 : x51_3 < (l1.length : Int)
       rotate_left
       ·rw [if_neg c24] at H; exact absurd H (by simp)
       rw [if_pos c24] at H; have c24b0 := decide_eq_true c24; clear c24
       by_cases c25 : t380 = 0
       ·rw [if_pos c25] at H; exact absurd H (by simp)
       rw [if_neg c25] at H; have c25b0 : (t380 == 0) = false := beq_eq_false_iff_ne.mpr c25; have c25b1 : (t380 != 0) = true := bne_iff_ne.mpr c25
       by_cases c26 : x51_3 < (x8_3.length : Int)
       rotate_left
       ·rw [if_neg c26] at H; exact absurd H (by simp)
       rw [if_pos c26] at H; have c26b0 := decide_eq_true c26; clear c26; obtain ⟨y388, hy388⟩ : ∃ y_ : List Int, y_ = (x8_3.set (x51_3 : Int).toNat (wrap64 (Int.tdiv (wrap64 (a0 * (rd l1 x51_3))) t380))) := ⟨_, rfl⟩
       replace H : (if (Int.tmod (wrap64 (a0 * (rd l1 x51_3))) t380) < 0 then (if x51_3 < (x9_3.length : Int) then (impl_Shares.l1 k3 a0 t380 y388 (x9_3.set (x51_3 : Int).toNat (⟨x51_3, wrap64 (-(Int.tmod (wrap64 (a0 * (rd l1 x51_3))) t380))⟩ : S93)) l1 (l1.length : Int) (wrap64 (x51_3 + 1))) else (none)) else (if x51_3 < (x9_3.length : Int) then (impl_Shares.l1 k3 a0 t380 y388 (x9_3.set (x51_3 : Int).toNat (⟨x51_3, Int.tmod (wrap64 (a0 * (rd l1 x51_3))) t380⟩ : S93)) l1 (l1.length : Int) (wrap64 (x51_3 + 1))) else (none))) = some r := by first | (rw [hy388]; with_reducible exact H) | (have H2_ := (Option.bind_some _ _).symm.trans H; rw [hy388]; with_reducible exact H2_) | (have H2_ := (Option.bind_some _ _).symm.trans H; with_reducible exact H2_) | with_reducible exact H | (rw [hy388]; exact H) | exact H
       have Ny388 := Aside0.mk hy388; clear hy388
       by_cases c28 : (Int.tmod (wrap64 (a0 * (rd l1 x51_3))) t380) < 0
       rotate_left
       ·rw [if_neg c28] at H; have c28b0 := decide_eq_false c28; clear c28
        by_cases c35 : x51_3 < (x9_3.length : Int)
        rotate_left
        ·rw [if_neg c35] at H; exact absurd H (by simp)
        rw [if_pos c35] at H; have c35b0 := decide_eq_true c35; clear c35; obtain ⟨y390, hy390⟩ : ∃ y_ : List (S93), y_ = (x9_3.set (x51_3 : Int).toNat (⟨x51_3, Int.tmod (wrap64 (a0 * (rd l1 x51_3))) t380⟩ : S93)) := ⟨_, rfl⟩; replace H : (impl_Shares.l1 k3 a0 t380 y388 y390 l1 (l1.length : Int) (wrap64 (x51_3 + 1))) = some r := by first | (rw [hy390]; with_reducible exact H) | (have H2_ := (Option.bind_some _ _).symm.trans H; rw [hy390]; with_reducible exact H2_) | (have H2_ := (Option.bind_some _ _).symm.trans H; with_reducible exact H2_) | with_reducible exact H | (rw [hy390]; exact H) | exact H
        have Ny390 := Aside0.mk hy390; clear hy390; have H' := Aside0.mk H; clear H; have p387 : 0 ≤ (x51_3 : Int) := of_decide_eq_true tZE; have q387 : x51_3 < (l1.length : Int) := of_decide_eq_true tZE; obtain ⟨ad387, e387, hx387_0⟩ := Kd.at_int HR1.out x51_3 p387 q387
        cases e387
        replace hx387_0 := cZ HB hx387_0; replace p387 := eq_true p387; replace q387 := eq_true q387; have p27 : 0 ≤ (x51_3 : Int) := of_decide_eq_true tZE; have q27 : (x51_3 : Int) < ((x8_3.length : Int) : Int) := of_decide_eq_true tZE; obtain ⟨go27, co27, eo27, gb27, gl27, cl27, HG27⟩ := Kd.R_form HO_8.out (by omega); (first | cases eo27 | (injection eo27 with ea_ en_ ec_; (first | subst ea_ | (injection ea_ with ea_; subst ea_)); subst ec_; clear en_)); have GB27 := Aside0.mk gb27; have GG27 := Aside0.mk HG27; clear gb27 gl27 HG27; obtain ⟨hx27_0, hf27_0⟩ := Kd.R_celln 0 HO_8.out (x51_3 : Int) p27 q27; replace p27 := eq_true p27; replace q27 := eq_true q27; have HP37 := Kd.R_putg HO_8.out (x51_3 : Int) (wrap64 (Int.tdiv (wrap64 (a0 * (rd l1 x51_3))) t380))
        go_wp2_with (first | ((with_reducible refine gate_store (t := 3) (p := 63) rfl ?_); refine store_event (t := 3) (p := 63) (v := ?vo_w38) (w1 := (wr.setCell ⟨go27, (x51_3 : Int).toNat, none⟩ (.int .i64 (wrap64 (Int.tdiv (wrap64 (a0 * (rd l1 x51_3))) t380))))) ?hg ?ho ?hn ?hr ?_; (case ho => rfl); (case hg => rfl); (case hn => rfl); (case hr => first | (go_simp; done) | (go_simp; rfl)); intro w38 hw; have hg : wr.grownBy w38 (some go27) := (by rw [hw]; exact HP37.2); have hp_ : Kd.R (Kd.int .i64) 3 w38 w.heap.size (fun _ => True) (.slice (some ⟨go27, 0, none⟩) x8_3.length co27) y388 := (by rw [hw, Ny388.out]; exact HP37.1); clear HP37; replace HO_9 := aZ (Kd.R_over' (v := (.slice (some ⟨go27, 0, none⟩) x8_3.length co27)) (lZR HO_9.out) (Kd.R_typed HO_8.out) (by decide) hg); replace HO_8 := aZ (hp_); replace HB := aZ ((by rw [hw]; exact below_set (HB.out) GB27.out : Below w.heap.size w w38)); clear hg hw hp_; have p36 : 0 ≤ (x51_3 : Int) := of_decide_eq_true tZE; have q36 : (x51_3 : Int) < ((x9_3.length : Int) : Int) := of_decide_eq_true tZE; obtain ⟨go36, co36, eo36, gb36, gl36, cl36, HG36⟩ := Kd.R_form HO_9.out (by omega); (first | cases eo36 | (injection eo36 with ea_ en_ ec_; (first | subst ea_ | (injection ea_ with ea_; subst ea_)); subst ec_; clear en_)); have GB36 := Aside0.mk gb36; have GG36 := Aside0.mk HG36; clear gb36 gl36 HG36; obtain ⟨ce36, hcl36, hM36, hcc36, hfr36⟩ := Kd.R_elem HO_9.out z93 (x51_3 : Int) p36 q36; obtain rfl := k93_openM hM36; have hx36_0 : w38.cell? ⟨go36, (x51_3 : Int).toNat * 2, none⟩ = some (.int .i64 ((rd_T93 x9_3 x51_3).f0)) := hcc36 0 _ rfl; have hx36_1 : w38.cell? ⟨go36, (x51_3 : Int).toNat * 2 + 1, none⟩ = some (.int .i64 ((rd_T93 x9_3 x51_3).f1)) := hcc36 1 _ rfl; have hf36_0 : w38.frozen? ⟨go36, (x51_3 : Int).toNat * 2, none⟩ = false := hfr36 0; have hf36_1 : w38.frozen? ⟨go36, (x51_3 : Int).toNat * 2 + 1, none⟩ = false := hfr36 1; clear hcl36 hcc36 hfr36 hM36; replace p36 := eq_true p36; replace q36 := eq_true q36; have HX39 := aZ (show Kd.R k93 93 w38 w.heap.size (fun _ => True) (.slice (some ⟨go36, 0, none⟩) x9_3.length co36) x9_3 from (lZR HO_9.out)); obtain ⟨ce39, hcl39, hM39, hcc39, hfr39⟩ := Kd.R_elem HX39.out z93 (x51_3 : Int) (of_decide_eq_true tZE) (by have h_ : (x51_3 : Int) < ((x9_3.length : Int) : Int) := of_decide_eq_true tZE; first | exact h_ | (have e_ := (Kd.R_reads' HO_9.out).1; omega) | simpa using h_); obtain rfl := k93_openM hM39; have HP39 := Kd.R_seg HX39.out (x51_3 : Int) (of_decide_eq_true tZE) (by have h_ : (x51_3 : Int) < ((x9_3.length : Int) : Int) := of_decide_eq_true tZE; first | exact h_ | (have e_ := (Kd.R_reads' HO_9.out).1; omega) | simpa using h_) (seg := [.int .i64 x51_3, .int .i64 (Int.tmod (wrap64 (a0 * (rd l1 x51_3))) t380)]) (j := 0) hcl39 hcc39 (show 2 ≤ 2 from by decide) (x' := (⟨x51_3, Int.tmod (wrap64 (a0 * (rd l1 x51_3))) t380⟩ : S93)) (k93_mkM _ _ _ (⟨x51_3, Int.tmod (wrap64 (a0 * (rd l1 x51_3))) t380⟩ : S93) ) (fun _ hk => hk); have hx39_0 := hcc39 0 _ rfl; (try simp only [show (k93).sz = 2 from rfl, Nat.mul_one, Nat.add_zero] at hx39_0); have hf39_0 := hfr39 0; (try simp only [show (k93).sz = 2 from rfl, Nat.mul_one, Nat.add_zero] at hf39_0); have hx39_1 := hcc39 1 _ rfl; (try simp only [show (k93).sz = 2 from rfl, Nat.mul_one, Nat.add_zero] at hx39_1); have hf39_1 := hfr39 1; (try simp only [show (k93).sz = 2 from rfl, Nat.mul_one, Nat.add_zero] at hf39_1); clear hcl39 hcc39 hfr39 hM39) | ((with_reducible refine gate_store (t := 93) (p := 78) rfl ?_); refine store_event (t := 93) (p := 78) (v := ?vo_w40) (w1 := ((w38.setCell ⟨go36, (x51_3 : Int).toNat * 2, none⟩ (.int .i64 x51_3)).setCell ⟨go36, (x51_3 : Int).toNat * 2 + 1, none⟩ (.int .i64 (Int.tmod (wrap64 (a0 * (rd l1 x51_3))) t380)))) ?hg ?ho ?hn ?hr ?_; (case ho => rfl); (case hg => rfl); (case hn => rfl); (case hr => first | (go_simp; done) | (go_simp; rfl)); intro w40 hw; have hg : w38.grownBy w40 (some go36) := (by rw [hw]; exact HP39.2); have hp_ : Kd.R k93 93 w40 w.heap.size (fun _ => True) (.slice (some ⟨go36, 0, none⟩) x9_3.length co36) y390 := (by rw [hw, Ny390.out]; exact HP39.1); clear HP39; replace HO_8 := aZ (Kd.R_over' (v := (.slice (some ⟨go36, 0, none⟩) x9_3.length co36)) (lZR HO_8.out) (Kd.R_typed HO_9.out) (by decide) hg); replace HO_9 := aZ (hp_); replace HB := aZ ((by rw [hw]; exact below_set (below_set (HB.out) GB36.out) GB36.out : Below w.heap.size w w40)); clear hg hw hp_))
        go_roundg k3
        case measure => have := HJ2.out; have := HK2.out; have := HK3.out; omega
        case rel => exact ⟨(y388), (y390), (wrap64 (x51_3 + 1)), tZB, H', ⟨by have := HJ2.out; have := HK2.out; have := HK3.out; omega⟩, ⟨lZR HO_8.out⟩, ⟨lZR HO_9.out⟩, ⟨bZ⟩⟩
       rw [if_pos c28] at H; have c28b0 := decide_eq_true c28; clear c28
       by_cases c29 : x51_3 < (x9_3.length : Int)
       rotate_left
       ·rw [if_neg c29] at H; exact absurd H (by simp)
       rw [if_pos c29] at H; have c29b0 := decide_eq_true c29; clear c29; obtain ⟨y389, hy389⟩ : ∃ y_ : List (S93), y_ = (x9_3.set (x51_3 : Int).toNat (⟨x51_3, wrap64 (-(Int.tmod (wrap64 (a0 * (rd l1 x51_3))) t380))⟩ : S93)) := ⟨_, rfl⟩; replace H : (impl_Shares.l1 k3 a0 t380 y388 y389 l1 (l1.length : Int) (wrap64 (x51_3 + 1))) = some r := by first | (rw [hy389]; with_reducible exact H) | (have H2_ := (Option.bind_some _ _).symm.trans H; rw [hy389]; with_reducible exact H2_) | (have H2_ := (Option.bind_some _ _).symm.trans H; with_reducible exact H2_) | with_reducible exact H | (rw [hy389]; exact H) | exact H
       have Ny389 := Aside0.mk hy389; clear hy389; have H' := Aside0.mk H; clear H; have p387 : 0 ≤ (x51_3 : Int) := of_decide_eq_true tZE; have q387 : x51_3 < (l1.length : Int) := of_decide_eq_true tZE; obtain ⟨ad387, e387, hx387_0⟩ := Kd.at_int HR1.out x51_3 p387 q387
       cases e387
       replace hx387_0 := cZ HB hx387_0; replace p387 := eq_true p387; replace q387 := eq_true q387; have p27 : 0 ≤ (x51_3 : Int) := of_decide_eq_true tZE; have q27 : (x51_3 : Int) < ((x8_3.length : Int) : Int) := of_decide_eq_true tZE; obtain ⟨go27, co27, eo27, gb27, gl27, cl27, HG27⟩ := Kd.R_form HO_8.out (by omega); (first | cases eo27 | (injection eo27 with ea_ en_ ec_; (first | subst ea_ | (injection ea_ with ea_; subst ea_)); subst ec_; clear en_)); have GB27 := Aside0.mk gb27; have GG27 := Aside0.mk HG27; clear gb27 gl27 HG27; obtain ⟨hx27_0, hf27_0⟩ := Kd.R_celln 0 HO_8.out (x51_3 : Int) p27 q27; replace p27 := eq_true p27; replace q27 := eq_true q27; have HP31 := Kd.R_putg HO_8.out (x51_3 : Int) (wrap64 (Int.tdiv (wrap64 (a0 * (rd l1 x51_3))) t380))
       go_wp2_with (first | ((with_reducible refine gate_store (t := 3) (p := 63) rfl ?_); refine store_event (t := 3) (p := 63) (v := ?vo_w32) (w1 := (wr.setCell ⟨go27, (x51_3 : Int).toNat, none⟩ (.int .i64 (wrap64 (Int.tdiv (wrap64 (a0 * (rd l1 x51_3))) t380))))) ?hg ?ho ?hn ?hr ?_; (case ho => rfl); (case hg => rfl); (case hn => rfl); (case hr => first | (go_simp; done) | (go_simp; rfl)); intro w32 hw; have hg : wr.grownBy w32 (some go27) := (by rw [hw]; exact HP31.2); have hp_ : Kd.R (Kd.int .i64) 3 w32 w.heap.size (fun _ => True) (.slice (some ⟨go27, 0, none⟩) x8_3.length co27) y388 := (by rw [hw, Ny388.out]; exact HP31.1); clear HP31; replace HO_9 := aZ (Kd.R_over' (v := (.slice (some ⟨go27, 0, none⟩) x8_3.length co27)) (lZR HO_9.out) (Kd.R_typed HO_8.out) (by decide) hg); replace HO_8 := aZ (hp_); replace HB := aZ ((by rw [hw]; exact below_set (HB.out) GB27.out : Below w.heap.size w w32)); clear hg hw hp_; have p30 : 0 ≤ (x51_3 : Int) := of_decide_eq_true tZE; have q30 : (x51_3 : Int) < ((x9_3.length : Int) : Int) := of_decide_eq_true tZE; obtain ⟨go30, co30, eo30, gb30, gl30, cl30, HG30⟩ := Kd.R_form HO_9.out (by omega); (first | cases eo30 | (injection eo30 with ea_ en_ ec_; (first | subst ea_ | (injection ea_ with ea_; subst ea_)); subst ec_; clear en_)); have GB30 := Aside0.mk gb30; have GG30 := Aside0.mk HG30; clear gb30 gl30 HG30; obtain ⟨ce30, hcl30, hM30, hcc30, hfr30⟩ := Kd.R_elem HO_9.out z93 (x51_3 : Int) p30 q30; obtain rfl := k93_openM hM30; have hx30_0 : w32.cell? ⟨go30, (x51_3 : Int).toNat * 2, none⟩ = some (.int .i64 ((rd_T93 x9_3 x51_3).f0)) := hcc30 0 _ rfl; have hx30_1 : w32.cell? ⟨go30, (x51_3 : Int).toNat * 2 + 1, none⟩ = some (.int .i64 ((rd_T93 x9_3 x51_3).f1)) := hcc30 1 _ rfl; have hf30_0 : w32.frozen? ⟨go30, (x51_3 : Int).toNat * 2, none⟩ = false := hfr30 0; have hf30_1 : w32.frozen? ⟨go30, (x51_3 : Int).toNat * 2 + 1, none⟩ = false := hfr30 1; clear hcl30 hcc30 hfr30 hM30; replace p30 := eq_true p30; replace q30 := eq_true q30; have HX33 := aZ (show Kd.R k93 93 w32 w.heap.size (fun _ => True) (.slice (some ⟨go30, 0, none⟩) x9_3.length co30) x9_3 from (lZR HO_9.out)); obtain ⟨ce33, hcl33, hM33, hcc33, hfr33⟩ := Kd.R_elem HX33.out z93 (x51_3 : Int) (of_decide_eq_true tZE) (by have h_ : (x51_3 : Int) < ((x9_3.length : Int) : Int) := of_decide_eq_true tZE; first | exact h_ | (have e_ := (Kd.R_reads' HO_9.out).1; omega) | simpa using h_); obtain rfl := k93_openM hM33; have HP33 := Kd.R_seg HX33.out (x51_3 : Int) (of_decide_eq_true tZE) (by have h_ : (x51_3 : Int) < ((x9_3.length : Int) : Int) := of_decide_eq_true tZE; first | exact h_ | (have e_ := (Kd.R_reads' HO_9.out).1; omega) | simpa using h_) (seg := [.int .i64 x51_3, .int .i64 (wrap64 (-(Int.tmod (wrap64 (a0 * (rd l1 x51_3))) t380)))]) (j := 0) hcl33 hcc33 (show 2 ≤ 2 from by decide) (x' := (⟨x51_3, wrap64 (-(Int.tmod (wrap64 (a0 * (rd l1 x51_3))) t380))⟩ : S93)) (k93_mkM _ _ _ (⟨x51_3, wrap64 (-(Int.tmod (wrap64 (a0 * (rd l1 x51_3))) t380))⟩ : S93) ) (fun _ hk => hk); have hx33_0 := hcc33 0 _ rfl; (try simp only [show (k93).sz = 2 from rfl, Nat.mul_one, Nat.add_zero] at hx33_0); have hf33_0 := hfr33 0; (try simp only [show (k93).sz = 2 from rfl, Nat.mul_one, Nat.add_zero] at hf33_0); have hx33_1 := hcc33 1 _ rfl; (try simp only [show (k93).sz = 2 from rfl, Nat.mul_one, Nat.add_zero] at hx33_1); have hf33_1 := hfr33 1; (try simp only [show (k93).sz = 2 from rfl, Nat.mul_one, Nat.add_zero] at hf33_1); clear hcl33 hcc33 hfr33 hM33) | ((with_reducible refine gate_store (t := 93) (p := 78) rfl ?_); refine store_event (t := 93) (p := 78) (v := ?vo_w34) (w1 := ((w32.setCell ⟨go30, (x51_3 : Int).toNat * 2, none⟩ (.int .i64 x51_3)).setCell ⟨go30, (x51_3 : Int).toNat * 2 + 1, none⟩ (.int .i64 (wrap64 (-(Int.tmod (wrap64 (a0 * (rd l1 x51_3))) t380)))))) ?hg ?ho ?hn ?hr ?_; (case ho => rfl); (case hg => rfl); (case hn => rfl); (case hr => first | (go_simp; done) | (go_simp; rfl)); intro w34 hw; have hg : w32.grownBy w34 (some go30) := (by rw [hw]; exact HP33.2); have hp_ : Kd.R k93 93 w34 w.heap.size (fun _ => True) (.slice (some ⟨go30, 0, none⟩) x9_3.length co30) y389 := (by rw [hw, Ny389.out]; exact HP33.1); clear HP33; replace HO_8 := aZ (Kd.R_over' (v := (.slice (some ⟨go30, 0, none⟩) x9_3.length co30)) (lZR HO_8.out) (Kd.R_typed HO_9.out) (by decide) hg); replace HO_9 := aZ (hp_); replace HB := aZ ((by rw [hw]; exact below_set (below_set (HB.out) GB30.out) GB30.out : Below w.heap.size w w34)); clear hg hw hp_))
       go_roundg k3
       case measure => have := HJ2.out; have := HK2.out; have := HK3.out; omega
       case rel => exact ⟨(y388), (y389), (wrap64 (x51_3 + 1)), tZB, H', ⟨by have := HJ2.out; have := HK2.out; have := HK3.out; omega⟩, ⟨lZR HO_8.out⟩, ⟨lZR HO_9.out⟩, ⟨bZ⟩⟩
end Go.Proofs.Ytadehdkmggpehaa.PFnMutualWhole
