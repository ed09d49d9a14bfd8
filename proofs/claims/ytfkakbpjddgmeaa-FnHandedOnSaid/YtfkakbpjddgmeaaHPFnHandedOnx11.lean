import Derived.Test.YtfkakbpjddgmeaaHPFnHandedOnx0
import Derived.Test.YtfkakbpjddgmeaaHPFnHandedOnx1
import Derived.Test.YtfkakbpjddgmeaaHPFnHandedOnx3
import Derived.Test.YtfkakbpjddgmeaaHPFnHandedOnx7
import Derived.Test.YtfkakbpjddgmeaaHPFnHandedOnx10
import Derived.Test.YtfkakbpjddgmeaaHSlimWords
namespace Go.Proofs.Ytfkakbpjddgmeaa.PFnHandedOn
open Go.Proofs.Ytfkakbpjddgmeaa.SlimWords
open Go.RowKit Go.Proofs.YtfkakbpjddgmeaaW.PrintWords Go.Proofs.YtfkakbpjddgmeaaW.PrintLast Go.Proofs.YtfkakbpjddgmeaaW.PrintMore Go.Proofs.Ytfkakbpjddgmeaa.MapWords Go.Proofs.Ytfkakbpjddgmeaa.IterWords Go.Proofs.Ytfkakbpjddgmeaa.MarkWords
attribute [local go_sem] max2_int min2_int max_two min_two max_three min_three max_four min_four
set_option linter.unusedVariables false
set_option linter.unusedSimpArgs false
def laws_sum.l0 : Nat → List Int → Int → Int → Option (Int)
  | 0, _, _, _ => none
  | k + 1, x0, x3, x4 => if x4 < (x0.length : Int) then (if 0 ≤ x4 then (laws_sum.l0 k x0 (wrap64 (x3 + (rd x0 x4))) (wrap64 (x4 + 1))) else (none)) else (some x3)
def laws_sum.f (k : Nat) (l0 : List Int) : Option (Int) := laws_sum.l0 k l0 0 0
theorem laws_sum.mono_l : ∀ k, (∀ y0 y1 y2, LeO (laws_sum.l0 k y0 y1 y2) (laws_sum.l0 (k + 1) y0 y1 y2))
  | 0 => fun _ _ _ r h => by simp [laws_sum.l0] at h
  | k + 1 => by
    have ih0 := laws_sum.mono_l k
    · intro y0 y1 y2
      unfold laws_sum.l0
      repeat' first
      | (with_reducible exact ih0 _ _ _)
      | (with_reducible exact LeO.refl _)
      | (with_reducible exact LeO.none _)
      | (with_reducible refine LeO.ite ?_ ?_)
      | (with_reducible refine LeO.bind ?_ (fun _ => ?_))
      | exact ih0 _ _ _
      | exact LeO.none _
      | refine LeO.ite ?_ ?_
      | refine LeO.bind ?_ (fun _ => ?_)
theorem laws_sum.mono : ∀ a0 k, LeO (laws_sum.f k a0) (laws_sum.f (k + 1) a0) := by
 intro a0 k
 have ih0 := laws_sum.mono_l k
 unfold laws_sum.f
 repeat' first
     | (with_reducible exact ih0 _ _ _)
     | (with_reducible exact LeO.refl _)
     | (with_reducible exact LeO.none _)
     | (with_reducible refine LeO.ite ?_ ?_)
     | (with_reducible refine LeO.bind ?_ (fun _ => ?_))
     | exact ih0 _ _ _
     | exact LeO.none _
     | refine LeO.ite ?_ ?_
     | refine LeO.bind ?_ (fun _ => ?_)
set_option maxHeartbeats 8000000 in
set_option maxRecDepth 100000 in
theorem laws_sum.calls (k : Nat) (A0 : Option Addr) (c0 : Nat) (l0 : List Int) (r : Int) (w : World) (hr0 : Kd.C (Kd.int .i64) w A0 l0.length l0) (hc0 : l0.length ≤ c0) (h : laws_sum.f k l0 = some r) :
    Calls Try.prog 11 #[.slice A0 l0.length c0] w fun e w' => e = .returned (.int .i64 r) ∧ Drawn0 w w' := by
 have HR0 := Aside0.mk hr0; have HC0 := Aside0.mk hc0; clear hr0 hc0; have H : (laws_sum.l0 k l0 0 0) = some r := h; clear h; have H' := Aside0.mk H; clear H; go_enter Try.func11, Try.ntmps11; go_wp2
 go_loopg [3, 4] k (fun kq v3 v4 w' => ∃ (x3_1 : Int) (x4_1 : Int), v3 = .int .i64 x3_1 ∧ v4 = .int .i64 x4_1 ∧ Aside0 (laws_sum.l0 kq l0 x3_1 x4_1 = some r) ∧ Aside0 (kq ≤ k) ∧ Drawn0 w w')
 case atStart => exact ⟨(0), (0), tZB, tZB, H', ⟨Nat.le_refl _⟩, tZD⟩
 case round =>
  clear H'; obtain ⟨x3_1, x4_1, rfl, rfl, HA, HK1, ⟨m1, rfl⟩⟩ := hrel
  cases gk with
  | zero => exact absurd HA.out (by simp [laws_sum.l0])
  | succ k1 =>
   have H := HA.out; clear HA; simp only [laws_sum.l0] at H
   by_cases c2 : x4_1 < (l0.length : Int)
   rotate_left
   ·rw [if_neg c2] at H; have c2b0 := decide_eq_false c2; clear c2; obtain rfl := Option.some.inj H; go_wp2; go_ret; exact ⟨tZB, tZD⟩
   rw [if_pos c2] at H; have c2b0 := decide_eq_true c2; clear c2
   by_cases c3 : 0 ≤ x4_1
   rotate_left
   ·rw [if_neg c3] at H; exact absurd H (by simp)
   rw [if_pos c3] at H; have c3b0 := decide_eq_true c3; clear c3; have H' := Aside0.mk H; clear H; have p466 : 0 ≤ (x4_1 : Int) := of_decide_eq_true tZE; have q466 : x4_1 < (l0.length : Int) := of_decide_eq_true tZE; obtain ⟨ad466, e466, hx466_0⟩ := Kd.at_int HR0.out x4_1 p466 q466
   cases e466
   replace p466 := eq_true p466; replace q466 := eq_true q466; go_wp2
   go_roundg k1
   case measure => have := HK1.out; omega
   case rel => exact ⟨(wrap64 (x3_1 + (rd l0 x4_1))), (wrap64 (x4_1 + 1)), tZB, tZB, H', ⟨by have := HK1.out; omega⟩, tZD⟩
mutual
def laws_FnHandedOn.j0 : Nat → List Int → List (S31) → List Int → Bool → Bool → Bool → Option (Bool)
  | 0, _, _, _, _, _, _ => none
  | k + 1, x3, x4, x5, x6, x8, x35 => if x35 = true then (some (x6 == x8)) else (laws_FnHandedOn.l0 k x3 x4 x5 0)
def laws_FnHandedOn.l0 : Nat → List Int → List (S31) → List Int → Int → Option (Bool)
  | 0, _, _, _, _ => none
  | k + 1, x3, x4, x5, x9 => if x9 < (x4.length : Int) then (if 0 ≤ x9 then (if 0 ≤ ((rd_T31 x4 x9).f0) then (if ((rd_T31 x4 x9).f0) < (x5.length : Int) then (if (rd x5 ((rd_T31 x4 x9).f0)) = 0 then (laws_FnHandedOn.l0 k x3 x4 x5 (wrap64 (x9 + 1))) else (some false)) else (none)) else (none)) else (none)) else ((laws_sum.f k x5).bind fun t484 => ((laws_sum.f k x3).bind fun t485 => (some (t484 == t485))))
end
def laws_FnHandedOn.f (k : Nat) (l0 : List Int) : Option (Bool) := (laws_big.f l0).bind fun t467 => (if t467 = true then (some true) else ((spec_DrawStepDown.f k l0).bind fun bt468 => ((impl_StepDown.f k bt468.1 bt468.2).bind fun bt474 => ((spec_StepDown.f k bt468.1 bt468.2).bind fun bt478 => (if (bt474.2 != bt478.2) = true then (laws_FnHandedOn.j0 k bt468.1 bt468.2 bt474.1 bt474.2 bt478.2 true) else (laws_FnHandedOn.j0 k bt468.1 bt468.2 bt474.1 bt474.2 bt478.2 (!bt474.2)))))))
theorem laws_FnHandedOn.mono_l : ∀ k, (∀ y0 y1 y2 y3 y4 y5, LeO (laws_FnHandedOn.j0 k y0 y1 y2 y3 y4 y5) (laws_FnHandedOn.j0 (k + 1) y0 y1 y2 y3 y4 y5)) ∧ (∀ y0 y1 y2 y3, LeO (laws_FnHandedOn.l0 k y0 y1 y2 y3) (laws_FnHandedOn.l0 (k + 1) y0 y1 y2 y3))
  | 0 => ⟨fun _ _ _ _ _ _ r h => by simp [laws_FnHandedOn.j0] at h, fun _ _ _ _ r h => by simp [laws_FnHandedOn.l0] at h⟩
  | k + 1 => by
    obtain ⟨ih0, ih1⟩ := laws_FnHandedOn.mono_l k
    refine ⟨?_, ?_⟩
    · intro y0 y1 y2 y3 y4 y5
      unfold laws_FnHandedOn.j0
      repeat' first
      | (with_reducible exact ih0 _ _ _ _ _ _)
      | (with_reducible exact ih1 _ _ _ _)
      | (with_reducible exact impl_StepDown.mono _ _ _)
      | (with_reducible exact laws_sum.mono _ _)
      | (with_reducible exact spec_DrawStepDown.mono _ _)
      | (with_reducible exact spec_StepDown.mono _ _ _)
      | (with_reducible exact LeO.refl _)
      | (with_reducible exact LeO.none _)
      | (with_reducible refine LeO.ite ?_ ?_)
      | (with_reducible refine LeO.bind ?_ (fun _ => ?_))
      | exact ih0 _ _ _ _ _ _
      | exact ih1 _ _ _ _
      | exact impl_StepDown.mono _ _ _
      | exact laws_sum.mono _ _
      | exact spec_DrawStepDown.mono _ _
      | exact spec_StepDown.mono _ _ _
      | exact LeO.none _
      | refine LeO.ite ?_ ?_
      | refine LeO.bind ?_ (fun _ => ?_)
    · intro y0 y1 y2 y3
      unfold laws_FnHandedOn.l0
      repeat' first
      | (with_reducible exact ih0 _ _ _ _ _ _)
      | (with_reducible exact ih1 _ _ _ _)
      | (with_reducible exact impl_StepDown.mono _ _ _)
      | (with_reducible exact laws_sum.mono _ _)
      | (with_reducible exact spec_DrawStepDown.mono _ _)
      | (with_reducible exact spec_StepDown.mono _ _ _)
      | (with_reducible exact LeO.refl _)
      | (with_reducible exact LeO.none _)
      | (with_reducible refine LeO.ite ?_ ?_)
      | (with_reducible refine LeO.bind ?_ (fun _ => ?_))
      | exact ih0 _ _ _ _ _ _
      | exact ih1 _ _ _ _
      | exact impl_StepDown.mono _ _ _
      | exact laws_sum.mono _ _
      | exact spec_DrawStepDown.mono _ _
      | exact spec_StepDown.mono _ _ _
      | exact LeO.none _
      | refine LeO.ite ?_ ?_
      | refine LeO.bind ?_ (fun _ => ?_)
theorem laws_FnHandedOn.mono : ∀ a0 k, LeO (laws_FnHandedOn.f k a0) (laws_FnHandedOn.f (k + 1) a0) := by
 intro a0 k
 obtain ⟨ih0, ih1⟩ := laws_FnHandedOn.mono_l k
 unfold laws_FnHandedOn.f
 repeat' first
     | (with_reducible exact ih0 _ _ _ _ _ _)
     | (with_reducible exact ih1 _ _ _ _)
     | (with_reducible exact impl_StepDown.mono _ _ _)
     | (with_reducible exact laws_sum.mono _ _)
     | (with_reducible exact spec_DrawStepDown.mono _ _)
     | (with_reducible exact spec_StepDown.mono _ _ _)
     | (with_reducible exact LeO.refl _)
     | (with_reducible exact LeO.none _)
     | (with_reducible refine LeO.ite ?_ ?_)
     | (with_reducible refine LeO.bind ?_ (fun _ => ?_))
     | exact ih0 _ _ _ _ _ _
     | exact ih1 _ _ _ _
     | exact impl_StepDown.mono _ _ _
     | exact laws_sum.mono _ _
     | exact spec_DrawStepDown.mono _ _
     | exact spec_StepDown.mono _ _ _
     | exact LeO.none _
     | refine LeO.ite ?_ ?_
     | refine LeO.bind ?_ (fun _ => ?_)
set_option maxHeartbeats 8000000 in
set_option maxRecDepth 100000 in
theorem laws_FnHandedOn.calls (k : Nat) (A0 : Option Addr) (c0 : Nat) (l0 : List Int) (r : Bool) (w : World) (hr0 : Kd.C (Kd.int .u8) w A0 l0.length l0) (hc0 : l0.length ≤ c0) (h : laws_FnHandedOn.f k l0 = some r) :
    Calls Try.prog 3 #[.slice A0 l0.length c0] w fun e w' => e = .returned (.bool r) ∧ Below w.heap.size w w' := by
 have HR0 := Aside0.mk hr0; have HC0 := Aside0.mk hc0; clear hr0 hc0; have HB := aZ (Below.refl w.heap.size w); have H : ((laws_big.f l0).bind fun t467 => (if t467 = true then (some true) else ((spec_DrawStepDown.f k l0).bind fun bt468 => ((impl_StepDown.f k bt468.1 bt468.2).bind fun bt474 => ((spec_StepDown.f k bt468.1 bt468.2).bind fun bt478 => (if (bt474.2 != bt478.2) = true then (laws_FnHandedOn.j0 k bt468.1 bt468.2 bt474.1 bt474.2 bt478.2 true) else (laws_FnHandedOn.j0 k bt468.1 bt468.2 bt474.1 bt474.2 bt478.2 (!bt474.2)))))))) = some r := h; clear h; replace H := Option.bind_eq_some_iff.mp H; obtain ⟨t467, A20, H⟩ := H
 replace H : (if t467 = true then (some true) else ((spec_DrawStepDown.f k l0).bind fun bt468 => ((impl_StepDown.f k bt468.1 bt468.2).bind fun bt474 => ((spec_StepDown.f k bt468.1 bt468.2).bind fun bt478 => (if (bt474.2 != bt478.2) = true then (laws_FnHandedOn.j0 k bt468.1 bt468.2 bt474.1 bt474.2 bt478.2 true) else (laws_FnHandedOn.j0 k bt468.1 bt468.2 bt474.1 bt474.2 bt478.2 (!bt474.2))))))) = some r := H; have A2 := Aside0.mk A20; clear A20
 by_cases c3 : t467 = true
 ·subst c3; rw [if_pos rfl] at H; obtain rfl := Option.some.inj H; go_enter Try.func3, Try.ntmps3
  go_wp2_with (first | ((with_reducible refine gate_callee (f := 7) rfl ?_); refine goesL_ (some 11) rfl rfl Try.func7 kZ rfl #[.slice A0 l0.length c0] rfl tZA ?_; (with_reducible refine (laws_big.calls _ _ l0 true _ ?side1 ?side2 A2.out).mono ?_); (case side1 => repeat (first | exact HR0.out | (with_reducible refine Kd.C_alloc ?_ _) | (with_reducible refine Kd.C_drewN ?_ _) | (with_reducible refine Kd.C_drew ?_))); (case side2 => exact HC0.out); rintro e w' ⟨rfl, ⟨nd, rfl⟩⟩; refine ⟨_, rfl, ?_⟩))
  go_ret; exact ⟨tZC, bZ⟩
 replace c3 := Bool.eq_false_iff.mpr c3; subst c3; rw [if_neg Bool.false_ne_true] at H; replace H := Option.bind_eq_some_iff.mp H; obtain ⟨⟨t468, t471⟩, A40, H⟩ := H; replace H : ((impl_StepDown.f k t468 t471).bind fun bt474 => ((spec_StepDown.f k t468 t471).bind fun bt478 => (if (bt474.2 != bt478.2) = true then (laws_FnHandedOn.j0 k t468 t471 bt474.1 bt474.2 bt478.2 true) else (laws_FnHandedOn.j0 k t468 t471 bt474.1 bt474.2 bt478.2 (!bt474.2))))) = some r := H; have A4 := Aside0.mk A40; clear A40; replace H := Option.bind_eq_some_iff.mp H; obtain ⟨⟨t474, t475⟩, A50, H⟩ := H; replace H : ((spec_StepDown.f k t468 t471).bind fun bt478 => (if (t475 != bt478.2) = true then (laws_FnHandedOn.j0 k t468 t471 t474 t475 bt478.2 true) else (laws_FnHandedOn.j0 k t468 t471 t474 t475 bt478.2 (!t475)))) = some r := H; have A5 := Aside0.mk A50; clear A50; replace H := Option.bind_eq_some_iff.mp H
 obtain ⟨⟨t478, t479⟩, A60, H⟩ := H; replace H : (if (t475 != t479) = true then (laws_FnHandedOn.j0 k t468 t471 t474 t475 t479 true) else (laws_FnHandedOn.j0 k t468 t471 t474 t475 t479 (!t475))) = some r := H; have A6 := Aside0.mk A60; clear A60; have HC7 := Aside0.mk H; clear H; go_enter Try.func3, Try.ntmps3
 go_upto_region 6 with (first | ((with_reducible refine gate_callee (f := 7) rfl ?_); refine goesL_ (some 11) rfl rfl Try.func7 kZ rfl #[.slice A0 l0.length c0] rfl tZA ?_; (with_reducible refine (laws_big.calls _ _ l0 false _ ?side1 ?side2 A2.out).mono ?_); (case side1 => repeat (first | exact HR0.out | (with_reducible refine Kd.C_alloc ?_ _) | (with_reducible refine Kd.C_drewN ?_ _) | (with_reducible refine Kd.C_drew ?_))); (case side2 => exact HC0.out); rintro e w' ⟨rfl, ⟨nd, rfl⟩⟩; refine ⟨_, rfl, ?_⟩) | ((with_reducible refine gate_callee (f := 8) rfl ?_); refine goesL_ (some 14) rfl rfl Try.func8 kZ rfl #[.slice A0 l0.length c0] rfl tZA ?_; (with_reducible refine (spec_DrawStepDown.calls k _ _ l0 t468 t471 _ ?side1 ?side2 A4.out).mono ?_); (case side1 => repeat (first | exact HR0.out | (with_reducible refine Kd.C_alloc ?_ _) | (with_reducible refine Kd.C_drewN ?_ _) | (with_reducible refine Kd.C_drew ?_))); (case side2 => exact HC0.out); rintro e w8 ⟨v469, v472, rfl, ho0, ho1, hb⟩; refine ⟨_, rfl, ?_⟩; have HO470 := aZ (Kd.R_lower (Kd.R_mono (ok' := fun k_ => True) ho0 (fun _ hk_ => trivial)) (below_size (lZB HB.out))); have HO473 := aZ (Kd.N_lower (Kd.N_mono (ok' := fun k_ => some k_ ≠ (v469 : Value).ownBlock) ho1 (fun k_ hk_ => hk_.2)) (below_size (lZB HB.out))); replace HB := aZ (below_step (lZB HB.out) hb); (try clear hb); (try clear hb2); (try clear hk); (try clear hi); (try clear ho0); (try clear ho1); obtain ⟨Ao9, co9, eo9⟩ := Kd.R_slice HO470.out; subst eo9; obtain ⟨Ao10, co10, eo10⟩ := Kd.N_slice HO473.out; subst eo10) | ((with_reducible refine gate_callee (f := 9) rfl ?_); refine goesL_ (some 20) rfl rfl Try.func9 kZ rfl #[.slice Ao9 t468.length co9, .slice Ao10 t471.length co10] rfl tZA ?_; (with_reducible refine (impl_StepDown.calls k _ _ t468 _ _ t471 t474 t475 _ ?side1 ?side2 ?side3 ?side4 A5.out).mono ?_); (case side1 => repeat (first | exact (Kd.R_reads' HO470.out).2.2 | (with_reducible refine Kd.C_alloc ?_ _) | (with_reducible refine Kd.C_drewN ?_ _) | (with_reducible refine Kd.C_drew ?_))); (case side2 => exact (Kd.R_reads' HO470.out).2.1); (case side3 => repeat (first | exact (Kd.N_reads' HO473.out).2.2 | (with_reducible refine Kd.C_alloc ?_ _) | (with_reducible refine Kd.C_drewN ?_ _) | (with_reducible refine Kd.C_drew ?_))); (case side4 => exact (Kd.N_reads' HO473.out).2.1); rintro e w11 ⟨v476, rfl, ho0, hb⟩; refine ⟨_, rfl, ?_⟩; replace HO473 := aZ (Kd.N_elder' (by (with_reducible repeat (first | apply Kd.N_alloc | apply Kd.N_drewN | apply Kd.N_drew)); exact HO473.out) (Kd.R_base ho0) hb); have HO477 := aZ (Kd.R_lower (Kd.R_new' ho0 (Kd.R_lt (lZR HO470.out))) (below_size (lZB HB.out))); replace HO470 := aZ (Kd.R_elder' (lZR HO470.out) (Kd.R_base ho0) hb); replace HB := aZ (below_step (lZB HB.out) hb); (try clear hb); (try clear hb2); (try clear hk); (try clear hi); (try clear ho0)) | ((with_reducible refine gate_callee (f := 10) rfl ?_); refine goesL_ (some 26) rfl rfl Try.func10 kZ rfl #[.slice Ao9 t468.length co9, .slice Ao10 t471.length co10] rfl tZA ?_; (with_reducible refine (spec_StepDown.calls k _ _ t468 _ _ t471 t478 t479 _ ?side1 ?side2 ?side3 ?side4 A6.out).mono ?_); (case side1 => repeat (first | exact (Kd.R_reads' HO470.out).2.2 | (with_reducible refine Kd.C_alloc ?_ _) | (with_reducible refine Kd.C_drewN ?_ _) | (with_reducible refine Kd.C_drew ?_))); (case side2 => exact (Kd.R_reads' HO470.out).2.1); (case side3 => repeat (first | exact (Kd.N_reads' HO473.out).2.2 | (with_reducible refine Kd.C_alloc ?_ _) | (with_reducible refine Kd.C_drewN ?_ _) | (with_reducible refine Kd.C_drew ?_))); (case side4 => exact (Kd.N_reads' HO473.out).2.1); rintro e w12 ⟨v480, rfl, ho0, hb⟩; refine ⟨_, rfl, ?_⟩; replace HO473 := aZ (Kd.N_elder' (by (with_reducible repeat (first | apply Kd.N_alloc | apply Kd.N_drewN | apply Kd.N_drew)); exact HO473.out) (Kd.R_base ho0) hb); have HO481 := aZ (Kd.R_lower (Kd.R_new' (Kd.R_new' ho0 (Kd.R_lt (lZR HO470.out))) (Kd.R_lt (lZR HO477.out))) (below_size (lZB HB.out))); replace HO470 := aZ (Kd.R_elder' (lZR HO470.out) (Kd.R_base ho0) hb); replace HO477 := aZ (Kd.R_elder' (lZR HO477.out) (Kd.R_base ho0) hb); replace HB := aZ (below_step (lZB HB.out) hb); (try clear hb); (try clear hb2); (try clear hk); (try clear hi); (try clear ho0)))
 (try simp only [Act.put, sZ1, sZ2, sZ3])
 go_cut [35] (fun v35 wc => ∃ (kq : Nat) (x35_6 : Bool), v35 = .bool x35_6 ∧ Aside0 (laws_FnHandedOn.j0 kq t468 t471 t474 t475 t479 x35_6 = some r) ∧ Aside0 (kq ≤ k) ∧ Aside0 (Kd.R (Kd.int .i64) 3 wc w.heap.size (fun k_ => some k_ ≠ (v476 : Value).ownBlock) (.slice Ao9 t468.length co9) t468) ∧ Aside0 (Kd.N k31 31 wc w.heap.size (fun k_ => some k_ ≠ ((.slice Ao9 t468.length co9) : Value).ownBlock ∧ some k_ ≠ (v476 : Value).ownBlock) (.slice Ao10 t471.length co10) t471) ∧ Aside0 (Kd.R (Kd.int .i64) 3 wc w.heap.size (fun k_ => some k_ ≠ ((.slice Ao9 t468.length co9) : Value).ownBlock) v476 t474) ∧ Aside0 (Below w.heap.size w wc))
 case first =>
  have H := HC7.out; clear HC7
  by_cases c13 : (t475 != t479) = true
  rotate_left
  ·rw [if_neg c13] at H; have c13b0 : (t475 != t479) = false := by simpa using c13
   (try (have c13b1 : decide (t475 = t479) = true := by simpa using c13)); (try (have c13b2 : (t475 == t479) = true := by simpa using c13)); clear c13; (first | rw [c13b0] | (simp only [i64_w, i32_w]; rw [c13b0]) | skip); have H' := Aside0.mk H; clear H; go_wp2; go_meet
   case rel => exact ⟨_, (!t475), tZB, H', ⟨by first | omega | exact Nat.le_refl _⟩, ⟨by (with_reducible repeat (first | apply Kd.R_alloc | apply Kd.R_drewN | apply Kd.R_drew)); exact Kd.R_mono HO470.out (fun _ hk => hk.1.2)⟩, ⟨by (with_reducible repeat (first | apply Kd.N_alloc | apply Kd.N_drewN | apply Kd.N_drew)); exact Kd.N_mono HO473.out (fun _ hk => ⟨hk.1.1, hk.1.2⟩)⟩, ⟨by (with_reducible repeat (first | apply Kd.R_alloc | apply Kd.R_drewN | apply Kd.R_drew)); exact Kd.R_mono HO477.out (fun _ hk => hk.1.2)⟩, ⟨bZ⟩⟩
  rw [if_pos c13] at H; have c13b0 : (t475 != t479) = true := c13; (try (have c13b1 : decide (t475 = t479) = false := by simpa using c13)); (try (have c13b2 : (t475 == t479) = false := by simpa using c13)); (try (have c13b3 : ¬ (t475 = t479) := by simpa using c13)); clear c13; (first | rw [c13b0] | (simp only [i64_w, i32_w]; rw [c13b0]) | skip); have H' := Aside0.mk H; clear H; go_wp2; go_meet
  case rel => exact ⟨_, (true), tZB, H', ⟨by first | omega | exact Nat.le_refl _⟩, ⟨by (with_reducible repeat (first | apply Kd.R_alloc | apply Kd.R_drewN | apply Kd.R_drew)); exact Kd.R_mono HO470.out (fun _ hk => hk.1.2)⟩, ⟨by (with_reducible repeat (first | apply Kd.N_alloc | apply Kd.N_drewN | apply Kd.N_drew)); exact Kd.N_mono HO473.out (fun _ hk => ⟨hk.1.1, hk.1.2⟩)⟩, ⟨by (with_reducible repeat (first | apply Kd.R_alloc | apply Kd.R_drewN | apply Kd.R_drew)); exact Kd.R_mono HO477.out (fun _ hk => hk.1.2)⟩, ⟨bZ⟩⟩
 case rest =>
  clear HC7; (try clear c3); obtain ⟨kq, x35_6, rfl, HA, HJ6, HO_3, HO_4, HO_5, HB⟩ := hcut
  cases kq with
  | zero => exact absurd HA.out (by simp [laws_FnHandedOn.j0])
  | succ kj6 =>
   have H := HA.out; clear HA; simp only [laws_FnHandedOn.j0] at H
   by_cases c14 : x35_6 = true
   ·subst c14; rw [if_pos rfl] at H; obtain rfl := Option.some.inj H; go_wp2; go_ret; exact ⟨tZC, bZ⟩
   replace c14 := Bool.eq_false_iff.mpr c14; subst c14; rw [if_neg Bool.false_ne_true] at H; have H' := Aside0.mk H; clear H; go_wp2
   go_loopg [9] kj6 (fun kq v9 w' => ∃ (x9_2 : Int), v9 = .int .i64 x9_2 ∧ Aside0 (laws_FnHandedOn.l0 kq t468 t471 t474 x9_2 = some r) ∧ Aside0 (kq ≤ kj6) ∧ Aside0 (Kd.R (Kd.int .i64) 3 w' w.heap.size (fun k_ => some k_ ≠ (v476 : Value).ownBlock) (.slice Ao9 t468.length co9) t468) ∧ Aside0 (Kd.N k31 31 w' w.heap.size (fun k_ => some k_ ≠ ((.slice Ao9 t468.length co9) : Value).ownBlock ∧ some k_ ≠ (v476 : Value).ownBlock) (.slice Ao10 t471.length co10) t471) ∧ Aside0 (Kd.R (Kd.int .i64) 3 w' w.heap.size (fun k_ => some k_ ≠ ((.slice Ao9 t468.length co9) : Value).ownBlock) v476 t474) ∧ Aside0 (Below w.heap.size w w'))
   case atStart => exact ⟨(0), tZB, H', ⟨Nat.le_refl _⟩, ⟨lZR HO_3.out⟩, ⟨by (with_reducible repeat (first | apply Kd.N_alloc | apply Kd.N_drewN | apply Kd.N_drew)); exact HO_4.out⟩, ⟨lZR HO_5.out⟩, ⟨bZ⟩⟩
   case round =>
    clear H'; (try clear c3 c14); obtain ⟨x9_2, rfl, HA, HK2, HO_3, HO_4, HO_5, HB⟩ := hrel
    cases gk with
    | zero => exact absurd HA.out (by simp [laws_FnHandedOn.l0])
    | succ k2 =>
     have H := HA.out; clear HA; simp only [laws_FnHandedOn.l0] at H
     by_cases c15 : x9_2 < (t471.length : Int)
     rotate_left
     ·rw [if_neg c15] at H; have c15b0 := decide_eq_false c15; clear c15; replace H := Option.bind_eq_some_iff.mp H; obtain ⟨t484, A220, H⟩ := H; replace H : ((laws_sum.f k2 t468).bind fun t485 => (some (t484 == t485))) = some r := H; have A22 := Aside0.mk A220; clear A220; replace H := Option.bind_eq_some_iff.mp H; obtain ⟨t485, A230, H⟩ := H; replace H : (some (t484 == t485)) = some r := H; have A23 := Aside0.mk A230; clear A230; obtain rfl := Option.some.inj H; obtain ⟨Ao24, co24, eo24⟩ := Kd.R_slice HO_5.out; subst eo24
      go_wp2_with (first | ((with_reducible refine gate_callee (f := 11) rfl ?_); refine goesL_ (some 55) rfl rfl Try.func11 kZ rfl #[.slice Ao24 t474.length co24] rfl tZA ?_; (with_reducible refine (laws_sum.calls k2 _ _ t474 t484 _ ?side1 ?side2 A22.out).mono ?_); (case side1 => repeat (first | exact (Kd.R_reads' HO_5.out).2.2 | (with_reducible refine Kd.C_alloc ?_ _) | (with_reducible refine Kd.C_drewN ?_ _) | (with_reducible refine Kd.C_drew ?_))); (case side2 => exact (Kd.R_reads' HO_5.out).2.1); rintro e w' ⟨rfl, ⟨nd, rfl⟩⟩; refine ⟨_, rfl, ?_⟩) | ((with_reducible refine gate_callee (f := 11) rfl ?_); refine goesL_ (some 57) rfl rfl Try.func11 kZ rfl #[.slice Ao9 t468.length co9] rfl tZA ?_; (with_reducible refine (laws_sum.calls k2 _ _ t468 t485 _ ?side1 ?side2 A23.out).mono ?_); (case side1 => repeat (first | exact (Kd.R_reads' HO_3.out).2.2 | (with_reducible refine Kd.C_alloc ?_ _) | (with_reducible refine Kd.C_drewN ?_ _) | (with_reducible refine Kd.C_drew ?_))); (case side2 => exact (Kd.R_reads' HO_3.out).2.1); rintro e w' ⟨rfl, ⟨nd, rfl⟩⟩; refine ⟨_, rfl, ?_⟩))
      go_ret; exact ⟨tZC, bZ⟩
     rw [if_pos c15] at H; have c15b0 := decide_eq_true c15; clear c15
     by_cases c16 : 0 ≤ x9_2
     rotate_left
     ·rw [if_neg c16] at H; exact absurd H (by simp)
     rw [if_pos c16] at H; have c16b0 := decide_eq_true c16; clear c16
     by_cases c17 : 0 ≤ ((rd_T31 t471 x9_2).f0)
     rotate_left
     ·rw [if_neg c17] at H; exact absurd H (by simp)
     rw [if_pos c17] at H; have c17b0 := decide_eq_true c17; clear c17
     by_cases c18 : ((rd_T31 t471 x9_2).f0) < (t474.length : Int)
     rotate_left
     ·rw [if_neg c18] at H; exact absurd H (by simp)
     rw [if_pos c18] at H; have c18b0 := decide_eq_true c18; clear c18
     by_cases c19 : (rd t474 ((rd_T31 t471 x9_2).f0)) = 0
     rotate_left
     ·rw [if_neg c19] at H; have c19b0 : ((rd t474 ((rd_T31 t471 x9_2).f0)) == 0) = false := beq_eq_false_iff_ne.mpr c19; have c19b1 : ((rd t474 ((rd_T31 t471 x9_2).f0)) != 0) = true := bne_iff_ne.mpr c19; obtain rfl := Option.some.inj H; have p482 : 0 ≤ (x9_2 : Int) := of_decide_eq_true tZE; have q482 : x9_2 < (t471.length : Int) := of_decide_eq_true tZE; obtain ⟨ad482, A482_1, c482_1, A482_2, c482_2, e482, hx482_0, hx482_1, hx482_2, hl482_1, hi482_1, hl482_2, hi482_2⟩ := at_T31 (Kd.N_reads' HO_4.out).2.2 x9_2 p482 q482
      cases e482
      obtain ⟨ce482, hce482, hMe482, hcc482⟩ := Kd.N_get HO_4.out z31 x9_2 p482 (by first | exact q482 | exact of_decide_eq_true tZE | (have e_ := (Kd.N_reads' HO_4.out).1; omega)); obtain ⟨ua482_1, uc482_1, ua482_2, uc482_2, rfl, ul482_1, ge482_1, ul482_2, ge482_2⟩ := k31_openF hMe482; have hv482_1 := hcc482 1 _ rfl; rw [add_field _ _ 1 (by omega)] at hv482_1; replace hv482_1 := Option.some.inj (hv482_1.symm.trans hx482_1)
      injection hv482_1 with hva_ hvn_ hvc_
      rw [hva_] at ge482_1; rw [hvc_] at ul482_1; have HL482_1 := aZ (show Kd.V (Kd.int .i64) 3 _ w.heap.size _ _ ((rd_T31 t471 x9_2).f1) from Kd.V_mk ul482_1 ge482_1); clear hva_ hvn_ hvc_ ge482_1 ul482_1; have hv482_2 := hcc482 2 _ rfl; rw [add_field _ _ 2 (by omega)] at hv482_2; replace hv482_2 := Option.some.inj (hv482_2.symm.trans hx482_2)
      injection hv482_2 with hva_ hvn_ hvc_
      rw [hva_] at ge482_2; rw [hvc_] at ul482_2; have HL482_2 := aZ (show Kd.V (Kd.int .i64) 3 _ w.heap.size _ _ ((rd_T31 t471 x9_2).f2) from Kd.V_mk ul482_2 ge482_2); clear hva_ hvn_ hvc_ ge482_2 ul482_2; clear hcc482 hce482; have HR482_1 := Aside0.mk hi482_1; have HC482_1 := Aside0.mk hl482_1; clear hi482_1 hl482_1; have HR482_2 := Aside0.mk hi482_2; have HC482_2 := Aside0.mk hl482_2; clear hi482_2 hl482_2; replace p482 := eq_true p482; replace q482 := eq_true q482; obtain ⟨Ao21, co21, eo21⟩ := Kd.R_slice HO_5.out; subst eo21; have p483 : 0 ≤ (((rd_T31 t471 x9_2).f0) : Int) := of_decide_eq_true tZE; have q483 : ((rd_T31 t471 x9_2).f0) < (t474.length : Int) := of_decide_eq_true tZE; obtain ⟨ad483, e483, hx483_0⟩ := Kd.at_int (Kd.R_reads' HO_5.out).2.2 ((rd_T31 t471 x9_2).f0) p483 q483
      cases e483
      replace p483 := eq_true p483; replace q483 := eq_true q483; go_wp2; go_ret; exact ⟨tZC, bZ⟩
     rw [if_pos c19] at H; have c19b0 : ((rd t474 ((rd_T31 t471 x9_2).f0)) == 0) = true := beq_iff_eq.mpr c19; have c19b1 : ((rd t474 ((rd_T31 t471 x9_2).f0)) != 0) = false := bne_eq_false_iff_eq.mpr c19; clear c19; have H' := Aside0.mk H; clear H; have p482 : 0 ≤ (x9_2 : Int) := of_decide_eq_true tZE; have q482 : x9_2 < (t471.length : Int) := of_decide_eq_true tZE; obtain ⟨ad482, A482_1, c482_1, A482_2, c482_2, e482, hx482_0, hx482_1, hx482_2, hl482_1, hi482_1, hl482_2, hi482_2⟩ := at_T31 (Kd.N_reads' HO_4.out).2.2 x9_2 p482 q482
     cases e482
     obtain ⟨ce482, hce482, hMe482, hcc482⟩ := Kd.N_get HO_4.out z31 x9_2 p482 (by first | exact q482 | exact of_decide_eq_true tZE | (have e_ := (Kd.N_reads' HO_4.out).1; omega)); obtain ⟨ua482_1, uc482_1, ua482_2, uc482_2, rfl, ul482_1, ge482_1, ul482_2, ge482_2⟩ := k31_openF hMe482; have hv482_1 := hcc482 1 _ rfl; rw [add_field _ _ 1 (by omega)] at hv482_1; replace hv482_1 := Option.some.inj (hv482_1.symm.trans hx482_1)
     injection hv482_1 with hva_ hvn_ hvc_
     rw [hva_] at ge482_1; rw [hvc_] at ul482_1; have HL482_1 := aZ (show Kd.V (Kd.int .i64) 3 _ w.heap.size _ _ ((rd_T31 t471 x9_2).f1) from Kd.V_mk ul482_1 ge482_1); clear hva_ hvn_ hvc_ ge482_1 ul482_1; have hv482_2 := hcc482 2 _ rfl; rw [add_field _ _ 2 (by omega)] at hv482_2; replace hv482_2 := Option.some.inj (hv482_2.symm.trans hx482_2)
     injection hv482_2 with hva_ hvn_ hvc_
     rw [hva_] at ge482_2; rw [hvc_] at ul482_2; have HL482_2 := aZ (show Kd.V (Kd.int .i64) 3 _ w.heap.size _ _ ((rd_T31 t471 x9_2).f2) from Kd.V_mk ul482_2 ge482_2); clear hva_ hvn_ hvc_ ge482_2 ul482_2; clear hcc482 hce482; have HR482_1 := Aside0.mk hi482_1; have HC482_1 := Aside0.mk hl482_1; clear hi482_1 hl482_1; have HR482_2 := Aside0.mk hi482_2; have HC482_2 := Aside0.mk hl482_2; clear hi482_2 hl482_2; replace p482 := eq_true p482; replace q482 := eq_true q482; obtain ⟨Ao20, co20, eo20⟩ := Kd.R_slice HO_5.out; subst eo20; have p483 : 0 ≤ (((rd_T31 t471 x9_2).f0) : Int) := of_decide_eq_true tZE; have q483 : ((rd_T31 t471 x9_2).f0) < (t474.length : Int) := of_decide_eq_true tZE; obtain ⟨ad483, e483, hx483_0⟩ := Kd.at_int (Kd.R_reads' HO_5.out).2.2 ((rd_T31 t471 x9_2).f0) p483 q483
     cases e483
     replace p483 := eq_true p483; replace q483 := eq_true q483; go_wp2
     go_roundg k2
     case measure => have := HJ6.out; have := HK2.out; omega
     case rel => exact ⟨(wrap64 (x9_2 + 1)), tZB, H', ⟨by have := HJ6.out; have := HK2.out; omega⟩, ⟨lZR HO_3.out⟩, ⟨by (with_reducible repeat (first | apply Kd.N_alloc | apply Kd.N_drewN | apply Kd.N_drew)); exact HO_4.out⟩, ⟨lZR HO_5.out⟩, ⟨bZ⟩⟩
def laws_FnHandedOn.Pure : Prop := ∀ (l0 : List Int), l0.length ≤ maxLen → l0.length * 1 ≤ 140737488351232 → (∀ x ∈ l0, (Lit.int .u8 x).wf = true) → ∃ k, laws_FnHandedOn.f k l0 = some true
theorem laws_FnHandedOn.walk (P : laws_FnHandedOn.Pure) (a0 : Option Addr) (len0 cap0 : Nat) (z0 : List Int) (w : World) (w0 : (a0 = none ∧ len0 = 0 ∧ cap0 = 0 ∧ z0 = []) ∨ ∃ x, a0 = some x ∧ len0 ≤ cap0 ∧ cap0 ≤ maxLen ∧ z0.length = cap0 ∧ (∀ i, i < z0.length → w.cell? (x.add i) = some (.int .u8 (z0.getD i 0))) ∧ ∀ n ∈ z0, (Lit.int .u8 n).wf = true) (y0 : len0 * 1 ≤ 140737488351232) :
    Calls Try.prog 3 #[.slice a0 len0 cap0] w fun e w' => e = .returned (.bool true) ∧ Below w.heap.size w w' := by
 obtain ⟨l0, rfl, hr0, hm0, hw0, hc0⟩ := ReadsInt.ofRowC w0
 obtain ⟨k, h⟩ := P l0 hm0 y0 hw0
 refine (laws_FnHandedOn.calls k _ _ l0 true w (Kd.C_of_reads (d := (0 : Int)) (h1 := fun _ => rfl) hr0) hc0 h).mono ?_
 rintro e w' ⟨rfl, hd⟩
 exact ⟨rfl, hd⟩
end Go.Proofs.Ytfkakbpjddgmeaa.PFnHandedOn
