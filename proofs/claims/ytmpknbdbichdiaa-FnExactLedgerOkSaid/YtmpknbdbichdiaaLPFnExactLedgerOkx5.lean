import Derived.Test.YtmpknbdbichdiaaLPFnExactLedgerOkx0
import Derived.Test.YtmpknbdbichdiaaLPFnExactLedgerOkx1
import Derived.Test.YtmpknbdbichdiaaLPFnExactLedgerOkx3
import Derived.Test.YtmpknbdbichdiaaLSlimWords
namespace Go.Proofs.Ytmpknbdbichdiaa.PFnExactLedgerOk
open Go.Proofs.Ytmpknbdbichdiaa.SlimWords
open Go.RowKit Go.Proofs.YtmpknbdbichdiaaW.PrintWords Go.Proofs.YtmpknbdbichdiaaW.PrintLast Go.Proofs.YtmpknbdbichdiaaW.PrintMore Go.Proofs.Ytmpknbdbichdiaa.MapWords Go.Proofs.Ytmpknbdbichdiaa.IterWords Go.Proofs.Ytmpknbdbichdiaa.MarkWords
attribute [local go_sem] max2_int min2_int max_two min_two max_three min_three max_four min_four
set_option linter.unusedVariables false
set_option linter.unusedSimpArgs false
def spec_l5TextOk.l0 : Nat → ByteArray → Int → Option (Bool)
  | 0, _, _ => none
  | k + 1, x0, x3 => if x3 < (x0.size : Int) then (if 0 ≤ x3 then (if (bt x0 x3) < 32 then (some false) else (spec_l5TextOk.l0 k x0 (wrap64 (x3 + 1)))) else (none)) else (some (decide ((x0.size : Int) ≤ 40)))
def spec_l5TextOk.f (k : Nat) (a0 : ByteArray) : Option (Bool) := spec_l5TextOk.l0 k a0 0
theorem spec_l5TextOk.mono_l : ∀ k, (∀ y0 y1, LeO (spec_l5TextOk.l0 k y0 y1) (spec_l5TextOk.l0 (k + 1) y0 y1))
  | 0 => fun _ _ r h => by simp [spec_l5TextOk.l0] at h
  | k + 1 => by
    have ih0 := spec_l5TextOk.mono_l k
    · intro y0 y1
      unfold spec_l5TextOk.l0
      repeat' first
      | (with_reducible exact ih0 _ _)
      | (with_reducible exact LeO.refl _)
      | (with_reducible exact LeO.none _)
      | (with_reducible refine LeO.ite ?_ ?_)
      | (with_reducible refine LeO.bind ?_ (fun _ => ?_))
      | exact ih0 _ _
      | exact LeO.none _
      | refine LeO.ite ?_ ?_
      | refine LeO.bind ?_ (fun _ => ?_)
theorem spec_l5TextOk.mono : ∀ a0 k, LeO (spec_l5TextOk.f k a0) (spec_l5TextOk.f (k + 1) a0) := by
 intro a0 k
 have ih0 := spec_l5TextOk.mono_l k
 unfold spec_l5TextOk.f
 repeat' first
     | (with_reducible exact ih0 _ _)
     | (with_reducible exact LeO.refl _)
     | (with_reducible exact LeO.none _)
     | (with_reducible refine LeO.ite ?_ ?_)
     | (with_reducible refine LeO.bind ?_ (fun _ => ?_))
     | exact ih0 _ _
     | exact LeO.none _
     | refine LeO.ite ?_ ?_
     | refine LeO.bind ?_ (fun _ => ?_)
set_option maxHeartbeats 8000000 in
set_option maxRecDepth 100000 in
theorem spec_l5TextOk.calls (k : Nat) (a0 : ByteArray) (r : Bool) (w : World) (h : spec_l5TextOk.f k a0 = some r) :
    Calls Try.prog 164 #[.string a0] w fun e w' => e = .returned (.bool r) ∧ Drawn0 w w' := by
 have H : (spec_l5TextOk.l0 k a0 0) = some r := h; clear h; have H' := Aside0.mk H; clear H; go_enter Try.func164, Try.ntmps164; go_wp2
 go_loopg [3] k (fun kq v3 w' => ∃ (x3_1 : Int), v3 = .int .i64 x3_1 ∧ Aside0 (spec_l5TextOk.l0 kq a0 x3_1 = some r) ∧ Aside0 (kq ≤ k) ∧ Drawn0 w w')
 case atStart => exact ⟨(0), tZB, H', ⟨Nat.le_refl _⟩, tZD⟩
 case round =>
  clear H'; obtain ⟨x3_1, rfl, HA, HK1, ⟨m1, rfl⟩⟩ := hrel
  cases gk with
  | zero => exact absurd HA.out (by simp [spec_l5TextOk.l0])
  | succ k1 =>
   have H := HA.out; clear HA; simp only [spec_l5TextOk.l0] at H
   by_cases c2 : x3_1 < (a0.size : Int)
   rotate_left
   ·rw [if_neg c2] at H; have c2b0 := decide_eq_false c2; clear c2; obtain rfl := Option.some.inj H; go_wp2; go_ret; exact ⟨tZB, tZD⟩
   rw [if_pos c2] at H; have c2b0 := decide_eq_true c2; clear c2
   by_cases c3 : 0 ≤ x3_1
   rotate_left
   ·rw [if_neg c3] at H; exact absurd H (by simp)
   rw [if_pos c3] at H; have c3b0 := decide_eq_true c3; clear c3
   by_cases c5 : (bt a0 x3_1) < 32
   ·rw [if_pos c5] at H; have c5b0 := decide_eq_true c5; clear c5; obtain rfl := Option.some.inj H; have p4 : 0 ≤ (x3_1 : Int) := of_decide_eq_true tZE; have q4 : x3_1 < (a0.size : Int) := of_decide_eq_true tZE; have hx4 := bt_at a0 x3_1; replace p4 := eq_true p4; replace q4 := eq_true q4; go_wp2; go_ret; exact ⟨tZB, tZD⟩
   rw [if_neg c5] at H; have c5b0 := decide_eq_false c5; clear c5; have H' := Aside0.mk H; clear H; have p4 : 0 ≤ (x3_1 : Int) := of_decide_eq_true tZE; have q4 : x3_1 < (a0.size : Int) := of_decide_eq_true tZE; have hx4 := bt_at a0 x3_1; replace p4 := eq_true p4; replace q4 := eq_true q4; go_wp2
   go_roundg k1
   case measure => have := HK1.out; omega
   case rel => exact ⟨(wrap64 (x3_1 + 1)), tZB, H', ⟨by have := HK1.out; omega⟩, tZD⟩
def spec_l1Amount.f (a0 : Int) : Option (Bool) := (spec_l1In.f a0 (-100000000000) 100000000000).bind fun t157 => (some t157)
set_option maxHeartbeats 8000000 in
set_option maxRecDepth 100000 in
theorem spec_l1Amount.calls (a0 : Int) (r : Bool) (w : World) (h : spec_l1Amount.f a0 = some r) :
    Calls Try.prog 70 #[.int .i64 a0] w fun e w' => e = .returned (.bool r) ∧ Drawn0 w w' := by
 have H : ((spec_l1In.f a0 (-100000000000) 100000000000).bind fun t157 => (some t157)) = some r := h; clear h; replace H := Option.bind_eq_some_iff.mp H; obtain ⟨t157, A20, H⟩ := H; replace H : (some t157) = some r := H; have A2 := Aside0.mk A20; clear A20; obtain rfl := Option.some.inj H; go_enter Try.func70, Try.ntmps70
 go_wp2_with (first | ((with_reducible refine gate_callee (f := 67) rfl ?_); refine goesL_ (some 4) rfl rfl Try.func67 kZ rfl #[.int .i64 a0, .int .i64 (-100000000000), .int .i64 100000000000] rfl tZA ?_; (with_reducible refine (spec_l1In.calls a0 (-100000000000) 100000000000 t157 _ A2.out).mono ?_); rintro e w' ⟨rfl, ⟨nd, rfl⟩⟩; refine ⟨_, rfl, ?_⟩))
 go_ret; exact ⟨tZB, tZD⟩
mutual
def spec_Leaf.j0 : Nat → List (S222) → Int → Bool → Option (Bool)
  | 0, _, _, _ => none
  | k + 1, x0, x1, x16 => if x16 = true then (some false) else (spec_Leaf.l0 k x0 x1 0)
def spec_Leaf.l0 : Nat → List (S222) → Int → Int → Option (Bool)
  | 0, _, _, _ => none
  | k + 1, x0, x1, x5 => if x5 < (x0.length : Int) then (if 0 ≤ x5 then (if ((rd_T222 x0 x5).f1) = x1 then (some false) else (spec_Leaf.l0 k x0 x1 (wrap64 (x5 + 1)))) else (none)) else (some true)
end
def spec_Leaf.f (k : Nat) (l0 : List (S222)) (a1 : Int) : Option (Bool) := (spec_ChartOk.f k l0).bind fun t158 => (if t158 = true then ((spec_l1In.f a1 0 (wrap64 ((l0.length : Int) - 1))).bind fun t159 => (spec_Leaf.j0 k l0 a1 (!t159))) else (spec_Leaf.j0 k l0 a1 true))
theorem spec_Leaf.mono_l : ∀ k, (∀ y0 y1 y2, LeO (spec_Leaf.j0 k y0 y1 y2) (spec_Leaf.j0 (k + 1) y0 y1 y2)) ∧ (∀ y0 y1 y2, LeO (spec_Leaf.l0 k y0 y1 y2) (spec_Leaf.l0 (k + 1) y0 y1 y2))
  | 0 => ⟨fun _ _ _ r h => by simp [spec_Leaf.j0] at h, fun _ _ _ r h => by simp [spec_Leaf.l0] at h⟩
  | k + 1 => by
    obtain ⟨ih0, ih1⟩ := spec_Leaf.mono_l k
    refine ⟨?_, ?_⟩
    · intro y0 y1 y2
      unfold spec_Leaf.j0
      repeat' first
      | (with_reducible exact ih0 _ _ _)
      | (with_reducible exact ih1 _ _ _)
      | (with_reducible exact spec_ChartOk.mono _ _)
      | (with_reducible exact LeO.refl _)
      | (with_reducible exact LeO.none _)
      | (with_reducible refine LeO.ite ?_ ?_)
      | (with_reducible refine LeO.bind ?_ (fun _ => ?_))
      | exact ih0 _ _ _
      | exact ih1 _ _ _
      | exact spec_ChartOk.mono _ _
      | exact LeO.none _
      | refine LeO.ite ?_ ?_
      | refine LeO.bind ?_ (fun _ => ?_)
    · intro y0 y1 y2
      unfold spec_Leaf.l0
      repeat' first
      | (with_reducible exact ih0 _ _ _)
      | (with_reducible exact ih1 _ _ _)
      | (with_reducible exact spec_ChartOk.mono _ _)
      | (with_reducible exact LeO.refl _)
      | (with_reducible exact LeO.none _)
      | (with_reducible refine LeO.ite ?_ ?_)
      | (with_reducible refine LeO.bind ?_ (fun _ => ?_))
      | exact ih0 _ _ _
      | exact ih1 _ _ _
      | exact spec_ChartOk.mono _ _
      | exact LeO.none _
      | refine LeO.ite ?_ ?_
      | refine LeO.bind ?_ (fun _ => ?_)
theorem spec_Leaf.mono : ∀ a0 a1 k, LeO (spec_Leaf.f k a0 a1) (spec_Leaf.f (k + 1) a0 a1) := by
 intro a0 a1 k
 obtain ⟨ih0, ih1⟩ := spec_Leaf.mono_l k
 unfold spec_Leaf.f
 repeat' first
     | (with_reducible exact ih0 _ _ _)
     | (with_reducible exact ih1 _ _ _)
     | (with_reducible exact spec_ChartOk.mono _ _)
     | (with_reducible exact LeO.refl _)
     | (with_reducible exact LeO.none _)
     | (with_reducible refine LeO.ite ?_ ?_)
     | (with_reducible refine LeO.bind ?_ (fun _ => ?_))
     | exact ih0 _ _ _
     | exact ih1 _ _ _
     | exact spec_ChartOk.mono _ _
     | exact LeO.none _
     | refine LeO.ite ?_ ?_
     | refine LeO.bind ?_ (fun _ => ?_)
set_option maxHeartbeats 8000000 in
set_option maxRecDepth 100000 in
theorem spec_Leaf.calls (k : Nat) (A0 : Option Addr) (c0 : Nat) (l0 : List (S222)) (a1 : Int) (r : Bool) (w : World) (hr0 : Kd.C k222 w A0 l0.length l0) (hc0 : l0.length ≤ c0) (h : spec_Leaf.f k l0 a1 = some r) :
    Calls Try.prog 187 #[.slice A0 l0.length c0, .int .i64 a1] w fun e w' => e = .returned (.bool r) ∧ Below w.heap.size w w' := by
 have HR0 := Aside0.mk hr0; have HC0 := Aside0.mk hc0; clear hr0 hc0; have HB := aZ (Below.refl w.heap.size w); have H : ((spec_ChartOk.f k l0).bind fun t158 => (if t158 = true then ((spec_l1In.f a1 0 (wrap64 ((l0.length : Int) - 1))).bind fun t159 => (spec_Leaf.j0 k l0 a1 (!t159))) else (spec_Leaf.j0 k l0 a1 true))) = some r := h; clear h; have HC3 := Aside0.mk H; clear H; go_enter Try.func187, Try.ntmps187
 go_upto_region 1 with (fail)
 go_cut [16] (fun v16 wc => ∃ (kq : Nat) (x16_2 : Bool), v16 = .bool x16_2 ∧ Aside0 (spec_Leaf.j0 kq l0 a1 x16_2 = some r) ∧ Aside0 (kq ≤ k) ∧ Aside0 (Below w.heap.size w wc))
 case first =>
  have H := HC3.out; clear HC3; replace H := Option.bind_eq_some_iff.mp H; obtain ⟨t158, A40, H⟩ := H; replace H : (if t158 = true then ((spec_l1In.f a1 0 (wrap64 ((l0.length : Int) - 1))).bind fun t159 => (spec_Leaf.j0 k l0 a1 (!t159))) else (spec_Leaf.j0 k l0 a1 true)) = some r := H; have A4 := Aside0.mk A40; clear A40
  by_cases c5 : t158 = true
  rotate_left
  ·replace c5 := Bool.eq_false_iff.mpr c5; subst c5; rw [if_neg Bool.false_ne_true] at H; have H' := Aside0.mk H; clear H
   go_wp2_with (first | ((with_reducible refine gate_callee (f := 162) rfl ?_); refine goesL_ (some 7) rfl rfl Try.func162 kZ rfl #[.slice A0 l0.length c0] rfl tZA ?_; (with_reducible refine (spec_ChartOk.calls k _ _ l0 false _ ?side1 ?side2 A4.out).mono ?_); (case side1 => repeat (first | exact (Kd.C_below HR0.out HB.out) | (with_reducible refine Kd.C_alloc ?_ _) | (with_reducible refine Kd.C_drewN ?_ _) | (with_reducible refine Kd.C_drew ?_))); (case side2 => exact HC0.out); rintro e w8 ⟨rfl, hb⟩; refine ⟨_, rfl, ?_⟩; replace HB := aZ (below_step (lZB HB.out) hb); (try clear hb); (try clear hb2); (try clear hk); (try clear hi)))
   go_meet
   case rel => exact ⟨_, (true), tZB, H', ⟨by first | omega | exact Nat.le_refl _⟩, ⟨bZ⟩⟩
  subst c5; rw [if_pos rfl] at H; replace H := Option.bind_eq_some_iff.mp H; obtain ⟨t159, A60, H⟩ := H; replace H : (spec_Leaf.j0 k l0 a1 (!t159)) = some r := H; have A6 := Aside0.mk A60; clear A60; have H' := Aside0.mk H; clear H
  go_wp2_with (first | ((with_reducible refine gate_callee (f := 162) rfl ?_); refine goesL_ (some 7) rfl rfl Try.func162 kZ rfl #[.slice A0 l0.length c0] rfl tZA ?_; (with_reducible refine (spec_ChartOk.calls k _ _ l0 true _ ?side1 ?side2 A4.out).mono ?_); (case side1 => repeat (first | exact (Kd.C_below HR0.out HB.out) | (with_reducible refine Kd.C_alloc ?_ _) | (with_reducible refine Kd.C_drewN ?_ _) | (with_reducible refine Kd.C_drew ?_))); (case side2 => exact HC0.out); rintro e w7 ⟨rfl, hb⟩; refine ⟨_, rfl, ?_⟩; replace HB := aZ (below_step (lZB HB.out) hb); (try clear hb); (try clear hb2); (try clear hk); (try clear hi)) | (go_at_call 67; (with_reducible refine (spec_l1In.calls a1 0 (wrap64 ((l0.length : Int) - 1)) t159 _ A6.out).mono ?_); rintro e w' ⟨rfl, ⟨nd, rfl⟩⟩))
  go_meet
  case rel => exact ⟨_, (!t159), tZB, H', ⟨by first | omega | exact Nat.le_refl _⟩, ⟨bZ⟩⟩
 case rest =>
  clear HC3; obtain ⟨kq, x16_2, rfl, HA, HJ2, HB⟩ := hcut
  cases kq with
  | zero => exact absurd HA.out (by simp [spec_Leaf.j0])
  | succ kj2 =>
   have H := HA.out; clear HA; simp only [spec_Leaf.j0] at H
   by_cases c9 : x16_2 = true
   ·subst c9; rw [if_pos rfl] at H; obtain rfl := Option.some.inj H; go_wp2; go_ret; exact ⟨tZC, bZ⟩
   replace c9 := Bool.eq_false_iff.mpr c9; subst c9; rw [if_neg Bool.false_ne_true] at H; have H' := Aside0.mk H; clear H; go_wp2
   go_loopg [5] kj2 (fun kq v5 w' => ∃ (x5_2 : Int), v5 = .int .i64 x5_2 ∧ Aside0 (spec_Leaf.l0 kq l0 a1 x5_2 = some r) ∧ Aside0 (kq ≤ kj2) ∧ Aside0 (Below w.heap.size w w'))
   case atStart => exact ⟨(0), tZB, H', ⟨Nat.le_refl _⟩, ⟨bZ⟩⟩
   case round =>
    clear H'; (try clear c9); obtain ⟨x5_2, rfl, HA, HK2, HB⟩ := hrel
    cases gk with
    | zero => exact absurd HA.out (by simp [spec_Leaf.l0])
    | succ k2 =>
     have H := HA.out; clear HA; simp only [spec_Leaf.l0] at H
     by_cases c10 : x5_2 < (l0.length : Int)
     rotate_left
     ·rw [if_neg c10] at H; have c10b0 := decide_eq_false c10; clear c10; obtain rfl := Option.some.inj H; go_wp2; go_ret; exact ⟨tZC, bZ⟩
     rw [if_pos c10] at H; have c10b0 := decide_eq_true c10; clear c10
     by_cases c11 : 0 ≤ x5_2
     rotate_left
     ·rw [if_neg c11] at H; exact absurd H (by simp)
     rw [if_pos c11] at H; have c11b0 := decide_eq_true c11; clear c11
     by_cases c12 : ((rd_T222 l0 x5_2).f1) = a1
     ·rw [if_pos c12] at H; have c12b0 : (((rd_T222 l0 x5_2).f1) == a1) = true := beq_iff_eq.mpr c12; have c12b1 : (((rd_T222 l0 x5_2).f1) != a1) = false := bne_eq_false_iff_eq.mpr c12; clear c12; obtain rfl := Option.some.inj H; have p160 : 0 ≤ (x5_2 : Int) := of_decide_eq_true tZE; have q160 : x5_2 < (l0.length : Int) := of_decide_eq_true tZE; obtain ⟨ad160, e160, hx160_0, hx160_1, hx160_2⟩ := at_T222 HR0.out x5_2 p160 q160
      cases e160
      replace hx160_0 := cZ HB hx160_0; replace hx160_1 := cZ HB hx160_1; replace hx160_2 := cZ HB hx160_2; replace p160 := eq_true p160; replace q160 := eq_true q160; go_wp2; go_ret; exact ⟨tZC, bZ⟩
     rw [if_neg c12] at H; have c12b0 : (((rd_T222 l0 x5_2).f1) == a1) = false := beq_eq_false_iff_ne.mpr c12; have c12b1 : (((rd_T222 l0 x5_2).f1) != a1) = true := bne_iff_ne.mpr c12; have H' := Aside0.mk H; clear H; have p160 : 0 ≤ (x5_2 : Int) := of_decide_eq_true tZE; have q160 : x5_2 < (l0.length : Int) := of_decide_eq_true tZE; obtain ⟨ad160, e160, hx160_0, hx160_1, hx160_2⟩ := at_T222 HR0.out x5_2 p160 q160
     cases e160
     replace hx160_0 := cZ HB hx160_0; replace hx160_1 := cZ HB hx160_1; replace hx160_2 := cZ HB hx160_2; replace p160 := eq_true p160; replace q160 := eq_true q160; go_wp2
     go_roundg k2
     case measure => have := HJ2.out; have := HK2.out; omega
     case rel => exact ⟨(wrap64 (x5_2 + 1)), tZB, H', ⟨by have := HJ2.out; have := HK2.out; omega⟩, ⟨bZ⟩⟩
def spec_l5LineOk.f (k : Nat) (l0_0 : List (S222)) (a0_1 : Int) (a0_2 : Int) (a1_0 : Int) (a1_1 : Int) (a1_2 : Int) (a1_3 : Int) (a1_4 : Int) : Option (Bool) := (spec_l1In.f a1_0 0 (wrap64 ((l0_0.length : Int) - 1))).bind fun t163 => (if t163 = true then ((spec_Leaf.f k l0_0 a1_0).bind fun t164 => (if t164 = true then ((spec_l1In.f a1_1 0 (wrap64 (a0_1 - 1))).bind fun t165 => (if t165 = true then ((spec_l1In.f a1_2 0 (wrap64 (a0_2 - 1))).bind fun t166 => (if t166 = true then ((spec_l1Amount.f a1_3).bind fun t167 => (if t167 = true then ((spec_l1Amount.f a1_4).bind fun t168 => (if t168 = true then (if a1_2 = 0 then (some (a1_3 == a1_4)) else (some true)) else (some false))) else (some false))) else (some false))) else (some false))) else (some false))) else (some false))
theorem spec_l5LineOk.mono : ∀ a0 a1 a2 a3 a4 a5 a6 a7 k, LeO (spec_l5LineOk.f k a0 a1 a2 a3 a4 a5 a6 a7) (spec_l5LineOk.f (k + 1) a0 a1 a2 a3 a4 a5 a6 a7) := by
 intro a0 a1 a2 a3 a4 a5 a6 a7 k
 unfold spec_l5LineOk.f
 repeat' first
     | (with_reducible exact spec_Leaf.mono _ _ _)
     | (with_reducible exact LeO.refl _)
     | (with_reducible exact LeO.none _)
     | (with_reducible refine LeO.ite ?_ ?_)
     | (with_reducible refine LeO.bind ?_ (fun _ => ?_))
     | exact spec_Leaf.mono _ _ _
     | exact LeO.none _
     | refine LeO.ite ?_ ?_
     | refine LeO.bind ?_ (fun _ => ?_)
set_option maxHeartbeats 8000000 in
set_option maxRecDepth 100000 in
theorem spec_l5LineOk.calls (k : Nat) (A0_0 : Option Addr) (c0_0 : Nat) (l0_0 : List (S222)) (a0_1 : Int) (a0_2 : Int) (a1_0 : Int) (a1_1 : Int) (a1_2 : Int) (a1_3 : Int) (a1_4 : Int) (r : Bool) (w : World) (hr0_0 : Kd.C k222 w A0_0 l0_0.length l0_0) (hc0_0 : l0_0.length ≤ c0_0) (h : spec_l5LineOk.f k l0_0 a0_1 a0_2 a1_0 a1_1 a1_2 a1_3 a1_4 = some r) :
    Calls Try.prog 165 #[.agg #[.slice A0_0 l0_0.length c0_0, .int .i64 a0_1, .int .i64 a0_2], .agg #[.int .i64 a1_0, .int .i64 a1_1, .int .i64 a1_2, .int .i64 a1_3, .int .i64 a1_4]] w fun e w' => e = .returned (.bool r) ∧ Below w.heap.size w w' := by
 have hu81 := Try.underlying81; have hu107 := Try.underlying107; have HR0_0 := Aside0.mk hr0_0; have HC0_0 := Aside0.mk hc0_0; clear hr0_0 hc0_0; have HB := aZ (Below.refl w.heap.size w); have H : ((spec_l1In.f a1_0 0 (wrap64 ((l0_0.length : Int) - 1))).bind fun t163 => (if t163 = true then ((spec_Leaf.f k l0_0 a1_0).bind fun t164 => (if t164 = true then ((spec_l1In.f a1_1 0 (wrap64 (a0_1 - 1))).bind fun t165 => (if t165 = true then ((spec_l1In.f a1_2 0 (wrap64 (a0_2 - 1))).bind fun t166 => (if t166 = true then ((spec_l1Amount.f a1_3).bind fun t167 => (if t167 = true then ((spec_l1Amount.f a1_4).bind fun t168 => (if t168 = true then (if a1_2 = 0 then (some (a1_3 == a1_4)) else (some true)) else (some false))) else (some false))) else (some false))) else (some false))) else (some false))) else (some false))) = some r := h; clear h; replace H := Option.bind_eq_some_iff.mp H
 obtain ⟨t163, A30, H⟩ := H; replace H : (if t163 = true then ((spec_Leaf.f k l0_0 a1_0).bind fun t164 => (if t164 = true then ((spec_l1In.f a1_1 0 (wrap64 (a0_1 - 1))).bind fun t165 => (if t165 = true then ((spec_l1In.f a1_2 0 (wrap64 (a0_2 - 1))).bind fun t166 => (if t166 = true then ((spec_l1Amount.f a1_3).bind fun t167 => (if t167 = true then ((spec_l1Amount.f a1_4).bind fun t168 => (if t168 = true then (if a1_2 = 0 then (some (a1_3 == a1_4)) else (some true)) else (some false))) else (some false))) else (some false))) else (some false))) else (some false))) else (some false)) = some r := H; have A3 := Aside0.mk A30; clear A30
 by_cases c4 : t163 = true
 rotate_left
 ·replace c4 := Bool.eq_false_iff.mpr c4; subst c4; rw [if_neg Bool.false_ne_true] at H; obtain rfl := Option.some.inj H; go_enter Try.func165, Try.ntmps165
  go_wp2_with (first | ((with_reducible refine gate_dst (N := 2) rfl ?_); refine box_event tZR (N := 2) tZR (cs := #[.slice A0_0 l0_0.length c0_0, .int .i64 a0_1, .int .i64 a0_2]) (t := 81) tZS ?_; intro gb161 hg w70 hbox hb; have BK161 := aZ (hbox); have GW161 := aZ ((by rw [hg]; exact (below_size (lZB HB.out)) : w.heap.size ≤ gb161)); have GE161 := GW161; replace HB := aZ (below_step (lZB HB.out) hb); clear hb hbox hg) | ((with_reducible refine gate_dst (N := 3) rfl ?_); refine box_event tZR (N := 3) tZR (cs := #[.int .i64 a1_0, .int .i64 a1_1, .int .i64 a1_2, .int .i64 a1_3, .int .i64 a1_4]) (t := 107) tZS ?_; intro gb162 hg w71 hbox hb; have BK162 := aZ (hbox); have GW162 := aZ ((by rw [hg]; exact (below_size bZ) : w.heap.size ≤ gb162)); have GE162 := GW162; replace HB := aZ (below_step bZ hb); have NB161_162 := aZ ((nLt hg (bkZ BK161.out) : gb161 ≠ gb162)); have NB162_161 := aZ ((nGt hg (bkZ BK161.out) : gb162 ≠ gb161)); replace BK161 := aZ (blk_below (bkZ BK161.out) hb); clear hb hbox hg; have hnb72 := NB162_161.out; have hnc72 := NB161_162.out; obtain ⟨hcz73_0, hcz73_1, hcz73_2, hcz73_3, hcz73_4, hfz73_0, hfz73_1, hfz73_2, hfz73_3, hfz73_4⟩ := bc5 BK162.out; obtain ⟨hcz74_0, hcz74_1, hcz74_2, hfz74_0, hfz74_1, hfz74_2⟩ := bc3 BK161.out) | ((with_reducible refine gate_callee (f := 67) rfl ?_); refine goesL_ (some 11) rfl rfl Try.func67 kZ rfl #[.int .i64 a1_0, .int .i64 0, .int .i64 (wrap64 ((l0_0.length : Int) - 1))] rfl tZA ?_; (with_reducible refine (spec_l1In.calls a1_0 0 (wrap64 ((l0_0.length : Int) - 1)) false _ A3.out).mono ?_); rintro e w' ⟨rfl, ⟨nd, rfl⟩⟩; refine ⟨_, rfl, ?_⟩))
  go_ret; exact ⟨tZC, bZ⟩
 subst c4; rw [if_pos rfl] at H; replace H := Option.bind_eq_some_iff.mp H; obtain ⟨t164, A50, H⟩ := H; replace H : (if t164 = true then ((spec_l1In.f a1_1 0 (wrap64 (a0_1 - 1))).bind fun t165 => (if t165 = true then ((spec_l1In.f a1_2 0 (wrap64 (a0_2 - 1))).bind fun t166 => (if t166 = true then ((spec_l1Amount.f a1_3).bind fun t167 => (if t167 = true then ((spec_l1Amount.f a1_4).bind fun t168 => (if t168 = true then (if a1_2 = 0 then (some (a1_3 == a1_4)) else (some true)) else (some false))) else (some false))) else (some false))) else (some false))) else (some false)) = some r := H; have A5 := Aside0.mk A50; clear A50
 by_cases c6 : t164 = true
 rotate_left
 ·replace c6 := Bool.eq_false_iff.mpr c6; subst c6; rw [if_neg Bool.false_ne_true] at H; obtain rfl := Option.some.inj H; go_enter Try.func165, Try.ntmps165
  go_wp2_with (first | ((with_reducible refine gate_dst (N := 2) rfl ?_); refine box_event tZR (N := 2) tZR (cs := #[.slice A0_0 l0_0.length c0_0, .int .i64 a0_1, .int .i64 a0_2]) (t := 81) tZS ?_; intro gb161 hg w64 hbox hb; have BK161 := aZ (hbox); have GW161 := aZ ((by rw [hg]; exact (below_size (lZB HB.out)) : w.heap.size ≤ gb161)); have GE161 := GW161; replace HB := aZ (below_step (lZB HB.out) hb); clear hb hbox hg) | ((with_reducible refine gate_dst (N := 3) rfl ?_); refine box_event tZR (N := 3) tZR (cs := #[.int .i64 a1_0, .int .i64 a1_1, .int .i64 a1_2, .int .i64 a1_3, .int .i64 a1_4]) (t := 107) tZS ?_; intro gb162 hg w65 hbox hb; have BK162 := aZ (hbox); have GW162 := aZ ((by rw [hg]; exact (below_size bZ) : w.heap.size ≤ gb162)); have GE162 := GW162; replace HB := aZ (below_step bZ hb); have NB161_162 := aZ ((nLt hg (bkZ BK161.out) : gb161 ≠ gb162)); have NB162_161 := aZ ((nGt hg (bkZ BK161.out) : gb162 ≠ gb161)); replace BK161 := aZ (blk_below (bkZ BK161.out) hb); clear hb hbox hg; have hnb66 := NB162_161.out; have hnc66 := NB161_162.out; obtain ⟨hcz67_0, hcz67_1, hcz67_2, hcz67_3, hcz67_4, hfz67_0, hfz67_1, hfz67_2, hfz67_3, hfz67_4⟩ := bc5 BK162.out; obtain ⟨hcz68_0, hcz68_1, hcz68_2, hfz68_0, hfz68_1, hfz68_2⟩ := bc3 BK161.out) | ((with_reducible refine gate_callee (f := 67) rfl ?_); refine goesL_ (some 11) rfl rfl Try.func67 kZ rfl #[.int .i64 a1_0, .int .i64 0, .int .i64 (wrap64 ((l0_0.length : Int) - 1))] rfl tZA ?_; (with_reducible refine (spec_l1In.calls a1_0 0 (wrap64 ((l0_0.length : Int) - 1)) true _ A3.out).mono ?_); rintro e w' ⟨rfl, ⟨nd, rfl⟩⟩; refine ⟨_, rfl, ?_⟩) | (go_at_call 187; (with_reducible refine (spec_Leaf.calls k _ _ l0_0 a1_0 false _ ?side1 ?side2 A5.out).mono ?_); (case side1 => repeat (first | exact (Kd.C_below HR0_0.out bZ) | (with_reducible refine Kd.C_alloc ?_ _) | (with_reducible refine Kd.C_drewN ?_ _) | (with_reducible refine Kd.C_drew ?_))); (case side2 => exact HC0_0.out); rintro e w69 ⟨rfl, hb⟩; replace BK161 := aZ (blk_below (bkZ BK161.out) hb); replace BK162 := aZ (blk_below (bkZ BK162.out) hb); replace HB := aZ (below_step bZ hb); (try clear hb); (try clear hb2); (try clear hk); (try clear hi)))
  go_ret; exact ⟨tZC, bZ⟩
 subst c6; rw [if_pos rfl] at H; replace H := Option.bind_eq_some_iff.mp H; obtain ⟨t165, A70, H⟩ := H; replace H : (if t165 = true then ((spec_l1In.f a1_2 0 (wrap64 (a0_2 - 1))).bind fun t166 => (if t166 = true then ((spec_l1Amount.f a1_3).bind fun t167 => (if t167 = true then ((spec_l1Amount.f a1_4).bind fun t168 => (if t168 = true then (if a1_2 = 0 then (some (a1_3 == a1_4)) else (some true)) else (some false))) else (some false))) else (some false))) else (some false)) = some r := H; have A7 := Aside0.mk A70; clear A70
 by_cases c8 : t165 = true
 rotate_left
 ·replace c8 := Bool.eq_false_iff.mpr c8; subst c8; rw [if_neg Bool.false_ne_true] at H; obtain rfl := Option.some.inj H; go_enter Try.func165, Try.ntmps165
  go_wp2_with (first | ((with_reducible refine gate_dst (N := 2) rfl ?_); refine box_event tZR (N := 2) tZR (cs := #[.slice A0_0 l0_0.length c0_0, .int .i64 a0_1, .int .i64 a0_2]) (t := 81) tZS ?_; intro gb161 hg w56 hbox hb; have BK161 := aZ (hbox); have GW161 := aZ ((by rw [hg]; exact (below_size (lZB HB.out)) : w.heap.size ≤ gb161)); have GE161 := GW161; replace HB := aZ (below_step (lZB HB.out) hb); clear hb hbox hg) | ((with_reducible refine gate_dst (N := 3) rfl ?_); refine box_event tZR (N := 3) tZR (cs := #[.int .i64 a1_0, .int .i64 a1_1, .int .i64 a1_2, .int .i64 a1_3, .int .i64 a1_4]) (t := 107) tZS ?_; intro gb162 hg w57 hbox hb; have BK162 := aZ (hbox); have GW162 := aZ ((by rw [hg]; exact (below_size bZ) : w.heap.size ≤ gb162)); have GE162 := GW162; replace HB := aZ (below_step bZ hb); have NB161_162 := aZ ((nLt hg (bkZ BK161.out) : gb161 ≠ gb162)); have NB162_161 := aZ ((nGt hg (bkZ BK161.out) : gb162 ≠ gb161)); replace BK161 := aZ (blk_below (bkZ BK161.out) hb); clear hb hbox hg; have hnb58 := NB162_161.out; have hnc58 := NB161_162.out; obtain ⟨hcz59_0, hcz59_1, hcz59_2, hcz59_3, hcz59_4, hfz59_0, hfz59_1, hfz59_2, hfz59_3, hfz59_4⟩ := bc5 BK162.out; obtain ⟨hcz60_0, hcz60_1, hcz60_2, hfz60_0, hfz60_1, hfz60_2⟩ := bc3 BK161.out) | ((with_reducible refine gate_callee (f := 67) rfl ?_); refine goesL_ (some 11) rfl rfl Try.func67 kZ rfl #[.int .i64 a1_0, .int .i64 0, .int .i64 (wrap64 ((l0_0.length : Int) - 1))] rfl tZA ?_; (with_reducible refine (spec_l1In.calls a1_0 0 (wrap64 ((l0_0.length : Int) - 1)) true _ A3.out).mono ?_); rintro e w' ⟨rfl, ⟨nd, rfl⟩⟩; refine ⟨_, rfl, ?_⟩) | (go_at_call 187; (with_reducible refine (spec_Leaf.calls k _ _ l0_0 a1_0 true _ ?side1 ?side2 A5.out).mono ?_); (case side1 => repeat (first | exact (Kd.C_below HR0_0.out bZ) | (with_reducible refine Kd.C_alloc ?_ _) | (with_reducible refine Kd.C_drewN ?_ _) | (with_reducible refine Kd.C_drew ?_))); (case side2 => exact HC0_0.out); rintro e w61 ⟨rfl, hb⟩; replace BK161 := aZ (blk_below (bkZ BK161.out) hb); replace BK162 := aZ (blk_below (bkZ BK162.out) hb); replace HB := aZ (below_step bZ hb); (try clear hb); (try clear hb2); (try clear hk); (try clear hi); obtain ⟨hcz62_0, hcz62_1, hcz62_2, hcz62_3, hcz62_4, hfz62_0, hfz62_1, hfz62_2, hfz62_3, hfz62_4⟩ := bc5 BK162.out; obtain ⟨hcz63_0, hcz63_1, hcz63_2, hfz63_0, hfz63_1, hfz63_2⟩ := bc3 BK161.out) | (go_at_call 67; (with_reducible refine (spec_l1In.calls a1_1 0 (wrap64 (a0_1 - 1)) false _ A7.out).mono ?_); rintro e w' ⟨rfl, ⟨nd, rfl⟩⟩))
  go_ret; exact ⟨tZC, bZ⟩
 subst c8; rw [if_pos rfl] at H; replace H := Option.bind_eq_some_iff.mp H; obtain ⟨t166, A90, H⟩ := H; replace H : (if t166 = true then ((spec_l1Amount.f a1_3).bind fun t167 => (if t167 = true then ((spec_l1Amount.f a1_4).bind fun t168 => (if t168 = true then (if a1_2 = 0 then (some (a1_3 == a1_4)) else (some true)) else (some false))) else (some false))) else (some false)) = some r := H; have A9 := Aside0.mk A90; clear A90
 by_cases c10 : t166 = true
 rotate_left
 ·replace c10 := Bool.eq_false_iff.mpr c10; subst c10; rw [if_neg Bool.false_ne_true] at H; obtain rfl := Option.some.inj H; go_enter Try.func165, Try.ntmps165
  go_wp2_with (first | ((with_reducible refine gate_dst (N := 2) rfl ?_); refine box_event tZR (N := 2) tZR (cs := #[.slice A0_0 l0_0.length c0_0, .int .i64 a0_1, .int .i64 a0_2]) (t := 81) tZS ?_; intro gb161 hg w48 hbox hb; have BK161 := aZ (hbox); have GW161 := aZ ((by rw [hg]; exact (below_size (lZB HB.out)) : w.heap.size ≤ gb161)); have GE161 := GW161; replace HB := aZ (below_step (lZB HB.out) hb); clear hb hbox hg) | ((with_reducible refine gate_dst (N := 3) rfl ?_); refine box_event tZR (N := 3) tZR (cs := #[.int .i64 a1_0, .int .i64 a1_1, .int .i64 a1_2, .int .i64 a1_3, .int .i64 a1_4]) (t := 107) tZS ?_; intro gb162 hg w49 hbox hb; have BK162 := aZ (hbox); have GW162 := aZ ((by rw [hg]; exact (below_size bZ) : w.heap.size ≤ gb162)); have GE162 := GW162; replace HB := aZ (below_step bZ hb); have NB161_162 := aZ ((nLt hg (bkZ BK161.out) : gb161 ≠ gb162)); have NB162_161 := aZ ((nGt hg (bkZ BK161.out) : gb162 ≠ gb161)); replace BK161 := aZ (blk_below (bkZ BK161.out) hb); clear hb hbox hg; have hnb50 := NB162_161.out; have hnc50 := NB161_162.out; obtain ⟨hcz51_0, hcz51_1, hcz51_2, hcz51_3, hcz51_4, hfz51_0, hfz51_1, hfz51_2, hfz51_3, hfz51_4⟩ := bc5 BK162.out; obtain ⟨hcz52_0, hcz52_1, hcz52_2, hfz52_0, hfz52_1, hfz52_2⟩ := bc3 BK161.out) | ((with_reducible refine gate_callee (f := 67) rfl ?_); refine goesL_ (some 11) rfl rfl Try.func67 kZ rfl #[.int .i64 a1_0, .int .i64 0, .int .i64 (wrap64 ((l0_0.length : Int) - 1))] rfl tZA ?_; (with_reducible refine (spec_l1In.calls a1_0 0 (wrap64 ((l0_0.length : Int) - 1)) true _ A3.out).mono ?_); rintro e w' ⟨rfl, ⟨nd, rfl⟩⟩; refine ⟨_, rfl, ?_⟩) | (go_at_call 187; (with_reducible refine (spec_Leaf.calls k _ _ l0_0 a1_0 true _ ?side1 ?side2 A5.out).mono ?_); (case side1 => repeat (first | exact (Kd.C_below HR0_0.out bZ) | (with_reducible refine Kd.C_alloc ?_ _) | (with_reducible refine Kd.C_drewN ?_ _) | (with_reducible refine Kd.C_drew ?_))); (case side2 => exact HC0_0.out); rintro e w53 ⟨rfl, hb⟩; replace BK161 := aZ (blk_below (bkZ BK161.out) hb); replace BK162 := aZ (blk_below (bkZ BK162.out) hb); replace HB := aZ (below_step bZ hb); (try clear hb); (try clear hb2); (try clear hk); (try clear hi); obtain ⟨hcz54_0, hcz54_1, hcz54_2, hcz54_3, hcz54_4, hfz54_0, hfz54_1, hfz54_2, hfz54_3, hfz54_4⟩ := bc5 BK162.out; obtain ⟨hcz55_0, hcz55_1, hcz55_2, hfz55_0, hfz55_1, hfz55_2⟩ := bc3 BK161.out) | (go_at_call 67; (with_reducible refine (spec_l1In.calls a1_1 0 (wrap64 (a0_1 - 1)) true _ A7.out).mono ?_); rintro e w' ⟨rfl, ⟨nd, rfl⟩⟩) | (go_at_call 67; (with_reducible refine (spec_l1In.calls a1_2 0 (wrap64 (a0_2 - 1)) false _ A9.out).mono ?_); rintro e w' ⟨rfl, ⟨nd, rfl⟩⟩))
  go_ret; exact ⟨tZC, bZ⟩
 subst c10; rw [if_pos rfl] at H; replace H := Option.bind_eq_some_iff.mp H; obtain ⟨t167, A110, H⟩ := H; replace H : (if t167 = true then ((spec_l1Amount.f a1_4).bind fun t168 => (if t168 = true then (if a1_2 = 0 then (some (a1_3 == a1_4)) else (some true)) else (some false))) else (some false)) = some r := H; have A11 := Aside0.mk A110; clear A110
 by_cases c12 : t167 = true
 rotate_left
 ·replace c12 := Bool.eq_false_iff.mpr c12; subst c12; rw [if_neg Bool.false_ne_true] at H; obtain rfl := Option.some.inj H; go_enter Try.func165, Try.ntmps165
  go_wp2_with (first | ((with_reducible refine gate_dst (N := 2) rfl ?_); refine box_event tZR (N := 2) tZR (cs := #[.slice A0_0 l0_0.length c0_0, .int .i64 a0_1, .int .i64 a0_2]) (t := 81) tZS ?_; intro gb161 hg w40 hbox hb; have BK161 := aZ (hbox); have GW161 := aZ ((by rw [hg]; exact (below_size (lZB HB.out)) : w.heap.size ≤ gb161)); have GE161 := GW161; replace HB := aZ (below_step (lZB HB.out) hb); clear hb hbox hg) | ((with_reducible refine gate_dst (N := 3) rfl ?_); refine box_event tZR (N := 3) tZR (cs := #[.int .i64 a1_0, .int .i64 a1_1, .int .i64 a1_2, .int .i64 a1_3, .int .i64 a1_4]) (t := 107) tZS ?_; intro gb162 hg w41 hbox hb; have BK162 := aZ (hbox); have GW162 := aZ ((by rw [hg]; exact (below_size bZ) : w.heap.size ≤ gb162)); have GE162 := GW162; replace HB := aZ (below_step bZ hb); have NB161_162 := aZ ((nLt hg (bkZ BK161.out) : gb161 ≠ gb162)); have NB162_161 := aZ ((nGt hg (bkZ BK161.out) : gb162 ≠ gb161)); replace BK161 := aZ (blk_below (bkZ BK161.out) hb); clear hb hbox hg; have hnb42 := NB162_161.out; have hnc42 := NB161_162.out; obtain ⟨hcz43_0, hcz43_1, hcz43_2, hcz43_3, hcz43_4, hfz43_0, hfz43_1, hfz43_2, hfz43_3, hfz43_4⟩ := bc5 BK162.out; obtain ⟨hcz44_0, hcz44_1, hcz44_2, hfz44_0, hfz44_1, hfz44_2⟩ := bc3 BK161.out) | ((with_reducible refine gate_callee (f := 67) rfl ?_); refine goesL_ (some 11) rfl rfl Try.func67 kZ rfl #[.int .i64 a1_0, .int .i64 0, .int .i64 (wrap64 ((l0_0.length : Int) - 1))] rfl tZA ?_; (with_reducible refine (spec_l1In.calls a1_0 0 (wrap64 ((l0_0.length : Int) - 1)) true _ A3.out).mono ?_); rintro e w' ⟨rfl, ⟨nd, rfl⟩⟩; refine ⟨_, rfl, ?_⟩) | (go_at_call 187; (with_reducible refine (spec_Leaf.calls k _ _ l0_0 a1_0 true _ ?side1 ?side2 A5.out).mono ?_); (case side1 => repeat (first | exact (Kd.C_below HR0_0.out bZ) | (with_reducible refine Kd.C_alloc ?_ _) | (with_reducible refine Kd.C_drewN ?_ _) | (with_reducible refine Kd.C_drew ?_))); (case side2 => exact HC0_0.out); rintro e w45 ⟨rfl, hb⟩; replace BK161 := aZ (blk_below (bkZ BK161.out) hb); replace BK162 := aZ (blk_below (bkZ BK162.out) hb); replace HB := aZ (below_step bZ hb); (try clear hb); (try clear hb2); (try clear hk); (try clear hi); obtain ⟨hcz46_0, hcz46_1, hcz46_2, hcz46_3, hcz46_4, hfz46_0, hfz46_1, hfz46_2, hfz46_3, hfz46_4⟩ := bc5 BK162.out; obtain ⟨hcz47_0, hcz47_1, hcz47_2, hfz47_0, hfz47_1, hfz47_2⟩ := bc3 BK161.out) | (go_at_call 67; (with_reducible refine (spec_l1In.calls a1_1 0 (wrap64 (a0_1 - 1)) true _ A7.out).mono ?_); rintro e w' ⟨rfl, ⟨nd, rfl⟩⟩) | (go_at_call 67; (with_reducible refine (spec_l1In.calls a1_2 0 (wrap64 (a0_2 - 1)) true _ A9.out).mono ?_); rintro e w' ⟨rfl, ⟨nd, rfl⟩⟩) | (go_at_call 70; (with_reducible refine (spec_l1Amount.calls a1_3 false _ A11.out).mono ?_); rintro e w' ⟨rfl, ⟨nd, rfl⟩⟩))
  go_ret; exact ⟨tZC, bZ⟩
 subst c12; rw [if_pos rfl] at H; replace H := Option.bind_eq_some_iff.mp H; obtain ⟨t168, A130, H⟩ := H; replace H : (if t168 = true then (if a1_2 = 0 then (some (a1_3 == a1_4)) else (some true)) else (some false)) = some r := H; have A13 := Aside0.mk A130; clear A130
 by_cases c14 : t168 = true
 rotate_left
 ·replace c14 := Bool.eq_false_iff.mpr c14; subst c14; rw [if_neg Bool.false_ne_true] at H; obtain rfl := Option.some.inj H; go_enter Try.func165, Try.ntmps165
  go_wp2_with (first | ((with_reducible refine gate_dst (N := 2) rfl ?_); refine box_event tZR (N := 2) tZR (cs := #[.slice A0_0 l0_0.length c0_0, .int .i64 a0_1, .int .i64 a0_2]) (t := 81) tZS ?_; intro gb161 hg w32 hbox hb; have BK161 := aZ (hbox); have GW161 := aZ ((by rw [hg]; exact (below_size (lZB HB.out)) : w.heap.size ≤ gb161)); have GE161 := GW161; replace HB := aZ (below_step (lZB HB.out) hb); clear hb hbox hg) | ((with_reducible refine gate_dst (N := 3) rfl ?_); refine box_event tZR (N := 3) tZR (cs := #[.int .i64 a1_0, .int .i64 a1_1, .int .i64 a1_2, .int .i64 a1_3, .int .i64 a1_4]) (t := 107) tZS ?_; intro gb162 hg w33 hbox hb; have BK162 := aZ (hbox); have GW162 := aZ ((by rw [hg]; exact (below_size bZ) : w.heap.size ≤ gb162)); have GE162 := GW162; replace HB := aZ (below_step bZ hb); have NB161_162 := aZ ((nLt hg (bkZ BK161.out) : gb161 ≠ gb162)); have NB162_161 := aZ ((nGt hg (bkZ BK161.out) : gb162 ≠ gb161)); replace BK161 := aZ (blk_below (bkZ BK161.out) hb); clear hb hbox hg; have hnb34 := NB162_161.out; have hnc34 := NB161_162.out; obtain ⟨hcz35_0, hcz35_1, hcz35_2, hcz35_3, hcz35_4, hfz35_0, hfz35_1, hfz35_2, hfz35_3, hfz35_4⟩ := bc5 BK162.out; obtain ⟨hcz36_0, hcz36_1, hcz36_2, hfz36_0, hfz36_1, hfz36_2⟩ := bc3 BK161.out) | ((with_reducible refine gate_callee (f := 67) rfl ?_); refine goesL_ (some 11) rfl rfl Try.func67 kZ rfl #[.int .i64 a1_0, .int .i64 0, .int .i64 (wrap64 ((l0_0.length : Int) - 1))] rfl tZA ?_; (with_reducible refine (spec_l1In.calls a1_0 0 (wrap64 ((l0_0.length : Int) - 1)) true _ A3.out).mono ?_); rintro e w' ⟨rfl, ⟨nd, rfl⟩⟩; refine ⟨_, rfl, ?_⟩) | (go_at_call 187; (with_reducible refine (spec_Leaf.calls k _ _ l0_0 a1_0 true _ ?side1 ?side2 A5.out).mono ?_); (case side1 => repeat (first | exact (Kd.C_below HR0_0.out bZ) | (with_reducible refine Kd.C_alloc ?_ _) | (with_reducible refine Kd.C_drewN ?_ _) | (with_reducible refine Kd.C_drew ?_))); (case side2 => exact HC0_0.out); rintro e w37 ⟨rfl, hb⟩; replace BK161 := aZ (blk_below (bkZ BK161.out) hb); replace BK162 := aZ (blk_below (bkZ BK162.out) hb); replace HB := aZ (below_step bZ hb); (try clear hb); (try clear hb2); (try clear hk); (try clear hi); obtain ⟨hcz38_0, hcz38_1, hcz38_2, hcz38_3, hcz38_4, hfz38_0, hfz38_1, hfz38_2, hfz38_3, hfz38_4⟩ := bc5 BK162.out; obtain ⟨hcz39_0, hcz39_1, hcz39_2, hfz39_0, hfz39_1, hfz39_2⟩ := bc3 BK161.out) | (go_at_call 67; (with_reducible refine (spec_l1In.calls a1_1 0 (wrap64 (a0_1 - 1)) true _ A7.out).mono ?_); rintro e w' ⟨rfl, ⟨nd, rfl⟩⟩) | (go_at_call 67; (with_reducible refine (spec_l1In.calls a1_2 0 (wrap64 (a0_2 - 1)) true _ A9.out).mono ?_); rintro e w' ⟨rfl, ⟨nd, rfl⟩⟩) | (go_at_call 70; (with_reducible refine (spec_l1Amount.calls a1_3 true _ A11.out).mono ?_); rintro e w' ⟨rfl, ⟨nd, rfl⟩⟩) | (go_at_call 70; (with_reducible refine (spec_l1Amount.calls a1_4 false _ A13.out).mono ?_); rintro e w' ⟨rfl, ⟨nd, rfl⟩⟩))
  go_ret; exact ⟨tZC, bZ⟩
 subst c14; rw [if_pos rfl] at H
 by_cases c15 : a1_2 = 0
 rotate_left
 ·rw [if_neg c15] at H; have c15b0 : (a1_2 == 0) = false := beq_eq_false_iff_ne.mpr c15; have c15b1 : (a1_2 != 0) = true := bne_iff_ne.mpr c15; obtain rfl := Option.some.inj H; go_enter Try.func165, Try.ntmps165
  go_wp2_with (first | ((with_reducible refine gate_dst (N := 2) rfl ?_); refine box_event tZR (N := 2) tZR (cs := #[.slice A0_0 l0_0.length c0_0, .int .i64 a0_1, .int .i64 a0_2]) (t := 81) tZS ?_; intro gb161 hg w24 hbox hb; have BK161 := aZ (hbox); have GW161 := aZ ((by rw [hg]; exact (below_size (lZB HB.out)) : w.heap.size ≤ gb161)); have GE161 := GW161; replace HB := aZ (below_step (lZB HB.out) hb); clear hb hbox hg) | ((with_reducible refine gate_dst (N := 3) rfl ?_); refine box_event tZR (N := 3) tZR (cs := #[.int .i64 a1_0, .int .i64 a1_1, .int .i64 a1_2, .int .i64 a1_3, .int .i64 a1_4]) (t := 107) tZS ?_; intro gb162 hg w25 hbox hb; have BK162 := aZ (hbox); have GW162 := aZ ((by rw [hg]; exact (below_size bZ) : w.heap.size ≤ gb162)); have GE162 := GW162; replace HB := aZ (below_step bZ hb); have NB161_162 := aZ ((nLt hg (bkZ BK161.out) : gb161 ≠ gb162)); have NB162_161 := aZ ((nGt hg (bkZ BK161.out) : gb162 ≠ gb161)); replace BK161 := aZ (blk_below (bkZ BK161.out) hb); clear hb hbox hg; have hnb26 := NB162_161.out; have hnc26 := NB161_162.out; obtain ⟨hcz27_0, hcz27_1, hcz27_2, hcz27_3, hcz27_4, hfz27_0, hfz27_1, hfz27_2, hfz27_3, hfz27_4⟩ := bc5 BK162.out; obtain ⟨hcz28_0, hcz28_1, hcz28_2, hfz28_0, hfz28_1, hfz28_2⟩ := bc3 BK161.out) | ((with_reducible refine gate_callee (f := 67) rfl ?_); refine goesL_ (some 11) rfl rfl Try.func67 kZ rfl #[.int .i64 a1_0, .int .i64 0, .int .i64 (wrap64 ((l0_0.length : Int) - 1))] rfl tZA ?_; (with_reducible refine (spec_l1In.calls a1_0 0 (wrap64 ((l0_0.length : Int) - 1)) true _ A3.out).mono ?_); rintro e w' ⟨rfl, ⟨nd, rfl⟩⟩; refine ⟨_, rfl, ?_⟩) | (go_at_call 187; (with_reducible refine (spec_Leaf.calls k _ _ l0_0 a1_0 true _ ?side1 ?side2 A5.out).mono ?_); (case side1 => repeat (first | exact (Kd.C_below HR0_0.out bZ) | (with_reducible refine Kd.C_alloc ?_ _) | (with_reducible refine Kd.C_drewN ?_ _) | (with_reducible refine Kd.C_drew ?_))); (case side2 => exact HC0_0.out); rintro e w29 ⟨rfl, hb⟩; replace BK161 := aZ (blk_below (bkZ BK161.out) hb); replace BK162 := aZ (blk_below (bkZ BK162.out) hb); replace HB := aZ (below_step bZ hb); (try clear hb); (try clear hb2); (try clear hk); (try clear hi); obtain ⟨hcz30_0, hcz30_1, hcz30_2, hcz30_3, hcz30_4, hfz30_0, hfz30_1, hfz30_2, hfz30_3, hfz30_4⟩ := bc5 BK162.out; obtain ⟨hcz31_0, hcz31_1, hcz31_2, hfz31_0, hfz31_1, hfz31_2⟩ := bc3 BK161.out) | (go_at_call 67; (with_reducible refine (spec_l1In.calls a1_1 0 (wrap64 (a0_1 - 1)) true _ A7.out).mono ?_); rintro e w' ⟨rfl, ⟨nd, rfl⟩⟩) | (go_at_call 67; (with_reducible refine (spec_l1In.calls a1_2 0 (wrap64 (a0_2 - 1)) true _ A9.out).mono ?_); rintro e w' ⟨rfl, ⟨nd, rfl⟩⟩) | (go_at_call 70; (with_reducible refine (spec_l1Amount.calls a1_3 true _ A11.out).mono ?_); rintro e w' ⟨rfl, ⟨nd, rfl⟩⟩) | (go_at_call 70; (with_reducible refine (spec_l1Amount.calls a1_4 true _ A13.out).mono ?_); rintro e w' ⟨rfl, ⟨nd, rfl⟩⟩))
  go_ret; exact ⟨tZC, bZ⟩
 rw [if_pos c15] at H; have c15b0 : (a1_2 == 0) = true := beq_iff_eq.mpr c15; have c15b1 : (a1_2 != 0) = false := bne_eq_false_iff_eq.mpr c15; clear c15; obtain rfl := Option.some.inj H; go_enter Try.func165, Try.ntmps165
 go_wp2_with (first | ((with_reducible refine gate_dst (N := 2) rfl ?_); refine box_event tZR (N := 2) tZR (cs := #[.slice A0_0 l0_0.length c0_0, .int .i64 a0_1, .int .i64 a0_2]) (t := 81) tZS ?_; intro gb161 hg w16 hbox hb; have BK161 := aZ (hbox); have GW161 := aZ ((by rw [hg]; exact (below_size (lZB HB.out)) : w.heap.size ≤ gb161)); have GE161 := GW161; replace HB := aZ (below_step (lZB HB.out) hb); clear hb hbox hg) | ((with_reducible refine gate_dst (N := 3) rfl ?_); refine box_event tZR (N := 3) tZR (cs := #[.int .i64 a1_0, .int .i64 a1_1, .int .i64 a1_2, .int .i64 a1_3, .int .i64 a1_4]) (t := 107) tZS ?_; intro gb162 hg w17 hbox hb; have BK162 := aZ (hbox); have GW162 := aZ ((by rw [hg]; exact (below_size bZ) : w.heap.size ≤ gb162)); have GE162 := GW162; replace HB := aZ (below_step bZ hb); have NB161_162 := aZ ((nLt hg (bkZ BK161.out) : gb161 ≠ gb162)); have NB162_161 := aZ ((nGt hg (bkZ BK161.out) : gb162 ≠ gb161)); replace BK161 := aZ (blk_below (bkZ BK161.out) hb); clear hb hbox hg; have hnb18 := NB162_161.out; have hnc18 := NB161_162.out; obtain ⟨hcz19_0, hcz19_1, hcz19_2, hcz19_3, hcz19_4, hfz19_0, hfz19_1, hfz19_2, hfz19_3, hfz19_4⟩ := bc5 BK162.out; obtain ⟨hcz20_0, hcz20_1, hcz20_2, hfz20_0, hfz20_1, hfz20_2⟩ := bc3 BK161.out) | ((with_reducible refine gate_callee (f := 67) rfl ?_); refine goesL_ (some 11) rfl rfl Try.func67 kZ rfl #[.int .i64 a1_0, .int .i64 0, .int .i64 (wrap64 ((l0_0.length : Int) - 1))] rfl tZA ?_; (with_reducible refine (spec_l1In.calls a1_0 0 (wrap64 ((l0_0.length : Int) - 1)) true _ A3.out).mono ?_); rintro e w' ⟨rfl, ⟨nd, rfl⟩⟩; refine ⟨_, rfl, ?_⟩) | (go_at_call 187; (with_reducible refine (spec_Leaf.calls k _ _ l0_0 a1_0 true _ ?side1 ?side2 A5.out).mono ?_); (case side1 => repeat (first | exact (Kd.C_below HR0_0.out bZ) | (with_reducible refine Kd.C_alloc ?_ _) | (with_reducible refine Kd.C_drewN ?_ _) | (with_reducible refine Kd.C_drew ?_))); (case side2 => exact HC0_0.out); rintro e w21 ⟨rfl, hb⟩; replace BK161 := aZ (blk_below (bkZ BK161.out) hb); replace BK162 := aZ (blk_below (bkZ BK162.out) hb); replace HB := aZ (below_step bZ hb); (try clear hb); (try clear hb2); (try clear hk); (try clear hi); obtain ⟨hcz22_0, hcz22_1, hcz22_2, hcz22_3, hcz22_4, hfz22_0, hfz22_1, hfz22_2, hfz22_3, hfz22_4⟩ := bc5 BK162.out; obtain ⟨hcz23_0, hcz23_1, hcz23_2, hfz23_0, hfz23_1, hfz23_2⟩ := bc3 BK161.out) | (go_at_call 67; (with_reducible refine (spec_l1In.calls a1_1 0 (wrap64 (a0_1 - 1)) true _ A7.out).mono ?_); rintro e w' ⟨rfl, ⟨nd, rfl⟩⟩) | (go_at_call 67; (with_reducible refine (spec_l1In.calls a1_2 0 (wrap64 (a0_2 - 1)) true _ A9.out).mono ?_); rintro e w' ⟨rfl, ⟨nd, rfl⟩⟩) | (go_at_call 70; (with_reducible refine (spec_l1Amount.calls a1_3 true _ A11.out).mono ?_); rintro e w' ⟨rfl, ⟨nd, rfl⟩⟩) | (go_at_call 70; (with_reducible refine (spec_l1Amount.calls a1_4 true _ A13.out).mono ?_); rintro e w' ⟨rfl, ⟨nd, rfl⟩⟩))
 go_ret; exact ⟨tZC, bZ⟩
end Go.Proofs.Ytmpknbdbichdiaa.PFnExactLedgerOk
