import Derived.Test.YtjnmfadnkbflfaaOPFnExactOutputx0
import Derived.Test.YtjnmfadnkbflfaaOPFnExactOutputx11
import Derived.Test.YtjnmfadnkbflfaaOPFnExactOutputx12
import Derived.Test.YtjnmfadnkbflfaaOSlimWords
namespace Go.Proofs.Ytjnmfadnkbflfaa.PFnExactOutput
open Go.Proofs.Ytjnmfadnkbflfaa.SlimWords
open Go.RowKit Go.Proofs.YtjnmfadnkbflfaaW.PrintWords Go.Proofs.YtjnmfadnkbflfaaW.PrintLast Go.Proofs.YtjnmfadnkbflfaaW.PrintMore Go.Proofs.Ytjnmfadnkbflfaa.MapWords Go.Proofs.Ytjnmfadnkbflfaa.IterWords Go.Proofs.Ytjnmfadnkbflfaa.MarkWords Go.Proofs.Ytjnmfadnkbflfaa.ArrWords
attribute [local go_sem] ptrOf_slice max2_int min2_int max_two min_two max_three min_three max_four min_four
set_option linter.unusedVariables false
set_option linter.unusedSimpArgs false
def impl_quantity.f (a0 : Int) : Option (Bool) := (impl_between.f a0 0 1000000).bind fun t305 => (some t305)
set_option maxHeartbeats 8000000 in
set_option maxRecDepth 100000 in
theorem impl_quantity.calls (a0 : Int) (r : Bool) (w : World) (h : impl_quantity.f a0 = some r) :
    Calls Try.prog 162 #[.int .i64 a0] w fun e w' => e = .returned (.bool r) ∧ Drawn0 w w' := by
 have H : ((impl_between.f a0 0 1000000).bind fun t305 => (some t305)) = some r := h
 clear h
 replace H := Option.bind_eq_some_iff.mp H
 obtain ⟨t305, A20, H⟩ := H
 replace H : (some t305) = some r := H
 have A2 := Aside0.mk A20
 clear A20
 obtain rfl := Option.some.inj H
 go_enter Try.func162, Try.ntmps162
 go_wp2_with (first | ((with_reducible refine gate_callee (f := 120) rfl ?_); refine goesL_ (some 4) rfl rfl Try.func120 kZ rfl #[.int .i64 a0, .int .i64 0, .int .i64 1000000] rfl tZA ?_; (with_reducible refine (impl_between.calls a0 0 1000000 t305 _ A2.out).mono ?_); rintro e w' ⟨rfl, ⟨nd, rfl⟩⟩; refine ⟨_, rfl, ?_⟩))
 go_ret
 exact ⟨tZB, tZD⟩
def impl_askOk.f (k : Nat) (l0 : List (S130)) (a1 : Int) (a2 : Int) (a3 : Int) : Option (Bool) := (impl_ItemsOk.f k l0).bind fun t306 => (if t306 = true then (if a1 ≥ 0 then (if a1 < (l0.length : Int) then ((impl_quantity.f a2).bind fun t307 => (if t307 = true then ((impl_isDay.f a3).bind fun t308 => (some t308)) else (some false))) else (some false)) else (some false)) else (some false))
theorem impl_askOk.mono : ∀ a0 a1 a2 a3 k, LeO (impl_askOk.f k a0 a1 a2 a3) (impl_askOk.f (k + 1) a0 a1 a2 a3) := by
 intro a0 a1 a2 a3 k
 unfold impl_askOk.f
 repeat' first
     | (with_reducible exact impl_ItemsOk.mono _ _)
     | (with_reducible exact LeO.refl _)
     | (with_reducible exact LeO.none _)
     | (with_reducible refine LeO.ite ?_ ?_)
     | (with_reducible refine LeO.bind ?_ (fun _ => ?_))
     | exact impl_ItemsOk.mono _ _
     | exact LeO.none _
     | refine LeO.ite ?_ ?_
     | refine LeO.bind ?_ (fun _ => ?_)
set_option maxHeartbeats 8000000 in
set_option maxRecDepth 100000 in
theorem impl_askOk.calls (k : Nat) (A0 : Option Addr) (c0 : Nat) (l0 : List (S130)) (a1 : Int) (a2 : Int) (a3 : Int) (r : Bool) (w : World) (hr0 : Kd.C k130 w A0 l0.length l0) (hc0 : l0.length ≤ c0) (h : impl_askOk.f k l0 a1 a2 a3 = some r) :
    Calls Try.prog 108 #[.slice A0 l0.length c0, .int .i64 a1, .int .i64 a2, .int .i64 a3] w fun e w' => e = .returned (.bool r) ∧ Below w.heap.size w w' := by
 have HR0 := Aside0.mk hr0
 have HC0 := Aside0.mk hc0
 clear hr0 hc0
 have HB := aZ (Below.refl w.heap.size w)
 have H : ((impl_ItemsOk.f k l0).bind fun t306 => (if t306 = true then (if a1 ≥ 0 then (if a1 < (l0.length : Int) then ((impl_quantity.f a2).bind fun t307 => (if t307 = true then ((impl_isDay.f a3).bind fun t308 => (some t308)) else (some false))) else (some false)) else (some false)) else (some false))) = some r := h
 clear h
 replace H := Option.bind_eq_some_iff.mp H
 obtain ⟨t306, A50, H⟩ := H
 replace H : (if t306 = true then (if a1 ≥ 0 then (if a1 < (l0.length : Int) then ((impl_quantity.f a2).bind fun t307 => (if t307 = true then ((impl_isDay.f a3).bind fun t308 => (some t308)) else (some false))) else (some false)) else (some false)) else (some false)) = some r := H
 have A5 := Aside0.mk A50
 clear A50
 by_cases c6 : t306 = true
 rotate_left
 ·replace c6 := Bool.eq_false_iff.mpr c6
  subst c6
  have H1 : (some false) = some r := by rw [if_neg (show ¬ (false = true) by decide)] at H; exact H
  clear H
  have H := H1
  clear H1
  obtain rfl := Option.some.inj H
  go_enter Try.func108, Try.ntmps108
  go_wp2_with (first | ((with_reducible refine gate_callee (f := 91) rfl ?_); refine goesL_ (some 10) rfl rfl Try.func91 kZ rfl #[.slice A0 l0.length c0] rfl tZA ?_; (with_reducible refine (impl_ItemsOk.calls k _ _ l0 false _ ?side1 ?side2 A5.out).mono ?_); (case side1 => repeat (first | exact HR0.out | (with_reducible refine Kd.C_alloc ?_ _) | (with_reducible refine Kd.C_drewN ?_ _) | (with_reducible refine Kd.C_drew ?_))); (case side2 => exact HC0.out); rintro e w16 ⟨rfl, hb⟩; refine ⟨_, rfl, ?_⟩; replace HB := aZ (below_step (lZB HB.out) hb); (try clear hb); (try clear hb2); (try clear hk); (try clear hi)))
  go_ret
  exact ⟨tZC, bZ⟩
 subst c6
 have H1 : (if a1 ≥ 0 then (if a1 < (l0.length : Int) then ((impl_quantity.f a2).bind fun t307 => (if t307 = true then ((impl_isDay.f a3).bind fun t308 => (some t308)) else (some false))) else (some false)) else (some false)) = some r := by rw [if_pos rfl] at H; exact H
 clear H
 have H := H1
 clear H1
 by_cases c7 : a1 ≥ 0
 rotate_left
 ·rw [if_neg c7] at H
  have c7b0 : decide (0 ≤ a1) = false := decide_eq_false c7
  clear c7
  obtain rfl := Option.some.inj H
  go_enter Try.func108, Try.ntmps108
  go_wp2_with (first | ((with_reducible refine gate_callee (f := 91) rfl ?_); refine goesL_ (some 10) rfl rfl Try.func91 kZ rfl #[.slice A0 l0.length c0] rfl tZA ?_; (with_reducible refine (impl_ItemsOk.calls k _ _ l0 true _ ?side1 ?side2 A5.out).mono ?_); (case side1 => repeat (first | exact HR0.out | (with_reducible refine Kd.C_alloc ?_ _) | (with_reducible refine Kd.C_drewN ?_ _) | (with_reducible refine Kd.C_drew ?_))); (case side2 => exact HC0.out); rintro e w15 ⟨rfl, hb⟩; refine ⟨_, rfl, ?_⟩; replace HB := aZ (below_step (lZB HB.out) hb); (try clear hb); (try clear hb2); (try clear hk); (try clear hi)))
  go_ret
  exact ⟨tZC, bZ⟩
 rw [if_pos c7] at H
 have c7b0 : decide (0 ≤ a1) = true := decide_eq_true c7
 clear c7
 by_cases c8 : a1 < (l0.length : Int)
 rotate_left
 ·rw [if_neg c8] at H
  have c8b0 := decide_eq_false c8
  clear c8
  obtain rfl := Option.some.inj H
  go_enter Try.func108, Try.ntmps108
  go_wp2_with (first | ((with_reducible refine gate_callee (f := 91) rfl ?_); refine goesL_ (some 10) rfl rfl Try.func91 kZ rfl #[.slice A0 l0.length c0] rfl tZA ?_; (with_reducible refine (impl_ItemsOk.calls k _ _ l0 true _ ?side1 ?side2 A5.out).mono ?_); (case side1 => repeat (first | exact HR0.out | (with_reducible refine Kd.C_alloc ?_ _) | (with_reducible refine Kd.C_drewN ?_ _) | (with_reducible refine Kd.C_drew ?_))); (case side2 => exact HC0.out); rintro e w14 ⟨rfl, hb⟩; refine ⟨_, rfl, ?_⟩; replace HB := aZ (below_step (lZB HB.out) hb); (try clear hb); (try clear hb2); (try clear hk); (try clear hi)))
  go_ret
  exact ⟨tZC, bZ⟩
 rw [if_pos c8] at H
 have c8b0 := decide_eq_true c8
 clear c8
 replace H := Option.bind_eq_some_iff.mp H
 obtain ⟨t307, A90, H⟩ := H
 replace H : (if t307 = true then ((impl_isDay.f a3).bind fun t308 => (some t308)) else (some false)) = some r := H
 have A9 := Aside0.mk A90
 clear A90
 by_cases c10 : t307 = true
 rotate_left
 ·replace c10 := Bool.eq_false_iff.mpr c10
  subst c10
  have H1 : (some false) = some r := by rw [if_neg (show ¬ (false = true) by decide)] at H; exact H
  clear H
  have H := H1
  clear H1
  obtain rfl := Option.some.inj H
  go_enter Try.func108, Try.ntmps108
  go_wp2_with (first | ((with_reducible refine gate_callee (f := 91) rfl ?_); refine goesL_ (some 10) rfl rfl Try.func91 kZ rfl #[.slice A0 l0.length c0] rfl tZA ?_; (with_reducible refine (impl_ItemsOk.calls k _ _ l0 true _ ?side1 ?side2 A5.out).mono ?_); (case side1 => repeat (first | exact HR0.out | (with_reducible refine Kd.C_alloc ?_ _) | (with_reducible refine Kd.C_drewN ?_ _) | (with_reducible refine Kd.C_drew ?_))); (case side2 => exact HC0.out); rintro e w13 ⟨rfl, hb⟩; refine ⟨_, rfl, ?_⟩; replace HB := aZ (below_step (lZB HB.out) hb); (try clear hb); (try clear hb2); (try clear hk); (try clear hi)) | (go_at_call 162; (with_reducible refine (impl_quantity.calls a2 false _ A9.out).mono ?_); rintro e w' ⟨rfl, ⟨nd, rfl⟩⟩))
  go_ret
  exact ⟨tZC, bZ⟩
 subst c10
 have H1 : ((impl_isDay.f a3).bind fun t308 => (some t308)) = some r := by rw [if_pos rfl] at H; exact H
 clear H
 have H := H1
 clear H1
 replace H := Option.bind_eq_some_iff.mp H
 obtain ⟨t308, A110, H⟩ := H
 replace H : (some t308) = some r := H
 have A11 := Aside0.mk A110
 clear A110
 obtain rfl := Option.some.inj H
 go_enter Try.func108, Try.ntmps108
 go_wp2_with (first | ((with_reducible refine gate_callee (f := 91) rfl ?_); refine goesL_ (some 10) rfl rfl Try.func91 kZ rfl #[.slice A0 l0.length c0] rfl tZA ?_; (with_reducible refine (impl_ItemsOk.calls k _ _ l0 true _ ?side1 ?side2 A5.out).mono ?_); (case side1 => repeat (first | exact HR0.out | (with_reducible refine Kd.C_alloc ?_ _) | (with_reducible refine Kd.C_drewN ?_ _) | (with_reducible refine Kd.C_drew ?_))); (case side2 => exact HC0.out); rintro e w12 ⟨rfl, hb⟩; refine ⟨_, rfl, ?_⟩; replace HB := aZ (below_step (lZB HB.out) hb); (try clear hb); (try clear hb2); (try clear hk); (try clear hi)) | (go_at_call 162; (with_reducible refine (impl_quantity.calls a2 true _ A9.out).mono ?_); rintro e w' ⟨rfl, ⟨nd, rfl⟩⟩) | (go_at_call 143; (with_reducible refine (impl_isDay.calls a3 t308 _ A11.out).mono ?_); rintro e w' ⟨rfl, ⟨nd, rfl⟩⟩))
 go_ret
 exact ⟨tZC, bZ⟩
def impl_roundedUp_int.f (a0 : Int) (a1 : Int) : Option (Int) := if a1 = 0 then (none) else (some (wrap64 (Int.tdiv (wrap64 ((wrap64 (a0 + a1)) - 1)) a1)))
set_option maxHeartbeats 8000000 in
set_option maxRecDepth 100000 in
theorem impl_roundedUp_int.calls (a0 : Int) (a1 : Int) (r : Int) (w : World) (h : impl_roundedUp_int.f a0 a1 = some r) :
    Calls Try.prog 163 #[.int .i64 a0, .int .i64 a1] w fun e w' => e = .returned (.int .i64 r) ∧ Drawn0 w w' := by
 have H : (if a1 = 0 then (none) else (some (wrap64 (Int.tdiv (wrap64 ((wrap64 (a0 + a1)) - 1)) a1)))) = some r := h
 clear h
 by_cases c3 : a1 = 0
 ·rw [if_pos c3] at H
  exact absurd H (by simp)
 rw [if_neg c3] at H
 have c3b0 : (a1 == 0) = false := beq_eq_false_iff_ne.mpr c3
 have c3b1 : (a1 != 0) = true := bne_iff_ne.mpr c3
 obtain rfl := Option.some.inj H
 go_enter Try.func163, Try.ntmps163
 go_wp2
 go_ret
 exact ⟨tZB, tZD⟩
def impl_counting.l0 : Nat → Int → List (S149) → List Bool → List (S149) → Int → Int → Option ((List (S149)))
  | 0, _, _, _, _, _, _ => none
  | k + 1, x1, x5, x6, x10, x11, x12 => if x12 < x11 then (if 0 ≤ x12 then (if x12 < (x10.length : Int) then (if ((rd_T149 x10 x12).f3) ≤ x1 then (if x1 ≤ ((rd_T149 x10 x12).f4) then (if ((rd_T149 x10 x12).f5) = 0 then (if ((rd_T149 x10 x12).f5) < 10 then (if 0 ≤ ((rd_T149 x10 x12).f5) then (if ((rd_T149 x10 x12).f5) < (x6.length : Int) then (if x5.length < 2932031007402 then (impl_counting.l0 k x1 (x5 ++ [(⟨(rd_T149 x10 x12).f0, (rd_T149 x10 x12).f1, (rd_T149 x10 x12).f2, (rd_T149 x10 x12).f3, (rd_T149 x10 x12).f4, (rd_T149 x10 x12).f5⟩ : S149)]) (x6.set (((rd_T149 x10 x12).f5) : Int).toNat true) x10 x11 (wrap64 (x12 + 1))) else (none)) else (none)) else (none)) else (none)) else (if ((rd_T149 x10 x12).f5) < 10 then (if 0 ≤ ((rd_T149 x10 x12).f5) then (if ((rd_T149 x10 x12).f5) < (x6.length : Int) then (if (rdOf false x6 ((rd_T149 x10 x12).f5) = true) then (impl_counting.l0 k x1 x5 x6 x10 x11 (wrap64 (x12 + 1))) else (if x5.length < 2932031007402 then (impl_counting.l0 k x1 (x5 ++ [(⟨(rd_T149 x10 x12).f0, (rd_T149 x10 x12).f1, (rd_T149 x10 x12).f2, (rd_T149 x10 x12).f3, (rd_T149 x10 x12).f4, (rd_T149 x10 x12).f5⟩ : S149)]) (x6.set (((rd_T149 x10 x12).f5) : Int).toNat true) x10 x11 (wrap64 (x12 + 1))) else (none))) else (none)) else (none)) else (none))) else (impl_counting.l0 k x1 x5 x6 x10 x11 (wrap64 (x12 + 1)))) else (impl_counting.l0 k x1 x5 x6 x10 x11 (wrap64 (x12 + 1)))) else (none)) else (none)) else (some x5)
def impl_counting.f (k : Nat) (l0 : List (S149)) (a1 : Int) : Option ((List (S149))) := impl_counting.l0 k a1 (([] : List (S149))) ((List.replicate 10 false : List Bool)) l0 (l0.length : Int) 0
theorem impl_counting.mono_l : ∀ k, (∀ y0 y1 y2 y3 y4 y5, LeO (impl_counting.l0 k y0 y1 y2 y3 y4 y5) (impl_counting.l0 (k + 1) y0 y1 y2 y3 y4 y5))
  | 0 => fun _ _ _ _ _ _ r h => by simp [impl_counting.l0] at h
  | k + 1 => by
    have ih0 := impl_counting.mono_l k
    · intro y0 y1 y2 y3 y4 y5
      unfold impl_counting.l0
      repeat' first
      | (with_reducible exact ih0 _ _ _ _ _ _)
      | (with_reducible exact LeO.refl _)
      | (with_reducible exact LeO.none _)
      | (with_reducible refine LeO.ite ?_ ?_)
      | (with_reducible refine LeO.bind ?_ (fun _ => ?_))
      | exact ih0 _ _ _ _ _ _
      | exact LeO.none _
      | refine LeO.ite ?_ ?_
      | refine LeO.bind ?_ (fun _ => ?_)
theorem impl_counting.mono : ∀ a0 a1 k, LeO (impl_counting.f k a0 a1) (impl_counting.f (k + 1) a0 a1) := by
 intro a0 a1 k
 have ih0 := impl_counting.mono_l k
 unfold impl_counting.f
 repeat' first
     | (with_reducible exact ih0 _ _ _ _ _ _)
     | (with_reducible exact LeO.refl _)
     | (with_reducible exact LeO.none _)
     | (with_reducible refine LeO.ite ?_ ?_)
     | (with_reducible refine LeO.bind ?_ (fun _ => ?_))
     | exact ih0 _ _ _ _ _ _
     | exact LeO.none _
     | refine LeO.ite ?_ ?_
     | refine LeO.bind ?_ (fun _ => ?_)
set_option maxHeartbeats 8000000 in
set_option maxRecDepth 100000 in
theorem impl_counting.calls (k : Nat) (A0 : Option Addr) (c0 : Nat) (l0 : List (S149)) (a1 : Int) (r : List (S149)) (w : World) (hr0 : Kd.C k149 w A0 l0.length l0) (hc0 : l0.length ≤ c0) (h : impl_counting.f k l0 a1 = some r) :
    Calls Try.prog 164 #[.slice A0 l0.length c0, .int .i64 a1] w fun e w' => ∃ v0_ : Value, e = .returned (v0_) ∧ Kd.R k149 149 w' w.heap.size (fun _ => True) v0_ r ∧ Below w.heap.size w w' := by
 have hu149 := Try.underlying149
 have HR0 := Aside0.mk hr0
 have HC0 := Aside0.mk hc0
 clear hr0 hc0
 have HB := aZ (Below.refl w.heap.size w)
 have H : (impl_counting.l0 k a1 (([] : List (S149))) ((List.replicate 10 false : List Bool)) l0 (l0.length : Int) 0) = some r := h
 clear h
 obtain ⟨y309, hy309⟩ : ∃ y_ : List (S149), y_ = (([] : List (S149))) := ⟨_, rfl⟩
 replace H : (impl_counting.l0 k a1 y309 ((List.replicate 10 false : List Bool)) l0 (l0.length : Int) 0) = some r := by first | (rw [hy309]; with_reducible exact H) | (have H2_ := (Option.bind_some _ _).symm.trans H; rw [hy309]; with_reducible exact H2_) | (have H2_ := (Option.bind_some _ _).symm.trans H; with_reducible exact H2_) | with_reducible exact H | (rw [hy309]; exact H) | exact H
 have Ny309 := Aside0.mk hy309
 clear hy309
 obtain ⟨y312, hy312⟩ : ∃ y_ : List Bool, y_ = ((List.replicate 10 false : List Bool)) := ⟨_, rfl⟩
 replace H : (impl_counting.l0 k a1 y309 y312 l0 (l0.length : Int) 0) = some r := by first | (rw [hy312]; with_reducible exact H) | (have H2_ := (Option.bind_some _ _).symm.trans H; rw [hy312]; with_reducible exact H2_) | (have H2_ := (Option.bind_some _ _).symm.trans H; with_reducible exact H2_) | with_reducible exact H | (rw [hy312]; exact H) | exact H
 have Ny312 := Aside0.mk hy312
 clear hy312
 have H' := Aside0.mk H
 clear H
 go_enter Try.func164, Try.ntmps164
 go_wp2_with (first | ((with_reducible refine gate_dst (N := 9) rfl ?_); refine Kd.R_lit k149 _ 149 ?hg (N := 9) ?hd (xs := ([] : List (S149))) (inner := []) (ok := fun _ => True) (okp := fun _ => True) ?hr ?hp (fun _ hk => hk) trivial (Below.refl _ _) (Nat.le_refl _) (by simp) ?_; (case hd => rfl); (case hg => rfl); (case hr => first | (go_simp; done) | (go_simp; rfl)); (case hp => exact (Reps.none _ _)); intro v310 w3 ho4 hb hg_ hnew_; clear hg_ hnew_; (first | rw [← Ny309.out] at ho4 | (simp only [Int.reduceToNat] at ho4; rw [← Ny309.out] at ho4)); have HO311 := aZ (Kd.R_lower ho4 (below_size (lZB HB.out))); replace HB := aZ (below_step (lZB HB.out) hb); clear hb ho4) | ((with_reducible refine gate_dst (N := 6) rfl ?_); refine A_make Kd.bool Value.bool (fun _ => rfl) rfl 250 ?hg (N := 6) ?hd (xs := (List.replicate 10 false : List Bool)) (cs := #[.bool false, .bool false, .bool false, .bool false, .bool false, .bool false, .bool false, .bool false, .bool false, .bool false]) ?hr rfl (by decide) ?_; (case hd => rfl); (case hg => rfl); (case hr => first | (go_simp; done) | (go_simp; rfl)); intro v313 w5 ho6 hb; rw [← Ny312.out] at ho6; replace HO311 := aZ (Kd.R_below (lZR HO311.out) hb); have HO314 := aZ (Kd.R_lower ho6 (below_size (lZB HB.out))); replace HB := aZ (below_step (lZB HB.out) hb); clear hb ho6))
 go_loopg [5, 12] k (fun kq v5 v12 w' => ∃ (x5_1 : List (S149)) (x6_1 : List Bool) (x12_1 : Int), v12 = .int .i64 x12_1 ∧ Aside0 (impl_counting.l0 kq a1 x5_1 x6_1 l0 (l0.length : Int) x12_1 = some r) ∧ Aside0 (kq ≤ k) ∧ Aside0 (Kd.R k149 149 w' w.heap.size (fun _ => True) v5 x5_1) ∧ Aside0 (Kd.R Kd.bool 250 w' w.heap.size (fun _ => True) v313 x6_1) ∧ Aside0 (Below w.heap.size w w'))
 case atStart => exact ⟨(y309), (y312), (0), tZB, H', ⟨Nat.le_refl _⟩, ⟨lZR HO311.out⟩, ⟨lZR HO314.out⟩, ⟨bZ⟩⟩
 case round =>
  clear H'
  try clear c1
  try clear p2
  obtain ⟨x5_1, x6_1, x12_1, rfl, HA, HK1, HO_5, HO_6, HB⟩ := hrel
  cases gk with
  | zero => exact absurd HA.out (by simp [impl_counting.l0])
  | succ k1 =>
   have H := HA.out
   clear HA
   simp only [impl_counting.l0] at H
   by_cases c7 : x12_1 < (l0.length : Int)
   rotate_left
   ·rw [if_neg c7] at H
    have c7b0 := decide_eq_false c7
    clear c7
    obtain rfl := Option.some.inj H
    go_wp2
    go_ret
    exact ⟨_, tZC, lZR HO_5.out, bZ⟩
   rw [if_pos c7] at H
   have c7b0 := decide_eq_true c7
   clear c7
   by_cases c8 : 0 ≤ x12_1
   rotate_left
   ·rw [if_neg c8] at H
    exact absurd H (by simp)
   rw [if_pos c8] at H
   have c8b0 := decide_eq_true c8
   clear c8
   by_cases c9 : x12_1 < (l0.length : Int)
   rotate_left
   ·rw [if_neg c9] at H
    exact absurd H (by simp)
   rw [if_pos c9] at H
   have c9b0 := decide_eq_true c9
   clear c9
   by_cases c10 : ((rd_T149 l0 x12_1).f3) ≤ a1
   rotate_left
   ·rw [if_neg c10] at H
    have c10b0 := decide_eq_false c10
    clear c10
    have H' := Aside0.mk H
    clear H
    have p315 : 0 ≤ (x12_1 : Int) := of_decide_eq_true tZE
    have q315 : x12_1 < (l0.length : Int) := of_decide_eq_true tZE
    obtain ⟨ad315, e315, hx315_0, hx315_1, hx315_2, hx315_3, hx315_4, hx315_5⟩ := at_T149 HR0.out x12_1 p315 q315
    cases e315
    replace hx315_0 := cZ HB hx315_0
    replace hx315_1 := cZ HB hx315_1
    replace hx315_2 := cZ HB hx315_2
    replace hx315_3 := cZ HB hx315_3
    replace hx315_4 := cZ HB hx315_4
    replace hx315_5 := cZ HB hx315_5
    replace p315 := eq_true p315
    replace q315 := eq_true q315
    go_wp2_with (first | ((with_reducible refine gate_dst (N := 8) rfl ?_); refine box_event ?hg (N := 8) ?hd (cs := #[.int .i64 0, .int .i64 0, .int .i64 0, .int .i64 0, .int .i64 0, .int .i64 0]) (t := 149) ?hr ?_; (case hd => rfl); (case hg => rfl); (case hr => first | (go_simp; done) | (go_simp; rfl)); intro gb316 hg w47 hbox hb; replace HO_5 := aZ (Kd.R_below (Kd.R_elderB (lZR HO_5.out) gb316 (Nat.le_of_eq hg.symm)) hb); replace HO_6 := aZ (Kd.R_below (lZR HO_6.out) hb); have BK316 := aZ (hbox); have GW316 := aZ ((by rw [hg]; exact (below_size (lZB HB.out)) : w.heap.size ≤ gb316)); have GE316 := aZ ((by rw [hg]; exact (below_size (lZB HB.out)) : w.heap.size ≤ gb316)); replace HB := aZ (below_step (lZB HB.out) hb); clear hb hbox hg; have hcz48_0 : w47.cell? ⟨gb316, 0, none⟩ = some (.int .i64 0) := (blk_cell BK316.out 0).trans rfl; have hcz48_1 : w47.cell? ⟨gb316, 1, none⟩ = some (.int .i64 0) := (blk_cell BK316.out 1).trans rfl; have hcz48_2 : w47.cell? ⟨gb316, 2, none⟩ = some (.int .i64 0) := (blk_cell BK316.out 2).trans rfl; have hcz48_3 : w47.cell? ⟨gb316, 3, none⟩ = some (.int .i64 0) := (blk_cell BK316.out 3).trans rfl; have hcz48_4 : w47.cell? ⟨gb316, 4, none⟩ = some (.int .i64 0) := (blk_cell BK316.out 4).trans rfl; have hcz48_5 : w47.cell? ⟨gb316, 5, none⟩ = some (.int .i64 0) := (blk_cell BK316.out 5).trans rfl; have hfz48_0 := blk_frozen BK316.out 0; have hfz48_1 := blk_frozen BK316.out 1; have hfz48_2 := blk_frozen BK316.out 2; have hfz48_3 := blk_frozen BK316.out 3; have hfz48_4 := blk_frozen BK316.out 4; have hfz48_5 := blk_frozen BK316.out 5))
    go_roundg k1
    case measure => have := HK1.out; omega
    case rel => exact ⟨(x5_1), (x6_1), (wrap64 (x12_1 + 1)), tZB, H', ⟨by have := HK1.out; omega⟩, ⟨by (with_reducible repeat (first | apply Kd.R_alloc | apply Kd.R_drewN | apply Kd.R_drew)); exact Kd.R_mono (Kd.R_far (p := ⟨gb316, 5, none⟩) (Kd.R_far (p := ⟨gb316, 4, none⟩) (Kd.R_far (p := ⟨gb316, 3, none⟩) (Kd.R_far (p := ⟨gb316, 2, none⟩) (Kd.R_far (p := ⟨gb316, 1, none⟩) (Kd.R_far (p := ⟨gb316, 0, none⟩) (Kd.R_mono HO_5.out (fun k_ hk => (⟨hk, hk.2⟩ : _ ∧ k_ ≠ gb316))) (fun _ hk => hk.2) (.int .i64 ((rd_T149 l0 x12_1).f0))) (fun _ hk => hk.2) (.int .i64 ((rd_T149 l0 x12_1).f1))) (fun _ hk => hk.2) (.int .i64 ((rd_T149 l0 x12_1).f2))) (fun _ hk => hk.2) (.int .i64 ((rd_T149 l0 x12_1).f3))) (fun _ hk => hk.2) (.int .i64 ((rd_T149 l0 x12_1).f4))) (fun _ hk => hk.2) (.int .i64 ((rd_T149 l0 x12_1).f5))) (fun _ hk => trivial)⟩, ⟨by (with_reducible repeat (first | apply Kd.R_alloc | apply Kd.R_drewN | apply Kd.R_drew)); exact Kd.R_mono (Kd.R_far (p := ⟨gb316, 5, none⟩) (Kd.R_far (p := ⟨gb316, 4, none⟩) (Kd.R_far (p := ⟨gb316, 3, none⟩) (Kd.R_far (p := ⟨gb316, 2, none⟩) (Kd.R_far (p := ⟨gb316, 1, none⟩) (Kd.R_far (p := ⟨gb316, 0, none⟩) (Kd.R_types HO_6.out BK316.out (by decide)) (fun _ hk => hk.2) (.int .i64 ((rd_T149 l0 x12_1).f0))) (fun _ hk => hk.2) (.int .i64 ((rd_T149 l0 x12_1).f1))) (fun _ hk => hk.2) (.int .i64 ((rd_T149 l0 x12_1).f2))) (fun _ hk => hk.2) (.int .i64 ((rd_T149 l0 x12_1).f3))) (fun _ hk => hk.2) (.int .i64 ((rd_T149 l0 x12_1).f4))) (fun _ hk => hk.2) (.int .i64 ((rd_T149 l0 x12_1).f5))) (fun _ hk => trivial)⟩, ⟨bZ⟩⟩
   rw [if_pos c10] at H
   have c10b0 := decide_eq_true c10
   clear c10
   by_cases c11 : a1 ≤ ((rd_T149 l0 x12_1).f4)
   rotate_left
   ·rw [if_neg c11] at H
    have c11b0 := decide_eq_false c11
    clear c11
    have H' := Aside0.mk H
    clear H
    have p315 : 0 ≤ (x12_1 : Int) := of_decide_eq_true tZE
    have q315 : x12_1 < (l0.length : Int) := of_decide_eq_true tZE
    obtain ⟨ad315, e315, hx315_0, hx315_1, hx315_2, hx315_3, hx315_4, hx315_5⟩ := at_T149 HR0.out x12_1 p315 q315
    cases e315
    replace hx315_0 := cZ HB hx315_0
    replace hx315_1 := cZ HB hx315_1
    replace hx315_2 := cZ HB hx315_2
    replace hx315_3 := cZ HB hx315_3
    replace hx315_4 := cZ HB hx315_4
    replace hx315_5 := cZ HB hx315_5
    replace p315 := eq_true p315
    replace q315 := eq_true q315
    go_wp2_with (first | ((with_reducible refine gate_dst (N := 8) rfl ?_); refine box_event ?hg (N := 8) ?hd (cs := #[.int .i64 0, .int .i64 0, .int .i64 0, .int .i64 0, .int .i64 0, .int .i64 0]) (t := 149) ?hr ?_; (case hd => rfl); (case hg => rfl); (case hr => first | (go_simp; done) | (go_simp; rfl)); intro gb316 hg w45 hbox hb; replace HO_5 := aZ (Kd.R_below (Kd.R_elderB (lZR HO_5.out) gb316 (Nat.le_of_eq hg.symm)) hb); replace HO_6 := aZ (Kd.R_below (lZR HO_6.out) hb); have BK316 := aZ (hbox); have GW316 := aZ ((by rw [hg]; exact (below_size (lZB HB.out)) : w.heap.size ≤ gb316)); have GE316 := aZ ((by rw [hg]; exact (below_size (lZB HB.out)) : w.heap.size ≤ gb316)); replace HB := aZ (below_step (lZB HB.out) hb); clear hb hbox hg; have hcz46_0 : w45.cell? ⟨gb316, 0, none⟩ = some (.int .i64 0) := (blk_cell BK316.out 0).trans rfl; have hcz46_1 : w45.cell? ⟨gb316, 1, none⟩ = some (.int .i64 0) := (blk_cell BK316.out 1).trans rfl; have hcz46_2 : w45.cell? ⟨gb316, 2, none⟩ = some (.int .i64 0) := (blk_cell BK316.out 2).trans rfl; have hcz46_3 : w45.cell? ⟨gb316, 3, none⟩ = some (.int .i64 0) := (blk_cell BK316.out 3).trans rfl; have hcz46_4 : w45.cell? ⟨gb316, 4, none⟩ = some (.int .i64 0) := (blk_cell BK316.out 4).trans rfl; have hcz46_5 : w45.cell? ⟨gb316, 5, none⟩ = some (.int .i64 0) := (blk_cell BK316.out 5).trans rfl; have hfz46_0 := blk_frozen BK316.out 0; have hfz46_1 := blk_frozen BK316.out 1; have hfz46_2 := blk_frozen BK316.out 2; have hfz46_3 := blk_frozen BK316.out 3; have hfz46_4 := blk_frozen BK316.out 4; have hfz46_5 := blk_frozen BK316.out 5))
    go_roundg k1
    case measure => have := HK1.out; omega
    case rel => exact ⟨(x5_1), (x6_1), (wrap64 (x12_1 + 1)), tZB, H', ⟨by have := HK1.out; omega⟩, ⟨by (with_reducible repeat (first | apply Kd.R_alloc | apply Kd.R_drewN | apply Kd.R_drew)); exact Kd.R_mono (Kd.R_far (p := ⟨gb316, 5, none⟩) (Kd.R_far (p := ⟨gb316, 4, none⟩) (Kd.R_far (p := ⟨gb316, 3, none⟩) (Kd.R_far (p := ⟨gb316, 2, none⟩) (Kd.R_far (p := ⟨gb316, 1, none⟩) (Kd.R_far (p := ⟨gb316, 0, none⟩) (Kd.R_mono HO_5.out (fun k_ hk => (⟨hk, hk.2⟩ : _ ∧ k_ ≠ gb316))) (fun _ hk => hk.2) (.int .i64 ((rd_T149 l0 x12_1).f0))) (fun _ hk => hk.2) (.int .i64 ((rd_T149 l0 x12_1).f1))) (fun _ hk => hk.2) (.int .i64 ((rd_T149 l0 x12_1).f2))) (fun _ hk => hk.2) (.int .i64 ((rd_T149 l0 x12_1).f3))) (fun _ hk => hk.2) (.int .i64 ((rd_T149 l0 x12_1).f4))) (fun _ hk => hk.2) (.int .i64 ((rd_T149 l0 x12_1).f5))) (fun _ hk => trivial)⟩, ⟨by (with_reducible repeat (first | apply Kd.R_alloc | apply Kd.R_drewN | apply Kd.R_drew)); exact Kd.R_mono (Kd.R_far (p := ⟨gb316, 5, none⟩) (Kd.R_far (p := ⟨gb316, 4, none⟩) (Kd.R_far (p := ⟨gb316, 3, none⟩) (Kd.R_far (p := ⟨gb316, 2, none⟩) (Kd.R_far (p := ⟨gb316, 1, none⟩) (Kd.R_far (p := ⟨gb316, 0, none⟩) (Kd.R_types HO_6.out BK316.out (by decide)) (fun _ hk => hk.2) (.int .i64 ((rd_T149 l0 x12_1).f0))) (fun _ hk => hk.2) (.int .i64 ((rd_T149 l0 x12_1).f1))) (fun _ hk => hk.2) (.int .i64 ((rd_T149 l0 x12_1).f2))) (fun _ hk => hk.2) (.int .i64 ((rd_T149 l0 x12_1).f3))) (fun _ hk => hk.2) (.int .i64 ((rd_T149 l0 x12_1).f4))) (fun _ hk => hk.2) (.int .i64 ((rd_T149 l0 x12_1).f5))) (fun _ hk => trivial)⟩, ⟨bZ⟩⟩
   rw [if_pos c11] at H
   have c11b0 := decide_eq_true c11
   clear c11
   by_cases c12 : ((rd_T149 l0 x12_1).f5) = 0
   ·rw [if_pos c12] at H
    have c12b0 : (((rd_T149 l0 x12_1).f5) == 0) = true := beq_iff_eq.mpr c12
    have c12b1 : (((rd_T149 l0 x12_1).f5) != 0) = false := bne_eq_false_iff_eq.mpr c12
    clear c12
    by_cases c13 : ((rd_T149 l0 x12_1).f5) < 10
    rotate_left
    ·rw [if_neg c13] at H
     exact absurd H (by simp)
    rw [if_pos c13] at H
    have c13b0 := eq_true c13
    have c13b1 := decide_eq_true c13
    clear c13
    by_cases c14 : 0 ≤ ((rd_T149 l0 x12_1).f5)
    rotate_left
    ·rw [if_neg c14] at H
     exact absurd H (by simp)
    rw [if_pos c14] at H
    have c14b0 := decide_eq_true c14
    clear c14
    by_cases c15 : ((rd_T149 l0 x12_1).f5) < (x6_1.length : Int)
    rotate_left
    ·rw [if_neg c15] at H
     exact absurd H (by simp)
    rw [if_pos c15] at H
    have c15b0 := decide_eq_true c15
    clear c15
    obtain ⟨y317, hy317⟩ : ∃ y_ : List Bool, y_ = (x6_1.set (((rd_T149 l0 x12_1).f5) : Int).toNat true) := ⟨_, rfl⟩
    replace H : (if x5_1.length < 2932031007402 then (impl_counting.l0 k1 a1 (x5_1 ++ [(⟨(rd_T149 l0 x12_1).f0, (rd_T149 l0 x12_1).f1, (rd_T149 l0 x12_1).f2, (rd_T149 l0 x12_1).f3, (rd_T149 l0 x12_1).f4, (rd_T149 l0 x12_1).f5⟩ : S149)]) y317 l0 (l0.length : Int) (wrap64 (x12_1 + 1))) else (none)) = some r := by first | (rw [hy317]; with_reducible exact H) | (have H2_ := (Option.bind_some _ _).symm.trans H; rw [hy317]; with_reducible exact H2_) | (have H2_ := (Option.bind_some _ _).symm.trans H; with_reducible exact H2_) | with_reducible exact H | (rw [hy317]; exact H) | exact H
    have Ny317 := Aside0.mk hy317
    clear hy317
    by_cases c17 : x5_1.length < 2932031007402
    rotate_left
    ·rw [if_neg c17] at H
     exact absurd H (by simp)
    rw [if_pos c17] at H
    have LMc17 := Aside0.mk c17
    clear c17
    obtain ⟨y318, hy318⟩ : ∃ y_ : List (S149), y_ = (x5_1 ++ [(⟨(rd_T149 l0 x12_1).f0, (rd_T149 l0 x12_1).f1, (rd_T149 l0 x12_1).f2, (rd_T149 l0 x12_1).f3, (rd_T149 l0 x12_1).f4, (rd_T149 l0 x12_1).f5⟩ : S149)]) := ⟨_, rfl⟩
    replace H : (impl_counting.l0 k1 a1 y318 y317 l0 (l0.length : Int) (wrap64 (x12_1 + 1))) = some r := by first | (rw [hy318]; with_reducible exact H) | (have H2_ := (Option.bind_some _ _).symm.trans H; rw [hy318]; with_reducible exact H2_) | (have H2_ := (Option.bind_some _ _).symm.trans H; with_reducible exact H2_) | with_reducible exact H | (rw [hy318]; exact H) | exact H
    have Ny318 := Aside0.mk hy318
    clear hy318
    have H' := Aside0.mk H
    clear H
    have p315 : 0 ≤ (x12_1 : Int) := of_decide_eq_true tZE
    have q315 : x12_1 < (l0.length : Int) := of_decide_eq_true tZE
    obtain ⟨ad315, e315, hx315_0, hx315_1, hx315_2, hx315_3, hx315_4, hx315_5⟩ := at_T149 HR0.out x12_1 p315 q315
    cases e315
    replace hx315_0 := cZ HB hx315_0
    replace hx315_1 := cZ HB hx315_1
    replace hx315_2 := cZ HB hx315_2
    replace hx315_3 := cZ HB hx315_3
    replace hx315_4 := cZ HB hx315_4
    replace hx315_5 := cZ HB hx315_5
    replace p315 := eq_true p315
    replace q315 := eq_true q315
    go_wp2_with (first | ((with_reducible refine gate_dst (N := 8) rfl ?_); refine box_event ?hg (N := 8) ?hd (cs := #[.int .i64 0, .int .i64 0, .int .i64 0, .int .i64 0, .int .i64 0, .int .i64 0]) (t := 149) ?hr ?_; (case hd => rfl); (case hg => rfl); (case hr => first | (go_simp; done) | (go_simp; rfl)); intro gb316 hg w18 hbox hb; replace HO_5 := aZ (Kd.R_below (Kd.R_elderB (lZR HO_5.out) gb316 (Nat.le_of_eq hg.symm)) hb); replace HO_6 := aZ (Kd.R_below (lZR HO_6.out) hb); have BK316 := aZ (hbox); have GW316 := aZ ((by rw [hg]; exact (below_size (lZB HB.out)) : w.heap.size ≤ gb316)); have GE316 := aZ ((by rw [hg]; exact (below_size (lZB HB.out)) : w.heap.size ≤ gb316)); replace HB := aZ (below_step (lZB HB.out) hb); clear hb hbox hg; have hcz19_0 : w18.cell? ⟨gb316, 0, none⟩ = some (.int .i64 0) := (blk_cell BK316.out 0).trans rfl; have hcz19_1 : w18.cell? ⟨gb316, 1, none⟩ = some (.int .i64 0) := (blk_cell BK316.out 1).trans rfl; have hcz19_2 : w18.cell? ⟨gb316, 2, none⟩ = some (.int .i64 0) := (blk_cell BK316.out 2).trans rfl; have hcz19_3 : w18.cell? ⟨gb316, 3, none⟩ = some (.int .i64 0) := (blk_cell BK316.out 3).trans rfl; have hcz19_4 : w18.cell? ⟨gb316, 4, none⟩ = some (.int .i64 0) := (blk_cell BK316.out 4).trans rfl; have hcz19_5 : w18.cell? ⟨gb316, 5, none⟩ = some (.int .i64 0) := (blk_cell BK316.out 5).trans rfl; have hfz19_0 := blk_frozen BK316.out 0; have hfz19_1 := blk_frozen BK316.out 1; have hfz19_2 := blk_frozen BK316.out 2; have hfz19_3 := blk_frozen BK316.out 3; have hfz19_4 := blk_frozen BK316.out 4; have hfz19_5 := blk_frozen BK316.out 5) | ((with_reducible refine gate_store (t := 149) (p := 8) rfl ?_); refine store_event (t := 149) (p := 8) (v := ?vo_w20) (w1 := ((((((w18.setCell ⟨gb316, 0, none⟩ (.int .i64 ((rd_T149 l0 x12_1).f0))).setCell ⟨gb316, 1, none⟩ (.int .i64 ((rd_T149 l0 x12_1).f1))).setCell ⟨gb316, 2, none⟩ (.int .i64 ((rd_T149 l0 x12_1).f2))).setCell ⟨gb316, 3, none⟩ (.int .i64 ((rd_T149 l0 x12_1).f3))).setCell ⟨gb316, 4, none⟩ (.int .i64 ((rd_T149 l0 x12_1).f4))).setCell ⟨gb316, 5, none⟩ (.int .i64 ((rd_T149 l0 x12_1).f5)))) ?hg ?ho ?hn ?hr ?_; (case ho => rfl); (case hg => rfl); (case hn => rfl); (case hr => first | (go_simp; done) | (go_simp; rfl)); intro w20 hw; replace HO_5 : Aside0 (Kd.R k149 149 w20 w.heap.size (fun k_ => k_ ≠ gb316) u5 x5_1) := ⟨(by rw [hw]; exact (by (with_reducible repeat (first | apply Kd.R_alloc | apply Kd.R_drewN | apply Kd.R_drew)); exact Kd.R_mono (Kd.R_far (p := ⟨gb316, 5, none⟩) (Kd.R_far (p := ⟨gb316, 4, none⟩) (Kd.R_far (p := ⟨gb316, 3, none⟩) (Kd.R_far (p := ⟨gb316, 2, none⟩) (Kd.R_far (p := ⟨gb316, 1, none⟩) (Kd.R_far (p := ⟨gb316, 0, none⟩) (Kd.R_mono HO_5.out (fun k_ hk => (⟨hk, hk.2⟩ : _ ∧ k_ ≠ gb316))) (fun _ hk => hk.2) (.int .i64 ((rd_T149 l0 x12_1).f0))) (fun _ hk => hk.2) (.int .i64 ((rd_T149 l0 x12_1).f1))) (fun _ hk => hk.2) (.int .i64 ((rd_T149 l0 x12_1).f2))) (fun _ hk => hk.2) (.int .i64 ((rd_T149 l0 x12_1).f3))) (fun _ hk => hk.2) (.int .i64 ((rd_T149 l0 x12_1).f4))) (fun _ hk => hk.2) (.int .i64 ((rd_T149 l0 x12_1).f5))) (fun _ hk => hk.1.2)))⟩; replace HO_6 : Aside0 (Kd.R Kd.bool 250 w20 w.heap.size (fun _ => True) v313 x6_1) := ⟨(by rw [hw]; exact (by (with_reducible repeat (first | apply Kd.R_alloc | apply Kd.R_drewN | apply Kd.R_drew)); exact Kd.R_mono (Kd.R_far (p := ⟨gb316, 5, none⟩) (Kd.R_far (p := ⟨gb316, 4, none⟩) (Kd.R_far (p := ⟨gb316, 3, none⟩) (Kd.R_far (p := ⟨gb316, 2, none⟩) (Kd.R_far (p := ⟨gb316, 1, none⟩) (Kd.R_far (p := ⟨gb316, 0, none⟩) (Kd.R_types HO_6.out BK316.out (by decide)) (fun _ hk => hk.2) (.int .i64 ((rd_T149 l0 x12_1).f0))) (fun _ hk => hk.2) (.int .i64 ((rd_T149 l0 x12_1).f1))) (fun _ hk => hk.2) (.int .i64 ((rd_T149 l0 x12_1).f2))) (fun _ hk => hk.2) (.int .i64 ((rd_T149 l0 x12_1).f3))) (fun _ hk => hk.2) (.int .i64 ((rd_T149 l0 x12_1).f4))) (fun _ hk => hk.2) (.int .i64 ((rd_T149 l0 x12_1).f5))) (fun _ hk => trivial)))⟩; replace BK316 : Aside0 (w20.heap[gb316]? = some (.cells #[.int .i64 ((rd_T149 l0 x12_1).f0), .int .i64 ((rd_T149 l0 x12_1).f1), .int .i64 ((rd_T149 l0 x12_1).f2), .int .i64 ((rd_T149 l0 x12_1).f3), .int .i64 ((rd_T149 l0 x12_1).f4), .int .i64 ((rd_T149 l0 x12_1).f5)] 149 (0, 0))) := ⟨(by rw [hw]; exact (by (with_reducible repeat (first | refine blk_drewN ?_ _ | refine blk_drew ?_ | refine blk_alloc ?_ _)); refine blk_put (cs := #[.int .i64 ((rd_T149 l0 x12_1).f0), .int .i64 ((rd_T149 l0 x12_1).f1), .int .i64 ((rd_T149 l0 x12_1).f2), .int .i64 ((rd_T149 l0 x12_1).f3), .int .i64 ((rd_T149 l0 x12_1).f4), .int .i64 0]) ?_ 5 _ rfl; (with_reducible repeat (first | refine blk_drewN ?_ _ | refine blk_drew ?_ | refine blk_alloc ?_ _)); refine blk_put (cs := #[.int .i64 ((rd_T149 l0 x12_1).f0), .int .i64 ((rd_T149 l0 x12_1).f1), .int .i64 ((rd_T149 l0 x12_1).f2), .int .i64 ((rd_T149 l0 x12_1).f3), .int .i64 0, .int .i64 0]) ?_ 4 _ rfl; (with_reducible repeat (first | refine blk_drewN ?_ _ | refine blk_drew ?_ | refine blk_alloc ?_ _)); refine blk_put (cs := #[.int .i64 ((rd_T149 l0 x12_1).f0), .int .i64 ((rd_T149 l0 x12_1).f1), .int .i64 ((rd_T149 l0 x12_1).f2), .int .i64 0, .int .i64 0, .int .i64 0]) ?_ 3 _ rfl; (with_reducible repeat (first | refine blk_drewN ?_ _ | refine blk_drew ?_ | refine blk_alloc ?_ _)); refine blk_put (cs := #[.int .i64 ((rd_T149 l0 x12_1).f0), .int .i64 ((rd_T149 l0 x12_1).f1), .int .i64 0, .int .i64 0, .int .i64 0, .int .i64 0]) ?_ 2 _ rfl; (with_reducible repeat (first | refine blk_drewN ?_ _ | refine blk_drew ?_ | refine blk_alloc ?_ _)); refine blk_put (cs := #[.int .i64 ((rd_T149 l0 x12_1).f0), .int .i64 0, .int .i64 0, .int .i64 0, .int .i64 0, .int .i64 0]) ?_ 1 _ rfl; (with_reducible repeat (first | refine blk_drewN ?_ _ | refine blk_drew ?_ | refine blk_alloc ?_ _)); refine blk_put (cs := #[.int .i64 0, .int .i64 0, .int .i64 0, .int .i64 0, .int .i64 0, .int .i64 0]) ?_ 0 _ rfl; (with_reducible repeat (first | refine blk_drewN ?_ _ | refine blk_drew ?_ | refine blk_alloc ?_ _)); exact BK316.out))⟩; replace HB : Aside0 (Below w.heap.size w w20) := ⟨(by rw [hw]; exact bZ)⟩; clear hw; have hcz21_0 : w20.cell? ⟨gb316, 0, none⟩ = some (.int .i64 ((rd_T149 l0 x12_1).f0)) := (blk_cell BK316.out 0).trans rfl; have hcz21_1 : w20.cell? ⟨gb316, 1, none⟩ = some (.int .i64 ((rd_T149 l0 x12_1).f1)) := (blk_cell BK316.out 1).trans rfl; have hcz21_2 : w20.cell? ⟨gb316, 2, none⟩ = some (.int .i64 ((rd_T149 l0 x12_1).f2)) := (blk_cell BK316.out 2).trans rfl; have hcz21_3 : w20.cell? ⟨gb316, 3, none⟩ = some (.int .i64 ((rd_T149 l0 x12_1).f3)) := (blk_cell BK316.out 3).trans rfl; have hcz21_4 : w20.cell? ⟨gb316, 4, none⟩ = some (.int .i64 ((rd_T149 l0 x12_1).f4)) := (blk_cell BK316.out 4).trans rfl; have hcz21_5 : w20.cell? ⟨gb316, 5, none⟩ = some (.int .i64 ((rd_T149 l0 x12_1).f5)) := (blk_cell BK316.out 5).trans rfl; have hfz21_0 := blk_frozen BK316.out 0; have hfz21_1 := blk_frozen BK316.out 1; have hfz21_2 := blk_frozen BK316.out 2; have hfz21_3 := blk_frozen BK316.out 3; have hfz21_4 := blk_frozen BK316.out 4; have hfz21_5 := blk_frozen BK316.out 5; have p16 : 0 ≤ (((rd_T149 l0 x12_1).f5) : Int) := of_decide_eq_true tZE; have q16 : (((rd_T149 l0 x12_1).f5) : Int) < ((x6_1.length : Int) : Int) := of_decide_eq_true tZE; obtain ⟨go16, co16, eo16, gb16, gl16, cl16, HG16⟩ := Kd.R_form HO_6.out (by omega); (first | cases eo16 | (injection eo16 with ea_ en_ ec_; (first | subst ea_ | (injection ea_ with ea_; subst ea_)); subst ec_; clear en_)); have GB16 := Aside0.mk gb16; have GG16 := Aside0.mk HG16; clear gb16 gl16 HG16; obtain ⟨hx16_0, hf16_0⟩ := Kd.R_celln false HO_6.out (((rd_T149 l0 x12_1).f5) : Int) p16 q16; replace p16 := eq_true p16; replace q16 := eq_true q16; obtain ⟨hy22_, hz22_⟩ := Kd.R_celln false HO_6.out (((rd_T149 l0 x12_1).f5) : Int) (of_decide_eq_true tZE) (of_decide_eq_true tZE); have HP22 := Kd.R_putg HO_6.out (((rd_T149 l0 x12_1).f5) : Int) true) | ((with_reducible refine gate_store (t := 4) (p := 40) rfl ?_); refine store_event (t := 4) (p := 40) (v := ?vo_w23) (w1 := (w20.setCell ⟨go16, (((rd_T149 l0 x12_1).f5) : Int).toNat, none⟩ (.bool true))) ?hg ?ho ?hn ?hr ?_; (case ho => rfl); (case hg => rfl); (case hn => rfl); (case hr => first | (go_simp; done) | (go_simp; rfl)); intro w23 hw; have hg : w20.grownBy w23 (some go16) := (by rw [hw]; exact HP22.2); have hp_ : Kd.R Kd.bool 250 w23 w.heap.size (fun _ => True) (.slice (some ⟨go16, 0, none⟩) x6_1.length co16) y317 := (by rw [hw, Ny317.out]; exact HP22.1); clear HP22; replace HO_5 := aZ (Kd.R_over' (v := (.slice (some ⟨go16, 0, none⟩) x6_1.length co16)) (lZR HO_5.out) (Kd.R_typed HO_6.out) (by decide) hg); replace BK316 := aZ (blk_grown (bkZ BK316.out) hg (Kd.R_ne HO_6.out BK316.out (by decide))); replace HO_6 := aZ (hp_); replace HB := aZ ((by rw [hw]; exact below_set (HB.out) GB16.out : Below w.heap.size w w23)); clear hg hw hp_; have hcz24_0 : w23.cell? ⟨gb316, 0, none⟩ = some (.int .i64 ((rd_T149 l0 x12_1).f0)) := (blk_cell BK316.out 0).trans rfl; have hcz24_1 : w23.cell? ⟨gb316, 1, none⟩ = some (.int .i64 ((rd_T149 l0 x12_1).f1)) := (blk_cell BK316.out 1).trans rfl; have hcz24_2 : w23.cell? ⟨gb316, 2, none⟩ = some (.int .i64 ((rd_T149 l0 x12_1).f2)) := (blk_cell BK316.out 2).trans rfl; have hcz24_3 : w23.cell? ⟨gb316, 3, none⟩ = some (.int .i64 ((rd_T149 l0 x12_1).f3)) := (blk_cell BK316.out 3).trans rfl; have hcz24_4 : w23.cell? ⟨gb316, 4, none⟩ = some (.int .i64 ((rd_T149 l0 x12_1).f4)) := (blk_cell BK316.out 4).trans rfl; have hcz24_5 : w23.cell? ⟨gb316, 5, none⟩ = some (.int .i64 ((rd_T149 l0 x12_1).f5)) := (blk_cell BK316.out 5).trans rfl; have hfz24_0 := blk_frozen BK316.out 0; have hfz24_1 := blk_frozen BK316.out 1; have hfz24_2 := blk_frozen BK316.out 2; have hfz24_3 := blk_frozen BK316.out 3; have hfz24_4 := blk_frozen BK316.out 4; have hfz24_5 := blk_frozen BK316.out 5) | ((with_reducible refine gate_builtin (b := .append) (xs := #[.tmp 41, .tmp 43]) rfl ?_); at_builtin; refine Kd.R_append k149 (w0 := w) w.heap.size rfl (.tmp 41) (.tmp 43) 128 149 (.agg #[(.int .i64 0), (.int .i64 0), (.int .i64 0), (.int .i64 0), (.int .i64 0), (.int .i64 0)]) 48 rfl Try.underlying128 info149 rfl (by decide) (by omega) u5 x5_1 (⟨(rd_T149 l0 x12_1).f0, (rd_T149 l0 x12_1).f1, (rd_T149 l0 x12_1).f2, (rd_T149 l0 x12_1).f3, (rd_T149 l0 x12_1).f4, (rd_T149 l0 x12_1).f5⟩ : S149) [.int .i64 ((rd_T149 l0 x12_1).f0), .int .i64 ((rd_T149 l0 x12_1).f1), .int .i64 ((rd_T149 l0 x12_1).f2), .int .i64 ((rd_T149 l0 x12_1).f3), .int .i64 ((rd_T149 l0 x12_1).f4), .int .i64 ((rd_T149 l0 x12_1).f5)] (fun k_ => k_ ≠ gb316) (fun _ => False) rfl rfl ?aP (fun _ hk => hk.elim) ?aF ?aO ?aB ?aS ?aL ?_; (case aP => exact k149_mkM _ _ _ (⟨(rd_T149 l0 x12_1).f0, (rd_T149 l0 x12_1).f1, (rd_T149 l0 x12_1).f2, (rd_T149 l0 x12_1).f3, (rd_T149 l0 x12_1).f4, (rd_T149 l0 x12_1).f5⟩ : S149)); (case aB => exact bZ); (case aF => exact (fun k_ hk => Kd.freshB (bkZ BK316.out) k_ hk)); (case aO => exact (lZR HO_5.out)); (case aS => exact (below_size bZ)); (case aL => have := LMc17.out; omega); intro v319 w25 ho hb hg hat; rw [← Ny318.out] at ho; replace HO_6 := aZ (Kd.R_over' (lZR HO_6.out) (Kd.R_typed (lZR HO_5.out)) (by decide) hg); replace BK316 := aZ (blk_grown (bkZ BK316.out) hg (Kd.R_away HO_5.out (fun _ hk => hk))); replace HB := aZ (hb); have HO320 := aZ (ho); clear HO_5; clear ho hb hg hat))
    go_roundg k1
    case measure => have := HK1.out; omega
    case rel => exact ⟨(y318), (y317), (wrap64 (x12_1 + 1)), tZB, H', ⟨by have := HK1.out; omega⟩, ⟨by (with_reducible repeat (first | apply Kd.R_alloc | apply Kd.R_drewN | apply Kd.R_drew)); exact Kd.R_mono HO320.out (fun _ hk => trivial)⟩, ⟨lZR HO_6.out⟩, ⟨bZ⟩⟩
   rw [if_neg c12] at H
   have c12b0 : (((rd_T149 l0 x12_1).f5) == 0) = false := beq_eq_false_iff_ne.mpr c12
   have c12b1 : (((rd_T149 l0 x12_1).f5) != 0) = true := bne_iff_ne.mpr c12
   by_cases c26 : ((rd_T149 l0 x12_1).f5) < 10
   rotate_left
   ·rw [if_neg c26] at H
    exact absurd H (by simp)
   rw [if_pos c26] at H
   have c26b0 := eq_true c26
   have c26b1 := decide_eq_true c26
   clear c26
   by_cases c27 : 0 ≤ ((rd_T149 l0 x12_1).f5)
   rotate_left
   ·rw [if_neg c27] at H
    exact absurd H (by simp)
   rw [if_pos c27] at H
   have c27b0 := decide_eq_true c27
   clear c27
   by_cases c28 : ((rd_T149 l0 x12_1).f5) < (x6_1.length : Int)
   rotate_left
   ·rw [if_neg c28] at H
    exact absurd H (by simp)
   rw [if_pos c28] at H
   have c28b0 := decide_eq_true c28
   clear c28
   obtain ⟨bq29, hbq29⟩ : ∃ b_ : Bool, b_ = (rdOf false x6_1 ((rd_T149 l0 x12_1).f5)) := ⟨_, rfl⟩
   replace H : (if (bq29 = true) then (impl_counting.l0 k1 a1 x5_1 x6_1 l0 (l0.length : Int) (wrap64 (x12_1 + 1))) else (if x5_1.length < 2932031007402 then (impl_counting.l0 k1 a1 (x5_1 ++ [(⟨(rd_T149 l0 x12_1).f0, (rd_T149 l0 x12_1).f1, (rd_T149 l0 x12_1).f2, (rd_T149 l0 x12_1).f3, (rd_T149 l0 x12_1).f4, (rd_T149 l0 x12_1).f5⟩ : S149)]) (x6_1.set (((rd_T149 l0 x12_1).f5) : Int).toNat true) l0 (l0.length : Int) (wrap64 (x12_1 + 1))) else (none))) = some r := by rw [← hbq29] at H; exact H
   have Nbq29 := Aside0.mk hbq29
   clear hbq29
   by_cases c30 : (bq29 = true)
   ·subst c30
    have H1 : (impl_counting.l0 k1 a1 x5_1 x6_1 l0 (l0.length : Int) (wrap64 (x12_1 + 1))) = some r := by rw [if_pos rfl] at H; exact H
    clear H
    have H := H1
    clear H1
    have H' := Aside0.mk H
    clear H
    have p315 : 0 ≤ (x12_1 : Int) := of_decide_eq_true tZE
    have q315 : x12_1 < (l0.length : Int) := of_decide_eq_true tZE
    obtain ⟨ad315, e315, hx315_0, hx315_1, hx315_2, hx315_3, hx315_4, hx315_5⟩ := at_T149 HR0.out x12_1 p315 q315
    cases e315
    replace hx315_0 := cZ HB hx315_0
    replace hx315_1 := cZ HB hx315_1
    replace hx315_2 := cZ HB hx315_2
    replace hx315_3 := cZ HB hx315_3
    replace hx315_4 := cZ HB hx315_4
    replace hx315_5 := cZ HB hx315_5
    replace p315 := eq_true p315
    replace q315 := eq_true q315
    go_wp2_with (first | ((with_reducible refine gate_dst (N := 8) rfl ?_); refine box_event ?hg (N := 8) ?hd (cs := #[.int .i64 0, .int .i64 0, .int .i64 0, .int .i64 0, .int .i64 0, .int .i64 0]) (t := 149) ?hr ?_; (case hd => rfl); (case hg => rfl); (case hr => first | (go_simp; done) | (go_simp; rfl)); intro gb316 hg w31 hbox hb; replace HO_5 := aZ (Kd.R_below (Kd.R_elderB (lZR HO_5.out) gb316 (Nat.le_of_eq hg.symm)) hb); replace HO_6 := aZ (Kd.R_below (lZR HO_6.out) hb); have BK316 := aZ (hbox); have GW316 := aZ ((by rw [hg]; exact (below_size (lZB HB.out)) : w.heap.size ≤ gb316)); have GE316 := aZ ((by rw [hg]; exact (below_size (lZB HB.out)) : w.heap.size ≤ gb316)); replace HB := aZ (below_step (lZB HB.out) hb); clear hb hbox hg; have hcz32_0 : w31.cell? ⟨gb316, 0, none⟩ = some (.int .i64 0) := (blk_cell BK316.out 0).trans rfl; have hcz32_1 : w31.cell? ⟨gb316, 1, none⟩ = some (.int .i64 0) := (blk_cell BK316.out 1).trans rfl; have hcz32_2 : w31.cell? ⟨gb316, 2, none⟩ = some (.int .i64 0) := (blk_cell BK316.out 2).trans rfl; have hcz32_3 : w31.cell? ⟨gb316, 3, none⟩ = some (.int .i64 0) := (blk_cell BK316.out 3).trans rfl; have hcz32_4 : w31.cell? ⟨gb316, 4, none⟩ = some (.int .i64 0) := (blk_cell BK316.out 4).trans rfl; have hcz32_5 : w31.cell? ⟨gb316, 5, none⟩ = some (.int .i64 0) := (blk_cell BK316.out 5).trans rfl; have hfz32_0 := blk_frozen BK316.out 0; have hfz32_1 := blk_frozen BK316.out 1; have hfz32_2 := blk_frozen BK316.out 2; have hfz32_3 := blk_frozen BK316.out 3; have hfz32_4 := blk_frozen BK316.out 4; have hfz32_5 := blk_frozen BK316.out 5; obtain ⟨Ao33, co33, eo33⟩ := Kd.R_slice HO_6.out; subst eo33; have p321 : 0 ≤ (((rd_T149 l0 x12_1).f5) : Int) := of_decide_eq_true tZE; have q321 : ((rd_T149 l0 x12_1).f5) < (x6_1.length : Int) := of_decide_eq_true tZE; obtain ⟨ad321, e321, hx321_0⟩ := Kd.at_bool (Kd.R_reads' HO_6.out).2.2 ((rd_T149 l0 x12_1).f5) p321 q321; (try rw [← Nbq29.out] at hx321_0); cases e321; have hn321_0 : ad321.block ≠ gb316 := Kd.own_blk (Kd.R_ne HO_6.out BK316.out (by decide)); have hn321_1 : ad321.block ≠ gb316 := Kd.own_blk (Kd.R_ne HO_6.out BK316.out (by decide)); have hn321_2 : ad321.block ≠ gb316 := Kd.own_blk (Kd.R_ne HO_6.out BK316.out (by decide)); have hn321_3 : ad321.block ≠ gb316 := Kd.own_blk (Kd.R_ne HO_6.out BK316.out (by decide)); have hn321_4 : ad321.block ≠ gb316 := Kd.own_blk (Kd.R_ne HO_6.out BK316.out (by decide)); have hn321_5 : ad321.block ≠ gb316 := Kd.own_blk (Kd.R_ne HO_6.out BK316.out (by decide)); replace hx321_0 := (cell_far (p := ⟨gb316, 0, none⟩) (by first | (rw [add_block]; exact hn321_0) | (show (Addr.add _ _).block ≠ _; rw [add_block]; exact hn321_0) | exact hn321_0) (.int .i64 ((rd_T149 l0 x12_1).f0))).trans hx321_0; replace hx321_0 := (cell_far (p := ⟨gb316, 1, none⟩) (by first | (rw [add_block]; exact hn321_1) | (show (Addr.add _ _).block ≠ _; rw [add_block]; exact hn321_1) | exact hn321_1) (.int .i64 ((rd_T149 l0 x12_1).f1))).trans hx321_0; replace hx321_0 := (cell_far (p := ⟨gb316, 2, none⟩) (by first | (rw [add_block]; exact hn321_2) | (show (Addr.add _ _).block ≠ _; rw [add_block]; exact hn321_2) | exact hn321_2) (.int .i64 ((rd_T149 l0 x12_1).f2))).trans hx321_0; replace hx321_0 := (cell_far (p := ⟨gb316, 3, none⟩) (by first | (rw [add_block]; exact hn321_3) | (show (Addr.add _ _).block ≠ _; rw [add_block]; exact hn321_3) | exact hn321_3) (.int .i64 ((rd_T149 l0 x12_1).f3))).trans hx321_0; replace hx321_0 := (cell_far (p := ⟨gb316, 4, none⟩) (by first | (rw [add_block]; exact hn321_4) | (show (Addr.add _ _).block ≠ _; rw [add_block]; exact hn321_4) | exact hn321_4) (.int .i64 ((rd_T149 l0 x12_1).f4))).trans hx321_0; replace hx321_0 := (cell_far (p := ⟨gb316, 5, none⟩) (by first | (rw [add_block]; exact hn321_5) | (show (Addr.add _ _).block ≠ _; rw [add_block]; exact hn321_5) | exact hn321_5) (.int .i64 ((rd_T149 l0 x12_1).f5))).trans hx321_0; clear hn321_0; clear hn321_1; clear hn321_2; clear hn321_3; clear hn321_4; clear hn321_5; replace p321 := eq_true p321; replace q321 := eq_true q321))
    go_roundg k1
    case measure => have := HK1.out; omega
    case rel => (try rw [← Nbq29.out]); exact ⟨(x5_1), (x6_1), (wrap64 (x12_1 + 1)), tZB, H', ⟨by have := HK1.out; omega⟩, ⟨by (with_reducible repeat (first | apply Kd.R_alloc | apply Kd.R_drewN | apply Kd.R_drew)); exact Kd.R_mono (Kd.R_far (p := ⟨gb316, 5, none⟩) (Kd.R_far (p := ⟨gb316, 4, none⟩) (Kd.R_far (p := ⟨gb316, 3, none⟩) (Kd.R_far (p := ⟨gb316, 2, none⟩) (Kd.R_far (p := ⟨gb316, 1, none⟩) (Kd.R_far (p := ⟨gb316, 0, none⟩) (Kd.R_mono HO_5.out (fun k_ hk => (⟨hk, hk.2⟩ : _ ∧ k_ ≠ gb316))) (fun _ hk => hk.2) (.int .i64 ((rd_T149 l0 x12_1).f0))) (fun _ hk => hk.2) (.int .i64 ((rd_T149 l0 x12_1).f1))) (fun _ hk => hk.2) (.int .i64 ((rd_T149 l0 x12_1).f2))) (fun _ hk => hk.2) (.int .i64 ((rd_T149 l0 x12_1).f3))) (fun _ hk => hk.2) (.int .i64 ((rd_T149 l0 x12_1).f4))) (fun _ hk => hk.2) (.int .i64 ((rd_T149 l0 x12_1).f5))) (fun _ hk => trivial)⟩, ⟨by (with_reducible repeat (first | apply Kd.R_alloc | apply Kd.R_drewN | apply Kd.R_drew)); exact Kd.R_mono (Kd.R_far (p := ⟨gb316, 5, none⟩) (Kd.R_far (p := ⟨gb316, 4, none⟩) (Kd.R_far (p := ⟨gb316, 3, none⟩) (Kd.R_far (p := ⟨gb316, 2, none⟩) (Kd.R_far (p := ⟨gb316, 1, none⟩) (Kd.R_far (p := ⟨gb316, 0, none⟩) (Kd.R_types HO_6.out BK316.out (by decide)) (fun _ hk => hk.2) (.int .i64 ((rd_T149 l0 x12_1).f0))) (fun _ hk => hk.2) (.int .i64 ((rd_T149 l0 x12_1).f1))) (fun _ hk => hk.2) (.int .i64 ((rd_T149 l0 x12_1).f2))) (fun _ hk => hk.2) (.int .i64 ((rd_T149 l0 x12_1).f3))) (fun _ hk => hk.2) (.int .i64 ((rd_T149 l0 x12_1).f4))) (fun _ hk => hk.2) (.int .i64 ((rd_T149 l0 x12_1).f5))) (fun _ hk => trivial)⟩, ⟨bZ⟩⟩
   replace c30 := Bool.eq_false_iff.mpr c30
   subst c30
   have H1 : (if x5_1.length < 2932031007402 then (impl_counting.l0 k1 a1 (x5_1 ++ [(⟨(rd_T149 l0 x12_1).f0, (rd_T149 l0 x12_1).f1, (rd_T149 l0 x12_1).f2, (rd_T149 l0 x12_1).f3, (rd_T149 l0 x12_1).f4, (rd_T149 l0 x12_1).f5⟩ : S149)]) (x6_1.set (((rd_T149 l0 x12_1).f5) : Int).toNat true) l0 (l0.length : Int) (wrap64 (x12_1 + 1))) else (none)) = some r := by rw [if_neg (show ¬ (false = true) by decide)] at H; exact H
   clear H
   have H := H1
   clear H1
   obtain ⟨y322, hy322⟩ : ∃ y_ : List Bool, y_ = (x6_1.set (((rd_T149 l0 x12_1).f5) : Int).toNat true) := ⟨_, rfl⟩
   replace H : (if x5_1.length < 2932031007402 then (impl_counting.l0 k1 a1 (x5_1 ++ [(⟨(rd_T149 l0 x12_1).f0, (rd_T149 l0 x12_1).f1, (rd_T149 l0 x12_1).f2, (rd_T149 l0 x12_1).f3, (rd_T149 l0 x12_1).f4, (rd_T149 l0 x12_1).f5⟩ : S149)]) y322 l0 (l0.length : Int) (wrap64 (x12_1 + 1))) else (none)) = some r := by first | (rw [hy322]; with_reducible exact H) | (have H2_ := (Option.bind_some _ _).symm.trans H; rw [hy322]; with_reducible exact H2_) | (have H2_ := (Option.bind_some _ _).symm.trans H; with_reducible exact H2_) | with_reducible exact H | (rw [hy322]; exact H) | exact H
   have Ny322 := Aside0.mk hy322
   clear hy322
   by_cases c35 : x5_1.length < 2932031007402
   rotate_left
   ·rw [if_neg c35] at H
    exact absurd H (by simp)
   rw [if_pos c35] at H
   have LMc35 := Aside0.mk c35
   clear c35
   obtain ⟨y323, hy323⟩ : ∃ y_ : List (S149), y_ = (x5_1 ++ [(⟨(rd_T149 l0 x12_1).f0, (rd_T149 l0 x12_1).f1, (rd_T149 l0 x12_1).f2, (rd_T149 l0 x12_1).f3, (rd_T149 l0 x12_1).f4, (rd_T149 l0 x12_1).f5⟩ : S149)]) := ⟨_, rfl⟩
   replace H : (impl_counting.l0 k1 a1 y323 y322 l0 (l0.length : Int) (wrap64 (x12_1 + 1))) = some r := by first | (rw [hy323]; with_reducible exact H) | (have H2_ := (Option.bind_some _ _).symm.trans H; rw [hy323]; with_reducible exact H2_) | (have H2_ := (Option.bind_some _ _).symm.trans H; with_reducible exact H2_) | with_reducible exact H | (rw [hy323]; exact H) | exact H
   have Ny323 := Aside0.mk hy323
   clear hy323
   have H' := Aside0.mk H
   clear H
   have p315 : 0 ≤ (x12_1 : Int) := of_decide_eq_true tZE
   have q315 : x12_1 < (l0.length : Int) := of_decide_eq_true tZE
   obtain ⟨ad315, e315, hx315_0, hx315_1, hx315_2, hx315_3, hx315_4, hx315_5⟩ := at_T149 HR0.out x12_1 p315 q315
   cases e315
   replace hx315_0 := cZ HB hx315_0
   replace hx315_1 := cZ HB hx315_1
   replace hx315_2 := cZ HB hx315_2
   replace hx315_3 := cZ HB hx315_3
   replace hx315_4 := cZ HB hx315_4
   replace hx315_5 := cZ HB hx315_5
   replace p315 := eq_true p315
   replace q315 := eq_true q315
   go_wp2_with (first | ((with_reducible refine gate_dst (N := 8) rfl ?_); refine box_event ?hg (N := 8) ?hd (cs := #[.int .i64 0, .int .i64 0, .int .i64 0, .int .i64 0, .int .i64 0, .int .i64 0]) (t := 149) ?hr ?_; (case hd => rfl); (case hg => rfl); (case hr => first | (go_simp; done) | (go_simp; rfl)); intro gb316 hg w36 hbox hb; replace HO_5 := aZ (Kd.R_below (Kd.R_elderB (lZR HO_5.out) gb316 (Nat.le_of_eq hg.symm)) hb); replace HO_6 := aZ (Kd.R_below (lZR HO_6.out) hb); have BK316 := aZ (hbox); have GW316 := aZ ((by rw [hg]; exact (below_size (lZB HB.out)) : w.heap.size ≤ gb316)); have GE316 := aZ ((by rw [hg]; exact (below_size (lZB HB.out)) : w.heap.size ≤ gb316)); replace HB := aZ (below_step (lZB HB.out) hb); clear hb hbox hg; have hcz37_0 : w36.cell? ⟨gb316, 0, none⟩ = some (.int .i64 0) := (blk_cell BK316.out 0).trans rfl; have hcz37_1 : w36.cell? ⟨gb316, 1, none⟩ = some (.int .i64 0) := (blk_cell BK316.out 1).trans rfl; have hcz37_2 : w36.cell? ⟨gb316, 2, none⟩ = some (.int .i64 0) := (blk_cell BK316.out 2).trans rfl; have hcz37_3 : w36.cell? ⟨gb316, 3, none⟩ = some (.int .i64 0) := (blk_cell BK316.out 3).trans rfl; have hcz37_4 : w36.cell? ⟨gb316, 4, none⟩ = some (.int .i64 0) := (blk_cell BK316.out 4).trans rfl; have hcz37_5 : w36.cell? ⟨gb316, 5, none⟩ = some (.int .i64 0) := (blk_cell BK316.out 5).trans rfl; have hfz37_0 := blk_frozen BK316.out 0; have hfz37_1 := blk_frozen BK316.out 1; have hfz37_2 := blk_frozen BK316.out 2; have hfz37_3 := blk_frozen BK316.out 3; have hfz37_4 := blk_frozen BK316.out 4; have hfz37_5 := blk_frozen BK316.out 5) | ((with_reducible refine gate_store (t := 149) (p := 8) rfl ?_); refine store_event (t := 149) (p := 8) (v := ?vo_w38) (w1 := ((((((w36.setCell ⟨gb316, 0, none⟩ (.int .i64 ((rd_T149 l0 x12_1).f0))).setCell ⟨gb316, 1, none⟩ (.int .i64 ((rd_T149 l0 x12_1).f1))).setCell ⟨gb316, 2, none⟩ (.int .i64 ((rd_T149 l0 x12_1).f2))).setCell ⟨gb316, 3, none⟩ (.int .i64 ((rd_T149 l0 x12_1).f3))).setCell ⟨gb316, 4, none⟩ (.int .i64 ((rd_T149 l0 x12_1).f4))).setCell ⟨gb316, 5, none⟩ (.int .i64 ((rd_T149 l0 x12_1).f5)))) ?hg ?ho ?hn ?hr ?_; (case ho => rfl); (case hg => rfl); (case hn => rfl); (case hr => first | (go_simp; done) | (go_simp; rfl)); intro w38 hw; replace HO_5 : Aside0 (Kd.R k149 149 w38 w.heap.size (fun k_ => k_ ≠ gb316) u5 x5_1) := ⟨(by rw [hw]; exact (by (with_reducible repeat (first | apply Kd.R_alloc | apply Kd.R_drewN | apply Kd.R_drew)); exact Kd.R_mono (Kd.R_far (p := ⟨gb316, 5, none⟩) (Kd.R_far (p := ⟨gb316, 4, none⟩) (Kd.R_far (p := ⟨gb316, 3, none⟩) (Kd.R_far (p := ⟨gb316, 2, none⟩) (Kd.R_far (p := ⟨gb316, 1, none⟩) (Kd.R_far (p := ⟨gb316, 0, none⟩) (Kd.R_mono HO_5.out (fun k_ hk => (⟨hk, hk.2⟩ : _ ∧ k_ ≠ gb316))) (fun _ hk => hk.2) (.int .i64 ((rd_T149 l0 x12_1).f0))) (fun _ hk => hk.2) (.int .i64 ((rd_T149 l0 x12_1).f1))) (fun _ hk => hk.2) (.int .i64 ((rd_T149 l0 x12_1).f2))) (fun _ hk => hk.2) (.int .i64 ((rd_T149 l0 x12_1).f3))) (fun _ hk => hk.2) (.int .i64 ((rd_T149 l0 x12_1).f4))) (fun _ hk => hk.2) (.int .i64 ((rd_T149 l0 x12_1).f5))) (fun _ hk => hk.1.2)))⟩; replace HO_6 : Aside0 (Kd.R Kd.bool 250 w38 w.heap.size (fun _ => True) v313 x6_1) := ⟨(by rw [hw]; exact (by (with_reducible repeat (first | apply Kd.R_alloc | apply Kd.R_drewN | apply Kd.R_drew)); exact Kd.R_mono (Kd.R_far (p := ⟨gb316, 5, none⟩) (Kd.R_far (p := ⟨gb316, 4, none⟩) (Kd.R_far (p := ⟨gb316, 3, none⟩) (Kd.R_far (p := ⟨gb316, 2, none⟩) (Kd.R_far (p := ⟨gb316, 1, none⟩) (Kd.R_far (p := ⟨gb316, 0, none⟩) (Kd.R_types HO_6.out BK316.out (by decide)) (fun _ hk => hk.2) (.int .i64 ((rd_T149 l0 x12_1).f0))) (fun _ hk => hk.2) (.int .i64 ((rd_T149 l0 x12_1).f1))) (fun _ hk => hk.2) (.int .i64 ((rd_T149 l0 x12_1).f2))) (fun _ hk => hk.2) (.int .i64 ((rd_T149 l0 x12_1).f3))) (fun _ hk => hk.2) (.int .i64 ((rd_T149 l0 x12_1).f4))) (fun _ hk => hk.2) (.int .i64 ((rd_T149 l0 x12_1).f5))) (fun _ hk => trivial)))⟩; replace BK316 : Aside0 (w38.heap[gb316]? = some (.cells #[.int .i64 ((rd_T149 l0 x12_1).f0), .int .i64 ((rd_T149 l0 x12_1).f1), .int .i64 ((rd_T149 l0 x12_1).f2), .int .i64 ((rd_T149 l0 x12_1).f3), .int .i64 ((rd_T149 l0 x12_1).f4), .int .i64 ((rd_T149 l0 x12_1).f5)] 149 (0, 0))) := ⟨(by rw [hw]; exact (by (with_reducible repeat (first | refine blk_drewN ?_ _ | refine blk_drew ?_ | refine blk_alloc ?_ _)); refine blk_put (cs := #[.int .i64 ((rd_T149 l0 x12_1).f0), .int .i64 ((rd_T149 l0 x12_1).f1), .int .i64 ((rd_T149 l0 x12_1).f2), .int .i64 ((rd_T149 l0 x12_1).f3), .int .i64 ((rd_T149 l0 x12_1).f4), .int .i64 0]) ?_ 5 _ rfl; (with_reducible repeat (first | refine blk_drewN ?_ _ | refine blk_drew ?_ | refine blk_alloc ?_ _)); refine blk_put (cs := #[.int .i64 ((rd_T149 l0 x12_1).f0), .int .i64 ((rd_T149 l0 x12_1).f1), .int .i64 ((rd_T149 l0 x12_1).f2), .int .i64 ((rd_T149 l0 x12_1).f3), .int .i64 0, .int .i64 0]) ?_ 4 _ rfl; (with_reducible repeat (first | refine blk_drewN ?_ _ | refine blk_drew ?_ | refine blk_alloc ?_ _)); refine blk_put (cs := #[.int .i64 ((rd_T149 l0 x12_1).f0), .int .i64 ((rd_T149 l0 x12_1).f1), .int .i64 ((rd_T149 l0 x12_1).f2), .int .i64 0, .int .i64 0, .int .i64 0]) ?_ 3 _ rfl; (with_reducible repeat (first | refine blk_drewN ?_ _ | refine blk_drew ?_ | refine blk_alloc ?_ _)); refine blk_put (cs := #[.int .i64 ((rd_T149 l0 x12_1).f0), .int .i64 ((rd_T149 l0 x12_1).f1), .int .i64 0, .int .i64 0, .int .i64 0, .int .i64 0]) ?_ 2 _ rfl; (with_reducible repeat (first | refine blk_drewN ?_ _ | refine blk_drew ?_ | refine blk_alloc ?_ _)); refine blk_put (cs := #[.int .i64 ((rd_T149 l0 x12_1).f0), .int .i64 0, .int .i64 0, .int .i64 0, .int .i64 0, .int .i64 0]) ?_ 1 _ rfl; (with_reducible repeat (first | refine blk_drewN ?_ _ | refine blk_drew ?_ | refine blk_alloc ?_ _)); refine blk_put (cs := #[.int .i64 0, .int .i64 0, .int .i64 0, .int .i64 0, .int .i64 0, .int .i64 0]) ?_ 0 _ rfl; (with_reducible repeat (first | refine blk_drewN ?_ _ | refine blk_drew ?_ | refine blk_alloc ?_ _)); exact BK316.out))⟩; replace HB : Aside0 (Below w.heap.size w w38) := ⟨(by rw [hw]; exact bZ)⟩; clear hw; have hcz39_0 : w38.cell? ⟨gb316, 0, none⟩ = some (.int .i64 ((rd_T149 l0 x12_1).f0)) := (blk_cell BK316.out 0).trans rfl; have hcz39_1 : w38.cell? ⟨gb316, 1, none⟩ = some (.int .i64 ((rd_T149 l0 x12_1).f1)) := (blk_cell BK316.out 1).trans rfl; have hcz39_2 : w38.cell? ⟨gb316, 2, none⟩ = some (.int .i64 ((rd_T149 l0 x12_1).f2)) := (blk_cell BK316.out 2).trans rfl; have hcz39_3 : w38.cell? ⟨gb316, 3, none⟩ = some (.int .i64 ((rd_T149 l0 x12_1).f3)) := (blk_cell BK316.out 3).trans rfl; have hcz39_4 : w38.cell? ⟨gb316, 4, none⟩ = some (.int .i64 ((rd_T149 l0 x12_1).f4)) := (blk_cell BK316.out 4).trans rfl; have hcz39_5 : w38.cell? ⟨gb316, 5, none⟩ = some (.int .i64 ((rd_T149 l0 x12_1).f5)) := (blk_cell BK316.out 5).trans rfl; have hfz39_0 := blk_frozen BK316.out 0; have hfz39_1 := blk_frozen BK316.out 1; have hfz39_2 := blk_frozen BK316.out 2; have hfz39_3 := blk_frozen BK316.out 3; have hfz39_4 := blk_frozen BK316.out 4; have hfz39_5 := blk_frozen BK316.out 5; obtain ⟨Ao40, co40, eo40⟩ := Kd.R_slice HO_6.out; subst eo40; have p321 : 0 ≤ (((rd_T149 l0 x12_1).f5) : Int) := of_decide_eq_true tZE; have q321 : ((rd_T149 l0 x12_1).f5) < (x6_1.length : Int) := of_decide_eq_true tZE; obtain ⟨ad321, e321, hx321_0⟩ := Kd.at_bool (Kd.R_reads' HO_6.out).2.2 ((rd_T149 l0 x12_1).f5) p321 q321; (try rw [← Nbq29.out] at hx321_0); cases e321; replace p321 := eq_true p321; replace q321 := eq_true q321; have p34 : 0 ≤ (((rd_T149 l0 x12_1).f5) : Int) := of_decide_eq_true tZE; have q34 : (((rd_T149 l0 x12_1).f5) : Int) < ((x6_1.length : Int) : Int) := of_decide_eq_true tZE; obtain ⟨go34, co34, eo34, gb34, gl34, cl34, HG34⟩ := Kd.R_form HO_6.out (by omega); (first | cases eo34 | (injection eo34 with ea_ en_ ec_; (first | subst ea_ | (injection ea_ with ea_; subst ea_)); subst ec_; clear en_)); have GB34 := Aside0.mk gb34; have GG34 := Aside0.mk HG34; clear gb34 gl34 HG34; (first | simp only [add_plain] at hx321_0 | skip); obtain ⟨hx34_0, hf34_0⟩ := Kd.R_celln false HO_6.out (((rd_T149 l0 x12_1).f5) : Int) p34 q34; replace p34 := eq_true p34; replace q34 := eq_true q34; obtain ⟨hy41_, hz41_⟩ := Kd.R_celln false HO_6.out (((rd_T149 l0 x12_1).f5) : Int) (of_decide_eq_true tZE) (of_decide_eq_true tZE); have HP41 := Kd.R_putg HO_6.out (((rd_T149 l0 x12_1).f5) : Int) true) | ((with_reducible refine gate_store (t := 4) (p := 40) rfl ?_); refine store_event (t := 4) (p := 40) (v := ?vo_w42) (w1 := (w38.setCell ⟨go34, (((rd_T149 l0 x12_1).f5) : Int).toNat, none⟩ (.bool true))) ?hg ?ho ?hn ?hr ?_; (case ho => rfl); (case hg => rfl); (case hn => rfl); (case hr => first | (go_simp; done) | (go_simp; rfl)); intro w42 hw; have hg : w38.grownBy w42 (some go34) := (by rw [hw]; exact HP41.2); have hp_ : Kd.R Kd.bool 250 w42 w.heap.size (fun _ => True) (.slice (some ⟨go34, 0, none⟩) x6_1.length co40) y322 := (by rw [hw, Ny322.out]; exact HP41.1); clear HP41; replace HO_5 := aZ (Kd.R_over' (v := (.slice (some ⟨go34, 0, none⟩) x6_1.length co40)) (lZR HO_5.out) (Kd.R_typed HO_6.out) (by decide) hg); replace BK316 := aZ (blk_grown (bkZ BK316.out) hg (Kd.R_ne HO_6.out BK316.out (by decide))); replace HO_6 := aZ (hp_); replace HB := aZ ((by rw [hw]; exact below_set (HB.out) GB34.out : Below w.heap.size w w42)); clear hg hw hp_; have hcz43_0 : w42.cell? ⟨gb316, 0, none⟩ = some (.int .i64 ((rd_T149 l0 x12_1).f0)) := (blk_cell BK316.out 0).trans rfl; have hcz43_1 : w42.cell? ⟨gb316, 1, none⟩ = some (.int .i64 ((rd_T149 l0 x12_1).f1)) := (blk_cell BK316.out 1).trans rfl; have hcz43_2 : w42.cell? ⟨gb316, 2, none⟩ = some (.int .i64 ((rd_T149 l0 x12_1).f2)) := (blk_cell BK316.out 2).trans rfl; have hcz43_3 : w42.cell? ⟨gb316, 3, none⟩ = some (.int .i64 ((rd_T149 l0 x12_1).f3)) := (blk_cell BK316.out 3).trans rfl; have hcz43_4 : w42.cell? ⟨gb316, 4, none⟩ = some (.int .i64 ((rd_T149 l0 x12_1).f4)) := (blk_cell BK316.out 4).trans rfl; have hcz43_5 : w42.cell? ⟨gb316, 5, none⟩ = some (.int .i64 ((rd_T149 l0 x12_1).f5)) := (blk_cell BK316.out 5).trans rfl; have hfz43_0 := blk_frozen BK316.out 0; have hfz43_1 := blk_frozen BK316.out 1; have hfz43_2 := blk_frozen BK316.out 2; have hfz43_3 := blk_frozen BK316.out 3; have hfz43_4 := blk_frozen BK316.out 4; have hfz43_5 := blk_frozen BK316.out 5) | ((with_reducible refine gate_builtin (b := .append) (xs := #[.tmp 41, .tmp 43]) rfl ?_); at_builtin; refine Kd.R_append k149 (w0 := w) w.heap.size rfl (.tmp 41) (.tmp 43) 128 149 (.agg #[(.int .i64 0), (.int .i64 0), (.int .i64 0), (.int .i64 0), (.int .i64 0), (.int .i64 0)]) 48 rfl Try.underlying128 info149 rfl (by decide) (by omega) u5 x5_1 (⟨(rd_T149 l0 x12_1).f0, (rd_T149 l0 x12_1).f1, (rd_T149 l0 x12_1).f2, (rd_T149 l0 x12_1).f3, (rd_T149 l0 x12_1).f4, (rd_T149 l0 x12_1).f5⟩ : S149) [.int .i64 ((rd_T149 l0 x12_1).f0), .int .i64 ((rd_T149 l0 x12_1).f1), .int .i64 ((rd_T149 l0 x12_1).f2), .int .i64 ((rd_T149 l0 x12_1).f3), .int .i64 ((rd_T149 l0 x12_1).f4), .int .i64 ((rd_T149 l0 x12_1).f5)] (fun k_ => k_ ≠ gb316) (fun _ => False) rfl rfl ?aP (fun _ hk => hk.elim) ?aF ?aO ?aB ?aS ?aL ?_; (case aP => exact k149_mkM _ _ _ (⟨(rd_T149 l0 x12_1).f0, (rd_T149 l0 x12_1).f1, (rd_T149 l0 x12_1).f2, (rd_T149 l0 x12_1).f3, (rd_T149 l0 x12_1).f4, (rd_T149 l0 x12_1).f5⟩ : S149)); (case aB => exact bZ); (case aF => exact (fun k_ hk => Kd.freshB (bkZ BK316.out) k_ hk)); (case aO => exact (lZR HO_5.out)); (case aS => exact (below_size bZ)); (case aL => have := LMc35.out; omega); intro v324 w44 ho hb hg hat; rw [← Ny323.out] at ho; replace HO_6 := aZ (Kd.R_over' (lZR HO_6.out) (Kd.R_typed (lZR HO_5.out)) (by decide) hg); replace BK316 := aZ (blk_grown (bkZ BK316.out) hg (Kd.R_away HO_5.out (fun _ hk => hk))); replace HB := aZ (hb); have HO325 := aZ (ho); clear HO_5; clear ho hb hg hat))
   go_roundg k1
   case measure => have := HK1.out; omega
   case rel => (try rw [← Nbq29.out]); exact ⟨(y323), (y322), (wrap64 (x12_1 + 1)), tZB, H', ⟨by have := HK1.out; omega⟩, ⟨by (with_reducible repeat (first | apply Kd.R_alloc | apply Kd.R_drewN | apply Kd.R_drew)); exact Kd.R_mono HO325.out (fun _ hk => trivial)⟩, ⟨lZR HO_6.out⟩, ⟨bZ⟩⟩
end Go.Proofs.Ytjnmfadnkbflfaa.PFnExactOutput
