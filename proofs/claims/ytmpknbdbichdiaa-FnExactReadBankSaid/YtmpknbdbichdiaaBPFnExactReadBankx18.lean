import Derived.Test.YtmpknbdbichdiaaBPFnExactReadBankx0
import Derived.Test.YtmpknbdbichdiaaBPFnExactReadBankx9
import Derived.Test.YtmpknbdbichdiaaBPFnExactReadBankx15
import Derived.Test.YtmpknbdbichdiaaBPFnExactReadBankx16
import Derived.Test.YtmpknbdbichdiaaBPFnExactReadBankx17
import Derived.Test.YtmpknbdbichdiaaBSlimWords
namespace Go.Proofs.Ytmpknbdbichdiaa.PFnExactReadBank
open Go.Proofs.Ytmpknbdbichdiaa.SlimWords
open Go.RowKit Go.Proofs.YtmpknbdbichdiaaW.PrintWords Go.Proofs.YtmpknbdbichdiaaW.PrintLast Go.Proofs.YtmpknbdbichdiaaW.PrintMore Go.Proofs.Ytmpknbdbichdiaa.MapWords Go.Proofs.Ytmpknbdbichdiaa.IterWords Go.Proofs.Ytmpknbdbichdiaa.MarkWords
attribute [local go_sem] max2_int min2_int max_two min_two max_three min_three max_four min_four
set_option linter.unusedVariables false
set_option linter.unusedSimpArgs false
mutual
def laws_FnExactReadBank.j0 : Nat → ByteArray → List (S174) → Int → Int → List (S174) → Bool → Option (Bool)
  | 0, _, _, _, _, _, _ => none
  | k + 1, x0, x3, x4, x5, x6, x42 => if x42 = true then (some false) else ((laws_markPaymentS.f k x6 1).bind fun bt328 => ((laws_heldPaymentS.f k bt328.2 1).bind fun t330 => (if t330 < 0 then (some false) else (if t330 = bt328.1 then ((impl_ReadBank.f k x0).bind fun bt331 => ((laws_eqPaymentS.f k bt331.1 x3).bind fun t336 => (if t336 = true then (if bt331.2.1 = x4 then (laws_FnExactReadBank.j1 k bt328.2 bt328.1 (bt331.2.2 != x5)) else (laws_FnExactReadBank.j1 k bt328.2 bt328.1 true)) else (laws_FnExactReadBank.j1 k bt328.2 bt328.1 true)))) else (some false)))))
def laws_FnExactReadBank.j1 : Nat → List (S174) → Int → Bool → Option (Bool)
  | 0, _, _, _ => none
  | k + 1, x6, x9, x73 => if x73 = true then (some false) else ((laws_heldPaymentS.f k x6 1).bind fun t337 => (if t337 < 0 then (some false) else (if t337 = x9 then (some true) else (some false))))
end
def laws_FnExactReadBank.f (k : Nat) (a0 : ByteArray) : Option (Bool) := if (a0.size : Int) > 1048576 then (some true) else ((spec_ReadBank.f k a0).bind fun bt317 => ((impl_ReadBank.f k a0).bind fun bt322 => ((laws_eqPaymentS.f k bt322.1 bt317.1).bind fun t327 => (if t327 = true then (if bt322.2.1 = bt317.2.1 then (laws_FnExactReadBank.j0 k a0 bt317.1 bt317.2.1 bt317.2.2 bt322.1 (bt322.2.2 != bt317.2.2)) else (laws_FnExactReadBank.j0 k a0 bt317.1 bt317.2.1 bt317.2.2 bt322.1 true)) else (laws_FnExactReadBank.j0 k a0 bt317.1 bt317.2.1 bt317.2.2 bt322.1 true)))))
theorem laws_FnExactReadBank.mono_l : ∀ k, (∀ y0 y1 y2 y3 y4 y5, LeO (laws_FnExactReadBank.j0 k y0 y1 y2 y3 y4 y5) (laws_FnExactReadBank.j0 (k + 1) y0 y1 y2 y3 y4 y5)) ∧ (∀ y0 y1 y2, LeO (laws_FnExactReadBank.j1 k y0 y1 y2) (laws_FnExactReadBank.j1 (k + 1) y0 y1 y2))
  | 0 => ⟨fun _ _ _ _ _ _ r h => by simp [laws_FnExactReadBank.j0] at h, fun _ _ _ r h => by simp [laws_FnExactReadBank.j1] at h⟩
  | k + 1 => by
    obtain ⟨ih0, ih1⟩ := laws_FnExactReadBank.mono_l k
    refine ⟨?_, ?_⟩
    · intro y0 y1 y2 y3 y4 y5
      unfold laws_FnExactReadBank.j0
      repeat' first
      | (with_reducible exact ih0 _ _ _ _ _ _)
      | (with_reducible exact ih1 _ _ _)
      | (with_reducible exact impl_ReadBank.mono _ _)
      | (with_reducible exact laws_eqPaymentS.mono _ _ _)
      | (with_reducible exact laws_heldPaymentS.mono _ _ _)
      | (with_reducible exact laws_markPaymentS.mono _ _ _)
      | (with_reducible exact spec_ReadBank.mono _ _)
      | (with_reducible exact LeO.refl _)
      | (with_reducible exact LeO.none _)
      | (with_reducible refine LeO.ite ?_ ?_)
      | (with_reducible refine LeO.bind ?_ (fun _ => ?_))
      | exact ih0 _ _ _ _ _ _
      | exact ih1 _ _ _
      | exact impl_ReadBank.mono _ _
      | exact laws_eqPaymentS.mono _ _ _
      | exact laws_heldPaymentS.mono _ _ _
      | exact laws_markPaymentS.mono _ _ _
      | exact spec_ReadBank.mono _ _
      | exact LeO.none _
      | refine LeO.ite ?_ ?_
      | refine LeO.bind ?_ (fun _ => ?_)
    · intro y0 y1 y2
      unfold laws_FnExactReadBank.j1
      repeat' first
      | (with_reducible exact ih0 _ _ _ _ _ _)
      | (with_reducible exact ih1 _ _ _)
      | (with_reducible exact impl_ReadBank.mono _ _)
      | (with_reducible exact laws_eqPaymentS.mono _ _ _)
      | (with_reducible exact laws_heldPaymentS.mono _ _ _)
      | (with_reducible exact laws_markPaymentS.mono _ _ _)
      | (with_reducible exact spec_ReadBank.mono _ _)
      | (with_reducible exact LeO.refl _)
      | (with_reducible exact LeO.none _)
      | (with_reducible refine LeO.ite ?_ ?_)
      | (with_reducible refine LeO.bind ?_ (fun _ => ?_))
      | exact ih0 _ _ _ _ _ _
      | exact ih1 _ _ _
      | exact impl_ReadBank.mono _ _
      | exact laws_eqPaymentS.mono _ _ _
      | exact laws_heldPaymentS.mono _ _ _
      | exact laws_markPaymentS.mono _ _ _
      | exact spec_ReadBank.mono _ _
      | exact LeO.none _
      | refine LeO.ite ?_ ?_
      | refine LeO.bind ?_ (fun _ => ?_)
theorem laws_FnExactReadBank.mono : ∀ a0 k, LeO (laws_FnExactReadBank.f k a0) (laws_FnExactReadBank.f (k + 1) a0) := by
 intro a0 k
 obtain ⟨ih0, ih1⟩ := laws_FnExactReadBank.mono_l k
 unfold laws_FnExactReadBank.f
 repeat' first
     | (with_reducible exact ih0 _ _ _ _ _ _)
     | (with_reducible exact ih1 _ _ _)
     | (with_reducible exact impl_ReadBank.mono _ _)
     | (with_reducible exact laws_eqPaymentS.mono _ _ _)
     | (with_reducible exact laws_heldPaymentS.mono _ _ _)
     | (with_reducible exact laws_markPaymentS.mono _ _ _)
     | (with_reducible exact spec_ReadBank.mono _ _)
     | (with_reducible exact LeO.refl _)
     | (with_reducible exact LeO.none _)
     | (with_reducible refine LeO.ite ?_ ?_)
     | (with_reducible refine LeO.bind ?_ (fun _ => ?_))
     | exact ih0 _ _ _ _ _ _
     | exact ih1 _ _ _
     | exact impl_ReadBank.mono _ _
     | exact laws_eqPaymentS.mono _ _ _
     | exact laws_heldPaymentS.mono _ _ _
     | exact laws_markPaymentS.mono _ _ _
     | exact spec_ReadBank.mono _ _
     | exact LeO.none _
     | refine LeO.ite ?_ ?_
     | refine LeO.bind ?_ (fun _ => ?_)
set_option maxHeartbeats 8000000 in
set_option maxRecDepth 100000 in
theorem laws_FnExactReadBank.calls (k : Nat) (a0 : ByteArray) (r : Bool) (w : World) (h : laws_FnExactReadBank.f k a0 = some r) :
    Calls Try.prog 9 #[.string a0] w fun e w' => e = .returned (.bool r) ∧ Below w.heap.size w w' := by
 have HB := aZ (Below.refl w.heap.size w)
 have H : (if (a0.size : Int) > 1048576 then (some true) else ((spec_ReadBank.f k a0).bind fun bt317 => ((impl_ReadBank.f k a0).bind fun bt322 => ((laws_eqPaymentS.f k bt322.1 bt317.1).bind fun t327 => (if t327 = true then (if bt322.2.1 = bt317.2.1 then (laws_FnExactReadBank.j0 k a0 bt317.1 bt317.2.1 bt317.2.2 bt322.1 (bt322.2.2 != bt317.2.2)) else (laws_FnExactReadBank.j0 k a0 bt317.1 bt317.2.1 bt317.2.2 bt322.1 true)) else (laws_FnExactReadBank.j0 k a0 bt317.1 bt317.2.1 bt317.2.2 bt322.1 true)))))) = some r := h
 clear h
 by_cases c2 : (a0.size : Int) > 1048576
 ·rw [if_pos c2] at H
  have c2b0 : decide (1048576 < (a0.size : Int)) = true := decide_eq_true c2
  have c2b1 : decide (1048576 < a0.size) = true := decide_eq_true (by omega)
  clear c2
  obtain rfl := Option.some.inj H
  go_enter Try.func9, Try.ntmps9
  go_wp2
  go_ret
  exact ⟨tZC, bZ⟩
 rw [if_neg c2] at H
 have c2b0 : decide (1048576 < (a0.size : Int)) = false := decide_eq_false c2
 have c2b1 : decide (1048576 < a0.size) = false := decide_eq_false (by omega)
 clear c2
 replace H := Option.bind_eq_some_iff.mp H
 obtain ⟨⟨t317, t318, t319⟩, A30, H⟩ := H
 replace H : ((impl_ReadBank.f k a0).bind fun bt322 => ((laws_eqPaymentS.f k bt322.1 t317).bind fun t327 => (if t327 = true then (if bt322.2.1 = t318 then (laws_FnExactReadBank.j0 k a0 t317 t318 t319 bt322.1 (bt322.2.2 != t319)) else (laws_FnExactReadBank.j0 k a0 t317 t318 t319 bt322.1 true)) else (laws_FnExactReadBank.j0 k a0 t317 t318 t319 bt322.1 true)))) = some r := H
 have A3 := Aside0.mk A30
 clear A30
 replace H := Option.bind_eq_some_iff.mp H
 obtain ⟨⟨t322, t323, t324⟩, A40, H⟩ := H
 replace H : ((laws_eqPaymentS.f k t322 t317).bind fun t327 => (if t327 = true then (if t323 = t318 then (laws_FnExactReadBank.j0 k a0 t317 t318 t319 t322 (t324 != t319)) else (laws_FnExactReadBank.j0 k a0 t317 t318 t319 t322 true)) else (laws_FnExactReadBank.j0 k a0 t317 t318 t319 t322 true))) = some r := H
 have A4 := Aside0.mk A40
 clear A40
 have HC5 := Aside0.mk H
 clear H
 go_enter Try.func9, Try.ntmps9
 go_upto_region 5 with (first | ((with_reducible refine gate_callee (f := 47) rfl ?_); refine goesL_ (some 19) rfl rfl Try.func47 kZ rfl #[.string a0] rfl tZA ?_; (with_reducible refine (spec_ReadBank.calls k a0 t317 t318 t319 _ A3.out).mono ?_); rintro e w6 ⟨v320, rfl, ho0, hb⟩; refine ⟨_, rfl, ?_⟩; have HO321 := aZ (Kd.R_lower ho0 (below_size (lZB HB.out))); replace HB := aZ (below_step (lZB HB.out) hb); (try clear hb); (try clear hb2); (try clear hk); (try clear hi); (try clear ho0)) | ((with_reducible refine gate_callee (f := 48) rfl ?_); refine goesL_ (some 25) rfl rfl Try.func48 kZ rfl #[.string a0] rfl tZA ?_; (with_reducible refine (impl_ReadBank.calls k a0 t322 t323 t324 _ A4.out).mono ?_); rintro e w7 ⟨v325, rfl, ho0, hb⟩; refine ⟨_, rfl, ?_⟩; have HO326 := aZ (Kd.R_lower (Kd.R_new' ho0 (Kd.R_lt (lZR HO321.out))) (below_size (lZB HB.out))); replace HO321 := aZ (Kd.R_elder' (lZR HO321.out) (Kd.R_base ho0) hb); replace HB := aZ (below_step (lZB HB.out) hb); (try clear hb); (try clear hb2); (try clear hk); (try clear hi); (try clear ho0)))
 (try simp only [Act.put, sZ1, sZ2, sZ3])
 go_cut [42] (fun v42 wc => ∃ (kq : Nat) (x42_4 : Bool), v42 = .bool x42_4 ∧ Aside0 (laws_FnExactReadBank.j0 kq a0 t317 t318 t319 t322 x42_4 = some r) ∧ Aside0 (kq ≤ k) ∧ Aside0 (Kd.R k174 174 wc w.heap.size (fun k_ => some k_ ≠ (v325 : Value).ownBlock) v320 t317) ∧ Aside0 (Kd.R k174 174 wc w.heap.size (fun k_ => some k_ ≠ (v320 : Value).ownBlock) v325 t322) ∧ Aside0 (Below w.heap.size w wc))
 case first =>
  have H := HC5.out
  clear HC5
  replace H := Option.bind_eq_some_iff.mp H
  obtain ⟨t327, A80, H⟩ := H
  replace H : (if t327 = true then (if t323 = t318 then (laws_FnExactReadBank.j0 k a0 t317 t318 t319 t322 (t324 != t319)) else (laws_FnExactReadBank.j0 k a0 t317 t318 t319 t322 true)) else (laws_FnExactReadBank.j0 k a0 t317 t318 t319 t322 true)) = some r := H
  have A8 := Aside0.mk A80
  clear A80
  by_cases c9 : t327 = true
  rotate_left
  ·replace c9 := Bool.eq_false_iff.mpr c9
   subst c9
   have H1 : (laws_FnExactReadBank.j0 k a0 t317 t318 t319 t322 true) = some r := by rw [if_neg (show ¬ (false = true) by decide)] at H; exact H
   clear H
   have H := H1
   clear H1
   have H' := Aside0.mk H
   clear H
   obtain ⟨Ao17, co17, eo17⟩ := Kd.R_slice HO326.out
   subst eo17
   obtain ⟨Ao18, co18, eo18⟩ := Kd.R_slice HO321.out
   subst eo18
   go_wp2_with (first | ((with_reducible refine gate_callee (f := 49) rfl ?_); refine goesL_ (some 31) rfl rfl Try.func49 kZ rfl #[.slice Ao17 t322.length co17, .slice Ao18 t317.length co18] rfl tZA ?_; (with_reducible refine (laws_eqPaymentS.calls k _ _ t322 _ _ t317 false _ ?side1 ?side2 ?side3 ?side4 A8.out).mono ?_); (case side1 => repeat (first | exact (Kd.R_reads' HO326.out).2.2 | (with_reducible refine Kd.C_alloc ?_ _) | (with_reducible refine Kd.C_drewN ?_ _) | (with_reducible refine Kd.C_drew ?_))); (case side2 => exact (Kd.R_reads' HO326.out).2.1); (case side3 => repeat (first | exact (Kd.R_reads' HO321.out).2.2 | (with_reducible refine Kd.C_alloc ?_ _) | (with_reducible refine Kd.C_drewN ?_ _) | (with_reducible refine Kd.C_drew ?_))); (case side4 => exact (Kd.R_reads' HO321.out).2.1); rintro e w19 ⟨rfl, hb⟩; refine ⟨_, rfl, ?_⟩; replace HO321 := aZ (Kd.R_below (lZR HO321.out) hb); replace HO326 := aZ (Kd.R_below (lZR HO326.out) hb); replace HB := aZ (below_step (lZB HB.out) hb); (try clear hb); (try clear hb2); (try clear hk); (try clear hi)))
   go_meet
   case rel => exact ⟨_, (true), tZB, H', ⟨by first | omega | exact Nat.le_refl _⟩, ⟨by (with_reducible repeat (first | apply Kd.R_alloc | apply Kd.R_drewN | apply Kd.R_drew)); exact Kd.R_mono HO321.out (fun _ hk => hk.2)⟩, ⟨by (with_reducible repeat (first | apply Kd.R_alloc | apply Kd.R_drewN | apply Kd.R_drew)); exact Kd.R_mono HO326.out (fun _ hk => hk.2)⟩, ⟨bZ⟩⟩
  subst c9
  have H1 : (if t323 = t318 then (laws_FnExactReadBank.j0 k a0 t317 t318 t319 t322 (t324 != t319)) else (laws_FnExactReadBank.j0 k a0 t317 t318 t319 t322 true)) = some r := by rw [if_pos rfl] at H; exact H
  clear H
  have H := H1
  clear H1
  by_cases c10 : t323 = t318
  rotate_left
  ·rw [if_neg c10] at H
   have c10b0 : (t323 == t318) = false := beq_eq_false_iff_ne.mpr c10
   have c10b1 : (t323 != t318) = true := bne_iff_ne.mpr c10
   (first | rw [c10b0] | (simp only [i64_w, i32_w]; rw [c10b0]) | skip)
   have H' := Aside0.mk H
   clear H
   obtain ⟨Ao14, co14, eo14⟩ := Kd.R_slice HO326.out
   subst eo14
   obtain ⟨Ao15, co15, eo15⟩ := Kd.R_slice HO321.out
   subst eo15
   go_wp2_with (first | ((with_reducible refine gate_callee (f := 49) rfl ?_); refine goesL_ (some 31) rfl rfl Try.func49 kZ rfl #[.slice Ao14 t322.length co14, .slice Ao15 t317.length co15] rfl tZA ?_; (with_reducible refine (laws_eqPaymentS.calls k _ _ t322 _ _ t317 true _ ?side1 ?side2 ?side3 ?side4 A8.out).mono ?_); (case side1 => repeat (first | exact (Kd.R_reads' HO326.out).2.2 | (with_reducible refine Kd.C_alloc ?_ _) | (with_reducible refine Kd.C_drewN ?_ _) | (with_reducible refine Kd.C_drew ?_))); (case side2 => exact (Kd.R_reads' HO326.out).2.1); (case side3 => repeat (first | exact (Kd.R_reads' HO321.out).2.2 | (with_reducible refine Kd.C_alloc ?_ _) | (with_reducible refine Kd.C_drewN ?_ _) | (with_reducible refine Kd.C_drew ?_))); (case side4 => exact (Kd.R_reads' HO321.out).2.1); rintro e w16 ⟨rfl, hb⟩; refine ⟨_, rfl, ?_⟩; replace HO321 := aZ (Kd.R_below (lZR HO321.out) hb); replace HO326 := aZ (Kd.R_below (lZR HO326.out) hb); replace HB := aZ (below_step (lZB HB.out) hb); (try clear hb); (try clear hb2); (try clear hk); (try clear hi)))
   go_meet
   case rel => exact ⟨_, (true), tZB, H', ⟨by first | omega | exact Nat.le_refl _⟩, ⟨by (with_reducible repeat (first | apply Kd.R_alloc | apply Kd.R_drewN | apply Kd.R_drew)); exact Kd.R_mono HO321.out (fun _ hk => hk.2)⟩, ⟨by (with_reducible repeat (first | apply Kd.R_alloc | apply Kd.R_drewN | apply Kd.R_drew)); exact Kd.R_mono HO326.out (fun _ hk => hk.2)⟩, ⟨bZ⟩⟩
  rw [if_pos c10] at H
  have c10b0 : (t323 == t318) = true := beq_iff_eq.mpr c10
  have c10b1 : (t323 != t318) = false := bne_eq_false_iff_eq.mpr c10
  clear c10
  (first | rw [c10b0] | (simp only [i64_w, i32_w]; rw [c10b0]) | skip)
  have H' := Aside0.mk H
  clear H
  obtain ⟨Ao11, co11, eo11⟩ := Kd.R_slice HO326.out
  subst eo11
  obtain ⟨Ao12, co12, eo12⟩ := Kd.R_slice HO321.out
  subst eo12
  go_wp2_with (first | ((with_reducible refine gate_callee (f := 49) rfl ?_); refine goesL_ (some 31) rfl rfl Try.func49 kZ rfl #[.slice Ao11 t322.length co11, .slice Ao12 t317.length co12] rfl tZA ?_; (with_reducible refine (laws_eqPaymentS.calls k _ _ t322 _ _ t317 true _ ?side1 ?side2 ?side3 ?side4 A8.out).mono ?_); (case side1 => repeat (first | exact (Kd.R_reads' HO326.out).2.2 | (with_reducible refine Kd.C_alloc ?_ _) | (with_reducible refine Kd.C_drewN ?_ _) | (with_reducible refine Kd.C_drew ?_))); (case side2 => exact (Kd.R_reads' HO326.out).2.1); (case side3 => repeat (first | exact (Kd.R_reads' HO321.out).2.2 | (with_reducible refine Kd.C_alloc ?_ _) | (with_reducible refine Kd.C_drewN ?_ _) | (with_reducible refine Kd.C_drew ?_))); (case side4 => exact (Kd.R_reads' HO321.out).2.1); rintro e w13 ⟨rfl, hb⟩; refine ⟨_, rfl, ?_⟩; replace HO321 := aZ (Kd.R_below (lZR HO321.out) hb); replace HO326 := aZ (Kd.R_below (lZR HO326.out) hb); replace HB := aZ (below_step (lZB HB.out) hb); (try clear hb); (try clear hb2); (try clear hk); (try clear hi)))
  go_meet
  case rel => exact ⟨_, ((t324 != t319)), tZB, H', ⟨by first | omega | exact Nat.le_refl _⟩, ⟨by (with_reducible repeat (first | apply Kd.R_alloc | apply Kd.R_drewN | apply Kd.R_drew)); exact Kd.R_mono HO321.out (fun _ hk => hk.2)⟩, ⟨by (with_reducible repeat (first | apply Kd.R_alloc | apply Kd.R_drewN | apply Kd.R_drew)); exact Kd.R_mono HO326.out (fun _ hk => hk.2)⟩, ⟨bZ⟩⟩
 case rest =>
  clear HC5
  try clear c1
  try clear c2
  try clear c2b0
  try clear c2b1
  try clear p2
  try clear c4
  try clear c9
  try clear c10
  try clear c10b0
  try clear c10b1
  obtain ⟨kq, x42_4, rfl, HA, HJ4, HO_3, HO_6, HB⟩ := hcut
  cases kq with
  | zero => exact absurd HA.out (by simp [laws_FnExactReadBank.j0])
  | succ kj4 =>
   have H := HA.out
   clear HA
   simp only [laws_FnExactReadBank.j0] at H
   by_cases c20 : x42_4 = true
   ·subst c20
    have H1 : (some false) = some r := by rw [if_pos rfl] at H; exact H
    clear H
    have H := H1
    clear H1
    obtain rfl := Option.some.inj H
    go_wp2
    go_ret
    exact ⟨tZC, bZ⟩
   replace c20 := Bool.eq_false_iff.mpr c20
   subst c20
   have H1 : ((laws_markPaymentS.f kj4 t322 1).bind fun bt328 => ((laws_heldPaymentS.f kj4 bt328.2 1).bind fun t330 => (if t330 < 0 then (some false) else (if t330 = bt328.1 then ((impl_ReadBank.f kj4 a0).bind fun bt331 => ((laws_eqPaymentS.f kj4 bt331.1 t317).bind fun t336 => (if t336 = true then (if bt331.2.1 = t318 then (laws_FnExactReadBank.j1 kj4 bt328.2 bt328.1 (bt331.2.2 != t319)) else (laws_FnExactReadBank.j1 kj4 bt328.2 bt328.1 true)) else (laws_FnExactReadBank.j1 kj4 bt328.2 bt328.1 true)))) else (some false))))) = some r := by rw [if_neg (show ¬ (false = true) by decide)] at H; exact H
   clear H
   have H := H1
   clear H1
   replace H := Option.bind_eq_some_iff.mp H
   obtain ⟨⟨t328, t329⟩, A210, H⟩ := H
   replace H : ((laws_heldPaymentS.f kj4 t329 1).bind fun t330 => (if t330 < 0 then (some false) else (if t330 = t328 then ((impl_ReadBank.f kj4 a0).bind fun bt331 => ((laws_eqPaymentS.f kj4 bt331.1 t317).bind fun t336 => (if t336 = true then (if bt331.2.1 = t318 then (laws_FnExactReadBank.j1 kj4 t329 t328 (bt331.2.2 != t319)) else (laws_FnExactReadBank.j1 kj4 t329 t328 true)) else (laws_FnExactReadBank.j1 kj4 t329 t328 true)))) else (some false)))) = some r := H
   have A21 := Aside0.mk A210
   clear A210
   replace H := Option.bind_eq_some_iff.mp H
   obtain ⟨t330, A220, H⟩ := H
   replace H : (if t330 < 0 then (some false) else (if t330 = t328 then ((impl_ReadBank.f kj4 a0).bind fun bt331 => ((laws_eqPaymentS.f kj4 bt331.1 t317).bind fun t336 => (if t336 = true then (if bt331.2.1 = t318 then (laws_FnExactReadBank.j1 kj4 t329 t328 (bt331.2.2 != t319)) else (laws_FnExactReadBank.j1 kj4 t329 t328 true)) else (laws_FnExactReadBank.j1 kj4 t329 t328 true)))) else (some false))) = some r := H
   have A22 := Aside0.mk A220
   clear A220
   by_cases c23 : t330 < 0
   ·rw [if_pos c23] at H
    have c23b0 := decide_eq_true c23
    clear c23
    obtain rfl := Option.some.inj H
    obtain ⟨Ao24, co24, eo24⟩ := Kd.R_slice HO_6.out
    subst eo24
    go_wp2_with (first | ((with_reducible refine gate_callee (f := 50) rfl ?_); refine goesL_ (some 45) rfl rfl Try.func50 kZ rfl #[.slice Ao24 t322.length co24, .int .i64 1] rfl tZA ?_; (with_reducible refine (laws_markPaymentS.calls kj4 (fun k_ => some k_ = (.slice Ao24 t322.length co24 : Value).ownBlock) (.slice Ao24 t322.length co24) t322 1 t328 t329 w _ ?side1 ?side2 A21.out).mono ?_); (case side1 => repeat (first | (with_reducible first | exact HB.out | apply below_alloc | apply pw_below_drewN | apply below_drew1) | exact HB.out)); (case side2 => exact Kd.R_tight rfl HO_6.out); rintro e w25 ⟨rfl, hy0, hb, hkp⟩; refine ⟨_, rfl, ?_⟩; replace HO_3 := aZ (Kd.R_mono (ok' := fun k_ => some k_ ≠ (.slice Ao24 t322.length co24 : Value).ownBlock) (Kd.R_keptB (HO_3.out) hkp (fun k_ hk_ hs_ => (hk_) hs_)) (fun k_ hk_ => hk_.1)); replace HO_6 := aZ (Kd.R_reok rfl hy0 (fun k_ e_ => HO_6.out.1 k_ e_)); replace HB := aZ (hb); (try clear hb); (try clear hkp); (try clear hy0)) | ((with_reducible refine gate_callee (f := 51) rfl ?_); refine goesL_ (some 48) rfl rfl Try.func51 kZ rfl #[.slice Ao24 t329.length co24, .int .i64 1] rfl (by (try simp only [List.map_toArray, List.map_cons, List.map_nil]); first | done | (rw [show t329.length = t322.length from (Kd.R_reads' HO_6.out).1.symm] <;> rfl) | rfl | (simp only [List.length_drop, List.length_take]; rfl)) ?_; (with_reducible refine (laws_heldPaymentS.calls kj4 _ _ t329 1 t330 _ ?side1 ?side2 A22.out).mono ?_); (case side1 => repeat (first | exact (Kd.R_reads' HO_6.out).2.2 | (with_reducible refine Kd.C_alloc ?_ _) | (with_reducible refine Kd.C_drewN ?_ _) | (with_reducible refine Kd.C_drew ?_))); (case side2 => rw [show t329.length = t322.length from (Kd.R_reads' HO_6.out).1.symm]; exact (Kd.R_reads' HO_6.out).2.1); rintro e w26 ⟨rfl, hb⟩; refine ⟨_, rfl, ?_⟩; replace HO_3 := aZ (Kd.R_below (lZR HO_3.out) hb); replace HO_6 := aZ (Kd.R_below (lZR HO_6.out) hb); replace HB := aZ (below_step (lZB HB.out) hb); (try clear hb); (try clear hb2); (try clear hk); (try clear hi)))
    go_ret
    exact ⟨tZC, bZ⟩
   rw [if_neg c23] at H
   have c23b0 := decide_eq_false c23
   clear c23
   by_cases c27 : t330 = t328
   rotate_left
   ·rw [if_neg c27] at H
    have c27b0 : (t330 == t328) = false := beq_eq_false_iff_ne.mpr c27
    have c27b1 : (t330 != t328) = true := bne_iff_ne.mpr c27
    obtain rfl := Option.some.inj H
    obtain ⟨Ao53, co53, eo53⟩ := Kd.R_slice HO_6.out
    subst eo53
    go_wp2_with (first | ((with_reducible refine gate_callee (f := 50) rfl ?_); refine goesL_ (some 45) rfl rfl Try.func50 kZ rfl #[.slice Ao53 t322.length co53, .int .i64 1] rfl tZA ?_; (with_reducible refine (laws_markPaymentS.calls kj4 (fun k_ => some k_ = (.slice Ao53 t322.length co53 : Value).ownBlock) (.slice Ao53 t322.length co53) t322 1 t328 t329 w _ ?side1 ?side2 A21.out).mono ?_); (case side1 => repeat (first | (with_reducible first | exact HB.out | apply below_alloc | apply pw_below_drewN | apply below_drew1) | exact HB.out)); (case side2 => exact Kd.R_tight rfl HO_6.out); rintro e w54 ⟨rfl, hy0, hb, hkp⟩; refine ⟨_, rfl, ?_⟩; replace HO_3 := aZ (Kd.R_mono (ok' := fun k_ => some k_ ≠ (.slice Ao53 t322.length co53 : Value).ownBlock) (Kd.R_keptB (HO_3.out) hkp (fun k_ hk_ hs_ => (hk_) hs_)) (fun k_ hk_ => hk_.1)); replace HO_6 := aZ (Kd.R_reok rfl hy0 (fun k_ e_ => HO_6.out.1 k_ e_)); replace HB := aZ (hb); (try clear hb); (try clear hkp); (try clear hy0)) | ((with_reducible refine gate_callee (f := 51) rfl ?_); refine goesL_ (some 48) rfl rfl Try.func51 kZ rfl #[.slice Ao53 t329.length co53, .int .i64 1] rfl (by (try simp only [List.map_toArray, List.map_cons, List.map_nil]); first | done | (rw [show t329.length = t322.length from (Kd.R_reads' HO_6.out).1.symm] <;> rfl) | rfl | (simp only [List.length_drop, List.length_take]; rfl)) ?_; (with_reducible refine (laws_heldPaymentS.calls kj4 _ _ t329 1 t330 _ ?side1 ?side2 A22.out).mono ?_); (case side1 => repeat (first | exact (Kd.R_reads' HO_6.out).2.2 | (with_reducible refine Kd.C_alloc ?_ _) | (with_reducible refine Kd.C_drewN ?_ _) | (with_reducible refine Kd.C_drew ?_))); (case side2 => rw [show t329.length = t322.length from (Kd.R_reads' HO_6.out).1.symm]; exact (Kd.R_reads' HO_6.out).2.1); rintro e w55 ⟨rfl, hb⟩; refine ⟨_, rfl, ?_⟩; replace HO_3 := aZ (Kd.R_below (lZR HO_3.out) hb); replace HO_6 := aZ (Kd.R_below (lZR HO_6.out) hb); replace HB := aZ (below_step (lZB HB.out) hb); (try clear hb); (try clear hb2); (try clear hk); (try clear hi)))
    go_ret
    exact ⟨tZC, bZ⟩
   rw [if_pos c27] at H
   have c27b0 : (t330 == t328) = true := beq_iff_eq.mpr c27
   have c27b1 : (t330 != t328) = false := bne_eq_false_iff_eq.mpr c27
   clear c27
   replace H := Option.bind_eq_some_iff.mp H
   obtain ⟨⟨t331, t332, t333⟩, A280, H⟩ := H
   replace H : ((laws_eqPaymentS.f kj4 t331 t317).bind fun t336 => (if t336 = true then (if t332 = t318 then (laws_FnExactReadBank.j1 kj4 t329 t328 (t333 != t319)) else (laws_FnExactReadBank.j1 kj4 t329 t328 true)) else (laws_FnExactReadBank.j1 kj4 t329 t328 true))) = some r := H
   have A28 := Aside0.mk A280
   clear A280
   have HC29 := Aside0.mk H
   clear H
   obtain ⟨Ao30, co30, eo30⟩ := Kd.R_slice HO_6.out
   subst eo30
   go_upto_region 16 with (first | ((with_reducible refine gate_callee (f := 50) rfl ?_); refine goesL_ (some 45) rfl rfl Try.func50 kZ rfl #[.slice Ao30 t322.length co30, .int .i64 1] rfl tZA ?_; (with_reducible refine (laws_markPaymentS.calls kj4 (fun k_ => some k_ = (.slice Ao30 t322.length co30 : Value).ownBlock) (.slice Ao30 t322.length co30) t322 1 t328 t329 w _ ?side1 ?side2 A21.out).mono ?_); (case side1 => repeat (first | (with_reducible first | exact HB.out | apply below_alloc | apply pw_below_drewN | apply below_drew1) | exact HB.out)); (case side2 => exact Kd.R_tight rfl HO_6.out); rintro e w31 ⟨rfl, hy0, hb, hkp⟩; refine ⟨_, rfl, ?_⟩; replace HO_3 := aZ (Kd.R_mono (ok' := fun k_ => some k_ ≠ (.slice Ao30 t322.length co30 : Value).ownBlock) (Kd.R_keptB (HO_3.out) hkp (fun k_ hk_ hs_ => (hk_) hs_)) (fun k_ hk_ => hk_.1)); replace HO_6 := aZ (Kd.R_reok rfl hy0 (fun k_ e_ => HO_6.out.1 k_ e_)); replace HB := aZ (hb); (try clear hb); (try clear hkp); (try clear hy0)) | ((with_reducible refine gate_callee (f := 51) rfl ?_); refine goesL_ (some 48) rfl rfl Try.func51 kZ rfl #[.slice Ao30 t329.length co30, .int .i64 1] rfl (by (try simp only [List.map_toArray, List.map_cons, List.map_nil]); first | done | (rw [show t329.length = t322.length from (Kd.R_reads' HO_6.out).1.symm] <;> rfl) | rfl | (simp only [List.length_drop, List.length_take]; rfl)) ?_; (with_reducible refine (laws_heldPaymentS.calls kj4 _ _ t329 1 t330 _ ?side1 ?side2 A22.out).mono ?_); (case side1 => repeat (first | exact (Kd.R_reads' HO_6.out).2.2 | (with_reducible refine Kd.C_alloc ?_ _) | (with_reducible refine Kd.C_drewN ?_ _) | (with_reducible refine Kd.C_drew ?_))); (case side2 => rw [show t329.length = t322.length from (Kd.R_reads' HO_6.out).1.symm]; exact (Kd.R_reads' HO_6.out).2.1); rintro e w32 ⟨rfl, hb⟩; refine ⟨_, rfl, ?_⟩; replace HO_3 := aZ (Kd.R_below (lZR HO_3.out) hb); replace HO_6 := aZ (Kd.R_below (lZR HO_6.out) hb); replace HB := aZ (below_step (lZB HB.out) hb); (try clear hb); (try clear hb2); (try clear hk); (try clear hi)) | ((with_reducible refine gate_callee (f := 48) rfl ?_); refine goesL_ (some 56) rfl rfl Try.func48 kZ rfl #[.string a0] rfl tZA ?_; (with_reducible refine (impl_ReadBank.calls kj4 a0 t331 t332 t333 _ A28.out).mono ?_); rintro e w33 ⟨v334, rfl, ho0, hb⟩; refine ⟨_, rfl, ?_⟩; have HO335 := aZ (Kd.R_lower (Kd.R_new' (Kd.R_new' ho0 (Kd.R_lt (lZR HO_3.out))) (Kd.R_lt (lZR HO_6.out))) (below_size (lZB HB.out))); replace HO_3 := aZ (Kd.R_elder' (lZR HO_3.out) (Kd.R_base ho0) hb); replace HO_6 := aZ (Kd.R_elder' (lZR HO_6.out) (Kd.R_base ho0) hb); replace HB := aZ (below_step (lZB HB.out) hb); (try clear hb); (try clear hb2); (try clear hk); (try clear hi); (try clear ho0)))
   (try simp only [Act.put, sZ1, sZ2, sZ3])
   go_cut [73] (fun v73 wc => ∃ (kq : Nat) (x73_28 : Bool), v73 = .bool x73_28 ∧ Aside0 (laws_FnExactReadBank.j1 kq t329 t328 x73_28 = some r) ∧ Aside0 (kq ≤ kj4) ∧ Aside0 (Kd.R k174 174 wc w.heap.size (fun _ => True) (.slice Ao30 t322.length co30) t329) ∧ Aside0 (Below w.heap.size w wc))
   case first =>
    have H := HC29.out
    clear HC29
    replace H := Option.bind_eq_some_iff.mp H
    obtain ⟨t336, A340, H⟩ := H
    replace H : (if t336 = true then (if t332 = t318 then (laws_FnExactReadBank.j1 kj4 t329 t328 (t333 != t319)) else (laws_FnExactReadBank.j1 kj4 t329 t328 true)) else (laws_FnExactReadBank.j1 kj4 t329 t328 true)) = some r := H
    have A34 := Aside0.mk A340
    clear A340
    by_cases c35 : t336 = true
    rotate_left
    ·replace c35 := Bool.eq_false_iff.mpr c35
     subst c35
     have H1 : (laws_FnExactReadBank.j1 kj4 t329 t328 true) = some r := by rw [if_neg (show ¬ (false = true) by decide)] at H; exact H
     clear H
     have H := H1
     clear H1
     have H' := Aside0.mk H
     clear H
     obtain ⟨Ao43, co43, eo43⟩ := Kd.R_slice HO335.out
     subst eo43
     obtain ⟨Ao44, co44, eo44⟩ := Kd.R_slice HO_3.out
     subst eo44
     go_wp2_with (first | ((with_reducible refine gate_callee (f := 49) rfl ?_); refine goesL_ (some 62) rfl rfl Try.func49 kZ rfl #[.slice Ao43 t331.length co43, .slice Ao44 t317.length co44] rfl tZA ?_; (with_reducible refine (laws_eqPaymentS.calls kj4 _ _ t331 _ _ t317 false _ ?side1 ?side2 ?side3 ?side4 A34.out).mono ?_); (case side1 => repeat (first | exact (Kd.R_reads' HO335.out).2.2 | (with_reducible refine Kd.C_alloc ?_ _) | (with_reducible refine Kd.C_drewN ?_ _) | (with_reducible refine Kd.C_drew ?_))); (case side2 => exact (Kd.R_reads' HO335.out).2.1); (case side3 => repeat (first | exact (Kd.R_reads' HO_3.out).2.2 | (with_reducible refine Kd.C_alloc ?_ _) | (with_reducible refine Kd.C_drewN ?_ _) | (with_reducible refine Kd.C_drew ?_))); (case side4 => exact (Kd.R_reads' HO_3.out).2.1); rintro e w45 ⟨rfl, hb⟩; refine ⟨_, rfl, ?_⟩; replace HO_3 := aZ (Kd.R_below (lZR HO_3.out) hb); replace HO_6 := aZ (Kd.R_below (lZR HO_6.out) hb); replace HO335 := aZ (Kd.R_below (lZR HO335.out) hb); replace HB := aZ (below_step (lZB HB.out) hb); (try clear hb); (try clear hb2); (try clear hk); (try clear hi)))
     go_meet
     case rel => exact ⟨_, (true), tZB, H', ⟨by have := HJ4.out; first | omega | exact Nat.le_refl _⟩, ⟨by (with_reducible repeat (first | apply Kd.R_alloc | apply Kd.R_drewN | apply Kd.R_drew)); exact Kd.R_mono HO_6.out (fun _ hk => trivial)⟩, ⟨bZ⟩⟩
    subst c35
    have H1 : (if t332 = t318 then (laws_FnExactReadBank.j1 kj4 t329 t328 (t333 != t319)) else (laws_FnExactReadBank.j1 kj4 t329 t328 true)) = some r := by rw [if_pos rfl] at H; exact H
    clear H
    have H := H1
    clear H1
    by_cases c36 : t332 = t318
    rotate_left
    ·rw [if_neg c36] at H
     have c36b0 : (t332 == t318) = false := beq_eq_false_iff_ne.mpr c36
     have c36b1 : (t332 != t318) = true := bne_iff_ne.mpr c36
     (first | rw [c36b0] | (simp only [i64_w, i32_w]; rw [c36b0]) | skip)
     have H' := Aside0.mk H
     clear H
     obtain ⟨Ao40, co40, eo40⟩ := Kd.R_slice HO335.out
     subst eo40
     obtain ⟨Ao41, co41, eo41⟩ := Kd.R_slice HO_3.out
     subst eo41
     go_wp2_with (first | ((with_reducible refine gate_callee (f := 49) rfl ?_); refine goesL_ (some 62) rfl rfl Try.func49 kZ rfl #[.slice Ao40 t331.length co40, .slice Ao41 t317.length co41] rfl tZA ?_; (with_reducible refine (laws_eqPaymentS.calls kj4 _ _ t331 _ _ t317 true _ ?side1 ?side2 ?side3 ?side4 A34.out).mono ?_); (case side1 => repeat (first | exact (Kd.R_reads' HO335.out).2.2 | (with_reducible refine Kd.C_alloc ?_ _) | (with_reducible refine Kd.C_drewN ?_ _) | (with_reducible refine Kd.C_drew ?_))); (case side2 => exact (Kd.R_reads' HO335.out).2.1); (case side3 => repeat (first | exact (Kd.R_reads' HO_3.out).2.2 | (with_reducible refine Kd.C_alloc ?_ _) | (with_reducible refine Kd.C_drewN ?_ _) | (with_reducible refine Kd.C_drew ?_))); (case side4 => exact (Kd.R_reads' HO_3.out).2.1); rintro e w42 ⟨rfl, hb⟩; refine ⟨_, rfl, ?_⟩; replace HO_3 := aZ (Kd.R_below (lZR HO_3.out) hb); replace HO_6 := aZ (Kd.R_below (lZR HO_6.out) hb); replace HO335 := aZ (Kd.R_below (lZR HO335.out) hb); replace HB := aZ (below_step (lZB HB.out) hb); (try clear hb); (try clear hb2); (try clear hk); (try clear hi)))
     go_meet
     case rel => exact ⟨_, (true), tZB, H', ⟨by have := HJ4.out; first | omega | exact Nat.le_refl _⟩, ⟨by (with_reducible repeat (first | apply Kd.R_alloc | apply Kd.R_drewN | apply Kd.R_drew)); exact Kd.R_mono HO_6.out (fun _ hk => trivial)⟩, ⟨bZ⟩⟩
    rw [if_pos c36] at H
    have c36b0 : (t332 == t318) = true := beq_iff_eq.mpr c36
    have c36b1 : (t332 != t318) = false := bne_eq_false_iff_eq.mpr c36
    clear c36
    (first | rw [c36b0] | (simp only [i64_w, i32_w]; rw [c36b0]) | skip)
    have H' := Aside0.mk H
    clear H
    obtain ⟨Ao37, co37, eo37⟩ := Kd.R_slice HO335.out
    subst eo37
    obtain ⟨Ao38, co38, eo38⟩ := Kd.R_slice HO_3.out
    subst eo38
    go_wp2_with (first | ((with_reducible refine gate_callee (f := 49) rfl ?_); refine goesL_ (some 62) rfl rfl Try.func49 kZ rfl #[.slice Ao37 t331.length co37, .slice Ao38 t317.length co38] rfl tZA ?_; (with_reducible refine (laws_eqPaymentS.calls kj4 _ _ t331 _ _ t317 true _ ?side1 ?side2 ?side3 ?side4 A34.out).mono ?_); (case side1 => repeat (first | exact (Kd.R_reads' HO335.out).2.2 | (with_reducible refine Kd.C_alloc ?_ _) | (with_reducible refine Kd.C_drewN ?_ _) | (with_reducible refine Kd.C_drew ?_))); (case side2 => exact (Kd.R_reads' HO335.out).2.1); (case side3 => repeat (first | exact (Kd.R_reads' HO_3.out).2.2 | (with_reducible refine Kd.C_alloc ?_ _) | (with_reducible refine Kd.C_drewN ?_ _) | (with_reducible refine Kd.C_drew ?_))); (case side4 => exact (Kd.R_reads' HO_3.out).2.1); rintro e w39 ⟨rfl, hb⟩; refine ⟨_, rfl, ?_⟩; replace HO_3 := aZ (Kd.R_below (lZR HO_3.out) hb); replace HO_6 := aZ (Kd.R_below (lZR HO_6.out) hb); replace HO335 := aZ (Kd.R_below (lZR HO335.out) hb); replace HB := aZ (below_step (lZB HB.out) hb); (try clear hb); (try clear hb2); (try clear hk); (try clear hi)))
    go_meet
    case rel => exact ⟨_, ((t333 != t319)), tZB, H', ⟨by have := HJ4.out; first | omega | exact Nat.le_refl _⟩, ⟨by (with_reducible repeat (first | apply Kd.R_alloc | apply Kd.R_drewN | apply Kd.R_drew)); exact Kd.R_mono HO_6.out (fun _ hk => trivial)⟩, ⟨bZ⟩⟩
   case rest =>
    clear HC29
    try clear c1
    try clear c2
    try clear c2b0
    try clear c2b1
    try clear p2
    try clear c3
    try clear c4
    try clear c5
    try clear c9
    try clear c10
    try clear c10b0
    try clear c10b1
    try clear c20
    try clear c23
    try clear c23b0
    try clear c27
    try clear c27b0
    try clear c27b1
    try clear c35
    try clear c36
    try clear c36b0
    try clear c36b1
    try clear p2
    obtain ⟨kq, x73_28, rfl, HA, HJ28, HO_6, HB⟩ := hcut
    have hl6_28 := (Kd.R_reads' HO_6.out).1
    rw [hl6_28] at HO_6
    (try simp only [hl6_28])
    cases kq with
    | zero => exact absurd HA.out (by simp [laws_FnExactReadBank.j1])
    | succ kj28 =>
     have H := HA.out
     clear HA
     simp only [laws_FnExactReadBank.j1] at H
     by_cases c46 : x73_28 = true
     ·subst c46
      have H1 : (some false) = some r := by rw [if_pos rfl] at H; exact H
      clear H
      have H := H1
      clear H1
      obtain rfl := Option.some.inj H
      go_wp2
      go_ret
      exact ⟨tZC, bZ⟩
     replace c46 := Bool.eq_false_iff.mpr c46
     subst c46
     have H1 : ((laws_heldPaymentS.f kj28 t329 1).bind fun t337 => (if t337 < 0 then (some false) else (if t337 = t328 then (some true) else (some false)))) = some r := by rw [if_neg (show ¬ (false = true) by decide)] at H; exact H
     clear H
     have H := H1
     clear H1
     replace H := Option.bind_eq_some_iff.mp H
     obtain ⟨t337, A470, H⟩ := H
     replace H : (if t337 < 0 then (some false) else (if t337 = t328 then (some true) else (some false))) = some r := H
     have A47 := Aside0.mk A470
     clear A470
     by_cases c48 : t337 < 0
     ·rw [if_pos c48] at H
      have c48b0 := decide_eq_true c48
      clear c48
      obtain rfl := Option.some.inj H
      go_wp2_with (first | ((with_reducible refine gate_callee (f := 51) rfl ?_); refine goesL_ (some 76) rfl rfl Try.func51 kZ rfl #[.slice Ao30 t329.length co30, .int .i64 1] rfl tZA ?_; (with_reducible refine (laws_heldPaymentS.calls kj28 _ _ t329 1 t337 _ ?side1 ?side2 A47.out).mono ?_); (case side1 => repeat (first | exact (Kd.R_reads' HO_6.out).2.2 | (with_reducible refine Kd.C_alloc ?_ _) | (with_reducible refine Kd.C_drewN ?_ _) | (with_reducible refine Kd.C_drew ?_))); (case side2 => exact (Kd.R_reads' HO_6.out).2.1); rintro e w49 ⟨rfl, hb⟩; refine ⟨_, rfl, ?_⟩; replace HO_6 := aZ (Kd.R_below (lZR HO_6.out) hb); replace HB := aZ (below_step (lZB HB.out) hb); (try clear hb); (try clear hb2); (try clear hk); (try clear hi)))
      go_ret
      exact ⟨tZC, bZ⟩
     rw [if_neg c48] at H
     have c48b0 := decide_eq_false c48
     clear c48
     by_cases c50 : t337 = t328
     rotate_left
     ·rw [if_neg c50] at H
      have c50b0 : (t337 == t328) = false := beq_eq_false_iff_ne.mpr c50
      have c50b1 : (t337 != t328) = true := bne_iff_ne.mpr c50
      obtain rfl := Option.some.inj H
      go_wp2_with (first | ((with_reducible refine gate_callee (f := 51) rfl ?_); refine goesL_ (some 76) rfl rfl Try.func51 kZ rfl #[.slice Ao30 t329.length co30, .int .i64 1] rfl tZA ?_; (with_reducible refine (laws_heldPaymentS.calls kj28 _ _ t329 1 t337 _ ?side1 ?side2 A47.out).mono ?_); (case side1 => repeat (first | exact (Kd.R_reads' HO_6.out).2.2 | (with_reducible refine Kd.C_alloc ?_ _) | (with_reducible refine Kd.C_drewN ?_ _) | (with_reducible refine Kd.C_drew ?_))); (case side2 => exact (Kd.R_reads' HO_6.out).2.1); rintro e w52 ⟨rfl, hb⟩; refine ⟨_, rfl, ?_⟩; replace HO_6 := aZ (Kd.R_below (lZR HO_6.out) hb); replace HB := aZ (below_step (lZB HB.out) hb); (try clear hb); (try clear hb2); (try clear hk); (try clear hi)))
      go_ret
      exact ⟨tZC, bZ⟩
     rw [if_pos c50] at H
     have c50b0 : (t337 == t328) = true := beq_iff_eq.mpr c50
     have c50b1 : (t337 != t328) = false := bne_eq_false_iff_eq.mpr c50
     clear c50
     obtain rfl := Option.some.inj H
     go_wp2_with (first | ((with_reducible refine gate_callee (f := 51) rfl ?_); refine goesL_ (some 76) rfl rfl Try.func51 kZ rfl #[.slice Ao30 t329.length co30, .int .i64 1] rfl tZA ?_; (with_reducible refine (laws_heldPaymentS.calls kj28 _ _ t329 1 t337 _ ?side1 ?side2 A47.out).mono ?_); (case side1 => repeat (first | exact (Kd.R_reads' HO_6.out).2.2 | (with_reducible refine Kd.C_alloc ?_ _) | (with_reducible refine Kd.C_drewN ?_ _) | (with_reducible refine Kd.C_drew ?_))); (case side2 => exact (Kd.R_reads' HO_6.out).2.1); rintro e w51 ⟨rfl, hb⟩; refine ⟨_, rfl, ?_⟩; replace HO_6 := aZ (Kd.R_below (lZR HO_6.out) hb); replace HB := aZ (below_step (lZB HB.out) hb); (try clear hb); (try clear hb2); (try clear hk); (try clear hi)))
     go_ret
     exact ⟨tZC, bZ⟩
def laws_FnExactReadBank.Pure : Prop := ∀ (a0 : ByteArray), a0.size ≤ 140737488351232 → ∃ k, laws_FnExactReadBank.f k a0 = some true
theorem laws_FnExactReadBank.walk (P : laws_FnExactReadBank.Pure) (a0 : ByteArray) (w : World) (w0 : a0.size ≤ 140737488351232) :
    Calls Try.prog 9 #[.string a0] w fun e w' => e = .returned (.bool true) ∧ Below w.heap.size w w' := by
 obtain ⟨k, h⟩ := P a0 w0
 refine (laws_FnExactReadBank.calls k a0 true w h).mono ?_
 rintro e w' ⟨rfl, hd⟩
 exact ⟨rfl, hd⟩
end Go.Proofs.Ytmpknbdbichdiaa.PFnExactReadBank
