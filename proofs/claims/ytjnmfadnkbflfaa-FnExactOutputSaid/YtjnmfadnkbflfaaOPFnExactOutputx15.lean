import Derived.Test.YtjnmfadnkbflfaaOPFnExactOutputx0
import Derived.Test.YtjnmfadnkbflfaaOPFnExactOutputx1
import Derived.Test.YtjnmfadnkbflfaaOPFnExactOutputx3
import Derived.Test.YtjnmfadnkbflfaaOPFnExactOutputx4
import Derived.Test.YtjnmfadnkbflfaaOPFnExactOutputx9
import Derived.Test.YtjnmfadnkbflfaaOPFnExactOutputx14
import Derived.Test.YtjnmfadnkbflfaaOSlimWords
namespace Go.Proofs.Ytjnmfadnkbflfaa.PFnExactOutput
open Go.Proofs.Ytjnmfadnkbflfaa.SlimWords
open Go.RowKit Go.Proofs.YtjnmfadnkbflfaaW.PrintWords Go.Proofs.YtjnmfadnkbflfaaW.PrintLast Go.Proofs.YtjnmfadnkbflfaaW.PrintMore Go.Proofs.Ytjnmfadnkbflfaa.MapWords Go.Proofs.Ytjnmfadnkbflfaa.IterWords Go.Proofs.Ytjnmfadnkbflfaa.MarkWords Go.Proofs.Ytjnmfadnkbflfaa.ArrWords
attribute [local go_sem] ptrOf_slice max2_int min2_int max_two min_two max_three min_three max_four min_four
set_option linter.unusedVariables false
set_option linter.unusedSimpArgs false
mutual
def laws_FnExactOutput.j0 : Nat → List (S126) → Int → Int → Int → List Int → Bool → List (S130) → List Int → Bool → Bool → Option (Bool)
  | 0, _, _, _, _, _, _, _, _, _, _ => none
  | k + 1, x0, x1, x2, x3, x10, x11, x12, x13, x14, x52 => if x52 = true then (some false) else ((laws_toItemS.f k x0).bind fun t367 => ((laws_eqItemS.f k x12 t367).bind fun t370 => (if t370 = true then ((laws_markItemS.f k x12 1).bind fun t371 => (if t371 < 0 then (laws_FnExactOutput.j1 k x0 x1 x2 x3 x10 x11 x13 true) else ((laws_eqIntS.f k x13 x10).bind fun t372 => (if t372 = true then (laws_FnExactOutput.j1 k x0 x1 x2 x3 x10 x11 x13 (x14 != x11)) else (laws_FnExactOutput.j1 k x0 x1 x2 x3 x10 x11 x13 true))))) else (some false))))
def laws_FnExactOutput.j1 : Nat → List (S126) → Int → Int → Int → List Int → Bool → List Int → Bool → Option (Bool)
  | 0, _, _, _, _, _, _, _, _ => none
  | k + 1, x0, x1, x2, x3, x10, x11, x13, x73 => if x73 = true then (some false) else ((laws_markIntS.f k x13 1).bind fun bt373 => ((laws_heldIntS.f k bt373.2 1).bind fun t375 => (if t375 < 0 then (some false) else (if t375 = bt373.1 then ((laws_toItemS.f k x0).bind fun t376 => ((impl_Output.f k t376 x1 x2 x3).bind fun bt379 => ((laws_eqIntS.f k bt379.1 x10).bind fun t383 => (if t383 = true then (laws_FnExactOutput.j2 k bt373.2 bt373.1 (bt379.2 != x11)) else (laws_FnExactOutput.j2 k bt373.2 bt373.1 true))))) else (some false)))))
def laws_FnExactOutput.j2 : Nat → List Int → Int → Bool → Option (Bool)
  | 0, _, _, _ => none
  | k + 1, x13, x16, x102 => if x102 = true then (some false) else ((laws_heldIntS.f k x13 1).bind fun t384 => (if t384 < 0 then (some false) else (if t384 = x16 then (some true) else (some false))))
end
def laws_FnExactOutput.f (k : Nat) (l0 : List (S126)) (a1 : Int) (a2 : Int) (a3 : Int) : Option (Bool) := (laws_szItemS.f k l0 1048576).bind fun t351 => (if t351 < 0 then (some true) else ((laws_toItemS.f k l0).bind fun t352 => ((spec_Output.f k t352 a1 a2 a3).bind fun bt355 => ((laws_toItemS.f k l0).bind fun t359 => ((impl_Output.f k t359 a1 a2 a3).bind fun bt362 => ((laws_eqIntS.f k bt362.1 bt355.1).bind fun t366 => (if t366 = true then (laws_FnExactOutput.j0 k l0 a1 a2 a3 bt355.1 bt355.2 t359 bt362.1 bt362.2 (bt362.2 != bt355.2)) else (laws_FnExactOutput.j0 k l0 a1 a2 a3 bt355.1 bt355.2 t359 bt362.1 bt362.2 true))))))))
theorem laws_FnExactOutput.mono_l : ∀ k, (∀ y0 y1 y2 y3 y4 y5 y6 y7 y8 y9, LeO (laws_FnExactOutput.j0 k y0 y1 y2 y3 y4 y5 y6 y7 y8 y9) (laws_FnExactOutput.j0 (k + 1) y0 y1 y2 y3 y4 y5 y6 y7 y8 y9)) ∧ (∀ y0 y1 y2 y3 y4 y5 y6 y7, LeO (laws_FnExactOutput.j1 k y0 y1 y2 y3 y4 y5 y6 y7) (laws_FnExactOutput.j1 (k + 1) y0 y1 y2 y3 y4 y5 y6 y7)) ∧ (∀ y0 y1 y2, LeO (laws_FnExactOutput.j2 k y0 y1 y2) (laws_FnExactOutput.j2 (k + 1) y0 y1 y2))
  | 0 => ⟨fun _ _ _ _ _ _ _ _ _ _ r h => by simp [laws_FnExactOutput.j0] at h, fun _ _ _ _ _ _ _ _ r h => by simp [laws_FnExactOutput.j1] at h, fun _ _ _ r h => by simp [laws_FnExactOutput.j2] at h⟩
  | k + 1 => by
    obtain ⟨ih0, ih1, ih2⟩ := laws_FnExactOutput.mono_l k
    refine ⟨?_, ?_, ?_⟩
    · intro y0 y1 y2 y3 y4 y5 y6 y7 y8 y9
      unfold laws_FnExactOutput.j0
      repeat' first
      | (with_reducible exact ih0 _ _ _ _ _ _ _ _ _ _)
      | (with_reducible exact ih1 _ _ _ _ _ _ _ _)
      | (with_reducible exact ih2 _ _ _)
      | (with_reducible exact impl_Output.mono _ _ _ _ _)
      | (with_reducible exact laws_eqIntS.mono _ _ _)
      | (with_reducible exact laws_eqItemS.mono _ _ _)
      | (with_reducible exact laws_heldIntS.mono _ _ _)
      | (with_reducible exact laws_markIntS.mono _ _ _)
      | (with_reducible exact laws_markItemS.mono _ _ _)
      | (with_reducible exact laws_szItemS.mono _ _ _)
      | (with_reducible exact laws_toItemS.mono _ _)
      | (with_reducible exact spec_Output.mono _ _ _ _ _)
      | (with_reducible exact LeO.refl _)
      | (with_reducible exact LeO.none _)
      | (with_reducible refine LeO.ite ?_ ?_)
      | (with_reducible refine LeO.bind ?_ (fun _ => ?_))
      | exact ih0 _ _ _ _ _ _ _ _ _ _
      | exact ih1 _ _ _ _ _ _ _ _
      | exact ih2 _ _ _
      | exact impl_Output.mono _ _ _ _ _
      | exact laws_eqIntS.mono _ _ _
      | exact laws_eqItemS.mono _ _ _
      | exact laws_heldIntS.mono _ _ _
      | exact laws_markIntS.mono _ _ _
      | exact laws_markItemS.mono _ _ _
      | exact laws_szItemS.mono _ _ _
      | exact laws_toItemS.mono _ _
      | exact spec_Output.mono _ _ _ _ _
      | exact LeO.none _
      | refine LeO.ite ?_ ?_
      | refine LeO.bind ?_ (fun _ => ?_)
    · intro y0 y1 y2 y3 y4 y5 y6 y7
      unfold laws_FnExactOutput.j1
      repeat' first
      | (with_reducible exact ih0 _ _ _ _ _ _ _ _ _ _)
      | (with_reducible exact ih1 _ _ _ _ _ _ _ _)
      | (with_reducible exact ih2 _ _ _)
      | (with_reducible exact impl_Output.mono _ _ _ _ _)
      | (with_reducible exact laws_eqIntS.mono _ _ _)
      | (with_reducible exact laws_eqItemS.mono _ _ _)
      | (with_reducible exact laws_heldIntS.mono _ _ _)
      | (with_reducible exact laws_markIntS.mono _ _ _)
      | (with_reducible exact laws_markItemS.mono _ _ _)
      | (with_reducible exact laws_szItemS.mono _ _ _)
      | (with_reducible exact laws_toItemS.mono _ _)
      | (with_reducible exact spec_Output.mono _ _ _ _ _)
      | (with_reducible exact LeO.refl _)
      | (with_reducible exact LeO.none _)
      | (with_reducible refine LeO.ite ?_ ?_)
      | (with_reducible refine LeO.bind ?_ (fun _ => ?_))
      | exact ih0 _ _ _ _ _ _ _ _ _ _
      | exact ih1 _ _ _ _ _ _ _ _
      | exact ih2 _ _ _
      | exact impl_Output.mono _ _ _ _ _
      | exact laws_eqIntS.mono _ _ _
      | exact laws_eqItemS.mono _ _ _
      | exact laws_heldIntS.mono _ _ _
      | exact laws_markIntS.mono _ _ _
      | exact laws_markItemS.mono _ _ _
      | exact laws_szItemS.mono _ _ _
      | exact laws_toItemS.mono _ _
      | exact spec_Output.mono _ _ _ _ _
      | exact LeO.none _
      | refine LeO.ite ?_ ?_
      | refine LeO.bind ?_ (fun _ => ?_)
    · intro y0 y1 y2
      unfold laws_FnExactOutput.j2
      repeat' first
      | (with_reducible exact ih0 _ _ _ _ _ _ _ _ _ _)
      | (with_reducible exact ih1 _ _ _ _ _ _ _ _)
      | (with_reducible exact ih2 _ _ _)
      | (with_reducible exact impl_Output.mono _ _ _ _ _)
      | (with_reducible exact laws_eqIntS.mono _ _ _)
      | (with_reducible exact laws_eqItemS.mono _ _ _)
      | (with_reducible exact laws_heldIntS.mono _ _ _)
      | (with_reducible exact laws_markIntS.mono _ _ _)
      | (with_reducible exact laws_markItemS.mono _ _ _)
      | (with_reducible exact laws_szItemS.mono _ _ _)
      | (with_reducible exact laws_toItemS.mono _ _)
      | (with_reducible exact spec_Output.mono _ _ _ _ _)
      | (with_reducible exact LeO.refl _)
      | (with_reducible exact LeO.none _)
      | (with_reducible refine LeO.ite ?_ ?_)
      | (with_reducible refine LeO.bind ?_ (fun _ => ?_))
      | exact ih0 _ _ _ _ _ _ _ _ _ _
      | exact ih1 _ _ _ _ _ _ _ _
      | exact ih2 _ _ _
      | exact impl_Output.mono _ _ _ _ _
      | exact laws_eqIntS.mono _ _ _
      | exact laws_eqItemS.mono _ _ _
      | exact laws_heldIntS.mono _ _ _
      | exact laws_markIntS.mono _ _ _
      | exact laws_markItemS.mono _ _ _
      | exact laws_szItemS.mono _ _ _
      | exact laws_toItemS.mono _ _
      | exact spec_Output.mono _ _ _ _ _
      | exact LeO.none _
      | refine LeO.ite ?_ ?_
      | refine LeO.bind ?_ (fun _ => ?_)
theorem laws_FnExactOutput.mono : ∀ a0 a1 a2 a3 k, LeO (laws_FnExactOutput.f k a0 a1 a2 a3) (laws_FnExactOutput.f (k + 1) a0 a1 a2 a3) := by
 intro a0 a1 a2 a3 k
 obtain ⟨ih0, ih1, ih2⟩ := laws_FnExactOutput.mono_l k
 unfold laws_FnExactOutput.f
 repeat' first
     | (with_reducible exact ih0 _ _ _ _ _ _ _ _ _ _)
     | (with_reducible exact ih1 _ _ _ _ _ _ _ _)
     | (with_reducible exact ih2 _ _ _)
     | (with_reducible exact impl_Output.mono _ _ _ _ _)
     | (with_reducible exact laws_eqIntS.mono _ _ _)
     | (with_reducible exact laws_eqItemS.mono _ _ _)
     | (with_reducible exact laws_heldIntS.mono _ _ _)
     | (with_reducible exact laws_markIntS.mono _ _ _)
     | (with_reducible exact laws_markItemS.mono _ _ _)
     | (with_reducible exact laws_szItemS.mono _ _ _)
     | (with_reducible exact laws_toItemS.mono _ _)
     | (with_reducible exact spec_Output.mono _ _ _ _ _)
     | (with_reducible exact LeO.refl _)
     | (with_reducible exact LeO.none _)
     | (with_reducible refine LeO.ite ?_ ?_)
     | (with_reducible refine LeO.bind ?_ (fun _ => ?_))
     | exact ih0 _ _ _ _ _ _ _ _ _ _
     | exact ih1 _ _ _ _ _ _ _ _
     | exact ih2 _ _ _
     | exact impl_Output.mono _ _ _ _ _
     | exact laws_eqIntS.mono _ _ _
     | exact laws_eqItemS.mono _ _ _
     | exact laws_heldIntS.mono _ _ _
     | exact laws_markIntS.mono _ _ _
     | exact laws_markItemS.mono _ _ _
     | exact laws_szItemS.mono _ _ _
     | exact laws_toItemS.mono _ _
     | exact spec_Output.mono _ _ _ _ _
     | exact LeO.none _
     | refine LeO.ite ?_ ?_
     | refine LeO.bind ?_ (fun _ => ?_)
set_option maxHeartbeats 8000000 in
set_option maxRecDepth 100000 in
theorem laws_FnExactOutput.calls (k : Nat) (A0 : Option Addr) (c0 : Nat) (l0 : List (S126)) (a1 : Int) (a2 : Int) (a3 : Int) (r : Bool) (w : World) (hr0 : Kd.C k126 w A0 l0.length l0) (hc0 : l0.length ≤ c0) (h : laws_FnExactOutput.f k l0 a1 a2 a3 = some r) :
    Calls Try.prog 8 #[.slice A0 l0.length c0, .int .i64 a1, .int .i64 a2, .int .i64 a3] w fun e w' => e = .returned (.bool r) ∧ Below w.heap.size w w' := by
 have HR0 := Aside0.mk hr0
 have HC0 := Aside0.mk hc0
 clear hr0 hc0
 have HB := aZ (Below.refl w.heap.size w)
 have H : ((laws_szItemS.f k l0 1048576).bind fun t351 => (if t351 < 0 then (some true) else ((laws_toItemS.f k l0).bind fun t352 => ((spec_Output.f k t352 a1 a2 a3).bind fun bt355 => ((laws_toItemS.f k l0).bind fun t359 => ((impl_Output.f k t359 a1 a2 a3).bind fun bt362 => ((laws_eqIntS.f k bt362.1 bt355.1).bind fun t366 => (if t366 = true then (laws_FnExactOutput.j0 k l0 a1 a2 a3 bt355.1 bt355.2 t359 bt362.1 bt362.2 (bt362.2 != bt355.2)) else (laws_FnExactOutput.j0 k l0 a1 a2 a3 bt355.1 bt355.2 t359 bt362.1 bt362.2 true))))))))) = some r := h
 clear h
 replace H := Option.bind_eq_some_iff.mp H
 obtain ⟨t351, A50, H⟩ := H
 replace H : (if t351 < 0 then (some true) else ((laws_toItemS.f k l0).bind fun t352 => ((spec_Output.f k t352 a1 a2 a3).bind fun bt355 => ((laws_toItemS.f k l0).bind fun t359 => ((impl_Output.f k t359 a1 a2 a3).bind fun bt362 => ((laws_eqIntS.f k bt362.1 bt355.1).bind fun t366 => (if t366 = true then (laws_FnExactOutput.j0 k l0 a1 a2 a3 bt355.1 bt355.2 t359 bt362.1 bt362.2 (bt362.2 != bt355.2)) else (laws_FnExactOutput.j0 k l0 a1 a2 a3 bt355.1 bt355.2 t359 bt362.1 bt362.2 true)))))))) = some r := H
 have A5 := Aside0.mk A50
 clear A50
 by_cases c6 : t351 < 0
 ·rw [if_pos c6] at H
  have c6b0 := decide_eq_true c6
  clear c6
  obtain rfl := Option.some.inj H
  go_enter Try.func8, Try.ntmps8
  go_wp2_with (first | ((with_reducible refine gate_callee (f := 27) rfl ?_); refine goesL_ (some 22) rfl rfl Try.func27 kZ rfl #[.slice A0 l0.length c0, .int .i64 1048576] rfl tZA ?_; (with_reducible refine (laws_szItemS.calls k _ _ l0 1048576 t351 _ ?side1 ?side2 A5.out).mono ?_); (case side1 => repeat (first | exact HR0.out | (with_reducible refine Kd.C_alloc ?_ _) | (with_reducible refine Kd.C_drewN ?_ _) | (with_reducible refine Kd.C_drew ?_))); (case side2 => exact HC0.out); rintro e w7 ⟨rfl, hb⟩; refine ⟨_, rfl, ?_⟩; replace HB := aZ (below_step (lZB HB.out) hb); (try clear hb); (try clear hb2); (try clear hk); (try clear hi)))
  go_ret
  exact ⟨tZC, bZ⟩
 rw [if_neg c6] at H
 have c6b0 := decide_eq_false c6
 clear c6
 replace H := Option.bind_eq_some_iff.mp H
 obtain ⟨t352, A80, H⟩ := H
 replace H : ((spec_Output.f k t352 a1 a2 a3).bind fun bt355 => ((laws_toItemS.f k l0).bind fun t359 => ((impl_Output.f k t359 a1 a2 a3).bind fun bt362 => ((laws_eqIntS.f k bt362.1 bt355.1).bind fun t366 => (if t366 = true then (laws_FnExactOutput.j0 k l0 a1 a2 a3 bt355.1 bt355.2 t359 bt362.1 bt362.2 (bt362.2 != bt355.2)) else (laws_FnExactOutput.j0 k l0 a1 a2 a3 bt355.1 bt355.2 t359 bt362.1 bt362.2 true)))))) = some r := H
 have A8 := Aside0.mk A80
 clear A80
 replace H := Option.bind_eq_some_iff.mp H
 obtain ⟨⟨t355, t356⟩, A90, H⟩ := H
 replace H : ((laws_toItemS.f k l0).bind fun t359 => ((impl_Output.f k t359 a1 a2 a3).bind fun bt362 => ((laws_eqIntS.f k bt362.1 t355).bind fun t366 => (if t366 = true then (laws_FnExactOutput.j0 k l0 a1 a2 a3 t355 t356 t359 bt362.1 bt362.2 (bt362.2 != t356)) else (laws_FnExactOutput.j0 k l0 a1 a2 a3 t355 t356 t359 bt362.1 bt362.2 true))))) = some r := H
 have A9 := Aside0.mk A90
 clear A90
 replace H := Option.bind_eq_some_iff.mp H
 obtain ⟨t359, A100, H⟩ := H
 replace H : ((impl_Output.f k t359 a1 a2 a3).bind fun bt362 => ((laws_eqIntS.f k bt362.1 t355).bind fun t366 => (if t366 = true then (laws_FnExactOutput.j0 k l0 a1 a2 a3 t355 t356 t359 bt362.1 bt362.2 (bt362.2 != t356)) else (laws_FnExactOutput.j0 k l0 a1 a2 a3 t355 t356 t359 bt362.1 bt362.2 true)))) = some r := H
 have A10 := Aside0.mk A100
 clear A100
 replace H := Option.bind_eq_some_iff.mp H
 obtain ⟨⟨t362, t363⟩, A110, H⟩ := H
 replace H : ((laws_eqIntS.f k t362 t355).bind fun t366 => (if t366 = true then (laws_FnExactOutput.j0 k l0 a1 a2 a3 t355 t356 t359 t362 t363 (t363 != t356)) else (laws_FnExactOutput.j0 k l0 a1 a2 a3 t355 t356 t359 t362 t363 true))) = some r := H
 have A11 := Aside0.mk A110
 clear A110
 have HC12 := Aside0.mk H
 clear H
 go_enter Try.func8, Try.ntmps8
 go_upto_region 8 with (first | ((with_reducible refine gate_callee (f := 27) rfl ?_); refine goesL_ (some 22) rfl rfl Try.func27 kZ rfl #[.slice A0 l0.length c0, .int .i64 1048576] rfl tZA ?_; (with_reducible refine (laws_szItemS.calls k _ _ l0 1048576 t351 _ ?side1 ?side2 A5.out).mono ?_); (case side1 => repeat (first | exact HR0.out | (with_reducible refine Kd.C_alloc ?_ _) | (with_reducible refine Kd.C_drewN ?_ _) | (with_reducible refine Kd.C_drew ?_))); (case side2 => exact HC0.out); rintro e w13 ⟨rfl, hb⟩; refine ⟨_, rfl, ?_⟩; replace HB := aZ (below_step (lZB HB.out) hb); (try clear hb); (try clear hb2); (try clear hk); (try clear hi)) | ((with_reducible refine gate_callee (f := 29) rfl ?_); refine goesL_ (some 27) rfl rfl Try.func29 kZ rfl #[.slice A0 l0.length c0] rfl tZA ?_; (with_reducible refine (laws_toItemS.calls k _ _ l0 t352 _ ?side1 ?side2 A8.out).mono ?_); (case side1 => repeat (first | exact (Kd.C_below HR0.out HB.out) | (with_reducible refine Kd.C_alloc ?_ _) | (with_reducible refine Kd.C_drewN ?_ _) | (with_reducible refine Kd.C_drew ?_))); (case side2 => exact HC0.out); rintro e w14 ⟨v353, rfl, ho0, hb⟩; refine ⟨_, rfl, ?_⟩; have HO354 := aZ (Kd.S_lower ho0 (below_size (lZB HB.out))); replace HB := aZ (below_step (lZB HB.out) hb); (try clear hb); (try clear hb2); (try clear hk); (try clear hi); (try clear ho0); obtain ⟨Ao15, co15, eo15⟩ := Kd.S_slice HO354.out; subst eo15) | ((with_reducible refine gate_callee (f := 45) rfl ?_); refine goesL_ (some 31) rfl rfl Try.func45 kZ rfl #[.slice Ao15 t352.length co15, .int .i64 a1, .int .i64 a2, .int .i64 a3] rfl tZA ?_; (with_reducible refine (spec_Output.calls k _ _ t352 a1 a2 a3 t355 t356 _ ?side1 ?side2 A9.out).mono ?_); (case side1 => repeat (first | exact (Kd.S_reads' HO354.out).2.2 | (with_reducible refine Kd.C_alloc ?_ _) | (with_reducible refine Kd.C_drewN ?_ _) | (with_reducible refine Kd.C_drew ?_))); (case side2 => exact (Kd.S_reads' HO354.out).2.1); rintro e w16 ⟨v357, rfl, ho0, hb⟩; refine ⟨_, rfl, ?_⟩; replace HO354 := aZ (Kd.S_below (lZS HO354.out) hb); have HO358 := aZ (Kd.R_lower ho0 (below_size (lZB HB.out))); replace HB := aZ (below_step (lZB HB.out) hb); (try clear hb); (try clear hb2); (try clear hk); (try clear hi); (try clear ho0)) | ((with_reducible refine gate_callee (f := 29) rfl ?_); refine goesL_ (some 35) rfl rfl Try.func29 kZ rfl #[.slice A0 l0.length c0] rfl tZA ?_; (with_reducible refine (laws_toItemS.calls k _ _ l0 t359 _ ?side1 ?side2 A10.out).mono ?_); (case side1 => repeat (first | exact (Kd.C_below HR0.out HB.out) | (with_reducible refine Kd.C_alloc ?_ _) | (with_reducible refine Kd.C_drewN ?_ _) | (with_reducible refine Kd.C_drew ?_))); (case side2 => exact HC0.out); rintro e w17 ⟨v360, rfl, ho0, hb⟩; refine ⟨_, rfl, ?_⟩; replace HO358 := aZ (Kd.R_below (lZR HO358.out) hb); have HO361 := aZ (Kd.S_lower (Kd.S_new' ho0 (Kd.S_lt (lZS HO354.out))) (below_size (lZB HB.out))); replace HO354 := aZ (Kd.S_elder' (lZS HO354.out) (Kd.S_base ho0) hb); replace HB := aZ (below_step (lZB HB.out) hb); (try clear hb); (try clear hb2); (try clear hk); (try clear hi); (try clear ho0); obtain ⟨Ao18, co18, eo18⟩ := Kd.S_slice HO361.out; subst eo18) | ((with_reducible refine gate_callee (f := 46) rfl ?_); refine goesL_ (some 41) rfl rfl Try.func46 kZ rfl #[.slice Ao18 t359.length co18, .int .i64 a1, .int .i64 a2, .int .i64 a3] rfl tZA ?_; (with_reducible refine (impl_Output.calls k _ _ t359 a1 a2 a3 t362 t363 _ ?side1 ?side2 A11.out).mono ?_); (case side1 => repeat (first | exact (Kd.S_reads' HO361.out).2.2 | (with_reducible refine Kd.C_alloc ?_ _) | (with_reducible refine Kd.C_drewN ?_ _) | (with_reducible refine Kd.C_drew ?_))); (case side2 => exact (Kd.S_reads' HO361.out).2.1); rintro e w19 ⟨v364, rfl, ho0, hb⟩; refine ⟨_, rfl, ?_⟩; replace HO354 := aZ (Kd.S_below (lZS HO354.out) hb); replace HO361 := aZ (Kd.S_below (lZS HO361.out) hb); have HO365 := aZ (Kd.R_lower (Kd.R_new' ho0 (Kd.R_lt (lZR HO358.out))) (below_size (lZB HB.out))); replace HO358 := aZ (Kd.R_elder' (lZR HO358.out) (Kd.R_base ho0) hb); replace HB := aZ (below_step (lZB HB.out) hb); (try clear hb); (try clear hb2); (try clear hk); (try clear hi); (try clear ho0)))
 (try simp only [Act.put, sZ1, sZ2, sZ3])
 go_cut [52] (fun v52 wc => ∃ (kq : Nat) (x52_11 : Bool), v52 = .bool x52_11 ∧ Aside0 (laws_FnExactOutput.j0 kq l0 a1 a2 a3 t355 t356 t359 t362 t363 x52_11 = some r) ∧ Aside0 (kq ≤ k) ∧ Aside0 (Kd.R (Kd.int .i64) 3 wc w.heap.size (fun k_ => some k_ ≠ (v364 : Value).ownBlock) v357 t355) ∧ Aside0 (Kd.S k130 130 wc w.heap.size (fun _ => True) (.slice Ao18 t359.length co18) t359) ∧ Aside0 (Kd.R (Kd.int .i64) 3 wc w.heap.size (fun k_ => some k_ ≠ (v357 : Value).ownBlock) v364 t362) ∧ Aside0 (Below w.heap.size w wc))
 case first =>
  have H := HC12.out
  clear HC12
  replace H := Option.bind_eq_some_iff.mp H
  obtain ⟨t366, A200, H⟩ := H
  replace H : (if t366 = true then (laws_FnExactOutput.j0 k l0 a1 a2 a3 t355 t356 t359 t362 t363 (t363 != t356)) else (laws_FnExactOutput.j0 k l0 a1 a2 a3 t355 t356 t359 t362 t363 true)) = some r := H
  have A20 := Aside0.mk A200
  clear A200
  by_cases c21 : t366 = true
  ·subst c21
   have H1 : (laws_FnExactOutput.j0 k l0 a1 a2 a3 t355 t356 t359 t362 t363 (t363 != t356)) = some r := by rw [if_pos rfl] at H; exact H
   clear H
   have H := H1
   clear H1
   have H' := Aside0.mk H
   clear H
   obtain ⟨Ao22, co22, eo22⟩ := Kd.R_slice HO365.out
   subst eo22
   obtain ⟨Ao23, co23, eo23⟩ := Kd.R_slice HO358.out
   subst eo23
   go_wp2_with (first | ((with_reducible refine gate_callee (f := 31) rfl ?_); refine goesL_ (some 46) rfl rfl Try.func31 kZ rfl #[.slice Ao22 t362.length co22, .slice Ao23 t355.length co23] rfl tZA ?_; (with_reducible refine (laws_eqIntS.calls k _ _ t362 _ _ t355 true _ ?side1 ?side2 ?side3 ?side4 A20.out).mono ?_); (case side1 => repeat (first | exact (Kd.R_reads' HO365.out).2.2 | (with_reducible refine Kd.C_alloc ?_ _) | (with_reducible refine Kd.C_drewN ?_ _) | (with_reducible refine Kd.C_drew ?_))); (case side2 => exact (Kd.R_reads' HO365.out).2.1); (case side3 => repeat (first | exact (Kd.R_reads' HO358.out).2.2 | (with_reducible refine Kd.C_alloc ?_ _) | (with_reducible refine Kd.C_drewN ?_ _) | (with_reducible refine Kd.C_drew ?_))); (case side4 => exact (Kd.R_reads' HO358.out).2.1); rintro e w' ⟨rfl, ⟨nd, rfl⟩⟩; refine ⟨_, rfl, ?_⟩))
   go_meet
   case rel => exact ⟨_, ((t363 != t356)), tZB, H', ⟨by first | omega | exact Nat.le_refl _⟩, ⟨by (with_reducible repeat (first | apply Kd.R_alloc | apply Kd.R_drewN | apply Kd.R_drew)); exact Kd.R_mono HO358.out (fun _ hk => hk.2)⟩, ⟨by (with_reducible repeat (first | apply Kd.S_alloc | apply Kd.S_drewN | apply Kd.S_drew)); exact Kd.S_mono HO361.out (fun _ hk => trivial)⟩, ⟨by (with_reducible repeat (first | apply Kd.R_alloc | apply Kd.R_drewN | apply Kd.R_drew)); exact Kd.R_mono HO365.out (fun _ hk => hk.2)⟩, ⟨bZ⟩⟩
  replace c21 := Bool.eq_false_iff.mpr c21
  subst c21
  have H1 : (laws_FnExactOutput.j0 k l0 a1 a2 a3 t355 t356 t359 t362 t363 true) = some r := by rw [if_neg (show ¬ (false = true) by decide)] at H; exact H
  clear H
  have H := H1
  clear H1
  have H' := Aside0.mk H
  clear H
  obtain ⟨Ao24, co24, eo24⟩ := Kd.R_slice HO365.out
  subst eo24
  obtain ⟨Ao25, co25, eo25⟩ := Kd.R_slice HO358.out
  subst eo25
  go_wp2_with (first | ((with_reducible refine gate_callee (f := 31) rfl ?_); refine goesL_ (some 46) rfl rfl Try.func31 kZ rfl #[.slice Ao24 t362.length co24, .slice Ao25 t355.length co25] rfl tZA ?_; (with_reducible refine (laws_eqIntS.calls k _ _ t362 _ _ t355 false _ ?side1 ?side2 ?side3 ?side4 A20.out).mono ?_); (case side1 => repeat (first | exact (Kd.R_reads' HO365.out).2.2 | (with_reducible refine Kd.C_alloc ?_ _) | (with_reducible refine Kd.C_drewN ?_ _) | (with_reducible refine Kd.C_drew ?_))); (case side2 => exact (Kd.R_reads' HO365.out).2.1); (case side3 => repeat (first | exact (Kd.R_reads' HO358.out).2.2 | (with_reducible refine Kd.C_alloc ?_ _) | (with_reducible refine Kd.C_drewN ?_ _) | (with_reducible refine Kd.C_drew ?_))); (case side4 => exact (Kd.R_reads' HO358.out).2.1); rintro e w' ⟨rfl, ⟨nd, rfl⟩⟩; refine ⟨_, rfl, ?_⟩))
  go_meet
  case rel => exact ⟨_, (true), tZB, H', ⟨by first | omega | exact Nat.le_refl _⟩, ⟨by (with_reducible repeat (first | apply Kd.R_alloc | apply Kd.R_drewN | apply Kd.R_drew)); exact Kd.R_mono HO358.out (fun _ hk => hk.2)⟩, ⟨by (with_reducible repeat (first | apply Kd.S_alloc | apply Kd.S_drewN | apply Kd.S_drew)); exact Kd.S_mono HO361.out (fun _ hk => trivial)⟩, ⟨by (with_reducible repeat (first | apply Kd.R_alloc | apply Kd.R_drewN | apply Kd.R_drew)); exact Kd.R_mono HO365.out (fun _ hk => hk.2)⟩, ⟨bZ⟩⟩
 case rest =>
  clear HC12
  try clear c2
  try clear p2
  try clear c3
  try clear c4
  try clear c6
  try clear c6b0
  try clear c8
  try clear c21
  obtain ⟨kq, x52_11, rfl, HA, HJ11, HO_10, HO_12, HO_13, HB⟩ := hcut
  cases kq with
  | zero => exact absurd HA.out (by simp [laws_FnExactOutput.j0])
  | succ kj11 =>
   have H := HA.out
   clear HA
   simp only [laws_FnExactOutput.j0] at H
   by_cases c26 : x52_11 = true
   ·subst c26
    have H1 : (some false) = some r := by rw [if_pos rfl] at H; exact H
    clear H
    have H := H1
    clear H1
    obtain rfl := Option.some.inj H
    go_wp2
    go_ret
    exact ⟨tZC, bZ⟩
   replace c26 := Bool.eq_false_iff.mpr c26
   subst c26
   have H1 : ((laws_toItemS.f kj11 l0).bind fun t367 => ((laws_eqItemS.f kj11 t359 t367).bind fun t370 => (if t370 = true then ((laws_markItemS.f kj11 t359 1).bind fun t371 => (if t371 < 0 then (laws_FnExactOutput.j1 kj11 l0 a1 a2 a3 t355 t356 t362 true) else ((laws_eqIntS.f kj11 t362 t355).bind fun t372 => (if t372 = true then (laws_FnExactOutput.j1 kj11 l0 a1 a2 a3 t355 t356 t362 (t363 != t356)) else (laws_FnExactOutput.j1 kj11 l0 a1 a2 a3 t355 t356 t362 true))))) else (some false)))) = some r := by rw [if_neg (show ¬ (false = true) by decide)] at H; exact H
   clear H
   have H := H1
   clear H1
   replace H := Option.bind_eq_some_iff.mp H
   obtain ⟨t367, A270, H⟩ := H
   replace H : ((laws_eqItemS.f kj11 t359 t367).bind fun t370 => (if t370 = true then ((laws_markItemS.f kj11 t359 1).bind fun t371 => (if t371 < 0 then (laws_FnExactOutput.j1 kj11 l0 a1 a2 a3 t355 t356 t362 true) else ((laws_eqIntS.f kj11 t362 t355).bind fun t372 => (if t372 = true then (laws_FnExactOutput.j1 kj11 l0 a1 a2 a3 t355 t356 t362 (t363 != t356)) else (laws_FnExactOutput.j1 kj11 l0 a1 a2 a3 t355 t356 t362 true))))) else (some false))) = some r := H
   have A27 := Aside0.mk A270
   clear A270
   replace H := Option.bind_eq_some_iff.mp H
   obtain ⟨t370, A280, H⟩ := H
   replace H : (if t370 = true then ((laws_markItemS.f kj11 t359 1).bind fun t371 => (if t371 < 0 then (laws_FnExactOutput.j1 kj11 l0 a1 a2 a3 t355 t356 t362 true) else ((laws_eqIntS.f kj11 t362 t355).bind fun t372 => (if t372 = true then (laws_FnExactOutput.j1 kj11 l0 a1 a2 a3 t355 t356 t362 (t363 != t356)) else (laws_FnExactOutput.j1 kj11 l0 a1 a2 a3 t355 t356 t362 true))))) else (some false)) = some r := H
   have A28 := Aside0.mk A280
   clear A280
   by_cases c29 : t370 = true
   rotate_left
   ·replace c29 := Bool.eq_false_iff.mpr c29
    subst c29
    have H1 : (some false) = some r := by rw [if_neg (show ¬ (false = true) by decide)] at H; exact H
    clear H
    have H := H1
    clear H1
    obtain rfl := Option.some.inj H
    go_wp2_with (first | ((with_reducible refine gate_callee (f := 29) rfl ?_); refine goesL_ (some 55) rfl rfl Try.func29 kZ rfl #[.slice A0 l0.length c0] rfl tZA ?_; (with_reducible refine (laws_toItemS.calls kj11 _ _ l0 t367 _ ?side1 ?side2 A27.out).mono ?_); (case side1 => repeat (first | exact (Kd.C_below HR0.out HB.out) | (with_reducible refine Kd.C_alloc ?_ _) | (with_reducible refine Kd.C_drewN ?_ _) | (with_reducible refine Kd.C_drew ?_))); (case side2 => exact HC0.out); rintro e w70 ⟨v368, rfl, ho0, hb⟩; refine ⟨_, rfl, ?_⟩; replace HO_10 := aZ (Kd.R_below (lZR HO_10.out) hb); replace HO_13 := aZ (Kd.R_below (lZR HO_13.out) hb); have HO369 := aZ (Kd.S_lower (Kd.S_new' ho0 (Kd.S_lt (lZS HO_12.out))) (below_size (lZB HB.out))); replace HO_12 := aZ (Kd.S_elder' (lZS HO_12.out) (Kd.S_base ho0) hb); replace HB := aZ (below_step (lZB HB.out) hb); (try clear hb); (try clear hb2); (try clear hk); (try clear hi); (try clear ho0); obtain ⟨Ao71, co71, eo71⟩ := Kd.S_slice HO369.out; subst eo71) | ((with_reducible refine gate_callee (f := 32) rfl ?_); refine goesL_ (some 56) rfl rfl Try.func32 kZ rfl #[.slice Ao18 t359.length co18, .slice Ao71 t367.length co71] rfl tZA ?_; (with_reducible refine (laws_eqItemS.calls kj11 _ _ t359 _ _ t367 false _ ?side1 ?side2 ?side3 ?side4 A28.out).mono ?_); (case side1 => repeat (first | exact (Kd.S_reads' HO_12.out).2.2 | (with_reducible refine Kd.C_alloc ?_ _) | (with_reducible refine Kd.C_drewN ?_ _) | (with_reducible refine Kd.C_drew ?_))); (case side2 => exact (Kd.S_reads' HO_12.out).2.1); (case side3 => repeat (first | exact (Kd.S_reads' HO369.out).2.2 | (with_reducible refine Kd.C_alloc ?_ _) | (with_reducible refine Kd.C_drewN ?_ _) | (with_reducible refine Kd.C_drew ?_))); (case side4 => exact (Kd.S_reads' HO369.out).2.1); rintro e w72 ⟨rfl, hb⟩; refine ⟨_, rfl, ?_⟩; replace HO_10 := aZ (Kd.R_below (lZR HO_10.out) hb); replace HO_12 := aZ (Kd.S_below (lZS HO_12.out) hb); replace HO_13 := aZ (Kd.R_below (lZR HO_13.out) hb); replace HO369 := aZ (Kd.S_below (lZS HO369.out) hb); replace HB := aZ (below_step (lZB HB.out) hb); (try clear hb); (try clear hb2); (try clear hk); (try clear hi)))
    go_ret
    exact ⟨tZC, bZ⟩
   subst c29
   have H1 : ((laws_markItemS.f kj11 t359 1).bind fun t371 => (if t371 < 0 then (laws_FnExactOutput.j1 kj11 l0 a1 a2 a3 t355 t356 t362 true) else ((laws_eqIntS.f kj11 t362 t355).bind fun t372 => (if t372 = true then (laws_FnExactOutput.j1 kj11 l0 a1 a2 a3 t355 t356 t362 (t363 != t356)) else (laws_FnExactOutput.j1 kj11 l0 a1 a2 a3 t355 t356 t362 true))))) = some r := by rw [if_pos rfl] at H; exact H
   clear H
   have H := H1
   clear H1
   replace H := Option.bind_eq_some_iff.mp H
   obtain ⟨t371, A300, H⟩ := H
   replace H : (if t371 < 0 then (laws_FnExactOutput.j1 kj11 l0 a1 a2 a3 t355 t356 t362 true) else ((laws_eqIntS.f kj11 t362 t355).bind fun t372 => (if t372 = true then (laws_FnExactOutput.j1 kj11 l0 a1 a2 a3 t355 t356 t362 (t363 != t356)) else (laws_FnExactOutput.j1 kj11 l0 a1 a2 a3 t355 t356 t362 true)))) = some r := H
   have A30 := Aside0.mk A300
   clear A300
   have HC31 := Aside0.mk H
   clear H
   go_upto_region 14 with (first | ((with_reducible refine gate_callee (f := 29) rfl ?_); refine goesL_ (some 55) rfl rfl Try.func29 kZ rfl #[.slice A0 l0.length c0] rfl tZA ?_; (with_reducible refine (laws_toItemS.calls kj11 _ _ l0 t367 _ ?side1 ?side2 A27.out).mono ?_); (case side1 => repeat (first | exact (Kd.C_below HR0.out HB.out) | (with_reducible refine Kd.C_alloc ?_ _) | (with_reducible refine Kd.C_drewN ?_ _) | (with_reducible refine Kd.C_drew ?_))); (case side2 => exact HC0.out); rintro e w32 ⟨v368, rfl, ho0, hb⟩; refine ⟨_, rfl, ?_⟩; replace HO_10 := aZ (Kd.R_below (lZR HO_10.out) hb); replace HO_13 := aZ (Kd.R_below (lZR HO_13.out) hb); have HO369 := aZ (Kd.S_lower (Kd.S_new' ho0 (Kd.S_lt (lZS HO_12.out))) (below_size (lZB HB.out))); replace HO_12 := aZ (Kd.S_elder' (lZS HO_12.out) (Kd.S_base ho0) hb); replace HB := aZ (below_step (lZB HB.out) hb); (try clear hb); (try clear hb2); (try clear hk); (try clear hi); (try clear ho0); obtain ⟨Ao33, co33, eo33⟩ := Kd.S_slice HO369.out; subst eo33) | ((with_reducible refine gate_callee (f := 32) rfl ?_); refine goesL_ (some 56) rfl rfl Try.func32 kZ rfl #[.slice Ao18 t359.length co18, .slice Ao33 t367.length co33] rfl tZA ?_; (with_reducible refine (laws_eqItemS.calls kj11 _ _ t359 _ _ t367 true _ ?side1 ?side2 ?side3 ?side4 A28.out).mono ?_); (case side1 => repeat (first | exact (Kd.S_reads' HO_12.out).2.2 | (with_reducible refine Kd.C_alloc ?_ _) | (with_reducible refine Kd.C_drewN ?_ _) | (with_reducible refine Kd.C_drew ?_))); (case side2 => exact (Kd.S_reads' HO_12.out).2.1); (case side3 => repeat (first | exact (Kd.S_reads' HO369.out).2.2 | (with_reducible refine Kd.C_alloc ?_ _) | (with_reducible refine Kd.C_drewN ?_ _) | (with_reducible refine Kd.C_drew ?_))); (case side4 => exact (Kd.S_reads' HO369.out).2.1); rintro e w34 ⟨rfl, hb⟩; refine ⟨_, rfl, ?_⟩; replace HO_10 := aZ (Kd.R_below (lZR HO_10.out) hb); replace HO_12 := aZ (Kd.S_below (lZS HO_12.out) hb); replace HO_13 := aZ (Kd.R_below (lZR HO_13.out) hb); replace HO369 := aZ (Kd.S_below (lZS HO369.out) hb); replace HB := aZ (below_step (lZB HB.out) hb); (try clear hb); (try clear hb2); (try clear hk); (try clear hi)) | ((with_reducible refine gate_callee (f := 33) rfl ?_); refine goesL_ (some 60) rfl rfl Try.func33 kZ rfl #[.slice Ao18 t359.length co18, .int .i64 1] rfl (by (try simp only [List.map_toArray, List.map_cons, List.map_nil]); first | done | rfl) ?_; (refine (laws_markItemS.calls kj11 _ (.slice Ao18 t359.length co18) t359 1 t371 w.heap.size w _ (lZB HB.out) (fun _ hk_ => hk_.2.1) (Kd.R_bound ((Kd.S_R (lZS HO_12.out)))) A30.out).mono ?_); rintro e w35 ⟨rfl, hb, hs_⟩; refine ⟨_, rfl, ?_⟩; replace HO_10 := aZ (Kd.R_markK (lZR HO_10.out) hs_.kept (fun _ hk_ => hk_.2.2.2) (by decide)); replace HO_13 := aZ (Kd.R_markK (lZR HO_13.out) hs_.kept (fun _ hk_ => hk_.2.2.2) (by decide)); replace HB := aZ (hb); clear HO369 HO_12; clear hb hs_))
   (try simp only [Act.put, sZ1, sZ2, sZ3])
   go_cut [73] (fun v73 wc => ∃ (kq : Nat) (x73_30 : Bool), v73 = .bool x73_30 ∧ Aside0 (laws_FnExactOutput.j1 kq l0 a1 a2 a3 t355 t356 t362 x73_30 = some r) ∧ Aside0 (kq ≤ kj11) ∧ Aside0 (Kd.R (Kd.int .i64) 3 wc w.heap.size (fun k_ => some k_ ≠ (v364 : Value).ownBlock) v357 t355) ∧ Aside0 (Kd.R (Kd.int .i64) 3 wc w.heap.size (fun k_ => some k_ ≠ (v357 : Value).ownBlock) v364 t362) ∧ Aside0 (Below w.heap.size w wc))
   case first =>
    have H := HC31.out
    clear HC31
    by_cases c36 : t371 < 0
    ·rw [if_pos c36] at H
     have c36b0 := decide_eq_true c36
     clear c36
     (first | rw [c36b0] | (simp only [i64_w, i32_w]; rw [c36b0]) | skip)
     have H' := Aside0.mk H
     clear H
     go_wp2
     go_meet
     case rel => exact ⟨_, (true), tZB, H', ⟨by have := HJ11.out; first | omega | exact Nat.le_refl _⟩, ⟨lZR HO_10.out⟩, ⟨lZR HO_13.out⟩, ⟨bZ⟩⟩
    rw [if_neg c36] at H
    have c36b0 := decide_eq_false c36
    clear c36
    (first | rw [c36b0] | (simp only [i64_w, i32_w]; rw [c36b0]) | skip)
    replace H := Option.bind_eq_some_iff.mp H
    obtain ⟨t372, A370, H⟩ := H
    replace H : (if t372 = true then (laws_FnExactOutput.j1 kj11 l0 a1 a2 a3 t355 t356 t362 (t363 != t356)) else (laws_FnExactOutput.j1 kj11 l0 a1 a2 a3 t355 t356 t362 true)) = some r := H
    have A37 := Aside0.mk A370
    clear A370
    by_cases c38 : t372 = true
    ·subst c38
     have H1 : (laws_FnExactOutput.j1 kj11 l0 a1 a2 a3 t355 t356 t362 (t363 != t356)) = some r := by rw [if_pos rfl] at H; exact H
     clear H
     have H := H1
     clear H1
     have H' := Aside0.mk H
     clear H
     obtain ⟨Ao39, co39, eo39⟩ := Kd.R_slice HO_13.out
     subst eo39
     obtain ⟨Ao40, co40, eo40⟩ := Kd.R_slice HO_10.out
     subst eo40
     go_wp2_with (first | (go_at_call 31; (with_reducible refine (laws_eqIntS.calls kj11 _ _ t362 _ _ t355 true _ ?side1 ?side2 ?side3 ?side4 A37.out).mono ?_); (case side1 => repeat (first | exact (Kd.R_reads' HO_13.out).2.2 | (with_reducible refine Kd.C_alloc ?_ _) | (with_reducible refine Kd.C_drewN ?_ _) | (with_reducible refine Kd.C_drew ?_))); (case side2 => exact (Kd.R_reads' HO_13.out).2.1); (case side3 => repeat (first | exact (Kd.R_reads' HO_10.out).2.2 | (with_reducible refine Kd.C_alloc ?_ _) | (with_reducible refine Kd.C_drewN ?_ _) | (with_reducible refine Kd.C_drew ?_))); (case side4 => exact (Kd.R_reads' HO_10.out).2.1); rintro e w' ⟨rfl, ⟨nd, rfl⟩⟩))
     go_meet
     case rel => exact ⟨_, ((t363 != t356)), tZB, H', ⟨by have := HJ11.out; first | omega | exact Nat.le_refl _⟩, ⟨lZR HO_10.out⟩, ⟨lZR HO_13.out⟩, ⟨bZ⟩⟩
    replace c38 := Bool.eq_false_iff.mpr c38
    subst c38
    have H1 : (laws_FnExactOutput.j1 kj11 l0 a1 a2 a3 t355 t356 t362 true) = some r := by rw [if_neg (show ¬ (false = true) by decide)] at H; exact H
    clear H
    have H := H1
    clear H1
    have H' := Aside0.mk H
    clear H
    obtain ⟨Ao41, co41, eo41⟩ := Kd.R_slice HO_13.out
    subst eo41
    obtain ⟨Ao42, co42, eo42⟩ := Kd.R_slice HO_10.out
    subst eo42
    go_wp2_with (first | (go_at_call 31; (with_reducible refine (laws_eqIntS.calls kj11 _ _ t362 _ _ t355 false _ ?side1 ?side2 ?side3 ?side4 A37.out).mono ?_); (case side1 => repeat (first | exact (Kd.R_reads' HO_13.out).2.2 | (with_reducible refine Kd.C_alloc ?_ _) | (with_reducible refine Kd.C_drewN ?_ _) | (with_reducible refine Kd.C_drew ?_))); (case side2 => exact (Kd.R_reads' HO_13.out).2.1); (case side3 => repeat (first | exact (Kd.R_reads' HO_10.out).2.2 | (with_reducible refine Kd.C_alloc ?_ _) | (with_reducible refine Kd.C_drewN ?_ _) | (with_reducible refine Kd.C_drew ?_))); (case side4 => exact (Kd.R_reads' HO_10.out).2.1); rintro e w' ⟨rfl, ⟨nd, rfl⟩⟩))
    go_meet
    case rel => exact ⟨_, (true), tZB, H', ⟨by have := HJ11.out; first | omega | exact Nat.le_refl _⟩, ⟨lZR HO_10.out⟩, ⟨lZR HO_13.out⟩, ⟨bZ⟩⟩
   case rest =>
    clear HC31
    try clear c2
    try clear p2
    try clear c3
    try clear c4
    try clear c6
    try clear c6b0
    try clear c8
    try clear c21
    try clear c26
    try clear c27
    try clear c29
    try clear c31
    try clear c32
    try clear c33
    try clear c36
    try clear c36b0
    try clear c38
    try clear p2
    obtain ⟨kq, x73_30, rfl, HA, HJ30, HO_10, HO_13, HB⟩ := hcut
    cases kq with
    | zero => exact absurd HA.out (by simp [laws_FnExactOutput.j1])
    | succ kj30 =>
     have H := HA.out
     clear HA
     simp only [laws_FnExactOutput.j1] at H
     by_cases c43 : x73_30 = true
     ·subst c43
      have H1 : (some false) = some r := by rw [if_pos rfl] at H; exact H
      clear H
      have H := H1
      clear H1
      obtain rfl := Option.some.inj H
      go_wp2
      go_ret
      exact ⟨tZC, bZ⟩
     replace c43 := Bool.eq_false_iff.mpr c43
     subst c43
     have H1 : ((laws_markIntS.f kj30 t362 1).bind fun bt373 => ((laws_heldIntS.f kj30 bt373.2 1).bind fun t375 => (if t375 < 0 then (some false) else (if t375 = bt373.1 then ((laws_toItemS.f kj30 l0).bind fun t376 => ((impl_Output.f kj30 t376 a1 a2 a3).bind fun bt379 => ((laws_eqIntS.f kj30 bt379.1 t355).bind fun t383 => (if t383 = true then (laws_FnExactOutput.j2 kj30 bt373.2 bt373.1 (bt379.2 != t356)) else (laws_FnExactOutput.j2 kj30 bt373.2 bt373.1 true))))) else (some false))))) = some r := by rw [if_neg (show ¬ (false = true) by decide)] at H; exact H
     clear H
     have H := H1
     clear H1
     replace H := Option.bind_eq_some_iff.mp H
     obtain ⟨⟨t373, t374⟩, A440, H⟩ := H
     replace H : ((laws_heldIntS.f kj30 t374 1).bind fun t375 => (if t375 < 0 then (some false) else (if t375 = t373 then ((laws_toItemS.f kj30 l0).bind fun t376 => ((impl_Output.f kj30 t376 a1 a2 a3).bind fun bt379 => ((laws_eqIntS.f kj30 bt379.1 t355).bind fun t383 => (if t383 = true then (laws_FnExactOutput.j2 kj30 t374 t373 (bt379.2 != t356)) else (laws_FnExactOutput.j2 kj30 t374 t373 true))))) else (some false)))) = some r := H
     have A44 := Aside0.mk A440
     clear A440
     replace H := Option.bind_eq_some_iff.mp H
     obtain ⟨t375, A450, H⟩ := H
     replace H : (if t375 < 0 then (some false) else (if t375 = t373 then ((laws_toItemS.f kj30 l0).bind fun t376 => ((impl_Output.f kj30 t376 a1 a2 a3).bind fun bt379 => ((laws_eqIntS.f kj30 bt379.1 t355).bind fun t383 => (if t383 = true then (laws_FnExactOutput.j2 kj30 t374 t373 (bt379.2 != t356)) else (laws_FnExactOutput.j2 kj30 t374 t373 true))))) else (some false))) = some r := H
     have A45 := Aside0.mk A450
     clear A450
     by_cases c46 : t375 < 0
     ·rw [if_pos c46] at H
      have c46b0 := decide_eq_true c46
      clear c46
      obtain rfl := Option.some.inj H
      obtain ⟨Ao47, co47, eo47⟩ := Kd.R_slice HO_13.out
      subst eo47
      go_wp2_with (first | ((with_reducible refine gate_callee (f := 34) rfl ?_); refine goesL_ (some 76) rfl rfl Try.func34 kZ rfl #[.slice Ao47 t362.length co47, .int .i64 1] rfl tZA ?_; (with_reducible refine (laws_markIntS.calls kj30 (fun k_ => some k_ = (.slice Ao47 t362.length co47 : Value).ownBlock) (.slice Ao47 t362.length co47) t362 1 t373 t374 w _ ?side1 ?side2 A44.out).mono ?_); (case side1 => repeat (first | (with_reducible first | exact HB.out | apply below_alloc | apply pw_below_drewN | apply below_drew1) | exact HB.out)); (case side2 => exact Kd.R_tight rfl HO_13.out); rintro e w48 ⟨rfl, hy0, hb, hkp⟩; refine ⟨_, rfl, ?_⟩; replace HO_10 := aZ (Kd.R_mono (ok' := fun k_ => some k_ ≠ (.slice Ao47 t362.length co47 : Value).ownBlock) (Kd.R_keptB (HO_10.out) hkp (fun k_ hk_ hs_ => (hk_) hs_)) (fun k_ hk_ => hk_.1)); replace HO_13 := aZ (Kd.R_reok rfl hy0 (fun k_ e_ => HO_13.out.1 k_ e_)); replace HB := aZ (hb); (try clear hb); (try clear hkp); (try clear hy0)) | ((with_reducible refine gate_callee (f := 35) rfl ?_); refine goesL_ (some 79) rfl rfl Try.func35 kZ rfl #[.slice Ao47 t374.length co47, .int .i64 1] rfl (by (try simp only [List.map_toArray, List.map_cons, List.map_nil]); first | done | (rw [show t374.length = t362.length from (Kd.R_reads' HO_13.out).1.symm] <;> rfl) | rfl | (simp only [List.length_drop, List.length_take]; rfl)) ?_; (with_reducible refine (laws_heldIntS.calls kj30 _ _ t374 1 t375 _ ?side1 ?side2 A45.out).mono ?_); (case side1 => repeat (first | exact (Kd.R_reads' HO_13.out).2.2 | (with_reducible refine Kd.C_alloc ?_ _) | (with_reducible refine Kd.C_drewN ?_ _) | (with_reducible refine Kd.C_drew ?_))); (case side2 => rw [show t374.length = t362.length from (Kd.R_reads' HO_13.out).1.symm]; exact (Kd.R_reads' HO_13.out).2.1); rintro e w' ⟨rfl, ⟨nd, rfl⟩⟩; refine ⟨_, rfl, ?_⟩))
      go_ret
      exact ⟨tZC, bZ⟩
     rw [if_neg c46] at H
     have c46b0 := decide_eq_false c46
     clear c46
     by_cases c49 : t375 = t373
     rotate_left
     ·rw [if_neg c49] at H
      have c49b0 : (t375 == t373) = false := beq_eq_false_iff_ne.mpr c49
      have c49b1 : (t375 != t373) = true := bne_iff_ne.mpr c49
      obtain rfl := Option.some.inj H
      obtain ⟨Ao68, co68, eo68⟩ := Kd.R_slice HO_13.out
      subst eo68
      go_wp2_with (first | ((with_reducible refine gate_callee (f := 34) rfl ?_); refine goesL_ (some 76) rfl rfl Try.func34 kZ rfl #[.slice Ao68 t362.length co68, .int .i64 1] rfl tZA ?_; (with_reducible refine (laws_markIntS.calls kj30 (fun k_ => some k_ = (.slice Ao68 t362.length co68 : Value).ownBlock) (.slice Ao68 t362.length co68) t362 1 t373 t374 w _ ?side1 ?side2 A44.out).mono ?_); (case side1 => repeat (first | (with_reducible first | exact HB.out | apply below_alloc | apply pw_below_drewN | apply below_drew1) | exact HB.out)); (case side2 => exact Kd.R_tight rfl HO_13.out); rintro e w69 ⟨rfl, hy0, hb, hkp⟩; refine ⟨_, rfl, ?_⟩; replace HO_10 := aZ (Kd.R_mono (ok' := fun k_ => some k_ ≠ (.slice Ao68 t362.length co68 : Value).ownBlock) (Kd.R_keptB (HO_10.out) hkp (fun k_ hk_ hs_ => (hk_) hs_)) (fun k_ hk_ => hk_.1)); replace HO_13 := aZ (Kd.R_reok rfl hy0 (fun k_ e_ => HO_13.out.1 k_ e_)); replace HB := aZ (hb); (try clear hb); (try clear hkp); (try clear hy0)) | ((with_reducible refine gate_callee (f := 35) rfl ?_); refine goesL_ (some 79) rfl rfl Try.func35 kZ rfl #[.slice Ao68 t374.length co68, .int .i64 1] rfl (by (try simp only [List.map_toArray, List.map_cons, List.map_nil]); first | done | (rw [show t374.length = t362.length from (Kd.R_reads' HO_13.out).1.symm] <;> rfl) | rfl | (simp only [List.length_drop, List.length_take]; rfl)) ?_; (with_reducible refine (laws_heldIntS.calls kj30 _ _ t374 1 t375 _ ?side1 ?side2 A45.out).mono ?_); (case side1 => repeat (first | exact (Kd.R_reads' HO_13.out).2.2 | (with_reducible refine Kd.C_alloc ?_ _) | (with_reducible refine Kd.C_drewN ?_ _) | (with_reducible refine Kd.C_drew ?_))); (case side2 => rw [show t374.length = t362.length from (Kd.R_reads' HO_13.out).1.symm]; exact (Kd.R_reads' HO_13.out).2.1); rintro e w' ⟨rfl, ⟨nd, rfl⟩⟩; refine ⟨_, rfl, ?_⟩))
      go_ret
      exact ⟨tZC, bZ⟩
     rw [if_pos c49] at H
     have c49b0 : (t375 == t373) = true := beq_iff_eq.mpr c49
     have c49b1 : (t375 != t373) = false := bne_eq_false_iff_eq.mpr c49
     clear c49
     replace H := Option.bind_eq_some_iff.mp H
     obtain ⟨t376, A500, H⟩ := H
     replace H : ((impl_Output.f kj30 t376 a1 a2 a3).bind fun bt379 => ((laws_eqIntS.f kj30 bt379.1 t355).bind fun t383 => (if t383 = true then (laws_FnExactOutput.j2 kj30 t374 t373 (bt379.2 != t356)) else (laws_FnExactOutput.j2 kj30 t374 t373 true)))) = some r := H
     have A50 := Aside0.mk A500
     clear A500
     replace H := Option.bind_eq_some_iff.mp H
     obtain ⟨⟨t379, t380⟩, A510, H⟩ := H
     replace H : ((laws_eqIntS.f kj30 t379 t355).bind fun t383 => (if t383 = true then (laws_FnExactOutput.j2 kj30 t374 t373 (t380 != t356)) else (laws_FnExactOutput.j2 kj30 t374 t373 true))) = some r := H
     have A51 := Aside0.mk A510
     clear A510
     have HC52 := Aside0.mk H
     clear H
     obtain ⟨Ao53, co53, eo53⟩ := Kd.R_slice HO_13.out
     subst eo53
     go_upto_region 25 with (first | ((with_reducible refine gate_callee (f := 34) rfl ?_); refine goesL_ (some 76) rfl rfl Try.func34 kZ rfl #[.slice Ao53 t362.length co53, .int .i64 1] rfl tZA ?_; (with_reducible refine (laws_markIntS.calls kj30 (fun k_ => some k_ = (.slice Ao53 t362.length co53 : Value).ownBlock) (.slice Ao53 t362.length co53) t362 1 t373 t374 w _ ?side1 ?side2 A44.out).mono ?_); (case side1 => repeat (first | (with_reducible first | exact HB.out | apply below_alloc | apply pw_below_drewN | apply below_drew1) | exact HB.out)); (case side2 => exact Kd.R_tight rfl HO_13.out); rintro e w54 ⟨rfl, hy0, hb, hkp⟩; refine ⟨_, rfl, ?_⟩; replace HO_10 := aZ (Kd.R_mono (ok' := fun k_ => some k_ ≠ (.slice Ao53 t362.length co53 : Value).ownBlock) (Kd.R_keptB (HO_10.out) hkp (fun k_ hk_ hs_ => (hk_) hs_)) (fun k_ hk_ => hk_.1)); replace HO_13 := aZ (Kd.R_reok rfl hy0 (fun k_ e_ => HO_13.out.1 k_ e_)); replace HB := aZ (hb); (try clear hb); (try clear hkp); (try clear hy0)) | ((with_reducible refine gate_callee (f := 35) rfl ?_); refine goesL_ (some 79) rfl rfl Try.func35 kZ rfl #[.slice Ao53 t374.length co53, .int .i64 1] rfl (by (try simp only [List.map_toArray, List.map_cons, List.map_nil]); first | done | (rw [show t374.length = t362.length from (Kd.R_reads' HO_13.out).1.symm] <;> rfl) | rfl | (simp only [List.length_drop, List.length_take]; rfl)) ?_; (with_reducible refine (laws_heldIntS.calls kj30 _ _ t374 1 t375 _ ?side1 ?side2 A45.out).mono ?_); (case side1 => repeat (first | exact (Kd.R_reads' HO_13.out).2.2 | (with_reducible refine Kd.C_alloc ?_ _) | (with_reducible refine Kd.C_drewN ?_ _) | (with_reducible refine Kd.C_drew ?_))); (case side2 => rw [show t374.length = t362.length from (Kd.R_reads' HO_13.out).1.symm]; exact (Kd.R_reads' HO_13.out).2.1); rintro e w' ⟨rfl, ⟨nd, rfl⟩⟩; refine ⟨_, rfl, ?_⟩) | ((with_reducible refine gate_callee (f := 29) rfl ?_); refine goesL_ (some 87) rfl rfl Try.func29 kZ rfl #[.slice A0 l0.length c0] rfl tZA ?_; (with_reducible refine (laws_toItemS.calls kj30 _ _ l0 t376 _ ?side1 ?side2 A50.out).mono ?_); (case side1 => repeat (first | exact (Kd.C_below HR0.out (lZB HB.out)) | (with_reducible refine Kd.C_alloc ?_ _) | (with_reducible refine Kd.C_drewN ?_ _) | (with_reducible refine Kd.C_drew ?_))); (case side2 => exact HC0.out); rintro e w55 ⟨v377, rfl, ho0, hb⟩; refine ⟨_, rfl, ?_⟩; replace HO_10 := aZ (Kd.R_below (lZR HO_10.out) hb); replace HO_13 := aZ (Kd.R_below (lZR HO_13.out) hb); have HO378 := aZ (Kd.S_lower ho0 (below_size (lZB HB.out))); replace HB := aZ (below_step (lZB HB.out) hb); (try clear hb); (try clear hb2); (try clear hk); (try clear hi); (try clear ho0); obtain ⟨Ao56, co56, eo56⟩ := Kd.S_slice HO378.out; subst eo56) | ((with_reducible refine gate_callee (f := 46) rfl ?_); refine goesL_ (some 91) rfl rfl Try.func46 kZ rfl #[.slice Ao56 t376.length co56, .int .i64 a1, .int .i64 a2, .int .i64 a3] rfl tZA ?_; (with_reducible refine (impl_Output.calls kj30 _ _ t376 a1 a2 a3 t379 t380 _ ?side1 ?side2 A51.out).mono ?_); (case side1 => repeat (first | exact (Kd.S_reads' HO378.out).2.2 | (with_reducible refine Kd.C_alloc ?_ _) | (with_reducible refine Kd.C_drewN ?_ _) | (with_reducible refine Kd.C_drew ?_))); (case side2 => exact (Kd.S_reads' HO378.out).2.1); rintro e w57 ⟨v381, rfl, ho0, hb⟩; refine ⟨_, rfl, ?_⟩; replace HO378 := aZ (Kd.S_below (lZS HO378.out) hb); have HO382 := aZ (Kd.R_lower (Kd.R_new' (Kd.R_new' ho0 (Kd.R_lt (lZR HO_10.out))) (Kd.R_lt (lZR HO_13.out))) (below_size (lZB HB.out))); replace HO_10 := aZ (Kd.R_elder' (lZR HO_10.out) (Kd.R_base ho0) hb); replace HO_13 := aZ (Kd.R_elder' (lZR HO_13.out) (Kd.R_base ho0) hb); replace HB := aZ (below_step (lZB HB.out) hb); (try clear hb); (try clear hb2); (try clear hk); (try clear hi); (try clear ho0)))
     (try simp only [Act.put, sZ1, sZ2, sZ3])
     go_cut [102] (fun v102 wc => ∃ (kq : Nat) (x102_51 : Bool), v102 = .bool x102_51 ∧ Aside0 (laws_FnExactOutput.j2 kq t374 t373 x102_51 = some r) ∧ Aside0 (kq ≤ kj30) ∧ Aside0 (Kd.R (Kd.int .i64) 3 wc w.heap.size (fun _ => True) (.slice Ao53 t362.length co53) t374) ∧ Aside0 (Below w.heap.size w wc))
     case first =>
      have H := HC52.out
      clear HC52
      replace H := Option.bind_eq_some_iff.mp H
      obtain ⟨t383, A580, H⟩ := H
      replace H : (if t383 = true then (laws_FnExactOutput.j2 kj30 t374 t373 (t380 != t356)) else (laws_FnExactOutput.j2 kj30 t374 t373 true)) = some r := H
      have A58 := Aside0.mk A580
      clear A580
      by_cases c59 : t383 = true
      ·subst c59
       have H1 : (laws_FnExactOutput.j2 kj30 t374 t373 (t380 != t356)) = some r := by rw [if_pos rfl] at H; exact H
       clear H
       have H := H1
       clear H1
       have H' := Aside0.mk H
       clear H
       obtain ⟨Ao60, co60, eo60⟩ := Kd.R_slice HO382.out
       subst eo60
       obtain ⟨Ao61, co61, eo61⟩ := Kd.R_slice HO_10.out
       subst eo61
       go_wp2_with (first | ((with_reducible refine gate_callee (f := 31) rfl ?_); refine goesL_ (some 96) rfl rfl Try.func31 kZ rfl #[.slice Ao60 t379.length co60, .slice Ao61 t355.length co61] rfl tZA ?_; (with_reducible refine (laws_eqIntS.calls kj30 _ _ t379 _ _ t355 true _ ?side1 ?side2 ?side3 ?side4 A58.out).mono ?_); (case side1 => repeat (first | exact (Kd.R_reads' HO382.out).2.2 | (with_reducible refine Kd.C_alloc ?_ _) | (with_reducible refine Kd.C_drewN ?_ _) | (with_reducible refine Kd.C_drew ?_))); (case side2 => exact (Kd.R_reads' HO382.out).2.1); (case side3 => repeat (first | exact (Kd.R_reads' HO_10.out).2.2 | (with_reducible refine Kd.C_alloc ?_ _) | (with_reducible refine Kd.C_drewN ?_ _) | (with_reducible refine Kd.C_drew ?_))); (case side4 => exact (Kd.R_reads' HO_10.out).2.1); rintro e w' ⟨rfl, ⟨nd, rfl⟩⟩; refine ⟨_, rfl, ?_⟩))
       go_meet
       case rel => exact ⟨_, ((t380 != t356)), tZB, H', ⟨by have := HJ11.out; have := HJ30.out; first | omega | exact Nat.le_refl _⟩, ⟨by (with_reducible repeat (first | apply Kd.R_alloc | apply Kd.R_drewN | apply Kd.R_drew)); exact Kd.R_mono HO_13.out (fun _ hk => trivial)⟩, ⟨bZ⟩⟩
      replace c59 := Bool.eq_false_iff.mpr c59
      subst c59
      have H1 : (laws_FnExactOutput.j2 kj30 t374 t373 true) = some r := by rw [if_neg (show ¬ (false = true) by decide)] at H; exact H
      clear H
      have H := H1
      clear H1
      have H' := Aside0.mk H
      clear H
      obtain ⟨Ao62, co62, eo62⟩ := Kd.R_slice HO382.out
      subst eo62
      obtain ⟨Ao63, co63, eo63⟩ := Kd.R_slice HO_10.out
      subst eo63
      go_wp2_with (first | ((with_reducible refine gate_callee (f := 31) rfl ?_); refine goesL_ (some 96) rfl rfl Try.func31 kZ rfl #[.slice Ao62 t379.length co62, .slice Ao63 t355.length co63] rfl tZA ?_; (with_reducible refine (laws_eqIntS.calls kj30 _ _ t379 _ _ t355 false _ ?side1 ?side2 ?side3 ?side4 A58.out).mono ?_); (case side1 => repeat (first | exact (Kd.R_reads' HO382.out).2.2 | (with_reducible refine Kd.C_alloc ?_ _) | (with_reducible refine Kd.C_drewN ?_ _) | (with_reducible refine Kd.C_drew ?_))); (case side2 => exact (Kd.R_reads' HO382.out).2.1); (case side3 => repeat (first | exact (Kd.R_reads' HO_10.out).2.2 | (with_reducible refine Kd.C_alloc ?_ _) | (with_reducible refine Kd.C_drewN ?_ _) | (with_reducible refine Kd.C_drew ?_))); (case side4 => exact (Kd.R_reads' HO_10.out).2.1); rintro e w' ⟨rfl, ⟨nd, rfl⟩⟩; refine ⟨_, rfl, ?_⟩))
      go_meet
      case rel => exact ⟨_, (true), tZB, H', ⟨by have := HJ11.out; have := HJ30.out; first | omega | exact Nat.le_refl _⟩, ⟨by (with_reducible repeat (first | apply Kd.R_alloc | apply Kd.R_drewN | apply Kd.R_drew)); exact Kd.R_mono HO_13.out (fun _ hk => trivial)⟩, ⟨bZ⟩⟩
     case rest =>
      clear HC52
      try clear c2
      try clear p2
      try clear c3
      try clear c4
      try clear c5
      try clear c6
      try clear c6b0
      try clear c8
      try clear c21
      try clear c26
      try clear c27
      try clear c29
      try clear c31
      try clear c32
      try clear c33
      try clear c34
      try clear c35
      try clear c36
      try clear c36b0
      try clear c38
      try clear c43
      try clear c45
      try clear c46
      try clear c46b0
      try clear c49
      try clear c49b0
      try clear c49b1
      try clear c59
      try clear p2
      obtain ⟨kq, x102_51, rfl, HA, HJ51, HO_13, HB⟩ := hcut
      have hl13_51 := (Kd.R_reads' HO_13.out).1
      rw [hl13_51] at HO_13
      (try simp only [hl13_51])
      cases kq with
      | zero => exact absurd HA.out (by simp [laws_FnExactOutput.j2])
      | succ kj51 =>
       have H := HA.out
       clear HA
       simp only [laws_FnExactOutput.j2] at H
       by_cases c64 : x102_51 = true
       ·subst c64
        have H1 : (some false) = some r := by rw [if_pos rfl] at H; exact H
        clear H
        have H := H1
        clear H1
        obtain rfl := Option.some.inj H
        go_wp2
        go_ret
        exact ⟨tZC, bZ⟩
       replace c64 := Bool.eq_false_iff.mpr c64
       subst c64
       have H1 : ((laws_heldIntS.f kj51 t374 1).bind fun t384 => (if t384 < 0 then (some false) else (if t384 = t373 then (some true) else (some false)))) = some r := by rw [if_neg (show ¬ (false = true) by decide)] at H; exact H
       clear H
       have H := H1
       clear H1
       replace H := Option.bind_eq_some_iff.mp H
       obtain ⟨t384, A650, H⟩ := H
       replace H : (if t384 < 0 then (some false) else (if t384 = t373 then (some true) else (some false))) = some r := H
       have A65 := Aside0.mk A650
       clear A650
       by_cases c66 : t384 < 0
       ·rw [if_pos c66] at H
        have c66b0 := decide_eq_true c66
        clear c66
        obtain rfl := Option.some.inj H
        go_wp2_with (first | ((with_reducible refine gate_callee (f := 35) rfl ?_); refine goesL_ (some 105) rfl rfl Try.func35 kZ rfl #[.slice Ao53 t374.length co53, .int .i64 1] rfl tZA ?_; (with_reducible refine (laws_heldIntS.calls kj51 _ _ t374 1 t384 _ ?side1 ?side2 A65.out).mono ?_); (case side1 => repeat (first | exact (Kd.R_reads' HO_13.out).2.2 | (with_reducible refine Kd.C_alloc ?_ _) | (with_reducible refine Kd.C_drewN ?_ _) | (with_reducible refine Kd.C_drew ?_))); (case side2 => exact (Kd.R_reads' HO_13.out).2.1); rintro e w' ⟨rfl, ⟨nd, rfl⟩⟩; refine ⟨_, rfl, ?_⟩))
        go_ret
        exact ⟨tZC, bZ⟩
       rw [if_neg c66] at H
       have c66b0 := decide_eq_false c66
       clear c66
       by_cases c67 : t384 = t373
       rotate_left
       ·rw [if_neg c67] at H
        have c67b0 : (t384 == t373) = false := beq_eq_false_iff_ne.mpr c67
        have c67b1 : (t384 != t373) = true := bne_iff_ne.mpr c67
        obtain rfl := Option.some.inj H
        go_wp2_with (first | ((with_reducible refine gate_callee (f := 35) rfl ?_); refine goesL_ (some 105) rfl rfl Try.func35 kZ rfl #[.slice Ao53 t374.length co53, .int .i64 1] rfl tZA ?_; (with_reducible refine (laws_heldIntS.calls kj51 _ _ t374 1 t384 _ ?side1 ?side2 A65.out).mono ?_); (case side1 => repeat (first | exact (Kd.R_reads' HO_13.out).2.2 | (with_reducible refine Kd.C_alloc ?_ _) | (with_reducible refine Kd.C_drewN ?_ _) | (with_reducible refine Kd.C_drew ?_))); (case side2 => exact (Kd.R_reads' HO_13.out).2.1); rintro e w' ⟨rfl, ⟨nd, rfl⟩⟩; refine ⟨_, rfl, ?_⟩))
        go_ret
        exact ⟨tZC, bZ⟩
       rw [if_pos c67] at H
       have c67b0 : (t384 == t373) = true := beq_iff_eq.mpr c67
       have c67b1 : (t384 != t373) = false := bne_eq_false_iff_eq.mpr c67
       clear c67
       obtain rfl := Option.some.inj H
       go_wp2_with (first | ((with_reducible refine gate_callee (f := 35) rfl ?_); refine goesL_ (some 105) rfl rfl Try.func35 kZ rfl #[.slice Ao53 t374.length co53, .int .i64 1] rfl tZA ?_; (with_reducible refine (laws_heldIntS.calls kj51 _ _ t374 1 t384 _ ?side1 ?side2 A65.out).mono ?_); (case side1 => repeat (first | exact (Kd.R_reads' HO_13.out).2.2 | (with_reducible refine Kd.C_alloc ?_ _) | (with_reducible refine Kd.C_drewN ?_ _) | (with_reducible refine Kd.C_drew ?_))); (case side2 => exact (Kd.R_reads' HO_13.out).2.1); rintro e w' ⟨rfl, ⟨nd, rfl⟩⟩; refine ⟨_, rfl, ?_⟩))
       go_ret
       exact ⟨tZC, bZ⟩
def laws_FnExactOutput.Pure : Prop := ∀ (l0 : List (S126)) (a1 : Int) (a2 : Int) (a3 : Int), (l0.length ≤ maxLen ∧ ∀ y ∈ l0, wf126 y) → ((Lit.int .i64 a1).wf = true) → ((Lit.int .i64 a2).wf = true) → ((Lit.int .i64 a3).wf = true) → ∃ k, laws_FnExactOutput.f k l0 a1 a2 a3 = some true
end Go.Proofs.Ytjnmfadnkbflfaa.PFnExactOutput
