import Derived.Test.YtjnmfadnkbflfaaDPFnExactNeededx0
import Derived.Test.YtjnmfadnkbflfaaDPFnExactNeededx1
import Derived.Test.YtjnmfadnkbflfaaDPFnExactNeededx2
import Derived.Test.YtjnmfadnkbflfaaDPFnExactNeededx7
import Derived.Test.YtjnmfadnkbflfaaDPFnExactNeededx14
import Derived.Test.YtjnmfadnkbflfaaDSlimWords
namespace Go.Proofs.Ytjnmfadnkbflfaa.PFnExactNeeded
open Go.Proofs.Ytjnmfadnkbflfaa.SlimWords
open Go.RowKit Go.Proofs.YtjnmfadnkbflfaaW.PrintWords Go.Proofs.YtjnmfadnkbflfaaW.PrintLast Go.Proofs.YtjnmfadnkbflfaaW.PrintMore Go.Proofs.Ytjnmfadnkbflfaa.MapWords Go.Proofs.Ytjnmfadnkbflfaa.IterWords Go.Proofs.Ytjnmfadnkbflfaa.MarkWords
attribute [local go_sem] max2_int min2_int max_two min_two max_three min_three max_four min_four
set_option linter.unusedVariables false
set_option linter.unusedSimpArgs false
def laws_FnExactNeeded.j0 : Nat → List (S116) → Int → List ByteArray → List ByteArray → Bool → Option (Bool)
  | 0, _, _, _, _, _ => none
  | k + 1, x0, x1, x6, x8, x46 => if x46 = true then (some false) else ((laws_markStringS.f k x8 1).bind fun bt323 => ((laws_heldStringS.f k bt323.2 1).bind fun t325 => (if t325 < 0 then (some false) else (if t325 = bt323.1 then ((laws_toStepS.f k x0).bind fun t326 => ((impl_Needed.f k t326 x1).bind fun t329 => ((laws_eqStringS.f k t329 x6).bind fun t332 => (if t332 = true then ((laws_heldStringS.f k bt323.2 1).bind fun t333 => (if t333 < 0 then (some false) else (if t333 = bt323.1 then (some true) else (some false)))) else (some false))))) else (some false)))))
def laws_FnExactNeeded.f (k : Nat) (l0 : List (S116)) (a1 : Int) : Option (Bool) := (laws_szStepS.f k l0 1048576).bind fun t303 => (if t303 < 0 then (some true) else ((laws_toStepS.f k l0).bind fun t304 => ((spec_Needed.f k t304 a1).bind fun t307 => ((laws_toStepS.f k l0).bind fun t310 => ((impl_Needed.f k t310 a1).bind fun t313 => ((laws_eqStringS.f k t313 t307).bind fun t316 => (if t316 = true then ((laws_toStepS.f k l0).bind fun t317 => ((laws_eqStepS.f k t310 t317).bind fun t320 => (if t320 = true then ((laws_markStepS.f k t310 1).bind fun t321 => (if t321 < 0 then (laws_FnExactNeeded.j0 k l0 a1 t307 t313 true) else ((laws_eqStringS.f k t313 t307).bind fun t322 => (laws_FnExactNeeded.j0 k l0 a1 t307 t313 (!t322))))) else (some false)))) else (some false))))))))
theorem laws_FnExactNeeded.mono_l : ∀ k, (∀ y0 y1 y2 y3 y4, LeO (laws_FnExactNeeded.j0 k y0 y1 y2 y3 y4) (laws_FnExactNeeded.j0 (k + 1) y0 y1 y2 y3 y4))
  | 0 => fun _ _ _ _ _ r h => by simp [laws_FnExactNeeded.j0] at h
  | k + 1 => by
    have ih0 := laws_FnExactNeeded.mono_l k
    · intro y0 y1 y2 y3 y4
      unfold laws_FnExactNeeded.j0
      repeat' first
      | (with_reducible exact ih0 _ _ _ _ _)
      | (with_reducible exact impl_Needed.mono _ _ _)
      | (with_reducible exact laws_eqStepS.mono _ _ _)
      | (with_reducible exact laws_eqStringS.mono _ _ _)
      | (with_reducible exact laws_heldStringS.mono _ _ _)
      | (with_reducible exact laws_markStepS.mono _ _ _)
      | (with_reducible exact laws_markStringS.mono _ _ _)
      | (with_reducible exact laws_szStepS.mono _ _ _)
      | (with_reducible exact laws_toStepS.mono _ _)
      | (with_reducible exact spec_Needed.mono _ _ _)
      | (with_reducible exact LeO.refl _)
      | (with_reducible exact LeO.none _)
      | (with_reducible refine LeO.ite ?_ ?_)
      | (with_reducible refine LeO.bind ?_ (fun _ => ?_))
      | exact ih0 _ _ _ _ _
      | exact impl_Needed.mono _ _ _
      | exact laws_eqStepS.mono _ _ _
      | exact laws_eqStringS.mono _ _ _
      | exact laws_heldStringS.mono _ _ _
      | exact laws_markStepS.mono _ _ _
      | exact laws_markStringS.mono _ _ _
      | exact laws_szStepS.mono _ _ _
      | exact laws_toStepS.mono _ _
      | exact spec_Needed.mono _ _ _
      | exact LeO.none _
      | refine LeO.ite ?_ ?_
      | refine LeO.bind ?_ (fun _ => ?_)
theorem laws_FnExactNeeded.mono : ∀ a0 a1 k, LeO (laws_FnExactNeeded.f k a0 a1) (laws_FnExactNeeded.f (k + 1) a0 a1) := by
 intro a0 a1 k
 have ih0 := laws_FnExactNeeded.mono_l k
 unfold laws_FnExactNeeded.f
 repeat' first
     | (with_reducible exact ih0 _ _ _ _ _)
     | (with_reducible exact impl_Needed.mono _ _ _)
     | (with_reducible exact laws_eqStepS.mono _ _ _)
     | (with_reducible exact laws_eqStringS.mono _ _ _)
     | (with_reducible exact laws_heldStringS.mono _ _ _)
     | (with_reducible exact laws_markStepS.mono _ _ _)
     | (with_reducible exact laws_markStringS.mono _ _ _)
     | (with_reducible exact laws_szStepS.mono _ _ _)
     | (with_reducible exact laws_toStepS.mono _ _)
     | (with_reducible exact spec_Needed.mono _ _ _)
     | (with_reducible exact LeO.refl _)
     | (with_reducible exact LeO.none _)
     | (with_reducible refine LeO.ite ?_ ?_)
     | (with_reducible refine LeO.bind ?_ (fun _ => ?_))
     | exact ih0 _ _ _ _ _
     | exact impl_Needed.mono _ _ _
     | exact laws_eqStepS.mono _ _ _
     | exact laws_eqStringS.mono _ _ _
     | exact laws_heldStringS.mono _ _ _
     | exact laws_markStepS.mono _ _ _
     | exact laws_markStringS.mono _ _ _
     | exact laws_szStepS.mono _ _ _
     | exact laws_toStepS.mono _ _
     | exact spec_Needed.mono _ _ _
     | exact LeO.none _
     | refine LeO.ite ?_ ?_
     | refine LeO.bind ?_ (fun _ => ?_)
set_option maxHeartbeats 8000000 in
set_option maxRecDepth 100000 in
theorem laws_FnExactNeeded.calls (k : Nat) (A0 : Option Addr) (c0 : Nat) (l0 : List (S116)) (a1 : Int) (r : Bool) (w : World) (hr0 : Kd.C k116 w A0 l0.length l0) (hc0 : l0.length ≤ c0) (h : laws_FnExactNeeded.f k l0 a1 = some r) :
    Calls Try.prog 7 #[.slice A0 l0.length c0, .int .i64 a1] w fun e w' => e = .returned (.bool r) ∧ Below w.heap.size w w' := by
 have HR0 := Aside0.mk hr0
 have HC0 := Aside0.mk hc0
 clear hr0 hc0
 have HB := aZ (Below.refl w.heap.size w)
 have H : ((laws_szStepS.f k l0 1048576).bind fun t303 => (if t303 < 0 then (some true) else ((laws_toStepS.f k l0).bind fun t304 => ((spec_Needed.f k t304 a1).bind fun t307 => ((laws_toStepS.f k l0).bind fun t310 => ((impl_Needed.f k t310 a1).bind fun t313 => ((laws_eqStringS.f k t313 t307).bind fun t316 => (if t316 = true then ((laws_toStepS.f k l0).bind fun t317 => ((laws_eqStepS.f k t310 t317).bind fun t320 => (if t320 = true then ((laws_markStepS.f k t310 1).bind fun t321 => (if t321 < 0 then (laws_FnExactNeeded.j0 k l0 a1 t307 t313 true) else ((laws_eqStringS.f k t313 t307).bind fun t322 => (laws_FnExactNeeded.j0 k l0 a1 t307 t313 (!t322))))) else (some false)))) else (some false))))))))) = some r := h
 clear h
 replace H := Option.bind_eq_some_iff.mp H
 obtain ⟨t303, A30, H⟩ := H
 replace H : (if t303 < 0 then (some true) else ((laws_toStepS.f k l0).bind fun t304 => ((spec_Needed.f k t304 a1).bind fun t307 => ((laws_toStepS.f k l0).bind fun t310 => ((impl_Needed.f k t310 a1).bind fun t313 => ((laws_eqStringS.f k t313 t307).bind fun t316 => (if t316 = true then ((laws_toStepS.f k l0).bind fun t317 => ((laws_eqStepS.f k t310 t317).bind fun t320 => (if t320 = true then ((laws_markStepS.f k t310 1).bind fun t321 => (if t321 < 0 then (laws_FnExactNeeded.j0 k l0 a1 t307 t313 true) else ((laws_eqStringS.f k t313 t307).bind fun t322 => (laws_FnExactNeeded.j0 k l0 a1 t307 t313 (!t322))))) else (some false)))) else (some false)))))))) = some r := H
 have A3 := Aside0.mk A30
 clear A30
 by_cases c4 : t303 < 0
 ·rw [if_pos c4] at H
  have c4b0 := decide_eq_true c4
  clear c4
  obtain rfl := Option.some.inj H
  go_enter Try.func7, Try.ntmps7
  go_wp2_with (first | ((with_reducible refine gate_callee (f := 22) rfl ?_); refine goesL_ (some 15) rfl rfl Try.func22 kZ rfl #[.slice A0 l0.length c0, .int .i64 1048576] rfl tZA ?_; (with_reducible refine (laws_szStepS.calls k _ _ l0 1048576 t303 _ ?side1 ?side2 A3.out).mono ?_); (case side1 => repeat (first | exact HR0.out | (with_reducible refine Kd.C_alloc ?_ _) | (with_reducible refine Kd.C_drewN ?_ _) | (with_reducible refine Kd.C_drew ?_))); (case side2 => exact HC0.out); rintro e w5 ⟨rfl, hb⟩; refine ⟨_, rfl, ?_⟩; replace HB := aZ (below_step (lZB HB.out) hb); (try clear hb); (try clear hb2); (try clear hk); (try clear hi)))
  go_ret
  exact ⟨tZC, bZ⟩
 rw [if_neg c4] at H
 have c4b0 := decide_eq_false c4
 clear c4
 replace H := Option.bind_eq_some_iff.mp H
 obtain ⟨t304, A60, H⟩ := H
 replace H : ((spec_Needed.f k t304 a1).bind fun t307 => ((laws_toStepS.f k l0).bind fun t310 => ((impl_Needed.f k t310 a1).bind fun t313 => ((laws_eqStringS.f k t313 t307).bind fun t316 => (if t316 = true then ((laws_toStepS.f k l0).bind fun t317 => ((laws_eqStepS.f k t310 t317).bind fun t320 => (if t320 = true then ((laws_markStepS.f k t310 1).bind fun t321 => (if t321 < 0 then (laws_FnExactNeeded.j0 k l0 a1 t307 t313 true) else ((laws_eqStringS.f k t313 t307).bind fun t322 => (laws_FnExactNeeded.j0 k l0 a1 t307 t313 (!t322))))) else (some false)))) else (some false)))))) = some r := H
 have A6 := Aside0.mk A60
 clear A60
 replace H := Option.bind_eq_some_iff.mp H
 obtain ⟨t307, A70, H⟩ := H
 replace H : ((laws_toStepS.f k l0).bind fun t310 => ((impl_Needed.f k t310 a1).bind fun t313 => ((laws_eqStringS.f k t313 t307).bind fun t316 => (if t316 = true then ((laws_toStepS.f k l0).bind fun t317 => ((laws_eqStepS.f k t310 t317).bind fun t320 => (if t320 = true then ((laws_markStepS.f k t310 1).bind fun t321 => (if t321 < 0 then (laws_FnExactNeeded.j0 k l0 a1 t307 t313 true) else ((laws_eqStringS.f k t313 t307).bind fun t322 => (laws_FnExactNeeded.j0 k l0 a1 t307 t313 (!t322))))) else (some false)))) else (some false))))) = some r := H
 have A7 := Aside0.mk A70
 clear A70
 replace H := Option.bind_eq_some_iff.mp H
 obtain ⟨t310, A80, H⟩ := H
 replace H : ((impl_Needed.f k t310 a1).bind fun t313 => ((laws_eqStringS.f k t313 t307).bind fun t316 => (if t316 = true then ((laws_toStepS.f k l0).bind fun t317 => ((laws_eqStepS.f k t310 t317).bind fun t320 => (if t320 = true then ((laws_markStepS.f k t310 1).bind fun t321 => (if t321 < 0 then (laws_FnExactNeeded.j0 k l0 a1 t307 t313 true) else ((laws_eqStringS.f k t313 t307).bind fun t322 => (laws_FnExactNeeded.j0 k l0 a1 t307 t313 (!t322))))) else (some false)))) else (some false)))) = some r := H
 have A8 := Aside0.mk A80
 clear A80
 replace H := Option.bind_eq_some_iff.mp H
 obtain ⟨t313, A90, H⟩ := H
 replace H : ((laws_eqStringS.f k t313 t307).bind fun t316 => (if t316 = true then ((laws_toStepS.f k l0).bind fun t317 => ((laws_eqStepS.f k t310 t317).bind fun t320 => (if t320 = true then ((laws_markStepS.f k t310 1).bind fun t321 => (if t321 < 0 then (laws_FnExactNeeded.j0 k l0 a1 t307 t313 true) else ((laws_eqStringS.f k t313 t307).bind fun t322 => (laws_FnExactNeeded.j0 k l0 a1 t307 t313 (!t322))))) else (some false)))) else (some false))) = some r := H
 have A9 := Aside0.mk A90
 clear A90
 replace H := Option.bind_eq_some_iff.mp H
 obtain ⟨t316, A100, H⟩ := H
 replace H : (if t316 = true then ((laws_toStepS.f k l0).bind fun t317 => ((laws_eqStepS.f k t310 t317).bind fun t320 => (if t320 = true then ((laws_markStepS.f k t310 1).bind fun t321 => (if t321 < 0 then (laws_FnExactNeeded.j0 k l0 a1 t307 t313 true) else ((laws_eqStringS.f k t313 t307).bind fun t322 => (laws_FnExactNeeded.j0 k l0 a1 t307 t313 (!t322))))) else (some false)))) else (some false)) = some r := H
 have A10 := Aside0.mk A100
 clear A100
 by_cases c11 : t316 = true
 rotate_left
 ·replace c11 := Bool.eq_false_iff.mpr c11
  subst c11
  have H1 : (some false) = some r := by rw [if_neg (show ¬ (false = true) by decide)] at H; exact H
  clear H
  have H := H1
  clear H1
  obtain rfl := Option.some.inj H
  go_enter Try.func7, Try.ntmps7
  go_wp2_with (first | ((with_reducible refine gate_callee (f := 22) rfl ?_); refine goesL_ (some 15) rfl rfl Try.func22 kZ rfl #[.slice A0 l0.length c0, .int .i64 1048576] rfl tZA ?_; (with_reducible refine (laws_szStepS.calls k _ _ l0 1048576 t303 _ ?side1 ?side2 A3.out).mono ?_); (case side1 => repeat (first | exact HR0.out | (with_reducible refine Kd.C_alloc ?_ _) | (with_reducible refine Kd.C_drewN ?_ _) | (with_reducible refine Kd.C_drew ?_))); (case side2 => exact HC0.out); rintro e w87 ⟨rfl, hb⟩; refine ⟨_, rfl, ?_⟩; replace HB := aZ (below_step (lZB HB.out) hb); (try clear hb); (try clear hb2); (try clear hk); (try clear hi)) | ((with_reducible refine gate_callee (f := 24) rfl ?_); refine goesL_ (some 19) rfl rfl Try.func24 kZ rfl #[.slice A0 l0.length c0] rfl tZA ?_; (with_reducible refine (laws_toStepS.calls k _ _ l0 t304 _ ?side1 ?side2 A6.out).mono ?_); (case side1 => repeat (first | exact (Kd.C_below HR0.out HB.out) | (with_reducible refine Kd.C_alloc ?_ _) | (with_reducible refine Kd.C_drewN ?_ _) | (with_reducible refine Kd.C_drew ?_))); (case side2 => exact HC0.out); rintro e w88 ⟨v305, rfl, ho0, hb⟩; refine ⟨_, rfl, ?_⟩; have HO306 := aZ (Kd.S_lower ho0 (below_size (lZB HB.out))); replace HB := aZ (below_step (lZB HB.out) hb); (try clear hb); (try clear hb2); (try clear hk); (try clear hi); (try clear ho0); obtain ⟨Ao89, co89, eo89⟩ := Kd.S_slice HO306.out; subst eo89) | ((with_reducible refine gate_callee (f := 40) rfl ?_); refine goesL_ (some 21) rfl rfl Try.func40 kZ rfl #[.slice Ao89 t304.length co89, .int .i64 a1] rfl tZA ?_; (with_reducible refine (spec_Needed.calls k _ _ t304 a1 t307 _ ?side1 ?side2 A7.out).mono ?_); (case side1 => repeat (first | exact (Kd.S_reads' HO306.out).2.2 | (with_reducible refine Kd.C_alloc ?_ _) | (with_reducible refine Kd.C_drewN ?_ _) | (with_reducible refine Kd.C_drew ?_))); (case side2 => exact (Kd.S_reads' HO306.out).2.1); rintro e w90 ⟨v308, rfl, ho0, hb⟩; refine ⟨_, rfl, ?_⟩; replace HO306 := aZ (Kd.S_elder' (lZS HO306.out) (Kd.R_base ho0) hb); have HO309 := aZ (Kd.R_lower ho0 (below_size (lZB HB.out))); replace HB := aZ (below_step (lZB HB.out) hb); (try clear hb); (try clear hb2); (try clear hk); (try clear hi); (try clear ho0)) | ((with_reducible refine gate_callee (f := 24) rfl ?_); refine goesL_ (some 23) rfl rfl Try.func24 kZ rfl #[.slice A0 l0.length c0] rfl tZA ?_; (with_reducible refine (laws_toStepS.calls k _ _ l0 t310 _ ?side1 ?side2 A8.out).mono ?_); (case side1 => repeat (first | exact (Kd.C_below HR0.out HB.out) | (with_reducible refine Kd.C_alloc ?_ _) | (with_reducible refine Kd.C_drewN ?_ _) | (with_reducible refine Kd.C_drew ?_))); (case side2 => exact HC0.out); rintro e w91 ⟨v311, rfl, ho0, hb⟩; refine ⟨_, rfl, ?_⟩; have HO312 := aZ (Kd.S_lower (Kd.S_new' (Kd.S_new' ho0 (Kd.S_lt (lZS HO306.out))) (Kd.R_lt (lZR HO309.out))) (below_size (lZB HB.out))); replace HO306 := aZ (Kd.S_elder' (lZS HO306.out) (Kd.S_base ho0) hb); replace HO309 := aZ (Kd.R_below (lZR HO309.out) hb); replace HB := aZ (below_step (lZB HB.out) hb); (try clear hb); (try clear hb2); (try clear hk); (try clear hi); (try clear ho0); obtain ⟨Ao92, co92, eo92⟩ := Kd.S_slice HO312.out; subst eo92) | ((with_reducible refine gate_callee (f := 41) rfl ?_); refine goesL_ (some 26) rfl rfl Try.func41 kZ rfl #[.slice Ao92 t310.length co92, .int .i64 a1] rfl tZA ?_; (with_reducible refine (impl_Needed.calls k _ _ t310 a1 t313 _ ?side1 ?side2 A9.out).mono ?_); (case side1 => repeat (first | exact (Kd.S_reads' HO312.out).2.2 | (with_reducible refine Kd.C_alloc ?_ _) | (with_reducible refine Kd.C_drewN ?_ _) | (with_reducible refine Kd.C_drew ?_))); (case side2 => exact (Kd.S_reads' HO312.out).2.1); rintro e w93 ⟨v314, rfl, ho0, hb⟩; refine ⟨_, rfl, ?_⟩; replace HO306 := aZ (Kd.S_elder' (lZS HO306.out) (Kd.R_base ho0) hb); replace HO312 := aZ (Kd.S_elder' (lZS HO312.out) (Kd.R_base ho0) hb); have HO315 := aZ (Kd.R_lower (Kd.R_new' ho0 (Kd.R_lt (lZR HO309.out))) (below_size (lZB HB.out))); replace HO309 := aZ (Kd.R_elder' (lZR HO309.out) (Kd.R_base ho0) hb); replace HB := aZ (below_step (lZB HB.out) hb); (try clear hb); (try clear hb2); (try clear hk); (try clear hi); (try clear ho0); obtain ⟨Ao94, co94, eo94⟩ := Kd.R_slice HO315.out; subst eo94; obtain ⟨Ao95, co95, eo95⟩ := Kd.R_slice HO309.out; subst eo95) | ((with_reducible refine gate_callee (f := 42) rfl ?_); refine goesL_ (some 29) rfl rfl Try.func42 kZ rfl #[.slice Ao94 t313.length co94, .slice Ao95 t307.length co95] rfl tZA ?_; (with_reducible refine (laws_eqStringS.calls k _ _ t313 _ _ t307 false _ ?side1 ?side2 ?side3 ?side4 A10.out).mono ?_); (case side1 => repeat (first | exact (Kd.R_reads' HO315.out).2.2 | (with_reducible refine Kd.C_alloc ?_ _) | (with_reducible refine Kd.C_drewN ?_ _) | (with_reducible refine Kd.C_drew ?_))); (case side2 => exact (Kd.R_reads' HO315.out).2.1); (case side3 => repeat (first | exact (Kd.R_reads' HO309.out).2.2 | (with_reducible refine Kd.C_alloc ?_ _) | (with_reducible refine Kd.C_drewN ?_ _) | (with_reducible refine Kd.C_drew ?_))); (case side4 => exact (Kd.R_reads' HO309.out).2.1); rintro e w' ⟨rfl, ⟨nd, rfl⟩⟩; refine ⟨_, rfl, ?_⟩))
  go_ret
  exact ⟨tZC, bZ⟩
 subst c11
 have H1 : ((laws_toStepS.f k l0).bind fun t317 => ((laws_eqStepS.f k t310 t317).bind fun t320 => (if t320 = true then ((laws_markStepS.f k t310 1).bind fun t321 => (if t321 < 0 then (laws_FnExactNeeded.j0 k l0 a1 t307 t313 true) else ((laws_eqStringS.f k t313 t307).bind fun t322 => (laws_FnExactNeeded.j0 k l0 a1 t307 t313 (!t322))))) else (some false)))) = some r := by rw [if_pos rfl] at H; exact H
 clear H
 have H := H1
 clear H1
 replace H := Option.bind_eq_some_iff.mp H
 obtain ⟨t317, A120, H⟩ := H
 replace H : ((laws_eqStepS.f k t310 t317).bind fun t320 => (if t320 = true then ((laws_markStepS.f k t310 1).bind fun t321 => (if t321 < 0 then (laws_FnExactNeeded.j0 k l0 a1 t307 t313 true) else ((laws_eqStringS.f k t313 t307).bind fun t322 => (laws_FnExactNeeded.j0 k l0 a1 t307 t313 (!t322))))) else (some false))) = some r := H
 have A12 := Aside0.mk A120
 clear A120
 replace H := Option.bind_eq_some_iff.mp H
 obtain ⟨t320, A130, H⟩ := H
 replace H : (if t320 = true then ((laws_markStepS.f k t310 1).bind fun t321 => (if t321 < 0 then (laws_FnExactNeeded.j0 k l0 a1 t307 t313 true) else ((laws_eqStringS.f k t313 t307).bind fun t322 => (laws_FnExactNeeded.j0 k l0 a1 t307 t313 (!t322))))) else (some false)) = some r := H
 have A13 := Aside0.mk A130
 clear A130
 by_cases c14 : t320 = true
 rotate_left
 ·replace c14 := Bool.eq_false_iff.mpr c14
  subst c14
  have H1 : (some false) = some r := by rw [if_neg (show ¬ (false = true) by decide)] at H; exact H
  clear H
  have H := H1
  clear H1
  obtain rfl := Option.some.inj H
  go_enter Try.func7, Try.ntmps7
  go_wp2_with (first | ((with_reducible refine gate_callee (f := 22) rfl ?_); refine goesL_ (some 15) rfl rfl Try.func22 kZ rfl #[.slice A0 l0.length c0, .int .i64 1048576] rfl tZA ?_; (with_reducible refine (laws_szStepS.calls k _ _ l0 1048576 t303 _ ?side1 ?side2 A3.out).mono ?_); (case side1 => repeat (first | exact HR0.out | (with_reducible refine Kd.C_alloc ?_ _) | (with_reducible refine Kd.C_drewN ?_ _) | (with_reducible refine Kd.C_drew ?_))); (case side2 => exact HC0.out); rintro e w75 ⟨rfl, hb⟩; refine ⟨_, rfl, ?_⟩; replace HB := aZ (below_step (lZB HB.out) hb); (try clear hb); (try clear hb2); (try clear hk); (try clear hi)) | ((with_reducible refine gate_callee (f := 24) rfl ?_); refine goesL_ (some 19) rfl rfl Try.func24 kZ rfl #[.slice A0 l0.length c0] rfl tZA ?_; (with_reducible refine (laws_toStepS.calls k _ _ l0 t304 _ ?side1 ?side2 A6.out).mono ?_); (case side1 => repeat (first | exact (Kd.C_below HR0.out HB.out) | (with_reducible refine Kd.C_alloc ?_ _) | (with_reducible refine Kd.C_drewN ?_ _) | (with_reducible refine Kd.C_drew ?_))); (case side2 => exact HC0.out); rintro e w76 ⟨v305, rfl, ho0, hb⟩; refine ⟨_, rfl, ?_⟩; have HO306 := aZ (Kd.S_lower ho0 (below_size (lZB HB.out))); replace HB := aZ (below_step (lZB HB.out) hb); (try clear hb); (try clear hb2); (try clear hk); (try clear hi); (try clear ho0); obtain ⟨Ao77, co77, eo77⟩ := Kd.S_slice HO306.out; subst eo77) | ((with_reducible refine gate_callee (f := 40) rfl ?_); refine goesL_ (some 21) rfl rfl Try.func40 kZ rfl #[.slice Ao77 t304.length co77, .int .i64 a1] rfl tZA ?_; (with_reducible refine (spec_Needed.calls k _ _ t304 a1 t307 _ ?side1 ?side2 A7.out).mono ?_); (case side1 => repeat (first | exact (Kd.S_reads' HO306.out).2.2 | (with_reducible refine Kd.C_alloc ?_ _) | (with_reducible refine Kd.C_drewN ?_ _) | (with_reducible refine Kd.C_drew ?_))); (case side2 => exact (Kd.S_reads' HO306.out).2.1); rintro e w78 ⟨v308, rfl, ho0, hb⟩; refine ⟨_, rfl, ?_⟩; replace HO306 := aZ (Kd.S_elder' (lZS HO306.out) (Kd.R_base ho0) hb); have HO309 := aZ (Kd.R_lower ho0 (below_size (lZB HB.out))); replace HB := aZ (below_step (lZB HB.out) hb); (try clear hb); (try clear hb2); (try clear hk); (try clear hi); (try clear ho0)) | ((with_reducible refine gate_callee (f := 24) rfl ?_); refine goesL_ (some 23) rfl rfl Try.func24 kZ rfl #[.slice A0 l0.length c0] rfl tZA ?_; (with_reducible refine (laws_toStepS.calls k _ _ l0 t310 _ ?side1 ?side2 A8.out).mono ?_); (case side1 => repeat (first | exact (Kd.C_below HR0.out HB.out) | (with_reducible refine Kd.C_alloc ?_ _) | (with_reducible refine Kd.C_drewN ?_ _) | (with_reducible refine Kd.C_drew ?_))); (case side2 => exact HC0.out); rintro e w79 ⟨v311, rfl, ho0, hb⟩; refine ⟨_, rfl, ?_⟩; have HO312 := aZ (Kd.S_lower (Kd.S_new' (Kd.S_new' ho0 (Kd.S_lt (lZS HO306.out))) (Kd.R_lt (lZR HO309.out))) (below_size (lZB HB.out))); replace HO306 := aZ (Kd.S_elder' (lZS HO306.out) (Kd.S_base ho0) hb); replace HO309 := aZ (Kd.R_below (lZR HO309.out) hb); replace HB := aZ (below_step (lZB HB.out) hb); (try clear hb); (try clear hb2); (try clear hk); (try clear hi); (try clear ho0); obtain ⟨Ao80, co80, eo80⟩ := Kd.S_slice HO312.out; subst eo80) | ((with_reducible refine gate_callee (f := 41) rfl ?_); refine goesL_ (some 26) rfl rfl Try.func41 kZ rfl #[.slice Ao80 t310.length co80, .int .i64 a1] rfl tZA ?_; (with_reducible refine (impl_Needed.calls k _ _ t310 a1 t313 _ ?side1 ?side2 A9.out).mono ?_); (case side1 => repeat (first | exact (Kd.S_reads' HO312.out).2.2 | (with_reducible refine Kd.C_alloc ?_ _) | (with_reducible refine Kd.C_drewN ?_ _) | (with_reducible refine Kd.C_drew ?_))); (case side2 => exact (Kd.S_reads' HO312.out).2.1); rintro e w81 ⟨v314, rfl, ho0, hb⟩; refine ⟨_, rfl, ?_⟩; replace HO306 := aZ (Kd.S_elder' (lZS HO306.out) (Kd.R_base ho0) hb); replace HO312 := aZ (Kd.S_elder' (lZS HO312.out) (Kd.R_base ho0) hb); have HO315 := aZ (Kd.R_lower (Kd.R_new' ho0 (Kd.R_lt (lZR HO309.out))) (below_size (lZB HB.out))); replace HO309 := aZ (Kd.R_elder' (lZR HO309.out) (Kd.R_base ho0) hb); replace HB := aZ (below_step (lZB HB.out) hb); (try clear hb); (try clear hb2); (try clear hk); (try clear hi); (try clear ho0); obtain ⟨Ao82, co82, eo82⟩ := Kd.R_slice HO315.out; subst eo82; obtain ⟨Ao83, co83, eo83⟩ := Kd.R_slice HO309.out; subst eo83) | ((with_reducible refine gate_callee (f := 42) rfl ?_); refine goesL_ (some 29) rfl rfl Try.func42 kZ rfl #[.slice Ao82 t313.length co82, .slice Ao83 t307.length co83] rfl tZA ?_; (with_reducible refine (laws_eqStringS.calls k _ _ t313 _ _ t307 true _ ?side1 ?side2 ?side3 ?side4 A10.out).mono ?_); (case side1 => repeat (first | exact (Kd.R_reads' HO315.out).2.2 | (with_reducible refine Kd.C_alloc ?_ _) | (with_reducible refine Kd.C_drewN ?_ _) | (with_reducible refine Kd.C_drew ?_))); (case side2 => exact (Kd.R_reads' HO315.out).2.1); (case side3 => repeat (first | exact (Kd.R_reads' HO309.out).2.2 | (with_reducible refine Kd.C_alloc ?_ _) | (with_reducible refine Kd.C_drewN ?_ _) | (with_reducible refine Kd.C_drew ?_))); (case side4 => exact (Kd.R_reads' HO309.out).2.1); rintro e w' ⟨rfl, ⟨nd, rfl⟩⟩; refine ⟨_, rfl, ?_⟩) | ((with_reducible refine gate_callee (f := 24) rfl ?_); refine goesL_ (some 33) rfl rfl Try.func24 kZ rfl #[.slice A0 l0.length c0] rfl tZA ?_; (with_reducible refine (laws_toStepS.calls k _ _ l0 t317 _ ?side1 ?side2 A12.out).mono ?_); (case side1 => repeat (first | exact (Kd.C_below HR0.out (lZB HB.out)) | (with_reducible refine Kd.C_alloc ?_ _) | (with_reducible refine Kd.C_drewN ?_ _) | (with_reducible refine Kd.C_drew ?_))); (case side2 => exact HC0.out); rintro e w84 ⟨v318, rfl, ho0, hb⟩; refine ⟨_, rfl, ?_⟩; have HO319 := aZ (Kd.S_lower (Kd.S_new' (Kd.S_new' (Kd.S_new' (Kd.S_new' ho0 (Kd.S_lt (lZS HO306.out))) (Kd.R_lt (lZR HO309.out))) (Kd.S_lt (lZS HO312.out))) (Kd.R_lt (lZR HO315.out))) (below_size (lZB HB.out))); replace HO306 := aZ (Kd.S_elder' (lZS HO306.out) (Kd.S_base ho0) hb); replace HO309 := aZ (Kd.R_below (lZR HO309.out) hb); replace HO312 := aZ (Kd.S_elder' (lZS HO312.out) (Kd.S_base ho0) hb); replace HO315 := aZ (Kd.R_below (lZR HO315.out) hb); replace HB := aZ (below_step (lZB HB.out) hb); (try clear hb); (try clear hb2); (try clear hk); (try clear hi); (try clear ho0); obtain ⟨Ao85, co85, eo85⟩ := Kd.S_slice HO319.out; subst eo85) | ((with_reducible refine gate_callee (f := 26) rfl ?_); refine goesL_ (some 34) rfl rfl Try.func26 kZ rfl #[.slice Ao80 t310.length co80, .slice Ao85 t317.length co85] rfl tZA ?_; (with_reducible refine (laws_eqStepS.calls k _ _ t310 _ _ t317 false _ ?side1 ?side2 ?side3 ?side4 A13.out).mono ?_); (case side1 => repeat (first | exact (Kd.S_reads' HO312.out).2.2 | (with_reducible refine Kd.C_alloc ?_ _) | (with_reducible refine Kd.C_drewN ?_ _) | (with_reducible refine Kd.C_drew ?_))); (case side2 => exact (Kd.S_reads' HO312.out).2.1); (case side3 => repeat (first | exact (Kd.S_reads' HO319.out).2.2 | (with_reducible refine Kd.C_alloc ?_ _) | (with_reducible refine Kd.C_drewN ?_ _) | (with_reducible refine Kd.C_drew ?_))); (case side4 => exact (Kd.S_reads' HO319.out).2.1); rintro e w86 ⟨rfl, hb⟩; refine ⟨_, rfl, ?_⟩; replace HO306 := aZ (Kd.S_below (lZS HO306.out) hb); replace HO309 := aZ (Kd.R_below (lZR HO309.out) hb); replace HO312 := aZ (Kd.S_below (lZS HO312.out) hb); replace HO315 := aZ (Kd.R_below (lZR HO315.out) hb); replace HO319 := aZ (Kd.S_below (lZS HO319.out) hb); replace HB := aZ (below_step (lZB HB.out) hb); (try clear hb); (try clear hb2); (try clear hk); (try clear hi)))
  go_ret
  exact ⟨tZC, bZ⟩
 subst c14
 have H1 : ((laws_markStepS.f k t310 1).bind fun t321 => (if t321 < 0 then (laws_FnExactNeeded.j0 k l0 a1 t307 t313 true) else ((laws_eqStringS.f k t313 t307).bind fun t322 => (laws_FnExactNeeded.j0 k l0 a1 t307 t313 (!t322))))) = some r := by rw [if_pos rfl] at H; exact H
 clear H
 have H := H1
 clear H1
 replace H := Option.bind_eq_some_iff.mp H
 obtain ⟨t321, A150, H⟩ := H
 replace H : (if t321 < 0 then (laws_FnExactNeeded.j0 k l0 a1 t307 t313 true) else ((laws_eqStringS.f k t313 t307).bind fun t322 => (laws_FnExactNeeded.j0 k l0 a1 t307 t313 (!t322)))) = some r := H
 have A15 := Aside0.mk A150
 clear A150
 have HC16 := Aside0.mk H
 clear H
 go_enter Try.func7, Try.ntmps7
 go_upto_region 14 with (first | ((with_reducible refine gate_callee (f := 22) rfl ?_); refine goesL_ (some 15) rfl rfl Try.func22 kZ rfl #[.slice A0 l0.length c0, .int .i64 1048576] rfl tZA ?_; (with_reducible refine (laws_szStepS.calls k _ _ l0 1048576 t303 _ ?side1 ?side2 A3.out).mono ?_); (case side1 => repeat (first | exact HR0.out | (with_reducible refine Kd.C_alloc ?_ _) | (with_reducible refine Kd.C_drewN ?_ _) | (with_reducible refine Kd.C_drew ?_))); (case side2 => exact HC0.out); rintro e w17 ⟨rfl, hb⟩; refine ⟨_, rfl, ?_⟩; replace HB := aZ (below_step (lZB HB.out) hb); (try clear hb); (try clear hb2); (try clear hk); (try clear hi)) | ((with_reducible refine gate_callee (f := 24) rfl ?_); refine goesL_ (some 19) rfl rfl Try.func24 kZ rfl #[.slice A0 l0.length c0] rfl tZA ?_; (with_reducible refine (laws_toStepS.calls k _ _ l0 t304 _ ?side1 ?side2 A6.out).mono ?_); (case side1 => repeat (first | exact (Kd.C_below HR0.out HB.out) | (with_reducible refine Kd.C_alloc ?_ _) | (with_reducible refine Kd.C_drewN ?_ _) | (with_reducible refine Kd.C_drew ?_))); (case side2 => exact HC0.out); rintro e w18 ⟨v305, rfl, ho0, hb⟩; refine ⟨_, rfl, ?_⟩; have HO306 := aZ (Kd.S_lower ho0 (below_size (lZB HB.out))); replace HB := aZ (below_step (lZB HB.out) hb); (try clear hb); (try clear hb2); (try clear hk); (try clear hi); (try clear ho0); obtain ⟨Ao19, co19, eo19⟩ := Kd.S_slice HO306.out; subst eo19) | ((with_reducible refine gate_callee (f := 40) rfl ?_); refine goesL_ (some 21) rfl rfl Try.func40 kZ rfl #[.slice Ao19 t304.length co19, .int .i64 a1] rfl tZA ?_; (with_reducible refine (spec_Needed.calls k _ _ t304 a1 t307 _ ?side1 ?side2 A7.out).mono ?_); (case side1 => repeat (first | exact (Kd.S_reads' HO306.out).2.2 | (with_reducible refine Kd.C_alloc ?_ _) | (with_reducible refine Kd.C_drewN ?_ _) | (with_reducible refine Kd.C_drew ?_))); (case side2 => exact (Kd.S_reads' HO306.out).2.1); rintro e w20 ⟨v308, rfl, ho0, hb⟩; refine ⟨_, rfl, ?_⟩; replace HO306 := aZ (Kd.S_elder' (lZS HO306.out) (Kd.R_base ho0) hb); have HO309 := aZ (Kd.R_lower ho0 (below_size (lZB HB.out))); replace HB := aZ (below_step (lZB HB.out) hb); (try clear hb); (try clear hb2); (try clear hk); (try clear hi); (try clear ho0)) | ((with_reducible refine gate_callee (f := 24) rfl ?_); refine goesL_ (some 23) rfl rfl Try.func24 kZ rfl #[.slice A0 l0.length c0] rfl tZA ?_; (with_reducible refine (laws_toStepS.calls k _ _ l0 t310 _ ?side1 ?side2 A8.out).mono ?_); (case side1 => repeat (first | exact (Kd.C_below HR0.out HB.out) | (with_reducible refine Kd.C_alloc ?_ _) | (with_reducible refine Kd.C_drewN ?_ _) | (with_reducible refine Kd.C_drew ?_))); (case side2 => exact HC0.out); rintro e w21 ⟨v311, rfl, ho0, hb⟩; refine ⟨_, rfl, ?_⟩; have HO312 := aZ (Kd.S_lower (Kd.S_new' (Kd.S_new' ho0 (Kd.S_lt (lZS HO306.out))) (Kd.R_lt (lZR HO309.out))) (below_size (lZB HB.out))); replace HO306 := aZ (Kd.S_elder' (lZS HO306.out) (Kd.S_base ho0) hb); replace HO309 := aZ (Kd.R_below (lZR HO309.out) hb); replace HB := aZ (below_step (lZB HB.out) hb); (try clear hb); (try clear hb2); (try clear hk); (try clear hi); (try clear ho0); obtain ⟨Ao22, co22, eo22⟩ := Kd.S_slice HO312.out; subst eo22) | ((with_reducible refine gate_callee (f := 41) rfl ?_); refine goesL_ (some 26) rfl rfl Try.func41 kZ rfl #[.slice Ao22 t310.length co22, .int .i64 a1] rfl tZA ?_; (with_reducible refine (impl_Needed.calls k _ _ t310 a1 t313 _ ?side1 ?side2 A9.out).mono ?_); (case side1 => repeat (first | exact (Kd.S_reads' HO312.out).2.2 | (with_reducible refine Kd.C_alloc ?_ _) | (with_reducible refine Kd.C_drewN ?_ _) | (with_reducible refine Kd.C_drew ?_))); (case side2 => exact (Kd.S_reads' HO312.out).2.1); rintro e w23 ⟨v314, rfl, ho0, hb⟩; refine ⟨_, rfl, ?_⟩; replace HO306 := aZ (Kd.S_elder' (lZS HO306.out) (Kd.R_base ho0) hb); replace HO312 := aZ (Kd.S_elder' (lZS HO312.out) (Kd.R_base ho0) hb); have HO315 := aZ (Kd.R_lower (Kd.R_new' ho0 (Kd.R_lt (lZR HO309.out))) (below_size (lZB HB.out))); replace HO309 := aZ (Kd.R_elder' (lZR HO309.out) (Kd.R_base ho0) hb); replace HB := aZ (below_step (lZB HB.out) hb); (try clear hb); (try clear hb2); (try clear hk); (try clear hi); (try clear ho0); obtain ⟨Ao24, co24, eo24⟩ := Kd.R_slice HO315.out; subst eo24; obtain ⟨Ao25, co25, eo25⟩ := Kd.R_slice HO309.out; subst eo25) | ((with_reducible refine gate_callee (f := 42) rfl ?_); refine goesL_ (some 29) rfl rfl Try.func42 kZ rfl #[.slice Ao24 t313.length co24, .slice Ao25 t307.length co25] rfl tZA ?_; (with_reducible refine (laws_eqStringS.calls k _ _ t313 _ _ t307 true _ ?side1 ?side2 ?side3 ?side4 A10.out).mono ?_); (case side1 => repeat (first | exact (Kd.R_reads' HO315.out).2.2 | (with_reducible refine Kd.C_alloc ?_ _) | (with_reducible refine Kd.C_drewN ?_ _) | (with_reducible refine Kd.C_drew ?_))); (case side2 => exact (Kd.R_reads' HO315.out).2.1); (case side3 => repeat (first | exact (Kd.R_reads' HO309.out).2.2 | (with_reducible refine Kd.C_alloc ?_ _) | (with_reducible refine Kd.C_drewN ?_ _) | (with_reducible refine Kd.C_drew ?_))); (case side4 => exact (Kd.R_reads' HO309.out).2.1); rintro e w' ⟨rfl, ⟨nd, rfl⟩⟩; refine ⟨_, rfl, ?_⟩) | ((with_reducible refine gate_callee (f := 24) rfl ?_); refine goesL_ (some 33) rfl rfl Try.func24 kZ rfl #[.slice A0 l0.length c0] rfl tZA ?_; (with_reducible refine (laws_toStepS.calls k _ _ l0 t317 _ ?side1 ?side2 A12.out).mono ?_); (case side1 => repeat (first | exact (Kd.C_below HR0.out (lZB HB.out)) | (with_reducible refine Kd.C_alloc ?_ _) | (with_reducible refine Kd.C_drewN ?_ _) | (with_reducible refine Kd.C_drew ?_))); (case side2 => exact HC0.out); rintro e w26 ⟨v318, rfl, ho0, hb⟩; refine ⟨_, rfl, ?_⟩; have HO319 := aZ (Kd.S_lower (Kd.S_new' (Kd.S_new' (Kd.S_new' (Kd.S_new' ho0 (Kd.S_lt (lZS HO306.out))) (Kd.R_lt (lZR HO309.out))) (Kd.S_lt (lZS HO312.out))) (Kd.R_lt (lZR HO315.out))) (below_size (lZB HB.out))); replace HO306 := aZ (Kd.S_elder' (lZS HO306.out) (Kd.S_base ho0) hb); replace HO309 := aZ (Kd.R_below (lZR HO309.out) hb); replace HO312 := aZ (Kd.S_elder' (lZS HO312.out) (Kd.S_base ho0) hb); replace HO315 := aZ (Kd.R_below (lZR HO315.out) hb); replace HB := aZ (below_step (lZB HB.out) hb); (try clear hb); (try clear hb2); (try clear hk); (try clear hi); (try clear ho0); obtain ⟨Ao27, co27, eo27⟩ := Kd.S_slice HO319.out; subst eo27) | ((with_reducible refine gate_callee (f := 26) rfl ?_); refine goesL_ (some 34) rfl rfl Try.func26 kZ rfl #[.slice Ao22 t310.length co22, .slice Ao27 t317.length co27] rfl tZA ?_; (with_reducible refine (laws_eqStepS.calls k _ _ t310 _ _ t317 true _ ?side1 ?side2 ?side3 ?side4 A13.out).mono ?_); (case side1 => repeat (first | exact (Kd.S_reads' HO312.out).2.2 | (with_reducible refine Kd.C_alloc ?_ _) | (with_reducible refine Kd.C_drewN ?_ _) | (with_reducible refine Kd.C_drew ?_))); (case side2 => exact (Kd.S_reads' HO312.out).2.1); (case side3 => repeat (first | exact (Kd.S_reads' HO319.out).2.2 | (with_reducible refine Kd.C_alloc ?_ _) | (with_reducible refine Kd.C_drewN ?_ _) | (with_reducible refine Kd.C_drew ?_))); (case side4 => exact (Kd.S_reads' HO319.out).2.1); rintro e w28 ⟨rfl, hb⟩; refine ⟨_, rfl, ?_⟩; replace HO306 := aZ (Kd.S_below (lZS HO306.out) hb); replace HO309 := aZ (Kd.R_below (lZR HO309.out) hb); replace HO312 := aZ (Kd.S_below (lZS HO312.out) hb); replace HO315 := aZ (Kd.R_below (lZR HO315.out) hb); replace HO319 := aZ (Kd.S_below (lZS HO319.out) hb); replace HB := aZ (below_step (lZB HB.out) hb); (try clear hb); (try clear hb2); (try clear hk); (try clear hi)) | ((with_reducible refine gate_callee (f := 38) rfl ?_); refine goesL_ (some 38) rfl rfl Try.func38 kZ rfl #[.slice Ao22 t310.length co22, .int .i64 1] rfl (by (try simp only [List.map_toArray, List.map_cons, List.map_nil]); first | done | rfl) ?_; (refine (laws_markStepS.calls k _ (.slice Ao22 t310.length co22) t310 1 t321 w.heap.size w _ (lZB HB.out) (fun _ hk_ => hk_.2.1) (Kd.R_bound ((Kd.S_R (lZS HO312.out)))) A15.out).mono ?_); rintro e w29 ⟨rfl, hb, hs_⟩; refine ⟨_, rfl, ?_⟩; replace HO309 := aZ (Kd.R_markT rfl (lZR HO309.out) hs_.kept (fun k_ hk_ => hk_.1.1.1.2)); replace HO315 := aZ (Kd.R_markT rfl (lZR HO315.out) hs_.kept (fun k_ hk_ => hk_.1.1.2)); replace HB := aZ (hb); clear HO306 HO312 HO319; clear hb hs_))
 (try simp only [Act.put, sZ1, sZ2, sZ3])
 go_cut [46] (fun v46 wc => ∃ (kq : Nat) (x46_15 : Bool), v46 = .bool x46_15 ∧ Aside0 (laws_FnExactNeeded.j0 kq l0 a1 t307 t313 x46_15 = some r) ∧ Aside0 (kq ≤ k) ∧ Aside0 (Kd.R Kd.string 9 wc w.heap.size (fun k_ => some k_ ≠ ((.slice Ao24 t313.length co24) : Value).ownBlock) (.slice Ao25 t307.length co25) t307) ∧ Aside0 (Kd.R Kd.string 9 wc w.heap.size (fun k_ => some k_ ≠ ((.slice Ao25 t307.length co25) : Value).ownBlock) (.slice Ao24 t313.length co24) t313) ∧ Aside0 (Below w.heap.size w wc))
 case first =>
  have H := HC16.out
  clear HC16
  by_cases c30 : t321 < 0
  ·rw [if_pos c30] at H
   have c30b0 := decide_eq_true c30
   clear c30
   (first | rw [c30b0] | (simp only [i64_w, i32_w]; rw [c30b0]) | skip)
   have H' := Aside0.mk H
   clear H
   go_wp2
   go_meet
   case rel => exact ⟨_, (true), tZB, H', ⟨by first | omega | exact Nat.le_refl _⟩, ⟨by (with_reducible repeat (first | apply Kd.R_alloc | apply Kd.R_drewN | apply Kd.R_drew)); exact Kd.R_mono HO309.out (fun _ hk => hk.2)⟩, ⟨by (with_reducible repeat (first | apply Kd.R_alloc | apply Kd.R_drewN | apply Kd.R_drew)); exact Kd.R_mono HO315.out (fun _ hk => hk.2)⟩, ⟨bZ⟩⟩
  rw [if_neg c30] at H
  have c30b0 := decide_eq_false c30
  clear c30
  (first | rw [c30b0] | (simp only [i64_w, i32_w]; rw [c30b0]) | skip)
  replace H := Option.bind_eq_some_iff.mp H
  obtain ⟨t322, A310, H⟩ := H
  replace H : (laws_FnExactNeeded.j0 k l0 a1 t307 t313 (!t322)) = some r := H
  have A31 := Aside0.mk A310
  clear A310
  have H' := Aside0.mk H
  clear H
  go_wp2_with (first | (go_at_call 42; (with_reducible refine (laws_eqStringS.calls k _ _ t313 _ _ t307 t322 _ ?side1 ?side2 ?side3 ?side4 A31.out).mono ?_); (case side1 => repeat (first | exact (Kd.R_reads' HO315.out).2.2 | (with_reducible refine Kd.C_alloc ?_ _) | (with_reducible refine Kd.C_drewN ?_ _) | (with_reducible refine Kd.C_drew ?_))); (case side2 => exact (Kd.R_reads' HO315.out).2.1); (case side3 => repeat (first | exact (Kd.R_reads' HO309.out).2.2 | (with_reducible refine Kd.C_alloc ?_ _) | (with_reducible refine Kd.C_drewN ?_ _) | (with_reducible refine Kd.C_drew ?_))); (case side4 => exact (Kd.R_reads' HO309.out).2.1); rintro e w' ⟨rfl, ⟨nd, rfl⟩⟩))
  go_meet
  case rel => exact ⟨_, (!t322), tZB, H', ⟨by first | omega | exact Nat.le_refl _⟩, ⟨by (with_reducible repeat (first | apply Kd.R_alloc | apply Kd.R_drewN | apply Kd.R_drew)); exact Kd.R_mono HO309.out (fun _ hk => hk.2)⟩, ⟨by (with_reducible repeat (first | apply Kd.R_alloc | apply Kd.R_drewN | apply Kd.R_drew)); exact Kd.R_mono HO315.out (fun _ hk => hk.2)⟩, ⟨bZ⟩⟩
 case rest =>
  clear HC16
  try clear c1
  try clear c2
  try clear p2
  try clear c3
  try clear c4
  try clear c4b0
  try clear c7
  try clear c11
  try clear c14
  try clear c22
  try clear c24
  try clear c26
  try clear c30
  try clear c30b0
  obtain ⟨kq, x46_15, rfl, HA, HJ15, HO_6, HO_8, HB⟩ := hcut
  cases kq with
  | zero => exact absurd HA.out (by simp [laws_FnExactNeeded.j0])
  | succ kj15 =>
   have H := HA.out
   clear HA
   simp only [laws_FnExactNeeded.j0] at H
   by_cases c32 : x46_15 = true
   ·subst c32
    have H1 : (some false) = some r := by rw [if_pos rfl] at H; exact H
    clear H
    have H := H1
    clear H1
    obtain rfl := Option.some.inj H
    go_wp2
    go_ret
    exact ⟨tZC, bZ⟩
   replace c32 := Bool.eq_false_iff.mpr c32
   subst c32
   have H1 : ((laws_markStringS.f kj15 t313 1).bind fun bt323 => ((laws_heldStringS.f kj15 bt323.2 1).bind fun t325 => (if t325 < 0 then (some false) else (if t325 = bt323.1 then ((laws_toStepS.f kj15 l0).bind fun t326 => ((impl_Needed.f kj15 t326 a1).bind fun t329 => ((laws_eqStringS.f kj15 t329 t307).bind fun t332 => (if t332 = true then ((laws_heldStringS.f kj15 bt323.2 1).bind fun t333 => (if t333 < 0 then (some false) else (if t333 = bt323.1 then (some true) else (some false)))) else (some false))))) else (some false))))) = some r := by rw [if_neg (show ¬ (false = true) by decide)] at H; exact H
   clear H
   have H := H1
   clear H1
   replace H := Option.bind_eq_some_iff.mp H
   obtain ⟨⟨t323, t324⟩, A330, H⟩ := H
   replace H : ((laws_heldStringS.f kj15 t324 1).bind fun t325 => (if t325 < 0 then (some false) else (if t325 = t323 then ((laws_toStepS.f kj15 l0).bind fun t326 => ((impl_Needed.f kj15 t326 a1).bind fun t329 => ((laws_eqStringS.f kj15 t329 t307).bind fun t332 => (if t332 = true then ((laws_heldStringS.f kj15 t324 1).bind fun t333 => (if t333 < 0 then (some false) else (if t333 = t323 then (some true) else (some false)))) else (some false))))) else (some false)))) = some r := H
   have A33 := Aside0.mk A330
   clear A330
   replace H := Option.bind_eq_some_iff.mp H
   obtain ⟨t325, A340, H⟩ := H
   replace H : (if t325 < 0 then (some false) else (if t325 = t323 then ((laws_toStepS.f kj15 l0).bind fun t326 => ((impl_Needed.f kj15 t326 a1).bind fun t329 => ((laws_eqStringS.f kj15 t329 t307).bind fun t332 => (if t332 = true then ((laws_heldStringS.f kj15 t324 1).bind fun t333 => (if t333 < 0 then (some false) else (if t333 = t323 then (some true) else (some false)))) else (some false))))) else (some false))) = some r := H
   have A34 := Aside0.mk A340
   clear A340
   by_cases c35 : t325 < 0
   ·rw [if_pos c35] at H
    have c35b0 := decide_eq_true c35
    clear c35
    obtain rfl := Option.some.inj H
    go_wp2_with (first | ((with_reducible refine gate_callee (f := 43) rfl ?_); refine goesL_ (some 49) rfl rfl Try.func43 kZ rfl #[.slice Ao24 t313.length co24, .int .i64 1] rfl tZA ?_; (with_reducible refine (laws_markStringS.calls kj15 (fun k_ => some k_ = (.slice Ao24 t313.length co24 : Value).ownBlock) (.slice Ao24 t313.length co24) t313 1 t323 t324 w _ ?side1 ?side2 A33.out).mono ?_); (case side1 => repeat (first | (with_reducible first | exact HB.out | apply below_alloc | apply pw_below_drewN | apply below_drew1) | exact HB.out)); (case side2 => exact Kd.R_tight rfl HO_8.out); rintro e w36 ⟨rfl, hy0, hb, hkp⟩; refine ⟨_, rfl, ?_⟩; replace HO_6 := aZ (Kd.R_mono (ok' := fun k_ => some k_ ≠ (.slice Ao24 t313.length co24 : Value).ownBlock) (Kd.R_keptB (HO_6.out) hkp (fun k_ hk_ hs_ => (hk_) hs_)) (fun k_ hk_ => hk_.1)); replace HO_8 := aZ (Kd.R_reok rfl hy0 (fun k_ e_ => HO_8.out.1 k_ e_)); replace HB := aZ (hb); (try clear hb); (try clear hkp); (try clear hy0)) | ((with_reducible refine gate_callee (f := 44) rfl ?_); refine goesL_ (some 52) rfl rfl Try.func44 kZ rfl #[.slice Ao24 t324.length co24, .int .i64 1] rfl (by (try simp only [List.map_toArray, List.map_cons, List.map_nil]); first | done | (rw [show t324.length = t313.length from (Kd.R_reads' HO_8.out).1.symm] <;> rfl) | rfl | (simp only [List.length_drop, List.length_take]; rfl)) ?_; (with_reducible refine (laws_heldStringS.calls kj15 _ _ t324 1 t325 _ ?side1 ?side2 A34.out).mono ?_); (case side1 => repeat (first | exact (Kd.R_reads' HO_8.out).2.2 | (with_reducible refine Kd.C_alloc ?_ _) | (with_reducible refine Kd.C_drewN ?_ _) | (with_reducible refine Kd.C_drew ?_))); (case side2 => rw [show t324.length = t313.length from (Kd.R_reads' HO_8.out).1.symm]; exact (Kd.R_reads' HO_8.out).2.1); rintro e w37 ⟨rfl, hb⟩; refine ⟨_, rfl, ?_⟩; replace HO_6 := aZ (Kd.R_below (lZR HO_6.out) hb); replace HO_8 := aZ (Kd.R_below (lZR HO_8.out) hb); replace HB := aZ (below_step (lZB HB.out) hb); (try clear hb); (try clear hb2); (try clear hk); (try clear hi)))
    go_ret
    exact ⟨tZC, bZ⟩
   rw [if_neg c35] at H
   have c35b0 := decide_eq_false c35
   clear c35
   by_cases c38 : t325 = t323
   rotate_left
   ·rw [if_neg c38] at H
    have c38b0 : (t325 == t323) = false := beq_eq_false_iff_ne.mpr c38
    have c38b1 : (t325 != t323) = true := bne_iff_ne.mpr c38
    obtain rfl := Option.some.inj H
    go_wp2_with (first | ((with_reducible refine gate_callee (f := 43) rfl ?_); refine goesL_ (some 49) rfl rfl Try.func43 kZ rfl #[.slice Ao24 t313.length co24, .int .i64 1] rfl tZA ?_; (with_reducible refine (laws_markStringS.calls kj15 (fun k_ => some k_ = (.slice Ao24 t313.length co24 : Value).ownBlock) (.slice Ao24 t313.length co24) t313 1 t323 t324 w _ ?side1 ?side2 A33.out).mono ?_); (case side1 => repeat (first | (with_reducible first | exact HB.out | apply below_alloc | apply pw_below_drewN | apply below_drew1) | exact HB.out)); (case side2 => exact Kd.R_tight rfl HO_8.out); rintro e w73 ⟨rfl, hy0, hb, hkp⟩; refine ⟨_, rfl, ?_⟩; replace HO_6 := aZ (Kd.R_mono (ok' := fun k_ => some k_ ≠ (.slice Ao24 t313.length co24 : Value).ownBlock) (Kd.R_keptB (HO_6.out) hkp (fun k_ hk_ hs_ => (hk_) hs_)) (fun k_ hk_ => hk_.1)); replace HO_8 := aZ (Kd.R_reok rfl hy0 (fun k_ e_ => HO_8.out.1 k_ e_)); replace HB := aZ (hb); (try clear hb); (try clear hkp); (try clear hy0)) | ((with_reducible refine gate_callee (f := 44) rfl ?_); refine goesL_ (some 52) rfl rfl Try.func44 kZ rfl #[.slice Ao24 t324.length co24, .int .i64 1] rfl (by (try simp only [List.map_toArray, List.map_cons, List.map_nil]); first | done | (rw [show t324.length = t313.length from (Kd.R_reads' HO_8.out).1.symm] <;> rfl) | rfl | (simp only [List.length_drop, List.length_take]; rfl)) ?_; (with_reducible refine (laws_heldStringS.calls kj15 _ _ t324 1 t325 _ ?side1 ?side2 A34.out).mono ?_); (case side1 => repeat (first | exact (Kd.R_reads' HO_8.out).2.2 | (with_reducible refine Kd.C_alloc ?_ _) | (with_reducible refine Kd.C_drewN ?_ _) | (with_reducible refine Kd.C_drew ?_))); (case side2 => rw [show t324.length = t313.length from (Kd.R_reads' HO_8.out).1.symm]; exact (Kd.R_reads' HO_8.out).2.1); rintro e w74 ⟨rfl, hb⟩; refine ⟨_, rfl, ?_⟩; replace HO_6 := aZ (Kd.R_below (lZR HO_6.out) hb); replace HO_8 := aZ (Kd.R_below (lZR HO_8.out) hb); replace HB := aZ (below_step (lZB HB.out) hb); (try clear hb); (try clear hb2); (try clear hk); (try clear hi)))
    go_ret
    exact ⟨tZC, bZ⟩
   rw [if_pos c38] at H
   have c38b0 : (t325 == t323) = true := beq_iff_eq.mpr c38
   have c38b1 : (t325 != t323) = false := bne_eq_false_iff_eq.mpr c38
   clear c38
   replace H := Option.bind_eq_some_iff.mp H
   obtain ⟨t326, A390, H⟩ := H
   replace H : ((impl_Needed.f kj15 t326 a1).bind fun t329 => ((laws_eqStringS.f kj15 t329 t307).bind fun t332 => (if t332 = true then ((laws_heldStringS.f kj15 t324 1).bind fun t333 => (if t333 < 0 then (some false) else (if t333 = t323 then (some true) else (some false)))) else (some false)))) = some r := H
   have A39 := Aside0.mk A390
   clear A390
   replace H := Option.bind_eq_some_iff.mp H
   obtain ⟨t329, A400, H⟩ := H
   replace H : ((laws_eqStringS.f kj15 t329 t307).bind fun t332 => (if t332 = true then ((laws_heldStringS.f kj15 t324 1).bind fun t333 => (if t333 < 0 then (some false) else (if t333 = t323 then (some true) else (some false)))) else (some false))) = some r := H
   have A40 := Aside0.mk A400
   clear A400
   replace H := Option.bind_eq_some_iff.mp H
   obtain ⟨t332, A410, H⟩ := H
   replace H : (if t332 = true then ((laws_heldStringS.f kj15 t324 1).bind fun t333 => (if t333 < 0 then (some false) else (if t333 = t323 then (some true) else (some false)))) else (some false)) = some r := H
   have A41 := Aside0.mk A410
   clear A410
   by_cases c42 : t332 = true
   rotate_left
   ·replace c42 := Bool.eq_false_iff.mpr c42
    subst c42
    have H1 : (some false) = some r := by rw [if_neg (show ¬ (false = true) by decide)] at H; exact H
    clear H
    have H := H1
    clear H1
    obtain rfl := Option.some.inj H
    go_wp2_with (first | ((with_reducible refine gate_callee (f := 43) rfl ?_); refine goesL_ (some 49) rfl rfl Try.func43 kZ rfl #[.slice Ao24 t313.length co24, .int .i64 1] rfl tZA ?_; (with_reducible refine (laws_markStringS.calls kj15 (fun k_ => some k_ = (.slice Ao24 t313.length co24 : Value).ownBlock) (.slice Ao24 t313.length co24) t313 1 t323 t324 w _ ?side1 ?side2 A33.out).mono ?_); (case side1 => repeat (first | (with_reducible first | exact HB.out | apply below_alloc | apply pw_below_drewN | apply below_drew1) | exact HB.out)); (case side2 => exact Kd.R_tight rfl HO_8.out); rintro e w67 ⟨rfl, hy0, hb, hkp⟩; refine ⟨_, rfl, ?_⟩; replace HO_6 := aZ (Kd.R_mono (ok' := fun k_ => some k_ ≠ (.slice Ao24 t313.length co24 : Value).ownBlock) (Kd.R_keptB (HO_6.out) hkp (fun k_ hk_ hs_ => (hk_) hs_)) (fun k_ hk_ => hk_.1)); replace HO_8 := aZ (Kd.R_reok rfl hy0 (fun k_ e_ => HO_8.out.1 k_ e_)); replace HB := aZ (hb); (try clear hb); (try clear hkp); (try clear hy0)) | ((with_reducible refine gate_callee (f := 44) rfl ?_); refine goesL_ (some 52) rfl rfl Try.func44 kZ rfl #[.slice Ao24 t324.length co24, .int .i64 1] rfl (by (try simp only [List.map_toArray, List.map_cons, List.map_nil]); first | done | (rw [show t324.length = t313.length from (Kd.R_reads' HO_8.out).1.symm] <;> rfl) | rfl | (simp only [List.length_drop, List.length_take]; rfl)) ?_; (with_reducible refine (laws_heldStringS.calls kj15 _ _ t324 1 t325 _ ?side1 ?side2 A34.out).mono ?_); (case side1 => repeat (first | exact (Kd.R_reads' HO_8.out).2.2 | (with_reducible refine Kd.C_alloc ?_ _) | (with_reducible refine Kd.C_drewN ?_ _) | (with_reducible refine Kd.C_drew ?_))); (case side2 => rw [show t324.length = t313.length from (Kd.R_reads' HO_8.out).1.symm]; exact (Kd.R_reads' HO_8.out).2.1); rintro e w68 ⟨rfl, hb⟩; refine ⟨_, rfl, ?_⟩; replace HO_6 := aZ (Kd.R_below (lZR HO_6.out) hb); replace HO_8 := aZ (Kd.R_below (lZR HO_8.out) hb); replace HB := aZ (below_step (lZB HB.out) hb); (try clear hb); (try clear hb2); (try clear hk); (try clear hi)) | ((with_reducible refine gate_callee (f := 24) rfl ?_); refine goesL_ (some 59) rfl rfl Try.func24 kZ rfl #[.slice A0 l0.length c0] rfl tZA ?_; (with_reducible refine (laws_toStepS.calls kj15 _ _ l0 t326 _ ?side1 ?side2 A39.out).mono ?_); (case side1 => repeat (first | exact (Kd.C_below HR0.out HB.out) | (with_reducible refine Kd.C_alloc ?_ _) | (with_reducible refine Kd.C_drewN ?_ _) | (with_reducible refine Kd.C_drew ?_))); (case side2 => exact HC0.out); rintro e w69 ⟨v327, rfl, ho0, hb⟩; refine ⟨_, rfl, ?_⟩; have HO328 := aZ (Kd.S_lower (Kd.S_new' (Kd.S_new' ho0 (Kd.R_lt (lZR HO_6.out))) (Kd.R_lt (lZR HO_8.out))) (below_size (lZB HB.out))); replace HO_6 := aZ (Kd.R_below (lZR HO_6.out) hb); replace HO_8 := aZ (Kd.R_below (lZR HO_8.out) hb); replace HB := aZ (below_step (lZB HB.out) hb); (try clear hb); (try clear hb2); (try clear hk); (try clear hi); (try clear ho0); obtain ⟨Ao70, co70, eo70⟩ := Kd.S_slice HO328.out; subst eo70) | ((with_reducible refine gate_callee (f := 41) rfl ?_); refine goesL_ (some 61) rfl rfl Try.func41 kZ rfl #[.slice Ao70 t326.length co70, .int .i64 a1] rfl tZA ?_; (with_reducible refine (impl_Needed.calls kj15 _ _ t326 a1 t329 _ ?side1 ?side2 A40.out).mono ?_); (case side1 => repeat (first | exact (Kd.S_reads' HO328.out).2.2 | (with_reducible refine Kd.C_alloc ?_ _) | (with_reducible refine Kd.C_drewN ?_ _) | (with_reducible refine Kd.C_drew ?_))); (case side2 => exact (Kd.S_reads' HO328.out).2.1); rintro e w71 ⟨v330, rfl, ho0, hb⟩; refine ⟨_, rfl, ?_⟩; replace HO328 := aZ (Kd.S_elder' (lZS HO328.out) (Kd.R_base ho0) hb); have HO331 := aZ (Kd.R_lower (Kd.R_new' (Kd.R_new' ho0 (Kd.R_lt (lZR HO_6.out))) (Kd.R_lt (lZR HO_8.out))) (below_size (lZB HB.out))); replace HO_6 := aZ (Kd.R_elder' (lZR HO_6.out) (Kd.R_base ho0) hb); replace HO_8 := aZ (Kd.R_elder' (lZR HO_8.out) (Kd.R_base ho0) hb); replace HB := aZ (below_step (lZB HB.out) hb); (try clear hb); (try clear hb2); (try clear hk); (try clear hi); (try clear ho0); obtain ⟨Ao72, co72, eo72⟩ := Kd.R_slice HO331.out; subst eo72) | ((with_reducible refine gate_callee (f := 42) rfl ?_); refine goesL_ (some 64) rfl rfl Try.func42 kZ rfl #[.slice Ao72 t329.length co72, .slice Ao25 t307.length co25] rfl tZA ?_; (with_reducible refine (laws_eqStringS.calls kj15 _ _ t329 _ _ t307 false _ ?side1 ?side2 ?side3 ?side4 A41.out).mono ?_); (case side1 => repeat (first | exact (Kd.R_reads' HO331.out).2.2 | (with_reducible refine Kd.C_alloc ?_ _) | (with_reducible refine Kd.C_drewN ?_ _) | (with_reducible refine Kd.C_drew ?_))); (case side2 => exact (Kd.R_reads' HO331.out).2.1); (case side3 => repeat (first | exact (Kd.R_reads' HO_6.out).2.2 | (with_reducible refine Kd.C_alloc ?_ _) | (with_reducible refine Kd.C_drewN ?_ _) | (with_reducible refine Kd.C_drew ?_))); (case side4 => exact (Kd.R_reads' HO_6.out).2.1); rintro e w' ⟨rfl, ⟨nd, rfl⟩⟩; refine ⟨_, rfl, ?_⟩))
    go_ret
    exact ⟨tZC, bZ⟩
   subst c42
   have H1 : ((laws_heldStringS.f kj15 t324 1).bind fun t333 => (if t333 < 0 then (some false) else (if t333 = t323 then (some true) else (some false)))) = some r := by rw [if_pos rfl] at H; exact H
   clear H
   have H := H1
   clear H1
   replace H := Option.bind_eq_some_iff.mp H
   obtain ⟨t333, A430, H⟩ := H
   replace H : (if t333 < 0 then (some false) else (if t333 = t323 then (some true) else (some false))) = some r := H
   have A43 := Aside0.mk A430
   clear A430
   by_cases c44 : t333 < 0
   ·rw [if_pos c44] at H
    have c44b0 := decide_eq_true c44
    clear c44
    obtain rfl := Option.some.inj H
    go_wp2_with (first | ((with_reducible refine gate_callee (f := 43) rfl ?_); refine goesL_ (some 49) rfl rfl Try.func43 kZ rfl #[.slice Ao24 t313.length co24, .int .i64 1] rfl tZA ?_; (with_reducible refine (laws_markStringS.calls kj15 (fun k_ => some k_ = (.slice Ao24 t313.length co24 : Value).ownBlock) (.slice Ao24 t313.length co24) t313 1 t323 t324 w _ ?side1 ?side2 A33.out).mono ?_); (case side1 => repeat (first | (with_reducible first | exact HB.out | apply below_alloc | apply pw_below_drewN | apply below_drew1) | exact HB.out)); (case side2 => exact Kd.R_tight rfl HO_8.out); rintro e w45 ⟨rfl, hy0, hb, hkp⟩; refine ⟨_, rfl, ?_⟩; replace HO_6 := aZ (Kd.R_mono (ok' := fun k_ => some k_ ≠ (.slice Ao24 t313.length co24 : Value).ownBlock) (Kd.R_keptB (HO_6.out) hkp (fun k_ hk_ hs_ => (hk_) hs_)) (fun k_ hk_ => hk_.1)); replace HO_8 := aZ (Kd.R_reok rfl hy0 (fun k_ e_ => HO_8.out.1 k_ e_)); replace HB := aZ (hb); (try clear hb); (try clear hkp); (try clear hy0)) | ((with_reducible refine gate_callee (f := 44) rfl ?_); refine goesL_ (some 52) rfl rfl Try.func44 kZ rfl #[.slice Ao24 t324.length co24, .int .i64 1] rfl (by (try simp only [List.map_toArray, List.map_cons, List.map_nil]); first | done | (rw [show t324.length = t313.length from (Kd.R_reads' HO_8.out).1.symm] <;> rfl) | rfl | (simp only [List.length_drop, List.length_take]; rfl)) ?_; (with_reducible refine (laws_heldStringS.calls kj15 _ _ t324 1 t325 _ ?side1 ?side2 A34.out).mono ?_); (case side1 => repeat (first | exact (Kd.R_reads' HO_8.out).2.2 | (with_reducible refine Kd.C_alloc ?_ _) | (with_reducible refine Kd.C_drewN ?_ _) | (with_reducible refine Kd.C_drew ?_))); (case side2 => rw [show t324.length = t313.length from (Kd.R_reads' HO_8.out).1.symm]; exact (Kd.R_reads' HO_8.out).2.1); rintro e w46 ⟨rfl, hb⟩; refine ⟨_, rfl, ?_⟩; replace HO_6 := aZ (Kd.R_below (lZR HO_6.out) hb); replace HO_8 := aZ (Kd.R_below (lZR HO_8.out) hb); replace HB := aZ (below_step (lZB HB.out) hb); (try clear hb); (try clear hb2); (try clear hk); (try clear hi)) | ((with_reducible refine gate_callee (f := 24) rfl ?_); refine goesL_ (some 59) rfl rfl Try.func24 kZ rfl #[.slice A0 l0.length c0] rfl tZA ?_; (with_reducible refine (laws_toStepS.calls kj15 _ _ l0 t326 _ ?side1 ?side2 A39.out).mono ?_); (case side1 => repeat (first | exact (Kd.C_below HR0.out HB.out) | (with_reducible refine Kd.C_alloc ?_ _) | (with_reducible refine Kd.C_drewN ?_ _) | (with_reducible refine Kd.C_drew ?_))); (case side2 => exact HC0.out); rintro e w47 ⟨v327, rfl, ho0, hb⟩; refine ⟨_, rfl, ?_⟩; have HO328 := aZ (Kd.S_lower (Kd.S_new' (Kd.S_new' ho0 (Kd.R_lt (lZR HO_6.out))) (Kd.R_lt (lZR HO_8.out))) (below_size (lZB HB.out))); replace HO_6 := aZ (Kd.R_below (lZR HO_6.out) hb); replace HO_8 := aZ (Kd.R_below (lZR HO_8.out) hb); replace HB := aZ (below_step (lZB HB.out) hb); (try clear hb); (try clear hb2); (try clear hk); (try clear hi); (try clear ho0); obtain ⟨Ao48, co48, eo48⟩ := Kd.S_slice HO328.out; subst eo48) | ((with_reducible refine gate_callee (f := 41) rfl ?_); refine goesL_ (some 61) rfl rfl Try.func41 kZ rfl #[.slice Ao48 t326.length co48, .int .i64 a1] rfl tZA ?_; (with_reducible refine (impl_Needed.calls kj15 _ _ t326 a1 t329 _ ?side1 ?side2 A40.out).mono ?_); (case side1 => repeat (first | exact (Kd.S_reads' HO328.out).2.2 | (with_reducible refine Kd.C_alloc ?_ _) | (with_reducible refine Kd.C_drewN ?_ _) | (with_reducible refine Kd.C_drew ?_))); (case side2 => exact (Kd.S_reads' HO328.out).2.1); rintro e w49 ⟨v330, rfl, ho0, hb⟩; refine ⟨_, rfl, ?_⟩; replace HO328 := aZ (Kd.S_elder' (lZS HO328.out) (Kd.R_base ho0) hb); have HO331 := aZ (Kd.R_lower (Kd.R_new' (Kd.R_new' ho0 (Kd.R_lt (lZR HO_6.out))) (Kd.R_lt (lZR HO_8.out))) (below_size (lZB HB.out))); replace HO_6 := aZ (Kd.R_elder' (lZR HO_6.out) (Kd.R_base ho0) hb); replace HO_8 := aZ (Kd.R_elder' (lZR HO_8.out) (Kd.R_base ho0) hb); replace HB := aZ (below_step (lZB HB.out) hb); (try clear hb); (try clear hb2); (try clear hk); (try clear hi); (try clear ho0); obtain ⟨Ao50, co50, eo50⟩ := Kd.R_slice HO331.out; subst eo50) | ((with_reducible refine gate_callee (f := 42) rfl ?_); refine goesL_ (some 64) rfl rfl Try.func42 kZ rfl #[.slice Ao50 t329.length co50, .slice Ao25 t307.length co25] rfl tZA ?_; (with_reducible refine (laws_eqStringS.calls kj15 _ _ t329 _ _ t307 true _ ?side1 ?side2 ?side3 ?side4 A41.out).mono ?_); (case side1 => repeat (first | exact (Kd.R_reads' HO331.out).2.2 | (with_reducible refine Kd.C_alloc ?_ _) | (with_reducible refine Kd.C_drewN ?_ _) | (with_reducible refine Kd.C_drew ?_))); (case side2 => exact (Kd.R_reads' HO331.out).2.1); (case side3 => repeat (first | exact (Kd.R_reads' HO_6.out).2.2 | (with_reducible refine Kd.C_alloc ?_ _) | (with_reducible refine Kd.C_drewN ?_ _) | (with_reducible refine Kd.C_drew ?_))); (case side4 => exact (Kd.R_reads' HO_6.out).2.1); rintro e w' ⟨rfl, ⟨nd, rfl⟩⟩; refine ⟨_, rfl, ?_⟩) | ((with_reducible refine gate_callee (f := 44) rfl ?_); refine goesL_ (some 68) rfl rfl Try.func44 kZ rfl #[.slice Ao24 t324.length co24, .int .i64 1] rfl (by (try simp only [List.map_toArray, List.map_cons, List.map_nil]); first | done | (rw [show t324.length = t313.length from (Kd.R_reads' HO_8.out).1.symm] <;> rfl) | rfl | (simp only [List.length_drop, List.length_take]; rfl)) ?_; (with_reducible refine (laws_heldStringS.calls kj15 _ _ t324 1 t333 _ ?side1 ?side2 A43.out).mono ?_); (case side1 => repeat (first | exact (Kd.R_reads' HO_8.out).2.2 | (with_reducible refine Kd.C_alloc ?_ _) | (with_reducible refine Kd.C_drewN ?_ _) | (with_reducible refine Kd.C_drew ?_))); (case side2 => rw [show t324.length = t313.length from (Kd.R_reads' HO_8.out).1.symm]; exact (Kd.R_reads' HO_8.out).2.1); rintro e w51 ⟨rfl, hb⟩; refine ⟨_, rfl, ?_⟩; replace HO_6 := aZ (Kd.R_below (lZR HO_6.out) hb); replace HO_8 := aZ (Kd.R_below (lZR HO_8.out) hb); replace HO328 := aZ (Kd.S_below (lZS HO328.out) hb); replace HO331 := aZ (Kd.R_below (lZR HO331.out) hb); replace HB := aZ (below_step (lZB HB.out) hb); (try clear hb); (try clear hb2); (try clear hk); (try clear hi)))
    go_ret
    exact ⟨tZC, bZ⟩
   rw [if_neg c44] at H
   have c44b0 := decide_eq_false c44
   clear c44
   by_cases c52 : t333 = t323
   rotate_left
   ·rw [if_neg c52] at H
    have c52b0 : (t333 == t323) = false := beq_eq_false_iff_ne.mpr c52
    have c52b1 : (t333 != t323) = true := bne_iff_ne.mpr c52
    obtain rfl := Option.some.inj H
    go_wp2_with (first | ((with_reducible refine gate_callee (f := 43) rfl ?_); refine goesL_ (some 49) rfl rfl Try.func43 kZ rfl #[.slice Ao24 t313.length co24, .int .i64 1] rfl tZA ?_; (with_reducible refine (laws_markStringS.calls kj15 (fun k_ => some k_ = (.slice Ao24 t313.length co24 : Value).ownBlock) (.slice Ao24 t313.length co24) t313 1 t323 t324 w _ ?side1 ?side2 A33.out).mono ?_); (case side1 => repeat (first | (with_reducible first | exact HB.out | apply below_alloc | apply pw_below_drewN | apply below_drew1) | exact HB.out)); (case side2 => exact Kd.R_tight rfl HO_8.out); rintro e w60 ⟨rfl, hy0, hb, hkp⟩; refine ⟨_, rfl, ?_⟩; replace HO_6 := aZ (Kd.R_mono (ok' := fun k_ => some k_ ≠ (.slice Ao24 t313.length co24 : Value).ownBlock) (Kd.R_keptB (HO_6.out) hkp (fun k_ hk_ hs_ => (hk_) hs_)) (fun k_ hk_ => hk_.1)); replace HO_8 := aZ (Kd.R_reok rfl hy0 (fun k_ e_ => HO_8.out.1 k_ e_)); replace HB := aZ (hb); (try clear hb); (try clear hkp); (try clear hy0)) | ((with_reducible refine gate_callee (f := 44) rfl ?_); refine goesL_ (some 52) rfl rfl Try.func44 kZ rfl #[.slice Ao24 t324.length co24, .int .i64 1] rfl (by (try simp only [List.map_toArray, List.map_cons, List.map_nil]); first | done | (rw [show t324.length = t313.length from (Kd.R_reads' HO_8.out).1.symm] <;> rfl) | rfl | (simp only [List.length_drop, List.length_take]; rfl)) ?_; (with_reducible refine (laws_heldStringS.calls kj15 _ _ t324 1 t325 _ ?side1 ?side2 A34.out).mono ?_); (case side1 => repeat (first | exact (Kd.R_reads' HO_8.out).2.2 | (with_reducible refine Kd.C_alloc ?_ _) | (with_reducible refine Kd.C_drewN ?_ _) | (with_reducible refine Kd.C_drew ?_))); (case side2 => rw [show t324.length = t313.length from (Kd.R_reads' HO_8.out).1.symm]; exact (Kd.R_reads' HO_8.out).2.1); rintro e w61 ⟨rfl, hb⟩; refine ⟨_, rfl, ?_⟩; replace HO_6 := aZ (Kd.R_below (lZR HO_6.out) hb); replace HO_8 := aZ (Kd.R_below (lZR HO_8.out) hb); replace HB := aZ (below_step (lZB HB.out) hb); (try clear hb); (try clear hb2); (try clear hk); (try clear hi)) | ((with_reducible refine gate_callee (f := 24) rfl ?_); refine goesL_ (some 59) rfl rfl Try.func24 kZ rfl #[.slice A0 l0.length c0] rfl tZA ?_; (with_reducible refine (laws_toStepS.calls kj15 _ _ l0 t326 _ ?side1 ?side2 A39.out).mono ?_); (case side1 => repeat (first | exact (Kd.C_below HR0.out HB.out) | (with_reducible refine Kd.C_alloc ?_ _) | (with_reducible refine Kd.C_drewN ?_ _) | (with_reducible refine Kd.C_drew ?_))); (case side2 => exact HC0.out); rintro e w62 ⟨v327, rfl, ho0, hb⟩; refine ⟨_, rfl, ?_⟩; have HO328 := aZ (Kd.S_lower (Kd.S_new' (Kd.S_new' ho0 (Kd.R_lt (lZR HO_6.out))) (Kd.R_lt (lZR HO_8.out))) (below_size (lZB HB.out))); replace HO_6 := aZ (Kd.R_below (lZR HO_6.out) hb); replace HO_8 := aZ (Kd.R_below (lZR HO_8.out) hb); replace HB := aZ (below_step (lZB HB.out) hb); (try clear hb); (try clear hb2); (try clear hk); (try clear hi); (try clear ho0); obtain ⟨Ao63, co63, eo63⟩ := Kd.S_slice HO328.out; subst eo63) | ((with_reducible refine gate_callee (f := 41) rfl ?_); refine goesL_ (some 61) rfl rfl Try.func41 kZ rfl #[.slice Ao63 t326.length co63, .int .i64 a1] rfl tZA ?_; (with_reducible refine (impl_Needed.calls kj15 _ _ t326 a1 t329 _ ?side1 ?side2 A40.out).mono ?_); (case side1 => repeat (first | exact (Kd.S_reads' HO328.out).2.2 | (with_reducible refine Kd.C_alloc ?_ _) | (with_reducible refine Kd.C_drewN ?_ _) | (with_reducible refine Kd.C_drew ?_))); (case side2 => exact (Kd.S_reads' HO328.out).2.1); rintro e w64 ⟨v330, rfl, ho0, hb⟩; refine ⟨_, rfl, ?_⟩; replace HO328 := aZ (Kd.S_elder' (lZS HO328.out) (Kd.R_base ho0) hb); have HO331 := aZ (Kd.R_lower (Kd.R_new' (Kd.R_new' ho0 (Kd.R_lt (lZR HO_6.out))) (Kd.R_lt (lZR HO_8.out))) (below_size (lZB HB.out))); replace HO_6 := aZ (Kd.R_elder' (lZR HO_6.out) (Kd.R_base ho0) hb); replace HO_8 := aZ (Kd.R_elder' (lZR HO_8.out) (Kd.R_base ho0) hb); replace HB := aZ (below_step (lZB HB.out) hb); (try clear hb); (try clear hb2); (try clear hk); (try clear hi); (try clear ho0); obtain ⟨Ao65, co65, eo65⟩ := Kd.R_slice HO331.out; subst eo65) | ((with_reducible refine gate_callee (f := 42) rfl ?_); refine goesL_ (some 64) rfl rfl Try.func42 kZ rfl #[.slice Ao65 t329.length co65, .slice Ao25 t307.length co25] rfl tZA ?_; (with_reducible refine (laws_eqStringS.calls kj15 _ _ t329 _ _ t307 true _ ?side1 ?side2 ?side3 ?side4 A41.out).mono ?_); (case side1 => repeat (first | exact (Kd.R_reads' HO331.out).2.2 | (with_reducible refine Kd.C_alloc ?_ _) | (with_reducible refine Kd.C_drewN ?_ _) | (with_reducible refine Kd.C_drew ?_))); (case side2 => exact (Kd.R_reads' HO331.out).2.1); (case side3 => repeat (first | exact (Kd.R_reads' HO_6.out).2.2 | (with_reducible refine Kd.C_alloc ?_ _) | (with_reducible refine Kd.C_drewN ?_ _) | (with_reducible refine Kd.C_drew ?_))); (case side4 => exact (Kd.R_reads' HO_6.out).2.1); rintro e w' ⟨rfl, ⟨nd, rfl⟩⟩; refine ⟨_, rfl, ?_⟩) | ((with_reducible refine gate_callee (f := 44) rfl ?_); refine goesL_ (some 68) rfl rfl Try.func44 kZ rfl #[.slice Ao24 t324.length co24, .int .i64 1] rfl (by (try simp only [List.map_toArray, List.map_cons, List.map_nil]); first | done | (rw [show t324.length = t313.length from (Kd.R_reads' HO_8.out).1.symm] <;> rfl) | rfl | (simp only [List.length_drop, List.length_take]; rfl)) ?_; (with_reducible refine (laws_heldStringS.calls kj15 _ _ t324 1 t333 _ ?side1 ?side2 A43.out).mono ?_); (case side1 => repeat (first | exact (Kd.R_reads' HO_8.out).2.2 | (with_reducible refine Kd.C_alloc ?_ _) | (with_reducible refine Kd.C_drewN ?_ _) | (with_reducible refine Kd.C_drew ?_))); (case side2 => rw [show t324.length = t313.length from (Kd.R_reads' HO_8.out).1.symm]; exact (Kd.R_reads' HO_8.out).2.1); rintro e w66 ⟨rfl, hb⟩; refine ⟨_, rfl, ?_⟩; replace HO_6 := aZ (Kd.R_below (lZR HO_6.out) hb); replace HO_8 := aZ (Kd.R_below (lZR HO_8.out) hb); replace HO328 := aZ (Kd.S_below (lZS HO328.out) hb); replace HO331 := aZ (Kd.R_below (lZR HO331.out) hb); replace HB := aZ (below_step (lZB HB.out) hb); (try clear hb); (try clear hb2); (try clear hk); (try clear hi)))
    go_ret
    exact ⟨tZC, bZ⟩
   rw [if_pos c52] at H
   have c52b0 : (t333 == t323) = true := beq_iff_eq.mpr c52
   have c52b1 : (t333 != t323) = false := bne_eq_false_iff_eq.mpr c52
   clear c52
   obtain rfl := Option.some.inj H
   go_wp2_with (first | ((with_reducible refine gate_callee (f := 43) rfl ?_); refine goesL_ (some 49) rfl rfl Try.func43 kZ rfl #[.slice Ao24 t313.length co24, .int .i64 1] rfl tZA ?_; (with_reducible refine (laws_markStringS.calls kj15 (fun k_ => some k_ = (.slice Ao24 t313.length co24 : Value).ownBlock) (.slice Ao24 t313.length co24) t313 1 t323 t324 w _ ?side1 ?side2 A33.out).mono ?_); (case side1 => repeat (first | (with_reducible first | exact HB.out | apply below_alloc | apply pw_below_drewN | apply below_drew1) | exact HB.out)); (case side2 => exact Kd.R_tight rfl HO_8.out); rintro e w53 ⟨rfl, hy0, hb, hkp⟩; refine ⟨_, rfl, ?_⟩; replace HO_6 := aZ (Kd.R_mono (ok' := fun k_ => some k_ ≠ (.slice Ao24 t313.length co24 : Value).ownBlock) (Kd.R_keptB (HO_6.out) hkp (fun k_ hk_ hs_ => (hk_) hs_)) (fun k_ hk_ => hk_.1)); replace HO_8 := aZ (Kd.R_reok rfl hy0 (fun k_ e_ => HO_8.out.1 k_ e_)); replace HB := aZ (hb); (try clear hb); (try clear hkp); (try clear hy0)) | ((with_reducible refine gate_callee (f := 44) rfl ?_); refine goesL_ (some 52) rfl rfl Try.func44 kZ rfl #[.slice Ao24 t324.length co24, .int .i64 1] rfl (by (try simp only [List.map_toArray, List.map_cons, List.map_nil]); first | done | (rw [show t324.length = t313.length from (Kd.R_reads' HO_8.out).1.symm] <;> rfl) | rfl | (simp only [List.length_drop, List.length_take]; rfl)) ?_; (with_reducible refine (laws_heldStringS.calls kj15 _ _ t324 1 t325 _ ?side1 ?side2 A34.out).mono ?_); (case side1 => repeat (first | exact (Kd.R_reads' HO_8.out).2.2 | (with_reducible refine Kd.C_alloc ?_ _) | (with_reducible refine Kd.C_drewN ?_ _) | (with_reducible refine Kd.C_drew ?_))); (case side2 => rw [show t324.length = t313.length from (Kd.R_reads' HO_8.out).1.symm]; exact (Kd.R_reads' HO_8.out).2.1); rintro e w54 ⟨rfl, hb⟩; refine ⟨_, rfl, ?_⟩; replace HO_6 := aZ (Kd.R_below (lZR HO_6.out) hb); replace HO_8 := aZ (Kd.R_below (lZR HO_8.out) hb); replace HB := aZ (below_step (lZB HB.out) hb); (try clear hb); (try clear hb2); (try clear hk); (try clear hi)) | ((with_reducible refine gate_callee (f := 24) rfl ?_); refine goesL_ (some 59) rfl rfl Try.func24 kZ rfl #[.slice A0 l0.length c0] rfl tZA ?_; (with_reducible refine (laws_toStepS.calls kj15 _ _ l0 t326 _ ?side1 ?side2 A39.out).mono ?_); (case side1 => repeat (first | exact (Kd.C_below HR0.out HB.out) | (with_reducible refine Kd.C_alloc ?_ _) | (with_reducible refine Kd.C_drewN ?_ _) | (with_reducible refine Kd.C_drew ?_))); (case side2 => exact HC0.out); rintro e w55 ⟨v327, rfl, ho0, hb⟩; refine ⟨_, rfl, ?_⟩; have HO328 := aZ (Kd.S_lower (Kd.S_new' (Kd.S_new' ho0 (Kd.R_lt (lZR HO_6.out))) (Kd.R_lt (lZR HO_8.out))) (below_size (lZB HB.out))); replace HO_6 := aZ (Kd.R_below (lZR HO_6.out) hb); replace HO_8 := aZ (Kd.R_below (lZR HO_8.out) hb); replace HB := aZ (below_step (lZB HB.out) hb); (try clear hb); (try clear hb2); (try clear hk); (try clear hi); (try clear ho0); obtain ⟨Ao56, co56, eo56⟩ := Kd.S_slice HO328.out; subst eo56) | ((with_reducible refine gate_callee (f := 41) rfl ?_); refine goesL_ (some 61) rfl rfl Try.func41 kZ rfl #[.slice Ao56 t326.length co56, .int .i64 a1] rfl tZA ?_; (with_reducible refine (impl_Needed.calls kj15 _ _ t326 a1 t329 _ ?side1 ?side2 A40.out).mono ?_); (case side1 => repeat (first | exact (Kd.S_reads' HO328.out).2.2 | (with_reducible refine Kd.C_alloc ?_ _) | (with_reducible refine Kd.C_drewN ?_ _) | (with_reducible refine Kd.C_drew ?_))); (case side2 => exact (Kd.S_reads' HO328.out).2.1); rintro e w57 ⟨v330, rfl, ho0, hb⟩; refine ⟨_, rfl, ?_⟩; replace HO328 := aZ (Kd.S_elder' (lZS HO328.out) (Kd.R_base ho0) hb); have HO331 := aZ (Kd.R_lower (Kd.R_new' (Kd.R_new' ho0 (Kd.R_lt (lZR HO_6.out))) (Kd.R_lt (lZR HO_8.out))) (below_size (lZB HB.out))); replace HO_6 := aZ (Kd.R_elder' (lZR HO_6.out) (Kd.R_base ho0) hb); replace HO_8 := aZ (Kd.R_elder' (lZR HO_8.out) (Kd.R_base ho0) hb); replace HB := aZ (below_step (lZB HB.out) hb); (try clear hb); (try clear hb2); (try clear hk); (try clear hi); (try clear ho0); obtain ⟨Ao58, co58, eo58⟩ := Kd.R_slice HO331.out; subst eo58) | ((with_reducible refine gate_callee (f := 42) rfl ?_); refine goesL_ (some 64) rfl rfl Try.func42 kZ rfl #[.slice Ao58 t329.length co58, .slice Ao25 t307.length co25] rfl tZA ?_; (with_reducible refine (laws_eqStringS.calls kj15 _ _ t329 _ _ t307 true _ ?side1 ?side2 ?side3 ?side4 A41.out).mono ?_); (case side1 => repeat (first | exact (Kd.R_reads' HO331.out).2.2 | (with_reducible refine Kd.C_alloc ?_ _) | (with_reducible refine Kd.C_drewN ?_ _) | (with_reducible refine Kd.C_drew ?_))); (case side2 => exact (Kd.R_reads' HO331.out).2.1); (case side3 => repeat (first | exact (Kd.R_reads' HO_6.out).2.2 | (with_reducible refine Kd.C_alloc ?_ _) | (with_reducible refine Kd.C_drewN ?_ _) | (with_reducible refine Kd.C_drew ?_))); (case side4 => exact (Kd.R_reads' HO_6.out).2.1); rintro e w' ⟨rfl, ⟨nd, rfl⟩⟩; refine ⟨_, rfl, ?_⟩) | ((with_reducible refine gate_callee (f := 44) rfl ?_); refine goesL_ (some 68) rfl rfl Try.func44 kZ rfl #[.slice Ao24 t324.length co24, .int .i64 1] rfl (by (try simp only [List.map_toArray, List.map_cons, List.map_nil]); first | done | (rw [show t324.length = t313.length from (Kd.R_reads' HO_8.out).1.symm] <;> rfl) | rfl | (simp only [List.length_drop, List.length_take]; rfl)) ?_; (with_reducible refine (laws_heldStringS.calls kj15 _ _ t324 1 t333 _ ?side1 ?side2 A43.out).mono ?_); (case side1 => repeat (first | exact (Kd.R_reads' HO_8.out).2.2 | (with_reducible refine Kd.C_alloc ?_ _) | (with_reducible refine Kd.C_drewN ?_ _) | (with_reducible refine Kd.C_drew ?_))); (case side2 => rw [show t324.length = t313.length from (Kd.R_reads' HO_8.out).1.symm]; exact (Kd.R_reads' HO_8.out).2.1); rintro e w59 ⟨rfl, hb⟩; refine ⟨_, rfl, ?_⟩; replace HO_6 := aZ (Kd.R_below (lZR HO_6.out) hb); replace HO_8 := aZ (Kd.R_below (lZR HO_8.out) hb); replace HO328 := aZ (Kd.S_below (lZS HO328.out) hb); replace HO331 := aZ (Kd.R_below (lZR HO331.out) hb); replace HB := aZ (below_step (lZB HB.out) hb); (try clear hb); (try clear hb2); (try clear hk); (try clear hi)))
   go_ret
   exact ⟨tZC, bZ⟩
def laws_FnExactNeeded.Pure : Prop := ∀ (l0 : List (S116)) (a1 : Int), (l0.length ≤ maxLen ∧ ∀ y ∈ l0, wf116 y) → ((Lit.int .i64 a1).wf = true) → ∃ k, laws_FnExactNeeded.f k l0 a1 = some true
end Go.Proofs.Ytjnmfadnkbflfaa.PFnExactNeeded
