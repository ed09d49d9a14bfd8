import Derived.Test.YtfkakbpjddgmeaaFPFnFlowBackx0
import Derived.Test.YtfkakbpjddgmeaaFPFnFlowBackx1
import Derived.Test.YtfkakbpjddgmeaaFPFnFlowBackx3
import Derived.Test.YtfkakbpjddgmeaaFPFnFlowBackx8
import Derived.Test.YtfkakbpjddgmeaaFPFnFlowBackx9
import Derived.Test.YtfkakbpjddgmeaaFPFnFlowBackx14
import Derived.Test.YtfkakbpjddgmeaaFSlimWords
namespace Go.Proofs.Ytfkakbpjddgmeaa.PFnFlowBack
open Go.Proofs.Ytfkakbpjddgmeaa.SlimWords
open Go.RowKit Go.Proofs.YtfkakbpjddgmeaaW.PrintWords Go.Proofs.YtfkakbpjddgmeaaW.PrintLast Go.Proofs.YtfkakbpjddgmeaaW.PrintMore Go.Proofs.Ytfkakbpjddgmeaa.MapWords Go.Proofs.Ytfkakbpjddgmeaa.IterWords Go.Proofs.Ytfkakbpjddgmeaa.MarkWords
attribute [local go_sem] max2_int min2_int max_two min_two max_three min_three max_four min_four
set_option linter.unusedVariables false
set_option linter.unusedSimpArgs false
mutual
def laws_FnFlowBack.j0 : Nat → List (S51) → ByteArray → Bool → Option (Bool)
  | 0, _, _, _ => none
  | k + 1, x3, x4, x22 => if x22 = true then ((spec_ShowFlow.f k x3).bind fun t365 => (some (x4.toList == t365.toList))) else ((impl_ParseFlow.f k x4).bind fun bt366 => (if bt366.2 = 0 then (laws_FnFlowBack.j1 k x3 x4 bt366.1 ((bt366.1.length : Int) != (x3.length : Int))) else (laws_FnFlowBack.j1 k x3 x4 bt366.1 true)))
def laws_FnFlowBack.j1 : Nat → List (S51) → ByteArray → List (S51) → Bool → Option (Bool)
  | 0, _, _, _, _ => none
  | k + 1, x3, x4, x5, x40 => if x40 = true then (some false) else (laws_FnFlowBack.l0 k x3 x4 x5 0)
def laws_FnFlowBack.l0 : Nat → List (S51) → ByteArray → List (S51) → Int → Option (Bool)
  | 0, _, _, _, _ => none
  | k + 1, x3, x4, x5, x7 => if x7 < (x3.length : Int) then (if 0 ≤ x7 then (if x7 < (x5.length : Int) then (if ((rd_T51 x5 x7).f0) = ((rd_T51 x3 x7).f0) then (laws_FnFlowBack.j3 k x3 x4 x5 x7 ((((rd_T51 x5 x7).f1).length : Int) != (((rd_T51 x3 x7).f1).length : Int))) else (laws_FnFlowBack.j3 k x3 x4 x5 x7 true)) else (none)) else (none)) else ((impl_ShowFlow.f k x5).bind fun t370 => (some (t370.toList == x4.toList)))
def laws_FnFlowBack.j3 : Nat → List (S51) → ByteArray → List (S51) → Int → Bool → Option (Bool)
  | 0, _, _, _, _, _ => none
  | k + 1, x3, x4, x5, x7, x72 => if x72 = true then (some false) else (laws_FnFlowBack.l1 k x3 x4 x5 x7 0)
def laws_FnFlowBack.l1 : Nat → List (S51) → ByteArray → List (S51) → Int → Int → Option (Bool)
  | 0, _, _, _, _, _ => none
  | k + 1, x3, x4, x5, x7, x8 => if 0 ≤ x7 then (if x7 < (x3.length : Int) then (if x8 < (((rd_T51 x3 x7).f1).length : Int) then (if x7 < (x5.length : Int) then (if 0 ≤ x8 then (if x8 < (((rd_T51 x5 x7).f1).length : Int) then (if (rdOf ByteArray.empty ((rd_T51 x5 x7).f1) x8).toList = (rdOf ByteArray.empty ((rd_T51 x3 x7).f1) x8).toList then (laws_FnFlowBack.l1 k x3 x4 x5 x7 (wrap64 (x8 + 1))) else (some false)) else (none)) else (none)) else (none)) else (laws_FnFlowBack.l0 k x3 x4 x5 (wrap64 (x7 + 1)))) else (none)) else (none)
end
def laws_FnFlowBack.f (k : Nat) (l0 : List Int) : Option (Bool) := (laws_big.f l0).bind fun t359 => (if t359 = true then (some true) else ((spec_DrawShowFlow.f k l0).bind fun t360 => ((impl_ShowFlow.f k t360).bind fun t363 => ((spec_ShowFlow.f k t360).bind fun t364 => (if t363.toList = t364.toList then (laws_FnFlowBack.j0 k t360 t363 (t363.toList == ([] : List UInt8))) else (laws_FnFlowBack.j0 k t360 t363 true))))))
theorem laws_FnFlowBack.mono_l : ∀ k, (∀ y0 y1 y2, LeO (laws_FnFlowBack.j0 k y0 y1 y2) (laws_FnFlowBack.j0 (k + 1) y0 y1 y2)) ∧ (∀ y0 y1 y2 y3, LeO (laws_FnFlowBack.j1 k y0 y1 y2 y3) (laws_FnFlowBack.j1 (k + 1) y0 y1 y2 y3)) ∧ (∀ y0 y1 y2 y3, LeO (laws_FnFlowBack.l0 k y0 y1 y2 y3) (laws_FnFlowBack.l0 (k + 1) y0 y1 y2 y3)) ∧ (∀ y0 y1 y2 y3 y4, LeO (laws_FnFlowBack.j3 k y0 y1 y2 y3 y4) (laws_FnFlowBack.j3 (k + 1) y0 y1 y2 y3 y4)) ∧ (∀ y0 y1 y2 y3 y4, LeO (laws_FnFlowBack.l1 k y0 y1 y2 y3 y4) (laws_FnFlowBack.l1 (k + 1) y0 y1 y2 y3 y4))
  | 0 => ⟨fun _ _ _ r h => by simp [laws_FnFlowBack.j0] at h, fun _ _ _ _ r h => by simp [laws_FnFlowBack.j1] at h, fun _ _ _ _ r h => by simp [laws_FnFlowBack.l0] at h, fun _ _ _ _ _ r h => by simp [laws_FnFlowBack.j3] at h, fun _ _ _ _ _ r h => by simp [laws_FnFlowBack.l1] at h⟩
  | k + 1 => by
    obtain ⟨ih0, ih1, ih2, ih3, ih4⟩ := laws_FnFlowBack.mono_l k
    refine ⟨?_, ?_, ?_, ?_, ?_⟩
    · intro y0 y1 y2
      unfold laws_FnFlowBack.j0
      repeat' first
      | (with_reducible exact ih0 _ _ _)
      | (with_reducible exact ih1 _ _ _ _)
      | (with_reducible exact ih2 _ _ _ _)
      | (with_reducible exact ih3 _ _ _ _ _)
      | (with_reducible exact ih4 _ _ _ _ _)
      | (with_reducible exact impl_ParseFlow.mono _ _)
      | (with_reducible exact impl_ShowFlow.mono _ _)
      | (with_reducible exact spec_DrawShowFlow.mono _ _)
      | (with_reducible exact spec_ShowFlow.mono _ _)
      | (with_reducible exact LeO.refl _)
      | (with_reducible exact LeO.none _)
      | (with_reducible refine LeO.ite ?_ ?_)
      | (with_reducible refine LeO.bind ?_ (fun _ => ?_))
      | exact ih0 _ _ _
      | exact ih1 _ _ _ _
      | exact ih2 _ _ _ _
      | exact ih3 _ _ _ _ _
      | exact ih4 _ _ _ _ _
      | exact impl_ParseFlow.mono _ _
      | exact impl_ShowFlow.mono _ _
      | exact spec_DrawShowFlow.mono _ _
      | exact spec_ShowFlow.mono _ _
      | exact LeO.none _
      | refine LeO.ite ?_ ?_
      | refine LeO.bind ?_ (fun _ => ?_)
    · intro y0 y1 y2 y3
      unfold laws_FnFlowBack.j1
      repeat' first
      | (with_reducible exact ih0 _ _ _)
      | (with_reducible exact ih1 _ _ _ _)
      | (with_reducible exact ih2 _ _ _ _)
      | (with_reducible exact ih3 _ _ _ _ _)
      | (with_reducible exact ih4 _ _ _ _ _)
      | (with_reducible exact impl_ParseFlow.mono _ _)
      | (with_reducible exact impl_ShowFlow.mono _ _)
      | (with_reducible exact spec_DrawShowFlow.mono _ _)
      | (with_reducible exact spec_ShowFlow.mono _ _)
      | (with_reducible exact LeO.refl _)
      | (with_reducible exact LeO.none _)
      | (with_reducible refine LeO.ite ?_ ?_)
      | (with_reducible refine LeO.bind ?_ (fun _ => ?_))
      | exact ih0 _ _ _
      | exact ih1 _ _ _ _
      | exact ih2 _ _ _ _
      | exact ih3 _ _ _ _ _
      | exact ih4 _ _ _ _ _
      | exact impl_ParseFlow.mono _ _
      | exact impl_ShowFlow.mono _ _
      | exact spec_DrawShowFlow.mono _ _
      | exact spec_ShowFlow.mono _ _
      | exact LeO.none _
      | refine LeO.ite ?_ ?_
      | refine LeO.bind ?_ (fun _ => ?_)
    · intro y0 y1 y2 y3
      unfold laws_FnFlowBack.l0
      repeat' first
      | (with_reducible exact ih0 _ _ _)
      | (with_reducible exact ih1 _ _ _ _)
      | (with_reducible exact ih2 _ _ _ _)
      | (with_reducible exact ih3 _ _ _ _ _)
      | (with_reducible exact ih4 _ _ _ _ _)
      | (with_reducible exact impl_ParseFlow.mono _ _)
      | (with_reducible exact impl_ShowFlow.mono _ _)
      | (with_reducible exact spec_DrawShowFlow.mono _ _)
      | (with_reducible exact spec_ShowFlow.mono _ _)
      | (with_reducible exact LeO.refl _)
      | (with_reducible exact LeO.none _)
      | (with_reducible refine LeO.ite ?_ ?_)
      | (with_reducible refine LeO.bind ?_ (fun _ => ?_))
      | exact ih0 _ _ _
      | exact ih1 _ _ _ _
      | exact ih2 _ _ _ _
      | exact ih3 _ _ _ _ _
      | exact ih4 _ _ _ _ _
      | exact impl_ParseFlow.mono _ _
      | exact impl_ShowFlow.mono _ _
      | exact spec_DrawShowFlow.mono _ _
      | exact spec_ShowFlow.mono _ _
      | exact LeO.none _
      | refine LeO.ite ?_ ?_
      | refine LeO.bind ?_ (fun _ => ?_)
    · intro y0 y1 y2 y3 y4
      unfold laws_FnFlowBack.j3
      repeat' first
      | (with_reducible exact ih0 _ _ _)
      | (with_reducible exact ih1 _ _ _ _)
      | (with_reducible exact ih2 _ _ _ _)
      | (with_reducible exact ih3 _ _ _ _ _)
      | (with_reducible exact ih4 _ _ _ _ _)
      | (with_reducible exact impl_ParseFlow.mono _ _)
      | (with_reducible exact impl_ShowFlow.mono _ _)
      | (with_reducible exact spec_DrawShowFlow.mono _ _)
      | (with_reducible exact spec_ShowFlow.mono _ _)
      | (with_reducible exact LeO.refl _)
      | (with_reducible exact LeO.none _)
      | (with_reducible refine LeO.ite ?_ ?_)
      | (with_reducible refine LeO.bind ?_ (fun _ => ?_))
      | exact ih0 _ _ _
      | exact ih1 _ _ _ _
      | exact ih2 _ _ _ _
      | exact ih3 _ _ _ _ _
      | exact ih4 _ _ _ _ _
      | exact impl_ParseFlow.mono _ _
      | exact impl_ShowFlow.mono _ _
      | exact spec_DrawShowFlow.mono _ _
      | exact spec_ShowFlow.mono _ _
      | exact LeO.none _
      | refine LeO.ite ?_ ?_
      | refine LeO.bind ?_ (fun _ => ?_)
    · intro y0 y1 y2 y3 y4
      unfold laws_FnFlowBack.l1
      repeat' first
      | (with_reducible exact ih0 _ _ _)
      | (with_reducible exact ih1 _ _ _ _)
      | (with_reducible exact ih2 _ _ _ _)
      | (with_reducible exact ih3 _ _ _ _ _)
      | (with_reducible exact ih4 _ _ _ _ _)
      | (with_reducible exact impl_ParseFlow.mono _ _)
      | (with_reducible exact impl_ShowFlow.mono _ _)
      | (with_reducible exact spec_DrawShowFlow.mono _ _)
      | (with_reducible exact spec_ShowFlow.mono _ _)
      | (with_reducible exact LeO.refl _)
      | (with_reducible exact LeO.none _)
      | (with_reducible refine LeO.ite ?_ ?_)
      | (with_reducible refine LeO.bind ?_ (fun _ => ?_))
      | exact ih0 _ _ _
      | exact ih1 _ _ _ _
      | exact ih2 _ _ _ _
      | exact ih3 _ _ _ _ _
      | exact ih4 _ _ _ _ _
      | exact impl_ParseFlow.mono _ _
      | exact impl_ShowFlow.mono _ _
      | exact spec_DrawShowFlow.mono _ _
      | exact spec_ShowFlow.mono _ _
      | exact LeO.none _
      | refine LeO.ite ?_ ?_
      | refine LeO.bind ?_ (fun _ => ?_)
theorem laws_FnFlowBack.mono : ∀ a0 k, LeO (laws_FnFlowBack.f k a0) (laws_FnFlowBack.f (k + 1) a0) := by
 intro a0 k
 obtain ⟨ih0, ih1, ih2, ih3, ih4⟩ := laws_FnFlowBack.mono_l k
 unfold laws_FnFlowBack.f
 repeat' first
     | (with_reducible exact ih0 _ _ _)
     | (with_reducible exact ih1 _ _ _ _)
     | (with_reducible exact ih2 _ _ _ _)
     | (with_reducible exact ih3 _ _ _ _ _)
     | (with_reducible exact ih4 _ _ _ _ _)
     | (with_reducible exact impl_ParseFlow.mono _ _)
     | (with_reducible exact impl_ShowFlow.mono _ _)
     | (with_reducible exact spec_DrawShowFlow.mono _ _)
     | (with_reducible exact spec_ShowFlow.mono _ _)
     | (with_reducible exact LeO.refl _)
     | (with_reducible exact LeO.none _)
     | (with_reducible refine LeO.ite ?_ ?_)
     | (with_reducible refine LeO.bind ?_ (fun _ => ?_))
     | exact ih0 _ _ _
     | exact ih1 _ _ _ _
     | exact ih2 _ _ _ _
     | exact ih3 _ _ _ _ _
     | exact ih4 _ _ _ _ _
     | exact impl_ParseFlow.mono _ _
     | exact impl_ShowFlow.mono _ _
     | exact spec_DrawShowFlow.mono _ _
     | exact spec_ShowFlow.mono _ _
     | exact LeO.none _
     | refine LeO.ite ?_ ?_
     | refine LeO.bind ?_ (fun _ => ?_)
set_option maxHeartbeats 8000000 in
set_option maxRecDepth 100000 in
theorem laws_FnFlowBack.calls (k : Nat) (A0 : Option Addr) (c0 : Nat) (l0 : List Int) (r : Bool) (w : World) (hr0 : Kd.C (Kd.int .u8) w A0 l0.length l0) (hc0 : l0.length ≤ c0) (h : laws_FnFlowBack.f k l0 = some r) :
    Calls Try.prog 5 #[.slice A0 l0.length c0] w fun e w' => e = .returned (.bool r) ∧ Below w.heap.size w w' := by
 have HR0 := Aside0.mk hr0; have HC0 := Aside0.mk hc0; clear hr0 hc0; have HB := aZ (Below.refl w.heap.size w); have H : ((laws_big.f l0).bind fun t359 => (if t359 = true then (some true) else ((spec_DrawShowFlow.f k l0).bind fun t360 => ((impl_ShowFlow.f k t360).bind fun t363 => ((spec_ShowFlow.f k t360).bind fun t364 => (if t363.toList = t364.toList then (laws_FnFlowBack.j0 k t360 t363 (t363.toList == ([] : List UInt8))) else (laws_FnFlowBack.j0 k t360 t363 true))))))) = some r := h; clear h; replace H := Option.bind_eq_some_iff.mp H; obtain ⟨t359, A20, H⟩ := H
 replace H : (if t359 = true then (some true) else ((spec_DrawShowFlow.f k l0).bind fun t360 => ((impl_ShowFlow.f k t360).bind fun t363 => ((spec_ShowFlow.f k t360).bind fun t364 => (if t363.toList = t364.toList then (laws_FnFlowBack.j0 k t360 t363 (t363.toList == ([] : List UInt8))) else (laws_FnFlowBack.j0 k t360 t363 true)))))) = some r := H; have A2 := Aside0.mk A20; clear A20
 by_cases c3 : t359 = true
 ·subst c3; rw [if_pos rfl] at H; obtain rfl := Option.some.inj H; go_enter Try.func5, Try.ntmps5
  go_wp2_with (first | (go_at_call 7; (with_reducible refine (laws_big.calls _ _ l0 true _ ?side1 ?side2 A2.out).mono ?_); (case side1 => repeat (first | exact HR0.out | (with_reducible refine Kd.C_alloc ?_ _) | (with_reducible refine Kd.C_drewN ?_ _) | (with_reducible refine Kd.C_drew ?_))); (case side2 => exact HC0.out); rintro e w' ⟨rfl, ⟨nd, rfl⟩⟩; (try first | exact ⟨rfl, _, World.drewN_drewN _ _ _⟩ | exact ⟨rfl, _, Eq.trans (World.drewN_drewN _ _ _) (congrArg (World.drewN _) (Nat.add_assoc _ _ _))⟩)))
  repeat (go_quiet (first | (go_at_call 7; (with_reducible refine (laws_big.calls _ _ l0 true _ ?side1 ?side2 A2.out).mono ?_); (case side1 => repeat (first | exact HR0.out | (with_reducible refine Kd.C_alloc ?_ _) | (with_reducible refine Kd.C_drewN ?_ _) | (with_reducible refine Kd.C_drew ?_))); (case side2 => exact HC0.out); rintro e w' ⟨rfl, ⟨nd, rfl⟩⟩; (try first | exact ⟨rfl, _, World.drewN_drewN _ _ _⟩ | exact ⟨rfl, _, Eq.trans (World.drewN_drewN _ _ _) (congrArg (World.drewN _) (Nat.add_assoc _ _ _))⟩))); try go_wp2_with (first | (go_at_call 7; (with_reducible refine (laws_big.calls _ _ l0 true _ ?side1 ?side2 A2.out).mono ?_); (case side1 => repeat (first | exact HR0.out | (with_reducible refine Kd.C_alloc ?_ _) | (with_reducible refine Kd.C_drewN ?_ _) | (with_reducible refine Kd.C_drew ?_))); (case side2 => exact HC0.out); rintro e w' ⟨rfl, ⟨nd, rfl⟩⟩; (try first | exact ⟨rfl, _, World.drewN_drewN _ _ _⟩ | exact ⟨rfl, _, Eq.trans (World.drewN_drewN _ _ _) (congrArg (World.drewN _) (Nat.add_assoc _ _ _))⟩))))
  go_ret; exact ⟨tZC, bZ⟩
 replace c3 := Bool.eq_false_iff.mpr c3; subst c3; rw [if_neg Bool.false_ne_true] at H; replace H := Option.bind_eq_some_iff.mp H; obtain ⟨t360, A40, H⟩ := H; replace H : ((impl_ShowFlow.f k t360).bind fun t363 => ((spec_ShowFlow.f k t360).bind fun t364 => (if t363.toList = t364.toList then (laws_FnFlowBack.j0 k t360 t363 (t363.toList == ([] : List UInt8))) else (laws_FnFlowBack.j0 k t360 t363 true)))) = some r := H; have A4 := Aside0.mk A40; clear A40; replace H := Option.bind_eq_some_iff.mp H; obtain ⟨t363, A50, H⟩ := H; replace H : ((spec_ShowFlow.f k t360).bind fun t364 => (if t363.toList = t364.toList then (laws_FnFlowBack.j0 k t360 t363 (t363.toList == ([] : List UInt8))) else (laws_FnFlowBack.j0 k t360 t363 true))) = some r := H; have A5 := Aside0.mk A50; clear A50; have HC6 := Aside0.mk H; clear H; go_enter Try.func5, Try.ntmps5
 go_upto_region 5 with (first | (go_at_call 7; (with_reducible refine (laws_big.calls _ _ l0 false _ ?side1 ?side2 A2.out).mono ?_); (case side1 => repeat (first | exact HR0.out | (with_reducible refine Kd.C_alloc ?_ _) | (with_reducible refine Kd.C_drewN ?_ _) | (with_reducible refine Kd.C_drew ?_))); (case side2 => exact HC0.out); rintro e w' ⟨rfl, ⟨nd, rfl⟩⟩; (try first | exact ⟨rfl, _, World.drewN_drewN _ _ _⟩ | exact ⟨rfl, _, Eq.trans (World.drewN_drewN _ _ _) (congrArg (World.drewN _) (Nat.add_assoc _ _ _))⟩)) | (go_at_call 21; (with_reducible refine (spec_DrawShowFlow.calls k _ _ l0 t360 _ ?side1 ?side2 A4.out).mono ?_); (case side1 => repeat (first | exact HR0.out | (with_reducible refine Kd.C_alloc ?_ _) | (with_reducible refine Kd.C_drewN ?_ _) | (with_reducible refine Kd.C_drew ?_))); (case side2 => exact HC0.out); rintro e w7 ⟨v361, rfl, ho0, hb⟩; have HO362 := aZ (Kd.S_lower ho0 (below_size (lZB HB.out))); replace HB := aZ (below_step (lZB HB.out) hb); (try clear hb); (try clear hb2); (try clear hk); (try clear hi); (try clear ho0); obtain ⟨Ao8, co8, eo8⟩ := Kd.S_slice HO362.out; subst eo8) | (go_at_call 22; (with_reducible refine (impl_ShowFlow.calls k _ _ t360 t363 _ ?side1 ?side2 A5.out).mono ?_); (case side1 => repeat (first | exact (Kd.S_reads' HO362.out).2.2 | (with_reducible refine Kd.C_alloc ?_ _) | (with_reducible refine Kd.C_drewN ?_ _) | (with_reducible refine Kd.C_drew ?_))); (case side2 => exact (Kd.S_reads' HO362.out).2.1); rintro e w9 ⟨rfl, hb⟩; replace HO362 := aZ (Kd.S_below (lZS HO362.out) hb); replace HB := aZ (below_step (lZB HB.out) hb); (try clear hb); (try clear hb2); (try clear hk); (try clear hi)))
 repeat (go_quiet (first | (go_at_call 7; (with_reducible refine (laws_big.calls _ _ l0 false _ ?side1 ?side2 A2.out).mono ?_); (case side1 => repeat (first | exact HR0.out | (with_reducible refine Kd.C_alloc ?_ _) | (with_reducible refine Kd.C_drewN ?_ _) | (with_reducible refine Kd.C_drew ?_))); (case side2 => exact HC0.out); rintro e w' ⟨rfl, ⟨nd, rfl⟩⟩; (try first | exact ⟨rfl, _, World.drewN_drewN _ _ _⟩ | exact ⟨rfl, _, Eq.trans (World.drewN_drewN _ _ _) (congrArg (World.drewN _) (Nat.add_assoc _ _ _))⟩)) | (go_at_call 21; (with_reducible refine (spec_DrawShowFlow.calls k _ _ l0 t360 _ ?side1 ?side2 A4.out).mono ?_); (case side1 => repeat (first | exact HR0.out | (with_reducible refine Kd.C_alloc ?_ _) | (with_reducible refine Kd.C_drewN ?_ _) | (with_reducible refine Kd.C_drew ?_))); (case side2 => exact HC0.out); rintro e w7 ⟨v361, rfl, ho0, hb⟩; have HO362 := aZ (Kd.S_lower ho0 (below_size (lZB HB.out))); replace HB := aZ (below_step (lZB HB.out) hb); (try clear hb); (try clear hb2); (try clear hk); (try clear hi); (try clear ho0); obtain ⟨Ao8, co8, eo8⟩ := Kd.S_slice HO362.out; subst eo8) | (go_at_call 22; (with_reducible refine (impl_ShowFlow.calls k _ _ t360 t363 _ ?side1 ?side2 A5.out).mono ?_); (case side1 => repeat (first | exact (Kd.S_reads' HO362.out).2.2 | (with_reducible refine Kd.C_alloc ?_ _) | (with_reducible refine Kd.C_drewN ?_ _) | (with_reducible refine Kd.C_drew ?_))); (case side2 => exact (Kd.S_reads' HO362.out).2.1); rintro e w9 ⟨rfl, hb⟩; replace HO362 := aZ (Kd.S_below (lZS HO362.out) hb); replace HB := aZ (below_step (lZB HB.out) hb); (try clear hb); (try clear hb2); (try clear hk); (try clear hi))); go_upto_region 5 with (first | (go_at_call 7; (with_reducible refine (laws_big.calls _ _ l0 false _ ?side1 ?side2 A2.out).mono ?_); (case side1 => repeat (first | exact HR0.out | (with_reducible refine Kd.C_alloc ?_ _) | (with_reducible refine Kd.C_drewN ?_ _) | (with_reducible refine Kd.C_drew ?_))); (case side2 => exact HC0.out); rintro e w' ⟨rfl, ⟨nd, rfl⟩⟩; (try first | exact ⟨rfl, _, World.drewN_drewN _ _ _⟩ | exact ⟨rfl, _, Eq.trans (World.drewN_drewN _ _ _) (congrArg (World.drewN _) (Nat.add_assoc _ _ _))⟩)) | (go_at_call 21; (with_reducible refine (spec_DrawShowFlow.calls k _ _ l0 t360 _ ?side1 ?side2 A4.out).mono ?_); (case side1 => repeat (first | exact HR0.out | (with_reducible refine Kd.C_alloc ?_ _) | (with_reducible refine Kd.C_drewN ?_ _) | (with_reducible refine Kd.C_drew ?_))); (case side2 => exact HC0.out); rintro e w7 ⟨v361, rfl, ho0, hb⟩; have HO362 := aZ (Kd.S_lower ho0 (below_size (lZB HB.out))); replace HB := aZ (below_step (lZB HB.out) hb); (try clear hb); (try clear hb2); (try clear hk); (try clear hi); (try clear ho0); obtain ⟨Ao8, co8, eo8⟩ := Kd.S_slice HO362.out; subst eo8) | (go_at_call 22; (with_reducible refine (impl_ShowFlow.calls k _ _ t360 t363 _ ?side1 ?side2 A5.out).mono ?_); (case side1 => repeat (first | exact (Kd.S_reads' HO362.out).2.2 | (with_reducible refine Kd.C_alloc ?_ _) | (with_reducible refine Kd.C_drewN ?_ _) | (with_reducible refine Kd.C_drew ?_))); (case side2 => exact (Kd.S_reads' HO362.out).2.1); rintro e w9 ⟨rfl, hb⟩; replace HO362 := aZ (Kd.S_below (lZS HO362.out) hb); replace HB := aZ (below_step (lZB HB.out) hb); (try clear hb); (try clear hb2); (try clear hk); (try clear hi))))
 (try simp only [Act.put, sZ1, sZ2, sZ3])
 go_cut [22] (fun v22 wc => ∃ (kq : Nat) (x22_5 : Bool), v22 = .bool x22_5 ∧ Aside0 (laws_FnFlowBack.j0 kq t360 t363 x22_5 = some r) ∧ Aside0 (kq ≤ k) ∧ Aside0 (Kd.S k51 51 wc w.heap.size (fun _ => True) (.slice Ao8 t360.length co8) t360) ∧ Aside0 (Below w.heap.size w wc))
 case first =>
  have H := HC6.out; clear HC6; replace H := Option.bind_eq_some_iff.mp H; obtain ⟨t364, A100, H⟩ := H; replace H : (if t363.toList = t364.toList then (laws_FnFlowBack.j0 k t360 t363 (t363.toList == ([] : List UInt8))) else (laws_FnFlowBack.j0 k t360 t363 true)) = some r := H; have A10 := Aside0.mk A100; clear A100
  by_cases c11 : t363.toList = t364.toList
  rotate_left
  ·rw [if_neg c11] at H; have c11b0 : (t363.toList == t364.toList) = false := beq_eq_false_iff_ne.mpr c11; have c11b1 : (t363.toList != t364.toList) = true := bne_iff_ne.mpr c11; (first | rw [c11b0] | (simp only [i64_w, i32_w]; rw [c11b0]) | skip); have H' := Aside0.mk H; clear H
   go_wp2_with (first | (go_at_call 23; (with_reducible refine (spec_ShowFlow.calls k _ _ t360 t364 _ ?side1 ?side2 A10.out).mono ?_); (case side1 => repeat (first | exact (Kd.S_reads' HO362.out).2.2 | (with_reducible refine Kd.C_alloc ?_ _) | (with_reducible refine Kd.C_drewN ?_ _) | (with_reducible refine Kd.C_drew ?_))); (case side2 => exact (Kd.S_reads' HO362.out).2.1); rintro e w13 ⟨rfl, hb⟩; replace HO362 := aZ (Kd.S_below (lZS HO362.out) hb); replace HB := aZ (below_step (lZB HB.out) hb); (try clear hb); (try clear hb2); (try clear hk); (try clear hi)))
   repeat (go_quiet (first | (go_at_call 23; (with_reducible refine (spec_ShowFlow.calls k _ _ t360 t364 _ ?side1 ?side2 A10.out).mono ?_); (case side1 => repeat (first | exact (Kd.S_reads' HO362.out).2.2 | (with_reducible refine Kd.C_alloc ?_ _) | (with_reducible refine Kd.C_drewN ?_ _) | (with_reducible refine Kd.C_drew ?_))); (case side2 => exact (Kd.S_reads' HO362.out).2.1); rintro e w13 ⟨rfl, hb⟩; replace HO362 := aZ (Kd.S_below (lZS HO362.out) hb); replace HB := aZ (below_step (lZB HB.out) hb); (try clear hb); (try clear hb2); (try clear hk); (try clear hi))); try go_wp2_with (first | (go_at_call 23; (with_reducible refine (spec_ShowFlow.calls k _ _ t360 t364 _ ?side1 ?side2 A10.out).mono ?_); (case side1 => repeat (first | exact (Kd.S_reads' HO362.out).2.2 | (with_reducible refine Kd.C_alloc ?_ _) | (with_reducible refine Kd.C_drewN ?_ _) | (with_reducible refine Kd.C_drew ?_))); (case side2 => exact (Kd.S_reads' HO362.out).2.1); rintro e w13 ⟨rfl, hb⟩; replace HO362 := aZ (Kd.S_below (lZS HO362.out) hb); replace HB := aZ (below_step (lZB HB.out) hb); (try clear hb); (try clear hb2); (try clear hk); (try clear hi))))
   go_meet
   case rel => exact ⟨_, (true), tZB, H', ⟨by first | omega | exact Nat.le_refl _⟩, ⟨lZS HO362.out⟩, ⟨bZ⟩⟩
  rw [if_pos c11] at H; have c11b0 : (t363.toList == t364.toList) = true := beq_iff_eq.mpr c11; have c11b1 : (t363.toList != t364.toList) = false := bne_eq_false_iff_eq.mpr c11; clear c11; (first | rw [c11b0] | (simp only [i64_w, i32_w]; rw [c11b0]) | skip); have H' := Aside0.mk H; clear H
  go_wp2_with (first | (go_at_call 23; (with_reducible refine (spec_ShowFlow.calls k _ _ t360 t364 _ ?side1 ?side2 A10.out).mono ?_); (case side1 => repeat (first | exact (Kd.S_reads' HO362.out).2.2 | (with_reducible refine Kd.C_alloc ?_ _) | (with_reducible refine Kd.C_drewN ?_ _) | (with_reducible refine Kd.C_drew ?_))); (case side2 => exact (Kd.S_reads' HO362.out).2.1); rintro e w12 ⟨rfl, hb⟩; replace HO362 := aZ (Kd.S_below (lZS HO362.out) hb); replace HB := aZ (below_step (lZB HB.out) hb); (try clear hb); (try clear hb2); (try clear hk); (try clear hi)))
  repeat (go_quiet (first | (go_at_call 23; (with_reducible refine (spec_ShowFlow.calls k _ _ t360 t364 _ ?side1 ?side2 A10.out).mono ?_); (case side1 => repeat (first | exact (Kd.S_reads' HO362.out).2.2 | (with_reducible refine Kd.C_alloc ?_ _) | (with_reducible refine Kd.C_drewN ?_ _) | (with_reducible refine Kd.C_drew ?_))); (case side2 => exact (Kd.S_reads' HO362.out).2.1); rintro e w12 ⟨rfl, hb⟩; replace HO362 := aZ (Kd.S_below (lZS HO362.out) hb); replace HB := aZ (below_step (lZB HB.out) hb); (try clear hb); (try clear hb2); (try clear hk); (try clear hi))); try go_wp2_with (first | (go_at_call 23; (with_reducible refine (spec_ShowFlow.calls k _ _ t360 t364 _ ?side1 ?side2 A10.out).mono ?_); (case side1 => repeat (first | exact (Kd.S_reads' HO362.out).2.2 | (with_reducible refine Kd.C_alloc ?_ _) | (with_reducible refine Kd.C_drewN ?_ _) | (with_reducible refine Kd.C_drew ?_))); (case side2 => exact (Kd.S_reads' HO362.out).2.1); rintro e w12 ⟨rfl, hb⟩; replace HO362 := aZ (Kd.S_below (lZS HO362.out) hb); replace HB := aZ (below_step (lZB HB.out) hb); (try clear hb); (try clear hb2); (try clear hk); (try clear hi))))
  go_meet
  case rel => exact ⟨_, ((t363.toList == ([] : List UInt8))), tZB, H', ⟨by first | omega | exact Nat.le_refl _⟩, ⟨lZS HO362.out⟩, ⟨bZ⟩⟩
 case rest =>
  clear HC6; (try clear c3); obtain ⟨kq, x22_5, rfl, HA, HJ5, HO_3, HB⟩ := hcut
  cases kq with
  | zero => exact absurd HA.out (by simp [laws_FnFlowBack.j0])
  | succ kj5 =>
   have H := HA.out; clear HA; simp only [laws_FnFlowBack.j0] at H
   by_cases c14 : x22_5 = true
   ·subst c14; rw [if_pos rfl] at H; replace H := Option.bind_eq_some_iff.mp H; obtain ⟨t365, A150, H⟩ := H; replace H : (some (t363.toList == t365.toList)) = some r := H; have A15 := Aside0.mk A150; clear A150; obtain rfl := Option.some.inj H
    go_wp2_with (first | (go_at_call 23; (with_reducible refine (spec_ShowFlow.calls kj5 _ _ t360 t365 _ ?side1 ?side2 A15.out).mono ?_); (case side1 => repeat (first | exact (Kd.S_reads' HO_3.out).2.2 | (with_reducible refine Kd.C_alloc ?_ _) | (with_reducible refine Kd.C_drewN ?_ _) | (with_reducible refine Kd.C_drew ?_))); (case side2 => exact (Kd.S_reads' HO_3.out).2.1); rintro e w16 ⟨rfl, hb⟩; replace HO_3 := aZ (Kd.S_below (lZS HO_3.out) hb); replace HB := aZ (below_step (lZB HB.out) hb); (try clear hb); (try clear hb2); (try clear hk); (try clear hi)))
    repeat (go_quiet (first | (go_at_call 23; (with_reducible refine (spec_ShowFlow.calls kj5 _ _ t360 t365 _ ?side1 ?side2 A15.out).mono ?_); (case side1 => repeat (first | exact (Kd.S_reads' HO_3.out).2.2 | (with_reducible refine Kd.C_alloc ?_ _) | (with_reducible refine Kd.C_drewN ?_ _) | (with_reducible refine Kd.C_drew ?_))); (case side2 => exact (Kd.S_reads' HO_3.out).2.1); rintro e w16 ⟨rfl, hb⟩; replace HO_3 := aZ (Kd.S_below (lZS HO_3.out) hb); replace HB := aZ (below_step (lZB HB.out) hb); (try clear hb); (try clear hb2); (try clear hk); (try clear hi))); try go_wp2_with (first | (go_at_call 23; (with_reducible refine (spec_ShowFlow.calls kj5 _ _ t360 t365 _ ?side1 ?side2 A15.out).mono ?_); (case side1 => repeat (first | exact (Kd.S_reads' HO_3.out).2.2 | (with_reducible refine Kd.C_alloc ?_ _) | (with_reducible refine Kd.C_drewN ?_ _) | (with_reducible refine Kd.C_drew ?_))); (case side2 => exact (Kd.S_reads' HO_3.out).2.1); rintro e w16 ⟨rfl, hb⟩; replace HO_3 := aZ (Kd.S_below (lZS HO_3.out) hb); replace HB := aZ (below_step (lZB HB.out) hb); (try clear hb); (try clear hb2); (try clear hk); (try clear hi))))
    go_ret; exact ⟨tZC, bZ⟩
   replace c14 := Bool.eq_false_iff.mpr c14; subst c14; rw [if_neg Bool.false_ne_true] at H; replace H := Option.bind_eq_some_iff.mp H; obtain ⟨⟨t366, t367⟩, A170, H⟩ := H; replace H : (if t367 = 0 then (laws_FnFlowBack.j1 kj5 t360 t363 t366 ((t366.length : Int) != (t360.length : Int))) else (laws_FnFlowBack.j1 kj5 t360 t363 t366 true)) = some r := H; have A17 := Aside0.mk A170; clear A170; have HC18 := Aside0.mk H; clear H
   go_upto_region 8 with (first | (go_at_call 24; (with_reducible refine (impl_ParseFlow.calls kj5 t363 t366 t367 _ A17.out).mono ?_); rintro e w19 ⟨v368, rfl, ho0, hb⟩; have HO369 := aZ (Kd.S_lower (Kd.S_new' ho0 (Kd.S_lt (lZS HO_3.out))) (below_size (lZB HB.out))); replace HO_3 := aZ (Kd.S_elder' (lZS HO_3.out) (Kd.S_base ho0) hb); replace HB := aZ (below_step (lZB HB.out) hb); (try clear hb); (try clear hb2); (try clear hk); (try clear hi); (try clear ho0)))
   repeat (go_quiet (first | (go_at_call 24; (with_reducible refine (impl_ParseFlow.calls kj5 t363 t366 t367 _ A17.out).mono ?_); rintro e w19 ⟨v368, rfl, ho0, hb⟩; have HO369 := aZ (Kd.S_lower (Kd.S_new' ho0 (Kd.S_lt (lZS HO_3.out))) (below_size (lZB HB.out))); replace HO_3 := aZ (Kd.S_elder' (lZS HO_3.out) (Kd.S_base ho0) hb); replace HB := aZ (below_step (lZB HB.out) hb); (try clear hb); (try clear hb2); (try clear hk); (try clear hi); (try clear ho0))); go_upto_region 8 with (first | (go_at_call 24; (with_reducible refine (impl_ParseFlow.calls kj5 t363 t366 t367 _ A17.out).mono ?_); rintro e w19 ⟨v368, rfl, ho0, hb⟩; have HO369 := aZ (Kd.S_lower (Kd.S_new' ho0 (Kd.S_lt (lZS HO_3.out))) (below_size (lZB HB.out))); replace HO_3 := aZ (Kd.S_elder' (lZS HO_3.out) (Kd.S_base ho0) hb); replace HB := aZ (below_step (lZB HB.out) hb); (try clear hb); (try clear hb2); (try clear hk); (try clear hi); (try clear ho0))))
   (try simp only [Act.put, sZ1, sZ2, sZ3])
   go_cut [40] (fun v40 wc => ∃ (kq : Nat) (x40_17 : Bool), v40 = .bool x40_17 ∧ Aside0 (laws_FnFlowBack.j1 kq t360 t363 t366 x40_17 = some r) ∧ Aside0 (kq ≤ kj5) ∧ Aside0 (Kd.S k51 51 wc w.heap.size (fun k_ => some k_ ≠ (v368 : Value).ownBlock) (.slice Ao8 t360.length co8) t360) ∧ Aside0 (Kd.S k51 51 wc w.heap.size (fun k_ => some k_ ≠ ((.slice Ao8 t360.length co8) : Value).ownBlock) v368 t366) ∧ Aside0 (Below w.heap.size w wc))
   case first =>
    have H := HC18.out; clear HC18
    by_cases c20 : t367 = 0
    rotate_left
    ·rw [if_neg c20] at H; have c20b0 : (t367 == 0) = false := beq_eq_false_iff_ne.mpr c20; have c20b1 : (t367 != 0) = true := bne_iff_ne.mpr c20; (first | rw [c20b0] | (simp only [i64_w, i32_w]; rw [c20b0]) | skip); have H' := Aside0.mk H; clear H; go_wp2
     repeat (go_quiet (fail); try go_wp2)
     go_meet
     case rel => exact ⟨_, (true), tZB, H', ⟨by have := HJ5.out; first | omega | exact Nat.le_refl _⟩, ⟨by (with_reducible repeat (first | apply Kd.S_alloc | apply Kd.S_drewN | apply Kd.S_drew)); exact Kd.S_mono HO_3.out (fun _ hk => hk.2)⟩, ⟨by (with_reducible repeat (first | apply Kd.S_alloc | apply Kd.S_drewN | apply Kd.S_drew)); exact Kd.S_mono HO369.out (fun _ hk => hk.2)⟩, ⟨bZ⟩⟩
    rw [if_pos c20] at H; have c20b0 : (t367 == 0) = true := beq_iff_eq.mpr c20; have c20b1 : (t367 != 0) = false := bne_eq_false_iff_eq.mpr c20; clear c20; (first | rw [c20b0] | (simp only [i64_w, i32_w]; rw [c20b0]) | skip); have H' := Aside0.mk H; clear H; obtain ⟨Ao21, co21, eo21⟩ := Kd.S_slice HO369.out; subst eo21; go_wp2
    repeat (go_quiet (fail); try go_wp2)
    go_meet
    case rel => exact ⟨_, (((t366.length : Int) != (t360.length : Int))), tZB, H', ⟨by have := HJ5.out; first | omega | exact Nat.le_refl _⟩, ⟨by (with_reducible repeat (first | apply Kd.S_alloc | apply Kd.S_drewN | apply Kd.S_drew)); exact Kd.S_mono HO_3.out (fun _ hk => hk.2)⟩, ⟨by (with_reducible repeat (first | apply Kd.S_alloc | apply Kd.S_drewN | apply Kd.S_drew)); exact Kd.S_mono HO369.out (fun _ hk => hk.2)⟩, ⟨bZ⟩⟩
   case rest =>
    clear HC18; (try clear c3 c14); obtain ⟨kq, x40_17, rfl, HA, HJ17, HO_3, HO_5, HB⟩ := hcut
    cases kq with
    | zero => exact absurd HA.out (by simp [laws_FnFlowBack.j1])
    | succ kj17 =>
     have H := HA.out; clear HA; simp only [laws_FnFlowBack.j1] at H
     by_cases c22 : x40_17 = true
     ·subst c22; rw [if_pos rfl] at H; obtain rfl := Option.some.inj H; go_wp2
      repeat (go_quiet (fail); try go_wp2)
      go_ret; exact ⟨tZC, bZ⟩
     replace c22 := Bool.eq_false_iff.mpr c22; subst c22; rw [if_neg Bool.false_ne_true] at H; have H' := Aside0.mk H; clear H; go_wp2
     repeat (go_quiet (fail); try go_wp2)
     go_loopg [7] kj17 (fun kq v7 w' => ∃ (x7_3 : Int), v7 = .int .i64 x7_3 ∧ Aside0 (laws_FnFlowBack.l0 kq t360 t363 t366 x7_3 = some r) ∧ Aside0 (kq ≤ kj17) ∧ Aside0 (Kd.S k51 51 w' w.heap.size (fun k_ => some k_ ≠ (v368 : Value).ownBlock) (.slice Ao8 t360.length co8) t360) ∧ Aside0 (Kd.S k51 51 w' w.heap.size (fun k_ => some k_ ≠ ((.slice Ao8 t360.length co8) : Value).ownBlock) v368 t366) ∧ Aside0 (Below w.heap.size w w'))
     case atStart => exact ⟨(0), tZB, H', ⟨Nat.le_refl _⟩, ⟨lZS HO_3.out⟩, ⟨lZS HO_5.out⟩, ⟨bZ⟩⟩
     case round =>
      clear H'; (try clear c3 c14 c22); obtain ⟨x7_3, rfl, HA, HK3, HO_3, HO_5, HB⟩ := hrel
      cases gk with
      | zero => exact absurd HA.out (by simp [laws_FnFlowBack.l0])
      | succ k3 =>
       have H := HA.out; clear HA; simp only [laws_FnFlowBack.l0] at H
       by_cases c23 : x7_3 < (t360.length : Int)
       rotate_left
       ·rw [if_neg c23] at H; have c23b0 := decide_eq_false c23; clear c23; replace H := Option.bind_eq_some_iff.mp H; obtain ⟨t370, A400, H⟩ := H; replace H : (some (t370.toList == t363.toList)) = some r := H; have A40 := Aside0.mk A400; clear A400; obtain rfl := Option.some.inj H; obtain ⟨Ao41, co41, eo41⟩ := Kd.S_slice HO_5.out; subst eo41
        go_wp2_with (first | (go_at_call 22; (with_reducible refine (impl_ShowFlow.calls k3 _ _ t366 t370 _ ?side1 ?side2 A40.out).mono ?_); (case side1 => repeat (first | exact (Kd.S_reads' HO_5.out).2.2 | (with_reducible refine Kd.C_alloc ?_ _) | (with_reducible refine Kd.C_drewN ?_ _) | (with_reducible refine Kd.C_drew ?_))); (case side2 => exact (Kd.S_reads' HO_5.out).2.1); rintro e w42 ⟨rfl, hb⟩; replace HO_3 := aZ (Kd.S_below (lZS HO_3.out) hb); replace HO_5 := aZ (Kd.S_below (lZS HO_5.out) hb); replace HB := aZ (below_step (lZB HB.out) hb); (try clear hb); (try clear hb2); (try clear hk); (try clear hi)))
        repeat (go_quiet (first | (go_at_call 22; (with_reducible refine (impl_ShowFlow.calls k3 _ _ t366 t370 _ ?side1 ?side2 A40.out).mono ?_); (case side1 => repeat (first | exact (Kd.S_reads' HO_5.out).2.2 | (with_reducible refine Kd.C_alloc ?_ _) | (with_reducible refine Kd.C_drewN ?_ _) | (with_reducible refine Kd.C_drew ?_))); (case side2 => exact (Kd.S_reads' HO_5.out).2.1); rintro e w42 ⟨rfl, hb⟩; replace HO_3 := aZ (Kd.S_below (lZS HO_3.out) hb); replace HO_5 := aZ (Kd.S_below (lZS HO_5.out) hb); replace HB := aZ (below_step (lZB HB.out) hb); (try clear hb); (try clear hb2); (try clear hk); (try clear hi))); try go_wp2_with (first | (go_at_call 22; (with_reducible refine (impl_ShowFlow.calls k3 _ _ t366 t370 _ ?side1 ?side2 A40.out).mono ?_); (case side1 => repeat (first | exact (Kd.S_reads' HO_5.out).2.2 | (with_reducible refine Kd.C_alloc ?_ _) | (with_reducible refine Kd.C_drewN ?_ _) | (with_reducible refine Kd.C_drew ?_))); (case side2 => exact (Kd.S_reads' HO_5.out).2.1); rintro e w42 ⟨rfl, hb⟩; replace HO_3 := aZ (Kd.S_below (lZS HO_3.out) hb); replace HO_5 := aZ (Kd.S_below (lZS HO_5.out) hb); replace HB := aZ (below_step (lZB HB.out) hb); (try clear hb); (try clear hb2); (try clear hk); (try clear hi))))
        go_ret; exact ⟨tZC, bZ⟩
       rw [if_pos c23] at H; have c23b0 := decide_eq_true c23; clear c23; have HC24 := Aside0.mk H; clear H
       go_upto_region 13 with (fail)
       repeat (go_quiet (fail); go_upto_region 13 with (fail))
       go_cut [72] (fun v72 wc => ∃ (kq : Nat) (x72_23 : Bool), v72 = .bool x72_23 ∧ Aside0 (laws_FnFlowBack.j3 kq t360 t363 t366 x7_3 x72_23 = some r) ∧ Aside0 (kq ≤ k3) ∧ Aside0 (Kd.S k51 51 wc w.heap.size (fun k_ => some k_ ≠ (v368 : Value).ownBlock) (.slice Ao8 t360.length co8) t360) ∧ Aside0 (Kd.S k51 51 wc w.heap.size (fun k_ => some k_ ≠ ((.slice Ao8 t360.length co8) : Value).ownBlock) v368 t366) ∧ Aside0 (Below w.heap.size w wc))
       case first =>
        have H := HC24.out; clear HC24
        by_cases c25 : 0 ≤ x7_3
        rotate_left
        ·rw [if_neg c25] at H; exact absurd H (by simp)
        rw [if_pos c25] at H; have c25b0 := decide_eq_true c25; clear c25; (first | rw [c25b0] | (simp only [i64_w, i32_w]; rw [c25b0]) | skip)
        by_cases c26 : x7_3 < (t366.length : Int)
        rotate_left
        ·rw [if_neg c26] at H; exact absurd H (by simp)
        rw [if_pos c26] at H; have c26b0 := decide_eq_true c26; clear c26
        by_cases c27 : ((rd_T51 t366 x7_3).f0) = ((rd_T51 t360 x7_3).f0)
        rotate_left
        ·rw [if_neg c27] at H; have c27b0 : (((rd_T51 t366 x7_3).f0) == ((rd_T51 t360 x7_3).f0)) = false := beq_eq_false_iff_ne.mpr c27; have c27b1 : (((rd_T51 t366 x7_3).f0) != ((rd_T51 t360 x7_3).f0)) = true := bne_iff_ne.mpr c27; have H' := Aside0.mk H; clear H; obtain ⟨Ao29, co29, eo29⟩ := Kd.S_slice HO_5.out; subst eo29; have p371 : 0 ≤ (x7_3 : Int) := of_decide_eq_true tZE; have q371 : x7_3 < (t366.length : Int) := of_decide_eq_true tZE; obtain ⟨ad371, A371_1, c371_1, e371, hx371_0, hx371_1, hl371_1, hi371_1⟩ := at_T51 (Kd.S_reads' HO_5.out).2.2 x7_3 p371 q371
         cases e371
         obtain ⟨ce371, hce371, hMe371, hcc371⟩ := Kd.S_get HO_5.out z51 x7_3 p371 (by first | exact q371 | exact of_decide_eq_true tZE | (have e_ := (Kd.S_reads' HO_5.out).1; omega)); obtain ⟨ve371_1, rfl, ge371_1⟩ := k51_openM hMe371; have hv371_1 := hcc371 1 _ rfl; rw [add_field _ _ 1 (by omega)] at hv371_1; replace hv371_1 := Option.some.inj (hv371_1.symm.trans hx371_1); rw [hv371_1] at ge371_1; have HL371_1 := aZ (show Kd.R Kd.string 9 _ _ _ _ ((rd_T51 t366 x7_3).f1) from ge371_1); clear hv371_1 ge371_1; clear hcc371 hce371; have HR371_1 := Aside0.mk hi371_1; have HC371_1 := Aside0.mk hl371_1; clear hi371_1 hl371_1; replace p371 := eq_true p371; replace q371 := eq_true q371; have p372 : 0 ≤ (x7_3 : Int) := of_decide_eq_true tZE; have q372 : x7_3 < (t360.length : Int) := of_decide_eq_true tZE
         obtain ⟨ad372, A372_1, c372_1, e372, hx372_0, hx372_1, hl372_1, hi372_1⟩ := at_T51 (Kd.S_reads' HO_3.out).2.2 x7_3 p372 q372
         cases e372
         obtain ⟨ce372, hce372, hMe372, hcc372⟩ := Kd.S_get HO_3.out z51 x7_3 p372 (by first | exact q372 | exact of_decide_eq_true tZE | (have e_ := (Kd.S_reads' HO_3.out).1; omega)); obtain ⟨ve372_1, rfl, ge372_1⟩ := k51_openM hMe372; have hv372_1 := hcc372 1 _ rfl; rw [add_field _ _ 1 (by omega)] at hv372_1; replace hv372_1 := Option.some.inj (hv372_1.symm.trans hx372_1); rw [hv372_1] at ge372_1; have HL372_1 := aZ (show Kd.R Kd.string 9 _ _ _ _ ((rd_T51 t360 x7_3).f1) from ge372_1); clear hv372_1 ge372_1; clear hcc372 hce372; have HR372_1 := Aside0.mk hi372_1; have HC372_1 := Aside0.mk hl372_1; clear hi372_1 hl372_1; replace p372 := eq_true p372; replace q372 := eq_true q372; go_wp2
         repeat (go_quiet (fail); try go_wp2)
         go_meet
         case rel => exact ⟨_, (true), tZB, H', ⟨by have := HJ5.out; have := HJ17.out; have := HK3.out; first | omega | exact Nat.le_refl _⟩, ⟨lZS HO_3.out⟩, ⟨lZS HO_5.out⟩, ⟨bZ⟩⟩
        rw [if_pos c27] at H; have c27b0 : (((rd_T51 t366 x7_3).f0) == ((rd_T51 t360 x7_3).f0)) = true := beq_iff_eq.mpr c27; have c27b1 : (((rd_T51 t366 x7_3).f0) != ((rd_T51 t360 x7_3).f0)) = false := bne_eq_false_iff_eq.mpr c27; clear c27; have H' := Aside0.mk H; clear H; obtain ⟨Ao28, co28, eo28⟩ := Kd.S_slice HO_5.out; subst eo28; have p371 : 0 ≤ (x7_3 : Int) := of_decide_eq_true tZE; have q371 : x7_3 < (t366.length : Int) := of_decide_eq_true tZE; obtain ⟨ad371, A371_1, c371_1, e371, hx371_0, hx371_1, hl371_1, hi371_1⟩ := at_T51 (Kd.S_reads' HO_5.out).2.2 x7_3 p371 q371
        cases e371
        obtain ⟨ce371, hce371, hMe371, hcc371⟩ := Kd.S_get HO_5.out z51 x7_3 p371 (by first | exact q371 | exact of_decide_eq_true tZE | (have e_ := (Kd.S_reads' HO_5.out).1; omega)); obtain ⟨ve371_1, rfl, ge371_1⟩ := k51_openM hMe371; have hv371_1 := hcc371 1 _ rfl; rw [add_field _ _ 1 (by omega)] at hv371_1; replace hv371_1 := Option.some.inj (hv371_1.symm.trans hx371_1); rw [hv371_1] at ge371_1; have HL371_1 := aZ (show Kd.R Kd.string 9 _ _ _ _ ((rd_T51 t366 x7_3).f1) from ge371_1); clear hv371_1 ge371_1; clear hcc371 hce371; have HR371_1 := Aside0.mk hi371_1; have HC371_1 := Aside0.mk hl371_1; clear hi371_1 hl371_1; replace p371 := eq_true p371; replace q371 := eq_true q371; have p372 : 0 ≤ (x7_3 : Int) := of_decide_eq_true tZE; have q372 : x7_3 < (t360.length : Int) := of_decide_eq_true tZE
        obtain ⟨ad372, A372_1, c372_1, e372, hx372_0, hx372_1, hl372_1, hi372_1⟩ := at_T51 (Kd.S_reads' HO_3.out).2.2 x7_3 p372 q372
        cases e372
        obtain ⟨ce372, hce372, hMe372, hcc372⟩ := Kd.S_get HO_3.out z51 x7_3 p372 (by first | exact q372 | exact of_decide_eq_true tZE | (have e_ := (Kd.S_reads' HO_3.out).1; omega)); obtain ⟨ve372_1, rfl, ge372_1⟩ := k51_openM hMe372; have hv372_1 := hcc372 1 _ rfl; rw [add_field _ _ 1 (by omega)] at hv372_1; replace hv372_1 := Option.some.inj (hv372_1.symm.trans hx372_1); rw [hv372_1] at ge372_1; have HL372_1 := aZ (show Kd.R Kd.string 9 _ _ _ _ ((rd_T51 t360 x7_3).f1) from ge372_1); clear hv372_1 ge372_1; clear hcc372 hce372; have HR372_1 := Aside0.mk hi372_1; have HC372_1 := Aside0.mk hl372_1; clear hi372_1 hl372_1; replace p372 := eq_true p372; replace q372 := eq_true q372; have p373 : 0 ≤ (x7_3 : Int) := of_decide_eq_true tZE; have q373 : x7_3 < (t366.length : Int) := of_decide_eq_true tZE
        obtain ⟨ad373, A373_1, c373_1, e373, hx373_0, hx373_1, hl373_1, hi373_1⟩ := at_T51 (Kd.S_reads' HO_5.out).2.2 x7_3 p373 q373; obtain rfl : ad371 = ad373 := (by injection e373); obtain ⟨ce373, hce373, hMe373, hcc373⟩ := Kd.S_get HO_5.out z51 x7_3 p373 (by first | exact q373 | exact of_decide_eq_true tZE | (have e_ := (Kd.S_reads' HO_5.out).1; omega)); obtain ⟨ve373_1, rfl, ge373_1⟩ := k51_openM hMe373; have hv373_1 := hcc373 1 _ rfl; rw [add_field _ _ 1 (by omega)] at hv373_1; replace hv373_1 := Option.some.inj (hv373_1.symm.trans hx373_1); rw [hv373_1] at ge373_1; have HL373_1 := aZ (show Kd.R Kd.string 9 _ _ _ _ ((rd_T51 t366 x7_3).f1) from ge373_1); clear hv373_1 ge373_1; clear hcc373 hce373; have HR373_1 := Aside0.mk hi373_1; have HC373_1 := Aside0.mk hl373_1; clear hi373_1 hl373_1; replace p373 := eq_true p373; replace q373 := eq_true q373
        have ea_ := Option.some.inj (hx371_1.symm.trans hx373_1)
        injection ea_ with ea_ en_ ec_
        subst ea_; subst ec_; clear en_; have p374 : 0 ≤ (x7_3 : Int) := of_decide_eq_true tZE; have q374 : x7_3 < (t360.length : Int) := of_decide_eq_true tZE; obtain ⟨ad374, A374_1, c374_1, e374, hx374_0, hx374_1, hl374_1, hi374_1⟩ := at_T51 (Kd.S_reads' HO_3.out).2.2 x7_3 p374 q374; obtain rfl : ad372 = ad374 := (by injection e374); obtain ⟨ce374, hce374, hMe374, hcc374⟩ := Kd.S_get HO_3.out z51 x7_3 p374 (by first | exact q374 | exact of_decide_eq_true tZE | (have e_ := (Kd.S_reads' HO_3.out).1; omega)); obtain ⟨ve374_1, rfl, ge374_1⟩ := k51_openM hMe374; have hv374_1 := hcc374 1 _ rfl; rw [add_field _ _ 1 (by omega)] at hv374_1; replace hv374_1 := Option.some.inj (hv374_1.symm.trans hx374_1); rw [hv374_1] at ge374_1; have HL374_1 := aZ (show Kd.R Kd.string 9 _ _ _ _ ((rd_T51 t360 x7_3).f1) from ge374_1); clear hv374_1 ge374_1; clear hcc374 hce374; have HR374_1 := Aside0.mk hi374_1
        have HC374_1 := Aside0.mk hl374_1; clear hi374_1 hl374_1; replace p374 := eq_true p374; replace q374 := eq_true q374; have ea_ := Option.some.inj (hx372_1.symm.trans hx374_1)
        injection ea_ with ea_ en_ ec_
        subst ea_; subst ec_; clear en_; go_wp2
        repeat (go_quiet (fail); try go_wp2)
        go_meet
        case rel => exact ⟨_, (((((rd_T51 t366 x7_3).f1).length : Int) != (((rd_T51 t360 x7_3).f1).length : Int))), tZB, H', ⟨by have := HJ5.out; have := HJ17.out; have := HK3.out; first | omega | exact Nat.le_refl _⟩, ⟨lZS HO_3.out⟩, ⟨lZS HO_5.out⟩, ⟨bZ⟩⟩
       case rest =>
        clear HC24; (try clear c3 c14 c22 c23 c23b0); obtain ⟨kq, x72_23, rfl, HA, HJ23, HO_3, HO_5, HB⟩ := hcut
        cases kq with
        | zero => exact absurd HA.out (by simp [laws_FnFlowBack.j3])
        | succ kj23 =>
         have H := HA.out; clear HA; simp only [laws_FnFlowBack.j3] at H
         by_cases c30 : x72_23 = true
         ·subst c30; rw [if_pos rfl] at H; obtain rfl := Option.some.inj H; go_wp2
          repeat (go_quiet (fail); try go_wp2)
          go_ret; exact ⟨tZC, bZ⟩
         replace c30 := Bool.eq_false_iff.mpr c30; subst c30; rw [if_neg Bool.false_ne_true] at H; have H' := Aside0.mk H; clear H; go_wp2
         repeat (go_quiet (fail); try go_wp2)
         go_loopg [8] kj23 (fun kq v8 w' => ∃ (x8_5 : Int), v8 = .int .i64 x8_5 ∧ Aside0 (laws_FnFlowBack.l1 kq t360 t363 t366 x7_3 x8_5 = some r) ∧ Aside0 (kq ≤ kj23) ∧ Aside0 (Kd.S k51 51 w' w.heap.size (fun k_ => some k_ ≠ (v368 : Value).ownBlock) (.slice Ao8 t360.length co8) t360) ∧ Aside0 (Kd.S k51 51 w' w.heap.size (fun k_ => some k_ ≠ ((.slice Ao8 t360.length co8) : Value).ownBlock) v368 t366) ∧ Aside0 (Below w.heap.size w w'))
         case atStart => exact ⟨(0), tZB, H', ⟨Nat.le_refl _⟩, ⟨lZS HO_3.out⟩, ⟨lZS HO_5.out⟩, ⟨bZ⟩⟩
         case round =>
          clear H'; (try clear c3 c14 c22 c23 c23b0 c30); obtain ⟨x8_5, rfl, HA, HK5, HO_3, HO_5, HB⟩ := hrel
          cases gk with
          | zero => exact absurd HA.out (by simp [laws_FnFlowBack.l1])
          | succ k5 =>
           have H := HA.out; clear HA; simp only [laws_FnFlowBack.l1] at H
           by_cases c31 : 0 ≤ x7_3
           rotate_left
           ·rw [if_neg c31] at H; exact absurd H (by simp)
           rw [if_pos c31] at H; have c31b0 := decide_eq_true c31; clear c31
           by_cases c32 : x7_3 < (t360.length : Int)
           rotate_left
           ·rw [if_neg c32] at H; exact absurd H (by simp)
           rw [if_pos c32] at H; have c32b0 := decide_eq_true c32; clear c32
           by_cases c33 : x8_5 < (((rd_T51 t360 x7_3).f1).length : Int)
           rotate_left
           ·rw [if_neg c33] at H; have c33b0 := decide_eq_false c33; clear c33; have H' := Aside0.mk H; clear H; have p375 : 0 ≤ (x7_3 : Int) := of_decide_eq_true tZE; have q375 : x7_3 < (t360.length : Int) := of_decide_eq_true tZE; obtain ⟨ad375, A375_1, c375_1, e375, hx375_0, hx375_1, hl375_1, hi375_1⟩ := at_T51 (Kd.S_reads' HO_3.out).2.2 x7_3 p375 q375
            cases e375
            obtain ⟨ce375, hce375, hMe375, hcc375⟩ := Kd.S_get HO_3.out z51 x7_3 p375 (by first | exact q375 | exact of_decide_eq_true tZE | (have e_ := (Kd.S_reads' HO_3.out).1; omega)); obtain ⟨ve375_1, rfl, ge375_1⟩ := k51_openM hMe375; have hv375_1 := hcc375 1 _ rfl; rw [add_field _ _ 1 (by omega)] at hv375_1; replace hv375_1 := Option.some.inj (hv375_1.symm.trans hx375_1); rw [hv375_1] at ge375_1; have HL375_1 := aZ (show Kd.R Kd.string 9 _ _ _ _ ((rd_T51 t360 x7_3).f1) from ge375_1); clear hv375_1 ge375_1; clear hcc375 hce375; have HR375_1 := Aside0.mk hi375_1; have HC375_1 := Aside0.mk hl375_1; clear hi375_1 hl375_1; replace p375 := eq_true p375; replace q375 := eq_true q375; go_wp2
            repeat (go_quiet (fail); try go_wp2)
            go_roundg k5
            case measure => have := HJ5.out; have := HJ17.out; have := HK3.out; have := HJ23.out; have := HK5.out; omega
            case rel => exact ⟨(wrap64 (x7_3 + 1)), tZB, H', ⟨by have := HJ5.out; have := HJ17.out; have := HK3.out; have := HJ23.out; have := HK5.out; omega⟩, ⟨lZS HO_3.out⟩, ⟨lZS HO_5.out⟩, ⟨bZ⟩⟩
           rw [if_pos c33] at H; have c33b0 := decide_eq_true c33; clear c33
           by_cases c34 : x7_3 < (t366.length : Int)
           rotate_left
           ·rw [if_neg c34] at H; exact absurd H (by simp)
           rw [if_pos c34] at H; have c34b0 := decide_eq_true c34; clear c34
           by_cases c35 : 0 ≤ x8_5
           rotate_left
           ·rw [if_neg c35] at H; exact absurd H (by simp)
           rw [if_pos c35] at H; have c35b0 := decide_eq_true c35; clear c35
           by_cases c36 : x8_5 < (((rd_T51 t366 x7_3).f1).length : Int)
           rotate_left
           ·rw [if_neg c36] at H; exact absurd H (by simp)
           rw [if_pos c36] at H; have c36b0 := decide_eq_true c36; clear c36
           by_cases c37 : (rdOf ByteArray.empty ((rd_T51 t366 x7_3).f1) x8_5).toList = (rdOf ByteArray.empty ((rd_T51 t360 x7_3).f1) x8_5).toList
           rotate_left
           ·rw [if_neg c37] at H; have c37b0 : ((rdOf ByteArray.empty ((rd_T51 t366 x7_3).f1) x8_5).toList == (rdOf ByteArray.empty ((rd_T51 t360 x7_3).f1) x8_5).toList) = false := beq_eq_false_iff_ne.mpr c37; have c37b1 : ((rdOf ByteArray.empty ((rd_T51 t366 x7_3).f1) x8_5).toList != (rdOf ByteArray.empty ((rd_T51 t360 x7_3).f1) x8_5).toList) = true := bne_iff_ne.mpr c37; obtain rfl := Option.some.inj H; have p375 : 0 ≤ (x7_3 : Int) := of_decide_eq_true tZE; have q375 : x7_3 < (t360.length : Int) := of_decide_eq_true tZE; obtain ⟨ad375, A375_1, c375_1, e375, hx375_0, hx375_1, hl375_1, hi375_1⟩ := at_T51 (Kd.S_reads' HO_3.out).2.2 x7_3 p375 q375
            cases e375
            obtain ⟨ce375, hce375, hMe375, hcc375⟩ := Kd.S_get HO_3.out z51 x7_3 p375 (by first | exact q375 | exact of_decide_eq_true tZE | (have e_ := (Kd.S_reads' HO_3.out).1; omega)); obtain ⟨ve375_1, rfl, ge375_1⟩ := k51_openM hMe375; have hv375_1 := hcc375 1 _ rfl; rw [add_field _ _ 1 (by omega)] at hv375_1; replace hv375_1 := Option.some.inj (hv375_1.symm.trans hx375_1); rw [hv375_1] at ge375_1; have HL375_1 := aZ (show Kd.R Kd.string 9 _ _ _ _ ((rd_T51 t360 x7_3).f1) from ge375_1); clear hv375_1 ge375_1; clear hcc375 hce375; have HR375_1 := Aside0.mk hi375_1; have HC375_1 := Aside0.mk hl375_1; clear hi375_1 hl375_1; replace p375 := eq_true p375; replace q375 := eq_true q375; obtain ⟨Ao39, co39, eo39⟩ := Kd.S_slice HO_5.out; subst eo39; have p376 : 0 ≤ (x7_3 : Int) := of_decide_eq_true tZE; have q376 : x7_3 < (t366.length : Int) := of_decide_eq_true tZE
            obtain ⟨ad376, A376_1, c376_1, e376, hx376_0, hx376_1, hl376_1, hi376_1⟩ := at_T51 (Kd.S_reads' HO_5.out).2.2 x7_3 p376 q376
            cases e376
            obtain ⟨ce376, hce376, hMe376, hcc376⟩ := Kd.S_get HO_5.out z51 x7_3 p376 (by first | exact q376 | exact of_decide_eq_true tZE | (have e_ := (Kd.S_reads' HO_5.out).1; omega)); obtain ⟨ve376_1, rfl, ge376_1⟩ := k51_openM hMe376; have hv376_1 := hcc376 1 _ rfl; rw [add_field _ _ 1 (by omega)] at hv376_1; replace hv376_1 := Option.some.inj (hv376_1.symm.trans hx376_1); rw [hv376_1] at ge376_1; have HL376_1 := aZ (show Kd.R Kd.string 9 _ _ _ _ ((rd_T51 t366 x7_3).f1) from ge376_1); clear hv376_1 ge376_1; clear hcc376 hce376; have HR376_1 := Aside0.mk hi376_1; have HC376_1 := Aside0.mk hl376_1; clear hi376_1 hl376_1; replace p376 := eq_true p376; replace q376 := eq_true q376; have p377 : 0 ≤ (x8_5 : Int) := of_decide_eq_true tZE; have q377 : x8_5 < (((rd_T51 t366 x7_3).f1).length : Int) := of_decide_eq_true tZE
            obtain ⟨ad377, e377, hx377_0⟩ := Kd.at_string (by repeat (first | (with_reducible exact HR376_1.out) | (with_reducible refine Kd.C_alloc ?_ _) | (with_reducible refine Kd.C_drewN ?_ _) | (with_reducible refine Kd.C_drew ?_) | exact HR376_1.out)) x8_5 p377 q377
            cases e377
            replace p377 := eq_true p377; replace q377 := eq_true q377; have p378 : 0 ≤ (x7_3 : Int) := of_decide_eq_true tZE; have q378 : x7_3 < (t360.length : Int) := of_decide_eq_true tZE; obtain ⟨ad378, A378_1, c378_1, e378, hx378_0, hx378_1, hl378_1, hi378_1⟩ := at_T51 (Kd.S_reads' HO_3.out).2.2 x7_3 p378 q378; obtain rfl : ad375 = ad378 := (by injection e378); obtain ⟨ce378, hce378, hMe378, hcc378⟩ := Kd.S_get HO_3.out z51 x7_3 p378 (by first | exact q378 | exact of_decide_eq_true tZE | (have e_ := (Kd.S_reads' HO_3.out).1; omega)); obtain ⟨ve378_1, rfl, ge378_1⟩ := k51_openM hMe378; have hv378_1 := hcc378 1 _ rfl; rw [add_field _ _ 1 (by omega)] at hv378_1; replace hv378_1 := Option.some.inj (hv378_1.symm.trans hx378_1); rw [hv378_1] at ge378_1; have HL378_1 := aZ (show Kd.R Kd.string 9 _ _ _ _ ((rd_T51 t360 x7_3).f1) from ge378_1); clear hv378_1 ge378_1; clear hcc378 hce378
            have HR378_1 := Aside0.mk hi378_1; have HC378_1 := Aside0.mk hl378_1; clear hi378_1 hl378_1; replace p378 := eq_true p378; replace q378 := eq_true q378; have ea_ := Option.some.inj (hx375_1.symm.trans hx378_1)
            injection ea_ with ea_ en_ ec_
            subst ea_; subst ec_; clear en_; have p379 : 0 ≤ (x8_5 : Int) := of_decide_eq_true tZE; have q379 : x8_5 < (((rd_T51 t360 x7_3).f1).length : Int) := of_decide_eq_true tZE; obtain ⟨ad379, e379, hx379_0⟩ := Kd.at_string (by repeat (first | (with_reducible exact HR378_1.out) | (with_reducible refine Kd.C_alloc ?_ _) | (with_reducible refine Kd.C_drewN ?_ _) | (with_reducible refine Kd.C_drew ?_) | exact HR378_1.out)) x8_5 p379 q379
            cases e379
            replace p379 := eq_true p379; replace q379 := eq_true q379; go_wp2
            repeat (go_quiet (fail); try go_wp2)
            go_ret; exact ⟨tZC, bZ⟩
           rw [if_pos c37] at H; have c37b0 : ((rdOf ByteArray.empty ((rd_T51 t366 x7_3).f1) x8_5).toList == (rdOf ByteArray.empty ((rd_T51 t360 x7_3).f1) x8_5).toList) = true := beq_iff_eq.mpr c37; have c37b1 : ((rdOf ByteArray.empty ((rd_T51 t366 x7_3).f1) x8_5).toList != (rdOf ByteArray.empty ((rd_T51 t360 x7_3).f1) x8_5).toList) = false := bne_eq_false_iff_eq.mpr c37; clear c37; have H' := Aside0.mk H; clear H; have p375 : 0 ≤ (x7_3 : Int) := of_decide_eq_true tZE; have q375 : x7_3 < (t360.length : Int) := of_decide_eq_true tZE; obtain ⟨ad375, A375_1, c375_1, e375, hx375_0, hx375_1, hl375_1, hi375_1⟩ := at_T51 (Kd.S_reads' HO_3.out).2.2 x7_3 p375 q375
           cases e375
           obtain ⟨ce375, hce375, hMe375, hcc375⟩ := Kd.S_get HO_3.out z51 x7_3 p375 (by first | exact q375 | exact of_decide_eq_true tZE | (have e_ := (Kd.S_reads' HO_3.out).1; omega)); obtain ⟨ve375_1, rfl, ge375_1⟩ := k51_openM hMe375; have hv375_1 := hcc375 1 _ rfl; rw [add_field _ _ 1 (by omega)] at hv375_1; replace hv375_1 := Option.some.inj (hv375_1.symm.trans hx375_1); rw [hv375_1] at ge375_1; have HL375_1 := aZ (show Kd.R Kd.string 9 _ _ _ _ ((rd_T51 t360 x7_3).f1) from ge375_1); clear hv375_1 ge375_1; clear hcc375 hce375; have HR375_1 := Aside0.mk hi375_1; have HC375_1 := Aside0.mk hl375_1; clear hi375_1 hl375_1; replace p375 := eq_true p375; replace q375 := eq_true q375; obtain ⟨Ao38, co38, eo38⟩ := Kd.S_slice HO_5.out; subst eo38; have p376 : 0 ≤ (x7_3 : Int) := of_decide_eq_true tZE; have q376 : x7_3 < (t366.length : Int) := of_decide_eq_true tZE
           obtain ⟨ad376, A376_1, c376_1, e376, hx376_0, hx376_1, hl376_1, hi376_1⟩ := at_T51 (Kd.S_reads' HO_5.out).2.2 x7_3 p376 q376
           cases e376
           obtain ⟨ce376, hce376, hMe376, hcc376⟩ := Kd.S_get HO_5.out z51 x7_3 p376 (by first | exact q376 | exact of_decide_eq_true tZE | (have e_ := (Kd.S_reads' HO_5.out).1; omega)); obtain ⟨ve376_1, rfl, ge376_1⟩ := k51_openM hMe376; have hv376_1 := hcc376 1 _ rfl; rw [add_field _ _ 1 (by omega)] at hv376_1; replace hv376_1 := Option.some.inj (hv376_1.symm.trans hx376_1); rw [hv376_1] at ge376_1; have HL376_1 := aZ (show Kd.R Kd.string 9 _ _ _ _ ((rd_T51 t366 x7_3).f1) from ge376_1); clear hv376_1 ge376_1; clear hcc376 hce376; have HR376_1 := Aside0.mk hi376_1; have HC376_1 := Aside0.mk hl376_1; clear hi376_1 hl376_1; replace p376 := eq_true p376; replace q376 := eq_true q376; have p377 : 0 ≤ (x8_5 : Int) := of_decide_eq_true tZE; have q377 : x8_5 < (((rd_T51 t366 x7_3).f1).length : Int) := of_decide_eq_true tZE
           obtain ⟨ad377, e377, hx377_0⟩ := Kd.at_string (by repeat (first | (with_reducible exact HR376_1.out) | (with_reducible refine Kd.C_alloc ?_ _) | (with_reducible refine Kd.C_drewN ?_ _) | (with_reducible refine Kd.C_drew ?_) | exact HR376_1.out)) x8_5 p377 q377
           cases e377
           replace p377 := eq_true p377; replace q377 := eq_true q377; have p378 : 0 ≤ (x7_3 : Int) := of_decide_eq_true tZE; have q378 : x7_3 < (t360.length : Int) := of_decide_eq_true tZE; obtain ⟨ad378, A378_1, c378_1, e378, hx378_0, hx378_1, hl378_1, hi378_1⟩ := at_T51 (Kd.S_reads' HO_3.out).2.2 x7_3 p378 q378; obtain rfl : ad375 = ad378 := (by injection e378); obtain ⟨ce378, hce378, hMe378, hcc378⟩ := Kd.S_get HO_3.out z51 x7_3 p378 (by first | exact q378 | exact of_decide_eq_true tZE | (have e_ := (Kd.S_reads' HO_3.out).1; omega)); obtain ⟨ve378_1, rfl, ge378_1⟩ := k51_openM hMe378; have hv378_1 := hcc378 1 _ rfl; rw [add_field _ _ 1 (by omega)] at hv378_1; replace hv378_1 := Option.some.inj (hv378_1.symm.trans hx378_1); rw [hv378_1] at ge378_1; have HL378_1 := aZ (show Kd.R Kd.string 9 _ _ _ _ ((rd_T51 t360 x7_3).f1) from ge378_1); clear hv378_1 ge378_1; clear hcc378 hce378
           have HR378_1 := Aside0.mk hi378_1; have HC378_1 := Aside0.mk hl378_1; clear hi378_1 hl378_1; replace p378 := eq_true p378; replace q378 := eq_true q378; have ea_ := Option.some.inj (hx375_1.symm.trans hx378_1)
           injection ea_ with ea_ en_ ec_
           subst ea_; subst ec_; clear en_; have p379 : 0 ≤ (x8_5 : Int) := of_decide_eq_true tZE; have q379 : x8_5 < (((rd_T51 t360 x7_3).f1).length : Int) := of_decide_eq_true tZE; obtain ⟨ad379, e379, hx379_0⟩ := Kd.at_string (by repeat (first | (with_reducible exact HR378_1.out) | (with_reducible refine Kd.C_alloc ?_ _) | (with_reducible refine Kd.C_drewN ?_ _) | (with_reducible refine Kd.C_drew ?_) | exact HR378_1.out)) x8_5 p379 q379
           cases e379
           replace p379 := eq_true p379; replace q379 := eq_true q379; go_wp2
           repeat (go_quiet (fail); try go_wp2)
           go_roundg k5
           case measure => have := HJ5.out; have := HJ17.out; have := HK3.out; have := HJ23.out; have := HK5.out; omega
           case rel => exact ⟨(wrap64 (x8_5 + 1)), tZB, H', ⟨by have := HJ5.out; have := HJ17.out; have := HK3.out; have := HJ23.out; have := HK5.out; omega⟩, ⟨lZS HO_3.out⟩, ⟨lZS HO_5.out⟩, ⟨bZ⟩⟩
def laws_FnFlowBack.Pure : Prop := ∀ (l0 : List Int), l0.length ≤ maxLen → l0.length * 1 ≤ 140737488351232 → (∀ x ∈ l0, (Lit.int .u8 x).wf = true) → ∃ k, laws_FnFlowBack.f k l0 = some true
theorem laws_FnFlowBack.walk (P : laws_FnFlowBack.Pure) (a0 : Option Addr) (len0 cap0 : Nat) (z0 : List Int) (w : World) (w0 : (a0 = none ∧ len0 = 0 ∧ cap0 = 0 ∧ z0 = []) ∨ ∃ x, a0 = some x ∧ len0 ≤ cap0 ∧ cap0 ≤ maxLen ∧ z0.length = cap0 ∧ (∀ i, i < z0.length → w.cell? (x.add i) = some (.int .u8 (z0.getD i 0))) ∧ ∀ n ∈ z0, (Lit.int .u8 n).wf = true) (y0 : len0 * 1 ≤ 140737488351232) :
    Calls Try.prog 5 #[.slice a0 len0 cap0] w fun e w' => e = .returned (.bool true) ∧ Below w.heap.size w w' := by
 obtain ⟨l0, rfl, hr0, hm0, hw0, hc0⟩ := ReadsInt.ofRowC w0
 obtain ⟨k, h⟩ := P l0 hm0 y0 hw0
 refine (laws_FnFlowBack.calls k _ _ l0 true w (Kd.C_of_reads (d := (0 : Int)) (h1 := fun _ => rfl) hr0) hc0 h).mono ?_
 rintro e w' ⟨rfl, hd⟩
 exact ⟨rfl, hd⟩
end Go.Proofs.Ytfkakbpjddgmeaa.PFnFlowBack
