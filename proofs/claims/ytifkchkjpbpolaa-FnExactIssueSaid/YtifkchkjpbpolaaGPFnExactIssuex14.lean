import Derived.Test.YtifkchkjpbpolaaGPFnExactIssuex0
import Derived.Test.YtifkchkjpbpolaaGPFnExactIssuex1
import Derived.Test.YtifkchkjpbpolaaGPFnExactIssuex5
import Derived.Test.YtifkchkjpbpolaaGPFnExactIssuex6
import Derived.Test.YtifkchkjpbpolaaGPFnExactIssuex10
import Derived.Test.YtifkchkjpbpolaaGPFnExactIssuex12
import Derived.Test.YtifkchkjpbpolaaGPFnExactIssuex13
import Derived.Test.YtifkchkjpbpolaaGSlimWords
namespace Go.Proofs.Ytifkchkjpbpolaa.PFnExactIssue
open Go.Proofs.Ytifkchkjpbpolaa.SlimWords
open Go.RowKit Go.Proofs.YtifkchkjpbpolaaW.PrintWords Go.Proofs.YtifkchkjpbpolaaW.PrintLast Go.Proofs.YtifkchkjpbpolaaW.PrintMore Go.Proofs.Ytifkchkjpbpolaa.MapWords
attribute [local go_sem] max2_int min2_int max_two min_two max_three min_three max_four min_four
set_option linter.unusedVariables false
set_option linter.unusedSimpArgs false
mutual
def laws_FnExactIssue.j0 : Nat → Int → Int → Int → Int → Bool → List (S201) → List (S204) → List (S124) → List (S120) → List (S124) → List (S120) → List (S124) → List (S120) → Option (Bool)
  | 0, _, _, _, _, _, _, _, _, _, _, _, _, _ => none
  | k + 1, x1, x2, x9, x12, x48, x298000, x298001, x313000, x313001, x320000, x320001, x328000, x328001 => if x48 = true then (some false) else ((laws_toRegister.f k x298000 x298001).bind fun bt329 => ((laws_eqRegister.f k x320000 x320001 bt329.1 bt329.2).bind fun t335 => (if t335 = true then ((laws_markRegister.f k x320000 x320001 1).bind fun bt336 => (if bt336.1 < 0 then (laws_FnExactIssue.j1 k x1 x2 x9 true x298000 x298001 x313000 x313001 x328000 x328001) else ((laws_eqRegister.f k x328000 x328001 x313000 x313001).bind fun t339 => (if t339 = true then (laws_FnExactIssue.j1 k x1 x2 x9 (x12 != x9) x298000 x298001 x313000 x313001 x328000 x328001) else (laws_FnExactIssue.j1 k x1 x2 x9 true x298000 x298001 x313000 x313001 x328000 x328001))))) else (some false))))
def laws_FnExactIssue.j1 : Nat → Int → Int → Int → Bool → List (S201) → List (S204) → List (S124) → List (S120) → List (S124) → List (S120) → Option (Bool)
  | 0, _, _, _, _, _, _, _, _, _, _ => none
  | k + 1, x1, x2, x9, x69, x298000, x298001, x313000, x313001, x328000, x328001 => if x69 = true then (some false) else ((laws_markRegister.f k x328000 x328001 1).bind fun bt340 => ((laws_heldRegister.f k bt340.2.1 bt340.2.2 1).bind fun t343 => (if t343 < 0 then (some false) else (if t343 = bt340.1 then ((laws_toRegister.f k x298000 x298001).bind fun bt344 => ((impl_Issue.f k bt344.1 bt344.2 x1 x2).bind fun bt350 => ((laws_eqRegister.f k bt350.1 bt350.2.1 x313000 x313001).bind fun t358 => (if t358 = true then (laws_FnExactIssue.j2 k bt340.1 (bt350.2.2 != x9) bt340.2.1 bt340.2.2) else (laws_FnExactIssue.j2 k bt340.1 true bt340.2.1 bt340.2.2))))) else (some false)))))
def laws_FnExactIssue.j2 : Nat → Int → Bool → List (S124) → List (S120) → Option (Bool)
  | 0, _, _, _, _ => none
  | k + 1, x14, x97, x328000, x328001 => if x97 = true then (some false) else ((laws_heldRegister.f k x328000 x328001 1).bind fun t359 => (if t359 < 0 then (some false) else (if t359 = x14 then (some true) else (some false))))
end
def laws_FnExactIssue.f (k : Nat) (l0_0 : List (S201)) (l0_1 : List (S204)) (a1 : Int) (a2 : Int) : Option (Bool) := (laws_szRegister.f k l0_0 l0_1 1048576).bind fun t298 => (if t298 < 0 then (some true) else ((laws_toRegister.f k l0_0 l0_1).bind fun bt299 => ((spec_Issue.f k bt299.1 bt299.2 a1 a2).bind fun bt305 => ((laws_toRegister.f k l0_0 l0_1).bind fun bt313 => ((impl_Issue.f k bt313.1 bt313.2 a1 a2).bind fun bt320 => ((laws_eqRegister.f k bt320.1 bt320.2.1 bt305.1 bt305.2.1).bind fun t328 => (if t328 = true then (laws_FnExactIssue.j0 k a1 a2 bt305.2.2 bt320.2.2 (bt320.2.2 != bt305.2.2) l0_0 l0_1 bt305.1 bt305.2.1 bt313.1 bt313.2 bt320.1 bt320.2.1) else (laws_FnExactIssue.j0 k a1 a2 bt305.2.2 bt320.2.2 true l0_0 l0_1 bt305.1 bt305.2.1 bt313.1 bt313.2 bt320.1 bt320.2.1))))))))
theorem laws_FnExactIssue.mono_l : ∀ k, (∀ y0 y1 y2 y3 y4 y5 y6 y7 y8 y9 y10 y11 y12, LeO (laws_FnExactIssue.j0 k y0 y1 y2 y3 y4 y5 y6 y7 y8 y9 y10 y11 y12) (laws_FnExactIssue.j0 (k + 1) y0 y1 y2 y3 y4 y5 y6 y7 y8 y9 y10 y11 y12)) ∧ (∀ y0 y1 y2 y3 y4 y5 y6 y7 y8 y9, LeO (laws_FnExactIssue.j1 k y0 y1 y2 y3 y4 y5 y6 y7 y8 y9) (laws_FnExactIssue.j1 (k + 1) y0 y1 y2 y3 y4 y5 y6 y7 y8 y9)) ∧ (∀ y0 y1 y2 y3, LeO (laws_FnExactIssue.j2 k y0 y1 y2 y3) (laws_FnExactIssue.j2 (k + 1) y0 y1 y2 y3))
  | 0 => ⟨fun _ _ _ _ _ _ _ _ _ _ _ _ _ r h => by simp [laws_FnExactIssue.j0] at h, fun _ _ _ _ _ _ _ _ _ _ r h => by simp [laws_FnExactIssue.j1] at h, fun _ _ _ _ r h => by simp [laws_FnExactIssue.j2] at h⟩
  | k + 1 => by
    obtain ⟨ih0, ih1, ih2⟩ := laws_FnExactIssue.mono_l k
    refine ⟨?_, ?_, ?_⟩
    · intro y0 y1 y2 y3 y4 y5 y6 y7 y8 y9 y10 y11 y12
      unfold laws_FnExactIssue.j0
      repeat' first
      | (with_reducible exact ih0 _ _ _ _ _ _ _ _ _ _ _ _ _)
      | (with_reducible exact ih1 _ _ _ _ _ _ _ _ _ _)
      | (with_reducible exact ih2 _ _ _ _)
      | (with_reducible exact impl_Issue.mono _ _ _ _ _)
      | (with_reducible exact laws_eqRegister.mono _ _ _ _ _)
      | (with_reducible exact laws_heldRegister.mono _ _ _ _)
      | (with_reducible exact laws_markRegister.mono _ _ _ _)
      | (with_reducible exact laws_szRegister.mono _ _ _ _)
      | (with_reducible exact laws_toRegister.mono _ _ _)
      | (with_reducible exact spec_Issue.mono _ _ _ _ _)
      | (with_reducible exact LeO.refl _)
      | (with_reducible exact LeO.none _)
      | (with_reducible refine LeO.ite ?_ ?_)
      | (with_reducible refine LeO.bind ?_ (fun _ => ?_))
      | exact ih0 _ _ _ _ _ _ _ _ _ _ _ _ _
      | exact ih1 _ _ _ _ _ _ _ _ _ _
      | exact ih2 _ _ _ _
      | exact impl_Issue.mono _ _ _ _ _
      | exact laws_eqRegister.mono _ _ _ _ _
      | exact laws_heldRegister.mono _ _ _ _
      | exact laws_markRegister.mono _ _ _ _
      | exact laws_szRegister.mono _ _ _ _
      | exact laws_toRegister.mono _ _ _
      | exact spec_Issue.mono _ _ _ _ _
      | exact LeO.none _
      | refine LeO.ite ?_ ?_
      | refine LeO.bind ?_ (fun _ => ?_)
    · intro y0 y1 y2 y3 y4 y5 y6 y7 y8 y9
      unfold laws_FnExactIssue.j1
      repeat' first
      | (with_reducible exact ih0 _ _ _ _ _ _ _ _ _ _ _ _ _)
      | (with_reducible exact ih1 _ _ _ _ _ _ _ _ _ _)
      | (with_reducible exact ih2 _ _ _ _)
      | (with_reducible exact impl_Issue.mono _ _ _ _ _)
      | (with_reducible exact laws_eqRegister.mono _ _ _ _ _)
      | (with_reducible exact laws_heldRegister.mono _ _ _ _)
      | (with_reducible exact laws_markRegister.mono _ _ _ _)
      | (with_reducible exact laws_szRegister.mono _ _ _ _)
      | (with_reducible exact laws_toRegister.mono _ _ _)
      | (with_reducible exact spec_Issue.mono _ _ _ _ _)
      | (with_reducible exact LeO.refl _)
      | (with_reducible exact LeO.none _)
      | (with_reducible refine LeO.ite ?_ ?_)
      | (with_reducible refine LeO.bind ?_ (fun _ => ?_))
      | exact ih0 _ _ _ _ _ _ _ _ _ _ _ _ _
      | exact ih1 _ _ _ _ _ _ _ _ _ _
      | exact ih2 _ _ _ _
      | exact impl_Issue.mono _ _ _ _ _
      | exact laws_eqRegister.mono _ _ _ _ _
      | exact laws_heldRegister.mono _ _ _ _
      | exact laws_markRegister.mono _ _ _ _
      | exact laws_szRegister.mono _ _ _ _
      | exact laws_toRegister.mono _ _ _
      | exact spec_Issue.mono _ _ _ _ _
      | exact LeO.none _
      | refine LeO.ite ?_ ?_
      | refine LeO.bind ?_ (fun _ => ?_)
    · intro y0 y1 y2 y3
      unfold laws_FnExactIssue.j2
      repeat' first
      | (with_reducible exact ih0 _ _ _ _ _ _ _ _ _ _ _ _ _)
      | (with_reducible exact ih1 _ _ _ _ _ _ _ _ _ _)
      | (with_reducible exact ih2 _ _ _ _)
      | (with_reducible exact impl_Issue.mono _ _ _ _ _)
      | (with_reducible exact laws_eqRegister.mono _ _ _ _ _)
      | (with_reducible exact laws_heldRegister.mono _ _ _ _)
      | (with_reducible exact laws_markRegister.mono _ _ _ _)
      | (with_reducible exact laws_szRegister.mono _ _ _ _)
      | (with_reducible exact laws_toRegister.mono _ _ _)
      | (with_reducible exact spec_Issue.mono _ _ _ _ _)
      | (with_reducible exact LeO.refl _)
      | (with_reducible exact LeO.none _)
      | (with_reducible refine LeO.ite ?_ ?_)
      | (with_reducible refine LeO.bind ?_ (fun _ => ?_))
      | exact ih0 _ _ _ _ _ _ _ _ _ _ _ _ _
      | exact ih1 _ _ _ _ _ _ _ _ _ _
      | exact ih2 _ _ _ _
      | exact impl_Issue.mono _ _ _ _ _
      | exact laws_eqRegister.mono _ _ _ _ _
      | exact laws_heldRegister.mono _ _ _ _
      | exact laws_markRegister.mono _ _ _ _
      | exact laws_szRegister.mono _ _ _ _
      | exact laws_toRegister.mono _ _ _
      | exact spec_Issue.mono _ _ _ _ _
      | exact LeO.none _
      | refine LeO.ite ?_ ?_
      | refine LeO.bind ?_ (fun _ => ?_)
theorem laws_FnExactIssue.mono : ∀ a0 a1 a2 a3 k, LeO (laws_FnExactIssue.f k a0 a1 a2 a3) (laws_FnExactIssue.f (k + 1) a0 a1 a2 a3) := by
 intro a0 a1 a2 a3 k
 obtain ⟨ih0, ih1, ih2⟩ := laws_FnExactIssue.mono_l k
 unfold laws_FnExactIssue.f
 repeat' first
     | (with_reducible exact ih0 _ _ _ _ _ _ _ _ _ _ _ _ _)
     | (with_reducible exact ih1 _ _ _ _ _ _ _ _ _ _)
     | (with_reducible exact ih2 _ _ _ _)
     | (with_reducible exact impl_Issue.mono _ _ _ _ _)
     | (with_reducible exact laws_eqRegister.mono _ _ _ _ _)
     | (with_reducible exact laws_heldRegister.mono _ _ _ _)
     | (with_reducible exact laws_markRegister.mono _ _ _ _)
     | (with_reducible exact laws_szRegister.mono _ _ _ _)
     | (with_reducible exact laws_toRegister.mono _ _ _)
     | (with_reducible exact spec_Issue.mono _ _ _ _ _)
     | (with_reducible exact LeO.refl _)
     | (with_reducible exact LeO.none _)
     | (with_reducible refine LeO.ite ?_ ?_)
     | (with_reducible refine LeO.bind ?_ (fun _ => ?_))
     | exact ih0 _ _ _ _ _ _ _ _ _ _ _ _ _
     | exact ih1 _ _ _ _ _ _ _ _ _ _
     | exact ih2 _ _ _ _
     | exact impl_Issue.mono _ _ _ _ _
     | exact laws_eqRegister.mono _ _ _ _ _
     | exact laws_heldRegister.mono _ _ _ _
     | exact laws_markRegister.mono _ _ _ _
     | exact laws_szRegister.mono _ _ _ _
     | exact laws_toRegister.mono _ _ _
     | exact spec_Issue.mono _ _ _ _ _
     | exact LeO.none _
     | refine LeO.ite ?_ ?_
     | refine LeO.bind ?_ (fun _ => ?_)
set_option maxHeartbeats 8000000 in
set_option maxRecDepth 100000 in
theorem laws_FnExactIssue.calls (k : Nat) (A0_0 : Option Addr) (c0_0 : Nat) (l0_0 : List (S201)) (A0_1 : Option Addr) (c0_1 : Nat) (l0_1 : List (S204)) (a1 : Int) (a2 : Int) (r : Bool) (w : World) (hr0_0 : Kd.C k201 w A0_0 l0_0.length l0_0) (hc0_0 : l0_0.length ≤ c0_0) (hr0_1 : Kd.C k204 w A0_1 l0_1.length l0_1) (hc0_1 : l0_1.length ≤ c0_1) (h : laws_FnExactIssue.f k l0_0 l0_1 a1 a2 = some r) :
    Calls Try.prog 3 #[.agg #[.slice A0_0 l0_0.length c0_0, .slice A0_1 l0_1.length c0_1], .int .i64 a1, .int .i64 a2] w fun e w' => e = .returned (.bool r) ∧ Below w.heap.size w w' := by
 have hu25 := Try.underlying25
 have hu30 := Try.underlying30
 have HR0_0 := Aside0.mk hr0_0
 have HC0_0 := Aside0.mk hc0_0
 clear hr0_0 hc0_0
 have HR0_1 := Aside0.mk hr0_1
 have HC0_1 := Aside0.mk hc0_1
 clear hr0_1 hc0_1
 have HB := aZ (Below.refl w.heap.size w)
 have H : ((laws_szRegister.f k l0_0 l0_1 1048576).bind fun t298 => (if t298 < 0 then (some true) else ((laws_toRegister.f k l0_0 l0_1).bind fun bt299 => ((spec_Issue.f k bt299.1 bt299.2 a1 a2).bind fun bt305 => ((laws_toRegister.f k l0_0 l0_1).bind fun bt313 => ((impl_Issue.f k bt313.1 bt313.2 a1 a2).bind fun bt320 => ((laws_eqRegister.f k bt320.1 bt320.2.1 bt305.1 bt305.2.1).bind fun t328 => (if t328 = true then (laws_FnExactIssue.j0 k a1 a2 bt305.2.2 bt320.2.2 (bt320.2.2 != bt305.2.2) l0_0 l0_1 bt305.1 bt305.2.1 bt313.1 bt313.2 bt320.1 bt320.2.1) else (laws_FnExactIssue.j0 k a1 a2 bt305.2.2 bt320.2.2 true l0_0 l0_1 bt305.1 bt305.2.1 bt313.1 bt313.2 bt320.1 bt320.2.1))))))))) = some r := h
 clear h
 replace H := Option.bind_eq_some_iff.mp H
 obtain ⟨t298, A40, H⟩ := H
 replace H : (if t298 < 0 then (some true) else ((laws_toRegister.f k l0_0 l0_1).bind fun bt299 => ((spec_Issue.f k bt299.1 bt299.2 a1 a2).bind fun bt305 => ((laws_toRegister.f k l0_0 l0_1).bind fun bt313 => ((impl_Issue.f k bt313.1 bt313.2 a1 a2).bind fun bt320 => ((laws_eqRegister.f k bt320.1 bt320.2.1 bt305.1 bt305.2.1).bind fun t328 => (if t328 = true then (laws_FnExactIssue.j0 k a1 a2 bt305.2.2 bt320.2.2 (bt320.2.2 != bt305.2.2) l0_0 l0_1 bt305.1 bt305.2.1 bt313.1 bt313.2 bt320.1 bt320.2.1) else (laws_FnExactIssue.j0 k a1 a2 bt305.2.2 bt320.2.2 true l0_0 l0_1 bt305.1 bt305.2.1 bt313.1 bt313.2 bt320.1 bt320.2.1)))))))) = some r := H
 have A4 := Aside0.mk A40
 clear A40
 by_cases c5 : t298 < 0
 ·rw [if_pos c5] at H
  have c5b0 := decide_eq_true c5
  clear c5
  obtain rfl := Option.some.inj H
  go_enter Try.func3, Try.ntmps3
  go_wp2_with (first | ((with_reducible refine gate_dst (N := 3) rfl ?_); refine box_event ?hg (N := 3) ?hd (cs := #[.slice A0_0 l0_0.length c0_0, .slice A0_1 l0_1.length c0_1]) (t := 25) ?hr ?_; (case hd => rfl); (case hg => rfl); (case hr => first | (go_simp; done) | (go_simp; rfl)); intro gb297 hg w6 hbox hb; have BK297 := aZ (hbox); have GW297 := aZ ((by rw [hg]; exact (below_size (lZB HB.out)) : w.heap.size ≤ gb297)); have GE297 := aZ ((by rw [hg]; exact (below_size (lZB HB.out)) : w.heap.size ≤ gb297)); replace HB := aZ (below_step (lZB HB.out) hb); clear hb hbox hg; have hcz7_0 : w6.cell? ⟨gb297, 0, none⟩ = some (.slice A0_0 l0_0.length c0_0) := (blk_cell BK297.out 0).trans rfl; have hcz7_1 : w6.cell? ⟨gb297, 1, none⟩ = some (.slice A0_1 l0_1.length c0_1) := (blk_cell BK297.out 1).trans rfl; have hfz7_0 := blk_frozen BK297.out 0; have hfz7_1 := blk_frozen BK297.out 1) | ((with_reducible refine gate_callee (f := 13) rfl ?_); refine goesL_ (some 20) rfl rfl Try.func13 kZ rfl #[.agg #[.slice A0_0 l0_0.length c0_0, .slice A0_1 l0_1.length c0_1], .int .i64 1048576] rfl tZA ?_; (with_reducible refine (laws_szRegister.calls k _ _ l0_0 _ _ l0_1 1048576 t298 _ ?side1 ?side2 ?side3 ?side4 A4.out).mono ?_); (case side1 => repeat (first | exact (Kd.C_below HR0_0.out HB.out) | (with_reducible refine Kd.C_alloc ?_ _) | (with_reducible refine Kd.C_drewN ?_ _) | (with_reducible refine Kd.C_drew ?_))); (case side2 => exact HC0_0.out); (case side3 => repeat (first | exact (Kd.C_below HR0_1.out HB.out) | (with_reducible refine Kd.C_alloc ?_ _) | (with_reducible refine Kd.C_drewN ?_ _) | (with_reducible refine Kd.C_drew ?_))); (case side4 => exact HC0_1.out); rintro e w8 ⟨rfl, hb⟩; refine ⟨_, rfl, ?_⟩; replace BK297 := aZ (blk_below (bkZ BK297.out) hb); replace HB := aZ (below_step bZ hb); (try clear hb); (try clear hb2); (try clear hk); (try clear hi)))
  go_ret
  exact ⟨tZC, bZ⟩
 rw [if_neg c5] at H
 have c5b0 := decide_eq_false c5
 clear c5
 replace H := Option.bind_eq_some_iff.mp H
 obtain ⟨⟨t299, t302⟩, A90, H⟩ := H
 replace H : ((spec_Issue.f k t299 t302 a1 a2).bind fun bt305 => ((laws_toRegister.f k l0_0 l0_1).bind fun bt313 => ((impl_Issue.f k bt313.1 bt313.2 a1 a2).bind fun bt320 => ((laws_eqRegister.f k bt320.1 bt320.2.1 bt305.1 bt305.2.1).bind fun t328 => (if t328 = true then (laws_FnExactIssue.j0 k a1 a2 bt305.2.2 bt320.2.2 (bt320.2.2 != bt305.2.2) l0_0 l0_1 bt305.1 bt305.2.1 bt313.1 bt313.2 bt320.1 bt320.2.1) else (laws_FnExactIssue.j0 k a1 a2 bt305.2.2 bt320.2.2 true l0_0 l0_1 bt305.1 bt305.2.1 bt313.1 bt313.2 bt320.1 bt320.2.1)))))) = some r := H
 have A9 := Aside0.mk A90
 clear A90
 replace H := Option.bind_eq_some_iff.mp H
 obtain ⟨⟨t305, t308, t311⟩, A100, H⟩ := H
 replace H : ((laws_toRegister.f k l0_0 l0_1).bind fun bt313 => ((impl_Issue.f k bt313.1 bt313.2 a1 a2).bind fun bt320 => ((laws_eqRegister.f k bt320.1 bt320.2.1 t305 t308).bind fun t328 => (if t328 = true then (laws_FnExactIssue.j0 k a1 a2 t311 bt320.2.2 (bt320.2.2 != t311) l0_0 l0_1 t305 t308 bt313.1 bt313.2 bt320.1 bt320.2.1) else (laws_FnExactIssue.j0 k a1 a2 t311 bt320.2.2 true l0_0 l0_1 t305 t308 bt313.1 bt313.2 bt320.1 bt320.2.1))))) = some r := H
 have A10 := Aside0.mk A100
 clear A100
 replace H := Option.bind_eq_some_iff.mp H
 obtain ⟨⟨t313, t316⟩, A110, H⟩ := H
 replace H : ((impl_Issue.f k t313 t316 a1 a2).bind fun bt320 => ((laws_eqRegister.f k bt320.1 bt320.2.1 t305 t308).bind fun t328 => (if t328 = true then (laws_FnExactIssue.j0 k a1 a2 t311 bt320.2.2 (bt320.2.2 != t311) l0_0 l0_1 t305 t308 t313 t316 bt320.1 bt320.2.1) else (laws_FnExactIssue.j0 k a1 a2 t311 bt320.2.2 true l0_0 l0_1 t305 t308 t313 t316 bt320.1 bt320.2.1)))) = some r := H
 have A11 := Aside0.mk A110
 clear A110
 replace H := Option.bind_eq_some_iff.mp H
 obtain ⟨⟨t320, t323, t326⟩, A120, H⟩ := H
 replace H : ((laws_eqRegister.f k t320 t323 t305 t308).bind fun t328 => (if t328 = true then (laws_FnExactIssue.j0 k a1 a2 t311 t326 (t326 != t311) l0_0 l0_1 t305 t308 t313 t316 t320 t323) else (laws_FnExactIssue.j0 k a1 a2 t311 t326 true l0_0 l0_1 t305 t308 t313 t316 t320 t323))) = some r := H
 have A12 := Aside0.mk A120
 clear A120
 have HC13 := Aside0.mk H
 clear H
 go_enter Try.func3, Try.ntmps3
 go_upto_region 8 with (first | ((with_reducible refine gate_dst (N := 3) rfl ?_); refine box_event ?hg (N := 3) ?hd (cs := #[.slice A0_0 l0_0.length c0_0, .slice A0_1 l0_1.length c0_1]) (t := 25) ?hr ?_; (case hd => rfl); (case hg => rfl); (case hr => first | (go_simp; done) | (go_simp; rfl)); intro gb297 hg w14 hbox hb; have BK297 := aZ (hbox); have GW297 := aZ ((by rw [hg]; exact (below_size (lZB HB.out)) : w.heap.size ≤ gb297)); have GE297 := aZ ((by rw [hg]; exact (below_size (lZB HB.out)) : w.heap.size ≤ gb297)); replace HB := aZ (below_step (lZB HB.out) hb); clear hb hbox hg; have hcz15_0 : w14.cell? ⟨gb297, 0, none⟩ = some (.slice A0_0 l0_0.length c0_0) := (blk_cell BK297.out 0).trans rfl; have hcz15_1 : w14.cell? ⟨gb297, 1, none⟩ = some (.slice A0_1 l0_1.length c0_1) := (blk_cell BK297.out 1).trans rfl; have hfz15_0 := blk_frozen BK297.out 0; have hfz15_1 := blk_frozen BK297.out 1) | ((with_reducible refine gate_callee (f := 13) rfl ?_); refine goesL_ (some 20) rfl rfl Try.func13 kZ rfl #[.agg #[.slice A0_0 l0_0.length c0_0, .slice A0_1 l0_1.length c0_1], .int .i64 1048576] rfl tZA ?_; (with_reducible refine (laws_szRegister.calls k _ _ l0_0 _ _ l0_1 1048576 t298 _ ?side1 ?side2 ?side3 ?side4 A4.out).mono ?_); (case side1 => repeat (first | exact (Kd.C_below HR0_0.out HB.out) | (with_reducible refine Kd.C_alloc ?_ _) | (with_reducible refine Kd.C_drewN ?_ _) | (with_reducible refine Kd.C_drew ?_))); (case side2 => exact HC0_0.out); (case side3 => repeat (first | exact (Kd.C_below HR0_1.out HB.out) | (with_reducible refine Kd.C_alloc ?_ _) | (with_reducible refine Kd.C_drewN ?_ _) | (with_reducible refine Kd.C_drew ?_))); (case side4 => exact HC0_1.out); rintro e w16 ⟨rfl, hb⟩; refine ⟨_, rfl, ?_⟩; replace BK297 := aZ (blk_below (bkZ BK297.out) hb); replace HB := aZ (below_step bZ hb); (try clear hb); (try clear hb2); (try clear hk); (try clear hi); have hcz17_0 : w16.cell? ⟨gb297, 0, none⟩ = some (.slice A0_0 l0_0.length c0_0) := (blk_cell BK297.out 0).trans rfl; have hcz17_1 : w16.cell? ⟨gb297, 1, none⟩ = some (.slice A0_1 l0_1.length c0_1) := (blk_cell BK297.out 1).trans rfl; have hfz17_0 := blk_frozen BK297.out 0; have hfz17_1 := blk_frozen BK297.out 1) | ((with_reducible refine gate_callee (f := 15) rfl ?_); refine goesL_ (some 25) rfl rfl Try.func15 kZ rfl #[.agg #[.slice A0_0 l0_0.length c0_0, .slice A0_1 l0_1.length c0_1]] rfl tZA ?_; (with_reducible refine (laws_toRegister.calls k _ _ l0_0 _ _ l0_1 t299 t302 _ ?side1 ?side2 ?side3 ?side4 A9.out).mono ?_); (case side1 => repeat (first | exact (Kd.C_below HR0_0.out HB.out) | (with_reducible refine Kd.C_alloc ?_ _) | (with_reducible refine Kd.C_drewN ?_ _) | (with_reducible refine Kd.C_drew ?_))); (case side2 => exact HC0_0.out); (case side3 => repeat (first | exact (Kd.C_below HR0_1.out HB.out) | (with_reducible refine Kd.C_alloc ?_ _) | (with_reducible refine Kd.C_drewN ?_ _) | (with_reducible refine Kd.C_drew ?_))); (case side4 => exact HC0_1.out); rintro e w18 ⟨v300, v303, rfl, ho0, ho1, hb⟩; refine ⟨_, rfl, ?_⟩; have HO301 := aZ (Kd.R_lower ho0 (below_size bZ)); have HO304 := aZ (Kd.R_lower ho1 (below_size bZ)); replace BK297 := aZ (blk_below (bkZ BK297.out) hb); replace HB := aZ (below_step bZ hb); (try clear hb); (try clear hb2); (try clear hk); (try clear hi); (try clear ho0); (try clear ho1); obtain ⟨Ao19, co19, eo19⟩ := Kd.R_slice HO301.out; subst eo19; obtain ⟨Ao20, co20, eo20⟩ := Kd.R_slice HO304.out; subst eo20) | ((with_reducible refine gate_callee (f := 14) rfl ?_); refine goesL_ (some 28) rfl rfl Try.func14 kZ rfl #[.agg #[.slice Ao19 t299.length co19, .slice Ao20 t302.length co20], .int .i64 a1, .int .i64 a2] rfl tZA ?_; (with_reducible refine (spec_Issue.calls k _ _ t299 _ _ t302 a1 a2 t305 t308 t311 _ ?side1 ?side2 ?side3 ?side4 A10.out).mono ?_); (case side1 => repeat (first | exact (Kd.R_reads' HO301.out).2.2 | (with_reducible refine Kd.C_alloc ?_ _) | (with_reducible refine Kd.C_drewN ?_ _) | (with_reducible refine Kd.C_drew ?_))); (case side2 => exact (Kd.R_reads' HO301.out).2.1); (case side3 => repeat (first | exact (Kd.R_reads' HO304.out).2.2 | (with_reducible refine Kd.C_alloc ?_ _) | (with_reducible refine Kd.C_drewN ?_ _) | (with_reducible refine Kd.C_drew ?_))); (case side4 => exact (Kd.R_reads' HO304.out).2.1); rintro e w21 ⟨v306, v309, rfl, ho0, ho1, hb⟩; refine ⟨_, rfl, ?_⟩; have HO307 := aZ (Kd.R_lower (Kd.R_new' ho0 (Kd.R_lt (lZR HO301.out))) (below_size bZ)); replace HO301 := aZ (Kd.R_elder' (lZR HO301.out) (Kd.R_base ho0) hb); have HO310 := aZ (Kd.R_lower (Kd.R_new' ho1 (Kd.R_lt (lZR HO304.out))) (below_size bZ)); replace HO304 := aZ (Kd.R_elder' (lZR HO304.out) (Kd.R_base ho1) hb); replace BK297 := aZ (blk_below (bkZ BK297.out) hb); replace HB := aZ (below_step bZ hb); (try clear hb); (try clear hb2); (try clear hk); (try clear hi); (try clear ho0); (try clear ho1)) | ((with_reducible refine gate_dst (N := 8) rfl ?_); refine box_event ?hg (N := 8) ?hd (cs := #[.slice none 0 0, .slice none 0 0]) (t := 30) ?hr ?_; (case hd => rfl); (case hg => rfl); (case hr => first | (go_simp; done) | (go_simp; rfl)); intro gb312 hg w22 hbox hb; replace HO301 := aZ (Kd.R_below (lZR HO301.out) hb); replace HO304 := aZ (Kd.R_below (lZR HO304.out) hb); replace HO307 := aZ (Kd.R_below (lZR HO307.out) hb); replace HO310 := aZ (Kd.R_below (lZR HO310.out) hb); have BK312 := aZ (hbox); have GW312 := aZ ((by rw [hg]; exact (below_size bZ) : w.heap.size ≤ gb312)); have GE312 := aZ ((by rw [hg]; exact (below_size bZ) : w.heap.size ≤ gb312)); replace HB := aZ (below_step bZ hb); have NB297_312 := aZ ((by rw [hg]; exact Nat.ne_of_lt (blk_lt (bkZ BK297.out)) : gb297 ≠ gb312)); have NB312_297 := aZ ((by rw [hg]; exact Nat.ne_of_gt (blk_lt (bkZ BK297.out)) : gb312 ≠ gb297)); replace BK297 := aZ (blk_below (bkZ BK297.out) hb); clear hb hbox hg; obtain ⟨Ao23, co23, eo23⟩ := Kd.R_slice HO307.out; subst eo23; have hnb24 := NB312_297.out; have hnc24 := NB297_312.out; have hcz25_0 : w22.cell? ⟨gb312, 0, none⟩ = some (.slice none 0 0) := (blk_cell BK312.out 0).trans rfl; have hcz25_1 : w22.cell? ⟨gb312, 1, none⟩ = some (.slice none 0 0) := (blk_cell BK312.out 1).trans rfl; have hfz25_0 := blk_frozen BK312.out 0; have hfz25_1 := blk_frozen BK312.out 1; obtain ⟨Ao26, co26, eo26⟩ := Kd.R_slice HO310.out; subst eo26; have hcz27_0 : w22.cell? ⟨gb297, 0, none⟩ = some (.slice A0_0 l0_0.length c0_0) := (blk_cell BK297.out 0).trans rfl; have hcz27_1 : w22.cell? ⟨gb297, 1, none⟩ = some (.slice A0_1 l0_1.length c0_1) := (blk_cell BK297.out 1).trans rfl; have hfz27_0 := blk_frozen BK297.out 0; have hfz27_1 := blk_frozen BK297.out 1) | ((with_reducible refine gate_callee (f := 15) rfl ?_); refine goesL_ (some 32) rfl rfl Try.func15 kZ rfl #[.agg #[.slice A0_0 l0_0.length c0_0, .slice A0_1 l0_1.length c0_1]] rfl tZA ?_; (with_reducible refine (laws_toRegister.calls k _ _ l0_0 _ _ l0_1 t313 t316 _ ?side1 ?side2 ?side3 ?side4 A11.out).mono ?_); (case side1 => exact Kd.C_below HR0_0.out bZ); (case side2 => exact HC0_0.out); (case side3 => exact Kd.C_below HR0_1.out bZ); (case side4 => exact HC0_1.out); rintro e w28 ⟨v314, v317, rfl, ho0, ho1, hb⟩; refine ⟨_, rfl, ?_⟩; have HO315 := aZ (Kd.R_lower (Kd.R_new' (Kd.R_new' ho0 (Kd.R_lt (by (with_reducible repeat (first | apply Kd.R_alloc | apply Kd.R_drewN | apply Kd.R_drew)); exact (Kd.R_mono (Kd.R_far (p := ⟨gb312, 1, none⟩) (Kd.R_far (p := ⟨gb312, 0, none⟩) (Kd.R_types HO301.out BK312.out (by decide)) (fun _ hk => hk.2) (.slice Ao23 t305.length co23)) (fun _ hk => hk.2) (.slice Ao26 t308.length co26)) (fun _ h_ => h_.1))))) (Kd.R_lt (by (with_reducible repeat (first | apply Kd.R_alloc | apply Kd.R_drewN | apply Kd.R_drew)); exact (Kd.R_mono (Kd.R_far (p := ⟨gb312, 1, none⟩) (Kd.R_far (p := ⟨gb312, 0, none⟩) (Kd.R_types HO307.out BK312.out (by decide)) (fun _ hk => hk.2) (.slice Ao23 t305.length co23)) (fun _ hk => hk.2) (.slice Ao26 t308.length co26)) (fun _ h_ => h_.1))))) (below_size bZ)); replace HO301 := aZ (Kd.R_elder' (by (with_reducible repeat (first | apply Kd.R_alloc | apply Kd.R_drewN | apply Kd.R_drew)); exact (Kd.R_mono (Kd.R_far (p := ⟨gb312, 1, none⟩) (Kd.R_far (p := ⟨gb312, 0, none⟩) (Kd.R_types HO301.out BK312.out (by decide)) (fun _ hk => hk.2) (.slice Ao23 t305.length co23)) (fun _ hk => hk.2) (.slice Ao26 t308.length co26)) (fun _ h_ => h_.1))) (Kd.R_base ho0) hb); replace HO307 := aZ (Kd.R_elder' (by (with_reducible repeat (first | apply Kd.R_alloc | apply Kd.R_drewN | apply Kd.R_drew)); exact (Kd.R_mono (Kd.R_far (p := ⟨gb312, 1, none⟩) (Kd.R_far (p := ⟨gb312, 0, none⟩) (Kd.R_types HO307.out BK312.out (by decide)) (fun _ hk => hk.2) (.slice Ao23 t305.length co23)) (fun _ hk => hk.2) (.slice Ao26 t308.length co26)) (fun _ h_ => h_.1))) (Kd.R_base ho0) hb); have HO318 := aZ (Kd.R_lower (Kd.R_new' (Kd.R_new' ho1 (Kd.R_lt (by (with_reducible repeat (first | apply Kd.R_alloc | apply Kd.R_drewN | apply Kd.R_drew)); exact (Kd.R_mono (Kd.R_far (p := ⟨gb312, 1, none⟩) (Kd.R_far (p := ⟨gb312, 0, none⟩) (Kd.R_types HO304.out BK312.out (by decide)) (fun _ hk => hk.2) (.slice Ao23 t305.length co23)) (fun _ hk => hk.2) (.slice Ao26 t308.length co26)) (fun _ h_ => h_.1))))) (Kd.R_lt (by (with_reducible repeat (first | apply Kd.R_alloc | apply Kd.R_drewN | apply Kd.R_drew)); exact (Kd.R_mono (Kd.R_far (p := ⟨gb312, 1, none⟩) (Kd.R_far (p := ⟨gb312, 0, none⟩) (Kd.R_types HO310.out BK312.out (by decide)) (fun _ hk => hk.2) (.slice Ao23 t305.length co23)) (fun _ hk => hk.2) (.slice Ao26 t308.length co26)) (fun _ h_ => h_.1))))) (below_size bZ)); replace HO304 := aZ (Kd.R_elder' (by (with_reducible repeat (first | apply Kd.R_alloc | apply Kd.R_drewN | apply Kd.R_drew)); exact (Kd.R_mono (Kd.R_far (p := ⟨gb312, 1, none⟩) (Kd.R_far (p := ⟨gb312, 0, none⟩) (Kd.R_types HO304.out BK312.out (by decide)) (fun _ hk => hk.2) (.slice Ao23 t305.length co23)) (fun _ hk => hk.2) (.slice Ao26 t308.length co26)) (fun _ h_ => h_.1))) (Kd.R_base ho1) hb); replace HO310 := aZ (Kd.R_elder' (by (with_reducible repeat (first | apply Kd.R_alloc | apply Kd.R_drewN | apply Kd.R_drew)); exact (Kd.R_mono (Kd.R_far (p := ⟨gb312, 1, none⟩) (Kd.R_far (p := ⟨gb312, 0, none⟩) (Kd.R_types HO310.out BK312.out (by decide)) (fun _ hk => hk.2) (.slice Ao23 t305.length co23)) (fun _ hk => hk.2) (.slice Ao26 t308.length co26)) (fun _ h_ => h_.1))) (Kd.R_base ho1) hb); replace BK297 := aZ (blk_below (g := gb297) (o := .cells #[.slice A0_0 l0_0.length c0_0, .slice A0_1 l0_1.length c0_1] 25 (0, 0)) (by (with_reducible repeat (first | refine blk_drewN ?_ _ | refine blk_drew ?_ | refine blk_alloc ?_ _)); refine blk_far ?_ NB297_312.out _; (with_reducible repeat (first | refine blk_drewN ?_ _ | refine blk_drew ?_ | refine blk_alloc ?_ _)); refine blk_far ?_ NB297_312.out _; (with_reducible repeat (first | refine blk_drewN ?_ _ | refine blk_drew ?_ | refine blk_alloc ?_ _)); exact BK297.out) hb); replace BK312 := aZ (blk_below (g := gb312) (o := .cells #[.slice Ao23 t305.length co23, .slice Ao26 t308.length co26] 30 (0, 0)) (by (with_reducible repeat (first | refine blk_drewN ?_ _ | refine blk_drew ?_ | refine blk_alloc ?_ _)); refine blk_put (cs := #[.slice Ao23 t305.length co23, .slice none 0 0]) ?_ 1 _ rfl; (with_reducible repeat (first | refine blk_drewN ?_ _ | refine blk_drew ?_ | refine blk_alloc ?_ _)); refine blk_put (cs := #[.slice none 0 0, .slice none 0 0]) ?_ 0 _ rfl; (with_reducible repeat (first | refine blk_drewN ?_ _ | refine blk_drew ?_ | refine blk_alloc ?_ _)); exact BK312.out) hb); replace HB := aZ (below_step bZ hb); (try clear hb); (try clear hb2); (try clear hk); (try clear hi); (try clear ho0); (try clear ho1)) | ((with_reducible refine gate_dst (N := 10) rfl ?_); refine box_event ?hg (N := 10) ?hd (cs := #[.slice none 0 0, .slice none 0 0]) (t := 30) ?hr ?_; (case hd => rfl); (case hg => rfl); (case hr => first | (go_simp; done) | (go_simp; rfl)); intro gb319 hg w29 hbox hb; replace HO301 := aZ (Kd.R_below (lZR HO301.out) hb); replace HO304 := aZ (Kd.R_below (lZR HO304.out) hb); replace HO307 := aZ (Kd.R_below (lZR HO307.out) hb); replace HO310 := aZ (Kd.R_below (lZR HO310.out) hb); replace HO315 := aZ (Kd.R_below (lZR HO315.out) hb); replace HO318 := aZ (Kd.R_below (lZR HO318.out) hb); have BK319 := aZ (hbox); have GW319 := aZ ((by rw [hg]; exact (below_size bZ) : w.heap.size ≤ gb319)); have GE319 := aZ ((by rw [hg]; exact (below_size bZ) : w.heap.size ≤ gb319)); replace HB := aZ (below_step bZ hb); have NB297_319 := aZ ((by rw [hg]; exact Nat.ne_of_lt (blk_lt (bkZ BK297.out)) : gb297 ≠ gb319)); have NB319_297 := aZ ((by rw [hg]; exact Nat.ne_of_gt (blk_lt (bkZ BK297.out)) : gb319 ≠ gb297)); replace BK297 := aZ (blk_below (bkZ BK297.out) hb); have NB312_319 := aZ ((by rw [hg]; exact Nat.ne_of_lt (blk_lt (bkZ BK312.out)) : gb312 ≠ gb319)); have NB319_312 := aZ ((by rw [hg]; exact Nat.ne_of_gt (blk_lt (bkZ BK312.out)) : gb319 ≠ gb312)); replace BK312 := aZ (blk_below (bkZ BK312.out) hb); clear hb hbox hg; obtain ⟨Ao30, co30, eo30⟩ := Kd.R_slice HO315.out; subst eo30; have hnb31 := NB319_297.out; have hnc31 := NB297_319.out; have hnb32 := NB319_312.out; have hnc32 := NB312_319.out; have hcz33_0 : w29.cell? ⟨gb319, 0, none⟩ = some (.slice none 0 0) := (blk_cell BK319.out 0).trans rfl; have hcz33_1 : w29.cell? ⟨gb319, 1, none⟩ = some (.slice none 0 0) := (blk_cell BK319.out 1).trans rfl; have hfz33_0 := blk_frozen BK319.out 0; have hfz33_1 := blk_frozen BK319.out 1; obtain ⟨Ao34, co34, eo34⟩ := Kd.R_slice HO318.out; subst eo34) | ((with_reducible refine gate_callee (f := 16) rfl ?_); refine goesL_ (some 37) rfl rfl Try.func16 kZ rfl #[.agg #[.slice Ao30 t313.length co30, .slice Ao34 t316.length co34], .int .i64 a1, .int .i64 a2] rfl tZA ?_; (with_reducible refine (impl_Issue.calls k _ _ t313 _ _ t316 a1 a2 t320 t323 t326 _ ?side1 ?side2 ?side3 ?side4 A12.out).mono ?_); (case side1 => refine (Kd.R_reads' (e := 124) (base := w.heap.size) (ok := fun k_ => ((True ∧ some k_ ≠ (.slice Ao19 t299.length co19 : Value).ownBlock) ∧ some k_ ≠ (.slice Ao23 t305.length co23 : Value).ownBlock)) (n := t313.length) (c := co30) ?_).2.2; exact (by (with_reducible repeat (first | apply Kd.R_alloc | apply Kd.R_drewN | apply Kd.R_drew)); exact (Kd.R_mono (Kd.R_far (p := ⟨gb319, 1, none⟩) (Kd.R_far (p := ⟨gb319, 0, none⟩) (Kd.R_types HO315.out BK319.out (by decide)) (fun _ hk => hk.2) (.slice Ao30 t313.length co30)) (fun _ hk => hk.2) (.slice Ao34 t316.length co34)) (fun _ h_ => h_.1)))); (case side2 => exact (Kd.R_reads' HO315.out).2.1); (case side3 => refine (Kd.R_reads' (e := 120) (base := w.heap.size) (ok := fun k_ => ((True ∧ some k_ ≠ (.slice Ao20 t302.length co20 : Value).ownBlock) ∧ some k_ ≠ (.slice Ao26 t308.length co26 : Value).ownBlock)) (n := t316.length) (c := co34) ?_).2.2; exact (by (with_reducible repeat (first | apply Kd.R_alloc | apply Kd.R_drewN | apply Kd.R_drew)); exact (Kd.R_mono (Kd.R_far (p := ⟨gb319, 1, none⟩) (Kd.R_far (p := ⟨gb319, 0, none⟩) (Kd.R_types HO318.out BK319.out (by decide)) (fun _ hk => hk.2) (.slice Ao30 t313.length co30)) (fun _ hk => hk.2) (.slice Ao34 t316.length co34)) (fun _ h_ => h_.1)))); (case side4 => exact (Kd.R_reads' HO318.out).2.1); rintro e w35 ⟨v321, v324, rfl, ho0, ho1, hb⟩; refine ⟨_, rfl, ?_⟩; have HO322 := aZ (Kd.R_lower (Kd.R_new' (Kd.R_new' (Kd.R_new' ho0 (Kd.R_lt (by (with_reducible repeat (first | apply Kd.R_alloc | apply Kd.R_drewN | apply Kd.R_drew)); exact (Kd.R_mono (Kd.R_far (p := ⟨gb319, 1, none⟩) (Kd.R_far (p := ⟨gb319, 0, none⟩) (Kd.R_types HO301.out BK319.out (by decide)) (fun _ hk => hk.2) (.slice Ao30 t313.length co30)) (fun _ hk => hk.2) (.slice Ao34 t316.length co34)) (fun _ h_ => h_.1))))) (Kd.R_lt (by (with_reducible repeat (first | apply Kd.R_alloc | apply Kd.R_drewN | apply Kd.R_drew)); exact (Kd.R_mono (Kd.R_far (p := ⟨gb319, 1, none⟩) (Kd.R_far (p := ⟨gb319, 0, none⟩) (Kd.R_types HO307.out BK319.out (by decide)) (fun _ hk => hk.2) (.slice Ao30 t313.length co30)) (fun _ hk => hk.2) (.slice Ao34 t316.length co34)) (fun _ h_ => h_.1))))) (Kd.R_lt (by (with_reducible repeat (first | apply Kd.R_alloc | apply Kd.R_drewN | apply Kd.R_drew)); exact (Kd.R_mono (Kd.R_far (p := ⟨gb319, 1, none⟩) (Kd.R_far (p := ⟨gb319, 0, none⟩) (Kd.R_types HO315.out BK319.out (by decide)) (fun _ hk => hk.2) (.slice Ao30 t313.length co30)) (fun _ hk => hk.2) (.slice Ao34 t316.length co34)) (fun _ h_ => h_.1))))) (below_size bZ)); replace HO301 := aZ (Kd.R_elder' (by (with_reducible repeat (first | apply Kd.R_alloc | apply Kd.R_drewN | apply Kd.R_drew)); exact (Kd.R_mono (Kd.R_far (p := ⟨gb319, 1, none⟩) (Kd.R_far (p := ⟨gb319, 0, none⟩) (Kd.R_types HO301.out BK319.out (by decide)) (fun _ hk => hk.2) (.slice Ao30 t313.length co30)) (fun _ hk => hk.2) (.slice Ao34 t316.length co34)) (fun _ h_ => h_.1))) (Kd.R_base ho0) hb); replace HO307 := aZ (Kd.R_elder' (by (with_reducible repeat (first | apply Kd.R_alloc | apply Kd.R_drewN | apply Kd.R_drew)); exact (Kd.R_mono (Kd.R_far (p := ⟨gb319, 1, none⟩) (Kd.R_far (p := ⟨gb319, 0, none⟩) (Kd.R_types HO307.out BK319.out (by decide)) (fun _ hk => hk.2) (.slice Ao30 t313.length co30)) (fun _ hk => hk.2) (.slice Ao34 t316.length co34)) (fun _ h_ => h_.1))) (Kd.R_base ho0) hb); replace HO315 := aZ (Kd.R_elder' (by (with_reducible repeat (first | apply Kd.R_alloc | apply Kd.R_drewN | apply Kd.R_drew)); exact (Kd.R_mono (Kd.R_far (p := ⟨gb319, 1, none⟩) (Kd.R_far (p := ⟨gb319, 0, none⟩) (Kd.R_types HO315.out BK319.out (by decide)) (fun _ hk => hk.2) (.slice Ao30 t313.length co30)) (fun _ hk => hk.2) (.slice Ao34 t316.length co34)) (fun _ h_ => h_.1))) (Kd.R_base ho0) hb); have HO325 := aZ (Kd.R_lower (Kd.R_new' (Kd.R_new' (Kd.R_new' ho1 (Kd.R_lt (by (with_reducible repeat (first | apply Kd.R_alloc | apply Kd.R_drewN | apply Kd.R_drew)); exact (Kd.R_mono (Kd.R_far (p := ⟨gb319, 1, none⟩) (Kd.R_far (p := ⟨gb319, 0, none⟩) (Kd.R_types HO304.out BK319.out (by decide)) (fun _ hk => hk.2) (.slice Ao30 t313.length co30)) (fun _ hk => hk.2) (.slice Ao34 t316.length co34)) (fun _ h_ => h_.1))))) (Kd.R_lt (by (with_reducible repeat (first | apply Kd.R_alloc | apply Kd.R_drewN | apply Kd.R_drew)); exact (Kd.R_mono (Kd.R_far (p := ⟨gb319, 1, none⟩) (Kd.R_far (p := ⟨gb319, 0, none⟩) (Kd.R_types HO310.out BK319.out (by decide)) (fun _ hk => hk.2) (.slice Ao30 t313.length co30)) (fun _ hk => hk.2) (.slice Ao34 t316.length co34)) (fun _ h_ => h_.1))))) (Kd.R_lt (by (with_reducible repeat (first | apply Kd.R_alloc | apply Kd.R_drewN | apply Kd.R_drew)); exact (Kd.R_mono (Kd.R_far (p := ⟨gb319, 1, none⟩) (Kd.R_far (p := ⟨gb319, 0, none⟩) (Kd.R_types HO318.out BK319.out (by decide)) (fun _ hk => hk.2) (.slice Ao30 t313.length co30)) (fun _ hk => hk.2) (.slice Ao34 t316.length co34)) (fun _ h_ => h_.1))))) (below_size bZ)); replace HO304 := aZ (Kd.R_elder' (by (with_reducible repeat (first | apply Kd.R_alloc | apply Kd.R_drewN | apply Kd.R_drew)); exact (Kd.R_mono (Kd.R_far (p := ⟨gb319, 1, none⟩) (Kd.R_far (p := ⟨gb319, 0, none⟩) (Kd.R_types HO304.out BK319.out (by decide)) (fun _ hk => hk.2) (.slice Ao30 t313.length co30)) (fun _ hk => hk.2) (.slice Ao34 t316.length co34)) (fun _ h_ => h_.1))) (Kd.R_base ho1) hb); replace HO310 := aZ (Kd.R_elder' (by (with_reducible repeat (first | apply Kd.R_alloc | apply Kd.R_drewN | apply Kd.R_drew)); exact (Kd.R_mono (Kd.R_far (p := ⟨gb319, 1, none⟩) (Kd.R_far (p := ⟨gb319, 0, none⟩) (Kd.R_types HO310.out BK319.out (by decide)) (fun _ hk => hk.2) (.slice Ao30 t313.length co30)) (fun _ hk => hk.2) (.slice Ao34 t316.length co34)) (fun _ h_ => h_.1))) (Kd.R_base ho1) hb); replace HO318 := aZ (Kd.R_elder' (by (with_reducible repeat (first | apply Kd.R_alloc | apply Kd.R_drewN | apply Kd.R_drew)); exact (Kd.R_mono (Kd.R_far (p := ⟨gb319, 1, none⟩) (Kd.R_far (p := ⟨gb319, 0, none⟩) (Kd.R_types HO318.out BK319.out (by decide)) (fun _ hk => hk.2) (.slice Ao30 t313.length co30)) (fun _ hk => hk.2) (.slice Ao34 t316.length co34)) (fun _ h_ => h_.1))) (Kd.R_base ho1) hb); replace BK297 := aZ (blk_below (g := gb297) (o := .cells #[.slice A0_0 l0_0.length c0_0, .slice A0_1 l0_1.length c0_1] 25 (0, 0)) (by (with_reducible repeat (first | refine blk_drewN ?_ _ | refine blk_drew ?_ | refine blk_alloc ?_ _)); refine blk_far ?_ NB297_319.out _; (with_reducible repeat (first | refine blk_drewN ?_ _ | refine blk_drew ?_ | refine blk_alloc ?_ _)); refine blk_far ?_ NB297_319.out _; (with_reducible repeat (first | refine blk_drewN ?_ _ | refine blk_drew ?_ | refine blk_alloc ?_ _)); exact BK297.out) hb); replace BK312 := aZ (blk_below (g := gb312) (o := .cells #[.slice Ao23 t305.length co23, .slice Ao26 t308.length co26] 30 (0, 0)) (by (with_reducible repeat (first | refine blk_drewN ?_ _ | refine blk_drew ?_ | refine blk_alloc ?_ _)); refine blk_far ?_ NB312_319.out _; (with_reducible repeat (first | refine blk_drewN ?_ _ | refine blk_drew ?_ | refine blk_alloc ?_ _)); refine blk_far ?_ NB312_319.out _; (with_reducible repeat (first | refine blk_drewN ?_ _ | refine blk_drew ?_ | refine blk_alloc ?_ _)); exact BK312.out) hb); replace BK319 := aZ (blk_below (g := gb319) (o := .cells #[.slice Ao30 t313.length co30, .slice Ao34 t316.length co34] 30 (0, 0)) (by (with_reducible repeat (first | refine blk_drewN ?_ _ | refine blk_drew ?_ | refine blk_alloc ?_ _)); refine blk_put (cs := #[.slice Ao30 t313.length co30, .slice none 0 0]) ?_ 1 _ rfl; (with_reducible repeat (first | refine blk_drewN ?_ _ | refine blk_drew ?_ | refine blk_alloc ?_ _)); refine blk_put (cs := #[.slice none 0 0, .slice none 0 0]) ?_ 0 _ rfl; (with_reducible repeat (first | refine blk_drewN ?_ _ | refine blk_drew ?_ | refine blk_alloc ?_ _)); exact BK319.out) hb); replace HB := aZ (below_step bZ hb); (try clear hb); (try clear hb2); (try clear hk); (try clear hi); (try clear ho0); (try clear ho1)) | ((with_reducible refine gate_dst (N := 11) rfl ?_); refine box_event ?hg (N := 11) ?hd (cs := #[.slice none 0 0, .slice none 0 0]) (t := 30) ?hr ?_; (case hd => rfl); (case hg => rfl); (case hr => first | (go_simp; done) | (go_simp; rfl)); intro gb327 hg w36 hbox hb; replace HO301 := aZ (Kd.R_below (lZR HO301.out) hb); replace HO304 := aZ (Kd.R_below (lZR HO304.out) hb); replace HO307 := aZ (Kd.R_below (lZR HO307.out) hb); replace HO310 := aZ (Kd.R_below (lZR HO310.out) hb); replace HO315 := aZ (Kd.R_below (lZR HO315.out) hb); replace HO318 := aZ (Kd.R_below (lZR HO318.out) hb); replace HO322 := aZ (Kd.R_below (lZR HO322.out) hb); replace HO325 := aZ (Kd.R_below (lZR HO325.out) hb); have BK327 := aZ (hbox); have GW327 := aZ ((by rw [hg]; exact (below_size bZ) : w.heap.size ≤ gb327)); have GE327 := aZ ((by rw [hg]; exact (below_size bZ) : w.heap.size ≤ gb327)); replace HB := aZ (below_step bZ hb); have NB297_327 := aZ ((by rw [hg]; exact Nat.ne_of_lt (blk_lt (bkZ BK297.out)) : gb297 ≠ gb327)); have NB327_297 := aZ ((by rw [hg]; exact Nat.ne_of_gt (blk_lt (bkZ BK297.out)) : gb327 ≠ gb297)); replace BK297 := aZ (blk_below (bkZ BK297.out) hb); have NB312_327 := aZ ((by rw [hg]; exact Nat.ne_of_lt (blk_lt (bkZ BK312.out)) : gb312 ≠ gb327)); have NB327_312 := aZ ((by rw [hg]; exact Nat.ne_of_gt (blk_lt (bkZ BK312.out)) : gb327 ≠ gb312)); replace BK312 := aZ (blk_below (bkZ BK312.out) hb); have NB319_327 := aZ ((by rw [hg]; exact Nat.ne_of_lt (blk_lt (bkZ BK319.out)) : gb319 ≠ gb327)); have NB327_319 := aZ ((by rw [hg]; exact Nat.ne_of_gt (blk_lt (bkZ BK319.out)) : gb327 ≠ gb319)); replace BK319 := aZ (blk_below (bkZ BK319.out) hb); clear hb hbox hg; obtain ⟨Ao37, co37, eo37⟩ := Kd.R_slice HO322.out; subst eo37; have hnb38 := NB327_297.out; have hnc38 := NB297_327.out; have hnb39 := NB327_312.out; have hnc39 := NB312_327.out; have hnb40 := NB327_319.out; have hnc40 := NB319_327.out; have hcz41_0 : w36.cell? ⟨gb327, 0, none⟩ = some (.slice none 0 0) := (blk_cell BK327.out 0).trans rfl; have hcz41_1 : w36.cell? ⟨gb327, 1, none⟩ = some (.slice none 0 0) := (blk_cell BK327.out 1).trans rfl; have hfz41_0 := blk_frozen BK327.out 0; have hfz41_1 := blk_frozen BK327.out 1; obtain ⟨Ao42, co42, eo42⟩ := Kd.R_slice HO325.out; subst eo42))
 (try simp only [Act.put, sZ1, sZ2, sZ3])
 go_cut [48] (fun v48 wc => ∃ (kq : Nat) (x48_12 : Bool), v48 = .bool x48_12 ∧ Aside0 (laws_FnExactIssue.j0 kq a1 a2 t311 t326 x48_12 l0_0 l0_1 t305 t308 t313 t316 t320 t323 = some r) ∧ Aside0 (kq ≤ k) ∧ Aside0 (Kd.R k124 124 wc w.heap.size (fun k_ => some k_ ≠ ((.slice Ao30 t313.length co30) : Value).ownBlock ∧ some k_ ≠ ((.slice Ao37 t320.length co37) : Value).ownBlock) (.slice Ao23 t305.length co23) t305) ∧ Aside0 (Kd.R k120 120 wc w.heap.size (fun k_ => some k_ ≠ ((.slice Ao34 t316.length co34) : Value).ownBlock ∧ some k_ ≠ ((.slice Ao42 t323.length co42) : Value).ownBlock) (.slice Ao26 t308.length co26) t308) ∧ Aside0 (Kd.R k124 124 wc w.heap.size (fun k_ => some k_ ≠ ((.slice Ao23 t305.length co23) : Value).ownBlock ∧ some k_ ≠ ((.slice Ao37 t320.length co37) : Value).ownBlock) (.slice Ao30 t313.length co30) t313) ∧ Aside0 (Kd.R k120 120 wc w.heap.size (fun k_ => some k_ ≠ ((.slice Ao26 t308.length co26) : Value).ownBlock ∧ some k_ ≠ ((.slice Ao42 t323.length co42) : Value).ownBlock) (.slice Ao34 t316.length co34) t316) ∧ Aside0 (Kd.R k124 124 wc w.heap.size (fun k_ => some k_ ≠ ((.slice Ao23 t305.length co23) : Value).ownBlock ∧ some k_ ≠ ((.slice Ao30 t313.length co30) : Value).ownBlock) (.slice Ao37 t320.length co37) t320) ∧ Aside0 (Kd.R k120 120 wc w.heap.size (fun k_ => some k_ ≠ ((.slice Ao26 t308.length co26) : Value).ownBlock ∧ some k_ ≠ ((.slice Ao34 t316.length co34) : Value).ownBlock) (.slice Ao42 t323.length co42) t323) ∧ Aside0 (wc.heap[gb297]? = some (.cells #[(.slice A0_0 l0_0.length c0_0), (.slice A0_1 l0_1.length c0_1)] 25 (0, 0))) ∧ Aside0 (wc.heap[gb312]? = some (.cells #[(.slice Ao23 t305.length co23), (.slice Ao26 t308.length co26)] 30 (0, 0))) ∧ Aside0 (wc.heap[gb319]? = some (.cells #[(.slice Ao30 t313.length co30), (.slice Ao34 t316.length co34)] 30 (0, 0))) ∧ Aside0 (wc.heap[gb327]? = some (.cells #[(.slice Ao37 t320.length co37), (.slice Ao42 t323.length co42)] 30 (0, 0))) ∧ Aside0 (Below w.heap.size w wc))
 case first =>
  have H := HC13.out
  clear HC13
  replace H := Option.bind_eq_some_iff.mp H
  obtain ⟨t328, A430, H⟩ := H
  replace H : (if t328 = true then (laws_FnExactIssue.j0 k a1 a2 t311 t326 (t326 != t311) l0_0 l0_1 t305 t308 t313 t316 t320 t323) else (laws_FnExactIssue.j0 k a1 a2 t311 t326 true l0_0 l0_1 t305 t308 t313 t316 t320 t323)) = some r := H
  have A43 := Aside0.mk A430
  clear A430
  by_cases c44 : t328 = true
  ·subst c44
   have H1 : (laws_FnExactIssue.j0 k a1 a2 t311 t326 (t326 != t311) l0_0 l0_1 t305 t308 t313 t316 t320 t323) = some r := by rw [if_pos rfl] at H; exact H
   clear H
   have H := H1
   clear H1
   have H' := Aside0.mk H
   clear H
   have hnb45 := NB327_297.out
   have hnc45 := NB297_327.out
   have hnb46 := NB327_312.out
   have hnc46 := NB312_327.out
   have hnb47 := NB327_319.out
   have hnc47 := NB319_327.out
   have hcz48_0 : w36.cell? ⟨gb327, 0, none⟩ = some (.slice none 0 0) := (blk_cell BK327.out 0).trans rfl
   have hcz48_1 : w36.cell? ⟨gb327, 1, none⟩ = some (.slice none 0 0) := (blk_cell BK327.out 1).trans rfl
   have hfz48_0 := blk_frozen BK327.out 0
   have hfz48_1 := blk_frozen BK327.out 1
   have hnb49 := NB312_297.out
   have hnc49 := NB297_312.out
   have hnb50 := NB312_319.out
   have hnc50 := NB319_312.out
   have hcz51_0 : w36.cell? ⟨gb312, 0, none⟩ = some (.slice Ao23 t305.length co23) := (blk_cell BK312.out 0).trans rfl
   have hcz51_1 : w36.cell? ⟨gb312, 1, none⟩ = some (.slice Ao26 t308.length co26) := (blk_cell BK312.out 1).trans rfl
   have hfz51_0 := blk_frozen BK312.out 0
   have hfz51_1 := blk_frozen BK312.out 1
   go_wp2_with (first | ((with_reducible refine gate_callee (f := 17) rfl ?_); refine goesL_ (some 42) rfl rfl Try.func17 kZ rfl #[.agg #[.slice Ao37 t320.length co37, .slice Ao42 t323.length co42], .agg #[.slice Ao23 t305.length co23, .slice Ao26 t308.length co26]] rfl tZA ?_; (with_reducible refine (laws_eqRegister.calls k _ _ t320 _ _ t323 _ _ t305 _ _ t308 true _ ?side1 ?side2 ?side3 ?side4 ?side5 ?side6 ?side7 ?side8 A43.out).mono ?_); (case side1 => refine (Kd.R_reads' (e := 124) (base := w.heap.size) (ok := fun k_ => (((True ∧ some k_ ≠ (.slice Ao19 t299.length co19 : Value).ownBlock) ∧ some k_ ≠ (.slice Ao23 t305.length co23 : Value).ownBlock) ∧ some k_ ≠ (.slice Ao30 t313.length co30 : Value).ownBlock)) (n := t320.length) (c := co37) ?_).2.2; exact (by (with_reducible repeat (first | apply Kd.R_alloc | apply Kd.R_drewN | apply Kd.R_drew)); exact (Kd.R_mono (Kd.R_far (p := ⟨gb327, 1, none⟩) (Kd.R_far (p := ⟨gb327, 0, none⟩) (Kd.R_types HO322.out BK327.out (by decide)) (fun _ hk => hk.2) (.slice Ao37 t320.length co37)) (fun _ hk => hk.2) (.slice Ao42 t323.length co42)) (fun _ h_ => h_.1)))); (case side2 => exact (Kd.R_reads' HO322.out).2.1); (case side3 => refine (Kd.R_reads' (e := 120) (base := w.heap.size) (ok := fun k_ => (((True ∧ some k_ ≠ (.slice Ao20 t302.length co20 : Value).ownBlock) ∧ some k_ ≠ (.slice Ao26 t308.length co26 : Value).ownBlock) ∧ some k_ ≠ (.slice Ao34 t316.length co34 : Value).ownBlock)) (n := t323.length) (c := co42) ?_).2.2; exact (by (with_reducible repeat (first | apply Kd.R_alloc | apply Kd.R_drewN | apply Kd.R_drew)); exact (Kd.R_mono (Kd.R_far (p := ⟨gb327, 1, none⟩) (Kd.R_far (p := ⟨gb327, 0, none⟩) (Kd.R_types HO325.out BK327.out (by decide)) (fun _ hk => hk.2) (.slice Ao37 t320.length co37)) (fun _ hk => hk.2) (.slice Ao42 t323.length co42)) (fun _ h_ => h_.1)))); (case side4 => exact (Kd.R_reads' HO325.out).2.1); (case side5 => refine (Kd.R_reads' (e := 124) (base := w.heap.size) (ok := fun k_ => (((True ∧ some k_ ≠ (.slice Ao19 t299.length co19 : Value).ownBlock) ∧ some k_ ≠ (.slice Ao30 t313.length co30 : Value).ownBlock) ∧ some k_ ≠ (.slice Ao37 t320.length co37 : Value).ownBlock)) (n := t305.length) (c := co23) ?_).2.2; exact (by (with_reducible repeat (first | apply Kd.R_alloc | apply Kd.R_drewN | apply Kd.R_drew)); exact (Kd.R_mono (Kd.R_far (p := ⟨gb327, 1, none⟩) (Kd.R_far (p := ⟨gb327, 0, none⟩) (Kd.R_types HO307.out BK327.out (by decide)) (fun _ hk => hk.2) (.slice Ao37 t320.length co37)) (fun _ hk => hk.2) (.slice Ao42 t323.length co42)) (fun _ h_ => h_.1)))); (case side6 => exact (Kd.R_reads' HO307.out).2.1); (case side7 => refine (Kd.R_reads' (e := 120) (base := w.heap.size) (ok := fun k_ => (((True ∧ some k_ ≠ (.slice Ao20 t302.length co20 : Value).ownBlock) ∧ some k_ ≠ (.slice Ao34 t316.length co34 : Value).ownBlock) ∧ some k_ ≠ (.slice Ao42 t323.length co42 : Value).ownBlock)) (n := t308.length) (c := co26) ?_).2.2; exact (by (with_reducible repeat (first | apply Kd.R_alloc | apply Kd.R_drewN | apply Kd.R_drew)); exact (Kd.R_mono (Kd.R_far (p := ⟨gb327, 1, none⟩) (Kd.R_far (p := ⟨gb327, 0, none⟩) (Kd.R_types HO310.out BK327.out (by decide)) (fun _ hk => hk.2) (.slice Ao37 t320.length co37)) (fun _ hk => hk.2) (.slice Ao42 t323.length co42)) (fun _ h_ => h_.1)))); (case side8 => exact (Kd.R_reads' HO310.out).2.1); rintro e w52 ⟨rfl, hb⟩; refine ⟨_, rfl, ?_⟩; replace HO301 := aZ (Kd.R_below (by (with_reducible repeat (first | apply Kd.R_alloc | apply Kd.R_drewN | apply Kd.R_drew)); exact (Kd.R_mono (Kd.R_far (p := ⟨gb327, 1, none⟩) (Kd.R_far (p := ⟨gb327, 0, none⟩) (Kd.R_types HO301.out BK327.out (by decide)) (fun _ hk => hk.2) (.slice Ao37 t320.length co37)) (fun _ hk => hk.2) (.slice Ao42 t323.length co42)) (fun _ h_ => h_.1))) hb); replace HO304 := aZ (Kd.R_below (by (with_reducible repeat (first | apply Kd.R_alloc | apply Kd.R_drewN | apply Kd.R_drew)); exact (Kd.R_mono (Kd.R_far (p := ⟨gb327, 1, none⟩) (Kd.R_far (p := ⟨gb327, 0, none⟩) (Kd.R_types HO304.out BK327.out (by decide)) (fun _ hk => hk.2) (.slice Ao37 t320.length co37)) (fun _ hk => hk.2) (.slice Ao42 t323.length co42)) (fun _ h_ => h_.1))) hb); replace HO307 := aZ (Kd.R_below (by (with_reducible repeat (first | apply Kd.R_alloc | apply Kd.R_drewN | apply Kd.R_drew)); exact (Kd.R_mono (Kd.R_far (p := ⟨gb327, 1, none⟩) (Kd.R_far (p := ⟨gb327, 0, none⟩) (Kd.R_types HO307.out BK327.out (by decide)) (fun _ hk => hk.2) (.slice Ao37 t320.length co37)) (fun _ hk => hk.2) (.slice Ao42 t323.length co42)) (fun _ h_ => h_.1))) hb); replace HO310 := aZ (Kd.R_below (by (with_reducible repeat (first | apply Kd.R_alloc | apply Kd.R_drewN | apply Kd.R_drew)); exact (Kd.R_mono (Kd.R_far (p := ⟨gb327, 1, none⟩) (Kd.R_far (p := ⟨gb327, 0, none⟩) (Kd.R_types HO310.out BK327.out (by decide)) (fun _ hk => hk.2) (.slice Ao37 t320.length co37)) (fun _ hk => hk.2) (.slice Ao42 t323.length co42)) (fun _ h_ => h_.1))) hb); replace HO315 := aZ (Kd.R_below (by (with_reducible repeat (first | apply Kd.R_alloc | apply Kd.R_drewN | apply Kd.R_drew)); exact (Kd.R_mono (Kd.R_far (p := ⟨gb327, 1, none⟩) (Kd.R_far (p := ⟨gb327, 0, none⟩) (Kd.R_types HO315.out BK327.out (by decide)) (fun _ hk => hk.2) (.slice Ao37 t320.length co37)) (fun _ hk => hk.2) (.slice Ao42 t323.length co42)) (fun _ h_ => h_.1))) hb); replace HO318 := aZ (Kd.R_below (by (with_reducible repeat (first | apply Kd.R_alloc | apply Kd.R_drewN | apply Kd.R_drew)); exact (Kd.R_mono (Kd.R_far (p := ⟨gb327, 1, none⟩) (Kd.R_far (p := ⟨gb327, 0, none⟩) (Kd.R_types HO318.out BK327.out (by decide)) (fun _ hk => hk.2) (.slice Ao37 t320.length co37)) (fun _ hk => hk.2) (.slice Ao42 t323.length co42)) (fun _ h_ => h_.1))) hb); replace HO322 := aZ (Kd.R_below (by (with_reducible repeat (first | apply Kd.R_alloc | apply Kd.R_drewN | apply Kd.R_drew)); exact (Kd.R_mono (Kd.R_far (p := ⟨gb327, 1, none⟩) (Kd.R_far (p := ⟨gb327, 0, none⟩) (Kd.R_types HO322.out BK327.out (by decide)) (fun _ hk => hk.2) (.slice Ao37 t320.length co37)) (fun _ hk => hk.2) (.slice Ao42 t323.length co42)) (fun _ h_ => h_.1))) hb); replace HO325 := aZ (Kd.R_below (by (with_reducible repeat (first | apply Kd.R_alloc | apply Kd.R_drewN | apply Kd.R_drew)); exact (Kd.R_mono (Kd.R_far (p := ⟨gb327, 1, none⟩) (Kd.R_far (p := ⟨gb327, 0, none⟩) (Kd.R_types HO325.out BK327.out (by decide)) (fun _ hk => hk.2) (.slice Ao37 t320.length co37)) (fun _ hk => hk.2) (.slice Ao42 t323.length co42)) (fun _ h_ => h_.1))) hb); replace BK297 := aZ (blk_below (g := gb297) (o := .cells #[.slice A0_0 l0_0.length c0_0, .slice A0_1 l0_1.length c0_1] 25 (0, 0)) (by (with_reducible repeat (first | refine blk_drewN ?_ _ | refine blk_drew ?_ | refine blk_alloc ?_ _)); refine blk_far ?_ NB297_327.out _; (with_reducible repeat (first | refine blk_drewN ?_ _ | refine blk_drew ?_ | refine blk_alloc ?_ _)); refine blk_far ?_ NB297_327.out _; (with_reducible repeat (first | refine blk_drewN ?_ _ | refine blk_drew ?_ | refine blk_alloc ?_ _)); exact BK297.out) hb); replace BK312 := aZ (blk_below (g := gb312) (o := .cells #[.slice Ao23 t305.length co23, .slice Ao26 t308.length co26] 30 (0, 0)) (by (with_reducible repeat (first | refine blk_drewN ?_ _ | refine blk_drew ?_ | refine blk_alloc ?_ _)); refine blk_far ?_ NB312_327.out _; (with_reducible repeat (first | refine blk_drewN ?_ _ | refine blk_drew ?_ | refine blk_alloc ?_ _)); refine blk_far ?_ NB312_327.out _; (with_reducible repeat (first | refine blk_drewN ?_ _ | refine blk_drew ?_ | refine blk_alloc ?_ _)); exact BK312.out) hb); replace BK319 := aZ (blk_below (g := gb319) (o := .cells #[.slice Ao30 t313.length co30, .slice Ao34 t316.length co34] 30 (0, 0)) (by (with_reducible repeat (first | refine blk_drewN ?_ _ | refine blk_drew ?_ | refine blk_alloc ?_ _)); refine blk_far ?_ NB319_327.out _; (with_reducible repeat (first | refine blk_drewN ?_ _ | refine blk_drew ?_ | refine blk_alloc ?_ _)); refine blk_far ?_ NB319_327.out _; (with_reducible repeat (first | refine blk_drewN ?_ _ | refine blk_drew ?_ | refine blk_alloc ?_ _)); exact BK319.out) hb); replace BK327 := aZ (blk_below (g := gb327) (o := .cells #[.slice Ao37 t320.length co37, .slice Ao42 t323.length co42] 30 (0, 0)) (by (with_reducible repeat (first | refine blk_drewN ?_ _ | refine blk_drew ?_ | refine blk_alloc ?_ _)); refine blk_put (cs := #[.slice Ao37 t320.length co37, .slice none 0 0]) ?_ 1 _ rfl; (with_reducible repeat (first | refine blk_drewN ?_ _ | refine blk_drew ?_ | refine blk_alloc ?_ _)); refine blk_put (cs := #[.slice none 0 0, .slice none 0 0]) ?_ 0 _ rfl; (with_reducible repeat (first | refine blk_drewN ?_ _ | refine blk_drew ?_ | refine blk_alloc ?_ _)); exact BK327.out) hb); replace HB := aZ (below_step bZ hb); (try clear hb); (try clear hb2); (try clear hk); (try clear hi)))
   go_meet
   case rel => exact ⟨_, ((t326 != t311)), tZB, H', ⟨by first | omega | exact Nat.le_refl _⟩, ⟨by (with_reducible repeat (first | apply Kd.R_alloc | apply Kd.R_drewN | apply Kd.R_drew)); exact Kd.R_mono HO307.out (fun _ hk => ⟨hk.1.2, hk.2⟩)⟩, ⟨by (with_reducible repeat (first | apply Kd.R_alloc | apply Kd.R_drewN | apply Kd.R_drew)); exact Kd.R_mono HO310.out (fun _ hk => ⟨hk.1.2, hk.2⟩)⟩, ⟨by (with_reducible repeat (first | apply Kd.R_alloc | apply Kd.R_drewN | apply Kd.R_drew)); exact Kd.R_mono HO315.out (fun _ hk => ⟨hk.1.2, hk.2⟩)⟩, ⟨by (with_reducible repeat (first | apply Kd.R_alloc | apply Kd.R_drewN | apply Kd.R_drew)); exact Kd.R_mono HO318.out (fun _ hk => ⟨hk.1.2, hk.2⟩)⟩, ⟨by (with_reducible repeat (first | apply Kd.R_alloc | apply Kd.R_drewN | apply Kd.R_drew)); exact Kd.R_mono HO322.out (fun _ hk => ⟨hk.1.2, hk.2⟩)⟩, ⟨by (with_reducible repeat (first | apply Kd.R_alloc | apply Kd.R_drewN | apply Kd.R_drew)); exact Kd.R_mono HO325.out (fun _ hk => ⟨hk.1.2, hk.2⟩)⟩, ⟨bkZ BK297.out⟩, ⟨bkZ BK312.out⟩, ⟨bkZ BK319.out⟩, ⟨bkZ BK327.out⟩, ⟨bZ⟩⟩
  replace c44 := Bool.eq_false_iff.mpr c44
  subst c44
  have H1 : (laws_FnExactIssue.j0 k a1 a2 t311 t326 true l0_0 l0_1 t305 t308 t313 t316 t320 t323) = some r := by rw [if_neg (show ¬ (false = true) by decide)] at H; exact H
  clear H
  have H := H1
  clear H1
  have H' := Aside0.mk H
  clear H
  have hnb53 := NB327_297.out
  have hnc53 := NB297_327.out
  have hnb54 := NB327_312.out
  have hnc54 := NB312_327.out
  have hnb55 := NB327_319.out
  have hnc55 := NB319_327.out
  have hcz56_0 : w36.cell? ⟨gb327, 0, none⟩ = some (.slice none 0 0) := (blk_cell BK327.out 0).trans rfl
  have hcz56_1 : w36.cell? ⟨gb327, 1, none⟩ = some (.slice none 0 0) := (blk_cell BK327.out 1).trans rfl
  have hfz56_0 := blk_frozen BK327.out 0
  have hfz56_1 := blk_frozen BK327.out 1
  have hnb57 := NB312_297.out
  have hnc57 := NB297_312.out
  have hnb58 := NB312_319.out
  have hnc58 := NB319_312.out
  have hcz59_0 : w36.cell? ⟨gb312, 0, none⟩ = some (.slice Ao23 t305.length co23) := (blk_cell BK312.out 0).trans rfl
  have hcz59_1 : w36.cell? ⟨gb312, 1, none⟩ = some (.slice Ao26 t308.length co26) := (blk_cell BK312.out 1).trans rfl
  have hfz59_0 := blk_frozen BK312.out 0
  have hfz59_1 := blk_frozen BK312.out 1
  go_wp2_with (first | ((with_reducible refine gate_callee (f := 17) rfl ?_); refine goesL_ (some 42) rfl rfl Try.func17 kZ rfl #[.agg #[.slice Ao37 t320.length co37, .slice Ao42 t323.length co42], .agg #[.slice Ao23 t305.length co23, .slice Ao26 t308.length co26]] rfl tZA ?_; (with_reducible refine (laws_eqRegister.calls k _ _ t320 _ _ t323 _ _ t305 _ _ t308 false _ ?side1 ?side2 ?side3 ?side4 ?side5 ?side6 ?side7 ?side8 A43.out).mono ?_); (case side1 => refine (Kd.R_reads' (e := 124) (base := w.heap.size) (ok := fun k_ => (((True ∧ some k_ ≠ (.slice Ao19 t299.length co19 : Value).ownBlock) ∧ some k_ ≠ (.slice Ao23 t305.length co23 : Value).ownBlock) ∧ some k_ ≠ (.slice Ao30 t313.length co30 : Value).ownBlock)) (n := t320.length) (c := co37) ?_).2.2; exact (by (with_reducible repeat (first | apply Kd.R_alloc | apply Kd.R_drewN | apply Kd.R_drew)); exact (Kd.R_mono (Kd.R_far (p := ⟨gb327, 1, none⟩) (Kd.R_far (p := ⟨gb327, 0, none⟩) (Kd.R_types HO322.out BK327.out (by decide)) (fun _ hk => hk.2) (.slice Ao37 t320.length co37)) (fun _ hk => hk.2) (.slice Ao42 t323.length co42)) (fun _ h_ => h_.1)))); (case side2 => exact (Kd.R_reads' HO322.out).2.1); (case side3 => refine (Kd.R_reads' (e := 120) (base := w.heap.size) (ok := fun k_ => (((True ∧ some k_ ≠ (.slice Ao20 t302.length co20 : Value).ownBlock) ∧ some k_ ≠ (.slice Ao26 t308.length co26 : Value).ownBlock) ∧ some k_ ≠ (.slice Ao34 t316.length co34 : Value).ownBlock)) (n := t323.length) (c := co42) ?_).2.2; exact (by (with_reducible repeat (first | apply Kd.R_alloc | apply Kd.R_drewN | apply Kd.R_drew)); exact (Kd.R_mono (Kd.R_far (p := ⟨gb327, 1, none⟩) (Kd.R_far (p := ⟨gb327, 0, none⟩) (Kd.R_types HO325.out BK327.out (by decide)) (fun _ hk => hk.2) (.slice Ao37 t320.length co37)) (fun _ hk => hk.2) (.slice Ao42 t323.length co42)) (fun _ h_ => h_.1)))); (case side4 => exact (Kd.R_reads' HO325.out).2.1); (case side5 => refine (Kd.R_reads' (e := 124) (base := w.heap.size) (ok := fun k_ => (((True ∧ some k_ ≠ (.slice Ao19 t299.length co19 : Value).ownBlock) ∧ some k_ ≠ (.slice Ao30 t313.length co30 : Value).ownBlock) ∧ some k_ ≠ (.slice Ao37 t320.length co37 : Value).ownBlock)) (n := t305.length) (c := co23) ?_).2.2; exact (by (with_reducible repeat (first | apply Kd.R_alloc | apply Kd.R_drewN | apply Kd.R_drew)); exact (Kd.R_mono (Kd.R_far (p := ⟨gb327, 1, none⟩) (Kd.R_far (p := ⟨gb327, 0, none⟩) (Kd.R_types HO307.out BK327.out (by decide)) (fun _ hk => hk.2) (.slice Ao37 t320.length co37)) (fun _ hk => hk.2) (.slice Ao42 t323.length co42)) (fun _ h_ => h_.1)))); (case side6 => exact (Kd.R_reads' HO307.out).2.1); (case side7 => refine (Kd.R_reads' (e := 120) (base := w.heap.size) (ok := fun k_ => (((True ∧ some k_ ≠ (.slice Ao20 t302.length co20 : Value).ownBlock) ∧ some k_ ≠ (.slice Ao34 t316.length co34 : Value).ownBlock) ∧ some k_ ≠ (.slice Ao42 t323.length co42 : Value).ownBlock)) (n := t308.length) (c := co26) ?_).2.2; exact (by (with_reducible repeat (first | apply Kd.R_alloc | apply Kd.R_drewN | apply Kd.R_drew)); exact (Kd.R_mono (Kd.R_far (p := ⟨gb327, 1, none⟩) (Kd.R_far (p := ⟨gb327, 0, none⟩) (Kd.R_types HO310.out BK327.out (by decide)) (fun _ hk => hk.2) (.slice Ao37 t320.length co37)) (fun _ hk => hk.2) (.slice Ao42 t323.length co42)) (fun _ h_ => h_.1)))); (case side8 => exact (Kd.R_reads' HO310.out).2.1); rintro e w60 ⟨rfl, hb⟩; refine ⟨_, rfl, ?_⟩; replace HO301 := aZ (Kd.R_below (by (with_reducible repeat (first | apply Kd.R_alloc | apply Kd.R_drewN | apply Kd.R_drew)); exact (Kd.R_mono (Kd.R_far (p := ⟨gb327, 1, none⟩) (Kd.R_far (p := ⟨gb327, 0, none⟩) (Kd.R_types HO301.out BK327.out (by decide)) (fun _ hk => hk.2) (.slice Ao37 t320.length co37)) (fun _ hk => hk.2) (.slice Ao42 t323.length co42)) (fun _ h_ => h_.1))) hb); replace HO304 := aZ (Kd.R_below (by (with_reducible repeat (first | apply Kd.R_alloc | apply Kd.R_drewN | apply Kd.R_drew)); exact (Kd.R_mono (Kd.R_far (p := ⟨gb327, 1, none⟩) (Kd.R_far (p := ⟨gb327, 0, none⟩) (Kd.R_types HO304.out BK327.out (by decide)) (fun _ hk => hk.2) (.slice Ao37 t320.length co37)) (fun _ hk => hk.2) (.slice Ao42 t323.length co42)) (fun _ h_ => h_.1))) hb); replace HO307 := aZ (Kd.R_below (by (with_reducible repeat (first | apply Kd.R_alloc | apply Kd.R_drewN | apply Kd.R_drew)); exact (Kd.R_mono (Kd.R_far (p := ⟨gb327, 1, none⟩) (Kd.R_far (p := ⟨gb327, 0, none⟩) (Kd.R_types HO307.out BK327.out (by decide)) (fun _ hk => hk.2) (.slice Ao37 t320.length co37)) (fun _ hk => hk.2) (.slice Ao42 t323.length co42)) (fun _ h_ => h_.1))) hb); replace HO310 := aZ (Kd.R_below (by (with_reducible repeat (first | apply Kd.R_alloc | apply Kd.R_drewN | apply Kd.R_drew)); exact (Kd.R_mono (Kd.R_far (p := ⟨gb327, 1, none⟩) (Kd.R_far (p := ⟨gb327, 0, none⟩) (Kd.R_types HO310.out BK327.out (by decide)) (fun _ hk => hk.2) (.slice Ao37 t320.length co37)) (fun _ hk => hk.2) (.slice Ao42 t323.length co42)) (fun _ h_ => h_.1))) hb); replace HO315 := aZ (Kd.R_below (by (with_reducible repeat (first | apply Kd.R_alloc | apply Kd.R_drewN | apply Kd.R_drew)); exact (Kd.R_mono (Kd.R_far (p := ⟨gb327, 1, none⟩) (Kd.R_far (p := ⟨gb327, 0, none⟩) (Kd.R_types HO315.out BK327.out (by decide)) (fun _ hk => hk.2) (.slice Ao37 t320.length co37)) (fun _ hk => hk.2) (.slice Ao42 t323.length co42)) (fun _ h_ => h_.1))) hb); replace HO318 := aZ (Kd.R_below (by (with_reducible repeat (first | apply Kd.R_alloc | apply Kd.R_drewN | apply Kd.R_drew)); exact (Kd.R_mono (Kd.R_far (p := ⟨gb327, 1, none⟩) (Kd.R_far (p := ⟨gb327, 0, none⟩) (Kd.R_types HO318.out BK327.out (by decide)) (fun _ hk => hk.2) (.slice Ao37 t320.length co37)) (fun _ hk => hk.2) (.slice Ao42 t323.length co42)) (fun _ h_ => h_.1))) hb); replace HO322 := aZ (Kd.R_below (by (with_reducible repeat (first | apply Kd.R_alloc | apply Kd.R_drewN | apply Kd.R_drew)); exact (Kd.R_mono (Kd.R_far (p := ⟨gb327, 1, none⟩) (Kd.R_far (p := ⟨gb327, 0, none⟩) (Kd.R_types HO322.out BK327.out (by decide)) (fun _ hk => hk.2) (.slice Ao37 t320.length co37)) (fun _ hk => hk.2) (.slice Ao42 t323.length co42)) (fun _ h_ => h_.1))) hb); replace HO325 := aZ (Kd.R_below (by (with_reducible repeat (first | apply Kd.R_alloc | apply Kd.R_drewN | apply Kd.R_drew)); exact (Kd.R_mono (Kd.R_far (p := ⟨gb327, 1, none⟩) (Kd.R_far (p := ⟨gb327, 0, none⟩) (Kd.R_types HO325.out BK327.out (by decide)) (fun _ hk => hk.2) (.slice Ao37 t320.length co37)) (fun _ hk => hk.2) (.slice Ao42 t323.length co42)) (fun _ h_ => h_.1))) hb); replace BK297 := aZ (blk_below (g := gb297) (o := .cells #[.slice A0_0 l0_0.length c0_0, .slice A0_1 l0_1.length c0_1] 25 (0, 0)) (by (with_reducible repeat (first | refine blk_drewN ?_ _ | refine blk_drew ?_ | refine blk_alloc ?_ _)); refine blk_far ?_ NB297_327.out _; (with_reducible repeat (first | refine blk_drewN ?_ _ | refine blk_drew ?_ | refine blk_alloc ?_ _)); refine blk_far ?_ NB297_327.out _; (with_reducible repeat (first | refine blk_drewN ?_ _ | refine blk_drew ?_ | refine blk_alloc ?_ _)); exact BK297.out) hb); replace BK312 := aZ (blk_below (g := gb312) (o := .cells #[.slice Ao23 t305.length co23, .slice Ao26 t308.length co26] 30 (0, 0)) (by (with_reducible repeat (first | refine blk_drewN ?_ _ | refine blk_drew ?_ | refine blk_alloc ?_ _)); refine blk_far ?_ NB312_327.out _; (with_reducible repeat (first | refine blk_drewN ?_ _ | refine blk_drew ?_ | refine blk_alloc ?_ _)); refine blk_far ?_ NB312_327.out _; (with_reducible repeat (first | refine blk_drewN ?_ _ | refine blk_drew ?_ | refine blk_alloc ?_ _)); exact BK312.out) hb); replace BK319 := aZ (blk_below (g := gb319) (o := .cells #[.slice Ao30 t313.length co30, .slice Ao34 t316.length co34] 30 (0, 0)) (by (with_reducible repeat (first | refine blk_drewN ?_ _ | refine blk_drew ?_ | refine blk_alloc ?_ _)); refine blk_far ?_ NB319_327.out _; (with_reducible repeat (first | refine blk_drewN ?_ _ | refine blk_drew ?_ | refine blk_alloc ?_ _)); refine blk_far ?_ NB319_327.out _; (with_reducible repeat (first | refine blk_drewN ?_ _ | refine blk_drew ?_ | refine blk_alloc ?_ _)); exact BK319.out) hb); replace BK327 := aZ (blk_below (g := gb327) (o := .cells #[.slice Ao37 t320.length co37, .slice Ao42 t323.length co42] 30 (0, 0)) (by (with_reducible repeat (first | refine blk_drewN ?_ _ | refine blk_drew ?_ | refine blk_alloc ?_ _)); refine blk_put (cs := #[.slice Ao37 t320.length co37, .slice none 0 0]) ?_ 1 _ rfl; (with_reducible repeat (first | refine blk_drewN ?_ _ | refine blk_drew ?_ | refine blk_alloc ?_ _)); refine blk_put (cs := #[.slice none 0 0, .slice none 0 0]) ?_ 0 _ rfl; (with_reducible repeat (first | refine blk_drewN ?_ _ | refine blk_drew ?_ | refine blk_alloc ?_ _)); exact BK327.out) hb); replace HB := aZ (below_step bZ hb); (try clear hb); (try clear hb2); (try clear hk); (try clear hi)))
  go_meet
  case rel => exact ⟨_, (true), tZB, H', ⟨by first | omega | exact Nat.le_refl _⟩, ⟨by (with_reducible repeat (first | apply Kd.R_alloc | apply Kd.R_drewN | apply Kd.R_drew)); exact Kd.R_mono HO307.out (fun _ hk => ⟨hk.1.2, hk.2⟩)⟩, ⟨by (with_reducible repeat (first | apply Kd.R_alloc | apply Kd.R_drewN | apply Kd.R_drew)); exact Kd.R_mono HO310.out (fun _ hk => ⟨hk.1.2, hk.2⟩)⟩, ⟨by (with_reducible repeat (first | apply Kd.R_alloc | apply Kd.R_drewN | apply Kd.R_drew)); exact Kd.R_mono HO315.out (fun _ hk => ⟨hk.1.2, hk.2⟩)⟩, ⟨by (with_reducible repeat (first | apply Kd.R_alloc | apply Kd.R_drewN | apply Kd.R_drew)); exact Kd.R_mono HO318.out (fun _ hk => ⟨hk.1.2, hk.2⟩)⟩, ⟨by (with_reducible repeat (first | apply Kd.R_alloc | apply Kd.R_drewN | apply Kd.R_drew)); exact Kd.R_mono HO322.out (fun _ hk => ⟨hk.1.2, hk.2⟩)⟩, ⟨by (with_reducible repeat (first | apply Kd.R_alloc | apply Kd.R_drewN | apply Kd.R_drew)); exact Kd.R_mono HO325.out (fun _ hk => ⟨hk.1.2, hk.2⟩)⟩, ⟨bkZ BK297.out⟩, ⟨bkZ BK312.out⟩, ⟨bkZ BK319.out⟩, ⟨bkZ BK327.out⟩, ⟨bZ⟩⟩
 case rest =>
  clear HC13
  try clear c1
  try clear c2
  try clear p2
  try clear c3
  try clear c4
  try clear c5
  try clear c5b0
  try clear c13
  try clear c14
  try clear c15
  try clear c16
  try clear c17
  try clear c24
  try clear c31
  try clear c32
  try clear c38
  try clear c39
  try clear c40
  try clear c44
  try clear c45
  try clear c46
  try clear c47
  try clear c49
  try clear c50
  try clear c53
  try clear c54
  try clear c55
  try clear c57
  try clear c58
  try clear hcz15_0
  try clear hcz15_1
  try clear hcz17_0
  try clear hcz17_1
  try clear hcz25_0
  try clear hcz25_1
  try clear hcz27_0
  try clear hcz27_1
  try clear hcz33_0
  try clear hcz33_1
  try clear hcz41_0
  try clear hcz41_1
  try clear hcz48_0
  try clear hcz48_1
  try clear hcz51_0
  try clear hcz51_1
  try clear hcz56_0
  try clear hcz56_1
  try clear hcz59_0
  try clear hcz59_1
  try clear hcz7_0
  try clear hcz7_1
  try clear hfz15_0
  try clear hfz15_1
  try clear hfz17_0
  try clear hfz17_1
  try clear hfz25_0
  try clear hfz25_1
  try clear hfz27_0
  try clear hfz27_1
  try clear hfz33_0
  try clear hfz33_1
  try clear hfz41_0
  try clear hfz41_1
  try clear hfz48_0
  try clear hfz48_1
  try clear hfz51_0
  try clear hfz51_1
  try clear hfz56_0
  try clear hfz56_1
  try clear hfz59_0
  try clear hfz59_1
  try clear hfz7_0
  try clear hfz7_1
  obtain ⟨kq, x48_12, rfl, HA, HJ12, HO_313000, HO_313001, HO_320000, HO_320001, HO_328000, HO_328001, BK297, BK312, BK319, BK327, HB⟩ := hcut
  cases kq with
  | zero => exact absurd HA.out (by simp [laws_FnExactIssue.j0])
  | succ kj12 =>
   have H := HA.out
   clear HA
   simp only [laws_FnExactIssue.j0] at H
   by_cases c61 : x48_12 = true
   ·subst c61
    have H1 : (some false) = some r := by rw [if_pos rfl] at H; exact H
    clear H
    have H := H1
    clear H1
    obtain rfl := Option.some.inj H
    go_wp2
    go_ret
    exact ⟨tZC, bZ⟩
   replace c61 := Bool.eq_false_iff.mpr c61
   subst c61
   have H1 : ((laws_toRegister.f kj12 l0_0 l0_1).bind fun bt329 => ((laws_eqRegister.f kj12 t313 t316 bt329.1 bt329.2).bind fun t335 => (if t335 = true then ((laws_markRegister.f kj12 t313 t316 1).bind fun bt336 => (if bt336.1 < 0 then (laws_FnExactIssue.j1 kj12 a1 a2 t311 true l0_0 l0_1 t305 t308 t320 t323) else ((laws_eqRegister.f kj12 t320 t323 t305 t308).bind fun t339 => (if t339 = true then (laws_FnExactIssue.j1 kj12 a1 a2 t311 (t326 != t311) l0_0 l0_1 t305 t308 t320 t323) else (laws_FnExactIssue.j1 kj12 a1 a2 t311 true l0_0 l0_1 t305 t308 t320 t323))))) else (some false)))) = some r := by rw [if_neg (show ¬ (false = true) by decide)] at H; exact H
   clear H
   have H := H1
   clear H1
   replace H := Option.bind_eq_some_iff.mp H
   obtain ⟨⟨t329, t332⟩, A620, H⟩ := H
   replace H : ((laws_eqRegister.f kj12 t313 t316 t329 t332).bind fun t335 => (if t335 = true then ((laws_markRegister.f kj12 t313 t316 1).bind fun bt336 => (if bt336.1 < 0 then (laws_FnExactIssue.j1 kj12 a1 a2 t311 true l0_0 l0_1 t305 t308 t320 t323) else ((laws_eqRegister.f kj12 t320 t323 t305 t308).bind fun t339 => (if t339 = true then (laws_FnExactIssue.j1 kj12 a1 a2 t311 (t326 != t311) l0_0 l0_1 t305 t308 t320 t323) else (laws_FnExactIssue.j1 kj12 a1 a2 t311 true l0_0 l0_1 t305 t308 t320 t323))))) else (some false))) = some r := H
   have A62 := Aside0.mk A620
   clear A620
   replace H := Option.bind_eq_some_iff.mp H
   obtain ⟨t335, A630, H⟩ := H
   replace H : (if t335 = true then ((laws_markRegister.f kj12 t313 t316 1).bind fun bt336 => (if bt336.1 < 0 then (laws_FnExactIssue.j1 kj12 a1 a2 t311 true l0_0 l0_1 t305 t308 t320 t323) else ((laws_eqRegister.f kj12 t320 t323 t305 t308).bind fun t339 => (if t339 = true then (laws_FnExactIssue.j1 kj12 a1 a2 t311 (t326 != t311) l0_0 l0_1 t305 t308 t320 t323) else (laws_FnExactIssue.j1 kj12 a1 a2 t311 true l0_0 l0_1 t305 t308 t320 t323))))) else (some false)) = some r := H
   have A63 := Aside0.mk A630
   clear A630
   by_cases c64 : t335 = true
   rotate_left
   ·replace c64 := Bool.eq_false_iff.mpr c64
    subst c64
    have H1 : (some false) = some r := by rw [if_neg (show ¬ (false = true) by decide)] at H; exact H
    clear H
    have H := H1
    clear H1
    obtain rfl := Option.some.inj H
    try go_wp2
    replace HO_313000 := aZ (Kd.R_drew HO_313000.out)
    replace HO_313001 := aZ (Kd.R_drew HO_313001.out)
    replace HO_320000 := aZ (Kd.R_drew HO_320000.out)
    replace HO_320001 := aZ (Kd.R_drew HO_320001.out)
    replace HO_328000 := aZ (Kd.R_drew HO_328000.out)
    replace HO_328001 := aZ (Kd.R_drew HO_328001.out)
    replace BK297 := aZ (blk_drew BK297.out)
    replace BK312 := aZ (blk_drew BK312.out)
    replace BK319 := aZ (blk_drew BK319.out)
    replace BK327 := aZ (blk_drew BK327.out)
    replace HB := aZ (below_drew1 HB.out)
    refine start_ (n := 5) (S := fun w' => w'.cell? ⟨gb319, 0, none⟩ = some (.slice Ao30 t313.length co30) ∧ w'.cell? ⟨gb319, 1, none⟩ = some (.slice Ao34 t316.length co34) ∧ w'.cell? ⟨gb297, 0, none⟩ = some (.slice A0_0 l0_0.length c0_0) ∧ w'.cell? ⟨gb297, 1, none⟩ = some (.slice A0_1 l0_1.length c0_1)) (ds := []) #[false, false, false, false, false] kZ rfl rfl ⟨(blk_cell BK319.out 0).trans rfl, (blk_cell BK319.out 1).trans rfl, (blk_cell BK297.out 0).trans rfl, (blk_cell BK297.out 1).trans rfl⟩ (fun hHeld => ?_)
    generalize wc.drew = w184 at HO_313000 HO_313001 HO_320000 HO_320001 HO_328000 HO_328001 BK297 BK312 BK319 BK327 HB hHeld ⊢
    refine take_ (i := 0) (N := some 49) (v := ?_) (a' := ?_) #[true, false, false, false, false] rfl rfl kZ (fun _ _ _ h => h) (Or.inl ⟨by rfl, ?_⟩) hHeld ?_ ?_
    rotate_left
    ·rintro w' ⟨s0, s1, s2, s3⟩
     go_simp
     with_reducible rfl
    rotate_left
    ·simp only [Act.put, sZ1, sZ2, sZ3, i64_w, i32_w]
     rfl
    refine take_ (i := 1) (N := some 50) (v := ?_) (a' := ?_) #[true, true, false, false, false] rfl rfl kZ (fun _ _ _ h => h) (Or.inl ⟨by rfl, ?_⟩) hHeld ?_ ?_
    rotate_left
    ·rintro w' ⟨s0, s1, s2, s3⟩
     go_simp
     with_reducible rfl
    rotate_left
    ·simp only [Act.put, sZ1, sZ2, sZ3, i64_w, i32_w]
     rfl
    refine one_ (i := 2) (N := some 51) #[true, true, true, false, false] rfl rfl kZ (by decide) (fun K hK => ?_)
    refine goes_ Try.func15 kZ rfl #[.agg #[.slice A0_0 l0_0.length c0_0, .slice A0_1 l0_1.length c0_1]] (by rfl) rfl rfl tZA ?_
    with_reducible refine (laws_toRegister.calls kj12 _ _ l0_0 _ _ l0_1 t329 t332 _ ?side1 ?side2 ?side3 ?side4 A62.out).mono ?_
    (case side1 => repeat (first | exact (Kd.C_below HR0_0.out HB.out) | (with_reducible refine Kd.C_alloc ?_ _) | (with_reducible refine Kd.C_drewN ?_ _) | (with_reducible refine Kd.C_drew ?_)))
    (case side2 => exact HC0_0.out)
    (case side3 => repeat (first | exact (Kd.C_below HR0_1.out HB.out) | (with_reducible refine Kd.C_alloc ?_ _) | (with_reducible refine Kd.C_drewN ?_ _) | (with_reducible refine Kd.C_drew ?_)))
    (case side4 => exact HC0_1.out)
    rintro e w185 ⟨v330, v333, rfl, ho0, ho1, hb⟩
    refine ⟨_, rfl, ?_⟩
    have HO331 := aZ (Kd.R_lower (Kd.R_new' (Kd.R_new' (Kd.R_new' ho0 (Kd.R_lt (lZR HO_313000.out))) (Kd.R_lt (lZR HO_320000.out))) (Kd.R_lt (lZR HO_328000.out))) (below_size bZ))
    replace HO_313000 := aZ (Kd.R_elder' (lZR HO_313000.out) (Kd.R_base ho0) hb)
    replace HO_320000 := aZ (Kd.R_elder' (lZR HO_320000.out) (Kd.R_base ho0) hb)
    replace HO_328000 := aZ (Kd.R_elder' (lZR HO_328000.out) (Kd.R_base ho0) hb)
    have HO334 := aZ (Kd.R_lower (Kd.R_new' (Kd.R_new' (Kd.R_new' ho1 (Kd.R_lt (lZR HO_313001.out))) (Kd.R_lt (lZR HO_320001.out))) (Kd.R_lt (lZR HO_328001.out))) (below_size bZ))
    replace HO_313001 := aZ (Kd.R_elder' (lZR HO_313001.out) (Kd.R_base ho1) hb)
    replace HO_320001 := aZ (Kd.R_elder' (lZR HO_320001.out) (Kd.R_base ho1) hb)
    replace HO_328001 := aZ (Kd.R_elder' (lZR HO_328001.out) (Kd.R_base ho1) hb)
    replace BK297 := aZ (blk_below (bkZ BK297.out) hb)
    replace BK312 := aZ (blk_below (bkZ BK312.out) hb)
    replace BK319 := aZ (blk_below (bkZ BK319.out) hb)
    replace BK327 := aZ (blk_below (bkZ BK327.out) hb)
    replace HB := aZ (below_step bZ hb)
    (try clear hb)
    (try clear hb2)
    (try clear hk)
    (try clear hi)
    (try clear ho0)
    (try clear ho1)
    obtain ⟨Ao186, co186, eo186⟩ := Kd.R_slice HO331.out
    (first | subst eo186 | (injection eo186 with f1_ f2_ f3_; have f4_ := f1_.symm; have f5_ := f3_.symm; clear f1_ f2_ f3_; subst f4_; subst f5_))
    obtain ⟨Ao187, co187, eo187⟩ := Kd.R_slice HO334.out
    (first | subst eo187 | (injection eo187 with f1_ f2_ f3_; have f4_ := f1_.symm; have f5_ := f3_.symm; clear f1_ f2_ f3_; subst f4_; subst f5_))
    refine hK.out _ _ ⟨(blk_cell BK319.out 0).trans rfl, (blk_cell BK319.out 1).trans rfl, (blk_cell BK297.out 0).trans rfl, (blk_cell BK297.out 1).trans rfl⟩ (fun hHeld => ?_)
    clear hK K
    refine norm_ (a' := ?_) ?_ ?_
    rotate_left
    ·show Act.put _ (some 51) _ = _
     simp only [Act.put, sZ1, sZ2, sZ3, i64_w, i32_w]
     rfl
    refine one_ (i := 3) (N := some 52) #[true, true, true, true, false] rfl rfl kZ (by decide) (fun K hK => ?_)
    refine goes_ Try.func17 kZ rfl #[.agg #[.slice Ao30 t313.length co30, .slice Ao34 t316.length co34], .agg #[.slice Ao186 t329.length co186, .slice Ao187 t332.length co187]] (by rfl) rfl rfl tZA ?_
    with_reducible refine (laws_eqRegister.calls kj12 _ _ t313 _ _ t316 _ _ t329 _ _ t332 false _ ?side1 ?side2 ?side3 ?side4 ?side5 ?side6 ?side7 ?side8 A63.out).mono ?_
    (case side1 => repeat (first | exact (Kd.R_reads' HO_320000.out).2.2 | (with_reducible refine Kd.C_alloc ?_ _) | (with_reducible refine Kd.C_drewN ?_ _) | (with_reducible refine Kd.C_drew ?_)))
    (case side2 => exact (Kd.R_reads' HO_320000.out).2.1)
    (case side3 => repeat (first | exact (Kd.R_reads' HO_320001.out).2.2 | (with_reducible refine Kd.C_alloc ?_ _) | (with_reducible refine Kd.C_drewN ?_ _) | (with_reducible refine Kd.C_drew ?_)))
    (case side4 => exact (Kd.R_reads' HO_320001.out).2.1)
    (case side5 => repeat (first | exact (Kd.R_reads' HO331.out).2.2 | (with_reducible refine Kd.C_alloc ?_ _) | (with_reducible refine Kd.C_drewN ?_ _) | (with_reducible refine Kd.C_drew ?_)))
    (case side6 => exact (Kd.R_reads' HO331.out).2.1)
    (case side7 => repeat (first | exact (Kd.R_reads' HO334.out).2.2 | (with_reducible refine Kd.C_alloc ?_ _) | (with_reducible refine Kd.C_drewN ?_ _) | (with_reducible refine Kd.C_drew ?_)))
    (case side8 => exact (Kd.R_reads' HO334.out).2.1)
    rintro e w188 ⟨rfl, hb⟩
    refine ⟨_, rfl, ?_⟩
    replace HO_313000 := aZ (Kd.R_below (lZR HO_313000.out) hb)
    replace HO_313001 := aZ (Kd.R_below (lZR HO_313001.out) hb)
    replace HO_320000 := aZ (Kd.R_below (lZR HO_320000.out) hb)
    replace HO_320001 := aZ (Kd.R_below (lZR HO_320001.out) hb)
    replace HO_328000 := aZ (Kd.R_below (lZR HO_328000.out) hb)
    replace HO_328001 := aZ (Kd.R_below (lZR HO_328001.out) hb)
    replace HO331 := aZ (Kd.R_below (lZR HO331.out) hb)
    replace HO334 := aZ (Kd.R_below (lZR HO334.out) hb)
    replace BK297 := aZ (blk_below (bkZ BK297.out) hb)
    replace BK312 := aZ (blk_below (bkZ BK312.out) hb)
    replace BK319 := aZ (blk_below (bkZ BK319.out) hb)
    replace BK327 := aZ (blk_below (bkZ BK327.out) hb)
    replace HB := aZ (below_step bZ hb)
    (try clear hb)
    (try clear hb2)
    (try clear hk)
    (try clear hi)
    refine hK.out _ _ ⟨(blk_cell BK319.out 0).trans rfl, (blk_cell BK319.out 1).trans rfl, (blk_cell BK297.out 0).trans rfl, (blk_cell BK297.out 1).trans rfl⟩ (fun hHeld => ?_)
    clear hK K
    refine norm_ (a' := ?_) ?_ ?_
    rotate_left
    ·show Act.put _ (some 52) _ = _
     simp only [Act.put, sZ1, sZ2, sZ3, i64_w, i32_w]
     rfl
    refine pure_ (i := 4) (N := some 53) (v := ?_) (a' := ?_) #[true, true, true, true, true] rfl rfl kZ (fun _ _ _ h => h) (Or.inl ⟨by rfl, ?_⟩) ?_ ?_
    rotate_left
    ·intro w'
     go_simp
     with_reducible rfl
    rotate_left
    ·simp only [Act.put, sZ1, sZ2, sZ3, i64_w, i32_w]
     rfl
    refine done_ kZ ?_
    try go_wp2
    go_ret
    exact ⟨tZC, bZ⟩
   subst c64
   have H1 : ((laws_markRegister.f kj12 t313 t316 1).bind fun bt336 => (if bt336.1 < 0 then (laws_FnExactIssue.j1 kj12 a1 a2 t311 true l0_0 l0_1 t305 t308 t320 t323) else ((laws_eqRegister.f kj12 t320 t323 t305 t308).bind fun t339 => (if t339 = true then (laws_FnExactIssue.j1 kj12 a1 a2 t311 (t326 != t311) l0_0 l0_1 t305 t308 t320 t323) else (laws_FnExactIssue.j1 kj12 a1 a2 t311 true l0_0 l0_1 t305 t308 t320 t323))))) = some r := by rw [if_pos rfl] at H; exact H
   clear H
   have H := H1
   clear H1
   replace H := Option.bind_eq_some_iff.mp H
   obtain ⟨⟨t336, t337, t338⟩, A650, H⟩ := H
   replace H : (if t336 < 0 then (laws_FnExactIssue.j1 kj12 a1 a2 t311 true l0_0 l0_1 t305 t308 t320 t323) else ((laws_eqRegister.f kj12 t320 t323 t305 t308).bind fun t339 => (if t339 = true then (laws_FnExactIssue.j1 kj12 a1 a2 t311 (t326 != t311) l0_0 l0_1 t305 t308 t320 t323) else (laws_FnExactIssue.j1 kj12 a1 a2 t311 true l0_0 l0_1 t305 t308 t320 t323)))) = some r := H
   have A65 := Aside0.mk A650
   clear A650
   have HC66 := Aside0.mk H
   clear H
   try go_wp2
   replace HO_313000 := aZ (Kd.R_drew HO_313000.out)
   replace HO_313001 := aZ (Kd.R_drew HO_313001.out)
   replace HO_320000 := aZ (Kd.R_drew HO_320000.out)
   replace HO_320001 := aZ (Kd.R_drew HO_320001.out)
   replace HO_328000 := aZ (Kd.R_drew HO_328000.out)
   replace HO_328001 := aZ (Kd.R_drew HO_328001.out)
   replace BK297 := aZ (blk_drew BK297.out)
   replace BK312 := aZ (blk_drew BK312.out)
   replace BK319 := aZ (blk_drew BK319.out)
   replace BK327 := aZ (blk_drew BK327.out)
   replace HB := aZ (below_drew1 HB.out)
   refine start_ (n := 5) (S := fun w' => w'.cell? ⟨gb319, 0, none⟩ = some (.slice Ao30 t313.length co30) ∧ w'.cell? ⟨gb319, 1, none⟩ = some (.slice Ao34 t316.length co34) ∧ w'.cell? ⟨gb297, 0, none⟩ = some (.slice A0_0 l0_0.length c0_0) ∧ w'.cell? ⟨gb297, 1, none⟩ = some (.slice A0_1 l0_1.length c0_1)) (ds := []) #[false, false, false, false, false] kZ rfl rfl ⟨(blk_cell BK319.out 0).trans rfl, (blk_cell BK319.out 1).trans rfl, (blk_cell BK297.out 0).trans rfl, (blk_cell BK297.out 1).trans rfl⟩ (fun hHeld => ?_)
   generalize wc.drew = w67 at HO_313000 HO_313001 HO_320000 HO_320001 HO_328000 HO_328001 BK297 BK312 BK319 BK327 HB hHeld ⊢
   refine take_ (i := 0) (N := some 49) (v := ?_) (a' := ?_) #[true, false, false, false, false] rfl rfl kZ (fun _ _ _ h => h) (Or.inl ⟨by rfl, ?_⟩) hHeld ?_ ?_
   rotate_left
   ·rintro w' ⟨s0, s1, s2, s3⟩
    go_simp
    with_reducible rfl
   rotate_left
   ·simp only [Act.put, sZ1, sZ2, sZ3, i64_w, i32_w]
    rfl
   refine take_ (i := 1) (N := some 50) (v := ?_) (a' := ?_) #[true, true, false, false, false] rfl rfl kZ (fun _ _ _ h => h) (Or.inl ⟨by rfl, ?_⟩) hHeld ?_ ?_
   rotate_left
   ·rintro w' ⟨s0, s1, s2, s3⟩
    go_simp
    with_reducible rfl
   rotate_left
   ·simp only [Act.put, sZ1, sZ2, sZ3, i64_w, i32_w]
    rfl
   refine one_ (i := 2) (N := some 51) #[true, true, true, false, false] rfl rfl kZ (by decide) (fun K hK => ?_)
   refine goes_ Try.func15 kZ rfl #[.agg #[.slice A0_0 l0_0.length c0_0, .slice A0_1 l0_1.length c0_1]] (by rfl) rfl rfl tZA ?_
   with_reducible refine (laws_toRegister.calls kj12 _ _ l0_0 _ _ l0_1 t329 t332 _ ?side1 ?side2 ?side3 ?side4 A62.out).mono ?_
   (case side1 => repeat (first | exact (Kd.C_below HR0_0.out HB.out) | (with_reducible refine Kd.C_alloc ?_ _) | (with_reducible refine Kd.C_drewN ?_ _) | (with_reducible refine Kd.C_drew ?_)))
   (case side2 => exact HC0_0.out)
   (case side3 => repeat (first | exact (Kd.C_below HR0_1.out HB.out) | (with_reducible refine Kd.C_alloc ?_ _) | (with_reducible refine Kd.C_drewN ?_ _) | (with_reducible refine Kd.C_drew ?_)))
   (case side4 => exact HC0_1.out)
   rintro e w68 ⟨v330, v333, rfl, ho0, ho1, hb⟩
   refine ⟨_, rfl, ?_⟩
   have HO331 := aZ (Kd.R_lower (Kd.R_new' (Kd.R_new' (Kd.R_new' ho0 (Kd.R_lt (lZR HO_313000.out))) (Kd.R_lt (lZR HO_320000.out))) (Kd.R_lt (lZR HO_328000.out))) (below_size bZ))
   replace HO_313000 := aZ (Kd.R_elder' (lZR HO_313000.out) (Kd.R_base ho0) hb)
   replace HO_320000 := aZ (Kd.R_elder' (lZR HO_320000.out) (Kd.R_base ho0) hb)
   replace HO_328000 := aZ (Kd.R_elder' (lZR HO_328000.out) (Kd.R_base ho0) hb)
   have HO334 := aZ (Kd.R_lower (Kd.R_new' (Kd.R_new' (Kd.R_new' ho1 (Kd.R_lt (lZR HO_313001.out))) (Kd.R_lt (lZR HO_320001.out))) (Kd.R_lt (lZR HO_328001.out))) (below_size bZ))
   replace HO_313001 := aZ (Kd.R_elder' (lZR HO_313001.out) (Kd.R_base ho1) hb)
   replace HO_320001 := aZ (Kd.R_elder' (lZR HO_320001.out) (Kd.R_base ho1) hb)
   replace HO_328001 := aZ (Kd.R_elder' (lZR HO_328001.out) (Kd.R_base ho1) hb)
   replace BK297 := aZ (blk_below (bkZ BK297.out) hb)
   replace BK312 := aZ (blk_below (bkZ BK312.out) hb)
   replace BK319 := aZ (blk_below (bkZ BK319.out) hb)
   replace BK327 := aZ (blk_below (bkZ BK327.out) hb)
   replace HB := aZ (below_step bZ hb)
   (try clear hb)
   (try clear hb2)
   (try clear hk)
   (try clear hi)
   (try clear ho0)
   (try clear ho1)
   obtain ⟨Ao69, co69, eo69⟩ := Kd.R_slice HO331.out
   (first | subst eo69 | (injection eo69 with f1_ f2_ f3_; have f4_ := f1_.symm; have f5_ := f3_.symm; clear f1_ f2_ f3_; subst f4_; subst f5_))
   obtain ⟨Ao70, co70, eo70⟩ := Kd.R_slice HO334.out
   (first | subst eo70 | (injection eo70 with f1_ f2_ f3_; have f4_ := f1_.symm; have f5_ := f3_.symm; clear f1_ f2_ f3_; subst f4_; subst f5_))
   refine hK.out _ _ ⟨(blk_cell BK319.out 0).trans rfl, (blk_cell BK319.out 1).trans rfl, (blk_cell BK297.out 0).trans rfl, (blk_cell BK297.out 1).trans rfl⟩ (fun hHeld => ?_)
   clear hK K
   refine norm_ (a' := ?_) ?_ ?_
   rotate_left
   ·show Act.put _ (some 51) _ = _
    simp only [Act.put, sZ1, sZ2, sZ3, i64_w, i32_w]
    rfl
   refine one_ (i := 3) (N := some 52) #[true, true, true, true, false] rfl rfl kZ (by decide) (fun K hK => ?_)
   refine goes_ Try.func17 kZ rfl #[.agg #[.slice Ao30 t313.length co30, .slice Ao34 t316.length co34], .agg #[.slice Ao69 t329.length co69, .slice Ao70 t332.length co70]] (by rfl) rfl rfl tZA ?_
   with_reducible refine (laws_eqRegister.calls kj12 _ _ t313 _ _ t316 _ _ t329 _ _ t332 true _ ?side1 ?side2 ?side3 ?side4 ?side5 ?side6 ?side7 ?side8 A63.out).mono ?_
   (case side1 => repeat (first | exact (Kd.R_reads' HO_320000.out).2.2 | (with_reducible refine Kd.C_alloc ?_ _) | (with_reducible refine Kd.C_drewN ?_ _) | (with_reducible refine Kd.C_drew ?_)))
   (case side2 => exact (Kd.R_reads' HO_320000.out).2.1)
   (case side3 => repeat (first | exact (Kd.R_reads' HO_320001.out).2.2 | (with_reducible refine Kd.C_alloc ?_ _) | (with_reducible refine Kd.C_drewN ?_ _) | (with_reducible refine Kd.C_drew ?_)))
   (case side4 => exact (Kd.R_reads' HO_320001.out).2.1)
   (case side5 => repeat (first | exact (Kd.R_reads' HO331.out).2.2 | (with_reducible refine Kd.C_alloc ?_ _) | (with_reducible refine Kd.C_drewN ?_ _) | (with_reducible refine Kd.C_drew ?_)))
   (case side6 => exact (Kd.R_reads' HO331.out).2.1)
   (case side7 => repeat (first | exact (Kd.R_reads' HO334.out).2.2 | (with_reducible refine Kd.C_alloc ?_ _) | (with_reducible refine Kd.C_drewN ?_ _) | (with_reducible refine Kd.C_drew ?_)))
   (case side8 => exact (Kd.R_reads' HO334.out).2.1)
   rintro e w71 ⟨rfl, hb⟩
   refine ⟨_, rfl, ?_⟩
   replace HO_313000 := aZ (Kd.R_below (lZR HO_313000.out) hb)
   replace HO_313001 := aZ (Kd.R_below (lZR HO_313001.out) hb)
   replace HO_320000 := aZ (Kd.R_below (lZR HO_320000.out) hb)
   replace HO_320001 := aZ (Kd.R_below (lZR HO_320001.out) hb)
   replace HO_328000 := aZ (Kd.R_below (lZR HO_328000.out) hb)
   replace HO_328001 := aZ (Kd.R_below (lZR HO_328001.out) hb)
   replace HO331 := aZ (Kd.R_below (lZR HO331.out) hb)
   replace HO334 := aZ (Kd.R_below (lZR HO334.out) hb)
   replace BK297 := aZ (blk_below (bkZ BK297.out) hb)
   replace BK312 := aZ (blk_below (bkZ BK312.out) hb)
   replace BK319 := aZ (blk_below (bkZ BK319.out) hb)
   replace BK327 := aZ (blk_below (bkZ BK327.out) hb)
   replace HB := aZ (below_step bZ hb)
   (try clear hb)
   (try clear hb2)
   (try clear hk)
   (try clear hi)
   refine hK.out _ _ ⟨(blk_cell BK319.out 0).trans rfl, (blk_cell BK319.out 1).trans rfl, (blk_cell BK297.out 0).trans rfl, (blk_cell BK297.out 1).trans rfl⟩ (fun hHeld => ?_)
   clear hK K
   refine norm_ (a' := ?_) ?_ ?_
   rotate_left
   ·show Act.put _ (some 52) _ = _
    simp only [Act.put, sZ1, sZ2, sZ3, i64_w, i32_w]
    rfl
   refine pure_ (i := 4) (N := some 53) (v := ?_) (a' := ?_) #[true, true, true, true, true] rfl rfl kZ (fun _ _ _ h => h) (Or.inl ⟨by rfl, ?_⟩) ?_ ?_
   rotate_left
   ·intro w'
    go_simp
    with_reducible rfl
   rotate_left
   ·simp only [Act.put, sZ1, sZ2, sZ3, i64_w, i32_w]
    rfl
   refine done_ kZ ?_
   have hnb72 := NB319_297.out
   have hnc72 := NB297_319.out
   have hnb73 := NB319_312.out
   have hnc73 := NB312_319.out
   have hnb74 := NB319_327.out
   have hnc74 := NB327_319.out
   have hcz75_0 : w71.cell? ⟨gb319, 0, none⟩ = some (.slice Ao30 t313.length co30) := (blk_cell BK319.out 0).trans rfl
   have hcz75_1 : w71.cell? ⟨gb319, 1, none⟩ = some (.slice Ao34 t316.length co34) := (blk_cell BK319.out 1).trans rfl
   have hfz75_0 := blk_frozen BK319.out 0
   have hfz75_1 := blk_frozen BK319.out 1
   go_upto_region 14 with (first | ((with_reducible refine gate_callee (f := 18) rfl ?_); refine goesL_ (some 56) rfl rfl Try.func18 kZ rfl #[.agg #[.slice Ao30 t313.length co30, .slice Ao34 t316.length co34], .int .i64 1] rfl tZA ?_; (with_reducible refine (laws_markRegister.calls kj12 (fun k_ => some k_ = (.slice Ao30 t313.length co30 : Value).ownBlock) (.slice Ao30 t313.length co30) t313 (fun k_ => some k_ = (.slice Ao34 t316.length co34 : Value).ownBlock) (.slice Ao34 t316.length co34) t316 1 t336 t337 t338 w _ ?side1 ?side2 ?side3 A65.out).mono ?_); (case side1 => repeat (first | (with_reducible first | exact HB.out | apply below_alloc | apply pw_below_drewN | apply below_drew1 | refine below_set ?_ GE297.out | refine below_set ?_ GE312.out | refine below_set ?_ GE319.out | refine below_set ?_ GE327.out) | exact HB.out)); (case side2 => exact Kd.R_tight rfl HO_320000.out); (case side3 => exact Kd.R_tight rfl HO_320001.out); rintro e w76 ⟨rfl, hy0, hy1, hb, hkp⟩; refine ⟨_, rfl, ?_⟩; replace HO_313000 := aZ (Kd.R_mono (ok' := fun k_ => some k_ ≠ (.slice Ao30 t313.length co30 : Value).ownBlock ∧ some k_ ≠ (.slice Ao37 t320.length co37 : Value).ownBlock ∧ some k_ ≠ (.slice Ao69 t329.length co69 : Value).ownBlock) (Kd.R_keptB ((Kd.R_apart' HO_313000.out (Kd.R_typed HO_320001.out) (by decide))) hkp (fun k_ hk_ hs_ => Or.elim hs_ (fun e_ => (hk_.1.1.1) e_) (fun e_ => (hk_.2) e_))) (fun k_ hk_ => ⟨hk_.1.1.1.1, hk_.1.1.1.2, hk_.1.1.2⟩)); replace HO_313001 := aZ (Kd.R_mono (ok' := fun k_ => some k_ ≠ (.slice Ao34 t316.length co34 : Value).ownBlock ∧ some k_ ≠ (.slice Ao42 t323.length co42 : Value).ownBlock ∧ some k_ ≠ (.slice Ao70 t332.length co70 : Value).ownBlock) (Kd.R_keptB ((Kd.R_apart' HO_313001.out (Kd.R_typed HO_320000.out) (by decide))) hkp (fun k_ hk_ hs_ => Or.elim hs_ (fun e_ => (hk_.2) e_) (fun e_ => (hk_.1.1.1) e_))) (fun k_ hk_ => ⟨hk_.1.1.1.1, hk_.1.1.1.2, hk_.1.1.2⟩)); replace HO_328000 := aZ (Kd.R_mono (ok' := fun k_ => some k_ ≠ (.slice Ao23 t305.length co23 : Value).ownBlock ∧ some k_ ≠ (.slice Ao30 t313.length co30 : Value).ownBlock ∧ some k_ ≠ (.slice Ao69 t329.length co69 : Value).ownBlock) (Kd.R_keptB ((Kd.R_apart' HO_328000.out (Kd.R_typed HO_320001.out) (by decide))) hkp (fun k_ hk_ hs_ => Or.elim hs_ (fun e_ => (hk_.1.1.2) e_) (fun e_ => (hk_.2) e_))) (fun k_ hk_ => ⟨hk_.1.1.1.1, hk_.1.1.1.2, hk_.1.1.2⟩)); replace HO_328001 := aZ (Kd.R_mono (ok' := fun k_ => some k_ ≠ (.slice Ao26 t308.length co26 : Value).ownBlock ∧ some k_ ≠ (.slice Ao34 t316.length co34 : Value).ownBlock ∧ some k_ ≠ (.slice Ao70 t332.length co70 : Value).ownBlock) (Kd.R_keptB ((Kd.R_apart' HO_328001.out (Kd.R_typed HO_320000.out) (by decide))) hkp (fun k_ hk_ hs_ => Or.elim hs_ (fun e_ => (hk_.2) e_) (fun e_ => (hk_.1.1.2) e_))) (fun k_ hk_ => ⟨hk_.1.1.1.1, hk_.1.1.1.2, hk_.1.1.2⟩)); replace BK297 := aZ (blk_kept (bkZ BK297.out) hkp (fun hs_ => Or.elim hs_ (fun e_ => (fun e_ => (Kd.R_ne HO_320000.out BK297.out (by decide)) e_) e_) (fun e_ => (fun e_ => (Kd.R_ne HO_320001.out BK297.out (by decide)) e_) e_))); replace BK312 := aZ (blk_kept (bkZ BK312.out) hkp (fun hs_ => Or.elim hs_ (fun e_ => (fun e_ => (Kd.R_ne HO_320000.out BK312.out (by decide)) e_) e_) (fun e_ => (fun e_ => (Kd.R_ne HO_320001.out BK312.out (by decide)) e_) e_))); replace BK319 := aZ (blk_kept (bkZ BK319.out) hkp (fun hs_ => Or.elim hs_ (fun e_ => (fun e_ => (Kd.R_ne HO_320000.out BK319.out (by decide)) e_) e_) (fun e_ => (fun e_ => (Kd.R_ne HO_320001.out BK319.out (by decide)) e_) e_))); replace BK327 := aZ (blk_kept (bkZ BK327.out) hkp (fun hs_ => Or.elim hs_ (fun e_ => (fun e_ => (Kd.R_ne HO_320000.out BK327.out (by decide)) e_) e_) (fun e_ => (fun e_ => (Kd.R_ne HO_320001.out BK327.out (by decide)) e_) e_))); replace HO331 := aZ (Kd.R_mono (ok' := fun k_ => some k_ ≠ (.slice Ao23 t305.length co23 : Value).ownBlock ∧ some k_ ≠ (.slice Ao30 t313.length co30 : Value).ownBlock ∧ some k_ ≠ (.slice Ao37 t320.length co37 : Value).ownBlock) (Kd.R_keptB ((Kd.R_apart' HO331.out (Kd.R_typed HO_320001.out) (by decide))) hkp (fun k_ hk_ hs_ => Or.elim hs_ (fun e_ => (hk_.1.1.2) e_) (fun e_ => (hk_.2) e_))) (fun k_ hk_ => ⟨hk_.1.1.1.1.2, hk_.1.1.1.2, hk_.1.1.2⟩)); replace HO_320001 := aZ (Kd.R_reok rfl hy1 (fun k_ e_ => HO_320001.out.1 k_ e_)); replace HO334 := aZ (Kd.R_mono (ok' := fun k_ => some k_ ≠ (.slice Ao26 t308.length co26 : Value).ownBlock ∧ some k_ ≠ (.slice Ao34 t316.length co34 : Value).ownBlock ∧ some k_ ≠ (.slice Ao42 t323.length co42 : Value).ownBlock) (Kd.R_keptB ((Kd.R_apart' HO334.out (Kd.R_typed HO_320000.out) (by decide))) hkp (fun k_ hk_ hs_ => Or.elim hs_ (fun e_ => (hk_.2) e_) (fun e_ => (hk_.1.1.2) e_))) (fun k_ hk_ => ⟨hk_.1.1.1.1.2, hk_.1.1.1.2, hk_.1.1.2⟩)); replace HO_320000 := aZ (Kd.R_reok rfl hy0 (fun k_ e_ => HO_320000.out.1 k_ e_)); replace HB := aZ (hb); (try clear hb); (try clear hkp); (try clear hy0); (try clear hy1)))
   (try simp only [Act.put, sZ1, sZ2, sZ3])
   go_cut [69] (fun v69 wc => ∃ (kq : Nat) (x69_65 : Bool), v69 = .bool x69_65 ∧ Aside0 (laws_FnExactIssue.j1 kq a1 a2 t311 x69_65 l0_0 l0_1 t305 t308 t320 t323 = some r) ∧ Aside0 (kq ≤ kj12) ∧ Aside0 (Kd.R k124 124 wc w.heap.size (fun k_ => some k_ ≠ ((.slice Ao30 t313.length co30) : Value).ownBlock ∧ some k_ ≠ ((.slice Ao37 t320.length co37) : Value).ownBlock) (.slice Ao23 t305.length co23) t305) ∧ Aside0 (Kd.R k120 120 wc w.heap.size (fun k_ => some k_ ≠ ((.slice Ao34 t316.length co34) : Value).ownBlock ∧ some k_ ≠ ((.slice Ao42 t323.length co42) : Value).ownBlock) (.slice Ao26 t308.length co26) t308) ∧ Aside0 (Kd.R k124 124 wc w.heap.size (fun k_ => some k_ ≠ ((.slice Ao23 t305.length co23) : Value).ownBlock ∧ some k_ ≠ ((.slice Ao37 t320.length co37) : Value).ownBlock) (.slice Ao30 t313.length co30) t337) ∧ Aside0 (Kd.R k120 120 wc w.heap.size (fun k_ => some k_ ≠ ((.slice Ao26 t308.length co26) : Value).ownBlock ∧ some k_ ≠ ((.slice Ao42 t323.length co42) : Value).ownBlock) (.slice Ao34 t316.length co34) t338) ∧ Aside0 (Kd.R k124 124 wc w.heap.size (fun k_ => some k_ ≠ ((.slice Ao23 t305.length co23) : Value).ownBlock ∧ some k_ ≠ ((.slice Ao30 t313.length co30) : Value).ownBlock) (.slice Ao37 t320.length co37) t320) ∧ Aside0 (Kd.R k120 120 wc w.heap.size (fun k_ => some k_ ≠ ((.slice Ao26 t308.length co26) : Value).ownBlock ∧ some k_ ≠ ((.slice Ao34 t316.length co34) : Value).ownBlock) (.slice Ao42 t323.length co42) t323) ∧ Aside0 (wc.heap[gb297]? = some (.cells #[(.slice A0_0 l0_0.length c0_0), (.slice A0_1 l0_1.length c0_1)] 25 (0, 0))) ∧ Aside0 (wc.heap[gb312]? = some (.cells #[(.slice Ao23 t305.length co23), (.slice Ao26 t308.length co26)] 30 (0, 0))) ∧ Aside0 (wc.heap[gb319]? = some (.cells #[(.slice Ao30 t313.length co30), (.slice Ao34 t316.length co34)] 30 (0, 0))) ∧ Aside0 (wc.heap[gb327]? = some (.cells #[(.slice Ao37 t320.length co37), (.slice Ao42 t323.length co42)] 30 (0, 0))) ∧ Aside0 (Below w.heap.size w wc))
   case first =>
    have H := HC66.out
    clear HC66
    by_cases c77 : t336 < 0
    ·rw [if_pos c77] at H
     have c77b0 := decide_eq_true c77
     clear c77
     (first | rw [c77b0] | (simp only [i64_w, i32_w]; rw [c77b0]) | skip)
     have H' := Aside0.mk H
     clear H
     go_wp2
     go_meet
     case rel => exact ⟨_, (true), tZB, H', ⟨by have := HJ12.out; first | omega | exact Nat.le_refl _⟩, ⟨by (with_reducible repeat (first | apply Kd.R_alloc | apply Kd.R_drewN | apply Kd.R_drew)); exact Kd.R_mono HO_313000.out (fun _ hk => ⟨hk.1, hk.2.1⟩)⟩, ⟨by (with_reducible repeat (first | apply Kd.R_alloc | apply Kd.R_drewN | apply Kd.R_drew)); exact Kd.R_mono HO_313001.out (fun _ hk => ⟨hk.1, hk.2.1⟩)⟩, ⟨by (with_reducible repeat (first | apply Kd.R_alloc | apply Kd.R_drewN | apply Kd.R_drew)); exact Kd.R_mono HO_320000.out (fun _ hk => ⟨hk.1.1, hk.1.2⟩)⟩, ⟨by (with_reducible repeat (first | apply Kd.R_alloc | apply Kd.R_drewN | apply Kd.R_drew)); exact Kd.R_mono HO_320001.out (fun _ hk => ⟨hk.1.1, hk.1.2⟩)⟩, ⟨by (with_reducible repeat (first | apply Kd.R_alloc | apply Kd.R_drewN | apply Kd.R_drew)); exact Kd.R_mono HO_328000.out (fun _ hk => ⟨hk.1, hk.2.1⟩)⟩, ⟨by (with_reducible repeat (first | apply Kd.R_alloc | apply Kd.R_drewN | apply Kd.R_drew)); exact Kd.R_mono HO_328001.out (fun _ hk => ⟨hk.1, hk.2.1⟩)⟩, ⟨bkZ BK297.out⟩, ⟨bkZ BK312.out⟩, ⟨bkZ BK319.out⟩, ⟨bkZ BK327.out⟩, ⟨bZ⟩⟩
    rw [if_neg c77] at H
    have c77b0 := decide_eq_false c77
    clear c77
    (first | rw [c77b0] | (simp only [i64_w, i32_w]; rw [c77b0]) | skip)
    replace H := Option.bind_eq_some_iff.mp H
    obtain ⟨t339, A780, H⟩ := H
    replace H : (if t339 = true then (laws_FnExactIssue.j1 kj12 a1 a2 t311 (t326 != t311) l0_0 l0_1 t305 t308 t320 t323) else (laws_FnExactIssue.j1 kj12 a1 a2 t311 true l0_0 l0_1 t305 t308 t320 t323)) = some r := H
    have A78 := Aside0.mk A780
    clear A780
    by_cases c79 : t339 = true
    ·subst c79
     have H1 : (laws_FnExactIssue.j1 kj12 a1 a2 t311 (t326 != t311) l0_0 l0_1 t305 t308 t320 t323) = some r := by rw [if_pos rfl] at H; exact H
     clear H
     have H := H1
     clear H1
     have H' := Aside0.mk H
     clear H
     have hnb80 := NB327_297.out
     have hnc80 := NB297_327.out
     have hnb81 := NB327_312.out
     have hnc81 := NB312_327.out
     have hnb82 := NB327_319.out
     have hnc82 := NB319_327.out
     have hcz83_0 : w76.cell? ⟨gb327, 0, none⟩ = some (.slice Ao37 t320.length co37) := (blk_cell BK327.out 0).trans rfl
     have hcz83_1 : w76.cell? ⟨gb327, 1, none⟩ = some (.slice Ao42 t323.length co42) := (blk_cell BK327.out 1).trans rfl
     have hfz83_0 := blk_frozen BK327.out 0
     have hfz83_1 := blk_frozen BK327.out 1
     have hnb84 := NB312_297.out
     have hnc84 := NB297_312.out
     have hnb85 := NB312_319.out
     have hnc85 := NB319_312.out
     have hcz86_0 : w76.cell? ⟨gb312, 0, none⟩ = some (.slice Ao23 t305.length co23) := (blk_cell BK312.out 0).trans rfl
     have hcz86_1 : w76.cell? ⟨gb312, 1, none⟩ = some (.slice Ao26 t308.length co26) := (blk_cell BK312.out 1).trans rfl
     have hfz86_0 := blk_frozen BK312.out 0
     have hfz86_1 := blk_frozen BK312.out 1
     go_wp2_with (first | (go_at_call 17; (with_reducible refine (laws_eqRegister.calls kj12 _ _ t320 _ _ t323 _ _ t305 _ _ t308 true _ ?side1 ?side2 ?side3 ?side4 ?side5 ?side6 ?side7 ?side8 A78.out).mono ?_); (case side1 => repeat (first | exact (Kd.R_reads' HO_328000.out).2.2 | (with_reducible refine Kd.C_alloc ?_ _) | (with_reducible refine Kd.C_drewN ?_ _) | (with_reducible refine Kd.C_drew ?_))); (case side2 => exact (Kd.R_reads' HO_328000.out).2.1); (case side3 => repeat (first | exact (Kd.R_reads' HO_328001.out).2.2 | (with_reducible refine Kd.C_alloc ?_ _) | (with_reducible refine Kd.C_drewN ?_ _) | (with_reducible refine Kd.C_drew ?_))); (case side4 => exact (Kd.R_reads' HO_328001.out).2.1); (case side5 => repeat (first | exact (Kd.R_reads' HO_313000.out).2.2 | (with_reducible refine Kd.C_alloc ?_ _) | (with_reducible refine Kd.C_drewN ?_ _) | (with_reducible refine Kd.C_drew ?_))); (case side6 => exact (Kd.R_reads' HO_313000.out).2.1); (case side7 => repeat (first | exact (Kd.R_reads' HO_313001.out).2.2 | (with_reducible refine Kd.C_alloc ?_ _) | (with_reducible refine Kd.C_drewN ?_ _) | (with_reducible refine Kd.C_drew ?_))); (case side8 => exact (Kd.R_reads' HO_313001.out).2.1); rintro e w87 ⟨rfl, hb⟩; replace HO_313000 := aZ (Kd.R_below (lZR HO_313000.out) hb); replace HO_313001 := aZ (Kd.R_below (lZR HO_313001.out) hb); replace HO_320000 := aZ (Kd.R_below (lZR HO_320000.out) hb); replace HO_320001 := aZ (Kd.R_below (lZR HO_320001.out) hb); replace HO_328000 := aZ (Kd.R_below (lZR HO_328000.out) hb); replace HO_328001 := aZ (Kd.R_below (lZR HO_328001.out) hb); replace HO331 := aZ (Kd.R_below (lZR HO331.out) hb); replace HO334 := aZ (Kd.R_below (lZR HO334.out) hb); replace BK297 := aZ (blk_below (bkZ BK297.out) hb); replace BK312 := aZ (blk_below (bkZ BK312.out) hb); replace BK319 := aZ (blk_below (bkZ BK319.out) hb); replace BK327 := aZ (blk_below (bkZ BK327.out) hb); replace HB := aZ (below_step bZ hb); (try clear hb); (try clear hb2); (try clear hk); (try clear hi)))
     go_meet
     case rel => exact ⟨_, ((t326 != t311)), tZB, H', ⟨by have := HJ12.out; first | omega | exact Nat.le_refl _⟩, ⟨by (with_reducible repeat (first | apply Kd.R_alloc | apply Kd.R_drewN | apply Kd.R_drew)); exact Kd.R_mono HO_313000.out (fun _ hk => ⟨hk.1, hk.2.1⟩)⟩, ⟨by (with_reducible repeat (first | apply Kd.R_alloc | apply Kd.R_drewN | apply Kd.R_drew)); exact Kd.R_mono HO_313001.out (fun _ hk => ⟨hk.1, hk.2.1⟩)⟩, ⟨by (with_reducible repeat (first | apply Kd.R_alloc | apply Kd.R_drewN | apply Kd.R_drew)); exact Kd.R_mono HO_320000.out (fun _ hk => ⟨hk.1.1, hk.1.2⟩)⟩, ⟨by (with_reducible repeat (first | apply Kd.R_alloc | apply Kd.R_drewN | apply Kd.R_drew)); exact Kd.R_mono HO_320001.out (fun _ hk => ⟨hk.1.1, hk.1.2⟩)⟩, ⟨by (with_reducible repeat (first | apply Kd.R_alloc | apply Kd.R_drewN | apply Kd.R_drew)); exact Kd.R_mono HO_328000.out (fun _ hk => ⟨hk.1, hk.2.1⟩)⟩, ⟨by (with_reducible repeat (first | apply Kd.R_alloc | apply Kd.R_drewN | apply Kd.R_drew)); exact Kd.R_mono HO_328001.out (fun _ hk => ⟨hk.1, hk.2.1⟩)⟩, ⟨bkZ BK297.out⟩, ⟨bkZ BK312.out⟩, ⟨bkZ BK319.out⟩, ⟨bkZ BK327.out⟩, ⟨bZ⟩⟩
    replace c79 := Bool.eq_false_iff.mpr c79
    subst c79
    have H1 : (laws_FnExactIssue.j1 kj12 a1 a2 t311 true l0_0 l0_1 t305 t308 t320 t323) = some r := by rw [if_neg (show ¬ (false = true) by decide)] at H; exact H
    clear H
    have H := H1
    clear H1
    have H' := Aside0.mk H
    clear H
    have hnb88 := NB327_297.out
    have hnc88 := NB297_327.out
    have hnb89 := NB327_312.out
    have hnc89 := NB312_327.out
    have hnb90 := NB327_319.out
    have hnc90 := NB319_327.out
    have hcz91_0 : w76.cell? ⟨gb327, 0, none⟩ = some (.slice Ao37 t320.length co37) := (blk_cell BK327.out 0).trans rfl
    have hcz91_1 : w76.cell? ⟨gb327, 1, none⟩ = some (.slice Ao42 t323.length co42) := (blk_cell BK327.out 1).trans rfl
    have hfz91_0 := blk_frozen BK327.out 0
    have hfz91_1 := blk_frozen BK327.out 1
    have hnb92 := NB312_297.out
    have hnc92 := NB297_312.out
    have hnb93 := NB312_319.out
    have hnc93 := NB319_312.out
    have hcz94_0 : w76.cell? ⟨gb312, 0, none⟩ = some (.slice Ao23 t305.length co23) := (blk_cell BK312.out 0).trans rfl
    have hcz94_1 : w76.cell? ⟨gb312, 1, none⟩ = some (.slice Ao26 t308.length co26) := (blk_cell BK312.out 1).trans rfl
    have hfz94_0 := blk_frozen BK312.out 0
    have hfz94_1 := blk_frozen BK312.out 1
    go_wp2_with (first | (go_at_call 17; (with_reducible refine (laws_eqRegister.calls kj12 _ _ t320 _ _ t323 _ _ t305 _ _ t308 false _ ?side1 ?side2 ?side3 ?side4 ?side5 ?side6 ?side7 ?side8 A78.out).mono ?_); (case side1 => repeat (first | exact (Kd.R_reads' HO_328000.out).2.2 | (with_reducible refine Kd.C_alloc ?_ _) | (with_reducible refine Kd.C_drewN ?_ _) | (with_reducible refine Kd.C_drew ?_))); (case side2 => exact (Kd.R_reads' HO_328000.out).2.1); (case side3 => repeat (first | exact (Kd.R_reads' HO_328001.out).2.2 | (with_reducible refine Kd.C_alloc ?_ _) | (with_reducible refine Kd.C_drewN ?_ _) | (with_reducible refine Kd.C_drew ?_))); (case side4 => exact (Kd.R_reads' HO_328001.out).2.1); (case side5 => repeat (first | exact (Kd.R_reads' HO_313000.out).2.2 | (with_reducible refine Kd.C_alloc ?_ _) | (with_reducible refine Kd.C_drewN ?_ _) | (with_reducible refine Kd.C_drew ?_))); (case side6 => exact (Kd.R_reads' HO_313000.out).2.1); (case side7 => repeat (first | exact (Kd.R_reads' HO_313001.out).2.2 | (with_reducible refine Kd.C_alloc ?_ _) | (with_reducible refine Kd.C_drewN ?_ _) | (with_reducible refine Kd.C_drew ?_))); (case side8 => exact (Kd.R_reads' HO_313001.out).2.1); rintro e w95 ⟨rfl, hb⟩; replace HO_313000 := aZ (Kd.R_below (lZR HO_313000.out) hb); replace HO_313001 := aZ (Kd.R_below (lZR HO_313001.out) hb); replace HO_320000 := aZ (Kd.R_below (lZR HO_320000.out) hb); replace HO_320001 := aZ (Kd.R_below (lZR HO_320001.out) hb); replace HO_328000 := aZ (Kd.R_below (lZR HO_328000.out) hb); replace HO_328001 := aZ (Kd.R_below (lZR HO_328001.out) hb); replace HO331 := aZ (Kd.R_below (lZR HO331.out) hb); replace HO334 := aZ (Kd.R_below (lZR HO334.out) hb); replace BK297 := aZ (blk_below (bkZ BK297.out) hb); replace BK312 := aZ (blk_below (bkZ BK312.out) hb); replace BK319 := aZ (blk_below (bkZ BK319.out) hb); replace BK327 := aZ (blk_below (bkZ BK327.out) hb); replace HB := aZ (below_step bZ hb); (try clear hb); (try clear hb2); (try clear hk); (try clear hi)))
    go_meet
    case rel => exact ⟨_, (true), tZB, H', ⟨by have := HJ12.out; first | omega | exact Nat.le_refl _⟩, ⟨by (with_reducible repeat (first | apply Kd.R_alloc | apply Kd.R_drewN | apply Kd.R_drew)); exact Kd.R_mono HO_313000.out (fun _ hk => ⟨hk.1, hk.2.1⟩)⟩, ⟨by (with_reducible repeat (first | apply Kd.R_alloc | apply Kd.R_drewN | apply Kd.R_drew)); exact Kd.R_mono HO_313001.out (fun _ hk => ⟨hk.1, hk.2.1⟩)⟩, ⟨by (with_reducible repeat (first | apply Kd.R_alloc | apply Kd.R_drewN | apply Kd.R_drew)); exact Kd.R_mono HO_320000.out (fun _ hk => ⟨hk.1.1, hk.1.2⟩)⟩, ⟨by (with_reducible repeat (first | apply Kd.R_alloc | apply Kd.R_drewN | apply Kd.R_drew)); exact Kd.R_mono HO_320001.out (fun _ hk => ⟨hk.1.1, hk.1.2⟩)⟩, ⟨by (with_reducible repeat (first | apply Kd.R_alloc | apply Kd.R_drewN | apply Kd.R_drew)); exact Kd.R_mono HO_328000.out (fun _ hk => ⟨hk.1, hk.2.1⟩)⟩, ⟨by (with_reducible repeat (first | apply Kd.R_alloc | apply Kd.R_drewN | apply Kd.R_drew)); exact Kd.R_mono HO_328001.out (fun _ hk => ⟨hk.1, hk.2.1⟩)⟩, ⟨bkZ BK297.out⟩, ⟨bkZ BK312.out⟩, ⟨bkZ BK319.out⟩, ⟨bkZ BK327.out⟩, ⟨bZ⟩⟩
   case rest =>
    clear HC66
    try clear c1
    try clear c2
    try clear p2
    try clear c3
    try clear c4
    try clear c5
    try clear c5b0
    try clear c6
    try clear c7
    try clear c8
    try clear c9
    try clear c13
    try clear c14
    try clear c15
    try clear c16
    try clear c17
    try clear c18
    try clear c24
    try clear c31
    try clear c32
    try clear c38
    try clear c39
    try clear c40
    try clear c44
    try clear c45
    try clear c46
    try clear c47
    try clear c49
    try clear c50
    try clear c53
    try clear c54
    try clear c55
    try clear c57
    try clear c58
    try clear c61
    try clear c64
    try clear c72
    try clear c73
    try clear c74
    try clear c77
    try clear c77b0
    try clear c79
    try clear c80
    try clear c81
    try clear c82
    try clear c84
    try clear c85
    try clear c88
    try clear c89
    try clear c90
    try clear c92
    try clear c93
    try clear hcz15_0
    try clear hcz15_1
    try clear hcz17_0
    try clear hcz17_1
    try clear hcz25_0
    try clear hcz25_1
    try clear hcz27_0
    try clear hcz27_1
    try clear hcz33_0
    try clear hcz33_1
    try clear hcz41_0
    try clear hcz41_1
    try clear hcz48_0
    try clear hcz48_1
    try clear hcz51_0
    try clear hcz51_1
    try clear hcz56_0
    try clear hcz56_1
    try clear hcz59_0
    try clear hcz59_1
    try clear hcz75_0
    try clear hcz75_1
    try clear hcz7_0
    try clear hcz7_1
    try clear hcz83_0
    try clear hcz83_1
    try clear hcz86_0
    try clear hcz86_1
    try clear hcz91_0
    try clear hcz91_1
    try clear hcz94_0
    try clear hcz94_1
    try clear hfz15_0
    try clear hfz15_1
    try clear hfz17_0
    try clear hfz17_1
    try clear hfz25_0
    try clear hfz25_1
    try clear hfz27_0
    try clear hfz27_1
    try clear hfz33_0
    try clear hfz33_1
    try clear hfz41_0
    try clear hfz41_1
    try clear hfz48_0
    try clear hfz48_1
    try clear hfz51_0
    try clear hfz51_1
    try clear hfz56_0
    try clear hfz56_1
    try clear hfz59_0
    try clear hfz59_1
    try clear hfz75_0
    try clear hfz75_1
    try clear hfz7_0
    try clear hfz7_1
    try clear hfz83_0
    try clear hfz83_1
    try clear hfz86_0
    try clear hfz86_1
    try clear hfz91_0
    try clear hfz91_1
    try clear hfz94_0
    try clear hfz94_1
    try clear p2
    obtain ⟨kq, x69_65, rfl, HA, HJ65, HO_313000, HO_313001, HO_320000, HO_320001, HO_328000, HO_328001, BK297, BK312, BK319, BK327, HB⟩ := hcut
    have hl320000_65 := (Kd.R_reads' HO_320000.out).1
    rw [hl320000_65] at HO_320000
    (try simp only [hl320000_65])
    (try simp only [hl320000_65] at BK297)
    (try simp only [hl320000_65] at BK312)
    (try simp only [hl320000_65] at BK319)
    (try simp only [hl320000_65] at BK327)
    (try simp only [hl320000_65] at HO_313000)
    (try simp only [hl320000_65] at HO_313001)
    (try simp only [hl320000_65] at HO_320001)
    (try simp only [hl320000_65] at HO_328000)
    (try simp only [hl320000_65] at HO_328001)
    have hl320001_65 := (Kd.R_reads' HO_320001.out).1
    rw [hl320001_65] at HO_320001
    (try simp only [hl320001_65])
    (try simp only [hl320001_65] at BK297)
    (try simp only [hl320001_65] at BK312)
    (try simp only [hl320001_65] at BK319)
    (try simp only [hl320001_65] at BK327)
    (try simp only [hl320001_65] at HO_313000)
    (try simp only [hl320001_65] at HO_313001)
    (try simp only [hl320001_65] at HO_320000)
    (try simp only [hl320001_65] at HO_328000)
    (try simp only [hl320001_65] at HO_328001)
    cases kq with
    | zero => exact absurd HA.out (by simp [laws_FnExactIssue.j1])
    | succ kj65 =>
     have H := HA.out
     clear HA
     simp only [laws_FnExactIssue.j1] at H
     by_cases c96 : x69_65 = true
     ·subst c96
      have H1 : (some false) = some r := by rw [if_pos rfl] at H; exact H
      clear H
      have H := H1
      clear H1
      obtain rfl := Option.some.inj H
      go_wp2
      go_ret
      exact ⟨tZC, bZ⟩
     replace c96 := Bool.eq_false_iff.mpr c96
     subst c96
     have H1 : ((laws_markRegister.f kj65 t320 t323 1).bind fun bt340 => ((laws_heldRegister.f kj65 bt340.2.1 bt340.2.2 1).bind fun t343 => (if t343 < 0 then (some false) else (if t343 = bt340.1 then ((laws_toRegister.f kj65 l0_0 l0_1).bind fun bt344 => ((impl_Issue.f kj65 bt344.1 bt344.2 a1 a2).bind fun bt350 => ((laws_eqRegister.f kj65 bt350.1 bt350.2.1 t305 t308).bind fun t358 => (if t358 = true then (laws_FnExactIssue.j2 kj65 bt340.1 (bt350.2.2 != t311) bt340.2.1 bt340.2.2) else (laws_FnExactIssue.j2 kj65 bt340.1 true bt340.2.1 bt340.2.2))))) else (some false))))) = some r := by rw [if_neg (show ¬ (false = true) by decide)] at H; exact H
     clear H
     have H := H1
     clear H1
     replace H := Option.bind_eq_some_iff.mp H
     obtain ⟨⟨t340, t341, t342⟩, A970, H⟩ := H
     replace H : ((laws_heldRegister.f kj65 t341 t342 1).bind fun t343 => (if t343 < 0 then (some false) else (if t343 = t340 then ((laws_toRegister.f kj65 l0_0 l0_1).bind fun bt344 => ((impl_Issue.f kj65 bt344.1 bt344.2 a1 a2).bind fun bt350 => ((laws_eqRegister.f kj65 bt350.1 bt350.2.1 t305 t308).bind fun t358 => (if t358 = true then (laws_FnExactIssue.j2 kj65 t340 (bt350.2.2 != t311) t341 t342) else (laws_FnExactIssue.j2 kj65 t340 true t341 t342))))) else (some false)))) = some r := H
     have A97 := Aside0.mk A970
     clear A970
     replace H := Option.bind_eq_some_iff.mp H
     obtain ⟨t343, A980, H⟩ := H
     replace H : (if t343 < 0 then (some false) else (if t343 = t340 then ((laws_toRegister.f kj65 l0_0 l0_1).bind fun bt344 => ((impl_Issue.f kj65 bt344.1 bt344.2 a1 a2).bind fun bt350 => ((laws_eqRegister.f kj65 bt350.1 bt350.2.1 t305 t308).bind fun t358 => (if t358 = true then (laws_FnExactIssue.j2 kj65 t340 (bt350.2.2 != t311) t341 t342) else (laws_FnExactIssue.j2 kj65 t340 true t341 t342))))) else (some false))) = some r := H
     have A98 := Aside0.mk A980
     clear A980
     by_cases c99 : t343 < 0
     ·rw [if_pos c99] at H
      have c99b0 := decide_eq_true c99
      clear c99
      obtain rfl := Option.some.inj H
      have hnb100 := NB327_297.out
      have hnc100 := NB297_327.out
      have hnb101 := NB327_312.out
      have hnc101 := NB312_327.out
      have hnb102 := NB327_319.out
      have hnc102 := NB319_327.out
      have hcz103_0 : wc.cell? ⟨gb327, 0, none⟩ = some (.slice Ao37 t320.length co37) := (blk_cell BK327.out 0).trans rfl
      have hcz103_1 : wc.cell? ⟨gb327, 1, none⟩ = some (.slice Ao42 t323.length co42) := (blk_cell BK327.out 1).trans rfl
      have hfz103_0 := blk_frozen BK327.out 0
      have hfz103_1 := blk_frozen BK327.out 1
      go_wp2_with (first | ((with_reducible refine gate_callee (f := 18) rfl ?_); refine goesL_ (some 72) rfl rfl Try.func18 kZ rfl #[.agg #[.slice Ao37 t320.length co37, .slice Ao42 t323.length co42], .int .i64 1] rfl tZA ?_; (with_reducible refine (laws_markRegister.calls kj65 (fun k_ => some k_ = (.slice Ao37 t320.length co37 : Value).ownBlock) (.slice Ao37 t320.length co37) t320 (fun k_ => some k_ = (.slice Ao42 t323.length co42 : Value).ownBlock) (.slice Ao42 t323.length co42) t323 1 t340 t341 t342 w _ ?side1 ?side2 ?side3 A97.out).mono ?_); (case side1 => repeat (first | (with_reducible first | exact HB.out | apply below_alloc | apply pw_below_drewN | apply below_drew1 | refine below_set ?_ GE297.out | refine below_set ?_ GE312.out | refine below_set ?_ GE319.out | refine below_set ?_ GE327.out) | exact HB.out)); (case side2 => exact Kd.R_tight rfl HO_328000.out); (case side3 => exact Kd.R_tight rfl HO_328001.out); rintro e w104 ⟨rfl, hy0, hy1, hb, hkp⟩; refine ⟨_, rfl, ?_⟩; replace HO_313000 := aZ (Kd.R_mono (ok' := fun k_ => some k_ ≠ (.slice Ao30 t337.length co30 : Value).ownBlock ∧ some k_ ≠ (.slice Ao37 t320.length co37 : Value).ownBlock) (Kd.R_keptB ((Kd.R_apart' HO_313000.out (Kd.R_typed HO_328001.out) (by decide))) hkp (fun k_ hk_ hs_ => Or.elim hs_ (fun e_ => (hk_.1.2) e_) (fun e_ => (hk_.2) e_))) (fun k_ hk_ => ⟨hk_.1.1.1, hk_.1.1.2⟩)); replace HO_313001 := aZ (Kd.R_mono (ok' := fun k_ => some k_ ≠ (.slice Ao34 t338.length co34 : Value).ownBlock ∧ some k_ ≠ (.slice Ao42 t323.length co42 : Value).ownBlock) (Kd.R_keptB ((Kd.R_apart' HO_313001.out (Kd.R_typed HO_328000.out) (by decide))) hkp (fun k_ hk_ hs_ => Or.elim hs_ (fun e_ => (hk_.2) e_) (fun e_ => (hk_.1.2) e_))) (fun k_ hk_ => ⟨hk_.1.1.1, hk_.1.1.2⟩)); replace HO_320000 := aZ (Kd.R_mono (ok' := fun k_ => some k_ ≠ (.slice Ao23 t305.length co23 : Value).ownBlock ∧ some k_ ≠ (.slice Ao37 t320.length co37 : Value).ownBlock) (Kd.R_keptB ((Kd.R_apart' HO_320000.out (Kd.R_typed HO_328001.out) (by decide))) hkp (fun k_ hk_ hs_ => Or.elim hs_ (fun e_ => (hk_.1.2) e_) (fun e_ => (hk_.2) e_))) (fun k_ hk_ => ⟨hk_.1.1.1, hk_.1.1.2⟩)); replace HO_320001 := aZ (Kd.R_mono (ok' := fun k_ => some k_ ≠ (.slice Ao26 t308.length co26 : Value).ownBlock ∧ some k_ ≠ (.slice Ao42 t323.length co42 : Value).ownBlock) (Kd.R_keptB ((Kd.R_apart' HO_320001.out (Kd.R_typed HO_328000.out) (by decide))) hkp (fun k_ hk_ hs_ => Or.elim hs_ (fun e_ => (hk_.2) e_) (fun e_ => (hk_.1.2) e_))) (fun k_ hk_ => ⟨hk_.1.1.1, hk_.1.1.2⟩)); replace BK297 := aZ (blk_kept (bkZ BK297.out) hkp (fun hs_ => Or.elim hs_ (fun e_ => (fun e_ => (Kd.R_ne HO_328000.out BK297.out (by decide)) e_) e_) (fun e_ => (fun e_ => (Kd.R_ne HO_328001.out BK297.out (by decide)) e_) e_))); replace BK312 := aZ (blk_kept (bkZ BK312.out) hkp (fun hs_ => Or.elim hs_ (fun e_ => (fun e_ => (Kd.R_ne HO_328000.out BK312.out (by decide)) e_) e_) (fun e_ => (fun e_ => (Kd.R_ne HO_328001.out BK312.out (by decide)) e_) e_))); replace BK319 := aZ (blk_kept (bkZ BK319.out) hkp (fun hs_ => Or.elim hs_ (fun e_ => (fun e_ => (Kd.R_ne HO_328000.out BK319.out (by decide)) e_) e_) (fun e_ => (fun e_ => (Kd.R_ne HO_328001.out BK319.out (by decide)) e_) e_))); replace BK327 := aZ (blk_kept (bkZ BK327.out) hkp (fun hs_ => Or.elim hs_ (fun e_ => (fun e_ => (Kd.R_ne HO_328000.out BK327.out (by decide)) e_) e_) (fun e_ => (fun e_ => (Kd.R_ne HO_328001.out BK327.out (by decide)) e_) e_))); replace HO_328000 := aZ (Kd.R_reok rfl hy0 (fun k_ e_ => HO_328000.out.1 k_ e_)); replace HO_328001 := aZ (Kd.R_reok rfl hy1 (fun k_ e_ => HO_328001.out.1 k_ e_)); replace HB := aZ (hb); (try clear hb); (try clear hkp); (try clear hy0); (try clear hy1); have hcz105_0 : w104.cell? ⟨gb327, 0, none⟩ = some (.slice Ao37 t320.length co37) := (blk_cell BK327.out 0).trans rfl; have hcz105_1 : w104.cell? ⟨gb327, 1, none⟩ = some (.slice Ao42 t323.length co42) := (blk_cell BK327.out 1).trans rfl; have hfz105_0 := blk_frozen BK327.out 0; have hfz105_1 := blk_frozen BK327.out 1) | ((with_reducible refine gate_callee (f := 19) rfl ?_); refine goesL_ (some 75) rfl rfl Try.func19 kZ rfl #[.agg #[.slice Ao37 t341.length co37, .slice Ao42 t342.length co42], .int .i64 1] rfl (by (try simp only [List.map_toArray, List.map_cons, List.map_nil]); first | done | (rw [show t341.length = t320.length from (Kd.R_reads' HO_328000.out).1.symm, show t342.length = t323.length from (Kd.R_reads' HO_328001.out).1.symm] <;> rfl) | rfl | (simp only [List.length_drop, List.length_take]; rfl)) ?_; (with_reducible refine (laws_heldRegister.calls kj65 _ _ t341 _ _ t342 1 t343 _ ?side1 ?side2 ?side3 ?side4 A98.out).mono ?_); (case side1 => repeat (first | exact (Kd.R_reads' HO_328000.out).2.2 | (with_reducible refine Kd.C_alloc ?_ _) | (with_reducible refine Kd.C_drewN ?_ _) | (with_reducible refine Kd.C_drew ?_))); (case side2 => rw [show t341.length = t320.length from (Kd.R_reads' HO_328000.out).1.symm]; exact (Kd.R_reads' HO_328000.out).2.1); (case side3 => repeat (first | exact (Kd.R_reads' HO_328001.out).2.2 | (with_reducible refine Kd.C_alloc ?_ _) | (with_reducible refine Kd.C_drewN ?_ _) | (with_reducible refine Kd.C_drew ?_))); (case side4 => rw [show t342.length = t323.length from (Kd.R_reads' HO_328001.out).1.symm]; exact (Kd.R_reads' HO_328001.out).2.1); rintro e w106 ⟨rfl, hb⟩; refine ⟨_, rfl, ?_⟩; replace HO_313000 := aZ (Kd.R_below (lZR HO_313000.out) hb); replace HO_313001 := aZ (Kd.R_below (lZR HO_313001.out) hb); replace HO_320000 := aZ (Kd.R_below (lZR HO_320000.out) hb); replace HO_320001 := aZ (Kd.R_below (lZR HO_320001.out) hb); replace HO_328000 := aZ (Kd.R_below (lZR HO_328000.out) hb); replace HO_328001 := aZ (Kd.R_below (lZR HO_328001.out) hb); replace BK297 := aZ (blk_below (bkZ BK297.out) hb); replace BK312 := aZ (blk_below (bkZ BK312.out) hb); replace BK319 := aZ (blk_below (bkZ BK319.out) hb); replace BK327 := aZ (blk_below (bkZ BK327.out) hb); replace HB := aZ (below_step bZ hb); (try clear hb); (try clear hb2); (try clear hk); (try clear hi)))
      go_ret
      exact ⟨tZC, bZ⟩
     rw [if_neg c99] at H
     have c99b0 := decide_eq_false c99
     clear c99
     by_cases c107 : t343 = t340
     rotate_left
     ·rw [if_neg c107] at H
      have c107b0 : (t343 == t340) = false := beq_eq_false_iff_ne.mpr c107
      have c107b1 : (t343 != t340) = true := bne_iff_ne.mpr c107
      obtain rfl := Option.some.inj H
      have hnb177 := NB327_297.out
      have hnc177 := NB297_327.out
      have hnb178 := NB327_312.out
      have hnc178 := NB312_327.out
      have hnb179 := NB327_319.out
      have hnc179 := NB319_327.out
      have hcz180_0 : wc.cell? ⟨gb327, 0, none⟩ = some (.slice Ao37 t320.length co37) := (blk_cell BK327.out 0).trans rfl
      have hcz180_1 : wc.cell? ⟨gb327, 1, none⟩ = some (.slice Ao42 t323.length co42) := (blk_cell BK327.out 1).trans rfl
      have hfz180_0 := blk_frozen BK327.out 0
      have hfz180_1 := blk_frozen BK327.out 1
      go_wp2_with (first | ((with_reducible refine gate_callee (f := 18) rfl ?_); refine goesL_ (some 72) rfl rfl Try.func18 kZ rfl #[.agg #[.slice Ao37 t320.length co37, .slice Ao42 t323.length co42], .int .i64 1] rfl tZA ?_; (with_reducible refine (laws_markRegister.calls kj65 (fun k_ => some k_ = (.slice Ao37 t320.length co37 : Value).ownBlock) (.slice Ao37 t320.length co37) t320 (fun k_ => some k_ = (.slice Ao42 t323.length co42 : Value).ownBlock) (.slice Ao42 t323.length co42) t323 1 t340 t341 t342 w _ ?side1 ?side2 ?side3 A97.out).mono ?_); (case side1 => repeat (first | (with_reducible first | exact HB.out | apply below_alloc | apply pw_below_drewN | apply below_drew1 | refine below_set ?_ GE297.out | refine below_set ?_ GE312.out | refine below_set ?_ GE319.out | refine below_set ?_ GE327.out) | exact HB.out)); (case side2 => exact Kd.R_tight rfl HO_328000.out); (case side3 => exact Kd.R_tight rfl HO_328001.out); rintro e w181 ⟨rfl, hy0, hy1, hb, hkp⟩; refine ⟨_, rfl, ?_⟩; replace HO_313000 := aZ (Kd.R_mono (ok' := fun k_ => some k_ ≠ (.slice Ao30 t337.length co30 : Value).ownBlock ∧ some k_ ≠ (.slice Ao37 t320.length co37 : Value).ownBlock) (Kd.R_keptB ((Kd.R_apart' HO_313000.out (Kd.R_typed HO_328001.out) (by decide))) hkp (fun k_ hk_ hs_ => Or.elim hs_ (fun e_ => (hk_.1.2) e_) (fun e_ => (hk_.2) e_))) (fun k_ hk_ => ⟨hk_.1.1.1, hk_.1.1.2⟩)); replace HO_313001 := aZ (Kd.R_mono (ok' := fun k_ => some k_ ≠ (.slice Ao34 t338.length co34 : Value).ownBlock ∧ some k_ ≠ (.slice Ao42 t323.length co42 : Value).ownBlock) (Kd.R_keptB ((Kd.R_apart' HO_313001.out (Kd.R_typed HO_328000.out) (by decide))) hkp (fun k_ hk_ hs_ => Or.elim hs_ (fun e_ => (hk_.2) e_) (fun e_ => (hk_.1.2) e_))) (fun k_ hk_ => ⟨hk_.1.1.1, hk_.1.1.2⟩)); replace HO_320000 := aZ (Kd.R_mono (ok' := fun k_ => some k_ ≠ (.slice Ao23 t305.length co23 : Value).ownBlock ∧ some k_ ≠ (.slice Ao37 t320.length co37 : Value).ownBlock) (Kd.R_keptB ((Kd.R_apart' HO_320000.out (Kd.R_typed HO_328001.out) (by decide))) hkp (fun k_ hk_ hs_ => Or.elim hs_ (fun e_ => (hk_.1.2) e_) (fun e_ => (hk_.2) e_))) (fun k_ hk_ => ⟨hk_.1.1.1, hk_.1.1.2⟩)); replace HO_320001 := aZ (Kd.R_mono (ok' := fun k_ => some k_ ≠ (.slice Ao26 t308.length co26 : Value).ownBlock ∧ some k_ ≠ (.slice Ao42 t323.length co42 : Value).ownBlock) (Kd.R_keptB ((Kd.R_apart' HO_320001.out (Kd.R_typed HO_328000.out) (by decide))) hkp (fun k_ hk_ hs_ => Or.elim hs_ (fun e_ => (hk_.2) e_) (fun e_ => (hk_.1.2) e_))) (fun k_ hk_ => ⟨hk_.1.1.1, hk_.1.1.2⟩)); replace BK297 := aZ (blk_kept (bkZ BK297.out) hkp (fun hs_ => Or.elim hs_ (fun e_ => (fun e_ => (Kd.R_ne HO_328000.out BK297.out (by decide)) e_) e_) (fun e_ => (fun e_ => (Kd.R_ne HO_328001.out BK297.out (by decide)) e_) e_))); replace BK312 := aZ (blk_kept (bkZ BK312.out) hkp (fun hs_ => Or.elim hs_ (fun e_ => (fun e_ => (Kd.R_ne HO_328000.out BK312.out (by decide)) e_) e_) (fun e_ => (fun e_ => (Kd.R_ne HO_328001.out BK312.out (by decide)) e_) e_))); replace BK319 := aZ (blk_kept (bkZ BK319.out) hkp (fun hs_ => Or.elim hs_ (fun e_ => (fun e_ => (Kd.R_ne HO_328000.out BK319.out (by decide)) e_) e_) (fun e_ => (fun e_ => (Kd.R_ne HO_328001.out BK319.out (by decide)) e_) e_))); replace BK327 := aZ (blk_kept (bkZ BK327.out) hkp (fun hs_ => Or.elim hs_ (fun e_ => (fun e_ => (Kd.R_ne HO_328000.out BK327.out (by decide)) e_) e_) (fun e_ => (fun e_ => (Kd.R_ne HO_328001.out BK327.out (by decide)) e_) e_))); replace HO_328000 := aZ (Kd.R_reok rfl hy0 (fun k_ e_ => HO_328000.out.1 k_ e_)); replace HO_328001 := aZ (Kd.R_reok rfl hy1 (fun k_ e_ => HO_328001.out.1 k_ e_)); replace HB := aZ (hb); (try clear hb); (try clear hkp); (try clear hy0); (try clear hy1); have hcz182_0 : w181.cell? ⟨gb327, 0, none⟩ = some (.slice Ao37 t320.length co37) := (blk_cell BK327.out 0).trans rfl; have hcz182_1 : w181.cell? ⟨gb327, 1, none⟩ = some (.slice Ao42 t323.length co42) := (blk_cell BK327.out 1).trans rfl; have hfz182_0 := blk_frozen BK327.out 0; have hfz182_1 := blk_frozen BK327.out 1) | ((with_reducible refine gate_callee (f := 19) rfl ?_); refine goesL_ (some 75) rfl rfl Try.func19 kZ rfl #[.agg #[.slice Ao37 t341.length co37, .slice Ao42 t342.length co42], .int .i64 1] rfl (by (try simp only [List.map_toArray, List.map_cons, List.map_nil]); first | done | (rw [show t341.length = t320.length from (Kd.R_reads' HO_328000.out).1.symm, show t342.length = t323.length from (Kd.R_reads' HO_328001.out).1.symm] <;> rfl) | rfl | (simp only [List.length_drop, List.length_take]; rfl)) ?_; (with_reducible refine (laws_heldRegister.calls kj65 _ _ t341 _ _ t342 1 t343 _ ?side1 ?side2 ?side3 ?side4 A98.out).mono ?_); (case side1 => repeat (first | exact (Kd.R_reads' HO_328000.out).2.2 | (with_reducible refine Kd.C_alloc ?_ _) | (with_reducible refine Kd.C_drewN ?_ _) | (with_reducible refine Kd.C_drew ?_))); (case side2 => rw [show t341.length = t320.length from (Kd.R_reads' HO_328000.out).1.symm]; exact (Kd.R_reads' HO_328000.out).2.1); (case side3 => repeat (first | exact (Kd.R_reads' HO_328001.out).2.2 | (with_reducible refine Kd.C_alloc ?_ _) | (with_reducible refine Kd.C_drewN ?_ _) | (with_reducible refine Kd.C_drew ?_))); (case side4 => rw [show t342.length = t323.length from (Kd.R_reads' HO_328001.out).1.symm]; exact (Kd.R_reads' HO_328001.out).2.1); rintro e w183 ⟨rfl, hb⟩; refine ⟨_, rfl, ?_⟩; replace HO_313000 := aZ (Kd.R_below (lZR HO_313000.out) hb); replace HO_313001 := aZ (Kd.R_below (lZR HO_313001.out) hb); replace HO_320000 := aZ (Kd.R_below (lZR HO_320000.out) hb); replace HO_320001 := aZ (Kd.R_below (lZR HO_320001.out) hb); replace HO_328000 := aZ (Kd.R_below (lZR HO_328000.out) hb); replace HO_328001 := aZ (Kd.R_below (lZR HO_328001.out) hb); replace BK297 := aZ (blk_below (bkZ BK297.out) hb); replace BK312 := aZ (blk_below (bkZ BK312.out) hb); replace BK319 := aZ (blk_below (bkZ BK319.out) hb); replace BK327 := aZ (blk_below (bkZ BK327.out) hb); replace HB := aZ (below_step bZ hb); (try clear hb); (try clear hb2); (try clear hk); (try clear hi)))
      go_ret
      exact ⟨tZC, bZ⟩
     rw [if_pos c107] at H
     have c107b0 : (t343 == t340) = true := beq_iff_eq.mpr c107
     have c107b1 : (t343 != t340) = false := bne_eq_false_iff_eq.mpr c107
     clear c107
     replace H := Option.bind_eq_some_iff.mp H
     obtain ⟨⟨t344, t347⟩, A1080, H⟩ := H
     replace H : ((impl_Issue.f kj65 t344 t347 a1 a2).bind fun bt350 => ((laws_eqRegister.f kj65 bt350.1 bt350.2.1 t305 t308).bind fun t358 => (if t358 = true then (laws_FnExactIssue.j2 kj65 t340 (bt350.2.2 != t311) t341 t342) else (laws_FnExactIssue.j2 kj65 t340 true t341 t342)))) = some r := H
     have A108 := Aside0.mk A1080
     clear A1080
     replace H := Option.bind_eq_some_iff.mp H
     obtain ⟨⟨t350, t353, t356⟩, A1090, H⟩ := H
     replace H : ((laws_eqRegister.f kj65 t350 t353 t305 t308).bind fun t358 => (if t358 = true then (laws_FnExactIssue.j2 kj65 t340 (t356 != t311) t341 t342) else (laws_FnExactIssue.j2 kj65 t340 true t341 t342))) = some r := H
     have A109 := Aside0.mk A1090
     clear A1090
     have HC110 := Aside0.mk H
     clear H
     have hnb111 := NB327_297.out
     have hnc111 := NB297_327.out
     have hnb112 := NB327_312.out
     have hnc112 := NB312_327.out
     have hnb113 := NB327_319.out
     have hnc113 := NB319_327.out
     have hcz114_0 : wc.cell? ⟨gb327, 0, none⟩ = some (.slice Ao37 t320.length co37) := (blk_cell BK327.out 0).trans rfl
     have hcz114_1 : wc.cell? ⟨gb327, 1, none⟩ = some (.slice Ao42 t323.length co42) := (blk_cell BK327.out 1).trans rfl
     have hfz114_0 := blk_frozen BK327.out 0
     have hfz114_1 := blk_frozen BK327.out 1
     go_upto_region 25 with (first | ((with_reducible refine gate_callee (f := 18) rfl ?_); refine goesL_ (some 72) rfl rfl Try.func18 kZ rfl #[.agg #[.slice Ao37 t320.length co37, .slice Ao42 t323.length co42], .int .i64 1] rfl tZA ?_; (with_reducible refine (laws_markRegister.calls kj65 (fun k_ => some k_ = (.slice Ao37 t320.length co37 : Value).ownBlock) (.slice Ao37 t320.length co37) t320 (fun k_ => some k_ = (.slice Ao42 t323.length co42 : Value).ownBlock) (.slice Ao42 t323.length co42) t323 1 t340 t341 t342 w _ ?side1 ?side2 ?side3 A97.out).mono ?_); (case side1 => repeat (first | (with_reducible first | exact HB.out | apply below_alloc | apply pw_below_drewN | apply below_drew1 | refine below_set ?_ GE297.out | refine below_set ?_ GE312.out | refine below_set ?_ GE319.out | refine below_set ?_ GE327.out) | exact HB.out)); (case side2 => exact Kd.R_tight rfl HO_328000.out); (case side3 => exact Kd.R_tight rfl HO_328001.out); rintro e w115 ⟨rfl, hy0, hy1, hb, hkp⟩; refine ⟨_, rfl, ?_⟩; replace HO_313000 := aZ (Kd.R_mono (ok' := fun k_ => some k_ ≠ (.slice Ao30 t337.length co30 : Value).ownBlock ∧ some k_ ≠ (.slice Ao37 t320.length co37 : Value).ownBlock) (Kd.R_keptB ((Kd.R_apart' HO_313000.out (Kd.R_typed HO_328001.out) (by decide))) hkp (fun k_ hk_ hs_ => Or.elim hs_ (fun e_ => (hk_.1.2) e_) (fun e_ => (hk_.2) e_))) (fun k_ hk_ => ⟨hk_.1.1.1, hk_.1.1.2⟩)); replace HO_313001 := aZ (Kd.R_mono (ok' := fun k_ => some k_ ≠ (.slice Ao34 t338.length co34 : Value).ownBlock ∧ some k_ ≠ (.slice Ao42 t323.length co42 : Value).ownBlock) (Kd.R_keptB ((Kd.R_apart' HO_313001.out (Kd.R_typed HO_328000.out) (by decide))) hkp (fun k_ hk_ hs_ => Or.elim hs_ (fun e_ => (hk_.2) e_) (fun e_ => (hk_.1.2) e_))) (fun k_ hk_ => ⟨hk_.1.1.1, hk_.1.1.2⟩)); replace HO_320000 := aZ (Kd.R_mono (ok' := fun k_ => some k_ ≠ (.slice Ao23 t305.length co23 : Value).ownBlock ∧ some k_ ≠ (.slice Ao37 t320.length co37 : Value).ownBlock) (Kd.R_keptB ((Kd.R_apart' HO_320000.out (Kd.R_typed HO_328001.out) (by decide))) hkp (fun k_ hk_ hs_ => Or.elim hs_ (fun e_ => (hk_.1.2) e_) (fun e_ => (hk_.2) e_))) (fun k_ hk_ => ⟨hk_.1.1.1, hk_.1.1.2⟩)); replace HO_320001 := aZ (Kd.R_mono (ok' := fun k_ => some k_ ≠ (.slice Ao26 t308.length co26 : Value).ownBlock ∧ some k_ ≠ (.slice Ao42 t323.length co42 : Value).ownBlock) (Kd.R_keptB ((Kd.R_apart' HO_320001.out (Kd.R_typed HO_328000.out) (by decide))) hkp (fun k_ hk_ hs_ => Or.elim hs_ (fun e_ => (hk_.2) e_) (fun e_ => (hk_.1.2) e_))) (fun k_ hk_ => ⟨hk_.1.1.1, hk_.1.1.2⟩)); replace BK297 := aZ (blk_kept (bkZ BK297.out) hkp (fun hs_ => Or.elim hs_ (fun e_ => (fun e_ => (Kd.R_ne HO_328000.out BK297.out (by decide)) e_) e_) (fun e_ => (fun e_ => (Kd.R_ne HO_328001.out BK297.out (by decide)) e_) e_))); replace BK312 := aZ (blk_kept (bkZ BK312.out) hkp (fun hs_ => Or.elim hs_ (fun e_ => (fun e_ => (Kd.R_ne HO_328000.out BK312.out (by decide)) e_) e_) (fun e_ => (fun e_ => (Kd.R_ne HO_328001.out BK312.out (by decide)) e_) e_))); replace BK319 := aZ (blk_kept (bkZ BK319.out) hkp (fun hs_ => Or.elim hs_ (fun e_ => (fun e_ => (Kd.R_ne HO_328000.out BK319.out (by decide)) e_) e_) (fun e_ => (fun e_ => (Kd.R_ne HO_328001.out BK319.out (by decide)) e_) e_))); replace BK327 := aZ (blk_kept (bkZ BK327.out) hkp (fun hs_ => Or.elim hs_ (fun e_ => (fun e_ => (Kd.R_ne HO_328000.out BK327.out (by decide)) e_) e_) (fun e_ => (fun e_ => (Kd.R_ne HO_328001.out BK327.out (by decide)) e_) e_))); replace HO_328000 := aZ (Kd.R_reok rfl hy0 (fun k_ e_ => HO_328000.out.1 k_ e_)); replace HO_328001 := aZ (Kd.R_reok rfl hy1 (fun k_ e_ => HO_328001.out.1 k_ e_)); replace HB := aZ (hb); (try clear hb); (try clear hkp); (try clear hy0); (try clear hy1); have hcz116_0 : w115.cell? ⟨gb327, 0, none⟩ = some (.slice Ao37 t320.length co37) := (blk_cell BK327.out 0).trans rfl; have hcz116_1 : w115.cell? ⟨gb327, 1, none⟩ = some (.slice Ao42 t323.length co42) := (blk_cell BK327.out 1).trans rfl; have hfz116_0 := blk_frozen BK327.out 0; have hfz116_1 := blk_frozen BK327.out 1) | ((with_reducible refine gate_callee (f := 19) rfl ?_); refine goesL_ (some 75) rfl rfl Try.func19 kZ rfl #[.agg #[.slice Ao37 t341.length co37, .slice Ao42 t342.length co42], .int .i64 1] rfl (by (try simp only [List.map_toArray, List.map_cons, List.map_nil]); first | done | (rw [show t341.length = t320.length from (Kd.R_reads' HO_328000.out).1.symm, show t342.length = t323.length from (Kd.R_reads' HO_328001.out).1.symm] <;> rfl) | rfl | (simp only [List.length_drop, List.length_take]; rfl)) ?_; (with_reducible refine (laws_heldRegister.calls kj65 _ _ t341 _ _ t342 1 t343 _ ?side1 ?side2 ?side3 ?side4 A98.out).mono ?_); (case side1 => repeat (first | exact (Kd.R_reads' HO_328000.out).2.2 | (with_reducible refine Kd.C_alloc ?_ _) | (with_reducible refine Kd.C_drewN ?_ _) | (with_reducible refine Kd.C_drew ?_))); (case side2 => rw [show t341.length = t320.length from (Kd.R_reads' HO_328000.out).1.symm]; exact (Kd.R_reads' HO_328000.out).2.1); (case side3 => repeat (first | exact (Kd.R_reads' HO_328001.out).2.2 | (with_reducible refine Kd.C_alloc ?_ _) | (with_reducible refine Kd.C_drewN ?_ _) | (with_reducible refine Kd.C_drew ?_))); (case side4 => rw [show t342.length = t323.length from (Kd.R_reads' HO_328001.out).1.symm]; exact (Kd.R_reads' HO_328001.out).2.1); rintro e w117 ⟨rfl, hb⟩; refine ⟨_, rfl, ?_⟩; replace HO_313000 := aZ (Kd.R_below (lZR HO_313000.out) hb); replace HO_313001 := aZ (Kd.R_below (lZR HO_313001.out) hb); replace HO_320000 := aZ (Kd.R_below (lZR HO_320000.out) hb); replace HO_320001 := aZ (Kd.R_below (lZR HO_320001.out) hb); replace HO_328000 := aZ (Kd.R_below (lZR HO_328000.out) hb); replace HO_328001 := aZ (Kd.R_below (lZR HO_328001.out) hb); replace BK297 := aZ (blk_below (bkZ BK297.out) hb); replace BK312 := aZ (blk_below (bkZ BK312.out) hb); replace BK319 := aZ (blk_below (bkZ BK319.out) hb); replace BK327 := aZ (blk_below (bkZ BK327.out) hb); replace HB := aZ (below_step bZ hb); (try clear hb); (try clear hb2); (try clear hk); (try clear hi); have hnb118 := NB297_312.out; have hnc118 := NB312_297.out; have hnb119 := NB297_319.out; have hnc119 := NB319_297.out; have hcz120_0 : w117.cell? ⟨gb297, 0, none⟩ = some (.slice A0_0 l0_0.length c0_0) := (blk_cell BK297.out 0).trans rfl; have hcz120_1 : w117.cell? ⟨gb297, 1, none⟩ = some (.slice A0_1 l0_1.length c0_1) := (blk_cell BK297.out 1).trans rfl; have hfz120_0 := blk_frozen BK297.out 0; have hfz120_1 := blk_frozen BK297.out 1) | ((with_reducible refine gate_callee (f := 15) rfl ?_); refine goesL_ (some 83) rfl rfl Try.func15 kZ rfl #[.agg #[.slice A0_0 l0_0.length c0_0, .slice A0_1 l0_1.length c0_1]] rfl tZA ?_; (with_reducible refine (laws_toRegister.calls kj65 _ _ l0_0 _ _ l0_1 t344 t347 _ ?side1 ?side2 ?side3 ?side4 A108.out).mono ?_); (case side1 => repeat (first | exact (Kd.C_below HR0_0.out HB.out) | (with_reducible refine Kd.C_alloc ?_ _) | (with_reducible refine Kd.C_drewN ?_ _) | (with_reducible refine Kd.C_drew ?_))); (case side2 => exact HC0_0.out); (case side3 => repeat (first | exact (Kd.C_below HR0_1.out HB.out) | (with_reducible refine Kd.C_alloc ?_ _) | (with_reducible refine Kd.C_drewN ?_ _) | (with_reducible refine Kd.C_drew ?_))); (case side4 => exact HC0_1.out); rintro e w121 ⟨v345, v348, rfl, ho0, ho1, hb⟩; refine ⟨_, rfl, ?_⟩; have HO346 := aZ (Kd.R_lower (Kd.R_new' (Kd.R_new' (Kd.R_new' ho0 (Kd.R_lt (lZR HO_313000.out))) (Kd.R_lt (lZR HO_320000.out))) (Kd.R_lt (lZR HO_328000.out))) (below_size bZ)); replace HO_313000 := aZ (Kd.R_elder' (lZR HO_313000.out) (Kd.R_base ho0) hb); replace HO_320000 := aZ (Kd.R_elder' (lZR HO_320000.out) (Kd.R_base ho0) hb); replace HO_328000 := aZ (Kd.R_elder' (lZR HO_328000.out) (Kd.R_base ho0) hb); have HO349 := aZ (Kd.R_lower (Kd.R_new' (Kd.R_new' (Kd.R_new' ho1 (Kd.R_lt (lZR HO_313001.out))) (Kd.R_lt (lZR HO_320001.out))) (Kd.R_lt (lZR HO_328001.out))) (below_size bZ)); replace HO_313001 := aZ (Kd.R_elder' (lZR HO_313001.out) (Kd.R_base ho1) hb); replace HO_320001 := aZ (Kd.R_elder' (lZR HO_320001.out) (Kd.R_base ho1) hb); replace HO_328001 := aZ (Kd.R_elder' (lZR HO_328001.out) (Kd.R_base ho1) hb); replace BK297 := aZ (blk_below (bkZ BK297.out) hb); replace BK312 := aZ (blk_below (bkZ BK312.out) hb); replace BK319 := aZ (blk_below (bkZ BK319.out) hb); replace BK327 := aZ (blk_below (bkZ BK327.out) hb); replace HB := aZ (below_step bZ hb); (try clear hb); (try clear hb2); (try clear hk); (try clear hi); (try clear ho0); (try clear ho1); obtain ⟨Ao122, co122, eo122⟩ := Kd.R_slice HO346.out; subst eo122; obtain ⟨Ao123, co123, eo123⟩ := Kd.R_slice HO349.out; subst eo123) | ((with_reducible refine gate_callee (f := 16) rfl ?_); refine goesL_ (some 86) rfl rfl Try.func16 kZ rfl #[.agg #[.slice Ao122 t344.length co122, .slice Ao123 t347.length co123], .int .i64 a1, .int .i64 a2] rfl tZA ?_; (with_reducible refine (impl_Issue.calls kj65 _ _ t344 _ _ t347 a1 a2 t350 t353 t356 _ ?side1 ?side2 ?side3 ?side4 A109.out).mono ?_); (case side1 => repeat (first | exact (Kd.R_reads' HO346.out).2.2 | (with_reducible refine Kd.C_alloc ?_ _) | (with_reducible refine Kd.C_drewN ?_ _) | (with_reducible refine Kd.C_drew ?_))); (case side2 => exact (Kd.R_reads' HO346.out).2.1); (case side3 => repeat (first | exact (Kd.R_reads' HO349.out).2.2 | (with_reducible refine Kd.C_alloc ?_ _) | (with_reducible refine Kd.C_drewN ?_ _) | (with_reducible refine Kd.C_drew ?_))); (case side4 => exact (Kd.R_reads' HO349.out).2.1); rintro e w124 ⟨v351, v354, rfl, ho0, ho1, hb⟩; refine ⟨_, rfl, ?_⟩; have HO352 := aZ (Kd.R_lower (Kd.R_new' (Kd.R_new' (Kd.R_new' (Kd.R_new' ho0 (Kd.R_lt (lZR HO_313000.out))) (Kd.R_lt (lZR HO_320000.out))) (Kd.R_lt (lZR HO_328000.out))) (Kd.R_lt (lZR HO346.out))) (below_size bZ)); replace HO_313000 := aZ (Kd.R_elder' (lZR HO_313000.out) (Kd.R_base ho0) hb); replace HO_320000 := aZ (Kd.R_elder' (lZR HO_320000.out) (Kd.R_base ho0) hb); replace HO_328000 := aZ (Kd.R_elder' (lZR HO_328000.out) (Kd.R_base ho0) hb); replace HO346 := aZ (Kd.R_elder' (lZR HO346.out) (Kd.R_base ho0) hb); have HO355 := aZ (Kd.R_lower (Kd.R_new' (Kd.R_new' (Kd.R_new' (Kd.R_new' ho1 (Kd.R_lt (lZR HO_313001.out))) (Kd.R_lt (lZR HO_320001.out))) (Kd.R_lt (lZR HO_328001.out))) (Kd.R_lt (lZR HO349.out))) (below_size bZ)); replace HO_313001 := aZ (Kd.R_elder' (lZR HO_313001.out) (Kd.R_base ho1) hb); replace HO_320001 := aZ (Kd.R_elder' (lZR HO_320001.out) (Kd.R_base ho1) hb); replace HO_328001 := aZ (Kd.R_elder' (lZR HO_328001.out) (Kd.R_base ho1) hb); replace HO349 := aZ (Kd.R_elder' (lZR HO349.out) (Kd.R_base ho1) hb); replace BK297 := aZ (blk_below (bkZ BK297.out) hb); replace BK312 := aZ (blk_below (bkZ BK312.out) hb); replace BK319 := aZ (blk_below (bkZ BK319.out) hb); replace BK327 := aZ (blk_below (bkZ BK327.out) hb); replace HB := aZ (below_step bZ hb); (try clear hb); (try clear hb2); (try clear hk); (try clear hi); (try clear ho0); (try clear ho1)) | ((with_reducible refine gate_dst (N := 16) rfl ?_); refine box_event ?hg (N := 16) ?hd (cs := #[.slice none 0 0, .slice none 0 0]) (t := 30) ?hr ?_; (case hd => rfl); (case hg => rfl); (case hr => first | (go_simp; done) | (go_simp; rfl)); intro gb357 hg w125 hbox hb; replace HO_313000 := aZ (Kd.R_below (lZR HO_313000.out) hb); replace HO_313001 := aZ (Kd.R_below (lZR HO_313001.out) hb); replace HO_320000 := aZ (Kd.R_below (lZR HO_320000.out) hb); replace HO_320001 := aZ (Kd.R_below (lZR HO_320001.out) hb); replace HO_328000 := aZ (Kd.R_below (lZR HO_328000.out) hb); replace HO_328001 := aZ (Kd.R_below (lZR HO_328001.out) hb); replace HO346 := aZ (Kd.R_below (lZR HO346.out) hb); replace HO349 := aZ (Kd.R_below (lZR HO349.out) hb); replace HO352 := aZ (Kd.R_below (lZR HO352.out) hb); replace HO355 := aZ (Kd.R_below (lZR HO355.out) hb); have BK357 := aZ (hbox); have GW357 := aZ ((by rw [hg]; exact (below_size bZ) : w.heap.size ≤ gb357)); have GE357 := aZ ((by rw [hg]; exact (below_size bZ) : w.heap.size ≤ gb357)); replace HB := aZ (below_step bZ hb); have NB297_357 := aZ ((by rw [hg]; exact Nat.ne_of_lt (blk_lt (bkZ BK297.out)) : gb297 ≠ gb357)); have NB357_297 := aZ ((by rw [hg]; exact Nat.ne_of_gt (blk_lt (bkZ BK297.out)) : gb357 ≠ gb297)); replace BK297 := aZ (blk_below (bkZ BK297.out) hb); have NB312_357 := aZ ((by rw [hg]; exact Nat.ne_of_lt (blk_lt (bkZ BK312.out)) : gb312 ≠ gb357)); have NB357_312 := aZ ((by rw [hg]; exact Nat.ne_of_gt (blk_lt (bkZ BK312.out)) : gb357 ≠ gb312)); replace BK312 := aZ (blk_below (bkZ BK312.out) hb); have NB319_357 := aZ ((by rw [hg]; exact Nat.ne_of_lt (blk_lt (bkZ BK319.out)) : gb319 ≠ gb357)); have NB357_319 := aZ ((by rw [hg]; exact Nat.ne_of_gt (blk_lt (bkZ BK319.out)) : gb357 ≠ gb319)); replace BK319 := aZ (blk_below (bkZ BK319.out) hb); have NB327_357 := aZ ((by rw [hg]; exact Nat.ne_of_lt (blk_lt (bkZ BK327.out)) : gb327 ≠ gb357)); have NB357_327 := aZ ((by rw [hg]; exact Nat.ne_of_gt (blk_lt (bkZ BK327.out)) : gb357 ≠ gb327)); replace BK327 := aZ (blk_below (bkZ BK327.out) hb); clear hb hbox hg; obtain ⟨Ao126, co126, eo126⟩ := Kd.R_slice HO352.out; subst eo126; have hnb127 := NB357_297.out; have hnc127 := NB297_357.out; have hnb128 := NB357_312.out; have hnc128 := NB312_357.out; have hnb129 := NB357_319.out; have hnc129 := NB319_357.out; have hnb130 := NB357_327.out; have hnc130 := NB327_357.out; have hcz131_0 : w125.cell? ⟨gb357, 0, none⟩ = some (.slice none 0 0) := (blk_cell BK357.out 0).trans rfl; have hcz131_1 : w125.cell? ⟨gb357, 1, none⟩ = some (.slice none 0 0) := (blk_cell BK357.out 1).trans rfl; have hfz131_0 := blk_frozen BK357.out 0; have hfz131_1 := blk_frozen BK357.out 1; obtain ⟨Ao132, co132, eo132⟩ := Kd.R_slice HO355.out; subst eo132))
     (try simp only [Act.put, sZ1, sZ2, sZ3])
     go_cut [97] (fun v97 wc => ∃ (kq : Nat) (x97_109 : Bool), v97 = .bool x97_109 ∧ Aside0 (laws_FnExactIssue.j2 kq t340 x97_109 t341 t342 = some r) ∧ Aside0 (kq ≤ kj65) ∧ Aside0 (Kd.R k124 124 wc w.heap.size (fun k_ => some k_ ≠ ((.slice Ao30 t337.length co30) : Value).ownBlock ∧ some k_ ≠ ((.slice Ao37 t320.length co37) : Value).ownBlock ∧ some k_ ≠ ((.slice Ao126 t350.length co126) : Value).ownBlock) (.slice Ao23 t305.length co23) t305) ∧ Aside0 (Kd.R k120 120 wc w.heap.size (fun k_ => some k_ ≠ ((.slice Ao34 t338.length co34) : Value).ownBlock ∧ some k_ ≠ ((.slice Ao42 t323.length co42) : Value).ownBlock ∧ some k_ ≠ ((.slice Ao132 t353.length co132) : Value).ownBlock) (.slice Ao26 t308.length co26) t308) ∧ Aside0 (Kd.R k124 124 wc w.heap.size (fun k_ => some k_ ≠ ((.slice Ao23 t305.length co23) : Value).ownBlock ∧ some k_ ≠ ((.slice Ao37 t320.length co37) : Value).ownBlock ∧ some k_ ≠ ((.slice Ao126 t350.length co126) : Value).ownBlock) (.slice Ao30 t337.length co30) t337) ∧ Aside0 (Kd.R k120 120 wc w.heap.size (fun k_ => some k_ ≠ ((.slice Ao26 t308.length co26) : Value).ownBlock ∧ some k_ ≠ ((.slice Ao42 t323.length co42) : Value).ownBlock ∧ some k_ ≠ ((.slice Ao132 t353.length co132) : Value).ownBlock) (.slice Ao34 t338.length co34) t338) ∧ Aside0 (Kd.R k124 124 wc w.heap.size (fun k_ => some k_ ≠ ((.slice Ao23 t305.length co23) : Value).ownBlock ∧ some k_ ≠ ((.slice Ao30 t337.length co30) : Value).ownBlock ∧ some k_ ≠ ((.slice Ao126 t350.length co126) : Value).ownBlock) (.slice Ao37 t320.length co37) t341) ∧ Aside0 (Kd.R k120 120 wc w.heap.size (fun k_ => some k_ ≠ ((.slice Ao26 t308.length co26) : Value).ownBlock ∧ some k_ ≠ ((.slice Ao34 t338.length co34) : Value).ownBlock ∧ some k_ ≠ ((.slice Ao132 t353.length co132) : Value).ownBlock) (.slice Ao42 t323.length co42) t342) ∧ Aside0 (Kd.R k124 124 wc w.heap.size (fun k_ => some k_ ≠ ((.slice Ao23 t305.length co23) : Value).ownBlock ∧ some k_ ≠ ((.slice Ao30 t337.length co30) : Value).ownBlock ∧ some k_ ≠ ((.slice Ao37 t320.length co37) : Value).ownBlock) (.slice Ao126 t350.length co126) t350) ∧ Aside0 (Kd.R k120 120 wc w.heap.size (fun k_ => some k_ ≠ ((.slice Ao26 t308.length co26) : Value).ownBlock ∧ some k_ ≠ ((.slice Ao34 t338.length co34) : Value).ownBlock ∧ some k_ ≠ ((.slice Ao42 t323.length co42) : Value).ownBlock) (.slice Ao132 t353.length co132) t353) ∧ Aside0 (wc.heap[gb297]? = some (.cells #[(.slice A0_0 l0_0.length c0_0), (.slice A0_1 l0_1.length c0_1)] 25 (0, 0))) ∧ Aside0 (wc.heap[gb312]? = some (.cells #[(.slice Ao23 t305.length co23), (.slice Ao26 t308.length co26)] 30 (0, 0))) ∧ Aside0 (wc.heap[gb319]? = some (.cells #[(.slice Ao30 t337.length co30), (.slice Ao34 t338.length co34)] 30 (0, 0))) ∧ Aside0 (wc.heap[gb327]? = some (.cells #[(.slice Ao37 t320.length co37), (.slice Ao42 t323.length co42)] 30 (0, 0))) ∧ Aside0 (wc.heap[gb357]? = some (.cells #[(.slice Ao126 t350.length co126), (.slice Ao132 t353.length co132)] 30 (0, 0))) ∧ Aside0 (Below w.heap.size w wc))
     case first =>
      have H := HC110.out
      clear HC110
      replace H := Option.bind_eq_some_iff.mp H
      obtain ⟨t358, A1330, H⟩ := H
      replace H : (if t358 = true then (laws_FnExactIssue.j2 kj65 t340 (t356 != t311) t341 t342) else (laws_FnExactIssue.j2 kj65 t340 true t341 t342)) = some r := H
      have A133 := Aside0.mk A1330
      clear A1330
      by_cases c134 : t358 = true
      ·subst c134
       have H1 : (laws_FnExactIssue.j2 kj65 t340 (t356 != t311) t341 t342) = some r := by rw [if_pos rfl] at H; exact H
       clear H
       have H := H1
       clear H1
       have H' := Aside0.mk H
       clear H
       have hnb135 := NB357_297.out
       have hnc135 := NB297_357.out
       have hnb136 := NB357_312.out
       have hnc136 := NB312_357.out
       have hnb137 := NB357_319.out
       have hnc137 := NB319_357.out
       have hnb138 := NB357_327.out
       have hnc138 := NB327_357.out
       have hcz139_0 : w125.cell? ⟨gb357, 0, none⟩ = some (.slice none 0 0) := (blk_cell BK357.out 0).trans rfl
       have hcz139_1 : w125.cell? ⟨gb357, 1, none⟩ = some (.slice none 0 0) := (blk_cell BK357.out 1).trans rfl
       have hfz139_0 := blk_frozen BK357.out 0
       have hfz139_1 := blk_frozen BK357.out 1
       have hnb140 := NB312_297.out
       have hnc140 := NB297_312.out
       have hnb141 := NB312_319.out
       have hnc141 := NB319_312.out
       have hnb142 := NB312_327.out
       have hnc142 := NB327_312.out
       have hcz143_0 : w125.cell? ⟨gb312, 0, none⟩ = some (.slice Ao23 t305.length co23) := (blk_cell BK312.out 0).trans rfl
       have hcz143_1 : w125.cell? ⟨gb312, 1, none⟩ = some (.slice Ao26 t308.length co26) := (blk_cell BK312.out 1).trans rfl
       have hfz143_0 := blk_frozen BK312.out 0
       have hfz143_1 := blk_frozen BK312.out 1
       go_wp2_with (first | ((with_reducible refine gate_callee (f := 17) rfl ?_); refine goesL_ (some 91) rfl rfl Try.func17 kZ rfl #[.agg #[.slice Ao126 t350.length co126, .slice Ao132 t353.length co132], .agg #[.slice Ao23 t305.length co23, .slice Ao26 t308.length co26]] rfl tZA ?_; (with_reducible refine (laws_eqRegister.calls kj65 _ _ t350 _ _ t353 _ _ t305 _ _ t308 true _ ?side1 ?side2 ?side3 ?side4 ?side5 ?side6 ?side7 ?side8 A133.out).mono ?_); (case side1 => refine (Kd.R_reads' (e := 124) (base := w.heap.size) (ok := fun k_ => ((((True ∧ some k_ ≠ (.slice Ao23 t305.length co23 : Value).ownBlock) ∧ some k_ ≠ (.slice Ao30 t337.length co30 : Value).ownBlock) ∧ some k_ ≠ (.slice Ao37 t320.length co37 : Value).ownBlock) ∧ some k_ ≠ (.slice Ao122 t344.length co122 : Value).ownBlock)) (n := t350.length) (c := co126) ?_).2.2; exact (by (with_reducible repeat (first | apply Kd.R_alloc | apply Kd.R_drewN | apply Kd.R_drew)); exact (Kd.R_mono (Kd.R_far (p := ⟨gb357, 1, none⟩) (Kd.R_far (p := ⟨gb357, 0, none⟩) (Kd.R_types HO352.out BK357.out (by decide)) (fun _ hk => hk.2) (.slice Ao126 t350.length co126)) (fun _ hk => hk.2) (.slice Ao132 t353.length co132)) (fun _ h_ => h_.1)))); (case side2 => exact (Kd.R_reads' HO352.out).2.1); (case side3 => refine (Kd.R_reads' (e := 120) (base := w.heap.size) (ok := fun k_ => ((((True ∧ some k_ ≠ (.slice Ao26 t308.length co26 : Value).ownBlock) ∧ some k_ ≠ (.slice Ao34 t338.length co34 : Value).ownBlock) ∧ some k_ ≠ (.slice Ao42 t323.length co42 : Value).ownBlock) ∧ some k_ ≠ (.slice Ao123 t347.length co123 : Value).ownBlock)) (n := t353.length) (c := co132) ?_).2.2; exact (by (with_reducible repeat (first | apply Kd.R_alloc | apply Kd.R_drewN | apply Kd.R_drew)); exact (Kd.R_mono (Kd.R_far (p := ⟨gb357, 1, none⟩) (Kd.R_far (p := ⟨gb357, 0, none⟩) (Kd.R_types HO355.out BK357.out (by decide)) (fun _ hk => hk.2) (.slice Ao126 t350.length co126)) (fun _ hk => hk.2) (.slice Ao132 t353.length co132)) (fun _ h_ => h_.1)))); (case side4 => exact (Kd.R_reads' HO355.out).2.1); (case side5 => refine (Kd.R_reads' (e := 124) (base := w.heap.size) (ok := fun k_ => (((some k_ ≠ (.slice Ao30 t337.length co30 : Value).ownBlock ∧ some k_ ≠ (.slice Ao37 t320.length co37 : Value).ownBlock) ∧ some k_ ≠ (.slice Ao122 t344.length co122 : Value).ownBlock) ∧ some k_ ≠ (.slice Ao126 t350.length co126 : Value).ownBlock)) (n := t305.length) (c := co23) ?_).2.2; exact (by (with_reducible repeat (first | apply Kd.R_alloc | apply Kd.R_drewN | apply Kd.R_drew)); exact (Kd.R_mono (Kd.R_far (p := ⟨gb357, 1, none⟩) (Kd.R_far (p := ⟨gb357, 0, none⟩) (Kd.R_types HO_313000.out BK357.out (by decide)) (fun _ hk => hk.2) (.slice Ao126 t350.length co126)) (fun _ hk => hk.2) (.slice Ao132 t353.length co132)) (fun _ h_ => h_.1)))); (case side6 => exact (Kd.R_reads' HO_313000.out).2.1); (case side7 => refine (Kd.R_reads' (e := 120) (base := w.heap.size) (ok := fun k_ => (((some k_ ≠ (.slice Ao34 t338.length co34 : Value).ownBlock ∧ some k_ ≠ (.slice Ao42 t323.length co42 : Value).ownBlock) ∧ some k_ ≠ (.slice Ao123 t347.length co123 : Value).ownBlock) ∧ some k_ ≠ (.slice Ao132 t353.length co132 : Value).ownBlock)) (n := t308.length) (c := co26) ?_).2.2; exact (by (with_reducible repeat (first | apply Kd.R_alloc | apply Kd.R_drewN | apply Kd.R_drew)); exact (Kd.R_mono (Kd.R_far (p := ⟨gb357, 1, none⟩) (Kd.R_far (p := ⟨gb357, 0, none⟩) (Kd.R_types HO_313001.out BK357.out (by decide)) (fun _ hk => hk.2) (.slice Ao126 t350.length co126)) (fun _ hk => hk.2) (.slice Ao132 t353.length co132)) (fun _ h_ => h_.1)))); (case side8 => exact (Kd.R_reads' HO_313001.out).2.1); rintro e w144 ⟨rfl, hb⟩; refine ⟨_, rfl, ?_⟩; replace HO_313000 := aZ (Kd.R_below (by (with_reducible repeat (first | apply Kd.R_alloc | apply Kd.R_drewN | apply Kd.R_drew)); exact (Kd.R_mono (Kd.R_far (p := ⟨gb357, 1, none⟩) (Kd.R_far (p := ⟨gb357, 0, none⟩) (Kd.R_types HO_313000.out BK357.out (by decide)) (fun _ hk => hk.2) (.slice Ao126 t350.length co126)) (fun _ hk => hk.2) (.slice Ao132 t353.length co132)) (fun _ h_ => h_.1))) hb); replace HO_313001 := aZ (Kd.R_below (by (with_reducible repeat (first | apply Kd.R_alloc | apply Kd.R_drewN | apply Kd.R_drew)); exact (Kd.R_mono (Kd.R_far (p := ⟨gb357, 1, none⟩) (Kd.R_far (p := ⟨gb357, 0, none⟩) (Kd.R_types HO_313001.out BK357.out (by decide)) (fun _ hk => hk.2) (.slice Ao126 t350.length co126)) (fun _ hk => hk.2) (.slice Ao132 t353.length co132)) (fun _ h_ => h_.1))) hb); replace HO_320000 := aZ (Kd.R_below (by (with_reducible repeat (first | apply Kd.R_alloc | apply Kd.R_drewN | apply Kd.R_drew)); exact (Kd.R_mono (Kd.R_far (p := ⟨gb357, 1, none⟩) (Kd.R_far (p := ⟨gb357, 0, none⟩) (Kd.R_types HO_320000.out BK357.out (by decide)) (fun _ hk => hk.2) (.slice Ao126 t350.length co126)) (fun _ hk => hk.2) (.slice Ao132 t353.length co132)) (fun _ h_ => h_.1))) hb); replace HO_320001 := aZ (Kd.R_below (by (with_reducible repeat (first | apply Kd.R_alloc | apply Kd.R_drewN | apply Kd.R_drew)); exact (Kd.R_mono (Kd.R_far (p := ⟨gb357, 1, none⟩) (Kd.R_far (p := ⟨gb357, 0, none⟩) (Kd.R_types HO_320001.out BK357.out (by decide)) (fun _ hk => hk.2) (.slice Ao126 t350.length co126)) (fun _ hk => hk.2) (.slice Ao132 t353.length co132)) (fun _ h_ => h_.1))) hb); replace HO_328000 := aZ (Kd.R_below (by (with_reducible repeat (first | apply Kd.R_alloc | apply Kd.R_drewN | apply Kd.R_drew)); exact (Kd.R_mono (Kd.R_far (p := ⟨gb357, 1, none⟩) (Kd.R_far (p := ⟨gb357, 0, none⟩) (Kd.R_types HO_328000.out BK357.out (by decide)) (fun _ hk => hk.2) (.slice Ao126 t350.length co126)) (fun _ hk => hk.2) (.slice Ao132 t353.length co132)) (fun _ h_ => h_.1))) hb); replace HO_328001 := aZ (Kd.R_below (by (with_reducible repeat (first | apply Kd.R_alloc | apply Kd.R_drewN | apply Kd.R_drew)); exact (Kd.R_mono (Kd.R_far (p := ⟨gb357, 1, none⟩) (Kd.R_far (p := ⟨gb357, 0, none⟩) (Kd.R_types HO_328001.out BK357.out (by decide)) (fun _ hk => hk.2) (.slice Ao126 t350.length co126)) (fun _ hk => hk.2) (.slice Ao132 t353.length co132)) (fun _ h_ => h_.1))) hb); replace HO346 := aZ (Kd.R_below (by (with_reducible repeat (first | apply Kd.R_alloc | apply Kd.R_drewN | apply Kd.R_drew)); exact (Kd.R_mono (Kd.R_far (p := ⟨gb357, 1, none⟩) (Kd.R_far (p := ⟨gb357, 0, none⟩) (Kd.R_types HO346.out BK357.out (by decide)) (fun _ hk => hk.2) (.slice Ao126 t350.length co126)) (fun _ hk => hk.2) (.slice Ao132 t353.length co132)) (fun _ h_ => h_.1))) hb); replace HO349 := aZ (Kd.R_below (by (with_reducible repeat (first | apply Kd.R_alloc | apply Kd.R_drewN | apply Kd.R_drew)); exact (Kd.R_mono (Kd.R_far (p := ⟨gb357, 1, none⟩) (Kd.R_far (p := ⟨gb357, 0, none⟩) (Kd.R_types HO349.out BK357.out (by decide)) (fun _ hk => hk.2) (.slice Ao126 t350.length co126)) (fun _ hk => hk.2) (.slice Ao132 t353.length co132)) (fun _ h_ => h_.1))) hb); replace HO352 := aZ (Kd.R_below (by (with_reducible repeat (first | apply Kd.R_alloc | apply Kd.R_drewN | apply Kd.R_drew)); exact (Kd.R_mono (Kd.R_far (p := ⟨gb357, 1, none⟩) (Kd.R_far (p := ⟨gb357, 0, none⟩) (Kd.R_types HO352.out BK357.out (by decide)) (fun _ hk => hk.2) (.slice Ao126 t350.length co126)) (fun _ hk => hk.2) (.slice Ao132 t353.length co132)) (fun _ h_ => h_.1))) hb); replace HO355 := aZ (Kd.R_below (by (with_reducible repeat (first | apply Kd.R_alloc | apply Kd.R_drewN | apply Kd.R_drew)); exact (Kd.R_mono (Kd.R_far (p := ⟨gb357, 1, none⟩) (Kd.R_far (p := ⟨gb357, 0, none⟩) (Kd.R_types HO355.out BK357.out (by decide)) (fun _ hk => hk.2) (.slice Ao126 t350.length co126)) (fun _ hk => hk.2) (.slice Ao132 t353.length co132)) (fun _ h_ => h_.1))) hb); replace BK297 := aZ (blk_below (g := gb297) (o := .cells #[.slice A0_0 l0_0.length c0_0, .slice A0_1 l0_1.length c0_1] 25 (0, 0)) (by (with_reducible repeat (first | refine blk_drewN ?_ _ | refine blk_drew ?_ | refine blk_alloc ?_ _)); refine blk_far ?_ NB297_357.out _; (with_reducible repeat (first | refine blk_drewN ?_ _ | refine blk_drew ?_ | refine blk_alloc ?_ _)); refine blk_far ?_ NB297_357.out _; (with_reducible repeat (first | refine blk_drewN ?_ _ | refine blk_drew ?_ | refine blk_alloc ?_ _)); exact BK297.out) hb); replace BK312 := aZ (blk_below (g := gb312) (o := .cells #[.slice Ao23 t305.length co23, .slice Ao26 t308.length co26] 30 (0, 0)) (by (with_reducible repeat (first | refine blk_drewN ?_ _ | refine blk_drew ?_ | refine blk_alloc ?_ _)); refine blk_far ?_ NB312_357.out _; (with_reducible repeat (first | refine blk_drewN ?_ _ | refine blk_drew ?_ | refine blk_alloc ?_ _)); refine blk_far ?_ NB312_357.out _; (with_reducible repeat (first | refine blk_drewN ?_ _ | refine blk_drew ?_ | refine blk_alloc ?_ _)); exact BK312.out) hb); replace BK319 := aZ (blk_below (g := gb319) (o := .cells #[.slice Ao30 t337.length co30, .slice Ao34 t338.length co34] 30 (0, 0)) (by (with_reducible repeat (first | refine blk_drewN ?_ _ | refine blk_drew ?_ | refine blk_alloc ?_ _)); refine blk_far ?_ NB319_357.out _; (with_reducible repeat (first | refine blk_drewN ?_ _ | refine blk_drew ?_ | refine blk_alloc ?_ _)); refine blk_far ?_ NB319_357.out _; (with_reducible repeat (first | refine blk_drewN ?_ _ | refine blk_drew ?_ | refine blk_alloc ?_ _)); exact BK319.out) hb); replace BK327 := aZ (blk_below (g := gb327) (o := .cells #[.slice Ao37 t320.length co37, .slice Ao42 t323.length co42] 30 (0, 0)) (by (with_reducible repeat (first | refine blk_drewN ?_ _ | refine blk_drew ?_ | refine blk_alloc ?_ _)); refine blk_far ?_ NB327_357.out _; (with_reducible repeat (first | refine blk_drewN ?_ _ | refine blk_drew ?_ | refine blk_alloc ?_ _)); refine blk_far ?_ NB327_357.out _; (with_reducible repeat (first | refine blk_drewN ?_ _ | refine blk_drew ?_ | refine blk_alloc ?_ _)); exact BK327.out) hb); replace BK357 := aZ (blk_below (g := gb357) (o := .cells #[.slice Ao126 t350.length co126, .slice Ao132 t353.length co132] 30 (0, 0)) (by (with_reducible repeat (first | refine blk_drewN ?_ _ | refine blk_drew ?_ | refine blk_alloc ?_ _)); refine blk_put (cs := #[.slice Ao126 t350.length co126, .slice none 0 0]) ?_ 1 _ rfl; (with_reducible repeat (first | refine blk_drewN ?_ _ | refine blk_drew ?_ | refine blk_alloc ?_ _)); refine blk_put (cs := #[.slice none 0 0, .slice none 0 0]) ?_ 0 _ rfl; (with_reducible repeat (first | refine blk_drewN ?_ _ | refine blk_drew ?_ | refine blk_alloc ?_ _)); exact BK357.out) hb); replace HB := aZ (below_step bZ hb); (try clear hb); (try clear hb2); (try clear hk); (try clear hi)))
       go_meet
       case rel => exact ⟨_, ((t356 != t311)), tZB, H', ⟨by have := HJ12.out; have := HJ65.out; first | omega | exact Nat.le_refl _⟩, ⟨by (try simp only [hl320000_65]); (try simp only [hl320001_65]); (with_reducible repeat (first | apply Kd.R_alloc | apply Kd.R_drewN | apply Kd.R_drew)); exact Kd.R_mono HO_313000.out (fun _ hk => ⟨hk.1.1.1, ⟨hk.1.1.2, hk.2⟩⟩)⟩, ⟨by (try simp only [hl320000_65]); (try simp only [hl320001_65]); (with_reducible repeat (first | apply Kd.R_alloc | apply Kd.R_drewN | apply Kd.R_drew)); exact Kd.R_mono HO_313001.out (fun _ hk => ⟨hk.1.1.1, ⟨hk.1.1.2, hk.2⟩⟩)⟩, ⟨by (try simp only [hl320000_65]); (try simp only [hl320001_65]); (with_reducible repeat (first | apply Kd.R_alloc | apply Kd.R_drewN | apply Kd.R_drew)); exact Kd.R_mono HO_320000.out (fun _ hk => ⟨hk.1.1.1, ⟨hk.1.1.2, hk.2⟩⟩)⟩, ⟨by (try simp only [hl320000_65]); (try simp only [hl320001_65]); (with_reducible repeat (first | apply Kd.R_alloc | apply Kd.R_drewN | apply Kd.R_drew)); exact Kd.R_mono HO_320001.out (fun _ hk => ⟨hk.1.1.1, ⟨hk.1.1.2, hk.2⟩⟩)⟩, ⟨by (try simp only [hl320000_65]); (try simp only [hl320001_65]); (with_reducible repeat (first | apply Kd.R_alloc | apply Kd.R_drewN | apply Kd.R_drew)); exact Kd.R_mono HO_328000.out (fun _ hk => ⟨hk.1.1.1, ⟨hk.1.1.2, hk.2⟩⟩)⟩, ⟨by (try simp only [hl320000_65]); (try simp only [hl320001_65]); (with_reducible repeat (first | apply Kd.R_alloc | apply Kd.R_drewN | apply Kd.R_drew)); exact Kd.R_mono HO_328001.out (fun _ hk => ⟨hk.1.1.1, ⟨hk.1.1.2, hk.2⟩⟩)⟩, ⟨by (try simp only [hl320000_65]); (try simp only [hl320001_65]); (with_reducible repeat (first | apply Kd.R_alloc | apply Kd.R_drewN | apply Kd.R_drew)); exact Kd.R_mono HO352.out (fun _ hk => ⟨hk.1.1.1.2, ⟨hk.1.1.2, hk.1.2⟩⟩)⟩, ⟨by (try simp only [hl320000_65]); (try simp only [hl320001_65]); (with_reducible repeat (first | apply Kd.R_alloc | apply Kd.R_drewN | apply Kd.R_drew)); exact Kd.R_mono HO355.out (fun _ hk => ⟨hk.1.1.1.2, ⟨hk.1.1.2, hk.1.2⟩⟩)⟩, ⟨by (try simp only [hl320000_65]); (try simp only [hl320001_65]); (with_reducible repeat (first | refine blk_drewN ?_ _ | refine blk_drew ?_ | refine blk_alloc ?_ _)); exact BK297.out⟩, ⟨by (try simp only [hl320000_65]); (try simp only [hl320001_65]); (with_reducible repeat (first | refine blk_drewN ?_ _ | refine blk_drew ?_ | refine blk_alloc ?_ _)); exact BK312.out⟩, ⟨by (try simp only [hl320000_65]); (try simp only [hl320001_65]); (with_reducible repeat (first | refine blk_drewN ?_ _ | refine blk_drew ?_ | refine blk_alloc ?_ _)); exact BK319.out⟩, ⟨by (try simp only [hl320000_65]); (try simp only [hl320001_65]); (with_reducible repeat (first | refine blk_drewN ?_ _ | refine blk_drew ?_ | refine blk_alloc ?_ _)); exact BK327.out⟩, ⟨by (try simp only [hl320000_65]); (try simp only [hl320001_65]); (with_reducible repeat (first | refine blk_drewN ?_ _ | refine blk_drew ?_ | refine blk_alloc ?_ _)); exact BK357.out⟩, ⟨bZ⟩⟩
      replace c134 := Bool.eq_false_iff.mpr c134
      subst c134
      have H1 : (laws_FnExactIssue.j2 kj65 t340 true t341 t342) = some r := by rw [if_neg (show ¬ (false = true) by decide)] at H; exact H
      clear H
      have H := H1
      clear H1
      have H' := Aside0.mk H
      clear H
      have hnb145 := NB357_297.out
      have hnc145 := NB297_357.out
      have hnb146 := NB357_312.out
      have hnc146 := NB312_357.out
      have hnb147 := NB357_319.out
      have hnc147 := NB319_357.out
      have hnb148 := NB357_327.out
      have hnc148 := NB327_357.out
      have hcz149_0 : w125.cell? ⟨gb357, 0, none⟩ = some (.slice none 0 0) := (blk_cell BK357.out 0).trans rfl
      have hcz149_1 : w125.cell? ⟨gb357, 1, none⟩ = some (.slice none 0 0) := (blk_cell BK357.out 1).trans rfl
      have hfz149_0 := blk_frozen BK357.out 0
      have hfz149_1 := blk_frozen BK357.out 1
      have hnb150 := NB312_297.out
      have hnc150 := NB297_312.out
      have hnb151 := NB312_319.out
      have hnc151 := NB319_312.out
      have hnb152 := NB312_327.out
      have hnc152 := NB327_312.out
      have hcz153_0 : w125.cell? ⟨gb312, 0, none⟩ = some (.slice Ao23 t305.length co23) := (blk_cell BK312.out 0).trans rfl
      have hcz153_1 : w125.cell? ⟨gb312, 1, none⟩ = some (.slice Ao26 t308.length co26) := (blk_cell BK312.out 1).trans rfl
      have hfz153_0 := blk_frozen BK312.out 0
      have hfz153_1 := blk_frozen BK312.out 1
      go_wp2_with (first | ((with_reducible refine gate_callee (f := 17) rfl ?_); refine goesL_ (some 91) rfl rfl Try.func17 kZ rfl #[.agg #[.slice Ao126 t350.length co126, .slice Ao132 t353.length co132], .agg #[.slice Ao23 t305.length co23, .slice Ao26 t308.length co26]] rfl tZA ?_; (with_reducible refine (laws_eqRegister.calls kj65 _ _ t350 _ _ t353 _ _ t305 _ _ t308 false _ ?side1 ?side2 ?side3 ?side4 ?side5 ?side6 ?side7 ?side8 A133.out).mono ?_); (case side1 => refine (Kd.R_reads' (e := 124) (base := w.heap.size) (ok := fun k_ => ((((True ∧ some k_ ≠ (.slice Ao23 t305.length co23 : Value).ownBlock) ∧ some k_ ≠ (.slice Ao30 t337.length co30 : Value).ownBlock) ∧ some k_ ≠ (.slice Ao37 t320.length co37 : Value).ownBlock) ∧ some k_ ≠ (.slice Ao122 t344.length co122 : Value).ownBlock)) (n := t350.length) (c := co126) ?_).2.2; exact (by (with_reducible repeat (first | apply Kd.R_alloc | apply Kd.R_drewN | apply Kd.R_drew)); exact (Kd.R_mono (Kd.R_far (p := ⟨gb357, 1, none⟩) (Kd.R_far (p := ⟨gb357, 0, none⟩) (Kd.R_types HO352.out BK357.out (by decide)) (fun _ hk => hk.2) (.slice Ao126 t350.length co126)) (fun _ hk => hk.2) (.slice Ao132 t353.length co132)) (fun _ h_ => h_.1)))); (case side2 => exact (Kd.R_reads' HO352.out).2.1); (case side3 => refine (Kd.R_reads' (e := 120) (base := w.heap.size) (ok := fun k_ => ((((True ∧ some k_ ≠ (.slice Ao26 t308.length co26 : Value).ownBlock) ∧ some k_ ≠ (.slice Ao34 t338.length co34 : Value).ownBlock) ∧ some k_ ≠ (.slice Ao42 t323.length co42 : Value).ownBlock) ∧ some k_ ≠ (.slice Ao123 t347.length co123 : Value).ownBlock)) (n := t353.length) (c := co132) ?_).2.2; exact (by (with_reducible repeat (first | apply Kd.R_alloc | apply Kd.R_drewN | apply Kd.R_drew)); exact (Kd.R_mono (Kd.R_far (p := ⟨gb357, 1, none⟩) (Kd.R_far (p := ⟨gb357, 0, none⟩) (Kd.R_types HO355.out BK357.out (by decide)) (fun _ hk => hk.2) (.slice Ao126 t350.length co126)) (fun _ hk => hk.2) (.slice Ao132 t353.length co132)) (fun _ h_ => h_.1)))); (case side4 => exact (Kd.R_reads' HO355.out).2.1); (case side5 => refine (Kd.R_reads' (e := 124) (base := w.heap.size) (ok := fun k_ => (((some k_ ≠ (.slice Ao30 t337.length co30 : Value).ownBlock ∧ some k_ ≠ (.slice Ao37 t320.length co37 : Value).ownBlock) ∧ some k_ ≠ (.slice Ao122 t344.length co122 : Value).ownBlock) ∧ some k_ ≠ (.slice Ao126 t350.length co126 : Value).ownBlock)) (n := t305.length) (c := co23) ?_).2.2; exact (by (with_reducible repeat (first | apply Kd.R_alloc | apply Kd.R_drewN | apply Kd.R_drew)); exact (Kd.R_mono (Kd.R_far (p := ⟨gb357, 1, none⟩) (Kd.R_far (p := ⟨gb357, 0, none⟩) (Kd.R_types HO_313000.out BK357.out (by decide)) (fun _ hk => hk.2) (.slice Ao126 t350.length co126)) (fun _ hk => hk.2) (.slice Ao132 t353.length co132)) (fun _ h_ => h_.1)))); (case side6 => exact (Kd.R_reads' HO_313000.out).2.1); (case side7 => refine (Kd.R_reads' (e := 120) (base := w.heap.size) (ok := fun k_ => (((some k_ ≠ (.slice Ao34 t338.length co34 : Value).ownBlock ∧ some k_ ≠ (.slice Ao42 t323.length co42 : Value).ownBlock) ∧ some k_ ≠ (.slice Ao123 t347.length co123 : Value).ownBlock) ∧ some k_ ≠ (.slice Ao132 t353.length co132 : Value).ownBlock)) (n := t308.length) (c := co26) ?_).2.2; exact (by (with_reducible repeat (first | apply Kd.R_alloc | apply Kd.R_drewN | apply Kd.R_drew)); exact (Kd.R_mono (Kd.R_far (p := ⟨gb357, 1, none⟩) (Kd.R_far (p := ⟨gb357, 0, none⟩) (Kd.R_types HO_313001.out BK357.out (by decide)) (fun _ hk => hk.2) (.slice Ao126 t350.length co126)) (fun _ hk => hk.2) (.slice Ao132 t353.length co132)) (fun _ h_ => h_.1)))); (case side8 => exact (Kd.R_reads' HO_313001.out).2.1); rintro e w154 ⟨rfl, hb⟩; refine ⟨_, rfl, ?_⟩; replace HO_313000 := aZ (Kd.R_below (by (with_reducible repeat (first | apply Kd.R_alloc | apply Kd.R_drewN | apply Kd.R_drew)); exact (Kd.R_mono (Kd.R_far (p := ⟨gb357, 1, none⟩) (Kd.R_far (p := ⟨gb357, 0, none⟩) (Kd.R_types HO_313000.out BK357.out (by decide)) (fun _ hk => hk.2) (.slice Ao126 t350.length co126)) (fun _ hk => hk.2) (.slice Ao132 t353.length co132)) (fun _ h_ => h_.1))) hb); replace HO_313001 := aZ (Kd.R_below (by (with_reducible repeat (first | apply Kd.R_alloc | apply Kd.R_drewN | apply Kd.R_drew)); exact (Kd.R_mono (Kd.R_far (p := ⟨gb357, 1, none⟩) (Kd.R_far (p := ⟨gb357, 0, none⟩) (Kd.R_types HO_313001.out BK357.out (by decide)) (fun _ hk => hk.2) (.slice Ao126 t350.length co126)) (fun _ hk => hk.2) (.slice Ao132 t353.length co132)) (fun _ h_ => h_.1))) hb); replace HO_320000 := aZ (Kd.R_below (by (with_reducible repeat (first | apply Kd.R_alloc | apply Kd.R_drewN | apply Kd.R_drew)); exact (Kd.R_mono (Kd.R_far (p := ⟨gb357, 1, none⟩) (Kd.R_far (p := ⟨gb357, 0, none⟩) (Kd.R_types HO_320000.out BK357.out (by decide)) (fun _ hk => hk.2) (.slice Ao126 t350.length co126)) (fun _ hk => hk.2) (.slice Ao132 t353.length co132)) (fun _ h_ => h_.1))) hb); replace HO_320001 := aZ (Kd.R_below (by (with_reducible repeat (first | apply Kd.R_alloc | apply Kd.R_drewN | apply Kd.R_drew)); exact (Kd.R_mono (Kd.R_far (p := ⟨gb357, 1, none⟩) (Kd.R_far (p := ⟨gb357, 0, none⟩) (Kd.R_types HO_320001.out BK357.out (by decide)) (fun _ hk => hk.2) (.slice Ao126 t350.length co126)) (fun _ hk => hk.2) (.slice Ao132 t353.length co132)) (fun _ h_ => h_.1))) hb); replace HO_328000 := aZ (Kd.R_below (by (with_reducible repeat (first | apply Kd.R_alloc | apply Kd.R_drewN | apply Kd.R_drew)); exact (Kd.R_mono (Kd.R_far (p := ⟨gb357, 1, none⟩) (Kd.R_far (p := ⟨gb357, 0, none⟩) (Kd.R_types HO_328000.out BK357.out (by decide)) (fun _ hk => hk.2) (.slice Ao126 t350.length co126)) (fun _ hk => hk.2) (.slice Ao132 t353.length co132)) (fun _ h_ => h_.1))) hb); replace HO_328001 := aZ (Kd.R_below (by (with_reducible repeat (first | apply Kd.R_alloc | apply Kd.R_drewN | apply Kd.R_drew)); exact (Kd.R_mono (Kd.R_far (p := ⟨gb357, 1, none⟩) (Kd.R_far (p := ⟨gb357, 0, none⟩) (Kd.R_types HO_328001.out BK357.out (by decide)) (fun _ hk => hk.2) (.slice Ao126 t350.length co126)) (fun _ hk => hk.2) (.slice Ao132 t353.length co132)) (fun _ h_ => h_.1))) hb); replace HO346 := aZ (Kd.R_below (by (with_reducible repeat (first | apply Kd.R_alloc | apply Kd.R_drewN | apply Kd.R_drew)); exact (Kd.R_mono (Kd.R_far (p := ⟨gb357, 1, none⟩) (Kd.R_far (p := ⟨gb357, 0, none⟩) (Kd.R_types HO346.out BK357.out (by decide)) (fun _ hk => hk.2) (.slice Ao126 t350.length co126)) (fun _ hk => hk.2) (.slice Ao132 t353.length co132)) (fun _ h_ => h_.1))) hb); replace HO349 := aZ (Kd.R_below (by (with_reducible repeat (first | apply Kd.R_alloc | apply Kd.R_drewN | apply Kd.R_drew)); exact (Kd.R_mono (Kd.R_far (p := ⟨gb357, 1, none⟩) (Kd.R_far (p := ⟨gb357, 0, none⟩) (Kd.R_types HO349.out BK357.out (by decide)) (fun _ hk => hk.2) (.slice Ao126 t350.length co126)) (fun _ hk => hk.2) (.slice Ao132 t353.length co132)) (fun _ h_ => h_.1))) hb); replace HO352 := aZ (Kd.R_below (by (with_reducible repeat (first | apply Kd.R_alloc | apply Kd.R_drewN | apply Kd.R_drew)); exact (Kd.R_mono (Kd.R_far (p := ⟨gb357, 1, none⟩) (Kd.R_far (p := ⟨gb357, 0, none⟩) (Kd.R_types HO352.out BK357.out (by decide)) (fun _ hk => hk.2) (.slice Ao126 t350.length co126)) (fun _ hk => hk.2) (.slice Ao132 t353.length co132)) (fun _ h_ => h_.1))) hb); replace HO355 := aZ (Kd.R_below (by (with_reducible repeat (first | apply Kd.R_alloc | apply Kd.R_drewN | apply Kd.R_drew)); exact (Kd.R_mono (Kd.R_far (p := ⟨gb357, 1, none⟩) (Kd.R_far (p := ⟨gb357, 0, none⟩) (Kd.R_types HO355.out BK357.out (by decide)) (fun _ hk => hk.2) (.slice Ao126 t350.length co126)) (fun _ hk => hk.2) (.slice Ao132 t353.length co132)) (fun _ h_ => h_.1))) hb); replace BK297 := aZ (blk_below (g := gb297) (o := .cells #[.slice A0_0 l0_0.length c0_0, .slice A0_1 l0_1.length c0_1] 25 (0, 0)) (by (with_reducible repeat (first | refine blk_drewN ?_ _ | refine blk_drew ?_ | refine blk_alloc ?_ _)); refine blk_far ?_ NB297_357.out _; (with_reducible repeat (first | refine blk_drewN ?_ _ | refine blk_drew ?_ | refine blk_alloc ?_ _)); refine blk_far ?_ NB297_357.out _; (with_reducible repeat (first | refine blk_drewN ?_ _ | refine blk_drew ?_ | refine blk_alloc ?_ _)); exact BK297.out) hb); replace BK312 := aZ (blk_below (g := gb312) (o := .cells #[.slice Ao23 t305.length co23, .slice Ao26 t308.length co26] 30 (0, 0)) (by (with_reducible repeat (first | refine blk_drewN ?_ _ | refine blk_drew ?_ | refine blk_alloc ?_ _)); refine blk_far ?_ NB312_357.out _; (with_reducible repeat (first | refine blk_drewN ?_ _ | refine blk_drew ?_ | refine blk_alloc ?_ _)); refine blk_far ?_ NB312_357.out _; (with_reducible repeat (first | refine blk_drewN ?_ _ | refine blk_drew ?_ | refine blk_alloc ?_ _)); exact BK312.out) hb); replace BK319 := aZ (blk_below (g := gb319) (o := .cells #[.slice Ao30 t337.length co30, .slice Ao34 t338.length co34] 30 (0, 0)) (by (with_reducible repeat (first | refine blk_drewN ?_ _ | refine blk_drew ?_ | refine blk_alloc ?_ _)); refine blk_far ?_ NB319_357.out _; (with_reducible repeat (first | refine blk_drewN ?_ _ | refine blk_drew ?_ | refine blk_alloc ?_ _)); refine blk_far ?_ NB319_357.out _; (with_reducible repeat (first | refine blk_drewN ?_ _ | refine blk_drew ?_ | refine blk_alloc ?_ _)); exact BK319.out) hb); replace BK327 := aZ (blk_below (g := gb327) (o := .cells #[.slice Ao37 t320.length co37, .slice Ao42 t323.length co42] 30 (0, 0)) (by (with_reducible repeat (first | refine blk_drewN ?_ _ | refine blk_drew ?_ | refine blk_alloc ?_ _)); refine blk_far ?_ NB327_357.out _; (with_reducible repeat (first | refine blk_drewN ?_ _ | refine blk_drew ?_ | refine blk_alloc ?_ _)); refine blk_far ?_ NB327_357.out _; (with_reducible repeat (first | refine blk_drewN ?_ _ | refine blk_drew ?_ | refine blk_alloc ?_ _)); exact BK327.out) hb); replace BK357 := aZ (blk_below (g := gb357) (o := .cells #[.slice Ao126 t350.length co126, .slice Ao132 t353.length co132] 30 (0, 0)) (by (with_reducible repeat (first | refine blk_drewN ?_ _ | refine blk_drew ?_ | refine blk_alloc ?_ _)); refine blk_put (cs := #[.slice Ao126 t350.length co126, .slice none 0 0]) ?_ 1 _ rfl; (with_reducible repeat (first | refine blk_drewN ?_ _ | refine blk_drew ?_ | refine blk_alloc ?_ _)); refine blk_put (cs := #[.slice none 0 0, .slice none 0 0]) ?_ 0 _ rfl; (with_reducible repeat (first | refine blk_drewN ?_ _ | refine blk_drew ?_ | refine blk_alloc ?_ _)); exact BK357.out) hb); replace HB := aZ (below_step bZ hb); (try clear hb); (try clear hb2); (try clear hk); (try clear hi)))
      go_meet
      case rel => exact ⟨_, (true), tZB, H', ⟨by have := HJ12.out; have := HJ65.out; first | omega | exact Nat.le_refl _⟩, ⟨by (try simp only [hl320000_65]); (try simp only [hl320001_65]); (with_reducible repeat (first | apply Kd.R_alloc | apply Kd.R_drewN | apply Kd.R_drew)); exact Kd.R_mono HO_313000.out (fun _ hk => ⟨hk.1.1.1, ⟨hk.1.1.2, hk.2⟩⟩)⟩, ⟨by (try simp only [hl320000_65]); (try simp only [hl320001_65]); (with_reducible repeat (first | apply Kd.R_alloc | apply Kd.R_drewN | apply Kd.R_drew)); exact Kd.R_mono HO_313001.out (fun _ hk => ⟨hk.1.1.1, ⟨hk.1.1.2, hk.2⟩⟩)⟩, ⟨by (try simp only [hl320000_65]); (try simp only [hl320001_65]); (with_reducible repeat (first | apply Kd.R_alloc | apply Kd.R_drewN | apply Kd.R_drew)); exact Kd.R_mono HO_320000.out (fun _ hk => ⟨hk.1.1.1, ⟨hk.1.1.2, hk.2⟩⟩)⟩, ⟨by (try simp only [hl320000_65]); (try simp only [hl320001_65]); (with_reducible repeat (first | apply Kd.R_alloc | apply Kd.R_drewN | apply Kd.R_drew)); exact Kd.R_mono HO_320001.out (fun _ hk => ⟨hk.1.1.1, ⟨hk.1.1.2, hk.2⟩⟩)⟩, ⟨by (try simp only [hl320000_65]); (try simp only [hl320001_65]); (with_reducible repeat (first | apply Kd.R_alloc | apply Kd.R_drewN | apply Kd.R_drew)); exact Kd.R_mono HO_328000.out (fun _ hk => ⟨hk.1.1.1, ⟨hk.1.1.2, hk.2⟩⟩)⟩, ⟨by (try simp only [hl320000_65]); (try simp only [hl320001_65]); (with_reducible repeat (first | apply Kd.R_alloc | apply Kd.R_drewN | apply Kd.R_drew)); exact Kd.R_mono HO_328001.out (fun _ hk => ⟨hk.1.1.1, ⟨hk.1.1.2, hk.2⟩⟩)⟩, ⟨by (try simp only [hl320000_65]); (try simp only [hl320001_65]); (with_reducible repeat (first | apply Kd.R_alloc | apply Kd.R_drewN | apply Kd.R_drew)); exact Kd.R_mono HO352.out (fun _ hk => ⟨hk.1.1.1.2, ⟨hk.1.1.2, hk.1.2⟩⟩)⟩, ⟨by (try simp only [hl320000_65]); (try simp only [hl320001_65]); (with_reducible repeat (first | apply Kd.R_alloc | apply Kd.R_drewN | apply Kd.R_drew)); exact Kd.R_mono HO355.out (fun _ hk => ⟨hk.1.1.1.2, ⟨hk.1.1.2, hk.1.2⟩⟩)⟩, ⟨by (try simp only [hl320000_65]); (try simp only [hl320001_65]); (with_reducible repeat (first | refine blk_drewN ?_ _ | refine blk_drew ?_ | refine blk_alloc ?_ _)); exact BK297.out⟩, ⟨by (try simp only [hl320000_65]); (try simp only [hl320001_65]); (with_reducible repeat (first | refine blk_drewN ?_ _ | refine blk_drew ?_ | refine blk_alloc ?_ _)); exact BK312.out⟩, ⟨by (try simp only [hl320000_65]); (try simp only [hl320001_65]); (with_reducible repeat (first | refine blk_drewN ?_ _ | refine blk_drew ?_ | refine blk_alloc ?_ _)); exact BK319.out⟩, ⟨by (try simp only [hl320000_65]); (try simp only [hl320001_65]); (with_reducible repeat (first | refine blk_drewN ?_ _ | refine blk_drew ?_ | refine blk_alloc ?_ _)); exact BK327.out⟩, ⟨by (try simp only [hl320000_65]); (try simp only [hl320001_65]); (with_reducible repeat (first | refine blk_drewN ?_ _ | refine blk_drew ?_ | refine blk_alloc ?_ _)); exact BK357.out⟩, ⟨bZ⟩⟩
     case rest =>
      clear HC110
      try clear c1
      try clear c2
      try clear p2
      try clear c3
      try clear c4
      try clear c5
      try clear c5b0
      try clear c6
      try clear c7
      try clear c8
      try clear c9
      try clear c10
      try clear c11
      try clear c12
      try clear c13
      try clear c14
      try clear c15
      try clear c16
      try clear c17
      try clear c18
      try clear c19
      try clear c24
      try clear c31
      try clear c32
      try clear c38
      try clear c39
      try clear c40
      try clear c44
      try clear c45
      try clear c46
      try clear c47
      try clear c49
      try clear c50
      try clear c53
      try clear c54
      try clear c55
      try clear c57
      try clear c58
      try clear c61
      try clear c64
      try clear c72
      try clear c73
      try clear c74
      try clear c77
      try clear c77b0
      try clear c79
      try clear c80
      try clear c81
      try clear c82
      try clear c84
      try clear c85
      try clear c88
      try clear c89
      try clear c90
      try clear c92
      try clear c93
      try clear c96
      try clear c99
      try clear c99b0
      try clear c100
      try clear c101
      try clear c102
      try clear c107
      try clear c107b0
      try clear c107b1
      try clear c111
      try clear c112
      try clear c113
      try clear c118
      try clear c119
      try clear c127
      try clear c128
      try clear c129
      try clear c130
      try clear c134
      try clear c135
      try clear c136
      try clear c137
      try clear c138
      try clear c140
      try clear c141
      try clear c142
      try clear c145
      try clear c146
      try clear c147
      try clear c148
      try clear c150
      try clear c151
      try clear c152
      try clear hcz103_0
      try clear hcz103_1
      try clear hcz105_0
      try clear hcz105_1
      try clear hcz114_0
      try clear hcz114_1
      try clear hcz116_0
      try clear hcz116_1
      try clear hcz120_0
      try clear hcz120_1
      try clear hcz131_0
      try clear hcz131_1
      try clear hcz139_0
      try clear hcz139_1
      try clear hcz143_0
      try clear hcz143_1
      try clear hcz149_0
      try clear hcz149_1
      try clear hcz153_0
      try clear hcz153_1
      try clear hcz15_0
      try clear hcz15_1
      try clear hcz17_0
      try clear hcz17_1
      try clear hcz25_0
      try clear hcz25_1
      try clear hcz27_0
      try clear hcz27_1
      try clear hcz33_0
      try clear hcz33_1
      try clear hcz41_0
      try clear hcz41_1
      try clear hcz48_0
      try clear hcz48_1
      try clear hcz51_0
      try clear hcz51_1
      try clear hcz56_0
      try clear hcz56_1
      try clear hcz59_0
      try clear hcz59_1
      try clear hcz75_0
      try clear hcz75_1
      try clear hcz7_0
      try clear hcz7_1
      try clear hcz83_0
      try clear hcz83_1
      try clear hcz86_0
      try clear hcz86_1
      try clear hcz91_0
      try clear hcz91_1
      try clear hcz94_0
      try clear hcz94_1
      try clear hfz103_0
      try clear hfz103_1
      try clear hfz105_0
      try clear hfz105_1
      try clear hfz114_0
      try clear hfz114_1
      try clear hfz116_0
      try clear hfz116_1
      try clear hfz120_0
      try clear hfz120_1
      try clear hfz131_0
      try clear hfz131_1
      try clear hfz139_0
      try clear hfz139_1
      try clear hfz143_0
      try clear hfz143_1
      try clear hfz149_0
      try clear hfz149_1
      try clear hfz153_0
      try clear hfz153_1
      try clear hfz15_0
      try clear hfz15_1
      try clear hfz17_0
      try clear hfz17_1
      try clear hfz25_0
      try clear hfz25_1
      try clear hfz27_0
      try clear hfz27_1
      try clear hfz33_0
      try clear hfz33_1
      try clear hfz41_0
      try clear hfz41_1
      try clear hfz48_0
      try clear hfz48_1
      try clear hfz51_0
      try clear hfz51_1
      try clear hfz56_0
      try clear hfz56_1
      try clear hfz59_0
      try clear hfz59_1
      try clear hfz75_0
      try clear hfz75_1
      try clear hfz7_0
      try clear hfz7_1
      try clear hfz83_0
      try clear hfz83_1
      try clear hfz86_0
      try clear hfz86_1
      try clear hfz91_0
      try clear hfz91_1
      try clear hfz94_0
      try clear hfz94_1
      try clear p2
      obtain ⟨kq, x97_109, rfl, HA, HJ109, HO_313000, HO_313001, HO_320000, HO_320001, HO_328000, HO_328001, HO_358000, HO_358001, BK297, BK312, BK319, BK327, BK357, HB⟩ := hcut
      have hl328000_109 := (Kd.R_reads' HO_328000.out).1
      rw [hl328000_109] at HO_328000
      (try simp only [hl328000_109])
      (try simp only [hl328000_109] at BK297)
      (try simp only [hl328000_109] at BK312)
      (try simp only [hl328000_109] at BK319)
      (try simp only [hl328000_109] at BK327)
      (try simp only [hl328000_109] at BK357)
      (try simp only [hl328000_109] at HO_313000)
      (try simp only [hl328000_109] at HO_313001)
      (try simp only [hl328000_109] at HO_320000)
      (try simp only [hl328000_109] at HO_320001)
      (try simp only [hl328000_109] at HO_328001)
      (try simp only [hl328000_109] at HO_358000)
      (try simp only [hl328000_109] at HO_358001)
      have hl328001_109 := (Kd.R_reads' HO_328001.out).1
      rw [hl328001_109] at HO_328001
      (try simp only [hl328001_109])
      (try simp only [hl328001_109] at BK297)
      (try simp only [hl328001_109] at BK312)
      (try simp only [hl328001_109] at BK319)
      (try simp only [hl328001_109] at BK327)
      (try simp only [hl328001_109] at BK357)
      (try simp only [hl328001_109] at HO_313000)
      (try simp only [hl328001_109] at HO_313001)
      (try simp only [hl328001_109] at HO_320000)
      (try simp only [hl328001_109] at HO_320001)
      (try simp only [hl328001_109] at HO_328000)
      (try simp only [hl328001_109] at HO_358000)
      (try simp only [hl328001_109] at HO_358001)
      cases kq with
      | zero => exact absurd HA.out (by simp [laws_FnExactIssue.j2])
      | succ kj109 =>
       have H := HA.out
       clear HA
       simp only [laws_FnExactIssue.j2] at H
       by_cases c155 : x97_109 = true
       ·subst c155
        have H1 : (some false) = some r := by rw [if_pos rfl] at H; exact H
        clear H
        have H := H1
        clear H1
        obtain rfl := Option.some.inj H
        go_wp2
        go_ret
        exact ⟨tZC, bZ⟩
       replace c155 := Bool.eq_false_iff.mpr c155
       subst c155
       have H1 : ((laws_heldRegister.f kj109 t341 t342 1).bind fun t359 => (if t359 < 0 then (some false) else (if t359 = t340 then (some true) else (some false)))) = some r := by rw [if_neg (show ¬ (false = true) by decide)] at H; exact H
       clear H
       have H := H1
       clear H1
       replace H := Option.bind_eq_some_iff.mp H
       obtain ⟨t359, A1560, H⟩ := H
       replace H : (if t359 < 0 then (some false) else (if t359 = t340 then (some true) else (some false))) = some r := H
       have A156 := Aside0.mk A1560
       clear A1560
       by_cases c157 : t359 < 0
       ·rw [if_pos c157] at H
        have c157b0 := decide_eq_true c157
        clear c157
        obtain rfl := Option.some.inj H
        have hnb158 := NB327_297.out
        have hnc158 := NB297_327.out
        have hnb159 := NB327_312.out
        have hnc159 := NB312_327.out
        have hnb160 := NB327_319.out
        have hnc160 := NB319_327.out
        have hnb161 := NB327_357.out
        have hnc161 := NB357_327.out
        have hcz162_0 : wc.cell? ⟨gb327, 0, none⟩ = some (.slice Ao37 t341.length co37) := (blk_cell BK327.out 0).trans rfl
        have hcz162_1 : wc.cell? ⟨gb327, 1, none⟩ = some (.slice Ao42 t342.length co42) := (blk_cell BK327.out 1).trans rfl
        have hfz162_0 := blk_frozen BK327.out 0
        have hfz162_1 := blk_frozen BK327.out 1
        go_wp2_with (first | ((with_reducible refine gate_callee (f := 19) rfl ?_); refine goesL_ (some 100) rfl rfl Try.func19 kZ rfl #[.agg #[.slice Ao37 t341.length co37, .slice Ao42 t342.length co42], .int .i64 1] rfl tZA ?_; (with_reducible refine (laws_heldRegister.calls kj109 _ _ t341 _ _ t342 1 t359 _ ?side1 ?side2 ?side3 ?side4 A156.out).mono ?_); (case side1 => repeat (first | exact (Kd.R_reads' HO_328000.out).2.2 | (with_reducible refine Kd.C_alloc ?_ _) | (with_reducible refine Kd.C_drewN ?_ _) | (with_reducible refine Kd.C_drew ?_))); (case side2 => exact (Kd.R_reads' HO_328000.out).2.1); (case side3 => repeat (first | exact (Kd.R_reads' HO_328001.out).2.2 | (with_reducible refine Kd.C_alloc ?_ _) | (with_reducible refine Kd.C_drewN ?_ _) | (with_reducible refine Kd.C_drew ?_))); (case side4 => exact (Kd.R_reads' HO_328001.out).2.1); rintro e w163 ⟨rfl, hb⟩; refine ⟨_, rfl, ?_⟩; replace HO_313000 := aZ (Kd.R_below (lZR HO_313000.out) hb); replace HO_313001 := aZ (Kd.R_below (lZR HO_313001.out) hb); replace HO_320000 := aZ (Kd.R_below (lZR HO_320000.out) hb); replace HO_320001 := aZ (Kd.R_below (lZR HO_320001.out) hb); replace HO_328000 := aZ (Kd.R_below (lZR HO_328000.out) hb); replace HO_328001 := aZ (Kd.R_below (lZR HO_328001.out) hb); replace HO_358000 := aZ (Kd.R_below (lZR HO_358000.out) hb); replace HO_358001 := aZ (Kd.R_below (lZR HO_358001.out) hb); replace BK297 := aZ (blk_below (bkZ BK297.out) hb); replace BK312 := aZ (blk_below (bkZ BK312.out) hb); replace BK319 := aZ (blk_below (bkZ BK319.out) hb); replace BK327 := aZ (blk_below (bkZ BK327.out) hb); replace BK357 := aZ (blk_below (bkZ BK357.out) hb); replace HB := aZ (below_step bZ hb); (try clear hb); (try clear hb2); (try clear hk); (try clear hi)))
        go_ret
        exact ⟨tZC, bZ⟩
       rw [if_neg c157] at H
       have c157b0 := decide_eq_false c157
       clear c157
       by_cases c164 : t359 = t340
       rotate_left
       ·rw [if_neg c164] at H
        have c164b0 : (t359 == t340) = false := beq_eq_false_iff_ne.mpr c164
        have c164b1 : (t359 != t340) = true := bne_iff_ne.mpr c164
        obtain rfl := Option.some.inj H
        have hnb171 := NB327_297.out
        have hnc171 := NB297_327.out
        have hnb172 := NB327_312.out
        have hnc172 := NB312_327.out
        have hnb173 := NB327_319.out
        have hnc173 := NB319_327.out
        have hnb174 := NB327_357.out
        have hnc174 := NB357_327.out
        have hcz175_0 : wc.cell? ⟨gb327, 0, none⟩ = some (.slice Ao37 t341.length co37) := (blk_cell BK327.out 0).trans rfl
        have hcz175_1 : wc.cell? ⟨gb327, 1, none⟩ = some (.slice Ao42 t342.length co42) := (blk_cell BK327.out 1).trans rfl
        have hfz175_0 := blk_frozen BK327.out 0
        have hfz175_1 := blk_frozen BK327.out 1
        go_wp2_with (first | ((with_reducible refine gate_callee (f := 19) rfl ?_); refine goesL_ (some 100) rfl rfl Try.func19 kZ rfl #[.agg #[.slice Ao37 t341.length co37, .slice Ao42 t342.length co42], .int .i64 1] rfl tZA ?_; (with_reducible refine (laws_heldRegister.calls kj109 _ _ t341 _ _ t342 1 t359 _ ?side1 ?side2 ?side3 ?side4 A156.out).mono ?_); (case side1 => repeat (first | exact (Kd.R_reads' HO_328000.out).2.2 | (with_reducible refine Kd.C_alloc ?_ _) | (with_reducible refine Kd.C_drewN ?_ _) | (with_reducible refine Kd.C_drew ?_))); (case side2 => exact (Kd.R_reads' HO_328000.out).2.1); (case side3 => repeat (first | exact (Kd.R_reads' HO_328001.out).2.2 | (with_reducible refine Kd.C_alloc ?_ _) | (with_reducible refine Kd.C_drewN ?_ _) | (with_reducible refine Kd.C_drew ?_))); (case side4 => exact (Kd.R_reads' HO_328001.out).2.1); rintro e w176 ⟨rfl, hb⟩; refine ⟨_, rfl, ?_⟩; replace HO_313000 := aZ (Kd.R_below (lZR HO_313000.out) hb); replace HO_313001 := aZ (Kd.R_below (lZR HO_313001.out) hb); replace HO_320000 := aZ (Kd.R_below (lZR HO_320000.out) hb); replace HO_320001 := aZ (Kd.R_below (lZR HO_320001.out) hb); replace HO_328000 := aZ (Kd.R_below (lZR HO_328000.out) hb); replace HO_328001 := aZ (Kd.R_below (lZR HO_328001.out) hb); replace HO_358000 := aZ (Kd.R_below (lZR HO_358000.out) hb); replace HO_358001 := aZ (Kd.R_below (lZR HO_358001.out) hb); replace BK297 := aZ (blk_below (bkZ BK297.out) hb); replace BK312 := aZ (blk_below (bkZ BK312.out) hb); replace BK319 := aZ (blk_below (bkZ BK319.out) hb); replace BK327 := aZ (blk_below (bkZ BK327.out) hb); replace BK357 := aZ (blk_below (bkZ BK357.out) hb); replace HB := aZ (below_step bZ hb); (try clear hb); (try clear hb2); (try clear hk); (try clear hi)))
        go_ret
        exact ⟨tZC, bZ⟩
       rw [if_pos c164] at H
       have c164b0 : (t359 == t340) = true := beq_iff_eq.mpr c164
       have c164b1 : (t359 != t340) = false := bne_eq_false_iff_eq.mpr c164
       clear c164
       obtain rfl := Option.some.inj H
       have hnb165 := NB327_297.out
       have hnc165 := NB297_327.out
       have hnb166 := NB327_312.out
       have hnc166 := NB312_327.out
       have hnb167 := NB327_319.out
       have hnc167 := NB319_327.out
       have hnb168 := NB327_357.out
       have hnc168 := NB357_327.out
       have hcz169_0 : wc.cell? ⟨gb327, 0, none⟩ = some (.slice Ao37 t341.length co37) := (blk_cell BK327.out 0).trans rfl
       have hcz169_1 : wc.cell? ⟨gb327, 1, none⟩ = some (.slice Ao42 t342.length co42) := (blk_cell BK327.out 1).trans rfl
       have hfz169_0 := blk_frozen BK327.out 0
       have hfz169_1 := blk_frozen BK327.out 1
       go_wp2_with (first | ((with_reducible refine gate_callee (f := 19) rfl ?_); refine goesL_ (some 100) rfl rfl Try.func19 kZ rfl #[.agg #[.slice Ao37 t341.length co37, .slice Ao42 t342.length co42], .int .i64 1] rfl tZA ?_; (with_reducible refine (laws_heldRegister.calls kj109 _ _ t341 _ _ t342 1 t359 _ ?side1 ?side2 ?side3 ?side4 A156.out).mono ?_); (case side1 => repeat (first | exact (Kd.R_reads' HO_328000.out).2.2 | (with_reducible refine Kd.C_alloc ?_ _) | (with_reducible refine Kd.C_drewN ?_ _) | (with_reducible refine Kd.C_drew ?_))); (case side2 => exact (Kd.R_reads' HO_328000.out).2.1); (case side3 => repeat (first | exact (Kd.R_reads' HO_328001.out).2.2 | (with_reducible refine Kd.C_alloc ?_ _) | (with_reducible refine Kd.C_drewN ?_ _) | (with_reducible refine Kd.C_drew ?_))); (case side4 => exact (Kd.R_reads' HO_328001.out).2.1); rintro e w170 ⟨rfl, hb⟩; refine ⟨_, rfl, ?_⟩; replace HO_313000 := aZ (Kd.R_below (lZR HO_313000.out) hb); replace HO_313001 := aZ (Kd.R_below (lZR HO_313001.out) hb); replace HO_320000 := aZ (Kd.R_below (lZR HO_320000.out) hb); replace HO_320001 := aZ (Kd.R_below (lZR HO_320001.out) hb); replace HO_328000 := aZ (Kd.R_below (lZR HO_328000.out) hb); replace HO_328001 := aZ (Kd.R_below (lZR HO_328001.out) hb); replace HO_358000 := aZ (Kd.R_below (lZR HO_358000.out) hb); replace HO_358001 := aZ (Kd.R_below (lZR HO_358001.out) hb); replace BK297 := aZ (blk_below (bkZ BK297.out) hb); replace BK312 := aZ (blk_below (bkZ BK312.out) hb); replace BK319 := aZ (blk_below (bkZ BK319.out) hb); replace BK327 := aZ (blk_below (bkZ BK327.out) hb); replace BK357 := aZ (blk_below (bkZ BK357.out) hb); replace HB := aZ (below_step bZ hb); (try clear hb); (try clear hb2); (try clear hk); (try clear hi)))
       go_ret
       exact ⟨tZC, bZ⟩
def laws_FnExactIssue.Pure : Prop := ∀ (l0_0 : List (S201)) (l0_1 : List (S204)) (a1 : Int) (a2 : Int), (l0_0.length ≤ maxLen ∧ ∀ y ∈ l0_0, wf201 y) → (l0_1.length ≤ maxLen ∧ ∀ y ∈ l0_1, wf204 y) → ((Lit.int .i64 a1).wf = true) → ((Lit.int .i64 a2).wf = true) → ∃ k, laws_FnExactIssue.f k l0_0 l0_1 a1 a2 = some true
end Go.Proofs.Ytifkchkjpbpolaa.PFnExactIssue
