import Derived.Test.YtnbecbgpefmcoaaVPFnExactVoidx0
import Derived.Test.YtnbecbgpefmcoaaVPFnExactVoidx1
import Derived.Test.YtnbecbgpefmcoaaVPFnExactVoidx5
import Derived.Test.YtnbecbgpefmcoaaVPFnExactVoidx6
import Derived.Test.YtnbecbgpefmcoaaVPFnExactVoidx8
import Derived.Test.YtnbecbgpefmcoaaVPFnExactVoidx10
import Derived.Test.YtnbecbgpefmcoaaVPFnExactVoidx11
import Derived.Test.YtnbecbgpefmcoaaVSlimWords
namespace Go.Proofs.Ytnbecbgpefmcoaa.PFnExactVoid
open Go.Proofs.Ytnbecbgpefmcoaa.SlimWords
open Go.RowKit Go.Proofs.YtnbecbgpefmcoaaW.PrintWords Go.Proofs.YtnbecbgpefmcoaaW.PrintLast Go.Proofs.YtnbecbgpefmcoaaW.PrintMore Go.Proofs.Ytnbecbgpefmcoaa.MapWords
attribute [local go_sem] max2_int min2_int max_two min_two max_three min_three max_four min_four
set_option linter.unusedVariables false
set_option linter.unusedSimpArgs false
mutual
def laws_FnExactVoid.j0 : Nat → Int → Bool → Bool → Bool → List (S303) → List (S307) → List (S304) → List (S230) → List (S304) → List (S230) → List (S304) → List (S230) → Option (Bool)
  | 0, _, _, _, _, _, _, _, _, _, _, _, _ => none
  | k + 1, x1, x7, x10, x44, x286000, x286001, x301000, x301001, x308000, x308001, x316000, x316001 => if x44 = true then (some false) else ((laws_toRegister.f k x286000 x286001).bind fun bt317 => ((laws_eqRegister.f k x308000 x308001 bt317.1 bt317.2).bind fun t323 => (if t323 = true then ((laws_markRegister.f k x308000 x308001 1).bind fun bt324 => (if bt324.1 < 0 then (laws_FnExactVoid.j1 k x1 x7 true x286000 x286001 x301000 x301001 x316000 x316001) else ((laws_eqRegister.f k x316000 x316001 x301000 x301001).bind fun t327 => (if t327 = true then (laws_FnExactVoid.j1 k x1 x7 (x10 != x7) x286000 x286001 x301000 x301001 x316000 x316001) else (laws_FnExactVoid.j1 k x1 x7 true x286000 x286001 x301000 x301001 x316000 x316001))))) else (some false))))
def laws_FnExactVoid.j1 : Nat → Int → Bool → Bool → List (S303) → List (S307) → List (S304) → List (S230) → List (S304) → List (S230) → Option (Bool)
  | 0, _, _, _, _, _, _, _, _, _ => none
  | k + 1, x1, x7, x65, x286000, x286001, x301000, x301001, x316000, x316001 => if x65 = true then (some false) else ((laws_markRegister.f k x316000 x316001 1).bind fun bt328 => ((laws_heldRegister.f k bt328.2.1 bt328.2.2 1).bind fun t331 => (if t331 < 0 then (some false) else (if t331 = bt328.1 then ((laws_toRegister.f k x286000 x286001).bind fun bt332 => ((impl_Void.f k bt332.1 bt332.2 x1).bind fun bt338 => ((laws_eqRegister.f k bt338.1 bt338.2.1 x301000 x301001).bind fun t346 => (if t346 = true then (laws_FnExactVoid.j2 k bt328.1 (bt338.2.2 != x7) bt328.2.1 bt328.2.2) else (laws_FnExactVoid.j2 k bt328.1 true bt328.2.1 bt328.2.2))))) else (some false)))))
def laws_FnExactVoid.j2 : Nat → Int → Bool → List (S304) → List (S230) → Option (Bool)
  | 0, _, _, _, _ => none
  | k + 1, x12, x92, x316000, x316001 => if x92 = true then (some false) else ((laws_heldRegister.f k x316000 x316001 1).bind fun t347 => (if t347 < 0 then (some false) else (if t347 = x12 then (some true) else (some false))))
end
def laws_FnExactVoid.f (k : Nat) (l0_0 : List (S303)) (l0_1 : List (S307)) (a1 : Int) : Option (Bool) := (laws_szRegister.f k l0_0 l0_1 1048576).bind fun t286 => (if t286 < 0 then (some true) else ((laws_toRegister.f k l0_0 l0_1).bind fun bt287 => ((spec_Void.f k bt287.1 bt287.2 a1).bind fun bt293 => ((laws_toRegister.f k l0_0 l0_1).bind fun bt301 => ((impl_Void.f k bt301.1 bt301.2 a1).bind fun bt308 => ((laws_eqRegister.f k bt308.1 bt308.2.1 bt293.1 bt293.2.1).bind fun t316 => (if t316 = true then (laws_FnExactVoid.j0 k a1 bt293.2.2 bt308.2.2 (bt308.2.2 != bt293.2.2) l0_0 l0_1 bt293.1 bt293.2.1 bt301.1 bt301.2 bt308.1 bt308.2.1) else (laws_FnExactVoid.j0 k a1 bt293.2.2 bt308.2.2 true l0_0 l0_1 bt293.1 bt293.2.1 bt301.1 bt301.2 bt308.1 bt308.2.1))))))))
theorem laws_FnExactVoid.mono_l : ∀ k, (∀ y0 y1 y2 y3 y4 y5 y6 y7 y8 y9 y10 y11, LeO (laws_FnExactVoid.j0 k y0 y1 y2 y3 y4 y5 y6 y7 y8 y9 y10 y11) (laws_FnExactVoid.j0 (k + 1) y0 y1 y2 y3 y4 y5 y6 y7 y8 y9 y10 y11)) ∧ (∀ y0 y1 y2 y3 y4 y5 y6 y7 y8, LeO (laws_FnExactVoid.j1 k y0 y1 y2 y3 y4 y5 y6 y7 y8) (laws_FnExactVoid.j1 (k + 1) y0 y1 y2 y3 y4 y5 y6 y7 y8)) ∧ (∀ y0 y1 y2 y3, LeO (laws_FnExactVoid.j2 k y0 y1 y2 y3) (laws_FnExactVoid.j2 (k + 1) y0 y1 y2 y3))
  | 0 => ⟨fun _ _ _ _ _ _ _ _ _ _ _ _ r h => by simp [laws_FnExactVoid.j0] at h, fun _ _ _ _ _ _ _ _ _ r h => by simp [laws_FnExactVoid.j1] at h, fun _ _ _ _ r h => by simp [laws_FnExactVoid.j2] at h⟩
  | k + 1 => by
    obtain ⟨ih0, ih1, ih2⟩ := laws_FnExactVoid.mono_l k
    refine ⟨?_, ?_, ?_⟩
    · intro y0 y1 y2 y3 y4 y5 y6 y7 y8 y9 y10 y11
      unfold laws_FnExactVoid.j0
      repeat' first
      | (with_reducible exact ih0 _ _ _ _ _ _ _ _ _ _ _ _)
      | (with_reducible exact ih1 _ _ _ _ _ _ _ _ _)
      | (with_reducible exact ih2 _ _ _ _)
      | (with_reducible exact impl_Void.mono _ _ _ _)
      | (with_reducible exact laws_eqRegister.mono _ _ _ _ _)
      | (with_reducible exact laws_heldRegister.mono _ _ _ _)
      | (with_reducible exact laws_markRegister.mono _ _ _ _)
      | (with_reducible exact laws_szRegister.mono _ _ _ _)
      | (with_reducible exact laws_toRegister.mono _ _ _)
      | (with_reducible exact spec_Void.mono _ _ _ _)
      | (with_reducible exact LeO.refl _)
      | (with_reducible exact LeO.none _)
      | (with_reducible refine LeO.ite ?_ ?_)
      | (with_reducible refine LeO.bind ?_ (fun _ => ?_))
      | exact ih0 _ _ _ _ _ _ _ _ _ _ _ _
      | exact ih1 _ _ _ _ _ _ _ _ _
      | exact ih2 _ _ _ _
      | exact impl_Void.mono _ _ _ _
      | exact laws_eqRegister.mono _ _ _ _ _
      | exact laws_heldRegister.mono _ _ _ _
      | exact laws_markRegister.mono _ _ _ _
      | exact laws_szRegister.mono _ _ _ _
      | exact laws_toRegister.mono _ _ _
      | exact spec_Void.mono _ _ _ _
      | exact LeO.none _
      | refine LeO.ite ?_ ?_
      | refine LeO.bind ?_ (fun _ => ?_)
    · intro y0 y1 y2 y3 y4 y5 y6 y7 y8
      unfold laws_FnExactVoid.j1
      repeat' first
      | (with_reducible exact ih0 _ _ _ _ _ _ _ _ _ _ _ _)
      | (with_reducible exact ih1 _ _ _ _ _ _ _ _ _)
      | (with_reducible exact ih2 _ _ _ _)
      | (with_reducible exact impl_Void.mono _ _ _ _)
      | (with_reducible exact laws_eqRegister.mono _ _ _ _ _)
      | (with_reducible exact laws_heldRegister.mono _ _ _ _)
      | (with_reducible exact laws_markRegister.mono _ _ _ _)
      | (with_reducible exact laws_szRegister.mono _ _ _ _)
      | (with_reducible exact laws_toRegister.mono _ _ _)
      | (with_reducible exact spec_Void.mono _ _ _ _)
      | (with_reducible exact LeO.refl _)
      | (with_reducible exact LeO.none _)
      | (with_reducible refine LeO.ite ?_ ?_)
      | (with_reducible refine LeO.bind ?_ (fun _ => ?_))
      | exact ih0 _ _ _ _ _ _ _ _ _ _ _ _
      | exact ih1 _ _ _ _ _ _ _ _ _
      | exact ih2 _ _ _ _
      | exact impl_Void.mono _ _ _ _
      | exact laws_eqRegister.mono _ _ _ _ _
      | exact laws_heldRegister.mono _ _ _ _
      | exact laws_markRegister.mono _ _ _ _
      | exact laws_szRegister.mono _ _ _ _
      | exact laws_toRegister.mono _ _ _
      | exact spec_Void.mono _ _ _ _
      | exact LeO.none _
      | refine LeO.ite ?_ ?_
      | refine LeO.bind ?_ (fun _ => ?_)
    · intro y0 y1 y2 y3
      unfold laws_FnExactVoid.j2
      repeat' first
      | (with_reducible exact ih0 _ _ _ _ _ _ _ _ _ _ _ _)
      | (with_reducible exact ih1 _ _ _ _ _ _ _ _ _)
      | (with_reducible exact ih2 _ _ _ _)
      | (with_reducible exact impl_Void.mono _ _ _ _)
      | (with_reducible exact laws_eqRegister.mono _ _ _ _ _)
      | (with_reducible exact laws_heldRegister.mono _ _ _ _)
      | (with_reducible exact laws_markRegister.mono _ _ _ _)
      | (with_reducible exact laws_szRegister.mono _ _ _ _)
      | (with_reducible exact laws_toRegister.mono _ _ _)
      | (with_reducible exact spec_Void.mono _ _ _ _)
      | (with_reducible exact LeO.refl _)
      | (with_reducible exact LeO.none _)
      | (with_reducible refine LeO.ite ?_ ?_)
      | (with_reducible refine LeO.bind ?_ (fun _ => ?_))
      | exact ih0 _ _ _ _ _ _ _ _ _ _ _ _
      | exact ih1 _ _ _ _ _ _ _ _ _
      | exact ih2 _ _ _ _
      | exact impl_Void.mono _ _ _ _
      | exact laws_eqRegister.mono _ _ _ _ _
      | exact laws_heldRegister.mono _ _ _ _
      | exact laws_markRegister.mono _ _ _ _
      | exact laws_szRegister.mono _ _ _ _
      | exact laws_toRegister.mono _ _ _
      | exact spec_Void.mono _ _ _ _
      | exact LeO.none _
      | refine LeO.ite ?_ ?_
      | refine LeO.bind ?_ (fun _ => ?_)
theorem laws_FnExactVoid.mono : ∀ a0 a1 a2 k, LeO (laws_FnExactVoid.f k a0 a1 a2) (laws_FnExactVoid.f (k + 1) a0 a1 a2) := by
 intro a0 a1 a2 k
 obtain ⟨ih0, ih1, ih2⟩ := laws_FnExactVoid.mono_l k
 unfold laws_FnExactVoid.f
 repeat' first
     | (with_reducible exact ih0 _ _ _ _ _ _ _ _ _ _ _ _)
     | (with_reducible exact ih1 _ _ _ _ _ _ _ _ _)
     | (with_reducible exact ih2 _ _ _ _)
     | (with_reducible exact impl_Void.mono _ _ _ _)
     | (with_reducible exact laws_eqRegister.mono _ _ _ _ _)
     | (with_reducible exact laws_heldRegister.mono _ _ _ _)
     | (with_reducible exact laws_markRegister.mono _ _ _ _)
     | (with_reducible exact laws_szRegister.mono _ _ _ _)
     | (with_reducible exact laws_toRegister.mono _ _ _)
     | (with_reducible exact spec_Void.mono _ _ _ _)
     | (with_reducible exact LeO.refl _)
     | (with_reducible exact LeO.none _)
     | (with_reducible refine LeO.ite ?_ ?_)
     | (with_reducible refine LeO.bind ?_ (fun _ => ?_))
     | exact ih0 _ _ _ _ _ _ _ _ _ _ _ _
     | exact ih1 _ _ _ _ _ _ _ _ _
     | exact ih2 _ _ _ _
     | exact impl_Void.mono _ _ _ _
     | exact laws_eqRegister.mono _ _ _ _ _
     | exact laws_heldRegister.mono _ _ _ _
     | exact laws_markRegister.mono _ _ _ _
     | exact laws_szRegister.mono _ _ _ _
     | exact laws_toRegister.mono _ _ _
     | exact spec_Void.mono _ _ _ _
     | exact LeO.none _
     | refine LeO.ite ?_ ?_
     | refine LeO.bind ?_ (fun _ => ?_)
set_option maxHeartbeats 8000000 in
set_option maxRecDepth 100000 in
theorem laws_FnExactVoid.calls (k : Nat) (A0_0 : Option Addr) (c0_0 : Nat) (l0_0 : List (S303)) (A0_1 : Option Addr) (c0_1 : Nat) (l0_1 : List (S307)) (a1 : Int) (r : Bool) (w : World) (hr0_0 : Kd.C k303 w A0_0 l0_0.length l0_0) (hc0_0 : l0_0.length ≤ c0_0) (hr0_1 : Kd.C k307 w A0_1 l0_1.length l0_1) (hc0_1 : l0_1.length ≤ c0_1) (h : laws_FnExactVoid.f k l0_0 l0_1 a1 = some r) :
    Calls Try.prog 8 #[.agg #[.slice A0_0 l0_0.length c0_0, .slice A0_1 l0_1.length c0_1], .int .i64 a1] w fun e w' => e = .returned (.bool r) ∧ Below w.heap.size w w' := by
 have hu81 := Try.underlying81
 have hu86 := Try.underlying86
 have HR0_0 := Aside0.mk hr0_0
 have HC0_0 := Aside0.mk hc0_0
 clear hr0_0 hc0_0
 have HR0_1 := Aside0.mk hr0_1
 have HC0_1 := Aside0.mk hc0_1
 clear hr0_1 hc0_1
 have HB := aZ (Below.refl w.heap.size w)
 have H : ((laws_szRegister.f k l0_0 l0_1 1048576).bind fun t286 => (if t286 < 0 then (some true) else ((laws_toRegister.f k l0_0 l0_1).bind fun bt287 => ((spec_Void.f k bt287.1 bt287.2 a1).bind fun bt293 => ((laws_toRegister.f k l0_0 l0_1).bind fun bt301 => ((impl_Void.f k bt301.1 bt301.2 a1).bind fun bt308 => ((laws_eqRegister.f k bt308.1 bt308.2.1 bt293.1 bt293.2.1).bind fun t316 => (if t316 = true then (laws_FnExactVoid.j0 k a1 bt293.2.2 bt308.2.2 (bt308.2.2 != bt293.2.2) l0_0 l0_1 bt293.1 bt293.2.1 bt301.1 bt301.2 bt308.1 bt308.2.1) else (laws_FnExactVoid.j0 k a1 bt293.2.2 bt308.2.2 true l0_0 l0_1 bt293.1 bt293.2.1 bt301.1 bt301.2 bt308.1 bt308.2.1))))))))) = some r := h
 clear h
 replace H := Option.bind_eq_some_iff.mp H
 obtain ⟨t286, A30, H⟩ := H
 replace H : (if t286 < 0 then (some true) else ((laws_toRegister.f k l0_0 l0_1).bind fun bt287 => ((spec_Void.f k bt287.1 bt287.2 a1).bind fun bt293 => ((laws_toRegister.f k l0_0 l0_1).bind fun bt301 => ((impl_Void.f k bt301.1 bt301.2 a1).bind fun bt308 => ((laws_eqRegister.f k bt308.1 bt308.2.1 bt293.1 bt293.2.1).bind fun t316 => (if t316 = true then (laws_FnExactVoid.j0 k a1 bt293.2.2 bt308.2.2 (bt308.2.2 != bt293.2.2) l0_0 l0_1 bt293.1 bt293.2.1 bt301.1 bt301.2 bt308.1 bt308.2.1) else (laws_FnExactVoid.j0 k a1 bt293.2.2 bt308.2.2 true l0_0 l0_1 bt293.1 bt293.2.1 bt301.1 bt301.2 bt308.1 bt308.2.1)))))))) = some r := H
 have A3 := Aside0.mk A30
 clear A30
 by_cases c4 : t286 < 0
 ·rw [if_pos c4] at H
  have c4b0 := decide_eq_true c4
  clear c4
  obtain rfl := Option.some.inj H
  go_enter Try.func8, Try.ntmps8
  go_wp2_with (first | ((with_reducible refine gate_dst (N := 2) rfl ?_); refine box_event ?hg (N := 2) ?hd (cs := #[.slice A0_0 l0_0.length c0_0, .slice A0_1 l0_1.length c0_1]) (t := 81) ?hr ?_; (case hd => rfl); (case hg => rfl); (case hr => first | (go_simp; done) | (go_simp; rfl)); intro gb285 hg w5 hbox hb; have BK285 := aZ (hbox); have GW285 := aZ ((by rw [hg]; exact (below_size (lZB HB.out)) : w.heap.size ≤ gb285)); have GE285 := aZ ((by rw [hg]; exact (below_size (lZB HB.out)) : w.heap.size ≤ gb285)); replace HB := aZ (below_step (lZB HB.out) hb); clear hb hbox hg; have hcz6_0 : w5.cell? ⟨gb285, 0, none⟩ = some (.slice A0_0 l0_0.length c0_0) := (blk_cell BK285.out 0).trans rfl; have hcz6_1 : w5.cell? ⟨gb285, 1, none⟩ = some (.slice A0_1 l0_1.length c0_1) := (blk_cell BK285.out 1).trans rfl; have hfz6_0 := blk_frozen BK285.out 0; have hfz6_1 := blk_frozen BK285.out 1) | ((with_reducible refine gate_callee (f := 54) rfl ?_); refine goesL_ (some 18) rfl rfl Try.func54 kZ rfl #[.agg #[.slice A0_0 l0_0.length c0_0, .slice A0_1 l0_1.length c0_1], .int .i64 1048576] rfl tZA ?_; (with_reducible refine (laws_szRegister.calls k _ _ l0_0 _ _ l0_1 1048576 t286 _ ?side1 ?side2 ?side3 ?side4 A3.out).mono ?_); (case side1 => repeat (first | exact (Kd.C_below HR0_0.out HB.out) | (with_reducible refine Kd.C_alloc ?_ _) | (with_reducible refine Kd.C_drewN ?_ _) | (with_reducible refine Kd.C_drew ?_))); (case side2 => exact HC0_0.out); (case side3 => repeat (first | exact (Kd.C_below HR0_1.out HB.out) | (with_reducible refine Kd.C_alloc ?_ _) | (with_reducible refine Kd.C_drewN ?_ _) | (with_reducible refine Kd.C_drew ?_))); (case side4 => exact HC0_1.out); rintro e w7 ⟨rfl, hb⟩; refine ⟨_, rfl, ?_⟩; replace BK285 := aZ (blk_below (bkZ BK285.out) hb); replace HB := aZ (below_step bZ hb); (try clear hb); (try clear hb2); (try clear hk); (try clear hi)))
  go_ret
  exact ⟨tZC, bZ⟩
 rw [if_neg c4] at H
 have c4b0 := decide_eq_false c4
 clear c4
 replace H := Option.bind_eq_some_iff.mp H
 obtain ⟨⟨t287, t290⟩, A80, H⟩ := H
 replace H : ((spec_Void.f k t287 t290 a1).bind fun bt293 => ((laws_toRegister.f k l0_0 l0_1).bind fun bt301 => ((impl_Void.f k bt301.1 bt301.2 a1).bind fun bt308 => ((laws_eqRegister.f k bt308.1 bt308.2.1 bt293.1 bt293.2.1).bind fun t316 => (if t316 = true then (laws_FnExactVoid.j0 k a1 bt293.2.2 bt308.2.2 (bt308.2.2 != bt293.2.2) l0_0 l0_1 bt293.1 bt293.2.1 bt301.1 bt301.2 bt308.1 bt308.2.1) else (laws_FnExactVoid.j0 k a1 bt293.2.2 bt308.2.2 true l0_0 l0_1 bt293.1 bt293.2.1 bt301.1 bt301.2 bt308.1 bt308.2.1)))))) = some r := H
 have A8 := Aside0.mk A80
 clear A80
 replace H := Option.bind_eq_some_iff.mp H
 obtain ⟨⟨t293, t296, t299⟩, A90, H⟩ := H
 replace H : ((laws_toRegister.f k l0_0 l0_1).bind fun bt301 => ((impl_Void.f k bt301.1 bt301.2 a1).bind fun bt308 => ((laws_eqRegister.f k bt308.1 bt308.2.1 t293 t296).bind fun t316 => (if t316 = true then (laws_FnExactVoid.j0 k a1 t299 bt308.2.2 (bt308.2.2 != t299) l0_0 l0_1 t293 t296 bt301.1 bt301.2 bt308.1 bt308.2.1) else (laws_FnExactVoid.j0 k a1 t299 bt308.2.2 true l0_0 l0_1 t293 t296 bt301.1 bt301.2 bt308.1 bt308.2.1))))) = some r := H
 have A9 := Aside0.mk A90
 clear A90
 replace H := Option.bind_eq_some_iff.mp H
 obtain ⟨⟨t301, t304⟩, A100, H⟩ := H
 replace H : ((impl_Void.f k t301 t304 a1).bind fun bt308 => ((laws_eqRegister.f k bt308.1 bt308.2.1 t293 t296).bind fun t316 => (if t316 = true then (laws_FnExactVoid.j0 k a1 t299 bt308.2.2 (bt308.2.2 != t299) l0_0 l0_1 t293 t296 t301 t304 bt308.1 bt308.2.1) else (laws_FnExactVoid.j0 k a1 t299 bt308.2.2 true l0_0 l0_1 t293 t296 t301 t304 bt308.1 bt308.2.1)))) = some r := H
 have A10 := Aside0.mk A100
 clear A100
 replace H := Option.bind_eq_some_iff.mp H
 obtain ⟨⟨t308, t311, t314⟩, A110, H⟩ := H
 replace H : ((laws_eqRegister.f k t308 t311 t293 t296).bind fun t316 => (if t316 = true then (laws_FnExactVoid.j0 k a1 t299 t314 (t314 != t299) l0_0 l0_1 t293 t296 t301 t304 t308 t311) else (laws_FnExactVoid.j0 k a1 t299 t314 true l0_0 l0_1 t293 t296 t301 t304 t308 t311))) = some r := H
 have A11 := Aside0.mk A110
 clear A110
 have HC12 := Aside0.mk H
 clear H
 go_enter Try.func8, Try.ntmps8
 go_upto_region 8 with (first | ((with_reducible refine gate_dst (N := 2) rfl ?_); refine box_event ?hg (N := 2) ?hd (cs := #[.slice A0_0 l0_0.length c0_0, .slice A0_1 l0_1.length c0_1]) (t := 81) ?hr ?_; (case hd => rfl); (case hg => rfl); (case hr => first | (go_simp; done) | (go_simp; rfl)); intro gb285 hg w13 hbox hb; have BK285 := aZ (hbox); have GW285 := aZ ((by rw [hg]; exact (below_size (lZB HB.out)) : w.heap.size ≤ gb285)); have GE285 := aZ ((by rw [hg]; exact (below_size (lZB HB.out)) : w.heap.size ≤ gb285)); replace HB := aZ (below_step (lZB HB.out) hb); clear hb hbox hg; have hcz14_0 : w13.cell? ⟨gb285, 0, none⟩ = some (.slice A0_0 l0_0.length c0_0) := (blk_cell BK285.out 0).trans rfl; have hcz14_1 : w13.cell? ⟨gb285, 1, none⟩ = some (.slice A0_1 l0_1.length c0_1) := (blk_cell BK285.out 1).trans rfl; have hfz14_0 := blk_frozen BK285.out 0; have hfz14_1 := blk_frozen BK285.out 1) | ((with_reducible refine gate_callee (f := 54) rfl ?_); refine goesL_ (some 18) rfl rfl Try.func54 kZ rfl #[.agg #[.slice A0_0 l0_0.length c0_0, .slice A0_1 l0_1.length c0_1], .int .i64 1048576] rfl tZA ?_; (with_reducible refine (laws_szRegister.calls k _ _ l0_0 _ _ l0_1 1048576 t286 _ ?side1 ?side2 ?side3 ?side4 A3.out).mono ?_); (case side1 => repeat (first | exact (Kd.C_below HR0_0.out HB.out) | (with_reducible refine Kd.C_alloc ?_ _) | (with_reducible refine Kd.C_drewN ?_ _) | (with_reducible refine Kd.C_drew ?_))); (case side2 => exact HC0_0.out); (case side3 => repeat (first | exact (Kd.C_below HR0_1.out HB.out) | (with_reducible refine Kd.C_alloc ?_ _) | (with_reducible refine Kd.C_drewN ?_ _) | (with_reducible refine Kd.C_drew ?_))); (case side4 => exact HC0_1.out); rintro e w15 ⟨rfl, hb⟩; refine ⟨_, rfl, ?_⟩; replace BK285 := aZ (blk_below (bkZ BK285.out) hb); replace HB := aZ (below_step bZ hb); (try clear hb); (try clear hb2); (try clear hk); (try clear hi); have hcz16_0 : w15.cell? ⟨gb285, 0, none⟩ = some (.slice A0_0 l0_0.length c0_0) := (blk_cell BK285.out 0).trans rfl; have hcz16_1 : w15.cell? ⟨gb285, 1, none⟩ = some (.slice A0_1 l0_1.length c0_1) := (blk_cell BK285.out 1).trans rfl; have hfz16_0 := blk_frozen BK285.out 0; have hfz16_1 := blk_frozen BK285.out 1) | ((with_reducible refine gate_callee (f := 56) rfl ?_); refine goesL_ (some 23) rfl rfl Try.func56 kZ rfl #[.agg #[.slice A0_0 l0_0.length c0_0, .slice A0_1 l0_1.length c0_1]] rfl tZA ?_; (with_reducible refine (laws_toRegister.calls k _ _ l0_0 _ _ l0_1 t287 t290 _ ?side1 ?side2 ?side3 ?side4 A8.out).mono ?_); (case side1 => repeat (first | exact (Kd.C_below HR0_0.out HB.out) | (with_reducible refine Kd.C_alloc ?_ _) | (with_reducible refine Kd.C_drewN ?_ _) | (with_reducible refine Kd.C_drew ?_))); (case side2 => exact HC0_0.out); (case side3 => repeat (first | exact (Kd.C_below HR0_1.out HB.out) | (with_reducible refine Kd.C_alloc ?_ _) | (with_reducible refine Kd.C_drewN ?_ _) | (with_reducible refine Kd.C_drew ?_))); (case side4 => exact HC0_1.out); rintro e w17 ⟨v288, v291, rfl, ho0, ho1, hb⟩; refine ⟨_, rfl, ?_⟩; have HO289 := aZ (Kd.R_lower ho0 (below_size bZ)); have HO292 := aZ (Kd.R_lower ho1 (below_size bZ)); replace BK285 := aZ (blk_below (bkZ BK285.out) hb); replace HB := aZ (below_step bZ hb); (try clear hb); (try clear hb2); (try clear hk); (try clear hi); (try clear ho0); (try clear ho1); obtain ⟨Ao18, co18, eo18⟩ := Kd.R_slice HO289.out; subst eo18; obtain ⟨Ao19, co19, eo19⟩ := Kd.R_slice HO292.out; subst eo19) | ((with_reducible refine gate_callee (f := 55) rfl ?_); refine goesL_ (some 25) rfl rfl Try.func55 kZ rfl #[.agg #[.slice Ao18 t287.length co18, .slice Ao19 t290.length co19], .int .i64 a1] rfl tZA ?_; (with_reducible refine (spec_Void.calls k _ _ t287 _ _ t290 a1 t293 t296 t299 _ ?side1 ?side2 ?side3 ?side4 A9.out).mono ?_); (case side1 => repeat (first | exact (Kd.R_reads' HO289.out).2.2 | (with_reducible refine Kd.C_alloc ?_ _) | (with_reducible refine Kd.C_drewN ?_ _) | (with_reducible refine Kd.C_drew ?_))); (case side2 => exact (Kd.R_reads' HO289.out).2.1); (case side3 => repeat (first | exact (Kd.R_reads' HO292.out).2.2 | (with_reducible refine Kd.C_alloc ?_ _) | (with_reducible refine Kd.C_drewN ?_ _) | (with_reducible refine Kd.C_drew ?_))); (case side4 => exact (Kd.R_reads' HO292.out).2.1); rintro e w20 ⟨v294, v297, rfl, ho0, ho1, hb⟩; refine ⟨_, rfl, ?_⟩; have HO295 := aZ (Kd.R_lower (Kd.R_new' ho0 (Kd.R_lt (lZR HO289.out))) (below_size bZ)); replace HO289 := aZ (Kd.R_elder' (lZR HO289.out) (Kd.R_base ho0) hb); have HO298 := aZ (Kd.R_lower (Kd.R_new' ho1 (Kd.R_lt (lZR HO292.out))) (below_size bZ)); replace HO292 := aZ (Kd.R_elder' (lZR HO292.out) (Kd.R_base ho1) hb); replace BK285 := aZ (blk_below (bkZ BK285.out) hb); replace HB := aZ (below_step bZ hb); (try clear hb); (try clear hb2); (try clear hk); (try clear hi); (try clear ho0); (try clear ho1)) | ((with_reducible refine gate_dst (N := 6) rfl ?_); refine box_event ?hg (N := 6) ?hd (cs := #[.slice none 0 0, .slice none 0 0]) (t := 86) ?hr ?_; (case hd => rfl); (case hg => rfl); (case hr => first | (go_simp; done) | (go_simp; rfl)); intro gb300 hg w21 hbox hb; replace HO289 := aZ (Kd.R_below (lZR HO289.out) hb); replace HO292 := aZ (Kd.R_below (lZR HO292.out) hb); replace HO295 := aZ (Kd.R_below (lZR HO295.out) hb); replace HO298 := aZ (Kd.R_below (lZR HO298.out) hb); have BK300 := aZ (hbox); have GW300 := aZ ((by rw [hg]; exact (below_size bZ) : w.heap.size ≤ gb300)); have GE300 := aZ ((by rw [hg]; exact (below_size bZ) : w.heap.size ≤ gb300)); replace HB := aZ (below_step bZ hb); have NB285_300 := aZ ((by rw [hg]; exact Nat.ne_of_lt (blk_lt (bkZ BK285.out)) : gb285 ≠ gb300)); have NB300_285 := aZ ((by rw [hg]; exact Nat.ne_of_gt (blk_lt (bkZ BK285.out)) : gb300 ≠ gb285)); replace BK285 := aZ (blk_below (bkZ BK285.out) hb); clear hb hbox hg; obtain ⟨Ao22, co22, eo22⟩ := Kd.R_slice HO295.out; subst eo22; have hnb23 := NB300_285.out; have hnc23 := NB285_300.out; have hcz24_0 : w21.cell? ⟨gb300, 0, none⟩ = some (.slice none 0 0) := (blk_cell BK300.out 0).trans rfl; have hcz24_1 : w21.cell? ⟨gb300, 1, none⟩ = some (.slice none 0 0) := (blk_cell BK300.out 1).trans rfl; have hfz24_0 := blk_frozen BK300.out 0; have hfz24_1 := blk_frozen BK300.out 1; obtain ⟨Ao25, co25, eo25⟩ := Kd.R_slice HO298.out; subst eo25; have hcz26_0 : w21.cell? ⟨gb285, 0, none⟩ = some (.slice A0_0 l0_0.length c0_0) := (blk_cell BK285.out 0).trans rfl; have hcz26_1 : w21.cell? ⟨gb285, 1, none⟩ = some (.slice A0_1 l0_1.length c0_1) := (blk_cell BK285.out 1).trans rfl; have hfz26_0 := blk_frozen BK285.out 0; have hfz26_1 := blk_frozen BK285.out 1) | ((with_reducible refine gate_callee (f := 56) rfl ?_); refine goesL_ (some 29) rfl rfl Try.func56 kZ rfl #[.agg #[.slice A0_0 l0_0.length c0_0, .slice A0_1 l0_1.length c0_1]] rfl tZA ?_; (with_reducible refine (laws_toRegister.calls k _ _ l0_0 _ _ l0_1 t301 t304 _ ?side1 ?side2 ?side3 ?side4 A10.out).mono ?_); (case side1 => exact Kd.C_below HR0_0.out bZ); (case side2 => exact HC0_0.out); (case side3 => exact Kd.C_below HR0_1.out bZ); (case side4 => exact HC0_1.out); rintro e w27 ⟨v302, v305, rfl, ho0, ho1, hb⟩; refine ⟨_, rfl, ?_⟩; have HO303 := aZ (Kd.R_lower (Kd.R_new' (Kd.R_new' ho0 (Kd.R_lt (by (with_reducible repeat (first | apply Kd.R_alloc | apply Kd.R_drewN | apply Kd.R_drew)); exact (Kd.R_mono (Kd.R_far (p := ⟨gb300, 1, none⟩) (Kd.R_far (p := ⟨gb300, 0, none⟩) (Kd.R_types HO289.out BK300.out (by decide)) (fun _ hk => hk.2) (.slice Ao22 t293.length co22)) (fun _ hk => hk.2) (.slice Ao25 t296.length co25)) (fun _ h_ => h_.1))))) (Kd.R_lt (by (with_reducible repeat (first | apply Kd.R_alloc | apply Kd.R_drewN | apply Kd.R_drew)); exact (Kd.R_mono (Kd.R_far (p := ⟨gb300, 1, none⟩) (Kd.R_far (p := ⟨gb300, 0, none⟩) (Kd.R_types HO295.out BK300.out (by decide)) (fun _ hk => hk.2) (.slice Ao22 t293.length co22)) (fun _ hk => hk.2) (.slice Ao25 t296.length co25)) (fun _ h_ => h_.1))))) (below_size bZ)); replace HO289 := aZ (Kd.R_elder' (by (with_reducible repeat (first | apply Kd.R_alloc | apply Kd.R_drewN | apply Kd.R_drew)); exact (Kd.R_mono (Kd.R_far (p := ⟨gb300, 1, none⟩) (Kd.R_far (p := ⟨gb300, 0, none⟩) (Kd.R_types HO289.out BK300.out (by decide)) (fun _ hk => hk.2) (.slice Ao22 t293.length co22)) (fun _ hk => hk.2) (.slice Ao25 t296.length co25)) (fun _ h_ => h_.1))) (Kd.R_base ho0) hb); replace HO295 := aZ (Kd.R_elder' (by (with_reducible repeat (first | apply Kd.R_alloc | apply Kd.R_drewN | apply Kd.R_drew)); exact (Kd.R_mono (Kd.R_far (p := ⟨gb300, 1, none⟩) (Kd.R_far (p := ⟨gb300, 0, none⟩) (Kd.R_types HO295.out BK300.out (by decide)) (fun _ hk => hk.2) (.slice Ao22 t293.length co22)) (fun _ hk => hk.2) (.slice Ao25 t296.length co25)) (fun _ h_ => h_.1))) (Kd.R_base ho0) hb); have HO306 := aZ (Kd.R_lower (Kd.R_new' (Kd.R_new' ho1 (Kd.R_lt (by (with_reducible repeat (first | apply Kd.R_alloc | apply Kd.R_drewN | apply Kd.R_drew)); exact (Kd.R_mono (Kd.R_far (p := ⟨gb300, 1, none⟩) (Kd.R_far (p := ⟨gb300, 0, none⟩) (Kd.R_types HO292.out BK300.out (by decide)) (fun _ hk => hk.2) (.slice Ao22 t293.length co22)) (fun _ hk => hk.2) (.slice Ao25 t296.length co25)) (fun _ h_ => h_.1))))) (Kd.R_lt (by (with_reducible repeat (first | apply Kd.R_alloc | apply Kd.R_drewN | apply Kd.R_drew)); exact (Kd.R_mono (Kd.R_far (p := ⟨gb300, 1, none⟩) (Kd.R_far (p := ⟨gb300, 0, none⟩) (Kd.R_types HO298.out BK300.out (by decide)) (fun _ hk => hk.2) (.slice Ao22 t293.length co22)) (fun _ hk => hk.2) (.slice Ao25 t296.length co25)) (fun _ h_ => h_.1))))) (below_size bZ)); replace HO292 := aZ (Kd.R_elder' (by (with_reducible repeat (first | apply Kd.R_alloc | apply Kd.R_drewN | apply Kd.R_drew)); exact (Kd.R_mono (Kd.R_far (p := ⟨gb300, 1, none⟩) (Kd.R_far (p := ⟨gb300, 0, none⟩) (Kd.R_types HO292.out BK300.out (by decide)) (fun _ hk => hk.2) (.slice Ao22 t293.length co22)) (fun _ hk => hk.2) (.slice Ao25 t296.length co25)) (fun _ h_ => h_.1))) (Kd.R_base ho1) hb); replace HO298 := aZ (Kd.R_elder' (by (with_reducible repeat (first | apply Kd.R_alloc | apply Kd.R_drewN | apply Kd.R_drew)); exact (Kd.R_mono (Kd.R_far (p := ⟨gb300, 1, none⟩) (Kd.R_far (p := ⟨gb300, 0, none⟩) (Kd.R_types HO298.out BK300.out (by decide)) (fun _ hk => hk.2) (.slice Ao22 t293.length co22)) (fun _ hk => hk.2) (.slice Ao25 t296.length co25)) (fun _ h_ => h_.1))) (Kd.R_base ho1) hb); replace BK285 := aZ (blk_below (g := gb285) (o := .cells #[.slice A0_0 l0_0.length c0_0, .slice A0_1 l0_1.length c0_1] 81 (0, 0)) (by (with_reducible repeat (first | refine blk_drewN ?_ _ | refine blk_drew ?_ | refine blk_alloc ?_ _)); refine blk_far ?_ NB285_300.out _; (with_reducible repeat (first | refine blk_drewN ?_ _ | refine blk_drew ?_ | refine blk_alloc ?_ _)); refine blk_far ?_ NB285_300.out _; (with_reducible repeat (first | refine blk_drewN ?_ _ | refine blk_drew ?_ | refine blk_alloc ?_ _)); exact BK285.out) hb); replace BK300 := aZ (blk_below (g := gb300) (o := .cells #[.slice Ao22 t293.length co22, .slice Ao25 t296.length co25] 86 (0, 0)) (by (with_reducible repeat (first | refine blk_drewN ?_ _ | refine blk_drew ?_ | refine blk_alloc ?_ _)); refine blk_put (cs := #[.slice Ao22 t293.length co22, .slice none 0 0]) ?_ 1 _ rfl; (with_reducible repeat (first | refine blk_drewN ?_ _ | refine blk_drew ?_ | refine blk_alloc ?_ _)); refine blk_put (cs := #[.slice none 0 0, .slice none 0 0]) ?_ 0 _ rfl; (with_reducible repeat (first | refine blk_drewN ?_ _ | refine blk_drew ?_ | refine blk_alloc ?_ _)); exact BK300.out) hb); replace HB := aZ (below_step bZ hb); (try clear hb); (try clear hb2); (try clear hk); (try clear hi); (try clear ho0); (try clear ho1)) | ((with_reducible refine gate_dst (N := 8) rfl ?_); refine box_event ?hg (N := 8) ?hd (cs := #[.slice none 0 0, .slice none 0 0]) (t := 86) ?hr ?_; (case hd => rfl); (case hg => rfl); (case hr => first | (go_simp; done) | (go_simp; rfl)); intro gb307 hg w28 hbox hb; replace HO289 := aZ (Kd.R_below (lZR HO289.out) hb); replace HO292 := aZ (Kd.R_below (lZR HO292.out) hb); replace HO295 := aZ (Kd.R_below (lZR HO295.out) hb); replace HO298 := aZ (Kd.R_below (lZR HO298.out) hb); replace HO303 := aZ (Kd.R_below (lZR HO303.out) hb); replace HO306 := aZ (Kd.R_below (lZR HO306.out) hb); have BK307 := aZ (hbox); have GW307 := aZ ((by rw [hg]; exact (below_size bZ) : w.heap.size ≤ gb307)); have GE307 := aZ ((by rw [hg]; exact (below_size bZ) : w.heap.size ≤ gb307)); replace HB := aZ (below_step bZ hb); have NB285_307 := aZ ((by rw [hg]; exact Nat.ne_of_lt (blk_lt (bkZ BK285.out)) : gb285 ≠ gb307)); have NB307_285 := aZ ((by rw [hg]; exact Nat.ne_of_gt (blk_lt (bkZ BK285.out)) : gb307 ≠ gb285)); replace BK285 := aZ (blk_below (bkZ BK285.out) hb); have NB300_307 := aZ ((by rw [hg]; exact Nat.ne_of_lt (blk_lt (bkZ BK300.out)) : gb300 ≠ gb307)); have NB307_300 := aZ ((by rw [hg]; exact Nat.ne_of_gt (blk_lt (bkZ BK300.out)) : gb307 ≠ gb300)); replace BK300 := aZ (blk_below (bkZ BK300.out) hb); clear hb hbox hg; obtain ⟨Ao29, co29, eo29⟩ := Kd.R_slice HO303.out; subst eo29; have hnb30 := NB307_285.out; have hnc30 := NB285_307.out; have hnb31 := NB307_300.out; have hnc31 := NB300_307.out; have hcz32_0 : w28.cell? ⟨gb307, 0, none⟩ = some (.slice none 0 0) := (blk_cell BK307.out 0).trans rfl; have hcz32_1 : w28.cell? ⟨gb307, 1, none⟩ = some (.slice none 0 0) := (blk_cell BK307.out 1).trans rfl; have hfz32_0 := blk_frozen BK307.out 0; have hfz32_1 := blk_frozen BK307.out 1; obtain ⟨Ao33, co33, eo33⟩ := Kd.R_slice HO306.out; subst eo33) | ((with_reducible refine gate_callee (f := 57) rfl ?_); refine goesL_ (some 33) rfl rfl Try.func57 kZ rfl #[.agg #[.slice Ao29 t301.length co29, .slice Ao33 t304.length co33], .int .i64 a1] rfl tZA ?_; (with_reducible refine (impl_Void.calls k _ _ t301 _ _ t304 a1 t308 t311 t314 _ ?side1 ?side2 ?side3 ?side4 A11.out).mono ?_); (case side1 => refine (Kd.R_reads' (e := 304) (base := w.heap.size) (ok := fun k_ => ((True ∧ some k_ ≠ (.slice Ao18 t287.length co18 : Value).ownBlock) ∧ some k_ ≠ (.slice Ao22 t293.length co22 : Value).ownBlock)) (n := t301.length) (c := co29) ?_).2.2; exact (by (with_reducible repeat (first | apply Kd.R_alloc | apply Kd.R_drewN | apply Kd.R_drew)); exact (Kd.R_mono (Kd.R_far (p := ⟨gb307, 1, none⟩) (Kd.R_far (p := ⟨gb307, 0, none⟩) (Kd.R_types HO303.out BK307.out (by decide)) (fun _ hk => hk.2) (.slice Ao29 t301.length co29)) (fun _ hk => hk.2) (.slice Ao33 t304.length co33)) (fun _ h_ => h_.1)))); (case side2 => exact (Kd.R_reads' HO303.out).2.1); (case side3 => refine (Kd.R_reads' (e := 230) (base := w.heap.size) (ok := fun k_ => ((True ∧ some k_ ≠ (.slice Ao19 t290.length co19 : Value).ownBlock) ∧ some k_ ≠ (.slice Ao25 t296.length co25 : Value).ownBlock)) (n := t304.length) (c := co33) ?_).2.2; exact (by (with_reducible repeat (first | apply Kd.R_alloc | apply Kd.R_drewN | apply Kd.R_drew)); exact (Kd.R_mono (Kd.R_far (p := ⟨gb307, 1, none⟩) (Kd.R_far (p := ⟨gb307, 0, none⟩) (Kd.R_types HO306.out BK307.out (by decide)) (fun _ hk => hk.2) (.slice Ao29 t301.length co29)) (fun _ hk => hk.2) (.slice Ao33 t304.length co33)) (fun _ h_ => h_.1)))); (case side4 => exact (Kd.R_reads' HO306.out).2.1); rintro e w34 ⟨v309, v312, rfl, ho0, ho1, hb⟩; refine ⟨_, rfl, ?_⟩; have HO310 := aZ (Kd.R_lower (Kd.R_new' (Kd.R_new' (Kd.R_new' ho0 (Kd.R_lt (by (with_reducible repeat (first | apply Kd.R_alloc | apply Kd.R_drewN | apply Kd.R_drew)); exact (Kd.R_mono (Kd.R_far (p := ⟨gb307, 1, none⟩) (Kd.R_far (p := ⟨gb307, 0, none⟩) (Kd.R_types HO289.out BK307.out (by decide)) (fun _ hk => hk.2) (.slice Ao29 t301.length co29)) (fun _ hk => hk.2) (.slice Ao33 t304.length co33)) (fun _ h_ => h_.1))))) (Kd.R_lt (by (with_reducible repeat (first | apply Kd.R_alloc | apply Kd.R_drewN | apply Kd.R_drew)); exact (Kd.R_mono (Kd.R_far (p := ⟨gb307, 1, none⟩) (Kd.R_far (p := ⟨gb307, 0, none⟩) (Kd.R_types HO295.out BK307.out (by decide)) (fun _ hk => hk.2) (.slice Ao29 t301.length co29)) (fun _ hk => hk.2) (.slice Ao33 t304.length co33)) (fun _ h_ => h_.1))))) (Kd.R_lt (by (with_reducible repeat (first | apply Kd.R_alloc | apply Kd.R_drewN | apply Kd.R_drew)); exact (Kd.R_mono (Kd.R_far (p := ⟨gb307, 1, none⟩) (Kd.R_far (p := ⟨gb307, 0, none⟩) (Kd.R_types HO303.out BK307.out (by decide)) (fun _ hk => hk.2) (.slice Ao29 t301.length co29)) (fun _ hk => hk.2) (.slice Ao33 t304.length co33)) (fun _ h_ => h_.1))))) (below_size bZ)); replace HO289 := aZ (Kd.R_elder' (by (with_reducible repeat (first | apply Kd.R_alloc | apply Kd.R_drewN | apply Kd.R_drew)); exact (Kd.R_mono (Kd.R_far (p := ⟨gb307, 1, none⟩) (Kd.R_far (p := ⟨gb307, 0, none⟩) (Kd.R_types HO289.out BK307.out (by decide)) (fun _ hk => hk.2) (.slice Ao29 t301.length co29)) (fun _ hk => hk.2) (.slice Ao33 t304.length co33)) (fun _ h_ => h_.1))) (Kd.R_base ho0) hb); replace HO295 := aZ (Kd.R_elder' (by (with_reducible repeat (first | apply Kd.R_alloc | apply Kd.R_drewN | apply Kd.R_drew)); exact (Kd.R_mono (Kd.R_far (p := ⟨gb307, 1, none⟩) (Kd.R_far (p := ⟨gb307, 0, none⟩) (Kd.R_types HO295.out BK307.out (by decide)) (fun _ hk => hk.2) (.slice Ao29 t301.length co29)) (fun _ hk => hk.2) (.slice Ao33 t304.length co33)) (fun _ h_ => h_.1))) (Kd.R_base ho0) hb); replace HO303 := aZ (Kd.R_elder' (by (with_reducible repeat (first | apply Kd.R_alloc | apply Kd.R_drewN | apply Kd.R_drew)); exact (Kd.R_mono (Kd.R_far (p := ⟨gb307, 1, none⟩) (Kd.R_far (p := ⟨gb307, 0, none⟩) (Kd.R_types HO303.out BK307.out (by decide)) (fun _ hk => hk.2) (.slice Ao29 t301.length co29)) (fun _ hk => hk.2) (.slice Ao33 t304.length co33)) (fun _ h_ => h_.1))) (Kd.R_base ho0) hb); have HO313 := aZ (Kd.R_lower (Kd.R_new' (Kd.R_new' (Kd.R_new' ho1 (Kd.R_lt (by (with_reducible repeat (first | apply Kd.R_alloc | apply Kd.R_drewN | apply Kd.R_drew)); exact (Kd.R_mono (Kd.R_far (p := ⟨gb307, 1, none⟩) (Kd.R_far (p := ⟨gb307, 0, none⟩) (Kd.R_types HO292.out BK307.out (by decide)) (fun _ hk => hk.2) (.slice Ao29 t301.length co29)) (fun _ hk => hk.2) (.slice Ao33 t304.length co33)) (fun _ h_ => h_.1))))) (Kd.R_lt (by (with_reducible repeat (first | apply Kd.R_alloc | apply Kd.R_drewN | apply Kd.R_drew)); exact (Kd.R_mono (Kd.R_far (p := ⟨gb307, 1, none⟩) (Kd.R_far (p := ⟨gb307, 0, none⟩) (Kd.R_types HO298.out BK307.out (by decide)) (fun _ hk => hk.2) (.slice Ao29 t301.length co29)) (fun _ hk => hk.2) (.slice Ao33 t304.length co33)) (fun _ h_ => h_.1))))) (Kd.R_lt (by (with_reducible repeat (first | apply Kd.R_alloc | apply Kd.R_drewN | apply Kd.R_drew)); exact (Kd.R_mono (Kd.R_far (p := ⟨gb307, 1, none⟩) (Kd.R_far (p := ⟨gb307, 0, none⟩) (Kd.R_types HO306.out BK307.out (by decide)) (fun _ hk => hk.2) (.slice Ao29 t301.length co29)) (fun _ hk => hk.2) (.slice Ao33 t304.length co33)) (fun _ h_ => h_.1))))) (below_size bZ)); replace HO292 := aZ (Kd.R_elder' (by (with_reducible repeat (first | apply Kd.R_alloc | apply Kd.R_drewN | apply Kd.R_drew)); exact (Kd.R_mono (Kd.R_far (p := ⟨gb307, 1, none⟩) (Kd.R_far (p := ⟨gb307, 0, none⟩) (Kd.R_types HO292.out BK307.out (by decide)) (fun _ hk => hk.2) (.slice Ao29 t301.length co29)) (fun _ hk => hk.2) (.slice Ao33 t304.length co33)) (fun _ h_ => h_.1))) (Kd.R_base ho1) hb); replace HO298 := aZ (Kd.R_elder' (by (with_reducible repeat (first | apply Kd.R_alloc | apply Kd.R_drewN | apply Kd.R_drew)); exact (Kd.R_mono (Kd.R_far (p := ⟨gb307, 1, none⟩) (Kd.R_far (p := ⟨gb307, 0, none⟩) (Kd.R_types HO298.out BK307.out (by decide)) (fun _ hk => hk.2) (.slice Ao29 t301.length co29)) (fun _ hk => hk.2) (.slice Ao33 t304.length co33)) (fun _ h_ => h_.1))) (Kd.R_base ho1) hb); replace HO306 := aZ (Kd.R_elder' (by (with_reducible repeat (first | apply Kd.R_alloc | apply Kd.R_drewN | apply Kd.R_drew)); exact (Kd.R_mono (Kd.R_far (p := ⟨gb307, 1, none⟩) (Kd.R_far (p := ⟨gb307, 0, none⟩) (Kd.R_types HO306.out BK307.out (by decide)) (fun _ hk => hk.2) (.slice Ao29 t301.length co29)) (fun _ hk => hk.2) (.slice Ao33 t304.length co33)) (fun _ h_ => h_.1))) (Kd.R_base ho1) hb); replace BK285 := aZ (blk_below (g := gb285) (o := .cells #[.slice A0_0 l0_0.length c0_0, .slice A0_1 l0_1.length c0_1] 81 (0, 0)) (by (with_reducible repeat (first | refine blk_drewN ?_ _ | refine blk_drew ?_ | refine blk_alloc ?_ _)); refine blk_far ?_ NB285_307.out _; (with_reducible repeat (first | refine blk_drewN ?_ _ | refine blk_drew ?_ | refine blk_alloc ?_ _)); refine blk_far ?_ NB285_307.out _; (with_reducible repeat (first | refine blk_drewN ?_ _ | refine blk_drew ?_ | refine blk_alloc ?_ _)); exact BK285.out) hb); replace BK300 := aZ (blk_below (g := gb300) (o := .cells #[.slice Ao22 t293.length co22, .slice Ao25 t296.length co25] 86 (0, 0)) (by (with_reducible repeat (first | refine blk_drewN ?_ _ | refine blk_drew ?_ | refine blk_alloc ?_ _)); refine blk_far ?_ NB300_307.out _; (with_reducible repeat (first | refine blk_drewN ?_ _ | refine blk_drew ?_ | refine blk_alloc ?_ _)); refine blk_far ?_ NB300_307.out _; (with_reducible repeat (first | refine blk_drewN ?_ _ | refine blk_drew ?_ | refine blk_alloc ?_ _)); exact BK300.out) hb); replace BK307 := aZ (blk_below (g := gb307) (o := .cells #[.slice Ao29 t301.length co29, .slice Ao33 t304.length co33] 86 (0, 0)) (by (with_reducible repeat (first | refine blk_drewN ?_ _ | refine blk_drew ?_ | refine blk_alloc ?_ _)); refine blk_put (cs := #[.slice Ao29 t301.length co29, .slice none 0 0]) ?_ 1 _ rfl; (with_reducible repeat (first | refine blk_drewN ?_ _ | refine blk_drew ?_ | refine blk_alloc ?_ _)); refine blk_put (cs := #[.slice none 0 0, .slice none 0 0]) ?_ 0 _ rfl; (with_reducible repeat (first | refine blk_drewN ?_ _ | refine blk_drew ?_ | refine blk_alloc ?_ _)); exact BK307.out) hb); replace HB := aZ (below_step bZ hb); (try clear hb); (try clear hb2); (try clear hk); (try clear hi); (try clear ho0); (try clear ho1)) | ((with_reducible refine gate_dst (N := 9) rfl ?_); refine box_event ?hg (N := 9) ?hd (cs := #[.slice none 0 0, .slice none 0 0]) (t := 86) ?hr ?_; (case hd => rfl); (case hg => rfl); (case hr => first | (go_simp; done) | (go_simp; rfl)); intro gb315 hg w35 hbox hb; replace HO289 := aZ (Kd.R_below (lZR HO289.out) hb); replace HO292 := aZ (Kd.R_below (lZR HO292.out) hb); replace HO295 := aZ (Kd.R_below (lZR HO295.out) hb); replace HO298 := aZ (Kd.R_below (lZR HO298.out) hb); replace HO303 := aZ (Kd.R_below (lZR HO303.out) hb); replace HO306 := aZ (Kd.R_below (lZR HO306.out) hb); replace HO310 := aZ (Kd.R_below (lZR HO310.out) hb); replace HO313 := aZ (Kd.R_below (lZR HO313.out) hb); have BK315 := aZ (hbox); have GW315 := aZ ((by rw [hg]; exact (below_size bZ) : w.heap.size ≤ gb315)); have GE315 := aZ ((by rw [hg]; exact (below_size bZ) : w.heap.size ≤ gb315)); replace HB := aZ (below_step bZ hb); have NB285_315 := aZ ((by rw [hg]; exact Nat.ne_of_lt (blk_lt (bkZ BK285.out)) : gb285 ≠ gb315)); have NB315_285 := aZ ((by rw [hg]; exact Nat.ne_of_gt (blk_lt (bkZ BK285.out)) : gb315 ≠ gb285)); replace BK285 := aZ (blk_below (bkZ BK285.out) hb); have NB300_315 := aZ ((by rw [hg]; exact Nat.ne_of_lt (blk_lt (bkZ BK300.out)) : gb300 ≠ gb315)); have NB315_300 := aZ ((by rw [hg]; exact Nat.ne_of_gt (blk_lt (bkZ BK300.out)) : gb315 ≠ gb300)); replace BK300 := aZ (blk_below (bkZ BK300.out) hb); have NB307_315 := aZ ((by rw [hg]; exact Nat.ne_of_lt (blk_lt (bkZ BK307.out)) : gb307 ≠ gb315)); have NB315_307 := aZ ((by rw [hg]; exact Nat.ne_of_gt (blk_lt (bkZ BK307.out)) : gb315 ≠ gb307)); replace BK307 := aZ (blk_below (bkZ BK307.out) hb); clear hb hbox hg; obtain ⟨Ao36, co36, eo36⟩ := Kd.R_slice HO310.out; subst eo36; have hnb37 := NB315_285.out; have hnc37 := NB285_315.out; have hnb38 := NB315_300.out; have hnc38 := NB300_315.out; have hnb39 := NB315_307.out; have hnc39 := NB307_315.out; have hcz40_0 : w35.cell? ⟨gb315, 0, none⟩ = some (.slice none 0 0) := (blk_cell BK315.out 0).trans rfl; have hcz40_1 : w35.cell? ⟨gb315, 1, none⟩ = some (.slice none 0 0) := (blk_cell BK315.out 1).trans rfl; have hfz40_0 := blk_frozen BK315.out 0; have hfz40_1 := blk_frozen BK315.out 1; obtain ⟨Ao41, co41, eo41⟩ := Kd.R_slice HO313.out; subst eo41))
 (try simp only [Act.put, sZ1, sZ2, sZ3])
 go_cut [44] (fun v44 wc => ∃ (kq : Nat) (x44_11 : Bool), v44 = .bool x44_11 ∧ Aside0 (laws_FnExactVoid.j0 kq a1 t299 t314 x44_11 l0_0 l0_1 t293 t296 t301 t304 t308 t311 = some r) ∧ Aside0 (kq ≤ k) ∧ Aside0 (Kd.R k304 304 wc w.heap.size (fun k_ => some k_ ≠ ((.slice Ao29 t301.length co29) : Value).ownBlock ∧ some k_ ≠ ((.slice Ao36 t308.length co36) : Value).ownBlock) (.slice Ao22 t293.length co22) t293) ∧ Aside0 (Kd.R k230 230 wc w.heap.size (fun k_ => some k_ ≠ ((.slice Ao33 t304.length co33) : Value).ownBlock ∧ some k_ ≠ ((.slice Ao41 t311.length co41) : Value).ownBlock) (.slice Ao25 t296.length co25) t296) ∧ Aside0 (Kd.R k304 304 wc w.heap.size (fun k_ => some k_ ≠ ((.slice Ao22 t293.length co22) : Value).ownBlock ∧ some k_ ≠ ((.slice Ao36 t308.length co36) : Value).ownBlock) (.slice Ao29 t301.length co29) t301) ∧ Aside0 (Kd.R k230 230 wc w.heap.size (fun k_ => some k_ ≠ ((.slice Ao25 t296.length co25) : Value).ownBlock ∧ some k_ ≠ ((.slice Ao41 t311.length co41) : Value).ownBlock) (.slice Ao33 t304.length co33) t304) ∧ Aside0 (Kd.R k304 304 wc w.heap.size (fun k_ => some k_ ≠ ((.slice Ao22 t293.length co22) : Value).ownBlock ∧ some k_ ≠ ((.slice Ao29 t301.length co29) : Value).ownBlock) (.slice Ao36 t308.length co36) t308) ∧ Aside0 (Kd.R k230 230 wc w.heap.size (fun k_ => some k_ ≠ ((.slice Ao25 t296.length co25) : Value).ownBlock ∧ some k_ ≠ ((.slice Ao33 t304.length co33) : Value).ownBlock) (.slice Ao41 t311.length co41) t311) ∧ Aside0 (wc.heap[gb285]? = some (.cells #[(.slice A0_0 l0_0.length c0_0), (.slice A0_1 l0_1.length c0_1)] 81 (0, 0))) ∧ Aside0 (wc.heap[gb300]? = some (.cells #[(.slice Ao22 t293.length co22), (.slice Ao25 t296.length co25)] 86 (0, 0))) ∧ Aside0 (wc.heap[gb307]? = some (.cells #[(.slice Ao29 t301.length co29), (.slice Ao33 t304.length co33)] 86 (0, 0))) ∧ Aside0 (wc.heap[gb315]? = some (.cells #[(.slice Ao36 t308.length co36), (.slice Ao41 t311.length co41)] 86 (0, 0))) ∧ Aside0 (Below w.heap.size w wc))
 case first =>
  have H := HC12.out
  clear HC12
  replace H := Option.bind_eq_some_iff.mp H
  obtain ⟨t316, A420, H⟩ := H
  replace H : (if t316 = true then (laws_FnExactVoid.j0 k a1 t299 t314 (t314 != t299) l0_0 l0_1 t293 t296 t301 t304 t308 t311) else (laws_FnExactVoid.j0 k a1 t299 t314 true l0_0 l0_1 t293 t296 t301 t304 t308 t311)) = some r := H
  have A42 := Aside0.mk A420
  clear A420
  by_cases c43 : t316 = true
  ·subst c43
   have H1 : (laws_FnExactVoid.j0 k a1 t299 t314 (t314 != t299) l0_0 l0_1 t293 t296 t301 t304 t308 t311) = some r := by rw [if_pos rfl] at H; exact H
   clear H
   have H := H1
   clear H1
   have H' := Aside0.mk H
   clear H
   have hnb44 := NB315_285.out
   have hnc44 := NB285_315.out
   have hnb45 := NB315_300.out
   have hnc45 := NB300_315.out
   have hnb46 := NB315_307.out
   have hnc46 := NB307_315.out
   have hcz47_0 : w35.cell? ⟨gb315, 0, none⟩ = some (.slice none 0 0) := (blk_cell BK315.out 0).trans rfl
   have hcz47_1 : w35.cell? ⟨gb315, 1, none⟩ = some (.slice none 0 0) := (blk_cell BK315.out 1).trans rfl
   have hfz47_0 := blk_frozen BK315.out 0
   have hfz47_1 := blk_frozen BK315.out 1
   have hnb48 := NB300_285.out
   have hnc48 := NB285_300.out
   have hnb49 := NB300_307.out
   have hnc49 := NB307_300.out
   have hcz50_0 : w35.cell? ⟨gb300, 0, none⟩ = some (.slice Ao22 t293.length co22) := (blk_cell BK300.out 0).trans rfl
   have hcz50_1 : w35.cell? ⟨gb300, 1, none⟩ = some (.slice Ao25 t296.length co25) := (blk_cell BK300.out 1).trans rfl
   have hfz50_0 := blk_frozen BK300.out 0
   have hfz50_1 := blk_frozen BK300.out 1
   go_wp2_with (first | ((with_reducible refine gate_callee (f := 58) rfl ?_); refine goesL_ (some 38) rfl rfl Try.func58 kZ rfl #[.agg #[.slice Ao36 t308.length co36, .slice Ao41 t311.length co41], .agg #[.slice Ao22 t293.length co22, .slice Ao25 t296.length co25]] rfl tZA ?_; (with_reducible refine (laws_eqRegister.calls k _ _ t308 _ _ t311 _ _ t293 _ _ t296 true _ ?side1 ?side2 ?side3 ?side4 ?side5 ?side6 ?side7 ?side8 A42.out).mono ?_); (case side1 => refine (Kd.R_reads' (e := 304) (base := w.heap.size) (ok := fun k_ => (((True ∧ some k_ ≠ (.slice Ao18 t287.length co18 : Value).ownBlock) ∧ some k_ ≠ (.slice Ao22 t293.length co22 : Value).ownBlock) ∧ some k_ ≠ (.slice Ao29 t301.length co29 : Value).ownBlock)) (n := t308.length) (c := co36) ?_).2.2; exact (by (with_reducible repeat (first | apply Kd.R_alloc | apply Kd.R_drewN | apply Kd.R_drew)); exact (Kd.R_mono (Kd.R_far (p := ⟨gb315, 1, none⟩) (Kd.R_far (p := ⟨gb315, 0, none⟩) (Kd.R_types HO310.out BK315.out (by decide)) (fun _ hk => hk.2) (.slice Ao36 t308.length co36)) (fun _ hk => hk.2) (.slice Ao41 t311.length co41)) (fun _ h_ => h_.1)))); (case side2 => exact (Kd.R_reads' HO310.out).2.1); (case side3 => refine (Kd.R_reads' (e := 230) (base := w.heap.size) (ok := fun k_ => (((True ∧ some k_ ≠ (.slice Ao19 t290.length co19 : Value).ownBlock) ∧ some k_ ≠ (.slice Ao25 t296.length co25 : Value).ownBlock) ∧ some k_ ≠ (.slice Ao33 t304.length co33 : Value).ownBlock)) (n := t311.length) (c := co41) ?_).2.2; exact (by (with_reducible repeat (first | apply Kd.R_alloc | apply Kd.R_drewN | apply Kd.R_drew)); exact (Kd.R_mono (Kd.R_far (p := ⟨gb315, 1, none⟩) (Kd.R_far (p := ⟨gb315, 0, none⟩) (Kd.R_types HO313.out BK315.out (by decide)) (fun _ hk => hk.2) (.slice Ao36 t308.length co36)) (fun _ hk => hk.2) (.slice Ao41 t311.length co41)) (fun _ h_ => h_.1)))); (case side4 => exact (Kd.R_reads' HO313.out).2.1); (case side5 => refine (Kd.R_reads' (e := 304) (base := w.heap.size) (ok := fun k_ => (((True ∧ some k_ ≠ (.slice Ao18 t287.length co18 : Value).ownBlock) ∧ some k_ ≠ (.slice Ao29 t301.length co29 : Value).ownBlock) ∧ some k_ ≠ (.slice Ao36 t308.length co36 : Value).ownBlock)) (n := t293.length) (c := co22) ?_).2.2; exact (by (with_reducible repeat (first | apply Kd.R_alloc | apply Kd.R_drewN | apply Kd.R_drew)); exact (Kd.R_mono (Kd.R_far (p := ⟨gb315, 1, none⟩) (Kd.R_far (p := ⟨gb315, 0, none⟩) (Kd.R_types HO295.out BK315.out (by decide)) (fun _ hk => hk.2) (.slice Ao36 t308.length co36)) (fun _ hk => hk.2) (.slice Ao41 t311.length co41)) (fun _ h_ => h_.1)))); (case side6 => exact (Kd.R_reads' HO295.out).2.1); (case side7 => refine (Kd.R_reads' (e := 230) (base := w.heap.size) (ok := fun k_ => (((True ∧ some k_ ≠ (.slice Ao19 t290.length co19 : Value).ownBlock) ∧ some k_ ≠ (.slice Ao33 t304.length co33 : Value).ownBlock) ∧ some k_ ≠ (.slice Ao41 t311.length co41 : Value).ownBlock)) (n := t296.length) (c := co25) ?_).2.2; exact (by (with_reducible repeat (first | apply Kd.R_alloc | apply Kd.R_drewN | apply Kd.R_drew)); exact (Kd.R_mono (Kd.R_far (p := ⟨gb315, 1, none⟩) (Kd.R_far (p := ⟨gb315, 0, none⟩) (Kd.R_types HO298.out BK315.out (by decide)) (fun _ hk => hk.2) (.slice Ao36 t308.length co36)) (fun _ hk => hk.2) (.slice Ao41 t311.length co41)) (fun _ h_ => h_.1)))); (case side8 => exact (Kd.R_reads' HO298.out).2.1); rintro e w51 ⟨rfl, hb⟩; refine ⟨_, rfl, ?_⟩; replace HO289 := aZ (Kd.R_below (by (with_reducible repeat (first | apply Kd.R_alloc | apply Kd.R_drewN | apply Kd.R_drew)); exact (Kd.R_mono (Kd.R_far (p := ⟨gb315, 1, none⟩) (Kd.R_far (p := ⟨gb315, 0, none⟩) (Kd.R_types HO289.out BK315.out (by decide)) (fun _ hk => hk.2) (.slice Ao36 t308.length co36)) (fun _ hk => hk.2) (.slice Ao41 t311.length co41)) (fun _ h_ => h_.1))) hb); replace HO292 := aZ (Kd.R_below (by (with_reducible repeat (first | apply Kd.R_alloc | apply Kd.R_drewN | apply Kd.R_drew)); exact (Kd.R_mono (Kd.R_far (p := ⟨gb315, 1, none⟩) (Kd.R_far (p := ⟨gb315, 0, none⟩) (Kd.R_types HO292.out BK315.out (by decide)) (fun _ hk => hk.2) (.slice Ao36 t308.length co36)) (fun _ hk => hk.2) (.slice Ao41 t311.length co41)) (fun _ h_ => h_.1))) hb); replace HO295 := aZ (Kd.R_below (by (with_reducible repeat (first | apply Kd.R_alloc | apply Kd.R_drewN | apply Kd.R_drew)); exact (Kd.R_mono (Kd.R_far (p := ⟨gb315, 1, none⟩) (Kd.R_far (p := ⟨gb315, 0, none⟩) (Kd.R_types HO295.out BK315.out (by decide)) (fun _ hk => hk.2) (.slice Ao36 t308.length co36)) (fun _ hk => hk.2) (.slice Ao41 t311.length co41)) (fun _ h_ => h_.1))) hb); replace HO298 := aZ (Kd.R_below (by (with_reducible repeat (first | apply Kd.R_alloc | apply Kd.R_drewN | apply Kd.R_drew)); exact (Kd.R_mono (Kd.R_far (p := ⟨gb315, 1, none⟩) (Kd.R_far (p := ⟨gb315, 0, none⟩) (Kd.R_types HO298.out BK315.out (by decide)) (fun _ hk => hk.2) (.slice Ao36 t308.length co36)) (fun _ hk => hk.2) (.slice Ao41 t311.length co41)) (fun _ h_ => h_.1))) hb); replace HO303 := aZ (Kd.R_below (by (with_reducible repeat (first | apply Kd.R_alloc | apply Kd.R_drewN | apply Kd.R_drew)); exact (Kd.R_mono (Kd.R_far (p := ⟨gb315, 1, none⟩) (Kd.R_far (p := ⟨gb315, 0, none⟩) (Kd.R_types HO303.out BK315.out (by decide)) (fun _ hk => hk.2) (.slice Ao36 t308.length co36)) (fun _ hk => hk.2) (.slice Ao41 t311.length co41)) (fun _ h_ => h_.1))) hb); replace HO306 := aZ (Kd.R_below (by (with_reducible repeat (first | apply Kd.R_alloc | apply Kd.R_drewN | apply Kd.R_drew)); exact (Kd.R_mono (Kd.R_far (p := ⟨gb315, 1, none⟩) (Kd.R_far (p := ⟨gb315, 0, none⟩) (Kd.R_types HO306.out BK315.out (by decide)) (fun _ hk => hk.2) (.slice Ao36 t308.length co36)) (fun _ hk => hk.2) (.slice Ao41 t311.length co41)) (fun _ h_ => h_.1))) hb); replace HO310 := aZ (Kd.R_below (by (with_reducible repeat (first | apply Kd.R_alloc | apply Kd.R_drewN | apply Kd.R_drew)); exact (Kd.R_mono (Kd.R_far (p := ⟨gb315, 1, none⟩) (Kd.R_far (p := ⟨gb315, 0, none⟩) (Kd.R_types HO310.out BK315.out (by decide)) (fun _ hk => hk.2) (.slice Ao36 t308.length co36)) (fun _ hk => hk.2) (.slice Ao41 t311.length co41)) (fun _ h_ => h_.1))) hb); replace HO313 := aZ (Kd.R_below (by (with_reducible repeat (first | apply Kd.R_alloc | apply Kd.R_drewN | apply Kd.R_drew)); exact (Kd.R_mono (Kd.R_far (p := ⟨gb315, 1, none⟩) (Kd.R_far (p := ⟨gb315, 0, none⟩) (Kd.R_types HO313.out BK315.out (by decide)) (fun _ hk => hk.2) (.slice Ao36 t308.length co36)) (fun _ hk => hk.2) (.slice Ao41 t311.length co41)) (fun _ h_ => h_.1))) hb); replace BK285 := aZ (blk_below (g := gb285) (o := .cells #[.slice A0_0 l0_0.length c0_0, .slice A0_1 l0_1.length c0_1] 81 (0, 0)) (by (with_reducible repeat (first | refine blk_drewN ?_ _ | refine blk_drew ?_ | refine blk_alloc ?_ _)); refine blk_far ?_ NB285_315.out _; (with_reducible repeat (first | refine blk_drewN ?_ _ | refine blk_drew ?_ | refine blk_alloc ?_ _)); refine blk_far ?_ NB285_315.out _; (with_reducible repeat (first | refine blk_drewN ?_ _ | refine blk_drew ?_ | refine blk_alloc ?_ _)); exact BK285.out) hb); replace BK300 := aZ (blk_below (g := gb300) (o := .cells #[.slice Ao22 t293.length co22, .slice Ao25 t296.length co25] 86 (0, 0)) (by (with_reducible repeat (first | refine blk_drewN ?_ _ | refine blk_drew ?_ | refine blk_alloc ?_ _)); refine blk_far ?_ NB300_315.out _; (with_reducible repeat (first | refine blk_drewN ?_ _ | refine blk_drew ?_ | refine blk_alloc ?_ _)); refine blk_far ?_ NB300_315.out _; (with_reducible repeat (first | refine blk_drewN ?_ _ | refine blk_drew ?_ | refine blk_alloc ?_ _)); exact BK300.out) hb); replace BK307 := aZ (blk_below (g := gb307) (o := .cells #[.slice Ao29 t301.length co29, .slice Ao33 t304.length co33] 86 (0, 0)) (by (with_reducible repeat (first | refine blk_drewN ?_ _ | refine blk_drew ?_ | refine blk_alloc ?_ _)); refine blk_far ?_ NB307_315.out _; (with_reducible repeat (first | refine blk_drewN ?_ _ | refine blk_drew ?_ | refine blk_alloc ?_ _)); refine blk_far ?_ NB307_315.out _; (with_reducible repeat (first | refine blk_drewN ?_ _ | refine blk_drew ?_ | refine blk_alloc ?_ _)); exact BK307.out) hb); replace BK315 := aZ (blk_below (g := gb315) (o := .cells #[.slice Ao36 t308.length co36, .slice Ao41 t311.length co41] 86 (0, 0)) (by (with_reducible repeat (first | refine blk_drewN ?_ _ | refine blk_drew ?_ | refine blk_alloc ?_ _)); refine blk_put (cs := #[.slice Ao36 t308.length co36, .slice none 0 0]) ?_ 1 _ rfl; (with_reducible repeat (first | refine blk_drewN ?_ _ | refine blk_drew ?_ | refine blk_alloc ?_ _)); refine blk_put (cs := #[.slice none 0 0, .slice none 0 0]) ?_ 0 _ rfl; (with_reducible repeat (first | refine blk_drewN ?_ _ | refine blk_drew ?_ | refine blk_alloc ?_ _)); exact BK315.out) hb); replace HB := aZ (below_step bZ hb); (try clear hb); (try clear hb2); (try clear hk); (try clear hi)))
   go_meet
   case rel => exact ⟨_, ((t314 != t299)), tZB, H', ⟨by first | omega | exact Nat.le_refl _⟩, ⟨by (with_reducible repeat (first | apply Kd.R_alloc | apply Kd.R_drewN | apply Kd.R_drew)); exact Kd.R_mono HO295.out (fun _ hk => ⟨hk.1.2, hk.2⟩)⟩, ⟨by (with_reducible repeat (first | apply Kd.R_alloc | apply Kd.R_drewN | apply Kd.R_drew)); exact Kd.R_mono HO298.out (fun _ hk => ⟨hk.1.2, hk.2⟩)⟩, ⟨by (with_reducible repeat (first | apply Kd.R_alloc | apply Kd.R_drewN | apply Kd.R_drew)); exact Kd.R_mono HO303.out (fun _ hk => ⟨hk.1.2, hk.2⟩)⟩, ⟨by (with_reducible repeat (first | apply Kd.R_alloc | apply Kd.R_drewN | apply Kd.R_drew)); exact Kd.R_mono HO306.out (fun _ hk => ⟨hk.1.2, hk.2⟩)⟩, ⟨by (with_reducible repeat (first | apply Kd.R_alloc | apply Kd.R_drewN | apply Kd.R_drew)); exact Kd.R_mono HO310.out (fun _ hk => ⟨hk.1.2, hk.2⟩)⟩, ⟨by (with_reducible repeat (first | apply Kd.R_alloc | apply Kd.R_drewN | apply Kd.R_drew)); exact Kd.R_mono HO313.out (fun _ hk => ⟨hk.1.2, hk.2⟩)⟩, ⟨bkZ BK285.out⟩, ⟨bkZ BK300.out⟩, ⟨bkZ BK307.out⟩, ⟨bkZ BK315.out⟩, ⟨bZ⟩⟩
  replace c43 := Bool.eq_false_iff.mpr c43
  subst c43
  have H1 : (laws_FnExactVoid.j0 k a1 t299 t314 true l0_0 l0_1 t293 t296 t301 t304 t308 t311) = some r := by rw [if_neg (show ¬ (false = true) by decide)] at H; exact H
  clear H
  have H := H1
  clear H1
  have H' := Aside0.mk H
  clear H
  have hnb52 := NB315_285.out
  have hnc52 := NB285_315.out
  have hnb53 := NB315_300.out
  have hnc53 := NB300_315.out
  have hnb54 := NB315_307.out
  have hnc54 := NB307_315.out
  have hcz55_0 : w35.cell? ⟨gb315, 0, none⟩ = some (.slice none 0 0) := (blk_cell BK315.out 0).trans rfl
  have hcz55_1 : w35.cell? ⟨gb315, 1, none⟩ = some (.slice none 0 0) := (blk_cell BK315.out 1).trans rfl
  have hfz55_0 := blk_frozen BK315.out 0
  have hfz55_1 := blk_frozen BK315.out 1
  have hnb56 := NB300_285.out
  have hnc56 := NB285_300.out
  have hnb57 := NB300_307.out
  have hnc57 := NB307_300.out
  have hcz58_0 : w35.cell? ⟨gb300, 0, none⟩ = some (.slice Ao22 t293.length co22) := (blk_cell BK300.out 0).trans rfl
  have hcz58_1 : w35.cell? ⟨gb300, 1, none⟩ = some (.slice Ao25 t296.length co25) := (blk_cell BK300.out 1).trans rfl
  have hfz58_0 := blk_frozen BK300.out 0
  have hfz58_1 := blk_frozen BK300.out 1
  go_wp2_with (first | ((with_reducible refine gate_callee (f := 58) rfl ?_); refine goesL_ (some 38) rfl rfl Try.func58 kZ rfl #[.agg #[.slice Ao36 t308.length co36, .slice Ao41 t311.length co41], .agg #[.slice Ao22 t293.length co22, .slice Ao25 t296.length co25]] rfl tZA ?_; (with_reducible refine (laws_eqRegister.calls k _ _ t308 _ _ t311 _ _ t293 _ _ t296 false _ ?side1 ?side2 ?side3 ?side4 ?side5 ?side6 ?side7 ?side8 A42.out).mono ?_); (case side1 => refine (Kd.R_reads' (e := 304) (base := w.heap.size) (ok := fun k_ => (((True ∧ some k_ ≠ (.slice Ao18 t287.length co18 : Value).ownBlock) ∧ some k_ ≠ (.slice Ao22 t293.length co22 : Value).ownBlock) ∧ some k_ ≠ (.slice Ao29 t301.length co29 : Value).ownBlock)) (n := t308.length) (c := co36) ?_).2.2; exact (by (with_reducible repeat (first | apply Kd.R_alloc | apply Kd.R_drewN | apply Kd.R_drew)); exact (Kd.R_mono (Kd.R_far (p := ⟨gb315, 1, none⟩) (Kd.R_far (p := ⟨gb315, 0, none⟩) (Kd.R_types HO310.out BK315.out (by decide)) (fun _ hk => hk.2) (.slice Ao36 t308.length co36)) (fun _ hk => hk.2) (.slice Ao41 t311.length co41)) (fun _ h_ => h_.1)))); (case side2 => exact (Kd.R_reads' HO310.out).2.1); (case side3 => refine (Kd.R_reads' (e := 230) (base := w.heap.size) (ok := fun k_ => (((True ∧ some k_ ≠ (.slice Ao19 t290.length co19 : Value).ownBlock) ∧ some k_ ≠ (.slice Ao25 t296.length co25 : Value).ownBlock) ∧ some k_ ≠ (.slice Ao33 t304.length co33 : Value).ownBlock)) (n := t311.length) (c := co41) ?_).2.2; exact (by (with_reducible repeat (first | apply Kd.R_alloc | apply Kd.R_drewN | apply Kd.R_drew)); exact (Kd.R_mono (Kd.R_far (p := ⟨gb315, 1, none⟩) (Kd.R_far (p := ⟨gb315, 0, none⟩) (Kd.R_types HO313.out BK315.out (by decide)) (fun _ hk => hk.2) (.slice Ao36 t308.length co36)) (fun _ hk => hk.2) (.slice Ao41 t311.length co41)) (fun _ h_ => h_.1)))); (case side4 => exact (Kd.R_reads' HO313.out).2.1); (case side5 => refine (Kd.R_reads' (e := 304) (base := w.heap.size) (ok := fun k_ => (((True ∧ some k_ ≠ (.slice Ao18 t287.length co18 : Value).ownBlock) ∧ some k_ ≠ (.slice Ao29 t301.length co29 : Value).ownBlock) ∧ some k_ ≠ (.slice Ao36 t308.length co36 : Value).ownBlock)) (n := t293.length) (c := co22) ?_).2.2; exact (by (with_reducible repeat (first | apply Kd.R_alloc | apply Kd.R_drewN | apply Kd.R_drew)); exact (Kd.R_mono (Kd.R_far (p := ⟨gb315, 1, none⟩) (Kd.R_far (p := ⟨gb315, 0, none⟩) (Kd.R_types HO295.out BK315.out (by decide)) (fun _ hk => hk.2) (.slice Ao36 t308.length co36)) (fun _ hk => hk.2) (.slice Ao41 t311.length co41)) (fun _ h_ => h_.1)))); (case side6 => exact (Kd.R_reads' HO295.out).2.1); (case side7 => refine (Kd.R_reads' (e := 230) (base := w.heap.size) (ok := fun k_ => (((True ∧ some k_ ≠ (.slice Ao19 t290.length co19 : Value).ownBlock) ∧ some k_ ≠ (.slice Ao33 t304.length co33 : Value).ownBlock) ∧ some k_ ≠ (.slice Ao41 t311.length co41 : Value).ownBlock)) (n := t296.length) (c := co25) ?_).2.2; exact (by (with_reducible repeat (first | apply Kd.R_alloc | apply Kd.R_drewN | apply Kd.R_drew)); exact (Kd.R_mono (Kd.R_far (p := ⟨gb315, 1, none⟩) (Kd.R_far (p := ⟨gb315, 0, none⟩) (Kd.R_types HO298.out BK315.out (by decide)) (fun _ hk => hk.2) (.slice Ao36 t308.length co36)) (fun _ hk => hk.2) (.slice Ao41 t311.length co41)) (fun _ h_ => h_.1)))); (case side8 => exact (Kd.R_reads' HO298.out).2.1); rintro e w59 ⟨rfl, hb⟩; refine ⟨_, rfl, ?_⟩; replace HO289 := aZ (Kd.R_below (by (with_reducible repeat (first | apply Kd.R_alloc | apply Kd.R_drewN | apply Kd.R_drew)); exact (Kd.R_mono (Kd.R_far (p := ⟨gb315, 1, none⟩) (Kd.R_far (p := ⟨gb315, 0, none⟩) (Kd.R_types HO289.out BK315.out (by decide)) (fun _ hk => hk.2) (.slice Ao36 t308.length co36)) (fun _ hk => hk.2) (.slice Ao41 t311.length co41)) (fun _ h_ => h_.1))) hb); replace HO292 := aZ (Kd.R_below (by (with_reducible repeat (first | apply Kd.R_alloc | apply Kd.R_drewN | apply Kd.R_drew)); exact (Kd.R_mono (Kd.R_far (p := ⟨gb315, 1, none⟩) (Kd.R_far (p := ⟨gb315, 0, none⟩) (Kd.R_types HO292.out BK315.out (by decide)) (fun _ hk => hk.2) (.slice Ao36 t308.length co36)) (fun _ hk => hk.2) (.slice Ao41 t311.length co41)) (fun _ h_ => h_.1))) hb); replace HO295 := aZ (Kd.R_below (by (with_reducible repeat (first | apply Kd.R_alloc | apply Kd.R_drewN | apply Kd.R_drew)); exact (Kd.R_mono (Kd.R_far (p := ⟨gb315, 1, none⟩) (Kd.R_far (p := ⟨gb315, 0, none⟩) (Kd.R_types HO295.out BK315.out (by decide)) (fun _ hk => hk.2) (.slice Ao36 t308.length co36)) (fun _ hk => hk.2) (.slice Ao41 t311.length co41)) (fun _ h_ => h_.1))) hb); replace HO298 := aZ (Kd.R_below (by (with_reducible repeat (first | apply Kd.R_alloc | apply Kd.R_drewN | apply Kd.R_drew)); exact (Kd.R_mono (Kd.R_far (p := ⟨gb315, 1, none⟩) (Kd.R_far (p := ⟨gb315, 0, none⟩) (Kd.R_types HO298.out BK315.out (by decide)) (fun _ hk => hk.2) (.slice Ao36 t308.length co36)) (fun _ hk => hk.2) (.slice Ao41 t311.length co41)) (fun _ h_ => h_.1))) hb); replace HO303 := aZ (Kd.R_below (by (with_reducible repeat (first | apply Kd.R_alloc | apply Kd.R_drewN | apply Kd.R_drew)); exact (Kd.R_mono (Kd.R_far (p := ⟨gb315, 1, none⟩) (Kd.R_far (p := ⟨gb315, 0, none⟩) (Kd.R_types HO303.out BK315.out (by decide)) (fun _ hk => hk.2) (.slice Ao36 t308.length co36)) (fun _ hk => hk.2) (.slice Ao41 t311.length co41)) (fun _ h_ => h_.1))) hb); replace HO306 := aZ (Kd.R_below (by (with_reducible repeat (first | apply Kd.R_alloc | apply Kd.R_drewN | apply Kd.R_drew)); exact (Kd.R_mono (Kd.R_far (p := ⟨gb315, 1, none⟩) (Kd.R_far (p := ⟨gb315, 0, none⟩) (Kd.R_types HO306.out BK315.out (by decide)) (fun _ hk => hk.2) (.slice Ao36 t308.length co36)) (fun _ hk => hk.2) (.slice Ao41 t311.length co41)) (fun _ h_ => h_.1))) hb); replace HO310 := aZ (Kd.R_below (by (with_reducible repeat (first | apply Kd.R_alloc | apply Kd.R_drewN | apply Kd.R_drew)); exact (Kd.R_mono (Kd.R_far (p := ⟨gb315, 1, none⟩) (Kd.R_far (p := ⟨gb315, 0, none⟩) (Kd.R_types HO310.out BK315.out (by decide)) (fun _ hk => hk.2) (.slice Ao36 t308.length co36)) (fun _ hk => hk.2) (.slice Ao41 t311.length co41)) (fun _ h_ => h_.1))) hb); replace HO313 := aZ (Kd.R_below (by (with_reducible repeat (first | apply Kd.R_alloc | apply Kd.R_drewN | apply Kd.R_drew)); exact (Kd.R_mono (Kd.R_far (p := ⟨gb315, 1, none⟩) (Kd.R_far (p := ⟨gb315, 0, none⟩) (Kd.R_types HO313.out BK315.out (by decide)) (fun _ hk => hk.2) (.slice Ao36 t308.length co36)) (fun _ hk => hk.2) (.slice Ao41 t311.length co41)) (fun _ h_ => h_.1))) hb); replace BK285 := aZ (blk_below (g := gb285) (o := .cells #[.slice A0_0 l0_0.length c0_0, .slice A0_1 l0_1.length c0_1] 81 (0, 0)) (by (with_reducible repeat (first | refine blk_drewN ?_ _ | refine blk_drew ?_ | refine blk_alloc ?_ _)); refine blk_far ?_ NB285_315.out _; (with_reducible repeat (first | refine blk_drewN ?_ _ | refine blk_drew ?_ | refine blk_alloc ?_ _)); refine blk_far ?_ NB285_315.out _; (with_reducible repeat (first | refine blk_drewN ?_ _ | refine blk_drew ?_ | refine blk_alloc ?_ _)); exact BK285.out) hb); replace BK300 := aZ (blk_below (g := gb300) (o := .cells #[.slice Ao22 t293.length co22, .slice Ao25 t296.length co25] 86 (0, 0)) (by (with_reducible repeat (first | refine blk_drewN ?_ _ | refine blk_drew ?_ | refine blk_alloc ?_ _)); refine blk_far ?_ NB300_315.out _; (with_reducible repeat (first | refine blk_drewN ?_ _ | refine blk_drew ?_ | refine blk_alloc ?_ _)); refine blk_far ?_ NB300_315.out _; (with_reducible repeat (first | refine blk_drewN ?_ _ | refine blk_drew ?_ | refine blk_alloc ?_ _)); exact BK300.out) hb); replace BK307 := aZ (blk_below (g := gb307) (o := .cells #[.slice Ao29 t301.length co29, .slice Ao33 t304.length co33] 86 (0, 0)) (by (with_reducible repeat (first | refine blk_drewN ?_ _ | refine blk_drew ?_ | refine blk_alloc ?_ _)); refine blk_far ?_ NB307_315.out _; (with_reducible repeat (first | refine blk_drewN ?_ _ | refine blk_drew ?_ | refine blk_alloc ?_ _)); refine blk_far ?_ NB307_315.out _; (with_reducible repeat (first | refine blk_drewN ?_ _ | refine blk_drew ?_ | refine blk_alloc ?_ _)); exact BK307.out) hb); replace BK315 := aZ (blk_below (g := gb315) (o := .cells #[.slice Ao36 t308.length co36, .slice Ao41 t311.length co41] 86 (0, 0)) (by (with_reducible repeat (first | refine blk_drewN ?_ _ | refine blk_drew ?_ | refine blk_alloc ?_ _)); refine blk_put (cs := #[.slice Ao36 t308.length co36, .slice none 0 0]) ?_ 1 _ rfl; (with_reducible repeat (first | refine blk_drewN ?_ _ | refine blk_drew ?_ | refine blk_alloc ?_ _)); refine blk_put (cs := #[.slice none 0 0, .slice none 0 0]) ?_ 0 _ rfl; (with_reducible repeat (first | refine blk_drewN ?_ _ | refine blk_drew ?_ | refine blk_alloc ?_ _)); exact BK315.out) hb); replace HB := aZ (below_step bZ hb); (try clear hb); (try clear hb2); (try clear hk); (try clear hi)))
  go_meet
  case rel => exact ⟨_, (true), tZB, H', ⟨by first | omega | exact Nat.le_refl _⟩, ⟨by (with_reducible repeat (first | apply Kd.R_alloc | apply Kd.R_drewN | apply Kd.R_drew)); exact Kd.R_mono HO295.out (fun _ hk => ⟨hk.1.2, hk.2⟩)⟩, ⟨by (with_reducible repeat (first | apply Kd.R_alloc | apply Kd.R_drewN | apply Kd.R_drew)); exact Kd.R_mono HO298.out (fun _ hk => ⟨hk.1.2, hk.2⟩)⟩, ⟨by (with_reducible repeat (first | apply Kd.R_alloc | apply Kd.R_drewN | apply Kd.R_drew)); exact Kd.R_mono HO303.out (fun _ hk => ⟨hk.1.2, hk.2⟩)⟩, ⟨by (with_reducible repeat (first | apply Kd.R_alloc | apply Kd.R_drewN | apply Kd.R_drew)); exact Kd.R_mono HO306.out (fun _ hk => ⟨hk.1.2, hk.2⟩)⟩, ⟨by (with_reducible repeat (first | apply Kd.R_alloc | apply Kd.R_drewN | apply Kd.R_drew)); exact Kd.R_mono HO310.out (fun _ hk => ⟨hk.1.2, hk.2⟩)⟩, ⟨by (with_reducible repeat (first | apply Kd.R_alloc | apply Kd.R_drewN | apply Kd.R_drew)); exact Kd.R_mono HO313.out (fun _ hk => ⟨hk.1.2, hk.2⟩)⟩, ⟨bkZ BK285.out⟩, ⟨bkZ BK300.out⟩, ⟨bkZ BK307.out⟩, ⟨bkZ BK315.out⟩, ⟨bZ⟩⟩
 case rest =>
  clear HC12
  try clear c2
  try clear p2
  try clear c3
  try clear c4
  try clear c4b0
  try clear c5
  try clear c8
  try clear c23
  try clear c30
  try clear c31
  try clear c37
  try clear c38
  try clear c39
  try clear c43
  try clear c44
  try clear c45
  try clear c46
  try clear c48
  try clear c49
  try clear c52
  try clear c53
  try clear c54
  try clear c55
  try clear c56
  try clear c57
  try clear c58
  try clear hcz14_0
  try clear hcz14_1
  try clear hcz16_0
  try clear hcz16_1
  try clear hcz24_0
  try clear hcz24_1
  try clear hcz26_0
  try clear hcz26_1
  try clear hcz32_0
  try clear hcz32_1
  try clear hcz40_0
  try clear hcz40_1
  try clear hcz47_0
  try clear hcz47_1
  try clear hcz50_0
  try clear hcz50_1
  try clear hcz55_0
  try clear hcz55_1
  try clear hcz58_0
  try clear hcz58_1
  try clear hcz6_0
  try clear hcz6_1
  try clear hfz14_0
  try clear hfz14_1
  try clear hfz16_0
  try clear hfz16_1
  try clear hfz24_0
  try clear hfz24_1
  try clear hfz26_0
  try clear hfz26_1
  try clear hfz32_0
  try clear hfz32_1
  try clear hfz40_0
  try clear hfz40_1
  try clear hfz47_0
  try clear hfz47_1
  try clear hfz50_0
  try clear hfz50_1
  try clear hfz55_0
  try clear hfz55_1
  try clear hfz58_0
  try clear hfz58_1
  try clear hfz6_0
  try clear hfz6_1
  obtain ⟨kq, x44_11, rfl, HA, HJ11, HO_301000, HO_301001, HO_308000, HO_308001, HO_316000, HO_316001, BK285, BK300, BK307, BK315, HB⟩ := hcut
  cases kq with
  | zero => exact absurd HA.out (by simp [laws_FnExactVoid.j0])
  | succ kj11 =>
   have H := HA.out
   clear HA
   simp only [laws_FnExactVoid.j0] at H
   by_cases c60 : x44_11 = true
   ·subst c60
    have H1 : (some false) = some r := by rw [if_pos rfl] at H; exact H
    clear H
    have H := H1
    clear H1
    obtain rfl := Option.some.inj H
    go_wp2
    go_ret
    exact ⟨tZC, bZ⟩
   replace c60 := Bool.eq_false_iff.mpr c60
   subst c60
   have H1 : ((laws_toRegister.f kj11 l0_0 l0_1).bind fun bt317 => ((laws_eqRegister.f kj11 t301 t304 bt317.1 bt317.2).bind fun t323 => (if t323 = true then ((laws_markRegister.f kj11 t301 t304 1).bind fun bt324 => (if bt324.1 < 0 then (laws_FnExactVoid.j1 kj11 a1 t299 true l0_0 l0_1 t293 t296 t308 t311) else ((laws_eqRegister.f kj11 t308 t311 t293 t296).bind fun t327 => (if t327 = true then (laws_FnExactVoid.j1 kj11 a1 t299 (t314 != t299) l0_0 l0_1 t293 t296 t308 t311) else (laws_FnExactVoid.j1 kj11 a1 t299 true l0_0 l0_1 t293 t296 t308 t311))))) else (some false)))) = some r := by rw [if_neg (show ¬ (false = true) by decide)] at H; exact H
   clear H
   have H := H1
   clear H1
   replace H := Option.bind_eq_some_iff.mp H
   obtain ⟨⟨t317, t320⟩, A610, H⟩ := H
   replace H : ((laws_eqRegister.f kj11 t301 t304 t317 t320).bind fun t323 => (if t323 = true then ((laws_markRegister.f kj11 t301 t304 1).bind fun bt324 => (if bt324.1 < 0 then (laws_FnExactVoid.j1 kj11 a1 t299 true l0_0 l0_1 t293 t296 t308 t311) else ((laws_eqRegister.f kj11 t308 t311 t293 t296).bind fun t327 => (if t327 = true then (laws_FnExactVoid.j1 kj11 a1 t299 (t314 != t299) l0_0 l0_1 t293 t296 t308 t311) else (laws_FnExactVoid.j1 kj11 a1 t299 true l0_0 l0_1 t293 t296 t308 t311))))) else (some false))) = some r := H
   have A61 := Aside0.mk A610
   clear A610
   replace H := Option.bind_eq_some_iff.mp H
   obtain ⟨t323, A620, H⟩ := H
   replace H : (if t323 = true then ((laws_markRegister.f kj11 t301 t304 1).bind fun bt324 => (if bt324.1 < 0 then (laws_FnExactVoid.j1 kj11 a1 t299 true l0_0 l0_1 t293 t296 t308 t311) else ((laws_eqRegister.f kj11 t308 t311 t293 t296).bind fun t327 => (if t327 = true then (laws_FnExactVoid.j1 kj11 a1 t299 (t314 != t299) l0_0 l0_1 t293 t296 t308 t311) else (laws_FnExactVoid.j1 kj11 a1 t299 true l0_0 l0_1 t293 t296 t308 t311))))) else (some false)) = some r := H
   have A62 := Aside0.mk A620
   clear A620
   by_cases c63 : t323 = true
   rotate_left
   ·replace c63 := Bool.eq_false_iff.mpr c63
    subst c63
    have H1 : (some false) = some r := by rw [if_neg (show ¬ (false = true) by decide)] at H; exact H
    clear H
    have H := H1
    clear H1
    obtain rfl := Option.some.inj H
    try go_wp2
    replace HO_301000 := aZ (Kd.R_drew HO_301000.out)
    replace HO_301001 := aZ (Kd.R_drew HO_301001.out)
    replace HO_308000 := aZ (Kd.R_drew HO_308000.out)
    replace HO_308001 := aZ (Kd.R_drew HO_308001.out)
    replace HO_316000 := aZ (Kd.R_drew HO_316000.out)
    replace HO_316001 := aZ (Kd.R_drew HO_316001.out)
    replace BK285 := aZ (blk_drew BK285.out)
    replace BK300 := aZ (blk_drew BK300.out)
    replace BK307 := aZ (blk_drew BK307.out)
    replace BK315 := aZ (blk_drew BK315.out)
    replace HB := aZ (below_drew1 HB.out)
    refine start_ (n := 5) (S := fun w' => w'.cell? ⟨gb307, 0, none⟩ = some (.slice Ao29 t301.length co29) ∧ w'.cell? ⟨gb307, 1, none⟩ = some (.slice Ao33 t304.length co33) ∧ w'.cell? ⟨gb285, 0, none⟩ = some (.slice A0_0 l0_0.length c0_0) ∧ w'.cell? ⟨gb285, 1, none⟩ = some (.slice A0_1 l0_1.length c0_1)) (ds := []) #[false, false, false, false, false] kZ rfl rfl ⟨(blk_cell BK307.out 0).trans rfl, (blk_cell BK307.out 1).trans rfl, (blk_cell BK285.out 0).trans rfl, (blk_cell BK285.out 1).trans rfl⟩ (fun hHeld => ?_)
    generalize wc.drew = w183 at HO_301000 HO_301001 HO_308000 HO_308001 HO_316000 HO_316001 BK285 BK300 BK307 BK315 HB hHeld ⊢
    refine take_ (i := 0) (N := some 45) (v := ?_) (a' := ?_) #[true, false, false, false, false] rfl rfl kZ (fun _ _ _ h => h) (Or.inl ⟨by rfl, ?_⟩) hHeld ?_ ?_
    rotate_left
    ·rintro w' ⟨s0, s1, s2, s3⟩
     go_simp
     with_reducible rfl
    rotate_left
    ·simp only [Act.put, sZ1, sZ2, sZ3, i64_w, i32_w]
     rfl
    refine take_ (i := 1) (N := some 46) (v := ?_) (a' := ?_) #[true, true, false, false, false] rfl rfl kZ (fun _ _ _ h => h) (Or.inl ⟨by rfl, ?_⟩) hHeld ?_ ?_
    rotate_left
    ·rintro w' ⟨s0, s1, s2, s3⟩
     go_simp
     with_reducible rfl
    rotate_left
    ·simp only [Act.put, sZ1, sZ2, sZ3, i64_w, i32_w]
     rfl
    refine one_ (i := 2) (N := some 47) #[true, true, true, false, false] rfl rfl kZ (by decide) (fun K hK => ?_)
    refine goes_ Try.func56 kZ rfl #[.agg #[.slice A0_0 l0_0.length c0_0, .slice A0_1 l0_1.length c0_1]] (by rfl) rfl rfl tZA ?_
    with_reducible refine (laws_toRegister.calls kj11 _ _ l0_0 _ _ l0_1 t317 t320 _ ?side1 ?side2 ?side3 ?side4 A61.out).mono ?_
    (case side1 => repeat (first | exact (Kd.C_below HR0_0.out HB.out) | (with_reducible refine Kd.C_alloc ?_ _) | (with_reducible refine Kd.C_drewN ?_ _) | (with_reducible refine Kd.C_drew ?_)))
    (case side2 => exact HC0_0.out)
    (case side3 => repeat (first | exact (Kd.C_below HR0_1.out HB.out) | (with_reducible refine Kd.C_alloc ?_ _) | (with_reducible refine Kd.C_drewN ?_ _) | (with_reducible refine Kd.C_drew ?_)))
    (case side4 => exact HC0_1.out)
    rintro e w184 ⟨v318, v321, rfl, ho0, ho1, hb⟩
    refine ⟨_, rfl, ?_⟩
    have HO319 := aZ (Kd.R_lower (Kd.R_new' (Kd.R_new' (Kd.R_new' ho0 (Kd.R_lt (lZR HO_301000.out))) (Kd.R_lt (lZR HO_308000.out))) (Kd.R_lt (lZR HO_316000.out))) (below_size bZ))
    replace HO_301000 := aZ (Kd.R_elder' (lZR HO_301000.out) (Kd.R_base ho0) hb)
    replace HO_308000 := aZ (Kd.R_elder' (lZR HO_308000.out) (Kd.R_base ho0) hb)
    replace HO_316000 := aZ (Kd.R_elder' (lZR HO_316000.out) (Kd.R_base ho0) hb)
    have HO322 := aZ (Kd.R_lower (Kd.R_new' (Kd.R_new' (Kd.R_new' ho1 (Kd.R_lt (lZR HO_301001.out))) (Kd.R_lt (lZR HO_308001.out))) (Kd.R_lt (lZR HO_316001.out))) (below_size bZ))
    replace HO_301001 := aZ (Kd.R_elder' (lZR HO_301001.out) (Kd.R_base ho1) hb)
    replace HO_308001 := aZ (Kd.R_elder' (lZR HO_308001.out) (Kd.R_base ho1) hb)
    replace HO_316001 := aZ (Kd.R_elder' (lZR HO_316001.out) (Kd.R_base ho1) hb)
    replace BK285 := aZ (blk_below (bkZ BK285.out) hb)
    replace BK300 := aZ (blk_below (bkZ BK300.out) hb)
    replace BK307 := aZ (blk_below (bkZ BK307.out) hb)
    replace BK315 := aZ (blk_below (bkZ BK315.out) hb)
    replace HB := aZ (below_step bZ hb)
    (try clear hb)
    (try clear hb2)
    (try clear hk)
    (try clear hi)
    (try clear ho0)
    (try clear ho1)
    obtain ⟨Ao185, co185, eo185⟩ := Kd.R_slice HO319.out
    (first | subst eo185 | (injection eo185 with f1_ f2_ f3_; have f4_ := f1_.symm; have f5_ := f3_.symm; clear f1_ f2_ f3_; subst f4_; subst f5_))
    obtain ⟨Ao186, co186, eo186⟩ := Kd.R_slice HO322.out
    (first | subst eo186 | (injection eo186 with f1_ f2_ f3_; have f4_ := f1_.symm; have f5_ := f3_.symm; clear f1_ f2_ f3_; subst f4_; subst f5_))
    refine hK.out _ _ ⟨(blk_cell BK307.out 0).trans rfl, (blk_cell BK307.out 1).trans rfl, (blk_cell BK285.out 0).trans rfl, (blk_cell BK285.out 1).trans rfl⟩ (fun hHeld => ?_)
    clear hK K
    refine norm_ (a' := ?_) ?_ ?_
    rotate_left
    ·show Act.put _ (some 47) _ = _
     simp only [Act.put, sZ1, sZ2, sZ3, i64_w, i32_w]
     rfl
    refine one_ (i := 3) (N := some 48) #[true, true, true, true, false] rfl rfl kZ (by decide) (fun K hK => ?_)
    refine goes_ Try.func58 kZ rfl #[.agg #[.slice Ao29 t301.length co29, .slice Ao33 t304.length co33], .agg #[.slice Ao185 t317.length co185, .slice Ao186 t320.length co186]] (by rfl) rfl rfl tZA ?_
    with_reducible refine (laws_eqRegister.calls kj11 _ _ t301 _ _ t304 _ _ t317 _ _ t320 false _ ?side1 ?side2 ?side3 ?side4 ?side5 ?side6 ?side7 ?side8 A62.out).mono ?_
    (case side1 => repeat (first | exact (Kd.R_reads' HO_308000.out).2.2 | (with_reducible refine Kd.C_alloc ?_ _) | (with_reducible refine Kd.C_drewN ?_ _) | (with_reducible refine Kd.C_drew ?_)))
    (case side2 => exact (Kd.R_reads' HO_308000.out).2.1)
    (case side3 => repeat (first | exact (Kd.R_reads' HO_308001.out).2.2 | (with_reducible refine Kd.C_alloc ?_ _) | (with_reducible refine Kd.C_drewN ?_ _) | (with_reducible refine Kd.C_drew ?_)))
    (case side4 => exact (Kd.R_reads' HO_308001.out).2.1)
    (case side5 => repeat (first | exact (Kd.R_reads' HO319.out).2.2 | (with_reducible refine Kd.C_alloc ?_ _) | (with_reducible refine Kd.C_drewN ?_ _) | (with_reducible refine Kd.C_drew ?_)))
    (case side6 => exact (Kd.R_reads' HO319.out).2.1)
    (case side7 => repeat (first | exact (Kd.R_reads' HO322.out).2.2 | (with_reducible refine Kd.C_alloc ?_ _) | (with_reducible refine Kd.C_drewN ?_ _) | (with_reducible refine Kd.C_drew ?_)))
    (case side8 => exact (Kd.R_reads' HO322.out).2.1)
    rintro e w187 ⟨rfl, hb⟩
    refine ⟨_, rfl, ?_⟩
    replace HO_301000 := aZ (Kd.R_below (lZR HO_301000.out) hb)
    replace HO_301001 := aZ (Kd.R_below (lZR HO_301001.out) hb)
    replace HO_308000 := aZ (Kd.R_below (lZR HO_308000.out) hb)
    replace HO_308001 := aZ (Kd.R_below (lZR HO_308001.out) hb)
    replace HO_316000 := aZ (Kd.R_below (lZR HO_316000.out) hb)
    replace HO_316001 := aZ (Kd.R_below (lZR HO_316001.out) hb)
    replace HO319 := aZ (Kd.R_below (lZR HO319.out) hb)
    replace HO322 := aZ (Kd.R_below (lZR HO322.out) hb)
    replace BK285 := aZ (blk_below (bkZ BK285.out) hb)
    replace BK300 := aZ (blk_below (bkZ BK300.out) hb)
    replace BK307 := aZ (blk_below (bkZ BK307.out) hb)
    replace BK315 := aZ (blk_below (bkZ BK315.out) hb)
    replace HB := aZ (below_step bZ hb)
    (try clear hb)
    (try clear hb2)
    (try clear hk)
    (try clear hi)
    refine hK.out _ _ ⟨(blk_cell BK307.out 0).trans rfl, (blk_cell BK307.out 1).trans rfl, (blk_cell BK285.out 0).trans rfl, (blk_cell BK285.out 1).trans rfl⟩ (fun hHeld => ?_)
    clear hK K
    refine norm_ (a' := ?_) ?_ ?_
    rotate_left
    ·show Act.put _ (some 48) _ = _
     simp only [Act.put, sZ1, sZ2, sZ3, i64_w, i32_w]
     rfl
    refine pure_ (i := 4) (N := some 49) (v := ?_) (a' := ?_) #[true, true, true, true, true] rfl rfl kZ (fun _ _ _ h => h) (Or.inl ⟨by rfl, ?_⟩) ?_ ?_
    rotate_left
    ·intro w'
     go_simp
     with_reducible rfl
    rotate_left
    ·simp only [Act.put, sZ1, sZ2, sZ3, i64_w, i32_w]
     rfl
    refine done_ kZ ?_
    try go_wp2
    go_ret
    exact ⟨tZC, bZ⟩
   subst c63
   have H1 : ((laws_markRegister.f kj11 t301 t304 1).bind fun bt324 => (if bt324.1 < 0 then (laws_FnExactVoid.j1 kj11 a1 t299 true l0_0 l0_1 t293 t296 t308 t311) else ((laws_eqRegister.f kj11 t308 t311 t293 t296).bind fun t327 => (if t327 = true then (laws_FnExactVoid.j1 kj11 a1 t299 (t314 != t299) l0_0 l0_1 t293 t296 t308 t311) else (laws_FnExactVoid.j1 kj11 a1 t299 true l0_0 l0_1 t293 t296 t308 t311))))) = some r := by rw [if_pos rfl] at H; exact H
   clear H
   have H := H1
   clear H1
   replace H := Option.bind_eq_some_iff.mp H
   obtain ⟨⟨t324, t325, t326⟩, A640, H⟩ := H
   replace H : (if t324 < 0 then (laws_FnExactVoid.j1 kj11 a1 t299 true l0_0 l0_1 t293 t296 t308 t311) else ((laws_eqRegister.f kj11 t308 t311 t293 t296).bind fun t327 => (if t327 = true then (laws_FnExactVoid.j1 kj11 a1 t299 (t314 != t299) l0_0 l0_1 t293 t296 t308 t311) else (laws_FnExactVoid.j1 kj11 a1 t299 true l0_0 l0_1 t293 t296 t308 t311)))) = some r := H
   have A64 := Aside0.mk A640
   clear A640
   have HC65 := Aside0.mk H
   clear H
   try go_wp2
   replace HO_301000 := aZ (Kd.R_drew HO_301000.out)
   replace HO_301001 := aZ (Kd.R_drew HO_301001.out)
   replace HO_308000 := aZ (Kd.R_drew HO_308000.out)
   replace HO_308001 := aZ (Kd.R_drew HO_308001.out)
   replace HO_316000 := aZ (Kd.R_drew HO_316000.out)
   replace HO_316001 := aZ (Kd.R_drew HO_316001.out)
   replace BK285 := aZ (blk_drew BK285.out)
   replace BK300 := aZ (blk_drew BK300.out)
   replace BK307 := aZ (blk_drew BK307.out)
   replace BK315 := aZ (blk_drew BK315.out)
   replace HB := aZ (below_drew1 HB.out)
   refine start_ (n := 5) (S := fun w' => w'.cell? ⟨gb307, 0, none⟩ = some (.slice Ao29 t301.length co29) ∧ w'.cell? ⟨gb307, 1, none⟩ = some (.slice Ao33 t304.length co33) ∧ w'.cell? ⟨gb285, 0, none⟩ = some (.slice A0_0 l0_0.length c0_0) ∧ w'.cell? ⟨gb285, 1, none⟩ = some (.slice A0_1 l0_1.length c0_1)) (ds := []) #[false, false, false, false, false] kZ rfl rfl ⟨(blk_cell BK307.out 0).trans rfl, (blk_cell BK307.out 1).trans rfl, (blk_cell BK285.out 0).trans rfl, (blk_cell BK285.out 1).trans rfl⟩ (fun hHeld => ?_)
   generalize wc.drew = w66 at HO_301000 HO_301001 HO_308000 HO_308001 HO_316000 HO_316001 BK285 BK300 BK307 BK315 HB hHeld ⊢
   refine take_ (i := 0) (N := some 45) (v := ?_) (a' := ?_) #[true, false, false, false, false] rfl rfl kZ (fun _ _ _ h => h) (Or.inl ⟨by rfl, ?_⟩) hHeld ?_ ?_
   rotate_left
   ·rintro w' ⟨s0, s1, s2, s3⟩
    go_simp
    with_reducible rfl
   rotate_left
   ·simp only [Act.put, sZ1, sZ2, sZ3, i64_w, i32_w]
    rfl
   refine take_ (i := 1) (N := some 46) (v := ?_) (a' := ?_) #[true, true, false, false, false] rfl rfl kZ (fun _ _ _ h => h) (Or.inl ⟨by rfl, ?_⟩) hHeld ?_ ?_
   rotate_left
   ·rintro w' ⟨s0, s1, s2, s3⟩
    go_simp
    with_reducible rfl
   rotate_left
   ·simp only [Act.put, sZ1, sZ2, sZ3, i64_w, i32_w]
    rfl
   refine one_ (i := 2) (N := some 47) #[true, true, true, false, false] rfl rfl kZ (by decide) (fun K hK => ?_)
   refine goes_ Try.func56 kZ rfl #[.agg #[.slice A0_0 l0_0.length c0_0, .slice A0_1 l0_1.length c0_1]] (by rfl) rfl rfl tZA ?_
   with_reducible refine (laws_toRegister.calls kj11 _ _ l0_0 _ _ l0_1 t317 t320 _ ?side1 ?side2 ?side3 ?side4 A61.out).mono ?_
   (case side1 => repeat (first | exact (Kd.C_below HR0_0.out HB.out) | (with_reducible refine Kd.C_alloc ?_ _) | (with_reducible refine Kd.C_drewN ?_ _) | (with_reducible refine Kd.C_drew ?_)))
   (case side2 => exact HC0_0.out)
   (case side3 => repeat (first | exact (Kd.C_below HR0_1.out HB.out) | (with_reducible refine Kd.C_alloc ?_ _) | (with_reducible refine Kd.C_drewN ?_ _) | (with_reducible refine Kd.C_drew ?_)))
   (case side4 => exact HC0_1.out)
   rintro e w67 ⟨v318, v321, rfl, ho0, ho1, hb⟩
   refine ⟨_, rfl, ?_⟩
   have HO319 := aZ (Kd.R_lower (Kd.R_new' (Kd.R_new' (Kd.R_new' ho0 (Kd.R_lt (lZR HO_301000.out))) (Kd.R_lt (lZR HO_308000.out))) (Kd.R_lt (lZR HO_316000.out))) (below_size bZ))
   replace HO_301000 := aZ (Kd.R_elder' (lZR HO_301000.out) (Kd.R_base ho0) hb)
   replace HO_308000 := aZ (Kd.R_elder' (lZR HO_308000.out) (Kd.R_base ho0) hb)
   replace HO_316000 := aZ (Kd.R_elder' (lZR HO_316000.out) (Kd.R_base ho0) hb)
   have HO322 := aZ (Kd.R_lower (Kd.R_new' (Kd.R_new' (Kd.R_new' ho1 (Kd.R_lt (lZR HO_301001.out))) (Kd.R_lt (lZR HO_308001.out))) (Kd.R_lt (lZR HO_316001.out))) (below_size bZ))
   replace HO_301001 := aZ (Kd.R_elder' (lZR HO_301001.out) (Kd.R_base ho1) hb)
   replace HO_308001 := aZ (Kd.R_elder' (lZR HO_308001.out) (Kd.R_base ho1) hb)
   replace HO_316001 := aZ (Kd.R_elder' (lZR HO_316001.out) (Kd.R_base ho1) hb)
   replace BK285 := aZ (blk_below (bkZ BK285.out) hb)
   replace BK300 := aZ (blk_below (bkZ BK300.out) hb)
   replace BK307 := aZ (blk_below (bkZ BK307.out) hb)
   replace BK315 := aZ (blk_below (bkZ BK315.out) hb)
   replace HB := aZ (below_step bZ hb)
   (try clear hb)
   (try clear hb2)
   (try clear hk)
   (try clear hi)
   (try clear ho0)
   (try clear ho1)
   obtain ⟨Ao68, co68, eo68⟩ := Kd.R_slice HO319.out
   (first | subst eo68 | (injection eo68 with f1_ f2_ f3_; have f4_ := f1_.symm; have f5_ := f3_.symm; clear f1_ f2_ f3_; subst f4_; subst f5_))
   obtain ⟨Ao69, co69, eo69⟩ := Kd.R_slice HO322.out
   (first | subst eo69 | (injection eo69 with f1_ f2_ f3_; have f4_ := f1_.symm; have f5_ := f3_.symm; clear f1_ f2_ f3_; subst f4_; subst f5_))
   refine hK.out _ _ ⟨(blk_cell BK307.out 0).trans rfl, (blk_cell BK307.out 1).trans rfl, (blk_cell BK285.out 0).trans rfl, (blk_cell BK285.out 1).trans rfl⟩ (fun hHeld => ?_)
   clear hK K
   refine norm_ (a' := ?_) ?_ ?_
   rotate_left
   ·show Act.put _ (some 47) _ = _
    simp only [Act.put, sZ1, sZ2, sZ3, i64_w, i32_w]
    rfl
   refine one_ (i := 3) (N := some 48) #[true, true, true, true, false] rfl rfl kZ (by decide) (fun K hK => ?_)
   refine goes_ Try.func58 kZ rfl #[.agg #[.slice Ao29 t301.length co29, .slice Ao33 t304.length co33], .agg #[.slice Ao68 t317.length co68, .slice Ao69 t320.length co69]] (by rfl) rfl rfl tZA ?_
   with_reducible refine (laws_eqRegister.calls kj11 _ _ t301 _ _ t304 _ _ t317 _ _ t320 true _ ?side1 ?side2 ?side3 ?side4 ?side5 ?side6 ?side7 ?side8 A62.out).mono ?_
   (case side1 => repeat (first | exact (Kd.R_reads' HO_308000.out).2.2 | (with_reducible refine Kd.C_alloc ?_ _) | (with_reducible refine Kd.C_drewN ?_ _) | (with_reducible refine Kd.C_drew ?_)))
   (case side2 => exact (Kd.R_reads' HO_308000.out).2.1)
   (case side3 => repeat (first | exact (Kd.R_reads' HO_308001.out).2.2 | (with_reducible refine Kd.C_alloc ?_ _) | (with_reducible refine Kd.C_drewN ?_ _) | (with_reducible refine Kd.C_drew ?_)))
   (case side4 => exact (Kd.R_reads' HO_308001.out).2.1)
   (case side5 => repeat (first | exact (Kd.R_reads' HO319.out).2.2 | (with_reducible refine Kd.C_alloc ?_ _) | (with_reducible refine Kd.C_drewN ?_ _) | (with_reducible refine Kd.C_drew ?_)))
   (case side6 => exact (Kd.R_reads' HO319.out).2.1)
   (case side7 => repeat (first | exact (Kd.R_reads' HO322.out).2.2 | (with_reducible refine Kd.C_alloc ?_ _) | (with_reducible refine Kd.C_drewN ?_ _) | (with_reducible refine Kd.C_drew ?_)))
   (case side8 => exact (Kd.R_reads' HO322.out).2.1)
   rintro e w70 ⟨rfl, hb⟩
   refine ⟨_, rfl, ?_⟩
   replace HO_301000 := aZ (Kd.R_below (lZR HO_301000.out) hb)
   replace HO_301001 := aZ (Kd.R_below (lZR HO_301001.out) hb)
   replace HO_308000 := aZ (Kd.R_below (lZR HO_308000.out) hb)
   replace HO_308001 := aZ (Kd.R_below (lZR HO_308001.out) hb)
   replace HO_316000 := aZ (Kd.R_below (lZR HO_316000.out) hb)
   replace HO_316001 := aZ (Kd.R_below (lZR HO_316001.out) hb)
   replace HO319 := aZ (Kd.R_below (lZR HO319.out) hb)
   replace HO322 := aZ (Kd.R_below (lZR HO322.out) hb)
   replace BK285 := aZ (blk_below (bkZ BK285.out) hb)
   replace BK300 := aZ (blk_below (bkZ BK300.out) hb)
   replace BK307 := aZ (blk_below (bkZ BK307.out) hb)
   replace BK315 := aZ (blk_below (bkZ BK315.out) hb)
   replace HB := aZ (below_step bZ hb)
   (try clear hb)
   (try clear hb2)
   (try clear hk)
   (try clear hi)
   refine hK.out _ _ ⟨(blk_cell BK307.out 0).trans rfl, (blk_cell BK307.out 1).trans rfl, (blk_cell BK285.out 0).trans rfl, (blk_cell BK285.out 1).trans rfl⟩ (fun hHeld => ?_)
   clear hK K
   refine norm_ (a' := ?_) ?_ ?_
   rotate_left
   ·show Act.put _ (some 48) _ = _
    simp only [Act.put, sZ1, sZ2, sZ3, i64_w, i32_w]
    rfl
   refine pure_ (i := 4) (N := some 49) (v := ?_) (a' := ?_) #[true, true, true, true, true] rfl rfl kZ (fun _ _ _ h => h) (Or.inl ⟨by rfl, ?_⟩) ?_ ?_
   rotate_left
   ·intro w'
    go_simp
    with_reducible rfl
   rotate_left
   ·simp only [Act.put, sZ1, sZ2, sZ3, i64_w, i32_w]
    rfl
   refine done_ kZ ?_
   have hnb71 := NB307_285.out
   have hnc71 := NB285_307.out
   have hnb72 := NB307_300.out
   have hnc72 := NB300_307.out
   have hnb73 := NB307_315.out
   have hnc73 := NB315_307.out
   have hcz74_0 : w70.cell? ⟨gb307, 0, none⟩ = some (.slice Ao29 t301.length co29) := (blk_cell BK307.out 0).trans rfl
   have hcz74_1 : w70.cell? ⟨gb307, 1, none⟩ = some (.slice Ao33 t304.length co33) := (blk_cell BK307.out 1).trans rfl
   have hfz74_0 := blk_frozen BK307.out 0
   have hfz74_1 := blk_frozen BK307.out 1
   go_upto_region 14 with (first | ((with_reducible refine gate_callee (f := 59) rfl ?_); refine goesL_ (some 52) rfl rfl Try.func59 kZ rfl #[.agg #[.slice Ao29 t301.length co29, .slice Ao33 t304.length co33], .int .i64 1] rfl tZA ?_; (with_reducible refine (laws_markRegister.calls kj11 (fun k_ => some k_ = (.slice Ao29 t301.length co29 : Value).ownBlock) (.slice Ao29 t301.length co29) t301 (fun k_ => some k_ = (.slice Ao33 t304.length co33 : Value).ownBlock) (.slice Ao33 t304.length co33) t304 1 t324 t325 t326 w _ ?side1 ?side2 ?side3 A64.out).mono ?_); (case side1 => repeat (first | (with_reducible first | exact HB.out | apply below_alloc | apply pw_below_drewN | apply below_drew1 | refine below_set ?_ GE285.out | refine below_set ?_ GE300.out | refine below_set ?_ GE307.out | refine below_set ?_ GE315.out) | exact HB.out)); (case side2 => exact Kd.R_tight rfl HO_308000.out); (case side3 => exact Kd.R_tight rfl HO_308001.out); rintro e w75 ⟨rfl, hy0, hy1, hb, hkp⟩; refine ⟨_, rfl, ?_⟩; replace HO_301000 := aZ (Kd.R_mono (ok' := fun k_ => some k_ ≠ (.slice Ao29 t301.length co29 : Value).ownBlock ∧ some k_ ≠ (.slice Ao36 t308.length co36 : Value).ownBlock ∧ some k_ ≠ (.slice Ao68 t317.length co68 : Value).ownBlock) (Kd.R_keptB ((Kd.R_apart' HO_301000.out (Kd.R_typed HO_308001.out) (by decide))) hkp (fun k_ hk_ hs_ => Or.elim hs_ (fun e_ => (hk_.1.1.1) e_) (fun e_ => (hk_.2) e_))) (fun k_ hk_ => ⟨hk_.1.1.1.1, hk_.1.1.1.2, hk_.1.1.2⟩)); replace HO_301001 := aZ (Kd.R_mono (ok' := fun k_ => some k_ ≠ (.slice Ao33 t304.length co33 : Value).ownBlock ∧ some k_ ≠ (.slice Ao41 t311.length co41 : Value).ownBlock ∧ some k_ ≠ (.slice Ao69 t320.length co69 : Value).ownBlock) (Kd.R_keptB ((Kd.R_apart' HO_301001.out (Kd.R_typed HO_308000.out) (by decide))) hkp (fun k_ hk_ hs_ => Or.elim hs_ (fun e_ => (hk_.2) e_) (fun e_ => (hk_.1.1.1) e_))) (fun k_ hk_ => ⟨hk_.1.1.1.1, hk_.1.1.1.2, hk_.1.1.2⟩)); replace HO_316000 := aZ (Kd.R_mono (ok' := fun k_ => some k_ ≠ (.slice Ao22 t293.length co22 : Value).ownBlock ∧ some k_ ≠ (.slice Ao29 t301.length co29 : Value).ownBlock ∧ some k_ ≠ (.slice Ao68 t317.length co68 : Value).ownBlock) (Kd.R_keptB ((Kd.R_apart' HO_316000.out (Kd.R_typed HO_308001.out) (by decide))) hkp (fun k_ hk_ hs_ => Or.elim hs_ (fun e_ => (hk_.1.1.2) e_) (fun e_ => (hk_.2) e_))) (fun k_ hk_ => ⟨hk_.1.1.1.1, hk_.1.1.1.2, hk_.1.1.2⟩)); replace HO_316001 := aZ (Kd.R_mono (ok' := fun k_ => some k_ ≠ (.slice Ao25 t296.length co25 : Value).ownBlock ∧ some k_ ≠ (.slice Ao33 t304.length co33 : Value).ownBlock ∧ some k_ ≠ (.slice Ao69 t320.length co69 : Value).ownBlock) (Kd.R_keptB ((Kd.R_apart' HO_316001.out (Kd.R_typed HO_308000.out) (by decide))) hkp (fun k_ hk_ hs_ => Or.elim hs_ (fun e_ => (hk_.2) e_) (fun e_ => (hk_.1.1.2) e_))) (fun k_ hk_ => ⟨hk_.1.1.1.1, hk_.1.1.1.2, hk_.1.1.2⟩)); replace BK285 := aZ (blk_kept (bkZ BK285.out) hkp (fun hs_ => Or.elim hs_ (fun e_ => (fun e_ => (Kd.R_ne HO_308000.out BK285.out (by decide)) e_) e_) (fun e_ => (fun e_ => (Kd.R_ne HO_308001.out BK285.out (by decide)) e_) e_))); replace BK300 := aZ (blk_kept (bkZ BK300.out) hkp (fun hs_ => Or.elim hs_ (fun e_ => (fun e_ => (Kd.R_ne HO_308000.out BK300.out (by decide)) e_) e_) (fun e_ => (fun e_ => (Kd.R_ne HO_308001.out BK300.out (by decide)) e_) e_))); replace BK307 := aZ (blk_kept (bkZ BK307.out) hkp (fun hs_ => Or.elim hs_ (fun e_ => (fun e_ => (Kd.R_ne HO_308000.out BK307.out (by decide)) e_) e_) (fun e_ => (fun e_ => (Kd.R_ne HO_308001.out BK307.out (by decide)) e_) e_))); replace BK315 := aZ (blk_kept (bkZ BK315.out) hkp (fun hs_ => Or.elim hs_ (fun e_ => (fun e_ => (Kd.R_ne HO_308000.out BK315.out (by decide)) e_) e_) (fun e_ => (fun e_ => (Kd.R_ne HO_308001.out BK315.out (by decide)) e_) e_))); replace HO319 := aZ (Kd.R_mono (ok' := fun k_ => some k_ ≠ (.slice Ao22 t293.length co22 : Value).ownBlock ∧ some k_ ≠ (.slice Ao29 t301.length co29 : Value).ownBlock ∧ some k_ ≠ (.slice Ao36 t308.length co36 : Value).ownBlock) (Kd.R_keptB ((Kd.R_apart' HO319.out (Kd.R_typed HO_308001.out) (by decide))) hkp (fun k_ hk_ hs_ => Or.elim hs_ (fun e_ => (hk_.1.1.2) e_) (fun e_ => (hk_.2) e_))) (fun k_ hk_ => ⟨hk_.1.1.1.1.2, hk_.1.1.1.2, hk_.1.1.2⟩)); replace HO_308001 := aZ (Kd.R_reok rfl hy1 (fun k_ e_ => HO_308001.out.1 k_ e_)); replace HO322 := aZ (Kd.R_mono (ok' := fun k_ => some k_ ≠ (.slice Ao25 t296.length co25 : Value).ownBlock ∧ some k_ ≠ (.slice Ao33 t304.length co33 : Value).ownBlock ∧ some k_ ≠ (.slice Ao41 t311.length co41 : Value).ownBlock) (Kd.R_keptB ((Kd.R_apart' HO322.out (Kd.R_typed HO_308000.out) (by decide))) hkp (fun k_ hk_ hs_ => Or.elim hs_ (fun e_ => (hk_.2) e_) (fun e_ => (hk_.1.1.2) e_))) (fun k_ hk_ => ⟨hk_.1.1.1.1.2, hk_.1.1.1.2, hk_.1.1.2⟩)); replace HO_308000 := aZ (Kd.R_reok rfl hy0 (fun k_ e_ => HO_308000.out.1 k_ e_)); replace HB := aZ (hb); (try clear hb); (try clear hkp); (try clear hy0); (try clear hy1)))
   (try simp only [Act.put, sZ1, sZ2, sZ3])
   go_cut [65] (fun v65 wc => ∃ (kq : Nat) (x65_64 : Bool), v65 = .bool x65_64 ∧ Aside0 (laws_FnExactVoid.j1 kq a1 t299 x65_64 l0_0 l0_1 t293 t296 t308 t311 = some r) ∧ Aside0 (kq ≤ kj11) ∧ Aside0 (Kd.R k304 304 wc w.heap.size (fun k_ => some k_ ≠ ((.slice Ao29 t301.length co29) : Value).ownBlock ∧ some k_ ≠ ((.slice Ao36 t308.length co36) : Value).ownBlock) (.slice Ao22 t293.length co22) t293) ∧ Aside0 (Kd.R k230 230 wc w.heap.size (fun k_ => some k_ ≠ ((.slice Ao33 t304.length co33) : Value).ownBlock ∧ some k_ ≠ ((.slice Ao41 t311.length co41) : Value).ownBlock) (.slice Ao25 t296.length co25) t296) ∧ Aside0 (Kd.R k304 304 wc w.heap.size (fun k_ => some k_ ≠ ((.slice Ao22 t293.length co22) : Value).ownBlock ∧ some k_ ≠ ((.slice Ao36 t308.length co36) : Value).ownBlock) (.slice Ao29 t301.length co29) t325) ∧ Aside0 (Kd.R k230 230 wc w.heap.size (fun k_ => some k_ ≠ ((.slice Ao25 t296.length co25) : Value).ownBlock ∧ some k_ ≠ ((.slice Ao41 t311.length co41) : Value).ownBlock) (.slice Ao33 t304.length co33) t326) ∧ Aside0 (Kd.R k304 304 wc w.heap.size (fun k_ => some k_ ≠ ((.slice Ao22 t293.length co22) : Value).ownBlock ∧ some k_ ≠ ((.slice Ao29 t301.length co29) : Value).ownBlock) (.slice Ao36 t308.length co36) t308) ∧ Aside0 (Kd.R k230 230 wc w.heap.size (fun k_ => some k_ ≠ ((.slice Ao25 t296.length co25) : Value).ownBlock ∧ some k_ ≠ ((.slice Ao33 t304.length co33) : Value).ownBlock) (.slice Ao41 t311.length co41) t311) ∧ Aside0 (wc.heap[gb285]? = some (.cells #[(.slice A0_0 l0_0.length c0_0), (.slice A0_1 l0_1.length c0_1)] 81 (0, 0))) ∧ Aside0 (wc.heap[gb300]? = some (.cells #[(.slice Ao22 t293.length co22), (.slice Ao25 t296.length co25)] 86 (0, 0))) ∧ Aside0 (wc.heap[gb307]? = some (.cells #[(.slice Ao29 t301.length co29), (.slice Ao33 t304.length co33)] 86 (0, 0))) ∧ Aside0 (wc.heap[gb315]? = some (.cells #[(.slice Ao36 t308.length co36), (.slice Ao41 t311.length co41)] 86 (0, 0))) ∧ Aside0 (Below w.heap.size w wc))
   case first =>
    have H := HC65.out
    clear HC65
    by_cases c76 : t324 < 0
    ·rw [if_pos c76] at H
     have c76b0 := decide_eq_true c76
     clear c76
     (first | rw [c76b0] | (simp only [i64_w, i32_w]; rw [c76b0]) | skip)
     have H' := Aside0.mk H
     clear H
     go_wp2
     go_meet
     case rel => exact ⟨_, (true), tZB, H', ⟨by have := HJ11.out; first | omega | exact Nat.le_refl _⟩, ⟨by (with_reducible repeat (first | apply Kd.R_alloc | apply Kd.R_drewN | apply Kd.R_drew)); exact Kd.R_mono HO_301000.out (fun _ hk => ⟨hk.1, hk.2.1⟩)⟩, ⟨by (with_reducible repeat (first | apply Kd.R_alloc | apply Kd.R_drewN | apply Kd.R_drew)); exact Kd.R_mono HO_301001.out (fun _ hk => ⟨hk.1, hk.2.1⟩)⟩, ⟨by (with_reducible repeat (first | apply Kd.R_alloc | apply Kd.R_drewN | apply Kd.R_drew)); exact Kd.R_mono HO_308000.out (fun _ hk => ⟨hk.1.1, hk.1.2⟩)⟩, ⟨by (with_reducible repeat (first | apply Kd.R_alloc | apply Kd.R_drewN | apply Kd.R_drew)); exact Kd.R_mono HO_308001.out (fun _ hk => ⟨hk.1.1, hk.1.2⟩)⟩, ⟨by (with_reducible repeat (first | apply Kd.R_alloc | apply Kd.R_drewN | apply Kd.R_drew)); exact Kd.R_mono HO_316000.out (fun _ hk => ⟨hk.1, hk.2.1⟩)⟩, ⟨by (with_reducible repeat (first | apply Kd.R_alloc | apply Kd.R_drewN | apply Kd.R_drew)); exact Kd.R_mono HO_316001.out (fun _ hk => ⟨hk.1, hk.2.1⟩)⟩, ⟨bkZ BK285.out⟩, ⟨bkZ BK300.out⟩, ⟨bkZ BK307.out⟩, ⟨bkZ BK315.out⟩, ⟨bZ⟩⟩
    rw [if_neg c76] at H
    have c76b0 := decide_eq_false c76
    clear c76
    (first | rw [c76b0] | (simp only [i64_w, i32_w]; rw [c76b0]) | skip)
    replace H := Option.bind_eq_some_iff.mp H
    obtain ⟨t327, A770, H⟩ := H
    replace H : (if t327 = true then (laws_FnExactVoid.j1 kj11 a1 t299 (t314 != t299) l0_0 l0_1 t293 t296 t308 t311) else (laws_FnExactVoid.j1 kj11 a1 t299 true l0_0 l0_1 t293 t296 t308 t311)) = some r := H
    have A77 := Aside0.mk A770
    clear A770
    by_cases c78 : t327 = true
    ·subst c78
     have H1 : (laws_FnExactVoid.j1 kj11 a1 t299 (t314 != t299) l0_0 l0_1 t293 t296 t308 t311) = some r := by rw [if_pos rfl] at H; exact H
     clear H
     have H := H1
     clear H1
     have H' := Aside0.mk H
     clear H
     have hnb79 := NB315_285.out
     have hnc79 := NB285_315.out
     have hnb80 := NB315_300.out
     have hnc80 := NB300_315.out
     have hnb81 := NB315_307.out
     have hnc81 := NB307_315.out
     have hcz82_0 : w75.cell? ⟨gb315, 0, none⟩ = some (.slice Ao36 t308.length co36) := (blk_cell BK315.out 0).trans rfl
     have hcz82_1 : w75.cell? ⟨gb315, 1, none⟩ = some (.slice Ao41 t311.length co41) := (blk_cell BK315.out 1).trans rfl
     have hfz82_0 := blk_frozen BK315.out 0
     have hfz82_1 := blk_frozen BK315.out 1
     have hnb83 := NB300_285.out
     have hnc83 := NB285_300.out
     have hnb84 := NB300_307.out
     have hnc84 := NB307_300.out
     have hcz85_0 : w75.cell? ⟨gb300, 0, none⟩ = some (.slice Ao22 t293.length co22) := (blk_cell BK300.out 0).trans rfl
     have hcz85_1 : w75.cell? ⟨gb300, 1, none⟩ = some (.slice Ao25 t296.length co25) := (blk_cell BK300.out 1).trans rfl
     have hfz85_0 := blk_frozen BK300.out 0
     have hfz85_1 := blk_frozen BK300.out 1
     go_wp2_with (first | (go_at_call 58; (with_reducible refine (laws_eqRegister.calls kj11 _ _ t308 _ _ t311 _ _ t293 _ _ t296 true _ ?side1 ?side2 ?side3 ?side4 ?side5 ?side6 ?side7 ?side8 A77.out).mono ?_); (case side1 => repeat (first | exact (Kd.R_reads' HO_316000.out).2.2 | (with_reducible refine Kd.C_alloc ?_ _) | (with_reducible refine Kd.C_drewN ?_ _) | (with_reducible refine Kd.C_drew ?_))); (case side2 => exact (Kd.R_reads' HO_316000.out).2.1); (case side3 => repeat (first | exact (Kd.R_reads' HO_316001.out).2.2 | (with_reducible refine Kd.C_alloc ?_ _) | (with_reducible refine Kd.C_drewN ?_ _) | (with_reducible refine Kd.C_drew ?_))); (case side4 => exact (Kd.R_reads' HO_316001.out).2.1); (case side5 => repeat (first | exact (Kd.R_reads' HO_301000.out).2.2 | (with_reducible refine Kd.C_alloc ?_ _) | (with_reducible refine Kd.C_drewN ?_ _) | (with_reducible refine Kd.C_drew ?_))); (case side6 => exact (Kd.R_reads' HO_301000.out).2.1); (case side7 => repeat (first | exact (Kd.R_reads' HO_301001.out).2.2 | (with_reducible refine Kd.C_alloc ?_ _) | (with_reducible refine Kd.C_drewN ?_ _) | (with_reducible refine Kd.C_drew ?_))); (case side8 => exact (Kd.R_reads' HO_301001.out).2.1); rintro e w86 ⟨rfl, hb⟩; replace HO_301000 := aZ (Kd.R_below (lZR HO_301000.out) hb); replace HO_301001 := aZ (Kd.R_below (lZR HO_301001.out) hb); replace HO_308000 := aZ (Kd.R_below (lZR HO_308000.out) hb); replace HO_308001 := aZ (Kd.R_below (lZR HO_308001.out) hb); replace HO_316000 := aZ (Kd.R_below (lZR HO_316000.out) hb); replace HO_316001 := aZ (Kd.R_below (lZR HO_316001.out) hb); replace HO319 := aZ (Kd.R_below (lZR HO319.out) hb); replace HO322 := aZ (Kd.R_below (lZR HO322.out) hb); replace BK285 := aZ (blk_below (bkZ BK285.out) hb); replace BK300 := aZ (blk_below (bkZ BK300.out) hb); replace BK307 := aZ (blk_below (bkZ BK307.out) hb); replace BK315 := aZ (blk_below (bkZ BK315.out) hb); replace HB := aZ (below_step bZ hb); (try clear hb); (try clear hb2); (try clear hk); (try clear hi)))
     go_meet
     case rel => exact ⟨_, ((t314 != t299)), tZB, H', ⟨by have := HJ11.out; first | omega | exact Nat.le_refl _⟩, ⟨by (with_reducible repeat (first | apply Kd.R_alloc | apply Kd.R_drewN | apply Kd.R_drew)); exact Kd.R_mono HO_301000.out (fun _ hk => ⟨hk.1, hk.2.1⟩)⟩, ⟨by (with_reducible repeat (first | apply Kd.R_alloc | apply Kd.R_drewN | apply Kd.R_drew)); exact Kd.R_mono HO_301001.out (fun _ hk => ⟨hk.1, hk.2.1⟩)⟩, ⟨by (with_reducible repeat (first | apply Kd.R_alloc | apply Kd.R_drewN | apply Kd.R_drew)); exact Kd.R_mono HO_308000.out (fun _ hk => ⟨hk.1.1, hk.1.2⟩)⟩, ⟨by (with_reducible repeat (first | apply Kd.R_alloc | apply Kd.R_drewN | apply Kd.R_drew)); exact Kd.R_mono HO_308001.out (fun _ hk => ⟨hk.1.1, hk.1.2⟩)⟩, ⟨by (with_reducible repeat (first | apply Kd.R_alloc | apply Kd.R_drewN | apply Kd.R_drew)); exact Kd.R_mono HO_316000.out (fun _ hk => ⟨hk.1, hk.2.1⟩)⟩, ⟨by (with_reducible repeat (first | apply Kd.R_alloc | apply Kd.R_drewN | apply Kd.R_drew)); exact Kd.R_mono HO_316001.out (fun _ hk => ⟨hk.1, hk.2.1⟩)⟩, ⟨bkZ BK285.out⟩, ⟨bkZ BK300.out⟩, ⟨bkZ BK307.out⟩, ⟨bkZ BK315.out⟩, ⟨bZ⟩⟩
    replace c78 := Bool.eq_false_iff.mpr c78
    subst c78
    have H1 : (laws_FnExactVoid.j1 kj11 a1 t299 true l0_0 l0_1 t293 t296 t308 t311) = some r := by rw [if_neg (show ¬ (false = true) by decide)] at H; exact H
    clear H
    have H := H1
    clear H1
    have H' := Aside0.mk H
    clear H
    have hnb87 := NB315_285.out
    have hnc87 := NB285_315.out
    have hnb88 := NB315_300.out
    have hnc88 := NB300_315.out
    have hnb89 := NB315_307.out
    have hnc89 := NB307_315.out
    have hcz90_0 : w75.cell? ⟨gb315, 0, none⟩ = some (.slice Ao36 t308.length co36) := (blk_cell BK315.out 0).trans rfl
    have hcz90_1 : w75.cell? ⟨gb315, 1, none⟩ = some (.slice Ao41 t311.length co41) := (blk_cell BK315.out 1).trans rfl
    have hfz90_0 := blk_frozen BK315.out 0
    have hfz90_1 := blk_frozen BK315.out 1
    have hnb91 := NB300_285.out
    have hnc91 := NB285_300.out
    have hnb92 := NB300_307.out
    have hnc92 := NB307_300.out
    have hcz93_0 : w75.cell? ⟨gb300, 0, none⟩ = some (.slice Ao22 t293.length co22) := (blk_cell BK300.out 0).trans rfl
    have hcz93_1 : w75.cell? ⟨gb300, 1, none⟩ = some (.slice Ao25 t296.length co25) := (blk_cell BK300.out 1).trans rfl
    have hfz93_0 := blk_frozen BK300.out 0
    have hfz93_1 := blk_frozen BK300.out 1
    go_wp2_with (first | (go_at_call 58; (with_reducible refine (laws_eqRegister.calls kj11 _ _ t308 _ _ t311 _ _ t293 _ _ t296 false _ ?side1 ?side2 ?side3 ?side4 ?side5 ?side6 ?side7 ?side8 A77.out).mono ?_); (case side1 => repeat (first | exact (Kd.R_reads' HO_316000.out).2.2 | (with_reducible refine Kd.C_alloc ?_ _) | (with_reducible refine Kd.C_drewN ?_ _) | (with_reducible refine Kd.C_drew ?_))); (case side2 => exact (Kd.R_reads' HO_316000.out).2.1); (case side3 => repeat (first | exact (Kd.R_reads' HO_316001.out).2.2 | (with_reducible refine Kd.C_alloc ?_ _) | (with_reducible refine Kd.C_drewN ?_ _) | (with_reducible refine Kd.C_drew ?_))); (case side4 => exact (Kd.R_reads' HO_316001.out).2.1); (case side5 => repeat (first | exact (Kd.R_reads' HO_301000.out).2.2 | (with_reducible refine Kd.C_alloc ?_ _) | (with_reducible refine Kd.C_drewN ?_ _) | (with_reducible refine Kd.C_drew ?_))); (case side6 => exact (Kd.R_reads' HO_301000.out).2.1); (case side7 => repeat (first | exact (Kd.R_reads' HO_301001.out).2.2 | (with_reducible refine Kd.C_alloc ?_ _) | (with_reducible refine Kd.C_drewN ?_ _) | (with_reducible refine Kd.C_drew ?_))); (case side8 => exact (Kd.R_reads' HO_301001.out).2.1); rintro e w94 ⟨rfl, hb⟩; replace HO_301000 := aZ (Kd.R_below (lZR HO_301000.out) hb); replace HO_301001 := aZ (Kd.R_below (lZR HO_301001.out) hb); replace HO_308000 := aZ (Kd.R_below (lZR HO_308000.out) hb); replace HO_308001 := aZ (Kd.R_below (lZR HO_308001.out) hb); replace HO_316000 := aZ (Kd.R_below (lZR HO_316000.out) hb); replace HO_316001 := aZ (Kd.R_below (lZR HO_316001.out) hb); replace HO319 := aZ (Kd.R_below (lZR HO319.out) hb); replace HO322 := aZ (Kd.R_below (lZR HO322.out) hb); replace BK285 := aZ (blk_below (bkZ BK285.out) hb); replace BK300 := aZ (blk_below (bkZ BK300.out) hb); replace BK307 := aZ (blk_below (bkZ BK307.out) hb); replace BK315 := aZ (blk_below (bkZ BK315.out) hb); replace HB := aZ (below_step bZ hb); (try clear hb); (try clear hb2); (try clear hk); (try clear hi)))
    go_meet
    case rel => exact ⟨_, (true), tZB, H', ⟨by have := HJ11.out; first | omega | exact Nat.le_refl _⟩, ⟨by (with_reducible repeat (first | apply Kd.R_alloc | apply Kd.R_drewN | apply Kd.R_drew)); exact Kd.R_mono HO_301000.out (fun _ hk => ⟨hk.1, hk.2.1⟩)⟩, ⟨by (with_reducible repeat (first | apply Kd.R_alloc | apply Kd.R_drewN | apply Kd.R_drew)); exact Kd.R_mono HO_301001.out (fun _ hk => ⟨hk.1, hk.2.1⟩)⟩, ⟨by (with_reducible repeat (first | apply Kd.R_alloc | apply Kd.R_drewN | apply Kd.R_drew)); exact Kd.R_mono HO_308000.out (fun _ hk => ⟨hk.1.1, hk.1.2⟩)⟩, ⟨by (with_reducible repeat (first | apply Kd.R_alloc | apply Kd.R_drewN | apply Kd.R_drew)); exact Kd.R_mono HO_308001.out (fun _ hk => ⟨hk.1.1, hk.1.2⟩)⟩, ⟨by (with_reducible repeat (first | apply Kd.R_alloc | apply Kd.R_drewN | apply Kd.R_drew)); exact Kd.R_mono HO_316000.out (fun _ hk => ⟨hk.1, hk.2.1⟩)⟩, ⟨by (with_reducible repeat (first | apply Kd.R_alloc | apply Kd.R_drewN | apply Kd.R_drew)); exact Kd.R_mono HO_316001.out (fun _ hk => ⟨hk.1, hk.2.1⟩)⟩, ⟨bkZ BK285.out⟩, ⟨bkZ BK300.out⟩, ⟨bkZ BK307.out⟩, ⟨bkZ BK315.out⟩, ⟨bZ⟩⟩
   case rest =>
    clear HC65
    try clear c2
    try clear p2
    try clear c3
    try clear c4
    try clear c4b0
    try clear c5
    try clear c6
    try clear c7
    try clear c8
    try clear c9
    try clear c23
    try clear c30
    try clear c31
    try clear c37
    try clear c38
    try clear c39
    try clear c43
    try clear c44
    try clear c45
    try clear c46
    try clear c48
    try clear c49
    try clear c52
    try clear c53
    try clear c54
    try clear c55
    try clear c56
    try clear c57
    try clear c58
    try clear c59
    try clear c60
    try clear c63
    try clear c71
    try clear c72
    try clear c73
    try clear c76
    try clear c76b0
    try clear c78
    try clear c79
    try clear c80
    try clear c81
    try clear c83
    try clear c84
    try clear c87
    try clear c88
    try clear c89
    try clear c91
    try clear c92
    try clear hcz14_0
    try clear hcz14_1
    try clear hcz16_0
    try clear hcz16_1
    try clear hcz24_0
    try clear hcz24_1
    try clear hcz26_0
    try clear hcz26_1
    try clear hcz32_0
    try clear hcz32_1
    try clear hcz40_0
    try clear hcz40_1
    try clear hcz47_0
    try clear hcz47_1
    try clear hcz50_0
    try clear hcz50_1
    try clear hcz55_0
    try clear hcz55_1
    try clear hcz58_0
    try clear hcz58_1
    try clear hcz6_0
    try clear hcz6_1
    try clear hcz74_0
    try clear hcz74_1
    try clear hcz82_0
    try clear hcz82_1
    try clear hcz85_0
    try clear hcz85_1
    try clear hcz90_0
    try clear hcz90_1
    try clear hcz93_0
    try clear hcz93_1
    try clear hfz14_0
    try clear hfz14_1
    try clear hfz16_0
    try clear hfz16_1
    try clear hfz24_0
    try clear hfz24_1
    try clear hfz26_0
    try clear hfz26_1
    try clear hfz32_0
    try clear hfz32_1
    try clear hfz40_0
    try clear hfz40_1
    try clear hfz47_0
    try clear hfz47_1
    try clear hfz50_0
    try clear hfz50_1
    try clear hfz55_0
    try clear hfz55_1
    try clear hfz58_0
    try clear hfz58_1
    try clear hfz6_0
    try clear hfz6_1
    try clear hfz74_0
    try clear hfz74_1
    try clear hfz82_0
    try clear hfz82_1
    try clear hfz85_0
    try clear hfz85_1
    try clear hfz90_0
    try clear hfz90_1
    try clear hfz93_0
    try clear hfz93_1
    try clear p2
    obtain ⟨kq, x65_64, rfl, HA, HJ64, HO_301000, HO_301001, HO_308000, HO_308001, HO_316000, HO_316001, BK285, BK300, BK307, BK315, HB⟩ := hcut
    have hl308000_64 := (Kd.R_reads' HO_308000.out).1
    rw [hl308000_64] at HO_308000
    (try simp only [hl308000_64])
    (try simp only [hl308000_64] at BK285)
    (try simp only [hl308000_64] at BK300)
    (try simp only [hl308000_64] at BK307)
    (try simp only [hl308000_64] at BK315)
    (try simp only [hl308000_64] at HO_301000)
    (try simp only [hl308000_64] at HO_301001)
    (try simp only [hl308000_64] at HO_308001)
    (try simp only [hl308000_64] at HO_316000)
    (try simp only [hl308000_64] at HO_316001)
    have hl308001_64 := (Kd.R_reads' HO_308001.out).1
    rw [hl308001_64] at HO_308001
    (try simp only [hl308001_64])
    (try simp only [hl308001_64] at BK285)
    (try simp only [hl308001_64] at BK300)
    (try simp only [hl308001_64] at BK307)
    (try simp only [hl308001_64] at BK315)
    (try simp only [hl308001_64] at HO_301000)
    (try simp only [hl308001_64] at HO_301001)
    (try simp only [hl308001_64] at HO_308000)
    (try simp only [hl308001_64] at HO_316000)
    (try simp only [hl308001_64] at HO_316001)
    cases kq with
    | zero => exact absurd HA.out (by simp [laws_FnExactVoid.j1])
    | succ kj64 =>
     have H := HA.out
     clear HA
     simp only [laws_FnExactVoid.j1] at H
     by_cases c95 : x65_64 = true
     ·subst c95
      have H1 : (some false) = some r := by rw [if_pos rfl] at H; exact H
      clear H
      have H := H1
      clear H1
      obtain rfl := Option.some.inj H
      go_wp2
      go_ret
      exact ⟨tZC, bZ⟩
     replace c95 := Bool.eq_false_iff.mpr c95
     subst c95
     have H1 : ((laws_markRegister.f kj64 t308 t311 1).bind fun bt328 => ((laws_heldRegister.f kj64 bt328.2.1 bt328.2.2 1).bind fun t331 => (if t331 < 0 then (some false) else (if t331 = bt328.1 then ((laws_toRegister.f kj64 l0_0 l0_1).bind fun bt332 => ((impl_Void.f kj64 bt332.1 bt332.2 a1).bind fun bt338 => ((laws_eqRegister.f kj64 bt338.1 bt338.2.1 t293 t296).bind fun t346 => (if t346 = true then (laws_FnExactVoid.j2 kj64 bt328.1 (bt338.2.2 != t299) bt328.2.1 bt328.2.2) else (laws_FnExactVoid.j2 kj64 bt328.1 true bt328.2.1 bt328.2.2))))) else (some false))))) = some r := by rw [if_neg (show ¬ (false = true) by decide)] at H; exact H
     clear H
     have H := H1
     clear H1
     replace H := Option.bind_eq_some_iff.mp H
     obtain ⟨⟨t328, t329, t330⟩, A960, H⟩ := H
     replace H : ((laws_heldRegister.f kj64 t329 t330 1).bind fun t331 => (if t331 < 0 then (some false) else (if t331 = t328 then ((laws_toRegister.f kj64 l0_0 l0_1).bind fun bt332 => ((impl_Void.f kj64 bt332.1 bt332.2 a1).bind fun bt338 => ((laws_eqRegister.f kj64 bt338.1 bt338.2.1 t293 t296).bind fun t346 => (if t346 = true then (laws_FnExactVoid.j2 kj64 t328 (bt338.2.2 != t299) t329 t330) else (laws_FnExactVoid.j2 kj64 t328 true t329 t330))))) else (some false)))) = some r := H
     have A96 := Aside0.mk A960
     clear A960
     replace H := Option.bind_eq_some_iff.mp H
     obtain ⟨t331, A970, H⟩ := H
     replace H : (if t331 < 0 then (some false) else (if t331 = t328 then ((laws_toRegister.f kj64 l0_0 l0_1).bind fun bt332 => ((impl_Void.f kj64 bt332.1 bt332.2 a1).bind fun bt338 => ((laws_eqRegister.f kj64 bt338.1 bt338.2.1 t293 t296).bind fun t346 => (if t346 = true then (laws_FnExactVoid.j2 kj64 t328 (bt338.2.2 != t299) t329 t330) else (laws_FnExactVoid.j2 kj64 t328 true t329 t330))))) else (some false))) = some r := H
     have A97 := Aside0.mk A970
     clear A970
     by_cases c98 : t331 < 0
     ·rw [if_pos c98] at H
      have c98b0 := decide_eq_true c98
      clear c98
      obtain rfl := Option.some.inj H
      have hnb99 := NB315_285.out
      have hnc99 := NB285_315.out
      have hnb100 := NB315_300.out
      have hnc100 := NB300_315.out
      have hnb101 := NB315_307.out
      have hnc101 := NB307_315.out
      have hcz102_0 : wc.cell? ⟨gb315, 0, none⟩ = some (.slice Ao36 t308.length co36) := (blk_cell BK315.out 0).trans rfl
      have hcz102_1 : wc.cell? ⟨gb315, 1, none⟩ = some (.slice Ao41 t311.length co41) := (blk_cell BK315.out 1).trans rfl
      have hfz102_0 := blk_frozen BK315.out 0
      have hfz102_1 := blk_frozen BK315.out 1
      go_wp2_with (first | ((with_reducible refine gate_callee (f := 59) rfl ?_); refine goesL_ (some 68) rfl rfl Try.func59 kZ rfl #[.agg #[.slice Ao36 t308.length co36, .slice Ao41 t311.length co41], .int .i64 1] rfl tZA ?_; (with_reducible refine (laws_markRegister.calls kj64 (fun k_ => some k_ = (.slice Ao36 t308.length co36 : Value).ownBlock) (.slice Ao36 t308.length co36) t308 (fun k_ => some k_ = (.slice Ao41 t311.length co41 : Value).ownBlock) (.slice Ao41 t311.length co41) t311 1 t328 t329 t330 w _ ?side1 ?side2 ?side3 A96.out).mono ?_); (case side1 => repeat (first | (with_reducible first | exact HB.out | apply below_alloc | apply pw_below_drewN | apply below_drew1 | refine below_set ?_ GE285.out | refine below_set ?_ GE300.out | refine below_set ?_ GE307.out | refine below_set ?_ GE315.out) | exact HB.out)); (case side2 => exact Kd.R_tight rfl HO_316000.out); (case side3 => exact Kd.R_tight rfl HO_316001.out); rintro e w103 ⟨rfl, hy0, hy1, hb, hkp⟩; refine ⟨_, rfl, ?_⟩; replace HO_301000 := aZ (Kd.R_mono (ok' := fun k_ => some k_ ≠ (.slice Ao29 t325.length co29 : Value).ownBlock ∧ some k_ ≠ (.slice Ao36 t308.length co36 : Value).ownBlock) (Kd.R_keptB ((Kd.R_apart' HO_301000.out (Kd.R_typed HO_316001.out) (by decide))) hkp (fun k_ hk_ hs_ => Or.elim hs_ (fun e_ => (hk_.1.2) e_) (fun e_ => (hk_.2) e_))) (fun k_ hk_ => ⟨hk_.1.1.1, hk_.1.1.2⟩)); replace HO_301001 := aZ (Kd.R_mono (ok' := fun k_ => some k_ ≠ (.slice Ao33 t326.length co33 : Value).ownBlock ∧ some k_ ≠ (.slice Ao41 t311.length co41 : Value).ownBlock) (Kd.R_keptB ((Kd.R_apart' HO_301001.out (Kd.R_typed HO_316000.out) (by decide))) hkp (fun k_ hk_ hs_ => Or.elim hs_ (fun e_ => (hk_.2) e_) (fun e_ => (hk_.1.2) e_))) (fun k_ hk_ => ⟨hk_.1.1.1, hk_.1.1.2⟩)); replace HO_308000 := aZ (Kd.R_mono (ok' := fun k_ => some k_ ≠ (.slice Ao22 t293.length co22 : Value).ownBlock ∧ some k_ ≠ (.slice Ao36 t308.length co36 : Value).ownBlock) (Kd.R_keptB ((Kd.R_apart' HO_308000.out (Kd.R_typed HO_316001.out) (by decide))) hkp (fun k_ hk_ hs_ => Or.elim hs_ (fun e_ => (hk_.1.2) e_) (fun e_ => (hk_.2) e_))) (fun k_ hk_ => ⟨hk_.1.1.1, hk_.1.1.2⟩)); replace HO_308001 := aZ (Kd.R_mono (ok' := fun k_ => some k_ ≠ (.slice Ao25 t296.length co25 : Value).ownBlock ∧ some k_ ≠ (.slice Ao41 t311.length co41 : Value).ownBlock) (Kd.R_keptB ((Kd.R_apart' HO_308001.out (Kd.R_typed HO_316000.out) (by decide))) hkp (fun k_ hk_ hs_ => Or.elim hs_ (fun e_ => (hk_.2) e_) (fun e_ => (hk_.1.2) e_))) (fun k_ hk_ => ⟨hk_.1.1.1, hk_.1.1.2⟩)); replace BK285 := aZ (blk_kept (bkZ BK285.out) hkp (fun hs_ => Or.elim hs_ (fun e_ => (fun e_ => (Kd.R_ne HO_316000.out BK285.out (by decide)) e_) e_) (fun e_ => (fun e_ => (Kd.R_ne HO_316001.out BK285.out (by decide)) e_) e_))); replace BK300 := aZ (blk_kept (bkZ BK300.out) hkp (fun hs_ => Or.elim hs_ (fun e_ => (fun e_ => (Kd.R_ne HO_316000.out BK300.out (by decide)) e_) e_) (fun e_ => (fun e_ => (Kd.R_ne HO_316001.out BK300.out (by decide)) e_) e_))); replace BK307 := aZ (blk_kept (bkZ BK307.out) hkp (fun hs_ => Or.elim hs_ (fun e_ => (fun e_ => (Kd.R_ne HO_316000.out BK307.out (by decide)) e_) e_) (fun e_ => (fun e_ => (Kd.R_ne HO_316001.out BK307.out (by decide)) e_) e_))); replace BK315 := aZ (blk_kept (bkZ BK315.out) hkp (fun hs_ => Or.elim hs_ (fun e_ => (fun e_ => (Kd.R_ne HO_316000.out BK315.out (by decide)) e_) e_) (fun e_ => (fun e_ => (Kd.R_ne HO_316001.out BK315.out (by decide)) e_) e_))); replace HO_316000 := aZ (Kd.R_reok rfl hy0 (fun k_ e_ => HO_316000.out.1 k_ e_)); replace HO_316001 := aZ (Kd.R_reok rfl hy1 (fun k_ e_ => HO_316001.out.1 k_ e_)); replace HB := aZ (hb); (try clear hb); (try clear hkp); (try clear hy0); (try clear hy1); have hcz104_0 : w103.cell? ⟨gb315, 0, none⟩ = some (.slice Ao36 t308.length co36) := (blk_cell BK315.out 0).trans rfl; have hcz104_1 : w103.cell? ⟨gb315, 1, none⟩ = some (.slice Ao41 t311.length co41) := (blk_cell BK315.out 1).trans rfl; have hfz104_0 := blk_frozen BK315.out 0; have hfz104_1 := blk_frozen BK315.out 1) | ((with_reducible refine gate_callee (f := 60) rfl ?_); refine goesL_ (some 71) rfl rfl Try.func60 kZ rfl #[.agg #[.slice Ao36 t329.length co36, .slice Ao41 t330.length co41], .int .i64 1] rfl (by (try simp only [List.map_toArray, List.map_cons, List.map_nil]); first | done | (rw [show t329.length = t308.length from (Kd.R_reads' HO_316000.out).1.symm, show t330.length = t311.length from (Kd.R_reads' HO_316001.out).1.symm] <;> rfl) | rfl | (simp only [List.length_drop, List.length_take]; rfl)) ?_; (with_reducible refine (laws_heldRegister.calls kj64 _ _ t329 _ _ t330 1 t331 _ ?side1 ?side2 ?side3 ?side4 A97.out).mono ?_); (case side1 => repeat (first | exact (Kd.R_reads' HO_316000.out).2.2 | (with_reducible refine Kd.C_alloc ?_ _) | (with_reducible refine Kd.C_drewN ?_ _) | (with_reducible refine Kd.C_drew ?_))); (case side2 => rw [show t329.length = t308.length from (Kd.R_reads' HO_316000.out).1.symm]; exact (Kd.R_reads' HO_316000.out).2.1); (case side3 => repeat (first | exact (Kd.R_reads' HO_316001.out).2.2 | (with_reducible refine Kd.C_alloc ?_ _) | (with_reducible refine Kd.C_drewN ?_ _) | (with_reducible refine Kd.C_drew ?_))); (case side4 => rw [show t330.length = t311.length from (Kd.R_reads' HO_316001.out).1.symm]; exact (Kd.R_reads' HO_316001.out).2.1); rintro e w105 ⟨rfl, hb⟩; refine ⟨_, rfl, ?_⟩; replace HO_301000 := aZ (Kd.R_below (lZR HO_301000.out) hb); replace HO_301001 := aZ (Kd.R_below (lZR HO_301001.out) hb); replace HO_308000 := aZ (Kd.R_below (lZR HO_308000.out) hb); replace HO_308001 := aZ (Kd.R_below (lZR HO_308001.out) hb); replace HO_316000 := aZ (Kd.R_below (lZR HO_316000.out) hb); replace HO_316001 := aZ (Kd.R_below (lZR HO_316001.out) hb); replace BK285 := aZ (blk_below (bkZ BK285.out) hb); replace BK300 := aZ (blk_below (bkZ BK300.out) hb); replace BK307 := aZ (blk_below (bkZ BK307.out) hb); replace BK315 := aZ (blk_below (bkZ BK315.out) hb); replace HB := aZ (below_step bZ hb); (try clear hb); (try clear hb2); (try clear hk); (try clear hi)))
      go_ret
      exact ⟨tZC, bZ⟩
     rw [if_neg c98] at H
     have c98b0 := decide_eq_false c98
     clear c98
     by_cases c106 : t331 = t328
     rotate_left
     ·rw [if_neg c106] at H
      have c106b0 : (t331 == t328) = false := beq_eq_false_iff_ne.mpr c106
      have c106b1 : (t331 != t328) = true := bne_iff_ne.mpr c106
      obtain rfl := Option.some.inj H
      have hnb176 := NB315_285.out
      have hnc176 := NB285_315.out
      have hnb177 := NB315_300.out
      have hnc177 := NB300_315.out
      have hnb178 := NB315_307.out
      have hnc178 := NB307_315.out
      have hcz179_0 : wc.cell? ⟨gb315, 0, none⟩ = some (.slice Ao36 t308.length co36) := (blk_cell BK315.out 0).trans rfl
      have hcz179_1 : wc.cell? ⟨gb315, 1, none⟩ = some (.slice Ao41 t311.length co41) := (blk_cell BK315.out 1).trans rfl
      have hfz179_0 := blk_frozen BK315.out 0
      have hfz179_1 := blk_frozen BK315.out 1
      go_wp2_with (first | ((with_reducible refine gate_callee (f := 59) rfl ?_); refine goesL_ (some 68) rfl rfl Try.func59 kZ rfl #[.agg #[.slice Ao36 t308.length co36, .slice Ao41 t311.length co41], .int .i64 1] rfl tZA ?_; (with_reducible refine (laws_markRegister.calls kj64 (fun k_ => some k_ = (.slice Ao36 t308.length co36 : Value).ownBlock) (.slice Ao36 t308.length co36) t308 (fun k_ => some k_ = (.slice Ao41 t311.length co41 : Value).ownBlock) (.slice Ao41 t311.length co41) t311 1 t328 t329 t330 w _ ?side1 ?side2 ?side3 A96.out).mono ?_); (case side1 => repeat (first | (with_reducible first | exact HB.out | apply below_alloc | apply pw_below_drewN | apply below_drew1 | refine below_set ?_ GE285.out | refine below_set ?_ GE300.out | refine below_set ?_ GE307.out | refine below_set ?_ GE315.out) | exact HB.out)); (case side2 => exact Kd.R_tight rfl HO_316000.out); (case side3 => exact Kd.R_tight rfl HO_316001.out); rintro e w180 ⟨rfl, hy0, hy1, hb, hkp⟩; refine ⟨_, rfl, ?_⟩; replace HO_301000 := aZ (Kd.R_mono (ok' := fun k_ => some k_ ≠ (.slice Ao29 t325.length co29 : Value).ownBlock ∧ some k_ ≠ (.slice Ao36 t308.length co36 : Value).ownBlock) (Kd.R_keptB ((Kd.R_apart' HO_301000.out (Kd.R_typed HO_316001.out) (by decide))) hkp (fun k_ hk_ hs_ => Or.elim hs_ (fun e_ => (hk_.1.2) e_) (fun e_ => (hk_.2) e_))) (fun k_ hk_ => ⟨hk_.1.1.1, hk_.1.1.2⟩)); replace HO_301001 := aZ (Kd.R_mono (ok' := fun k_ => some k_ ≠ (.slice Ao33 t326.length co33 : Value).ownBlock ∧ some k_ ≠ (.slice Ao41 t311.length co41 : Value).ownBlock) (Kd.R_keptB ((Kd.R_apart' HO_301001.out (Kd.R_typed HO_316000.out) (by decide))) hkp (fun k_ hk_ hs_ => Or.elim hs_ (fun e_ => (hk_.2) e_) (fun e_ => (hk_.1.2) e_))) (fun k_ hk_ => ⟨hk_.1.1.1, hk_.1.1.2⟩)); replace HO_308000 := aZ (Kd.R_mono (ok' := fun k_ => some k_ ≠ (.slice Ao22 t293.length co22 : Value).ownBlock ∧ some k_ ≠ (.slice Ao36 t308.length co36 : Value).ownBlock) (Kd.R_keptB ((Kd.R_apart' HO_308000.out (Kd.R_typed HO_316001.out) (by decide))) hkp (fun k_ hk_ hs_ => Or.elim hs_ (fun e_ => (hk_.1.2) e_) (fun e_ => (hk_.2) e_))) (fun k_ hk_ => ⟨hk_.1.1.1, hk_.1.1.2⟩)); replace HO_308001 := aZ (Kd.R_mono (ok' := fun k_ => some k_ ≠ (.slice Ao25 t296.length co25 : Value).ownBlock ∧ some k_ ≠ (.slice Ao41 t311.length co41 : Value).ownBlock) (Kd.R_keptB ((Kd.R_apart' HO_308001.out (Kd.R_typed HO_316000.out) (by decide))) hkp (fun k_ hk_ hs_ => Or.elim hs_ (fun e_ => (hk_.2) e_) (fun e_ => (hk_.1.2) e_))) (fun k_ hk_ => ⟨hk_.1.1.1, hk_.1.1.2⟩)); replace BK285 := aZ (blk_kept (bkZ BK285.out) hkp (fun hs_ => Or.elim hs_ (fun e_ => (fun e_ => (Kd.R_ne HO_316000.out BK285.out (by decide)) e_) e_) (fun e_ => (fun e_ => (Kd.R_ne HO_316001.out BK285.out (by decide)) e_) e_))); replace BK300 := aZ (blk_kept (bkZ BK300.out) hkp (fun hs_ => Or.elim hs_ (fun e_ => (fun e_ => (Kd.R_ne HO_316000.out BK300.out (by decide)) e_) e_) (fun e_ => (fun e_ => (Kd.R_ne HO_316001.out BK300.out (by decide)) e_) e_))); replace BK307 := aZ (blk_kept (bkZ BK307.out) hkp (fun hs_ => Or.elim hs_ (fun e_ => (fun e_ => (Kd.R_ne HO_316000.out BK307.out (by decide)) e_) e_) (fun e_ => (fun e_ => (Kd.R_ne HO_316001.out BK307.out (by decide)) e_) e_))); replace BK315 := aZ (blk_kept (bkZ BK315.out) hkp (fun hs_ => Or.elim hs_ (fun e_ => (fun e_ => (Kd.R_ne HO_316000.out BK315.out (by decide)) e_) e_) (fun e_ => (fun e_ => (Kd.R_ne HO_316001.out BK315.out (by decide)) e_) e_))); replace HO_316000 := aZ (Kd.R_reok rfl hy0 (fun k_ e_ => HO_316000.out.1 k_ e_)); replace HO_316001 := aZ (Kd.R_reok rfl hy1 (fun k_ e_ => HO_316001.out.1 k_ e_)); replace HB := aZ (hb); (try clear hb); (try clear hkp); (try clear hy0); (try clear hy1); have hcz181_0 : w180.cell? ⟨gb315, 0, none⟩ = some (.slice Ao36 t308.length co36) := (blk_cell BK315.out 0).trans rfl; have hcz181_1 : w180.cell? ⟨gb315, 1, none⟩ = some (.slice Ao41 t311.length co41) := (blk_cell BK315.out 1).trans rfl; have hfz181_0 := blk_frozen BK315.out 0; have hfz181_1 := blk_frozen BK315.out 1) | ((with_reducible refine gate_callee (f := 60) rfl ?_); refine goesL_ (some 71) rfl rfl Try.func60 kZ rfl #[.agg #[.slice Ao36 t329.length co36, .slice Ao41 t330.length co41], .int .i64 1] rfl (by (try simp only [List.map_toArray, List.map_cons, List.map_nil]); first | done | (rw [show t329.length = t308.length from (Kd.R_reads' HO_316000.out).1.symm, show t330.length = t311.length from (Kd.R_reads' HO_316001.out).1.symm] <;> rfl) | rfl | (simp only [List.length_drop, List.length_take]; rfl)) ?_; (with_reducible refine (laws_heldRegister.calls kj64 _ _ t329 _ _ t330 1 t331 _ ?side1 ?side2 ?side3 ?side4 A97.out).mono ?_); (case side1 => repeat (first | exact (Kd.R_reads' HO_316000.out).2.2 | (with_reducible refine Kd.C_alloc ?_ _) | (with_reducible refine Kd.C_drewN ?_ _) | (with_reducible refine Kd.C_drew ?_))); (case side2 => rw [show t329.length = t308.length from (Kd.R_reads' HO_316000.out).1.symm]; exact (Kd.R_reads' HO_316000.out).2.1); (case side3 => repeat (first | exact (Kd.R_reads' HO_316001.out).2.2 | (with_reducible refine Kd.C_alloc ?_ _) | (with_reducible refine Kd.C_drewN ?_ _) | (with_reducible refine Kd.C_drew ?_))); (case side4 => rw [show t330.length = t311.length from (Kd.R_reads' HO_316001.out).1.symm]; exact (Kd.R_reads' HO_316001.out).2.1); rintro e w182 ⟨rfl, hb⟩; refine ⟨_, rfl, ?_⟩; replace HO_301000 := aZ (Kd.R_below (lZR HO_301000.out) hb); replace HO_301001 := aZ (Kd.R_below (lZR HO_301001.out) hb); replace HO_308000 := aZ (Kd.R_below (lZR HO_308000.out) hb); replace HO_308001 := aZ (Kd.R_below (lZR HO_308001.out) hb); replace HO_316000 := aZ (Kd.R_below (lZR HO_316000.out) hb); replace HO_316001 := aZ (Kd.R_below (lZR HO_316001.out) hb); replace BK285 := aZ (blk_below (bkZ BK285.out) hb); replace BK300 := aZ (blk_below (bkZ BK300.out) hb); replace BK307 := aZ (blk_below (bkZ BK307.out) hb); replace BK315 := aZ (blk_below (bkZ BK315.out) hb); replace HB := aZ (below_step bZ hb); (try clear hb); (try clear hb2); (try clear hk); (try clear hi)))
      go_ret
      exact ⟨tZC, bZ⟩
     rw [if_pos c106] at H
     have c106b0 : (t331 == t328) = true := beq_iff_eq.mpr c106
     have c106b1 : (t331 != t328) = false := bne_eq_false_iff_eq.mpr c106
     clear c106
     replace H := Option.bind_eq_some_iff.mp H
     obtain ⟨⟨t332, t335⟩, A1070, H⟩ := H
     replace H : ((impl_Void.f kj64 t332 t335 a1).bind fun bt338 => ((laws_eqRegister.f kj64 bt338.1 bt338.2.1 t293 t296).bind fun t346 => (if t346 = true then (laws_FnExactVoid.j2 kj64 t328 (bt338.2.2 != t299) t329 t330) else (laws_FnExactVoid.j2 kj64 t328 true t329 t330)))) = some r := H
     have A107 := Aside0.mk A1070
     clear A1070
     replace H := Option.bind_eq_some_iff.mp H
     obtain ⟨⟨t338, t341, t344⟩, A1080, H⟩ := H
     replace H : ((laws_eqRegister.f kj64 t338 t341 t293 t296).bind fun t346 => (if t346 = true then (laws_FnExactVoid.j2 kj64 t328 (t344 != t299) t329 t330) else (laws_FnExactVoid.j2 kj64 t328 true t329 t330))) = some r := H
     have A108 := Aside0.mk A1080
     clear A1080
     have HC109 := Aside0.mk H
     clear H
     have hnb110 := NB315_285.out
     have hnc110 := NB285_315.out
     have hnb111 := NB315_300.out
     have hnc111 := NB300_315.out
     have hnb112 := NB315_307.out
     have hnc112 := NB307_315.out
     have hcz113_0 : wc.cell? ⟨gb315, 0, none⟩ = some (.slice Ao36 t308.length co36) := (blk_cell BK315.out 0).trans rfl
     have hcz113_1 : wc.cell? ⟨gb315, 1, none⟩ = some (.slice Ao41 t311.length co41) := (blk_cell BK315.out 1).trans rfl
     have hfz113_0 := blk_frozen BK315.out 0
     have hfz113_1 := blk_frozen BK315.out 1
     go_upto_region 25 with (first | ((with_reducible refine gate_callee (f := 59) rfl ?_); refine goesL_ (some 68) rfl rfl Try.func59 kZ rfl #[.agg #[.slice Ao36 t308.length co36, .slice Ao41 t311.length co41], .int .i64 1] rfl tZA ?_; (with_reducible refine (laws_markRegister.calls kj64 (fun k_ => some k_ = (.slice Ao36 t308.length co36 : Value).ownBlock) (.slice Ao36 t308.length co36) t308 (fun k_ => some k_ = (.slice Ao41 t311.length co41 : Value).ownBlock) (.slice Ao41 t311.length co41) t311 1 t328 t329 t330 w _ ?side1 ?side2 ?side3 A96.out).mono ?_); (case side1 => repeat (first | (with_reducible first | exact HB.out | apply below_alloc | apply pw_below_drewN | apply below_drew1 | refine below_set ?_ GE285.out | refine below_set ?_ GE300.out | refine below_set ?_ GE307.out | refine below_set ?_ GE315.out) | exact HB.out)); (case side2 => exact Kd.R_tight rfl HO_316000.out); (case side3 => exact Kd.R_tight rfl HO_316001.out); rintro e w114 ⟨rfl, hy0, hy1, hb, hkp⟩; refine ⟨_, rfl, ?_⟩; replace HO_301000 := aZ (Kd.R_mono (ok' := fun k_ => some k_ ≠ (.slice Ao29 t325.length co29 : Value).ownBlock ∧ some k_ ≠ (.slice Ao36 t308.length co36 : Value).ownBlock) (Kd.R_keptB ((Kd.R_apart' HO_301000.out (Kd.R_typed HO_316001.out) (by decide))) hkp (fun k_ hk_ hs_ => Or.elim hs_ (fun e_ => (hk_.1.2) e_) (fun e_ => (hk_.2) e_))) (fun k_ hk_ => ⟨hk_.1.1.1, hk_.1.1.2⟩)); replace HO_301001 := aZ (Kd.R_mono (ok' := fun k_ => some k_ ≠ (.slice Ao33 t326.length co33 : Value).ownBlock ∧ some k_ ≠ (.slice Ao41 t311.length co41 : Value).ownBlock) (Kd.R_keptB ((Kd.R_apart' HO_301001.out (Kd.R_typed HO_316000.out) (by decide))) hkp (fun k_ hk_ hs_ => Or.elim hs_ (fun e_ => (hk_.2) e_) (fun e_ => (hk_.1.2) e_))) (fun k_ hk_ => ⟨hk_.1.1.1, hk_.1.1.2⟩)); replace HO_308000 := aZ (Kd.R_mono (ok' := fun k_ => some k_ ≠ (.slice Ao22 t293.length co22 : Value).ownBlock ∧ some k_ ≠ (.slice Ao36 t308.length co36 : Value).ownBlock) (Kd.R_keptB ((Kd.R_apart' HO_308000.out (Kd.R_typed HO_316001.out) (by decide))) hkp (fun k_ hk_ hs_ => Or.elim hs_ (fun e_ => (hk_.1.2) e_) (fun e_ => (hk_.2) e_))) (fun k_ hk_ => ⟨hk_.1.1.1, hk_.1.1.2⟩)); replace HO_308001 := aZ (Kd.R_mono (ok' := fun k_ => some k_ ≠ (.slice Ao25 t296.length co25 : Value).ownBlock ∧ some k_ ≠ (.slice Ao41 t311.length co41 : Value).ownBlock) (Kd.R_keptB ((Kd.R_apart' HO_308001.out (Kd.R_typed HO_316000.out) (by decide))) hkp (fun k_ hk_ hs_ => Or.elim hs_ (fun e_ => (hk_.2) e_) (fun e_ => (hk_.1.2) e_))) (fun k_ hk_ => ⟨hk_.1.1.1, hk_.1.1.2⟩)); replace BK285 := aZ (blk_kept (bkZ BK285.out) hkp (fun hs_ => Or.elim hs_ (fun e_ => (fun e_ => (Kd.R_ne HO_316000.out BK285.out (by decide)) e_) e_) (fun e_ => (fun e_ => (Kd.R_ne HO_316001.out BK285.out (by decide)) e_) e_))); replace BK300 := aZ (blk_kept (bkZ BK300.out) hkp (fun hs_ => Or.elim hs_ (fun e_ => (fun e_ => (Kd.R_ne HO_316000.out BK300.out (by decide)) e_) e_) (fun e_ => (fun e_ => (Kd.R_ne HO_316001.out BK300.out (by decide)) e_) e_))); replace BK307 := aZ (blk_kept (bkZ BK307.out) hkp (fun hs_ => Or.elim hs_ (fun e_ => (fun e_ => (Kd.R_ne HO_316000.out BK307.out (by decide)) e_) e_) (fun e_ => (fun e_ => (Kd.R_ne HO_316001.out BK307.out (by decide)) e_) e_))); replace BK315 := aZ (blk_kept (bkZ BK315.out) hkp (fun hs_ => Or.elim hs_ (fun e_ => (fun e_ => (Kd.R_ne HO_316000.out BK315.out (by decide)) e_) e_) (fun e_ => (fun e_ => (Kd.R_ne HO_316001.out BK315.out (by decide)) e_) e_))); replace HO_316000 := aZ (Kd.R_reok rfl hy0 (fun k_ e_ => HO_316000.out.1 k_ e_)); replace HO_316001 := aZ (Kd.R_reok rfl hy1 (fun k_ e_ => HO_316001.out.1 k_ e_)); replace HB := aZ (hb); (try clear hb); (try clear hkp); (try clear hy0); (try clear hy1); have hcz115_0 : w114.cell? ⟨gb315, 0, none⟩ = some (.slice Ao36 t308.length co36) := (blk_cell BK315.out 0).trans rfl; have hcz115_1 : w114.cell? ⟨gb315, 1, none⟩ = some (.slice Ao41 t311.length co41) := (blk_cell BK315.out 1).trans rfl; have hfz115_0 := blk_frozen BK315.out 0; have hfz115_1 := blk_frozen BK315.out 1) | ((with_reducible refine gate_callee (f := 60) rfl ?_); refine goesL_ (some 71) rfl rfl Try.func60 kZ rfl #[.agg #[.slice Ao36 t329.length co36, .slice Ao41 t330.length co41], .int .i64 1] rfl (by (try simp only [List.map_toArray, List.map_cons, List.map_nil]); first | done | (rw [show t329.length = t308.length from (Kd.R_reads' HO_316000.out).1.symm, show t330.length = t311.length from (Kd.R_reads' HO_316001.out).1.symm] <;> rfl) | rfl | (simp only [List.length_drop, List.length_take]; rfl)) ?_; (with_reducible refine (laws_heldRegister.calls kj64 _ _ t329 _ _ t330 1 t331 _ ?side1 ?side2 ?side3 ?side4 A97.out).mono ?_); (case side1 => repeat (first | exact (Kd.R_reads' HO_316000.out).2.2 | (with_reducible refine Kd.C_alloc ?_ _) | (with_reducible refine Kd.C_drewN ?_ _) | (with_reducible refine Kd.C_drew ?_))); (case side2 => rw [show t329.length = t308.length from (Kd.R_reads' HO_316000.out).1.symm]; exact (Kd.R_reads' HO_316000.out).2.1); (case side3 => repeat (first | exact (Kd.R_reads' HO_316001.out).2.2 | (with_reducible refine Kd.C_alloc ?_ _) | (with_reducible refine Kd.C_drewN ?_ _) | (with_reducible refine Kd.C_drew ?_))); (case side4 => rw [show t330.length = t311.length from (Kd.R_reads' HO_316001.out).1.symm]; exact (Kd.R_reads' HO_316001.out).2.1); rintro e w116 ⟨rfl, hb⟩; refine ⟨_, rfl, ?_⟩; replace HO_301000 := aZ (Kd.R_below (lZR HO_301000.out) hb); replace HO_301001 := aZ (Kd.R_below (lZR HO_301001.out) hb); replace HO_308000 := aZ (Kd.R_below (lZR HO_308000.out) hb); replace HO_308001 := aZ (Kd.R_below (lZR HO_308001.out) hb); replace HO_316000 := aZ (Kd.R_below (lZR HO_316000.out) hb); replace HO_316001 := aZ (Kd.R_below (lZR HO_316001.out) hb); replace BK285 := aZ (blk_below (bkZ BK285.out) hb); replace BK300 := aZ (blk_below (bkZ BK300.out) hb); replace BK307 := aZ (blk_below (bkZ BK307.out) hb); replace BK315 := aZ (blk_below (bkZ BK315.out) hb); replace HB := aZ (below_step bZ hb); (try clear hb); (try clear hb2); (try clear hk); (try clear hi); have hnb117 := NB285_300.out; have hnc117 := NB300_285.out; have hnb118 := NB285_307.out; have hnc118 := NB307_285.out; have hcz119_0 : w116.cell? ⟨gb285, 0, none⟩ = some (.slice A0_0 l0_0.length c0_0) := (blk_cell BK285.out 0).trans rfl; have hcz119_1 : w116.cell? ⟨gb285, 1, none⟩ = some (.slice A0_1 l0_1.length c0_1) := (blk_cell BK285.out 1).trans rfl; have hfz119_0 := blk_frozen BK285.out 0; have hfz119_1 := blk_frozen BK285.out 1) | ((with_reducible refine gate_callee (f := 56) rfl ?_); refine goesL_ (some 79) rfl rfl Try.func56 kZ rfl #[.agg #[.slice A0_0 l0_0.length c0_0, .slice A0_1 l0_1.length c0_1]] rfl tZA ?_; (with_reducible refine (laws_toRegister.calls kj64 _ _ l0_0 _ _ l0_1 t332 t335 _ ?side1 ?side2 ?side3 ?side4 A107.out).mono ?_); (case side1 => repeat (first | exact (Kd.C_below HR0_0.out HB.out) | (with_reducible refine Kd.C_alloc ?_ _) | (with_reducible refine Kd.C_drewN ?_ _) | (with_reducible refine Kd.C_drew ?_))); (case side2 => exact HC0_0.out); (case side3 => repeat (first | exact (Kd.C_below HR0_1.out HB.out) | (with_reducible refine Kd.C_alloc ?_ _) | (with_reducible refine Kd.C_drewN ?_ _) | (with_reducible refine Kd.C_drew ?_))); (case side4 => exact HC0_1.out); rintro e w120 ⟨v333, v336, rfl, ho0, ho1, hb⟩; refine ⟨_, rfl, ?_⟩; have HO334 := aZ (Kd.R_lower (Kd.R_new' (Kd.R_new' (Kd.R_new' ho0 (Kd.R_lt (lZR HO_301000.out))) (Kd.R_lt (lZR HO_308000.out))) (Kd.R_lt (lZR HO_316000.out))) (below_size bZ)); replace HO_301000 := aZ (Kd.R_elder' (lZR HO_301000.out) (Kd.R_base ho0) hb); replace HO_308000 := aZ (Kd.R_elder' (lZR HO_308000.out) (Kd.R_base ho0) hb); replace HO_316000 := aZ (Kd.R_elder' (lZR HO_316000.out) (Kd.R_base ho0) hb); have HO337 := aZ (Kd.R_lower (Kd.R_new' (Kd.R_new' (Kd.R_new' ho1 (Kd.R_lt (lZR HO_301001.out))) (Kd.R_lt (lZR HO_308001.out))) (Kd.R_lt (lZR HO_316001.out))) (below_size bZ)); replace HO_301001 := aZ (Kd.R_elder' (lZR HO_301001.out) (Kd.R_base ho1) hb); replace HO_308001 := aZ (Kd.R_elder' (lZR HO_308001.out) (Kd.R_base ho1) hb); replace HO_316001 := aZ (Kd.R_elder' (lZR HO_316001.out) (Kd.R_base ho1) hb); replace BK285 := aZ (blk_below (bkZ BK285.out) hb); replace BK300 := aZ (blk_below (bkZ BK300.out) hb); replace BK307 := aZ (blk_below (bkZ BK307.out) hb); replace BK315 := aZ (blk_below (bkZ BK315.out) hb); replace HB := aZ (below_step bZ hb); (try clear hb); (try clear hb2); (try clear hk); (try clear hi); (try clear ho0); (try clear ho1); obtain ⟨Ao121, co121, eo121⟩ := Kd.R_slice HO334.out; subst eo121; obtain ⟨Ao122, co122, eo122⟩ := Kd.R_slice HO337.out; subst eo122) | ((with_reducible refine gate_callee (f := 57) rfl ?_); refine goesL_ (some 81) rfl rfl Try.func57 kZ rfl #[.agg #[.slice Ao121 t332.length co121, .slice Ao122 t335.length co122], .int .i64 a1] rfl tZA ?_; (with_reducible refine (impl_Void.calls kj64 _ _ t332 _ _ t335 a1 t338 t341 t344 _ ?side1 ?side2 ?side3 ?side4 A108.out).mono ?_); (case side1 => repeat (first | exact (Kd.R_reads' HO334.out).2.2 | (with_reducible refine Kd.C_alloc ?_ _) | (with_reducible refine Kd.C_drewN ?_ _) | (with_reducible refine Kd.C_drew ?_))); (case side2 => exact (Kd.R_reads' HO334.out).2.1); (case side3 => repeat (first | exact (Kd.R_reads' HO337.out).2.2 | (with_reducible refine Kd.C_alloc ?_ _) | (with_reducible refine Kd.C_drewN ?_ _) | (with_reducible refine Kd.C_drew ?_))); (case side4 => exact (Kd.R_reads' HO337.out).2.1); rintro e w123 ⟨v339, v342, rfl, ho0, ho1, hb⟩; refine ⟨_, rfl, ?_⟩; have HO340 := aZ (Kd.R_lower (Kd.R_new' (Kd.R_new' (Kd.R_new' (Kd.R_new' ho0 (Kd.R_lt (lZR HO_301000.out))) (Kd.R_lt (lZR HO_308000.out))) (Kd.R_lt (lZR HO_316000.out))) (Kd.R_lt (lZR HO334.out))) (below_size bZ)); replace HO_301000 := aZ (Kd.R_elder' (lZR HO_301000.out) (Kd.R_base ho0) hb); replace HO_308000 := aZ (Kd.R_elder' (lZR HO_308000.out) (Kd.R_base ho0) hb); replace HO_316000 := aZ (Kd.R_elder' (lZR HO_316000.out) (Kd.R_base ho0) hb); replace HO334 := aZ (Kd.R_elder' (lZR HO334.out) (Kd.R_base ho0) hb); have HO343 := aZ (Kd.R_lower (Kd.R_new' (Kd.R_new' (Kd.R_new' (Kd.R_new' ho1 (Kd.R_lt (lZR HO_301001.out))) (Kd.R_lt (lZR HO_308001.out))) (Kd.R_lt (lZR HO_316001.out))) (Kd.R_lt (lZR HO337.out))) (below_size bZ)); replace HO_301001 := aZ (Kd.R_elder' (lZR HO_301001.out) (Kd.R_base ho1) hb); replace HO_308001 := aZ (Kd.R_elder' (lZR HO_308001.out) (Kd.R_base ho1) hb); replace HO_316001 := aZ (Kd.R_elder' (lZR HO_316001.out) (Kd.R_base ho1) hb); replace HO337 := aZ (Kd.R_elder' (lZR HO337.out) (Kd.R_base ho1) hb); replace BK285 := aZ (blk_below (bkZ BK285.out) hb); replace BK300 := aZ (blk_below (bkZ BK300.out) hb); replace BK307 := aZ (blk_below (bkZ BK307.out) hb); replace BK315 := aZ (blk_below (bkZ BK315.out) hb); replace HB := aZ (below_step bZ hb); (try clear hb); (try clear hb2); (try clear hk); (try clear hi); (try clear ho0); (try clear ho1)) | ((with_reducible refine gate_dst (N := 14) rfl ?_); refine box_event ?hg (N := 14) ?hd (cs := #[.slice none 0 0, .slice none 0 0]) (t := 86) ?hr ?_; (case hd => rfl); (case hg => rfl); (case hr => first | (go_simp; done) | (go_simp; rfl)); intro gb345 hg w124 hbox hb; replace HO_301000 := aZ (Kd.R_below (lZR HO_301000.out) hb); replace HO_301001 := aZ (Kd.R_below (lZR HO_301001.out) hb); replace HO_308000 := aZ (Kd.R_below (lZR HO_308000.out) hb); replace HO_308001 := aZ (Kd.R_below (lZR HO_308001.out) hb); replace HO_316000 := aZ (Kd.R_below (lZR HO_316000.out) hb); replace HO_316001 := aZ (Kd.R_below (lZR HO_316001.out) hb); replace HO334 := aZ (Kd.R_below (lZR HO334.out) hb); replace HO337 := aZ (Kd.R_below (lZR HO337.out) hb); replace HO340 := aZ (Kd.R_below (lZR HO340.out) hb); replace HO343 := aZ (Kd.R_below (lZR HO343.out) hb); have BK345 := aZ (hbox); have GW345 := aZ ((by rw [hg]; exact (below_size bZ) : w.heap.size ≤ gb345)); have GE345 := aZ ((by rw [hg]; exact (below_size bZ) : w.heap.size ≤ gb345)); replace HB := aZ (below_step bZ hb); have NB285_345 := aZ ((by rw [hg]; exact Nat.ne_of_lt (blk_lt (bkZ BK285.out)) : gb285 ≠ gb345)); have NB345_285 := aZ ((by rw [hg]; exact Nat.ne_of_gt (blk_lt (bkZ BK285.out)) : gb345 ≠ gb285)); replace BK285 := aZ (blk_below (bkZ BK285.out) hb); have NB300_345 := aZ ((by rw [hg]; exact Nat.ne_of_lt (blk_lt (bkZ BK300.out)) : gb300 ≠ gb345)); have NB345_300 := aZ ((by rw [hg]; exact Nat.ne_of_gt (blk_lt (bkZ BK300.out)) : gb345 ≠ gb300)); replace BK300 := aZ (blk_below (bkZ BK300.out) hb); have NB307_345 := aZ ((by rw [hg]; exact Nat.ne_of_lt (blk_lt (bkZ BK307.out)) : gb307 ≠ gb345)); have NB345_307 := aZ ((by rw [hg]; exact Nat.ne_of_gt (blk_lt (bkZ BK307.out)) : gb345 ≠ gb307)); replace BK307 := aZ (blk_below (bkZ BK307.out) hb); have NB315_345 := aZ ((by rw [hg]; exact Nat.ne_of_lt (blk_lt (bkZ BK315.out)) : gb315 ≠ gb345)); have NB345_315 := aZ ((by rw [hg]; exact Nat.ne_of_gt (blk_lt (bkZ BK315.out)) : gb345 ≠ gb315)); replace BK315 := aZ (blk_below (bkZ BK315.out) hb); clear hb hbox hg; obtain ⟨Ao125, co125, eo125⟩ := Kd.R_slice HO340.out; subst eo125; have hnb126 := NB345_285.out; have hnc126 := NB285_345.out; have hnb127 := NB345_300.out; have hnc127 := NB300_345.out; have hnb128 := NB345_307.out; have hnc128 := NB307_345.out; have hnb129 := NB345_315.out; have hnc129 := NB315_345.out; have hcz130_0 : w124.cell? ⟨gb345, 0, none⟩ = some (.slice none 0 0) := (blk_cell BK345.out 0).trans rfl; have hcz130_1 : w124.cell? ⟨gb345, 1, none⟩ = some (.slice none 0 0) := (blk_cell BK345.out 1).trans rfl; have hfz130_0 := blk_frozen BK345.out 0; have hfz130_1 := blk_frozen BK345.out 1; obtain ⟨Ao131, co131, eo131⟩ := Kd.R_slice HO343.out; subst eo131))
     (try simp only [Act.put, sZ1, sZ2, sZ3])
     go_cut [92] (fun v92 wc => ∃ (kq : Nat) (x92_108 : Bool), v92 = .bool x92_108 ∧ Aside0 (laws_FnExactVoid.j2 kq t328 x92_108 t329 t330 = some r) ∧ Aside0 (kq ≤ kj64) ∧ Aside0 (Kd.R k304 304 wc w.heap.size (fun k_ => some k_ ≠ ((.slice Ao29 t325.length co29) : Value).ownBlock ∧ some k_ ≠ ((.slice Ao36 t308.length co36) : Value).ownBlock ∧ some k_ ≠ ((.slice Ao125 t338.length co125) : Value).ownBlock) (.slice Ao22 t293.length co22) t293) ∧ Aside0 (Kd.R k230 230 wc w.heap.size (fun k_ => some k_ ≠ ((.slice Ao33 t326.length co33) : Value).ownBlock ∧ some k_ ≠ ((.slice Ao41 t311.length co41) : Value).ownBlock ∧ some k_ ≠ ((.slice Ao131 t341.length co131) : Value).ownBlock) (.slice Ao25 t296.length co25) t296) ∧ Aside0 (Kd.R k304 304 wc w.heap.size (fun k_ => some k_ ≠ ((.slice Ao22 t293.length co22) : Value).ownBlock ∧ some k_ ≠ ((.slice Ao36 t308.length co36) : Value).ownBlock ∧ some k_ ≠ ((.slice Ao125 t338.length co125) : Value).ownBlock) (.slice Ao29 t325.length co29) t325) ∧ Aside0 (Kd.R k230 230 wc w.heap.size (fun k_ => some k_ ≠ ((.slice Ao25 t296.length co25) : Value).ownBlock ∧ some k_ ≠ ((.slice Ao41 t311.length co41) : Value).ownBlock ∧ some k_ ≠ ((.slice Ao131 t341.length co131) : Value).ownBlock) (.slice Ao33 t326.length co33) t326) ∧ Aside0 (Kd.R k304 304 wc w.heap.size (fun k_ => some k_ ≠ ((.slice Ao22 t293.length co22) : Value).ownBlock ∧ some k_ ≠ ((.slice Ao29 t325.length co29) : Value).ownBlock ∧ some k_ ≠ ((.slice Ao125 t338.length co125) : Value).ownBlock) (.slice Ao36 t308.length co36) t329) ∧ Aside0 (Kd.R k230 230 wc w.heap.size (fun k_ => some k_ ≠ ((.slice Ao25 t296.length co25) : Value).ownBlock ∧ some k_ ≠ ((.slice Ao33 t326.length co33) : Value).ownBlock ∧ some k_ ≠ ((.slice Ao131 t341.length co131) : Value).ownBlock) (.slice Ao41 t311.length co41) t330) ∧ Aside0 (Kd.R k304 304 wc w.heap.size (fun k_ => some k_ ≠ ((.slice Ao22 t293.length co22) : Value).ownBlock ∧ some k_ ≠ ((.slice Ao29 t325.length co29) : Value).ownBlock ∧ some k_ ≠ ((.slice Ao36 t308.length co36) : Value).ownBlock) (.slice Ao125 t338.length co125) t338) ∧ Aside0 (Kd.R k230 230 wc w.heap.size (fun k_ => some k_ ≠ ((.slice Ao25 t296.length co25) : Value).ownBlock ∧ some k_ ≠ ((.slice Ao33 t326.length co33) : Value).ownBlock ∧ some k_ ≠ ((.slice Ao41 t311.length co41) : Value).ownBlock) (.slice Ao131 t341.length co131) t341) ∧ Aside0 (wc.heap[gb285]? = some (.cells #[(.slice A0_0 l0_0.length c0_0), (.slice A0_1 l0_1.length c0_1)] 81 (0, 0))) ∧ Aside0 (wc.heap[gb300]? = some (.cells #[(.slice Ao22 t293.length co22), (.slice Ao25 t296.length co25)] 86 (0, 0))) ∧ Aside0 (wc.heap[gb307]? = some (.cells #[(.slice Ao29 t325.length co29), (.slice Ao33 t326.length co33)] 86 (0, 0))) ∧ Aside0 (wc.heap[gb315]? = some (.cells #[(.slice Ao36 t308.length co36), (.slice Ao41 t311.length co41)] 86 (0, 0))) ∧ Aside0 (wc.heap[gb345]? = some (.cells #[(.slice Ao125 t338.length co125), (.slice Ao131 t341.length co131)] 86 (0, 0))) ∧ Aside0 (Below w.heap.size w wc))
     case first =>
      have H := HC109.out
      clear HC109
      replace H := Option.bind_eq_some_iff.mp H
      obtain ⟨t346, A1320, H⟩ := H
      replace H : (if t346 = true then (laws_FnExactVoid.j2 kj64 t328 (t344 != t299) t329 t330) else (laws_FnExactVoid.j2 kj64 t328 true t329 t330)) = some r := H
      have A132 := Aside0.mk A1320
      clear A1320
      by_cases c133 : t346 = true
      ·subst c133
       have H1 : (laws_FnExactVoid.j2 kj64 t328 (t344 != t299) t329 t330) = some r := by rw [if_pos rfl] at H; exact H
       clear H
       have H := H1
       clear H1
       have H' := Aside0.mk H
       clear H
       have hnb134 := NB345_285.out
       have hnc134 := NB285_345.out
       have hnb135 := NB345_300.out
       have hnc135 := NB300_345.out
       have hnb136 := NB345_307.out
       have hnc136 := NB307_345.out
       have hnb137 := NB345_315.out
       have hnc137 := NB315_345.out
       have hcz138_0 : w124.cell? ⟨gb345, 0, none⟩ = some (.slice none 0 0) := (blk_cell BK345.out 0).trans rfl
       have hcz138_1 : w124.cell? ⟨gb345, 1, none⟩ = some (.slice none 0 0) := (blk_cell BK345.out 1).trans rfl
       have hfz138_0 := blk_frozen BK345.out 0
       have hfz138_1 := blk_frozen BK345.out 1
       have hnb139 := NB300_285.out
       have hnc139 := NB285_300.out
       have hnb140 := NB300_307.out
       have hnc140 := NB307_300.out
       have hnb141 := NB300_315.out
       have hnc141 := NB315_300.out
       have hcz142_0 : w124.cell? ⟨gb300, 0, none⟩ = some (.slice Ao22 t293.length co22) := (blk_cell BK300.out 0).trans rfl
       have hcz142_1 : w124.cell? ⟨gb300, 1, none⟩ = some (.slice Ao25 t296.length co25) := (blk_cell BK300.out 1).trans rfl
       have hfz142_0 := blk_frozen BK300.out 0
       have hfz142_1 := blk_frozen BK300.out 1
       go_wp2_with (first | ((with_reducible refine gate_callee (f := 58) rfl ?_); refine goesL_ (some 86) rfl rfl Try.func58 kZ rfl #[.agg #[.slice Ao125 t338.length co125, .slice Ao131 t341.length co131], .agg #[.slice Ao22 t293.length co22, .slice Ao25 t296.length co25]] rfl tZA ?_; (with_reducible refine (laws_eqRegister.calls kj64 _ _ t338 _ _ t341 _ _ t293 _ _ t296 true _ ?side1 ?side2 ?side3 ?side4 ?side5 ?side6 ?side7 ?side8 A132.out).mono ?_); (case side1 => refine (Kd.R_reads' (e := 304) (base := w.heap.size) (ok := fun k_ => ((((True ∧ some k_ ≠ (.slice Ao22 t293.length co22 : Value).ownBlock) ∧ some k_ ≠ (.slice Ao29 t325.length co29 : Value).ownBlock) ∧ some k_ ≠ (.slice Ao36 t308.length co36 : Value).ownBlock) ∧ some k_ ≠ (.slice Ao121 t332.length co121 : Value).ownBlock)) (n := t338.length) (c := co125) ?_).2.2; exact (by (with_reducible repeat (first | apply Kd.R_alloc | apply Kd.R_drewN | apply Kd.R_drew)); exact (Kd.R_mono (Kd.R_far (p := ⟨gb345, 1, none⟩) (Kd.R_far (p := ⟨gb345, 0, none⟩) (Kd.R_types HO340.out BK345.out (by decide)) (fun _ hk => hk.2) (.slice Ao125 t338.length co125)) (fun _ hk => hk.2) (.slice Ao131 t341.length co131)) (fun _ h_ => h_.1)))); (case side2 => exact (Kd.R_reads' HO340.out).2.1); (case side3 => refine (Kd.R_reads' (e := 230) (base := w.heap.size) (ok := fun k_ => ((((True ∧ some k_ ≠ (.slice Ao25 t296.length co25 : Value).ownBlock) ∧ some k_ ≠ (.slice Ao33 t326.length co33 : Value).ownBlock) ∧ some k_ ≠ (.slice Ao41 t311.length co41 : Value).ownBlock) ∧ some k_ ≠ (.slice Ao122 t335.length co122 : Value).ownBlock)) (n := t341.length) (c := co131) ?_).2.2; exact (by (with_reducible repeat (first | apply Kd.R_alloc | apply Kd.R_drewN | apply Kd.R_drew)); exact (Kd.R_mono (Kd.R_far (p := ⟨gb345, 1, none⟩) (Kd.R_far (p := ⟨gb345, 0, none⟩) (Kd.R_types HO343.out BK345.out (by decide)) (fun _ hk => hk.2) (.slice Ao125 t338.length co125)) (fun _ hk => hk.2) (.slice Ao131 t341.length co131)) (fun _ h_ => h_.1)))); (case side4 => exact (Kd.R_reads' HO343.out).2.1); (case side5 => refine (Kd.R_reads' (e := 304) (base := w.heap.size) (ok := fun k_ => (((some k_ ≠ (.slice Ao29 t325.length co29 : Value).ownBlock ∧ some k_ ≠ (.slice Ao36 t308.length co36 : Value).ownBlock) ∧ some k_ ≠ (.slice Ao121 t332.length co121 : Value).ownBlock) ∧ some k_ ≠ (.slice Ao125 t338.length co125 : Value).ownBlock)) (n := t293.length) (c := co22) ?_).2.2; exact (by (with_reducible repeat (first | apply Kd.R_alloc | apply Kd.R_drewN | apply Kd.R_drew)); exact (Kd.R_mono (Kd.R_far (p := ⟨gb345, 1, none⟩) (Kd.R_far (p := ⟨gb345, 0, none⟩) (Kd.R_types HO_301000.out BK345.out (by decide)) (fun _ hk => hk.2) (.slice Ao125 t338.length co125)) (fun _ hk => hk.2) (.slice Ao131 t341.length co131)) (fun _ h_ => h_.1)))); (case side6 => exact (Kd.R_reads' HO_301000.out).2.1); (case side7 => refine (Kd.R_reads' (e := 230) (base := w.heap.size) (ok := fun k_ => (((some k_ ≠ (.slice Ao33 t326.length co33 : Value).ownBlock ∧ some k_ ≠ (.slice Ao41 t311.length co41 : Value).ownBlock) ∧ some k_ ≠ (.slice Ao122 t335.length co122 : Value).ownBlock) ∧ some k_ ≠ (.slice Ao131 t341.length co131 : Value).ownBlock)) (n := t296.length) (c := co25) ?_).2.2; exact (by (with_reducible repeat (first | apply Kd.R_alloc | apply Kd.R_drewN | apply Kd.R_drew)); exact (Kd.R_mono (Kd.R_far (p := ⟨gb345, 1, none⟩) (Kd.R_far (p := ⟨gb345, 0, none⟩) (Kd.R_types HO_301001.out BK345.out (by decide)) (fun _ hk => hk.2) (.slice Ao125 t338.length co125)) (fun _ hk => hk.2) (.slice Ao131 t341.length co131)) (fun _ h_ => h_.1)))); (case side8 => exact (Kd.R_reads' HO_301001.out).2.1); rintro e w143 ⟨rfl, hb⟩; refine ⟨_, rfl, ?_⟩; replace HO_301000 := aZ (Kd.R_below (by (with_reducible repeat (first | apply Kd.R_alloc | apply Kd.R_drewN | apply Kd.R_drew)); exact (Kd.R_mono (Kd.R_far (p := ⟨gb345, 1, none⟩) (Kd.R_far (p := ⟨gb345, 0, none⟩) (Kd.R_types HO_301000.out BK345.out (by decide)) (fun _ hk => hk.2) (.slice Ao125 t338.length co125)) (fun _ hk => hk.2) (.slice Ao131 t341.length co131)) (fun _ h_ => h_.1))) hb); replace HO_301001 := aZ (Kd.R_below (by (with_reducible repeat (first | apply Kd.R_alloc | apply Kd.R_drewN | apply Kd.R_drew)); exact (Kd.R_mono (Kd.R_far (p := ⟨gb345, 1, none⟩) (Kd.R_far (p := ⟨gb345, 0, none⟩) (Kd.R_types HO_301001.out BK345.out (by decide)) (fun _ hk => hk.2) (.slice Ao125 t338.length co125)) (fun _ hk => hk.2) (.slice Ao131 t341.length co131)) (fun _ h_ => h_.1))) hb); replace HO_308000 := aZ (Kd.R_below (by (with_reducible repeat (first | apply Kd.R_alloc | apply Kd.R_drewN | apply Kd.R_drew)); exact (Kd.R_mono (Kd.R_far (p := ⟨gb345, 1, none⟩) (Kd.R_far (p := ⟨gb345, 0, none⟩) (Kd.R_types HO_308000.out BK345.out (by decide)) (fun _ hk => hk.2) (.slice Ao125 t338.length co125)) (fun _ hk => hk.2) (.slice Ao131 t341.length co131)) (fun _ h_ => h_.1))) hb); replace HO_308001 := aZ (Kd.R_below (by (with_reducible repeat (first | apply Kd.R_alloc | apply Kd.R_drewN | apply Kd.R_drew)); exact (Kd.R_mono (Kd.R_far (p := ⟨gb345, 1, none⟩) (Kd.R_far (p := ⟨gb345, 0, none⟩) (Kd.R_types HO_308001.out BK345.out (by decide)) (fun _ hk => hk.2) (.slice Ao125 t338.length co125)) (fun _ hk => hk.2) (.slice Ao131 t341.length co131)) (fun _ h_ => h_.1))) hb); replace HO_316000 := aZ (Kd.R_below (by (with_reducible repeat (first | apply Kd.R_alloc | apply Kd.R_drewN | apply Kd.R_drew)); exact (Kd.R_mono (Kd.R_far (p := ⟨gb345, 1, none⟩) (Kd.R_far (p := ⟨gb345, 0, none⟩) (Kd.R_types HO_316000.out BK345.out (by decide)) (fun _ hk => hk.2) (.slice Ao125 t338.length co125)) (fun _ hk => hk.2) (.slice Ao131 t341.length co131)) (fun _ h_ => h_.1))) hb); replace HO_316001 := aZ (Kd.R_below (by (with_reducible repeat (first | apply Kd.R_alloc | apply Kd.R_drewN | apply Kd.R_drew)); exact (Kd.R_mono (Kd.R_far (p := ⟨gb345, 1, none⟩) (Kd.R_far (p := ⟨gb345, 0, none⟩) (Kd.R_types HO_316001.out BK345.out (by decide)) (fun _ hk => hk.2) (.slice Ao125 t338.length co125)) (fun _ hk => hk.2) (.slice Ao131 t341.length co131)) (fun _ h_ => h_.1))) hb); replace HO334 := aZ (Kd.R_below (by (with_reducible repeat (first | apply Kd.R_alloc | apply Kd.R_drewN | apply Kd.R_drew)); exact (Kd.R_mono (Kd.R_far (p := ⟨gb345, 1, none⟩) (Kd.R_far (p := ⟨gb345, 0, none⟩) (Kd.R_types HO334.out BK345.out (by decide)) (fun _ hk => hk.2) (.slice Ao125 t338.length co125)) (fun _ hk => hk.2) (.slice Ao131 t341.length co131)) (fun _ h_ => h_.1))) hb); replace HO337 := aZ (Kd.R_below (by (with_reducible repeat (first | apply Kd.R_alloc | apply Kd.R_drewN | apply Kd.R_drew)); exact (Kd.R_mono (Kd.R_far (p := ⟨gb345, 1, none⟩) (Kd.R_far (p := ⟨gb345, 0, none⟩) (Kd.R_types HO337.out BK345.out (by decide)) (fun _ hk => hk.2) (.slice Ao125 t338.length co125)) (fun _ hk => hk.2) (.slice Ao131 t341.length co131)) (fun _ h_ => h_.1))) hb); replace HO340 := aZ (Kd.R_below (by (with_reducible repeat (first | apply Kd.R_alloc | apply Kd.R_drewN | apply Kd.R_drew)); exact (Kd.R_mono (Kd.R_far (p := ⟨gb345, 1, none⟩) (Kd.R_far (p := ⟨gb345, 0, none⟩) (Kd.R_types HO340.out BK345.out (by decide)) (fun _ hk => hk.2) (.slice Ao125 t338.length co125)) (fun _ hk => hk.2) (.slice Ao131 t341.length co131)) (fun _ h_ => h_.1))) hb); replace HO343 := aZ (Kd.R_below (by (with_reducible repeat (first | apply Kd.R_alloc | apply Kd.R_drewN | apply Kd.R_drew)); exact (Kd.R_mono (Kd.R_far (p := ⟨gb345, 1, none⟩) (Kd.R_far (p := ⟨gb345, 0, none⟩) (Kd.R_types HO343.out BK345.out (by decide)) (fun _ hk => hk.2) (.slice Ao125 t338.length co125)) (fun _ hk => hk.2) (.slice Ao131 t341.length co131)) (fun _ h_ => h_.1))) hb); replace BK285 := aZ (blk_below (g := gb285) (o := .cells #[.slice A0_0 l0_0.length c0_0, .slice A0_1 l0_1.length c0_1] 81 (0, 0)) (by (with_reducible repeat (first | refine blk_drewN ?_ _ | refine blk_drew ?_ | refine blk_alloc ?_ _)); refine blk_far ?_ NB285_345.out _; (with_reducible repeat (first | refine blk_drewN ?_ _ | refine blk_drew ?_ | refine blk_alloc ?_ _)); refine blk_far ?_ NB285_345.out _; (with_reducible repeat (first | refine blk_drewN ?_ _ | refine blk_drew ?_ | refine blk_alloc ?_ _)); exact BK285.out) hb); replace BK300 := aZ (blk_below (g := gb300) (o := .cells #[.slice Ao22 t293.length co22, .slice Ao25 t296.length co25] 86 (0, 0)) (by (with_reducible repeat (first | refine blk_drewN ?_ _ | refine blk_drew ?_ | refine blk_alloc ?_ _)); refine blk_far ?_ NB300_345.out _; (with_reducible repeat (first | refine blk_drewN ?_ _ | refine blk_drew ?_ | refine blk_alloc ?_ _)); refine blk_far ?_ NB300_345.out _; (with_reducible repeat (first | refine blk_drewN ?_ _ | refine blk_drew ?_ | refine blk_alloc ?_ _)); exact BK300.out) hb); replace BK307 := aZ (blk_below (g := gb307) (o := .cells #[.slice Ao29 t325.length co29, .slice Ao33 t326.length co33] 86 (0, 0)) (by (with_reducible repeat (first | refine blk_drewN ?_ _ | refine blk_drew ?_ | refine blk_alloc ?_ _)); refine blk_far ?_ NB307_345.out _; (with_reducible repeat (first | refine blk_drewN ?_ _ | refine blk_drew ?_ | refine blk_alloc ?_ _)); refine blk_far ?_ NB307_345.out _; (with_reducible repeat (first | refine blk_drewN ?_ _ | refine blk_drew ?_ | refine blk_alloc ?_ _)); exact BK307.out) hb); replace BK315 := aZ (blk_below (g := gb315) (o := .cells #[.slice Ao36 t308.length co36, .slice Ao41 t311.length co41] 86 (0, 0)) (by (with_reducible repeat (first | refine blk_drewN ?_ _ | refine blk_drew ?_ | refine blk_alloc ?_ _)); refine blk_far ?_ NB315_345.out _; (with_reducible repeat (first | refine blk_drewN ?_ _ | refine blk_drew ?_ | refine blk_alloc ?_ _)); refine blk_far ?_ NB315_345.out _; (with_reducible repeat (first | refine blk_drewN ?_ _ | refine blk_drew ?_ | refine blk_alloc ?_ _)); exact BK315.out) hb); replace BK345 := aZ (blk_below (g := gb345) (o := .cells #[.slice Ao125 t338.length co125, .slice Ao131 t341.length co131] 86 (0, 0)) (by (with_reducible repeat (first | refine blk_drewN ?_ _ | refine blk_drew ?_ | refine blk_alloc ?_ _)); refine blk_put (cs := #[.slice Ao125 t338.length co125, .slice none 0 0]) ?_ 1 _ rfl; (with_reducible repeat (first | refine blk_drewN ?_ _ | refine blk_drew ?_ | refine blk_alloc ?_ _)); refine blk_put (cs := #[.slice none 0 0, .slice none 0 0]) ?_ 0 _ rfl; (with_reducible repeat (first | refine blk_drewN ?_ _ | refine blk_drew ?_ | refine blk_alloc ?_ _)); exact BK345.out) hb); replace HB := aZ (below_step bZ hb); (try clear hb); (try clear hb2); (try clear hk); (try clear hi)))
       go_meet
       case rel => exact ⟨_, ((t344 != t299)), tZB, H', ⟨by have := HJ11.out; have := HJ64.out; first | omega | exact Nat.le_refl _⟩, ⟨by (try simp only [hl308000_64]); (try simp only [hl308001_64]); (with_reducible repeat (first | apply Kd.R_alloc | apply Kd.R_drewN | apply Kd.R_drew)); exact Kd.R_mono HO_301000.out (fun _ hk => ⟨hk.1.1.1, ⟨hk.1.1.2, hk.2⟩⟩)⟩, ⟨by (try simp only [hl308000_64]); (try simp only [hl308001_64]); (with_reducible repeat (first | apply Kd.R_alloc | apply Kd.R_drewN | apply Kd.R_drew)); exact Kd.R_mono HO_301001.out (fun _ hk => ⟨hk.1.1.1, ⟨hk.1.1.2, hk.2⟩⟩)⟩, ⟨by (try simp only [hl308000_64]); (try simp only [hl308001_64]); (with_reducible repeat (first | apply Kd.R_alloc | apply Kd.R_drewN | apply Kd.R_drew)); exact Kd.R_mono HO_308000.out (fun _ hk => ⟨hk.1.1.1, ⟨hk.1.1.2, hk.2⟩⟩)⟩, ⟨by (try simp only [hl308000_64]); (try simp only [hl308001_64]); (with_reducible repeat (first | apply Kd.R_alloc | apply Kd.R_drewN | apply Kd.R_drew)); exact Kd.R_mono HO_308001.out (fun _ hk => ⟨hk.1.1.1, ⟨hk.1.1.2, hk.2⟩⟩)⟩, ⟨by (try simp only [hl308000_64]); (try simp only [hl308001_64]); (with_reducible repeat (first | apply Kd.R_alloc | apply Kd.R_drewN | apply Kd.R_drew)); exact Kd.R_mono HO_316000.out (fun _ hk => ⟨hk.1.1.1, ⟨hk.1.1.2, hk.2⟩⟩)⟩, ⟨by (try simp only [hl308000_64]); (try simp only [hl308001_64]); (with_reducible repeat (first | apply Kd.R_alloc | apply Kd.R_drewN | apply Kd.R_drew)); exact Kd.R_mono HO_316001.out (fun _ hk => ⟨hk.1.1.1, ⟨hk.1.1.2, hk.2⟩⟩)⟩, ⟨by (try simp only [hl308000_64]); (try simp only [hl308001_64]); (with_reducible repeat (first | apply Kd.R_alloc | apply Kd.R_drewN | apply Kd.R_drew)); exact Kd.R_mono HO340.out (fun _ hk => ⟨hk.1.1.1.2, ⟨hk.1.1.2, hk.1.2⟩⟩)⟩, ⟨by (try simp only [hl308000_64]); (try simp only [hl308001_64]); (with_reducible repeat (first | apply Kd.R_alloc | apply Kd.R_drewN | apply Kd.R_drew)); exact Kd.R_mono HO343.out (fun _ hk => ⟨hk.1.1.1.2, ⟨hk.1.1.2, hk.1.2⟩⟩)⟩, ⟨by (try simp only [hl308000_64]); (try simp only [hl308001_64]); (with_reducible repeat (first | refine blk_drewN ?_ _ | refine blk_drew ?_ | refine blk_alloc ?_ _)); exact BK285.out⟩, ⟨by (try simp only [hl308000_64]); (try simp only [hl308001_64]); (with_reducible repeat (first | refine blk_drewN ?_ _ | refine blk_drew ?_ | refine blk_alloc ?_ _)); exact BK300.out⟩, ⟨by (try simp only [hl308000_64]); (try simp only [hl308001_64]); (with_reducible repeat (first | refine blk_drewN ?_ _ | refine blk_drew ?_ | refine blk_alloc ?_ _)); exact BK307.out⟩, ⟨by (try simp only [hl308000_64]); (try simp only [hl308001_64]); (with_reducible repeat (first | refine blk_drewN ?_ _ | refine blk_drew ?_ | refine blk_alloc ?_ _)); exact BK315.out⟩, ⟨by (try simp only [hl308000_64]); (try simp only [hl308001_64]); (with_reducible repeat (first | refine blk_drewN ?_ _ | refine blk_drew ?_ | refine blk_alloc ?_ _)); exact BK345.out⟩, ⟨bZ⟩⟩
      replace c133 := Bool.eq_false_iff.mpr c133
      subst c133
      have H1 : (laws_FnExactVoid.j2 kj64 t328 true t329 t330) = some r := by rw [if_neg (show ¬ (false = true) by decide)] at H; exact H
      clear H
      have H := H1
      clear H1
      have H' := Aside0.mk H
      clear H
      have hnb144 := NB345_285.out
      have hnc144 := NB285_345.out
      have hnb145 := NB345_300.out
      have hnc145 := NB300_345.out
      have hnb146 := NB345_307.out
      have hnc146 := NB307_345.out
      have hnb147 := NB345_315.out
      have hnc147 := NB315_345.out
      have hcz148_0 : w124.cell? ⟨gb345, 0, none⟩ = some (.slice none 0 0) := (blk_cell BK345.out 0).trans rfl
      have hcz148_1 : w124.cell? ⟨gb345, 1, none⟩ = some (.slice none 0 0) := (blk_cell BK345.out 1).trans rfl
      have hfz148_0 := blk_frozen BK345.out 0
      have hfz148_1 := blk_frozen BK345.out 1
      have hnb149 := NB300_285.out
      have hnc149 := NB285_300.out
      have hnb150 := NB300_307.out
      have hnc150 := NB307_300.out
      have hnb151 := NB300_315.out
      have hnc151 := NB315_300.out
      have hcz152_0 : w124.cell? ⟨gb300, 0, none⟩ = some (.slice Ao22 t293.length co22) := (blk_cell BK300.out 0).trans rfl
      have hcz152_1 : w124.cell? ⟨gb300, 1, none⟩ = some (.slice Ao25 t296.length co25) := (blk_cell BK300.out 1).trans rfl
      have hfz152_0 := blk_frozen BK300.out 0
      have hfz152_1 := blk_frozen BK300.out 1
      go_wp2_with (first | ((with_reducible refine gate_callee (f := 58) rfl ?_); refine goesL_ (some 86) rfl rfl Try.func58 kZ rfl #[.agg #[.slice Ao125 t338.length co125, .slice Ao131 t341.length co131], .agg #[.slice Ao22 t293.length co22, .slice Ao25 t296.length co25]] rfl tZA ?_; (with_reducible refine (laws_eqRegister.calls kj64 _ _ t338 _ _ t341 _ _ t293 _ _ t296 false _ ?side1 ?side2 ?side3 ?side4 ?side5 ?side6 ?side7 ?side8 A132.out).mono ?_); (case side1 => refine (Kd.R_reads' (e := 304) (base := w.heap.size) (ok := fun k_ => ((((True ∧ some k_ ≠ (.slice Ao22 t293.length co22 : Value).ownBlock) ∧ some k_ ≠ (.slice Ao29 t325.length co29 : Value).ownBlock) ∧ some k_ ≠ (.slice Ao36 t308.length co36 : Value).ownBlock) ∧ some k_ ≠ (.slice Ao121 t332.length co121 : Value).ownBlock)) (n := t338.length) (c := co125) ?_).2.2; exact (by (with_reducible repeat (first | apply Kd.R_alloc | apply Kd.R_drewN | apply Kd.R_drew)); exact (Kd.R_mono (Kd.R_far (p := ⟨gb345, 1, none⟩) (Kd.R_far (p := ⟨gb345, 0, none⟩) (Kd.R_types HO340.out BK345.out (by decide)) (fun _ hk => hk.2) (.slice Ao125 t338.length co125)) (fun _ hk => hk.2) (.slice Ao131 t341.length co131)) (fun _ h_ => h_.1)))); (case side2 => exact (Kd.R_reads' HO340.out).2.1); (case side3 => refine (Kd.R_reads' (e := 230) (base := w.heap.size) (ok := fun k_ => ((((True ∧ some k_ ≠ (.slice Ao25 t296.length co25 : Value).ownBlock) ∧ some k_ ≠ (.slice Ao33 t326.length co33 : Value).ownBlock) ∧ some k_ ≠ (.slice Ao41 t311.length co41 : Value).ownBlock) ∧ some k_ ≠ (.slice Ao122 t335.length co122 : Value).ownBlock)) (n := t341.length) (c := co131) ?_).2.2; exact (by (with_reducible repeat (first | apply Kd.R_alloc | apply Kd.R_drewN | apply Kd.R_drew)); exact (Kd.R_mono (Kd.R_far (p := ⟨gb345, 1, none⟩) (Kd.R_far (p := ⟨gb345, 0, none⟩) (Kd.R_types HO343.out BK345.out (by decide)) (fun _ hk => hk.2) (.slice Ao125 t338.length co125)) (fun _ hk => hk.2) (.slice Ao131 t341.length co131)) (fun _ h_ => h_.1)))); (case side4 => exact (Kd.R_reads' HO343.out).2.1); (case side5 => refine (Kd.R_reads' (e := 304) (base := w.heap.size) (ok := fun k_ => (((some k_ ≠ (.slice Ao29 t325.length co29 : Value).ownBlock ∧ some k_ ≠ (.slice Ao36 t308.length co36 : Value).ownBlock) ∧ some k_ ≠ (.slice Ao121 t332.length co121 : Value).ownBlock) ∧ some k_ ≠ (.slice Ao125 t338.length co125 : Value).ownBlock)) (n := t293.length) (c := co22) ?_).2.2; exact (by (with_reducible repeat (first | apply Kd.R_alloc | apply Kd.R_drewN | apply Kd.R_drew)); exact (Kd.R_mono (Kd.R_far (p := ⟨gb345, 1, none⟩) (Kd.R_far (p := ⟨gb345, 0, none⟩) (Kd.R_types HO_301000.out BK345.out (by decide)) (fun _ hk => hk.2) (.slice Ao125 t338.length co125)) (fun _ hk => hk.2) (.slice Ao131 t341.length co131)) (fun _ h_ => h_.1)))); (case side6 => exact (Kd.R_reads' HO_301000.out).2.1); (case side7 => refine (Kd.R_reads' (e := 230) (base := w.heap.size) (ok := fun k_ => (((some k_ ≠ (.slice Ao33 t326.length co33 : Value).ownBlock ∧ some k_ ≠ (.slice Ao41 t311.length co41 : Value).ownBlock) ∧ some k_ ≠ (.slice Ao122 t335.length co122 : Value).ownBlock) ∧ some k_ ≠ (.slice Ao131 t341.length co131 : Value).ownBlock)) (n := t296.length) (c := co25) ?_).2.2; exact (by (with_reducible repeat (first | apply Kd.R_alloc | apply Kd.R_drewN | apply Kd.R_drew)); exact (Kd.R_mono (Kd.R_far (p := ⟨gb345, 1, none⟩) (Kd.R_far (p := ⟨gb345, 0, none⟩) (Kd.R_types HO_301001.out BK345.out (by decide)) (fun _ hk => hk.2) (.slice Ao125 t338.length co125)) (fun _ hk => hk.2) (.slice Ao131 t341.length co131)) (fun _ h_ => h_.1)))); (case side8 => exact (Kd.R_reads' HO_301001.out).2.1); rintro e w153 ⟨rfl, hb⟩; refine ⟨_, rfl, ?_⟩; replace HO_301000 := aZ (Kd.R_below (by (with_reducible repeat (first | apply Kd.R_alloc | apply Kd.R_drewN | apply Kd.R_drew)); exact (Kd.R_mono (Kd.R_far (p := ⟨gb345, 1, none⟩) (Kd.R_far (p := ⟨gb345, 0, none⟩) (Kd.R_types HO_301000.out BK345.out (by decide)) (fun _ hk => hk.2) (.slice Ao125 t338.length co125)) (fun _ hk => hk.2) (.slice Ao131 t341.length co131)) (fun _ h_ => h_.1))) hb); replace HO_301001 := aZ (Kd.R_below (by (with_reducible repeat (first | apply Kd.R_alloc | apply Kd.R_drewN | apply Kd.R_drew)); exact (Kd.R_mono (Kd.R_far (p := ⟨gb345, 1, none⟩) (Kd.R_far (p := ⟨gb345, 0, none⟩) (Kd.R_types HO_301001.out BK345.out (by decide)) (fun _ hk => hk.2) (.slice Ao125 t338.length co125)) (fun _ hk => hk.2) (.slice Ao131 t341.length co131)) (fun _ h_ => h_.1))) hb); replace HO_308000 := aZ (Kd.R_below (by (with_reducible repeat (first | apply Kd.R_alloc | apply Kd.R_drewN | apply Kd.R_drew)); exact (Kd.R_mono (Kd.R_far (p := ⟨gb345, 1, none⟩) (Kd.R_far (p := ⟨gb345, 0, none⟩) (Kd.R_types HO_308000.out BK345.out (by decide)) (fun _ hk => hk.2) (.slice Ao125 t338.length co125)) (fun _ hk => hk.2) (.slice Ao131 t341.length co131)) (fun _ h_ => h_.1))) hb); replace HO_308001 := aZ (Kd.R_below (by (with_reducible repeat (first | apply Kd.R_alloc | apply Kd.R_drewN | apply Kd.R_drew)); exact (Kd.R_mono (Kd.R_far (p := ⟨gb345, 1, none⟩) (Kd.R_far (p := ⟨gb345, 0, none⟩) (Kd.R_types HO_308001.out BK345.out (by decide)) (fun _ hk => hk.2) (.slice Ao125 t338.length co125)) (fun _ hk => hk.2) (.slice Ao131 t341.length co131)) (fun _ h_ => h_.1))) hb); replace HO_316000 := aZ (Kd.R_below (by (with_reducible repeat (first | apply Kd.R_alloc | apply Kd.R_drewN | apply Kd.R_drew)); exact (Kd.R_mono (Kd.R_far (p := ⟨gb345, 1, none⟩) (Kd.R_far (p := ⟨gb345, 0, none⟩) (Kd.R_types HO_316000.out BK345.out (by decide)) (fun _ hk => hk.2) (.slice Ao125 t338.length co125)) (fun _ hk => hk.2) (.slice Ao131 t341.length co131)) (fun _ h_ => h_.1))) hb); replace HO_316001 := aZ (Kd.R_below (by (with_reducible repeat (first | apply Kd.R_alloc | apply Kd.R_drewN | apply Kd.R_drew)); exact (Kd.R_mono (Kd.R_far (p := ⟨gb345, 1, none⟩) (Kd.R_far (p := ⟨gb345, 0, none⟩) (Kd.R_types HO_316001.out BK345.out (by decide)) (fun _ hk => hk.2) (.slice Ao125 t338.length co125)) (fun _ hk => hk.2) (.slice Ao131 t341.length co131)) (fun _ h_ => h_.1))) hb); replace HO334 := aZ (Kd.R_below (by (with_reducible repeat (first | apply Kd.R_alloc | apply Kd.R_drewN | apply Kd.R_drew)); exact (Kd.R_mono (Kd.R_far (p := ⟨gb345, 1, none⟩) (Kd.R_far (p := ⟨gb345, 0, none⟩) (Kd.R_types HO334.out BK345.out (by decide)) (fun _ hk => hk.2) (.slice Ao125 t338.length co125)) (fun _ hk => hk.2) (.slice Ao131 t341.length co131)) (fun _ h_ => h_.1))) hb); replace HO337 := aZ (Kd.R_below (by (with_reducible repeat (first | apply Kd.R_alloc | apply Kd.R_drewN | apply Kd.R_drew)); exact (Kd.R_mono (Kd.R_far (p := ⟨gb345, 1, none⟩) (Kd.R_far (p := ⟨gb345, 0, none⟩) (Kd.R_types HO337.out BK345.out (by decide)) (fun _ hk => hk.2) (.slice Ao125 t338.length co125)) (fun _ hk => hk.2) (.slice Ao131 t341.length co131)) (fun _ h_ => h_.1))) hb); replace HO340 := aZ (Kd.R_below (by (with_reducible repeat (first | apply Kd.R_alloc | apply Kd.R_drewN | apply Kd.R_drew)); exact (Kd.R_mono (Kd.R_far (p := ⟨gb345, 1, none⟩) (Kd.R_far (p := ⟨gb345, 0, none⟩) (Kd.R_types HO340.out BK345.out (by decide)) (fun _ hk => hk.2) (.slice Ao125 t338.length co125)) (fun _ hk => hk.2) (.slice Ao131 t341.length co131)) (fun _ h_ => h_.1))) hb); replace HO343 := aZ (Kd.R_below (by (with_reducible repeat (first | apply Kd.R_alloc | apply Kd.R_drewN | apply Kd.R_drew)); exact (Kd.R_mono (Kd.R_far (p := ⟨gb345, 1, none⟩) (Kd.R_far (p := ⟨gb345, 0, none⟩) (Kd.R_types HO343.out BK345.out (by decide)) (fun _ hk => hk.2) (.slice Ao125 t338.length co125)) (fun _ hk => hk.2) (.slice Ao131 t341.length co131)) (fun _ h_ => h_.1))) hb); replace BK285 := aZ (blk_below (g := gb285) (o := .cells #[.slice A0_0 l0_0.length c0_0, .slice A0_1 l0_1.length c0_1] 81 (0, 0)) (by (with_reducible repeat (first | refine blk_drewN ?_ _ | refine blk_drew ?_ | refine blk_alloc ?_ _)); refine blk_far ?_ NB285_345.out _; (with_reducible repeat (first | refine blk_drewN ?_ _ | refine blk_drew ?_ | refine blk_alloc ?_ _)); refine blk_far ?_ NB285_345.out _; (with_reducible repeat (first | refine blk_drewN ?_ _ | refine blk_drew ?_ | refine blk_alloc ?_ _)); exact BK285.out) hb); replace BK300 := aZ (blk_below (g := gb300) (o := .cells #[.slice Ao22 t293.length co22, .slice Ao25 t296.length co25] 86 (0, 0)) (by (with_reducible repeat (first | refine blk_drewN ?_ _ | refine blk_drew ?_ | refine blk_alloc ?_ _)); refine blk_far ?_ NB300_345.out _; (with_reducible repeat (first | refine blk_drewN ?_ _ | refine blk_drew ?_ | refine blk_alloc ?_ _)); refine blk_far ?_ NB300_345.out _; (with_reducible repeat (first | refine blk_drewN ?_ _ | refine blk_drew ?_ | refine blk_alloc ?_ _)); exact BK300.out) hb); replace BK307 := aZ (blk_below (g := gb307) (o := .cells #[.slice Ao29 t325.length co29, .slice Ao33 t326.length co33] 86 (0, 0)) (by (with_reducible repeat (first | refine blk_drewN ?_ _ | refine blk_drew ?_ | refine blk_alloc ?_ _)); refine blk_far ?_ NB307_345.out _; (with_reducible repeat (first | refine blk_drewN ?_ _ | refine blk_drew ?_ | refine blk_alloc ?_ _)); refine blk_far ?_ NB307_345.out _; (with_reducible repeat (first | refine blk_drewN ?_ _ | refine blk_drew ?_ | refine blk_alloc ?_ _)); exact BK307.out) hb); replace BK315 := aZ (blk_below (g := gb315) (o := .cells #[.slice Ao36 t308.length co36, .slice Ao41 t311.length co41] 86 (0, 0)) (by (with_reducible repeat (first | refine blk_drewN ?_ _ | refine blk_drew ?_ | refine blk_alloc ?_ _)); refine blk_far ?_ NB315_345.out _; (with_reducible repeat (first | refine blk_drewN ?_ _ | refine blk_drew ?_ | refine blk_alloc ?_ _)); refine blk_far ?_ NB315_345.out _; (with_reducible repeat (first | refine blk_drewN ?_ _ | refine blk_drew ?_ | refine blk_alloc ?_ _)); exact BK315.out) hb); replace BK345 := aZ (blk_below (g := gb345) (o := .cells #[.slice Ao125 t338.length co125, .slice Ao131 t341.length co131] 86 (0, 0)) (by (with_reducible repeat (first | refine blk_drewN ?_ _ | refine blk_drew ?_ | refine blk_alloc ?_ _)); refine blk_put (cs := #[.slice Ao125 t338.length co125, .slice none 0 0]) ?_ 1 _ rfl; (with_reducible repeat (first | refine blk_drewN ?_ _ | refine blk_drew ?_ | refine blk_alloc ?_ _)); refine blk_put (cs := #[.slice none 0 0, .slice none 0 0]) ?_ 0 _ rfl; (with_reducible repeat (first | refine blk_drewN ?_ _ | refine blk_drew ?_ | refine blk_alloc ?_ _)); exact BK345.out) hb); replace HB := aZ (below_step bZ hb); (try clear hb); (try clear hb2); (try clear hk); (try clear hi)))
      go_meet
      case rel => exact ⟨_, (true), tZB, H', ⟨by have := HJ11.out; have := HJ64.out; first | omega | exact Nat.le_refl _⟩, ⟨by (try simp only [hl308000_64]); (try simp only [hl308001_64]); (with_reducible repeat (first | apply Kd.R_alloc | apply Kd.R_drewN | apply Kd.R_drew)); exact Kd.R_mono HO_301000.out (fun _ hk => ⟨hk.1.1.1, ⟨hk.1.1.2, hk.2⟩⟩)⟩, ⟨by (try simp only [hl308000_64]); (try simp only [hl308001_64]); (with_reducible repeat (first | apply Kd.R_alloc | apply Kd.R_drewN | apply Kd.R_drew)); exact Kd.R_mono HO_301001.out (fun _ hk => ⟨hk.1.1.1, ⟨hk.1.1.2, hk.2⟩⟩)⟩, ⟨by (try simp only [hl308000_64]); (try simp only [hl308001_64]); (with_reducible repeat (first | apply Kd.R_alloc | apply Kd.R_drewN | apply Kd.R_drew)); exact Kd.R_mono HO_308000.out (fun _ hk => ⟨hk.1.1.1, ⟨hk.1.1.2, hk.2⟩⟩)⟩, ⟨by (try simp only [hl308000_64]); (try simp only [hl308001_64]); (with_reducible repeat (first | apply Kd.R_alloc | apply Kd.R_drewN | apply Kd.R_drew)); exact Kd.R_mono HO_308001.out (fun _ hk => ⟨hk.1.1.1, ⟨hk.1.1.2, hk.2⟩⟩)⟩, ⟨by (try simp only [hl308000_64]); (try simp only [hl308001_64]); (with_reducible repeat (first | apply Kd.R_alloc | apply Kd.R_drewN | apply Kd.R_drew)); exact Kd.R_mono HO_316000.out (fun _ hk => ⟨hk.1.1.1, ⟨hk.1.1.2, hk.2⟩⟩)⟩, ⟨by (try simp only [hl308000_64]); (try simp only [hl308001_64]); (with_reducible repeat (first | apply Kd.R_alloc | apply Kd.R_drewN | apply Kd.R_drew)); exact Kd.R_mono HO_316001.out (fun _ hk => ⟨hk.1.1.1, ⟨hk.1.1.2, hk.2⟩⟩)⟩, ⟨by (try simp only [hl308000_64]); (try simp only [hl308001_64]); (with_reducible repeat (first | apply Kd.R_alloc | apply Kd.R_drewN | apply Kd.R_drew)); exact Kd.R_mono HO340.out (fun _ hk => ⟨hk.1.1.1.2, ⟨hk.1.1.2, hk.1.2⟩⟩)⟩, ⟨by (try simp only [hl308000_64]); (try simp only [hl308001_64]); (with_reducible repeat (first | apply Kd.R_alloc | apply Kd.R_drewN | apply Kd.R_drew)); exact Kd.R_mono HO343.out (fun _ hk => ⟨hk.1.1.1.2, ⟨hk.1.1.2, hk.1.2⟩⟩)⟩, ⟨by (try simp only [hl308000_64]); (try simp only [hl308001_64]); (with_reducible repeat (first | refine blk_drewN ?_ _ | refine blk_drew ?_ | refine blk_alloc ?_ _)); exact BK285.out⟩, ⟨by (try simp only [hl308000_64]); (try simp only [hl308001_64]); (with_reducible repeat (first | refine blk_drewN ?_ _ | refine blk_drew ?_ | refine blk_alloc ?_ _)); exact BK300.out⟩, ⟨by (try simp only [hl308000_64]); (try simp only [hl308001_64]); (with_reducible repeat (first | refine blk_drewN ?_ _ | refine blk_drew ?_ | refine blk_alloc ?_ _)); exact BK307.out⟩, ⟨by (try simp only [hl308000_64]); (try simp only [hl308001_64]); (with_reducible repeat (first | refine blk_drewN ?_ _ | refine blk_drew ?_ | refine blk_alloc ?_ _)); exact BK315.out⟩, ⟨by (try simp only [hl308000_64]); (try simp only [hl308001_64]); (with_reducible repeat (first | refine blk_drewN ?_ _ | refine blk_drew ?_ | refine blk_alloc ?_ _)); exact BK345.out⟩, ⟨bZ⟩⟩
     case rest =>
      clear HC109
      try clear c1
      try clear c2
      try clear p2
      try clear c3
      try clear c4
      try clear c4b0
      try clear c5
      try clear c6
      try clear c7
      try clear c8
      try clear c9
      try clear c10
      try clear c11
      try clear c12
      try clear c13
      try clear c14
      try clear c15
      try clear c23
      try clear c30
      try clear c31
      try clear c37
      try clear c38
      try clear c39
      try clear c43
      try clear c44
      try clear c45
      try clear c46
      try clear c48
      try clear c49
      try clear c52
      try clear c53
      try clear c54
      try clear c55
      try clear c56
      try clear c57
      try clear c58
      try clear c59
      try clear c60
      try clear c63
      try clear c71
      try clear c72
      try clear c73
      try clear c76
      try clear c76b0
      try clear c78
      try clear c79
      try clear c80
      try clear c81
      try clear c83
      try clear c84
      try clear c87
      try clear c88
      try clear c89
      try clear c91
      try clear c92
      try clear c95
      try clear c98
      try clear c98b0
      try clear c99
      try clear c100
      try clear c101
      try clear c106
      try clear c106b0
      try clear c106b1
      try clear c110
      try clear c111
      try clear c112
      try clear c117
      try clear c118
      try clear c126
      try clear c127
      try clear c128
      try clear c129
      try clear c133
      try clear c134
      try clear c135
      try clear c136
      try clear c137
      try clear c139
      try clear c140
      try clear c141
      try clear c144
      try clear c145
      try clear c146
      try clear c147
      try clear c149
      try clear c150
      try clear c151
      try clear hcz102_0
      try clear hcz102_1
      try clear hcz104_0
      try clear hcz104_1
      try clear hcz113_0
      try clear hcz113_1
      try clear hcz115_0
      try clear hcz115_1
      try clear hcz119_0
      try clear hcz119_1
      try clear hcz130_0
      try clear hcz130_1
      try clear hcz138_0
      try clear hcz138_1
      try clear hcz142_0
      try clear hcz142_1
      try clear hcz148_0
      try clear hcz148_1
      try clear hcz14_0
      try clear hcz14_1
      try clear hcz152_0
      try clear hcz152_1
      try clear hcz16_0
      try clear hcz16_1
      try clear hcz24_0
      try clear hcz24_1
      try clear hcz26_0
      try clear hcz26_1
      try clear hcz32_0
      try clear hcz32_1
      try clear hcz40_0
      try clear hcz40_1
      try clear hcz47_0
      try clear hcz47_1
      try clear hcz50_0
      try clear hcz50_1
      try clear hcz55_0
      try clear hcz55_1
      try clear hcz58_0
      try clear hcz58_1
      try clear hcz6_0
      try clear hcz6_1
      try clear hcz74_0
      try clear hcz74_1
      try clear hcz82_0
      try clear hcz82_1
      try clear hcz85_0
      try clear hcz85_1
      try clear hcz90_0
      try clear hcz90_1
      try clear hcz93_0
      try clear hcz93_1
      try clear hfz102_0
      try clear hfz102_1
      try clear hfz104_0
      try clear hfz104_1
      try clear hfz113_0
      try clear hfz113_1
      try clear hfz115_0
      try clear hfz115_1
      try clear hfz119_0
      try clear hfz119_1
      try clear hfz130_0
      try clear hfz130_1
      try clear hfz138_0
      try clear hfz138_1
      try clear hfz142_0
      try clear hfz142_1
      try clear hfz148_0
      try clear hfz148_1
      try clear hfz14_0
      try clear hfz14_1
      try clear hfz152_0
      try clear hfz152_1
      try clear hfz16_0
      try clear hfz16_1
      try clear hfz24_0
      try clear hfz24_1
      try clear hfz26_0
      try clear hfz26_1
      try clear hfz32_0
      try clear hfz32_1
      try clear hfz40_0
      try clear hfz40_1
      try clear hfz47_0
      try clear hfz47_1
      try clear hfz50_0
      try clear hfz50_1
      try clear hfz55_0
      try clear hfz55_1
      try clear hfz58_0
      try clear hfz58_1
      try clear hfz6_0
      try clear hfz6_1
      try clear hfz74_0
      try clear hfz74_1
      try clear hfz82_0
      try clear hfz82_1
      try clear hfz85_0
      try clear hfz85_1
      try clear hfz90_0
      try clear hfz90_1
      try clear hfz93_0
      try clear hfz93_1
      try clear p2
      obtain ⟨kq, x92_108, rfl, HA, HJ108, HO_301000, HO_301001, HO_308000, HO_308001, HO_316000, HO_316001, HO_346000, HO_346001, BK285, BK300, BK307, BK315, BK345, HB⟩ := hcut
      have hl316000_108 := (Kd.R_reads' HO_316000.out).1
      rw [hl316000_108] at HO_316000
      (try simp only [hl316000_108])
      (try simp only [hl316000_108] at BK285)
      (try simp only [hl316000_108] at BK300)
      (try simp only [hl316000_108] at BK307)
      (try simp only [hl316000_108] at BK315)
      (try simp only [hl316000_108] at BK345)
      (try simp only [hl316000_108] at HO_301000)
      (try simp only [hl316000_108] at HO_301001)
      (try simp only [hl316000_108] at HO_308000)
      (try simp only [hl316000_108] at HO_308001)
      (try simp only [hl316000_108] at HO_316001)
      (try simp only [hl316000_108] at HO_346000)
      (try simp only [hl316000_108] at HO_346001)
      have hl316001_108 := (Kd.R_reads' HO_316001.out).1
      rw [hl316001_108] at HO_316001
      (try simp only [hl316001_108])
      (try simp only [hl316001_108] at BK285)
      (try simp only [hl316001_108] at BK300)
      (try simp only [hl316001_108] at BK307)
      (try simp only [hl316001_108] at BK315)
      (try simp only [hl316001_108] at BK345)
      (try simp only [hl316001_108] at HO_301000)
      (try simp only [hl316001_108] at HO_301001)
      (try simp only [hl316001_108] at HO_308000)
      (try simp only [hl316001_108] at HO_308001)
      (try simp only [hl316001_108] at HO_316000)
      (try simp only [hl316001_108] at HO_346000)
      (try simp only [hl316001_108] at HO_346001)
      cases kq with
      | zero => exact absurd HA.out (by simp [laws_FnExactVoid.j2])
      | succ kj108 =>
       have H := HA.out
       clear HA
       simp only [laws_FnExactVoid.j2] at H
       by_cases c154 : x92_108 = true
       ·subst c154
        have H1 : (some false) = some r := by rw [if_pos rfl] at H; exact H
        clear H
        have H := H1
        clear H1
        obtain rfl := Option.some.inj H
        go_wp2
        go_ret
        exact ⟨tZC, bZ⟩
       replace c154 := Bool.eq_false_iff.mpr c154
       subst c154
       have H1 : ((laws_heldRegister.f kj108 t329 t330 1).bind fun t347 => (if t347 < 0 then (some false) else (if t347 = t328 then (some true) else (some false)))) = some r := by rw [if_neg (show ¬ (false = true) by decide)] at H; exact H
       clear H
       have H := H1
       clear H1
       replace H := Option.bind_eq_some_iff.mp H
       obtain ⟨t347, A1550, H⟩ := H
       replace H : (if t347 < 0 then (some false) else (if t347 = t328 then (some true) else (some false))) = some r := H
       have A155 := Aside0.mk A1550
       clear A1550
       by_cases c156 : t347 < 0
       ·rw [if_pos c156] at H
        have c156b0 := decide_eq_true c156
        clear c156
        obtain rfl := Option.some.inj H
        have hnb157 := NB315_285.out
        have hnc157 := NB285_315.out
        have hnb158 := NB315_300.out
        have hnc158 := NB300_315.out
        have hnb159 := NB315_307.out
        have hnc159 := NB307_315.out
        have hnb160 := NB315_345.out
        have hnc160 := NB345_315.out
        have hcz161_0 : wc.cell? ⟨gb315, 0, none⟩ = some (.slice Ao36 t329.length co36) := (blk_cell BK315.out 0).trans rfl
        have hcz161_1 : wc.cell? ⟨gb315, 1, none⟩ = some (.slice Ao41 t330.length co41) := (blk_cell BK315.out 1).trans rfl
        have hfz161_0 := blk_frozen BK315.out 0
        have hfz161_1 := blk_frozen BK315.out 1
        go_wp2_with (first | ((with_reducible refine gate_callee (f := 60) rfl ?_); refine goesL_ (some 95) rfl rfl Try.func60 kZ rfl #[.agg #[.slice Ao36 t329.length co36, .slice Ao41 t330.length co41], .int .i64 1] rfl tZA ?_; (with_reducible refine (laws_heldRegister.calls kj108 _ _ t329 _ _ t330 1 t347 _ ?side1 ?side2 ?side3 ?side4 A155.out).mono ?_); (case side1 => repeat (first | exact (Kd.R_reads' HO_316000.out).2.2 | (with_reducible refine Kd.C_alloc ?_ _) | (with_reducible refine Kd.C_drewN ?_ _) | (with_reducible refine Kd.C_drew ?_))); (case side2 => exact (Kd.R_reads' HO_316000.out).2.1); (case side3 => repeat (first | exact (Kd.R_reads' HO_316001.out).2.2 | (with_reducible refine Kd.C_alloc ?_ _) | (with_reducible refine Kd.C_drewN ?_ _) | (with_reducible refine Kd.C_drew ?_))); (case side4 => exact (Kd.R_reads' HO_316001.out).2.1); rintro e w162 ⟨rfl, hb⟩; refine ⟨_, rfl, ?_⟩; replace HO_301000 := aZ (Kd.R_below (lZR HO_301000.out) hb); replace HO_301001 := aZ (Kd.R_below (lZR HO_301001.out) hb); replace HO_308000 := aZ (Kd.R_below (lZR HO_308000.out) hb); replace HO_308001 := aZ (Kd.R_below (lZR HO_308001.out) hb); replace HO_316000 := aZ (Kd.R_below (lZR HO_316000.out) hb); replace HO_316001 := aZ (Kd.R_below (lZR HO_316001.out) hb); replace HO_346000 := aZ (Kd.R_below (lZR HO_346000.out) hb); replace HO_346001 := aZ (Kd.R_below (lZR HO_346001.out) hb); replace BK285 := aZ (blk_below (bkZ BK285.out) hb); replace BK300 := aZ (blk_below (bkZ BK300.out) hb); replace BK307 := aZ (blk_below (bkZ BK307.out) hb); replace BK315 := aZ (blk_below (bkZ BK315.out) hb); replace BK345 := aZ (blk_below (bkZ BK345.out) hb); replace HB := aZ (below_step bZ hb); (try clear hb); (try clear hb2); (try clear hk); (try clear hi)))
        go_ret
        exact ⟨tZC, bZ⟩
       rw [if_neg c156] at H
       have c156b0 := decide_eq_false c156
       clear c156
       by_cases c163 : t347 = t328
       rotate_left
       ·rw [if_neg c163] at H
        have c163b0 : (t347 == t328) = false := beq_eq_false_iff_ne.mpr c163
        have c163b1 : (t347 != t328) = true := bne_iff_ne.mpr c163
        obtain rfl := Option.some.inj H
        have hnb170 := NB315_285.out
        have hnc170 := NB285_315.out
        have hnb171 := NB315_300.out
        have hnc171 := NB300_315.out
        have hnb172 := NB315_307.out
        have hnc172 := NB307_315.out
        have hnb173 := NB315_345.out
        have hnc173 := NB345_315.out
        have hcz174_0 : wc.cell? ⟨gb315, 0, none⟩ = some (.slice Ao36 t329.length co36) := (blk_cell BK315.out 0).trans rfl
        have hcz174_1 : wc.cell? ⟨gb315, 1, none⟩ = some (.slice Ao41 t330.length co41) := (blk_cell BK315.out 1).trans rfl
        have hfz174_0 := blk_frozen BK315.out 0
        have hfz174_1 := blk_frozen BK315.out 1
        go_wp2_with (first | ((with_reducible refine gate_callee (f := 60) rfl ?_); refine goesL_ (some 95) rfl rfl Try.func60 kZ rfl #[.agg #[.slice Ao36 t329.length co36, .slice Ao41 t330.length co41], .int .i64 1] rfl tZA ?_; (with_reducible refine (laws_heldRegister.calls kj108 _ _ t329 _ _ t330 1 t347 _ ?side1 ?side2 ?side3 ?side4 A155.out).mono ?_); (case side1 => repeat (first | exact (Kd.R_reads' HO_316000.out).2.2 | (with_reducible refine Kd.C_alloc ?_ _) | (with_reducible refine Kd.C_drewN ?_ _) | (with_reducible refine Kd.C_drew ?_))); (case side2 => exact (Kd.R_reads' HO_316000.out).2.1); (case side3 => repeat (first | exact (Kd.R_reads' HO_316001.out).2.2 | (with_reducible refine Kd.C_alloc ?_ _) | (with_reducible refine Kd.C_drewN ?_ _) | (with_reducible refine Kd.C_drew ?_))); (case side4 => exact (Kd.R_reads' HO_316001.out).2.1); rintro e w175 ⟨rfl, hb⟩; refine ⟨_, rfl, ?_⟩; replace HO_301000 := aZ (Kd.R_below (lZR HO_301000.out) hb); replace HO_301001 := aZ (Kd.R_below (lZR HO_301001.out) hb); replace HO_308000 := aZ (Kd.R_below (lZR HO_308000.out) hb); replace HO_308001 := aZ (Kd.R_below (lZR HO_308001.out) hb); replace HO_316000 := aZ (Kd.R_below (lZR HO_316000.out) hb); replace HO_316001 := aZ (Kd.R_below (lZR HO_316001.out) hb); replace HO_346000 := aZ (Kd.R_below (lZR HO_346000.out) hb); replace HO_346001 := aZ (Kd.R_below (lZR HO_346001.out) hb); replace BK285 := aZ (blk_below (bkZ BK285.out) hb); replace BK300 := aZ (blk_below (bkZ BK300.out) hb); replace BK307 := aZ (blk_below (bkZ BK307.out) hb); replace BK315 := aZ (blk_below (bkZ BK315.out) hb); replace BK345 := aZ (blk_below (bkZ BK345.out) hb); replace HB := aZ (below_step bZ hb); (try clear hb); (try clear hb2); (try clear hk); (try clear hi)))
        go_ret
        exact ⟨tZC, bZ⟩
       rw [if_pos c163] at H
       have c163b0 : (t347 == t328) = true := beq_iff_eq.mpr c163
       have c163b1 : (t347 != t328) = false := bne_eq_false_iff_eq.mpr c163
       clear c163
       obtain rfl := Option.some.inj H
       have hnb164 := NB315_285.out
       have hnc164 := NB285_315.out
       have hnb165 := NB315_300.out
       have hnc165 := NB300_315.out
       have hnb166 := NB315_307.out
       have hnc166 := NB307_315.out
       have hnb167 := NB315_345.out
       have hnc167 := NB345_315.out
       have hcz168_0 : wc.cell? ⟨gb315, 0, none⟩ = some (.slice Ao36 t329.length co36) := (blk_cell BK315.out 0).trans rfl
       have hcz168_1 : wc.cell? ⟨gb315, 1, none⟩ = some (.slice Ao41 t330.length co41) := (blk_cell BK315.out 1).trans rfl
       have hfz168_0 := blk_frozen BK315.out 0
       have hfz168_1 := blk_frozen BK315.out 1
       go_wp2_with (first | ((with_reducible refine gate_callee (f := 60) rfl ?_); refine goesL_ (some 95) rfl rfl Try.func60 kZ rfl #[.agg #[.slice Ao36 t329.length co36, .slice Ao41 t330.length co41], .int .i64 1] rfl tZA ?_; (with_reducible refine (laws_heldRegister.calls kj108 _ _ t329 _ _ t330 1 t347 _ ?side1 ?side2 ?side3 ?side4 A155.out).mono ?_); (case side1 => repeat (first | exact (Kd.R_reads' HO_316000.out).2.2 | (with_reducible refine Kd.C_alloc ?_ _) | (with_reducible refine Kd.C_drewN ?_ _) | (with_reducible refine Kd.C_drew ?_))); (case side2 => exact (Kd.R_reads' HO_316000.out).2.1); (case side3 => repeat (first | exact (Kd.R_reads' HO_316001.out).2.2 | (with_reducible refine Kd.C_alloc ?_ _) | (with_reducible refine Kd.C_drewN ?_ _) | (with_reducible refine Kd.C_drew ?_))); (case side4 => exact (Kd.R_reads' HO_316001.out).2.1); rintro e w169 ⟨rfl, hb⟩; refine ⟨_, rfl, ?_⟩; replace HO_301000 := aZ (Kd.R_below (lZR HO_301000.out) hb); replace HO_301001 := aZ (Kd.R_below (lZR HO_301001.out) hb); replace HO_308000 := aZ (Kd.R_below (lZR HO_308000.out) hb); replace HO_308001 := aZ (Kd.R_below (lZR HO_308001.out) hb); replace HO_316000 := aZ (Kd.R_below (lZR HO_316000.out) hb); replace HO_316001 := aZ (Kd.R_below (lZR HO_316001.out) hb); replace HO_346000 := aZ (Kd.R_below (lZR HO_346000.out) hb); replace HO_346001 := aZ (Kd.R_below (lZR HO_346001.out) hb); replace BK285 := aZ (blk_below (bkZ BK285.out) hb); replace BK300 := aZ (blk_below (bkZ BK300.out) hb); replace BK307 := aZ (blk_below (bkZ BK307.out) hb); replace BK315 := aZ (blk_below (bkZ BK315.out) hb); replace BK345 := aZ (blk_below (bkZ BK345.out) hb); replace HB := aZ (below_step bZ hb); (try clear hb); (try clear hb2); (try clear hk); (try clear hi)))
       go_ret
       exact ⟨tZC, bZ⟩
def laws_FnExactVoid.Pure : Prop := ∀ (l0_0 : List (S303)) (l0_1 : List (S307)) (a1 : Int), (l0_0.length ≤ maxLen ∧ ∀ y ∈ l0_0, wf303 y) → (l0_1.length ≤ maxLen ∧ ∀ y ∈ l0_1, wf307 y) → ((Lit.int .i64 a1).wf = true) → ∃ k, laws_FnExactVoid.f k l0_0 l0_1 a1 = some true
end Go.Proofs.Ytnbecbgpefmcoaa.PFnExactVoid
