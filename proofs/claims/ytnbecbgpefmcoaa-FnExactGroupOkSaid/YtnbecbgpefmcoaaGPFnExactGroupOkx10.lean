import Derived.Test.YtnbecbgpefmcoaaGPFnExactGroupOkx0
import Derived.Test.YtnbecbgpefmcoaaGPFnExactGroupOkx6
import Derived.Test.YtnbecbgpefmcoaaGPFnExactGroupOkx9
namespace Go.Proofs.Ytnbecbgpefmcoaa.PFnExactGroupOk
open Go.RowKit Go.Proofs.YtnbecbgpefmcoaaW.PrintWords Go.Proofs.YtnbecbgpefmcoaaW.PrintLast Go.Proofs.YtnbecbgpefmcoaaW.PrintMore Go.Proofs.Ytnbecbgpefmcoaa.MapWords
attribute [local go_sem] max2_int min2_int max_two min_two max_three min_three max_four min_four
set_option linter.unusedVariables false
set_option linter.unusedSimpArgs false
mutual
def impl_GroupOk.j0 : Nat → Bool → List (S251) → Int → List (S245) → Int → Int → Option (Bool)
  | 0, _, _, _, _, _, _ => none
  | k + 1, x38, x219000, x219001, x219002, x219003, x219004 => if x38 = true then (some false) else ((some (([x219003, x219004] : List Int) : List Int)).bind fun y221 => (impl_GroupOk.l0 k y221 (y221.length : Int) 0 x219000 x219001 x219002 x219003 x219004))
def impl_GroupOk.l0 : Nat → List Int → Int → Int → List (S251) → Int → List (S245) → Int → Int → Option (Bool)
  | 0, _, _, _, _, _, _, _, _ => none
  | k + 1, x43, x44, x45, x219000, x219001, x219002, x219003, x219004 => if x45 < x44 then (if 0 ≤ x45 then (if x45 < (x43.length : Int) then ((impl_leafAt.f x219000 (rd x43 x45)).bind fun t225 => (if t225 = true then (if 0 ≤ (rd x43 x45) then (if (rd x43 x45) < (x219000.length : Int) then (if ((rd_T251 x219000 (rd x43 x45)).f2) = 3 then (impl_GroupOk.l0 k x43 x44 (wrap64 (x45 + 1)) x219000 x219001 x219002 x219003 x219004) else (some false)) else (none)) else (none)) else (some false))) else (none)) else (none)) else (impl_GroupOk.l1 k x219002 (x219002.length : Int) 0 x219000 x219001 x219002 x219003 x219004)
def impl_GroupOk.l1 : Nat → List (S245) → Int → Int → List (S251) → Int → List (S245) → Int → Int → Option (Bool)
  | 0, _, _, _, _, _, _, _, _ => none
  | k + 1, x65, x66, x67, x219000, x219001, x219002, x219003, x219004 => if x67 < x66 then (if 0 ≤ x67 then (if x67 < (x65.length : Int) then (if x67 = 0 then (if ((rd_T245 x65 x67).f0) = (-1) then (if ((rd_T245 x65 x67).f1) = 10000 then (if x67 > 0 then ((impl_between.f ((rd_T245 x65 x67).f0) 0 (wrap64 (x67 - 1))).bind fun t229 => (if t229 = true then ((impl_between.f ((rd_T245 x65 x67).f1) 1 10000).bind fun t230 => (if t230 = true then ((impl_between.f ((rd_T245 x65 x67).f2) 0 (wrap64 (x219001 - 1))).bind fun t231 => (if t231 = true then (impl_GroupOk.j3 k x65 x66 x67 ((((rd_T245 x65 x67).f3).length : Int) != (x219000.length : Int)) x219000 x219001 x219002 x219003 x219004 ((rd_T245 x65 x67).f0) ((rd_T245 x65 x67).f1) ((rd_T245 x65 x67).f2) ((rd_T245 x65 x67).f3)) else (impl_GroupOk.j3 k x65 x66 x67 true x219000 x219001 x219002 x219003 x219004 ((rd_T245 x65 x67).f0) ((rd_T245 x65 x67).f1) ((rd_T245 x65 x67).f2) ((rd_T245 x65 x67).f3)))) else (impl_GroupOk.j3 k x65 x66 x67 true x219000 x219001 x219002 x219003 x219004 ((rd_T245 x65 x67).f0) ((rd_T245 x65 x67).f1) ((rd_T245 x65 x67).f2) ((rd_T245 x65 x67).f3)))) else (impl_GroupOk.j3 k x65 x66 x67 true x219000 x219001 x219002 x219003 x219004 ((rd_T245 x65 x67).f0) ((rd_T245 x65 x67).f1) ((rd_T245 x65 x67).f2) ((rd_T245 x65 x67).f3)))) else ((impl_between.f ((rd_T245 x65 x67).f1) 1 10000).bind fun t232 => (if t232 = true then ((impl_between.f ((rd_T245 x65 x67).f2) 0 (wrap64 (x219001 - 1))).bind fun t233 => (if t233 = true then (impl_GroupOk.j3 k x65 x66 x67 ((((rd_T245 x65 x67).f3).length : Int) != (x219000.length : Int)) x219000 x219001 x219002 x219003 x219004 ((rd_T245 x65 x67).f0) ((rd_T245 x65 x67).f1) ((rd_T245 x65 x67).f2) ((rd_T245 x65 x67).f3)) else (impl_GroupOk.j3 k x65 x66 x67 true x219000 x219001 x219002 x219003 x219004 ((rd_T245 x65 x67).f0) ((rd_T245 x65 x67).f1) ((rd_T245 x65 x67).f2) ((rd_T245 x65 x67).f3)))) else (impl_GroupOk.j3 k x65 x66 x67 true x219000 x219001 x219002 x219003 x219004 ((rd_T245 x65 x67).f0) ((rd_T245 x65 x67).f1) ((rd_T245 x65 x67).f2) ((rd_T245 x65 x67).f3))))) else (impl_GroupOk.j3 k x65 x66 x67 true x219000 x219001 x219002 x219003 x219004 ((rd_T245 x65 x67).f0) ((rd_T245 x65 x67).f1) ((rd_T245 x65 x67).f2) ((rd_T245 x65 x67).f3))) else (impl_GroupOk.j3 k x65 x66 x67 true x219000 x219001 x219002 x219003 x219004 ((rd_T245 x65 x67).f0) ((rd_T245 x65 x67).f1) ((rd_T245 x65 x67).f2) ((rd_T245 x65 x67).f3))) else (if x67 > 0 then ((impl_between.f ((rd_T245 x65 x67).f0) 0 (wrap64 (x67 - 1))).bind fun t234 => (if t234 = true then ((impl_between.f ((rd_T245 x65 x67).f1) 1 10000).bind fun t235 => (if t235 = true then ((impl_between.f ((rd_T245 x65 x67).f2) 0 (wrap64 (x219001 - 1))).bind fun t236 => (if t236 = true then (impl_GroupOk.j3 k x65 x66 x67 ((((rd_T245 x65 x67).f3).length : Int) != (x219000.length : Int)) x219000 x219001 x219002 x219003 x219004 ((rd_T245 x65 x67).f0) ((rd_T245 x65 x67).f1) ((rd_T245 x65 x67).f2) ((rd_T245 x65 x67).f3)) else (impl_GroupOk.j3 k x65 x66 x67 true x219000 x219001 x219002 x219003 x219004 ((rd_T245 x65 x67).f0) ((rd_T245 x65 x67).f1) ((rd_T245 x65 x67).f2) ((rd_T245 x65 x67).f3)))) else (impl_GroupOk.j3 k x65 x66 x67 true x219000 x219001 x219002 x219003 x219004 ((rd_T245 x65 x67).f0) ((rd_T245 x65 x67).f1) ((rd_T245 x65 x67).f2) ((rd_T245 x65 x67).f3)))) else (impl_GroupOk.j3 k x65 x66 x67 true x219000 x219001 x219002 x219003 x219004 ((rd_T245 x65 x67).f0) ((rd_T245 x65 x67).f1) ((rd_T245 x65 x67).f2) ((rd_T245 x65 x67).f3)))) else ((impl_between.f ((rd_T245 x65 x67).f1) 1 10000).bind fun t237 => (if t237 = true then ((impl_between.f ((rd_T245 x65 x67).f2) 0 (wrap64 (x219001 - 1))).bind fun t238 => (if t238 = true then (impl_GroupOk.j3 k x65 x66 x67 ((((rd_T245 x65 x67).f3).length : Int) != (x219000.length : Int)) x219000 x219001 x219002 x219003 x219004 ((rd_T245 x65 x67).f0) ((rd_T245 x65 x67).f1) ((rd_T245 x65 x67).f2) ((rd_T245 x65 x67).f3)) else (impl_GroupOk.j3 k x65 x66 x67 true x219000 x219001 x219002 x219003 x219004 ((rd_T245 x65 x67).f0) ((rd_T245 x65 x67).f1) ((rd_T245 x65 x67).f2) ((rd_T245 x65 x67).f3)))) else (impl_GroupOk.j3 k x65 x66 x67 true x219000 x219001 x219002 x219003 x219004 ((rd_T245 x65 x67).f0) ((rd_T245 x65 x67).f1) ((rd_T245 x65 x67).f2) ((rd_T245 x65 x67).f3)))))) else (none)) else (none)) else (some true)
def impl_GroupOk.j3 : Nat → List (S245) → Int → Int → Bool → List (S251) → Int → List (S245) → Int → Int → Int → Int → Int → List Int → Option (Bool)
  | 0, _, _, _, _, _, _, _, _, _, _, _, _, _ => none
  | k + 1, x65, x66, x67, x119, x219000, x219001, x219002, x219003, x219004, x229000, x229001, x229002, x229003 => if x119 = true then (some false) else (impl_GroupOk.l2 k 0 x65 x66 x67 x229003 (x229003.length : Int) 0 x219000 x219001 x219002 x219003 x219004)
def impl_GroupOk.l2 : Nat → Int → List (S245) → Int → Int → List Int → Int → Int → List (S251) → Int → List (S245) → Int → Int → Option (Bool)
  | 0, _, _, _, _, _, _, _, _, _, _, _, _ => none
  | k + 1, x7, x65, x66, x67, x121, x122, x123, x219000, x219001, x219002, x219003, x219004 => if x123 < x122 then (if 0 ≤ x123 then (if x123 < (x121.length : Int) then ((impl_amount.f (rd x121 x123)).bind fun t240 => (if t240 = true then (if (rd x121 x123) = 0 then (impl_GroupOk.l2 k (wrap64 (x7 + (rd x121 x123))) x65 x66 x67 x121 x122 (wrap64 (x123 + 1)) x219000 x219001 x219002 x219003 x219004) else ((impl_leafAt.f x219000 x123).bind fun t241 => (if t241 = true then (impl_GroupOk.l2 k (wrap64 (x7 + (rd x121 x123))) x65 x66 x67 x121 x122 (wrap64 (x123 + 1)) x219000 x219001 x219002 x219003 x219004) else (some false)))) else (some false))) else (none)) else (none)) else (if x7 = 0 then (impl_GroupOk.l1 k x65 x66 (wrap64 (x67 + 1)) x219000 x219001 x219002 x219003 x219004) else (some false))
end
def impl_GroupOk.f (k : Nat) (l0_0 : List (S251)) (a0_1 : Int) (l0_2 : List (S245)) (a0_3 : Int) (a0_4 : Int) : Option (Bool) := (impl_ChartOk.f k l0_0).bind fun t219 => (if t219 = true then ((impl_between.f a0_1 1 20).bind fun t220 => (if t220 = true then (if (l0_2.length : Int) < 1 then (impl_GroupOk.j0 k true l0_0 a0_1 l0_2 a0_3 a0_4) else (if (l0_2.length : Int) > 12 then (impl_GroupOk.j0 k true l0_0 a0_1 l0_2 a0_3 a0_4) else (impl_GroupOk.j0 k (a0_3 == a0_4) l0_0 a0_1 l0_2 a0_3 a0_4))) else (impl_GroupOk.j0 k true l0_0 a0_1 l0_2 a0_3 a0_4))) else (impl_GroupOk.j0 k true l0_0 a0_1 l0_2 a0_3 a0_4))
theorem impl_GroupOk.mono_l : ∀ k, (∀ y0 y1 y2 y3 y4 y5, LeO (impl_GroupOk.j0 k y0 y1 y2 y3 y4 y5) (impl_GroupOk.j0 (k + 1) y0 y1 y2 y3 y4 y5)) ∧ (∀ y0 y1 y2 y3 y4 y5 y6 y7, LeO (impl_GroupOk.l0 k y0 y1 y2 y3 y4 y5 y6 y7) (impl_GroupOk.l0 (k + 1) y0 y1 y2 y3 y4 y5 y6 y7)) ∧ (∀ y0 y1 y2 y3 y4 y5 y6 y7, LeO (impl_GroupOk.l1 k y0 y1 y2 y3 y4 y5 y6 y7) (impl_GroupOk.l1 (k + 1) y0 y1 y2 y3 y4 y5 y6 y7)) ∧ (∀ y0 y1 y2 y3 y4 y5 y6 y7 y8 y9 y10 y11 y12, LeO (impl_GroupOk.j3 k y0 y1 y2 y3 y4 y5 y6 y7 y8 y9 y10 y11 y12) (impl_GroupOk.j3 (k + 1) y0 y1 y2 y3 y4 y5 y6 y7 y8 y9 y10 y11 y12)) ∧ (∀ y0 y1 y2 y3 y4 y5 y6 y7 y8 y9 y10 y11, LeO (impl_GroupOk.l2 k y0 y1 y2 y3 y4 y5 y6 y7 y8 y9 y10 y11) (impl_GroupOk.l2 (k + 1) y0 y1 y2 y3 y4 y5 y6 y7 y8 y9 y10 y11))
  | 0 => ⟨fun _ _ _ _ _ _ r h => by simp [impl_GroupOk.j0] at h, fun _ _ _ _ _ _ _ _ r h => by simp [impl_GroupOk.l0] at h, fun _ _ _ _ _ _ _ _ r h => by simp [impl_GroupOk.l1] at h, fun _ _ _ _ _ _ _ _ _ _ _ _ _ r h => by simp [impl_GroupOk.j3] at h, fun _ _ _ _ _ _ _ _ _ _ _ _ r h => by simp [impl_GroupOk.l2] at h⟩
  | k + 1 => by
    obtain ⟨ih0, ih1, ih2, ih3, ih4⟩ := impl_GroupOk.mono_l k
    refine ⟨?_, ?_, ?_, ?_, ?_⟩
    · intro y0 y1 y2 y3 y4 y5
      unfold impl_GroupOk.j0
      repeat' first
      | (with_reducible exact ih0 _ _ _ _ _ _)
      | (with_reducible exact ih1 _ _ _ _ _ _ _ _)
      | (with_reducible exact ih2 _ _ _ _ _ _ _ _)
      | (with_reducible exact ih3 _ _ _ _ _ _ _ _ _ _ _ _ _)
      | (with_reducible exact ih4 _ _ _ _ _ _ _ _ _ _ _ _)
      | (with_reducible exact impl_ChartOk.mono _ _)
      | (with_reducible exact LeO.refl _)
      | (with_reducible exact LeO.none _)
      | (with_reducible refine LeO.ite ?_ ?_)
      | (with_reducible refine LeO.bind ?_ (fun _ => ?_))
      | exact ih0 _ _ _ _ _ _
      | exact ih1 _ _ _ _ _ _ _ _
      | exact ih2 _ _ _ _ _ _ _ _
      | exact ih3 _ _ _ _ _ _ _ _ _ _ _ _ _
      | exact ih4 _ _ _ _ _ _ _ _ _ _ _ _
      | exact impl_ChartOk.mono _ _
      | exact LeO.none _
      | refine LeO.ite ?_ ?_
      | refine LeO.bind ?_ (fun _ => ?_)
    · intro y0 y1 y2 y3 y4 y5 y6 y7
      unfold impl_GroupOk.l0
      repeat' first
      | (with_reducible exact ih0 _ _ _ _ _ _)
      | (with_reducible exact ih1 _ _ _ _ _ _ _ _)
      | (with_reducible exact ih2 _ _ _ _ _ _ _ _)
      | (with_reducible exact ih3 _ _ _ _ _ _ _ _ _ _ _ _ _)
      | (with_reducible exact ih4 _ _ _ _ _ _ _ _ _ _ _ _)
      | (with_reducible exact impl_ChartOk.mono _ _)
      | (with_reducible exact LeO.refl _)
      | (with_reducible exact LeO.none _)
      | (with_reducible refine LeO.ite ?_ ?_)
      | (with_reducible refine LeO.bind ?_ (fun _ => ?_))
      | exact ih0 _ _ _ _ _ _
      | exact ih1 _ _ _ _ _ _ _ _
      | exact ih2 _ _ _ _ _ _ _ _
      | exact ih3 _ _ _ _ _ _ _ _ _ _ _ _ _
      | exact ih4 _ _ _ _ _ _ _ _ _ _ _ _
      | exact impl_ChartOk.mono _ _
      | exact LeO.none _
      | refine LeO.ite ?_ ?_
      | refine LeO.bind ?_ (fun _ => ?_)
    · intro y0 y1 y2 y3 y4 y5 y6 y7
      unfold impl_GroupOk.l1
      repeat' first
      | (with_reducible exact ih0 _ _ _ _ _ _)
      | (with_reducible exact ih1 _ _ _ _ _ _ _ _)
      | (with_reducible exact ih2 _ _ _ _ _ _ _ _)
      | (with_reducible exact ih3 _ _ _ _ _ _ _ _ _ _ _ _ _)
      | (with_reducible exact ih4 _ _ _ _ _ _ _ _ _ _ _ _)
      | (with_reducible exact impl_ChartOk.mono _ _)
      | (with_reducible exact LeO.refl _)
      | (with_reducible exact LeO.none _)
      | (with_reducible refine LeO.ite ?_ ?_)
      | (with_reducible refine LeO.bind ?_ (fun _ => ?_))
      | exact ih0 _ _ _ _ _ _
      | exact ih1 _ _ _ _ _ _ _ _
      | exact ih2 _ _ _ _ _ _ _ _
      | exact ih3 _ _ _ _ _ _ _ _ _ _ _ _ _
      | exact ih4 _ _ _ _ _ _ _ _ _ _ _ _
      | exact impl_ChartOk.mono _ _
      | exact LeO.none _
      | refine LeO.ite ?_ ?_
      | refine LeO.bind ?_ (fun _ => ?_)
    · intro y0 y1 y2 y3 y4 y5 y6 y7 y8 y9 y10 y11 y12
      unfold impl_GroupOk.j3
      repeat' first
      | (with_reducible exact ih0 _ _ _ _ _ _)
      | (with_reducible exact ih1 _ _ _ _ _ _ _ _)
      | (with_reducible exact ih2 _ _ _ _ _ _ _ _)
      | (with_reducible exact ih3 _ _ _ _ _ _ _ _ _ _ _ _ _)
      | (with_reducible exact ih4 _ _ _ _ _ _ _ _ _ _ _ _)
      | (with_reducible exact impl_ChartOk.mono _ _)
      | (with_reducible exact LeO.refl _)
      | (with_reducible exact LeO.none _)
      | (with_reducible refine LeO.ite ?_ ?_)
      | (with_reducible refine LeO.bind ?_ (fun _ => ?_))
      | exact ih0 _ _ _ _ _ _
      | exact ih1 _ _ _ _ _ _ _ _
      | exact ih2 _ _ _ _ _ _ _ _
      | exact ih3 _ _ _ _ _ _ _ _ _ _ _ _ _
      | exact ih4 _ _ _ _ _ _ _ _ _ _ _ _
      | exact impl_ChartOk.mono _ _
      | exact LeO.none _
      | refine LeO.ite ?_ ?_
      | refine LeO.bind ?_ (fun _ => ?_)
    · intro y0 y1 y2 y3 y4 y5 y6 y7 y8 y9 y10 y11
      unfold impl_GroupOk.l2
      repeat' first
      | (with_reducible exact ih0 _ _ _ _ _ _)
      | (with_reducible exact ih1 _ _ _ _ _ _ _ _)
      | (with_reducible exact ih2 _ _ _ _ _ _ _ _)
      | (with_reducible exact ih3 _ _ _ _ _ _ _ _ _ _ _ _ _)
      | (with_reducible exact ih4 _ _ _ _ _ _ _ _ _ _ _ _)
      | (with_reducible exact impl_ChartOk.mono _ _)
      | (with_reducible exact LeO.refl _)
      | (with_reducible exact LeO.none _)
      | (with_reducible refine LeO.ite ?_ ?_)
      | (with_reducible refine LeO.bind ?_ (fun _ => ?_))
      | exact ih0 _ _ _ _ _ _
      | exact ih1 _ _ _ _ _ _ _ _
      | exact ih2 _ _ _ _ _ _ _ _
      | exact ih3 _ _ _ _ _ _ _ _ _ _ _ _ _
      | exact ih4 _ _ _ _ _ _ _ _ _ _ _ _
      | exact impl_ChartOk.mono _ _
      | exact LeO.none _
      | refine LeO.ite ?_ ?_
      | refine LeO.bind ?_ (fun _ => ?_)
theorem impl_GroupOk.mono : ∀ a0 a1 a2 a3 a4 k, LeO (impl_GroupOk.f k a0 a1 a2 a3 a4) (impl_GroupOk.f (k + 1) a0 a1 a2 a3 a4) := by
  intro a0 a1 a2 a3 a4 k
  obtain ⟨ih0, ih1, ih2, ih3, ih4⟩ := impl_GroupOk.mono_l k
  unfold impl_GroupOk.f
  repeat' first
      | (with_reducible exact ih0 _ _ _ _ _ _)
      | (with_reducible exact ih1 _ _ _ _ _ _ _ _)
      | (with_reducible exact ih2 _ _ _ _ _ _ _ _)
      | (with_reducible exact ih3 _ _ _ _ _ _ _ _ _ _ _ _ _)
      | (with_reducible exact ih4 _ _ _ _ _ _ _ _ _ _ _ _)
      | (with_reducible exact impl_ChartOk.mono _ _)
      | (with_reducible exact LeO.refl _)
      | (with_reducible exact LeO.none _)
      | (with_reducible refine LeO.ite ?_ ?_)
      | (with_reducible refine LeO.bind ?_ (fun _ => ?_))
      | exact ih0 _ _ _ _ _ _
      | exact ih1 _ _ _ _ _ _ _ _
      | exact ih2 _ _ _ _ _ _ _ _
      | exact ih3 _ _ _ _ _ _ _ _ _ _ _ _ _
      | exact ih4 _ _ _ _ _ _ _ _ _ _ _ _
      | exact impl_ChartOk.mono _ _
      | exact LeO.none _
      | refine LeO.ite ?_ ?_
      | refine LeO.bind ?_ (fun _ => ?_)
set_option maxHeartbeats 8000000 in
set_option maxRecDepth 100000 in
theorem impl_GroupOk.calls (k : Nat) (A0_0 : Option Addr) (c0_0 : Nat) (l0_0 : List (S251)) (a0_1 : Int) (A0_2 : Option Addr) (c0_2 : Nat) (l0_2 : List (S245)) (a0_3 : Int) (a0_4 : Int) (r : Bool) (w : World) (hr0_0 : Kd.C k251 w A0_0 l0_0.length l0_0) (hc0_0 : l0_0.length ≤ c0_0) (hr0_2 : Kd.C k245 w A0_2 l0_2.length l0_2) (hc0_2 : l0_2.length ≤ c0_2) (h : impl_GroupOk.f k l0_0 a0_1 l0_2 a0_3 a0_4 = some r) :
    Calls Try.prog 68 #[.agg #[.slice A0_0 l0_0.length c0_0, .int .i64 a0_1, .slice A0_2 l0_2.length c0_2, .int .i64 a0_3, .int .i64 a0_4]] w fun e w' => e = .returned (.bool r) ∧ Below w.heap.size w w' := by
  have hu107 := Try.underlying107
  have hu245 := Try.underlying245
  have HR0_0 := Aside0.mk hr0_0
  have HC0_0 := Aside0.mk hc0_0
  clear hr0_0 hc0_0
  have HR0_2 := Aside0.mk hr0_2
  have HC0_2 := Aside0.mk hc0_2
  clear hr0_2 hc0_2
  have HB := Aside0.mk (Below.refl w.heap.size w)
  have H : ((impl_ChartOk.f k l0_0).bind fun t219 => (if t219 = true then ((impl_between.f a0_1 1 20).bind fun t220 => (if t220 = true then (if (l0_2.length : Int) < 1 then (impl_GroupOk.j0 k true l0_0 a0_1 l0_2 a0_3 a0_4) else (if (l0_2.length : Int) > 12 then (impl_GroupOk.j0 k true l0_0 a0_1 l0_2 a0_3 a0_4) else (impl_GroupOk.j0 k (a0_3 == a0_4) l0_0 a0_1 l0_2 a0_3 a0_4))) else (impl_GroupOk.j0 k true l0_0 a0_1 l0_2 a0_3 a0_4))) else (impl_GroupOk.j0 k true l0_0 a0_1 l0_2 a0_3 a0_4))) = some r := h
  clear h
  have HC2 := Aside0.mk H
  clear H
  go_enter Try.func68, Try.ntmps68
  go_upto_region 1 with (first | ((with_reducible refine gate_dst (N := 1) rfl ?_); (try (refine gate_guard (by rfl) ?_; dsimp only)); refine box_event ?hg (N := 1) ?hd (cs := #[.slice A0_0 l0_0.length c0_0, .int .i64 a0_1, .slice A0_2 l0_2.length c0_2, .int .i64 a0_3, .int .i64 a0_4]) (t := 107) ?hr ?_; (case hd => rfl); (case hg => rfl); (case hr => first | (go_simp; done) | (go_simp; rfl)); intro gb218 hg w3 hbox hb; have n0_ := Aside0.mk (below_step (by repeat (first | (with_reducible first | exact HB.out | apply below_alloc | apply pw_below_drewN | apply below_drew1) | exact HB.out)) hb); have n1_ := Aside0.mk (hbox); have n2_ := Aside0.mk ((by rw [hg]; exact (below_size (by repeat (first | (with_reducible first | exact HB.out | apply below_alloc | apply pw_below_drewN | apply below_drew1) | exact HB.out))) : w.heap.size ≤ gb218)); have n3_ := Aside0.mk ((by rw [hg]; exact (below_size (by repeat (first | (with_reducible first | exact HB.out | apply below_alloc | apply pw_below_drewN | apply below_drew1) | exact HB.out))) : w.heap.size ≤ gb218)); clear HB; have HB := n0_; have BK218 := n1_; have GW218 := n2_; have GE218 := n3_; clear n0_ n1_ n2_ n3_; clear hb hbox hg))
  (try simp only [Act.put, List.setIfInBounds_toArray, List.set_cons_zero, List.set_cons_succ])
  go_cut [38] (fun v38 wc => ∃ (kq : Nat) (x38_1 : Bool), v38 = .bool x38_1 ∧ Aside0 (impl_GroupOk.j0 kq x38_1 l0_0 a0_1 l0_2 a0_3 a0_4 = some r) ∧ Aside0 (kq ≤ k) ∧ Aside0 (wc.heap[gb218]? = some (.cells #[(.slice A0_0 l0_0.length c0_0), .int .i64 a0_1, (.slice A0_2 l0_2.length c0_2), .int .i64 a0_3, .int .i64 a0_4] 107 (0, 0))) ∧ Aside0 (Below w.heap.size w wc))
  case first =>
    have H := HC2.out
    clear HC2
    replace H := Option.bind_eq_some_iff.mp H
    obtain ⟨t219, A40, H⟩ := H
    replace H : (if t219 = true then ((impl_between.f a0_1 1 20).bind fun t220 => (if t220 = true then (if (l0_2.length : Int) < 1 then (impl_GroupOk.j0 k true l0_0 a0_1 l0_2 a0_3 a0_4) else (if (l0_2.length : Int) > 12 then (impl_GroupOk.j0 k true l0_0 a0_1 l0_2 a0_3 a0_4) else (impl_GroupOk.j0 k (a0_3 == a0_4) l0_0 a0_1 l0_2 a0_3 a0_4))) else (impl_GroupOk.j0 k true l0_0 a0_1 l0_2 a0_3 a0_4))) else (impl_GroupOk.j0 k true l0_0 a0_1 l0_2 a0_3 a0_4)) = some r := H
    have A4 := Aside0.mk A40
    clear A40
    by_cases c5 : t219 = true
    · subst c5
      have H1 : ((impl_between.f a0_1 1 20).bind fun t220 => (if t220 = true then (if (l0_2.length : Int) < 1 then (impl_GroupOk.j0 k true l0_0 a0_1 l0_2 a0_3 a0_4) else (if (l0_2.length : Int) > 12 then (impl_GroupOk.j0 k true l0_0 a0_1 l0_2 a0_3 a0_4) else (impl_GroupOk.j0 k (a0_3 == a0_4) l0_0 a0_1 l0_2 a0_3 a0_4))) else (impl_GroupOk.j0 k true l0_0 a0_1 l0_2 a0_3 a0_4))) = some r := by rw [if_pos rfl] at H; exact H
      clear H
      have H := H1
      clear H1
      replace H := Option.bind_eq_some_iff.mp H
      obtain ⟨t220, A60, H⟩ := H
      replace H : (if t220 = true then (if (l0_2.length : Int) < 1 then (impl_GroupOk.j0 k true l0_0 a0_1 l0_2 a0_3 a0_4) else (if (l0_2.length : Int) > 12 then (impl_GroupOk.j0 k true l0_0 a0_1 l0_2 a0_3 a0_4) else (impl_GroupOk.j0 k (a0_3 == a0_4) l0_0 a0_1 l0_2 a0_3 a0_4))) else (impl_GroupOk.j0 k true l0_0 a0_1 l0_2 a0_3 a0_4)) = some r := H
      have A6 := Aside0.mk A60
      clear A60
      by_cases c7 : t220 = true
      · subst c7
        have H1 : (if (l0_2.length : Int) < 1 then (impl_GroupOk.j0 k true l0_0 a0_1 l0_2 a0_3 a0_4) else (if (l0_2.length : Int) > 12 then (impl_GroupOk.j0 k true l0_0 a0_1 l0_2 a0_3 a0_4) else (impl_GroupOk.j0 k (a0_3 == a0_4) l0_0 a0_1 l0_2 a0_3 a0_4))) = some r := by rw [if_pos rfl] at H; exact H
        clear H
        have H := H1
        clear H1
        by_cases c8 : (l0_2.length : Int) < 1
        · rw [if_pos c8] at H
          have c8b0 : decide ((l0_2.length : Int) < 1) = true := decide_eq_true c8
          have c8b1 : decide (l0_2.length < 1) = true := decide_eq_true (by omega)
          clear c8
          (first | rw [c8b0] | (simp only [i64_w, i32_w]; rw [c8b0]) | skip)
          have H' := Aside0.mk H
          clear H
          have hcz9_0 : w3.cell? ⟨gb218, 0, none⟩ = some (.slice A0_0 l0_0.length c0_0) := (blk_cell BK218.out 0).trans rfl
          have hcz9_1 : w3.cell? ⟨gb218, 1, none⟩ = some (.int .i64 a0_1) := (blk_cell BK218.out 1).trans rfl
          have hcz9_2 : w3.cell? ⟨gb218, 2, none⟩ = some (.slice A0_2 l0_2.length c0_2) := (blk_cell BK218.out 2).trans rfl
          have hcz9_3 : w3.cell? ⟨gb218, 3, none⟩ = some (.int .i64 a0_3) := (blk_cell BK218.out 3).trans rfl
          have hcz9_4 : w3.cell? ⟨gb218, 4, none⟩ = some (.int .i64 a0_4) := (blk_cell BK218.out 4).trans rfl
          have hfz9_0 := blk_frozen BK218.out 0
          have hfz9_1 := blk_frozen BK218.out 1
          have hfz9_2 := blk_frozen BK218.out 2
          have hfz9_3 := blk_frozen BK218.out 3
          have hfz9_4 := blk_frozen BK218.out 4
          go_wp2_with (first | ((with_reducible refine gate_callee (f := 170) rfl ?_); refine goesL_ (some 12) rfl rfl Try.func170 (by kernel_rfl) rfl #[.slice A0_0 l0_0.length c0_0] rfl (by (try simp only [List.map_toArray, List.map_cons, List.map_nil]); first | done | rfl | (simp only [List.length_drop, List.length_take]; rfl)) ?_; (with_reducible refine (impl_ChartOk.calls k _ _ l0_0 true _ ?side1 ?side2 A4.out).mono ?_); (case side1 => repeat (first | exact (Kd.C_below HR0_0.out HB.out) | (with_reducible refine Kd.C_alloc ?_ _) | (with_reducible refine Kd.C_drewN ?_ _) | (with_reducible refine Kd.C_drew ?_))); (case side2 => exact HC0_0.out); rintro e w10 ⟨rfl, hb⟩; refine ⟨_, rfl, ?_⟩; have n0_ := Aside0.mk (blk_below (g := gb218) (o := .cells #[.slice A0_0 l0_0.length c0_0, .int .i64 a0_1, .slice A0_2 l0_2.length c0_2, .int .i64 a0_3, .int .i64 a0_4] 107 (0, 0)) (by (with_reducible repeat (first | refine blk_drewN ?_ _ | refine blk_drew ?_ | refine blk_alloc ?_ _)); exact BK218.out) hb); have n1_ := Aside0.mk (below_step (by repeat (first | (with_reducible first | exact HB.out | apply below_alloc | apply pw_below_drewN | apply below_drew1 | refine below_set ?_ GE218.out) | exact HB.out)) hb); clear BK218; clear HB; have BK218 := n0_; have HB := n1_; clear n0_ n1_; (try clear hb); (try clear hb2); (try clear hk); (try clear hi); have hcz11_0 : w10.cell? ⟨gb218, 0, none⟩ = some (.slice A0_0 l0_0.length c0_0) := (blk_cell BK218.out 0).trans rfl; have hcz11_1 : w10.cell? ⟨gb218, 1, none⟩ = some (.int .i64 a0_1) := (blk_cell BK218.out 1).trans rfl; have hcz11_2 : w10.cell? ⟨gb218, 2, none⟩ = some (.slice A0_2 l0_2.length c0_2) := (blk_cell BK218.out 2).trans rfl; have hcz11_3 : w10.cell? ⟨gb218, 3, none⟩ = some (.int .i64 a0_3) := (blk_cell BK218.out 3).trans rfl; have hcz11_4 : w10.cell? ⟨gb218, 4, none⟩ = some (.int .i64 a0_4) := (blk_cell BK218.out 4).trans rfl; have hfz11_0 := blk_frozen BK218.out 0; have hfz11_1 := blk_frozen BK218.out 1; have hfz11_2 := blk_frozen BK218.out 2; have hfz11_3 := blk_frozen BK218.out 3; have hfz11_4 := blk_frozen BK218.out 4) | (go_at_call 112; (with_reducible refine (impl_between.calls a0_1 1 20 true _ A6.out).mono ?_); rintro e w' ⟨rfl, ⟨nd, rfl⟩⟩))
          go_meet
          case rel => exact ⟨_, (true), (by first | rfl | (simp; done) | (simp [*]; done)), H', ⟨by first | omega | exact Nat.le_refl _⟩, ⟨by (with_reducible repeat (first | refine blk_drewN ?_ _ | refine blk_drew ?_ | refine blk_alloc ?_ _)); exact BK218.out⟩, ⟨by repeat (first | (with_reducible first | exact HB.out | apply below_alloc | apply pw_below_drewN | apply below_drew1 | refine below_set ?_ GE218.out) | exact HB.out)⟩⟩
        · rw [if_neg c8] at H
          have c8b0 : decide ((l0_2.length : Int) < 1) = false := decide_eq_false c8
          have c8b1 : decide (l0_2.length < 1) = false := decide_eq_false (by omega)
          clear c8
          (first | rw [c8b0] | (simp only [i64_w, i32_w]; rw [c8b0]) | skip)
          by_cases c12 : (l0_2.length : Int) > 12
          · rw [if_pos c12] at H
            have c12b0 : decide (12 < (l0_2.length : Int)) = true := decide_eq_true c12
            have c12b1 : decide (12 < l0_2.length) = true := decide_eq_true (by omega)
            clear c12
            have H' := Aside0.mk H
            clear H
            have hcz13_0 : w3.cell? ⟨gb218, 0, none⟩ = some (.slice A0_0 l0_0.length c0_0) := (blk_cell BK218.out 0).trans rfl
            have hcz13_1 : w3.cell? ⟨gb218, 1, none⟩ = some (.int .i64 a0_1) := (blk_cell BK218.out 1).trans rfl
            have hcz13_2 : w3.cell? ⟨gb218, 2, none⟩ = some (.slice A0_2 l0_2.length c0_2) := (blk_cell BK218.out 2).trans rfl
            have hcz13_3 : w3.cell? ⟨gb218, 3, none⟩ = some (.int .i64 a0_3) := (blk_cell BK218.out 3).trans rfl
            have hcz13_4 : w3.cell? ⟨gb218, 4, none⟩ = some (.int .i64 a0_4) := (blk_cell BK218.out 4).trans rfl
            have hfz13_0 := blk_frozen BK218.out 0
            have hfz13_1 := blk_frozen BK218.out 1
            have hfz13_2 := blk_frozen BK218.out 2
            have hfz13_3 := blk_frozen BK218.out 3
            have hfz13_4 := blk_frozen BK218.out 4
            go_wp2_with (first | ((with_reducible refine gate_callee (f := 170) rfl ?_); refine goesL_ (some 12) rfl rfl Try.func170 (by kernel_rfl) rfl #[.slice A0_0 l0_0.length c0_0] rfl (by (try simp only [List.map_toArray, List.map_cons, List.map_nil]); first | done | rfl | (simp only [List.length_drop, List.length_take]; rfl)) ?_; (with_reducible refine (impl_ChartOk.calls k _ _ l0_0 true _ ?side1 ?side2 A4.out).mono ?_); (case side1 => repeat (first | exact (Kd.C_below HR0_0.out HB.out) | (with_reducible refine Kd.C_alloc ?_ _) | (with_reducible refine Kd.C_drewN ?_ _) | (with_reducible refine Kd.C_drew ?_))); (case side2 => exact HC0_0.out); rintro e w14 ⟨rfl, hb⟩; refine ⟨_, rfl, ?_⟩; have n0_ := Aside0.mk (blk_below (g := gb218) (o := .cells #[.slice A0_0 l0_0.length c0_0, .int .i64 a0_1, .slice A0_2 l0_2.length c0_2, .int .i64 a0_3, .int .i64 a0_4] 107 (0, 0)) (by (with_reducible repeat (first | refine blk_drewN ?_ _ | refine blk_drew ?_ | refine blk_alloc ?_ _)); exact BK218.out) hb); have n1_ := Aside0.mk (below_step (by repeat (first | (with_reducible first | exact HB.out | apply below_alloc | apply pw_below_drewN | apply below_drew1 | refine below_set ?_ GE218.out) | exact HB.out)) hb); clear BK218; clear HB; have BK218 := n0_; have HB := n1_; clear n0_ n1_; (try clear hb); (try clear hb2); (try clear hk); (try clear hi); have hcz15_0 : w14.cell? ⟨gb218, 0, none⟩ = some (.slice A0_0 l0_0.length c0_0) := (blk_cell BK218.out 0).trans rfl; have hcz15_1 : w14.cell? ⟨gb218, 1, none⟩ = some (.int .i64 a0_1) := (blk_cell BK218.out 1).trans rfl; have hcz15_2 : w14.cell? ⟨gb218, 2, none⟩ = some (.slice A0_2 l0_2.length c0_2) := (blk_cell BK218.out 2).trans rfl; have hcz15_3 : w14.cell? ⟨gb218, 3, none⟩ = some (.int .i64 a0_3) := (blk_cell BK218.out 3).trans rfl; have hcz15_4 : w14.cell? ⟨gb218, 4, none⟩ = some (.int .i64 a0_4) := (blk_cell BK218.out 4).trans rfl; have hfz15_0 := blk_frozen BK218.out 0; have hfz15_1 := blk_frozen BK218.out 1; have hfz15_2 := blk_frozen BK218.out 2; have hfz15_3 := blk_frozen BK218.out 3; have hfz15_4 := blk_frozen BK218.out 4) | (go_at_call 112; (with_reducible refine (impl_between.calls a0_1 1 20 true _ A6.out).mono ?_); rintro e w' ⟨rfl, ⟨nd, rfl⟩⟩))
            go_meet
            case rel => exact ⟨_, (true), (by first | rfl | (simp; done) | (simp [*]; done)), H', ⟨by first | omega | exact Nat.le_refl _⟩, ⟨by (with_reducible repeat (first | refine blk_drewN ?_ _ | refine blk_drew ?_ | refine blk_alloc ?_ _)); exact BK218.out⟩, ⟨by repeat (first | (with_reducible first | exact HB.out | apply below_alloc | apply pw_below_drewN | apply below_drew1 | refine below_set ?_ GE218.out) | exact HB.out)⟩⟩
          · rw [if_neg c12] at H
            have c12b0 : decide (12 < (l0_2.length : Int)) = false := decide_eq_false c12
            have c12b1 : decide (12 < l0_2.length) = false := decide_eq_false (by omega)
            clear c12
            have H' := Aside0.mk H
            clear H
            have hcz16_0 : w3.cell? ⟨gb218, 0, none⟩ = some (.slice A0_0 l0_0.length c0_0) := (blk_cell BK218.out 0).trans rfl
            have hcz16_1 : w3.cell? ⟨gb218, 1, none⟩ = some (.int .i64 a0_1) := (blk_cell BK218.out 1).trans rfl
            have hcz16_2 : w3.cell? ⟨gb218, 2, none⟩ = some (.slice A0_2 l0_2.length c0_2) := (blk_cell BK218.out 2).trans rfl
            have hcz16_3 : w3.cell? ⟨gb218, 3, none⟩ = some (.int .i64 a0_3) := (blk_cell BK218.out 3).trans rfl
            have hcz16_4 : w3.cell? ⟨gb218, 4, none⟩ = some (.int .i64 a0_4) := (blk_cell BK218.out 4).trans rfl
            have hfz16_0 := blk_frozen BK218.out 0
            have hfz16_1 := blk_frozen BK218.out 1
            have hfz16_2 := blk_frozen BK218.out 2
            have hfz16_3 := blk_frozen BK218.out 3
            have hfz16_4 := blk_frozen BK218.out 4
            go_wp2_with (first | ((with_reducible refine gate_callee (f := 170) rfl ?_); refine goesL_ (some 12) rfl rfl Try.func170 (by kernel_rfl) rfl #[.slice A0_0 l0_0.length c0_0] rfl (by (try simp only [List.map_toArray, List.map_cons, List.map_nil]); first | done | rfl | (simp only [List.length_drop, List.length_take]; rfl)) ?_; (with_reducible refine (impl_ChartOk.calls k _ _ l0_0 true _ ?side1 ?side2 A4.out).mono ?_); (case side1 => repeat (first | exact (Kd.C_below HR0_0.out HB.out) | (with_reducible refine Kd.C_alloc ?_ _) | (with_reducible refine Kd.C_drewN ?_ _) | (with_reducible refine Kd.C_drew ?_))); (case side2 => exact HC0_0.out); rintro e w17 ⟨rfl, hb⟩; refine ⟨_, rfl, ?_⟩; have n0_ := Aside0.mk (blk_below (g := gb218) (o := .cells #[.slice A0_0 l0_0.length c0_0, .int .i64 a0_1, .slice A0_2 l0_2.length c0_2, .int .i64 a0_3, .int .i64 a0_4] 107 (0, 0)) (by (with_reducible repeat (first | refine blk_drewN ?_ _ | refine blk_drew ?_ | refine blk_alloc ?_ _)); exact BK218.out) hb); have n1_ := Aside0.mk (below_step (by repeat (first | (with_reducible first | exact HB.out | apply below_alloc | apply pw_below_drewN | apply below_drew1 | refine below_set ?_ GE218.out) | exact HB.out)) hb); clear BK218; clear HB; have BK218 := n0_; have HB := n1_; clear n0_ n1_; (try clear hb); (try clear hb2); (try clear hk); (try clear hi); have hcz18_0 : w17.cell? ⟨gb218, 0, none⟩ = some (.slice A0_0 l0_0.length c0_0) := (blk_cell BK218.out 0).trans rfl; have hcz18_1 : w17.cell? ⟨gb218, 1, none⟩ = some (.int .i64 a0_1) := (blk_cell BK218.out 1).trans rfl; have hcz18_2 : w17.cell? ⟨gb218, 2, none⟩ = some (.slice A0_2 l0_2.length c0_2) := (blk_cell BK218.out 2).trans rfl; have hcz18_3 : w17.cell? ⟨gb218, 3, none⟩ = some (.int .i64 a0_3) := (blk_cell BK218.out 3).trans rfl; have hcz18_4 : w17.cell? ⟨gb218, 4, none⟩ = some (.int .i64 a0_4) := (blk_cell BK218.out 4).trans rfl; have hfz18_0 := blk_frozen BK218.out 0; have hfz18_1 := blk_frozen BK218.out 1; have hfz18_2 := blk_frozen BK218.out 2; have hfz18_3 := blk_frozen BK218.out 3; have hfz18_4 := blk_frozen BK218.out 4) | (go_at_call 112; (with_reducible refine (impl_between.calls a0_1 1 20 true _ A6.out).mono ?_); rintro e w' ⟨rfl, ⟨nd, rfl⟩⟩))
            go_meet
            case rel => exact ⟨_, ((a0_3 == a0_4)), (by first | rfl | (simp; done) | (simp [*]; done)), H', ⟨by first | omega | exact Nat.le_refl _⟩, ⟨by (with_reducible repeat (first | refine blk_drewN ?_ _ | refine blk_drew ?_ | refine blk_alloc ?_ _)); exact BK218.out⟩, ⟨by repeat (first | (with_reducible first | exact HB.out | apply below_alloc | apply pw_below_drewN | apply below_drew1 | refine below_set ?_ GE218.out) | exact HB.out)⟩⟩
      · replace c7 := Bool.eq_false_iff.mpr c7
        subst c7
        have H1 : (impl_GroupOk.j0 k true l0_0 a0_1 l0_2 a0_3 a0_4) = some r := by rw [if_neg (show ¬ (false = true) by decide)] at H; exact H
        clear H
        have H := H1
        clear H1
        have H' := Aside0.mk H
        clear H
        have hcz19_0 : w3.cell? ⟨gb218, 0, none⟩ = some (.slice A0_0 l0_0.length c0_0) := (blk_cell BK218.out 0).trans rfl
        have hcz19_1 : w3.cell? ⟨gb218, 1, none⟩ = some (.int .i64 a0_1) := (blk_cell BK218.out 1).trans rfl
        have hcz19_2 : w3.cell? ⟨gb218, 2, none⟩ = some (.slice A0_2 l0_2.length c0_2) := (blk_cell BK218.out 2).trans rfl
        have hcz19_3 : w3.cell? ⟨gb218, 3, none⟩ = some (.int .i64 a0_3) := (blk_cell BK218.out 3).trans rfl
        have hcz19_4 : w3.cell? ⟨gb218, 4, none⟩ = some (.int .i64 a0_4) := (blk_cell BK218.out 4).trans rfl
        have hfz19_0 := blk_frozen BK218.out 0
        have hfz19_1 := blk_frozen BK218.out 1
        have hfz19_2 := blk_frozen BK218.out 2
        have hfz19_3 := blk_frozen BK218.out 3
        have hfz19_4 := blk_frozen BK218.out 4
        go_wp2_with (first | ((with_reducible refine gate_callee (f := 170) rfl ?_); refine goesL_ (some 12) rfl rfl Try.func170 (by kernel_rfl) rfl #[.slice A0_0 l0_0.length c0_0] rfl (by (try simp only [List.map_toArray, List.map_cons, List.map_nil]); first | done | rfl | (simp only [List.length_drop, List.length_take]; rfl)) ?_; (with_reducible refine (impl_ChartOk.calls k _ _ l0_0 true _ ?side1 ?side2 A4.out).mono ?_); (case side1 => repeat (first | exact (Kd.C_below HR0_0.out HB.out) | (with_reducible refine Kd.C_alloc ?_ _) | (with_reducible refine Kd.C_drewN ?_ _) | (with_reducible refine Kd.C_drew ?_))); (case side2 => exact HC0_0.out); rintro e w20 ⟨rfl, hb⟩; refine ⟨_, rfl, ?_⟩; have n0_ := Aside0.mk (blk_below (g := gb218) (o := .cells #[.slice A0_0 l0_0.length c0_0, .int .i64 a0_1, .slice A0_2 l0_2.length c0_2, .int .i64 a0_3, .int .i64 a0_4] 107 (0, 0)) (by (with_reducible repeat (first | refine blk_drewN ?_ _ | refine blk_drew ?_ | refine blk_alloc ?_ _)); exact BK218.out) hb); have n1_ := Aside0.mk (below_step (by repeat (first | (with_reducible first | exact HB.out | apply below_alloc | apply pw_below_drewN | apply below_drew1 | refine below_set ?_ GE218.out) | exact HB.out)) hb); clear BK218; clear HB; have BK218 := n0_; have HB := n1_; clear n0_ n1_; (try clear hb); (try clear hb2); (try clear hk); (try clear hi); have hcz21_0 : w20.cell? ⟨gb218, 0, none⟩ = some (.slice A0_0 l0_0.length c0_0) := (blk_cell BK218.out 0).trans rfl; have hcz21_1 : w20.cell? ⟨gb218, 1, none⟩ = some (.int .i64 a0_1) := (blk_cell BK218.out 1).trans rfl; have hcz21_2 : w20.cell? ⟨gb218, 2, none⟩ = some (.slice A0_2 l0_2.length c0_2) := (blk_cell BK218.out 2).trans rfl; have hcz21_3 : w20.cell? ⟨gb218, 3, none⟩ = some (.int .i64 a0_3) := (blk_cell BK218.out 3).trans rfl; have hcz21_4 : w20.cell? ⟨gb218, 4, none⟩ = some (.int .i64 a0_4) := (blk_cell BK218.out 4).trans rfl; have hfz21_0 := blk_frozen BK218.out 0; have hfz21_1 := blk_frozen BK218.out 1; have hfz21_2 := blk_frozen BK218.out 2; have hfz21_3 := blk_frozen BK218.out 3; have hfz21_4 := blk_frozen BK218.out 4) | (go_at_call 112; (with_reducible refine (impl_between.calls a0_1 1 20 false _ A6.out).mono ?_); rintro e w' ⟨rfl, ⟨nd, rfl⟩⟩))
        go_meet
        case rel => exact ⟨_, (true), (by first | rfl | (simp; done) | (simp [*]; done)), H', ⟨by first | omega | exact Nat.le_refl _⟩, ⟨by (with_reducible repeat (first | refine blk_drewN ?_ _ | refine blk_drew ?_ | refine blk_alloc ?_ _)); exact BK218.out⟩, ⟨by repeat (first | (with_reducible first | exact HB.out | apply below_alloc | apply pw_below_drewN | apply below_drew1 | refine below_set ?_ GE218.out) | exact HB.out)⟩⟩
    · replace c5 := Bool.eq_false_iff.mpr c5
      subst c5
      have H1 : (impl_GroupOk.j0 k true l0_0 a0_1 l0_2 a0_3 a0_4) = some r := by rw [if_neg (show ¬ (false = true) by decide)] at H; exact H
      clear H
      have H := H1
      clear H1
      have H' := Aside0.mk H
      clear H
      have hcz22_0 : w3.cell? ⟨gb218, 0, none⟩ = some (.slice A0_0 l0_0.length c0_0) := (blk_cell BK218.out 0).trans rfl
      have hcz22_1 : w3.cell? ⟨gb218, 1, none⟩ = some (.int .i64 a0_1) := (blk_cell BK218.out 1).trans rfl
      have hcz22_2 : w3.cell? ⟨gb218, 2, none⟩ = some (.slice A0_2 l0_2.length c0_2) := (blk_cell BK218.out 2).trans rfl
      have hcz22_3 : w3.cell? ⟨gb218, 3, none⟩ = some (.int .i64 a0_3) := (blk_cell BK218.out 3).trans rfl
      have hcz22_4 : w3.cell? ⟨gb218, 4, none⟩ = some (.int .i64 a0_4) := (blk_cell BK218.out 4).trans rfl
      have hfz22_0 := blk_frozen BK218.out 0
      have hfz22_1 := blk_frozen BK218.out 1
      have hfz22_2 := blk_frozen BK218.out 2
      have hfz22_3 := blk_frozen BK218.out 3
      have hfz22_4 := blk_frozen BK218.out 4
      go_wp2_with (first | ((with_reducible refine gate_callee (f := 170) rfl ?_); refine goesL_ (some 12) rfl rfl Try.func170 (by kernel_rfl) rfl #[.slice A0_0 l0_0.length c0_0] rfl (by (try simp only [List.map_toArray, List.map_cons, List.map_nil]); first | done | rfl | (simp only [List.length_drop, List.length_take]; rfl)) ?_; (with_reducible refine (impl_ChartOk.calls k _ _ l0_0 false _ ?side1 ?side2 A4.out).mono ?_); (case side1 => repeat (first | exact (Kd.C_below HR0_0.out HB.out) | (with_reducible refine Kd.C_alloc ?_ _) | (with_reducible refine Kd.C_drewN ?_ _) | (with_reducible refine Kd.C_drew ?_))); (case side2 => exact HC0_0.out); rintro e w23 ⟨rfl, hb⟩; refine ⟨_, rfl, ?_⟩; have n0_ := Aside0.mk (blk_below (g := gb218) (o := .cells #[.slice A0_0 l0_0.length c0_0, .int .i64 a0_1, .slice A0_2 l0_2.length c0_2, .int .i64 a0_3, .int .i64 a0_4] 107 (0, 0)) (by (with_reducible repeat (first | refine blk_drewN ?_ _ | refine blk_drew ?_ | refine blk_alloc ?_ _)); exact BK218.out) hb); have n1_ := Aside0.mk (below_step (by repeat (first | (with_reducible first | exact HB.out | apply below_alloc | apply pw_below_drewN | apply below_drew1 | refine below_set ?_ GE218.out) | exact HB.out)) hb); clear BK218; clear HB; have BK218 := n0_; have HB := n1_; clear n0_ n1_; (try clear hb); (try clear hb2); (try clear hk); (try clear hi)))
      go_meet
      case rel => exact ⟨_, (true), (by first | rfl | (simp; done) | (simp [*]; done)), H', ⟨by first | omega | exact Nat.le_refl _⟩, ⟨by (with_reducible repeat (first | refine blk_drewN ?_ _ | refine blk_drew ?_ | refine blk_alloc ?_ _)); exact BK218.out⟩, ⟨by repeat (first | (with_reducible first | exact HB.out | apply below_alloc | apply pw_below_drewN | apply below_drew1 | refine below_set ?_ GE218.out) | exact HB.out)⟩⟩
  case rest =>
    clear HC2
    try clear c1
    try clear p2
    try clear c5
    try clear c6
    try clear c7
    try clear c8
    try clear c8b0
    try clear c8b1
    try clear c12
    try clear c12b0
    try clear c12b1
    try clear c17
    try clear hcz11_0
    try clear hcz11_1
    try clear hcz11_2
    try clear hcz11_3
    try clear hcz11_4
    try clear hcz13_0
    try clear hcz13_1
    try clear hcz13_2
    try clear hcz13_3
    try clear hcz13_4
    try clear hcz15_0
    try clear hcz15_1
    try clear hcz15_2
    try clear hcz15_3
    try clear hcz15_4
    try clear hcz16_0
    try clear hcz16_1
    try clear hcz16_2
    try clear hcz16_3
    try clear hcz16_4
    try clear hcz18_0
    try clear hcz18_1
    try clear hcz18_2
    try clear hcz18_3
    try clear hcz18_4
    try clear hcz19_0
    try clear hcz19_1
    try clear hcz19_2
    try clear hcz19_3
    try clear hcz19_4
    try clear hcz21_0
    try clear hcz21_1
    try clear hcz21_2
    try clear hcz21_3
    try clear hcz21_4
    try clear hcz22_0
    try clear hcz22_1
    try clear hcz22_2
    try clear hcz22_3
    try clear hcz22_4
    try clear hcz9_0
    try clear hcz9_1
    try clear hcz9_2
    try clear hcz9_3
    try clear hcz9_4
    try clear hfz11_0
    try clear hfz11_1
    try clear hfz11_2
    try clear hfz11_3
    try clear hfz11_4
    try clear hfz13_0
    try clear hfz13_1
    try clear hfz13_2
    try clear hfz13_3
    try clear hfz13_4
    try clear hfz15_0
    try clear hfz15_1
    try clear hfz15_2
    try clear hfz15_3
    try clear hfz15_4
    try clear hfz16_0
    try clear hfz16_1
    try clear hfz16_2
    try clear hfz16_3
    try clear hfz16_4
    try clear hfz18_0
    try clear hfz18_1
    try clear hfz18_2
    try clear hfz18_3
    try clear hfz18_4
    try clear hfz19_0
    try clear hfz19_1
    try clear hfz19_2
    try clear hfz19_3
    try clear hfz19_4
    try clear hfz21_0
    try clear hfz21_1
    try clear hfz21_2
    try clear hfz21_3
    try clear hfz21_4
    try clear hfz22_0
    try clear hfz22_1
    try clear hfz22_2
    try clear hfz22_3
    try clear hfz22_4
    try clear hfz9_0
    try clear hfz9_1
    try clear hfz9_2
    try clear hfz9_3
    try clear hfz9_4
    obtain ⟨kq, x38_1, rfl, HA, HJ1, BK218, HB⟩ := hcut
    cases kq with
    | zero => exact absurd HA.out (by simp [impl_GroupOk.j0])
    | succ kj1 =>
      have H := HA.out
      clear HA
      simp only [impl_GroupOk.j0] at H
      by_cases c24 : x38_1 = true
      · subst c24
        have H1 : (some false) = some r := by rw [if_pos rfl] at H; exact H
        clear H
        have H := H1
        clear H1
        obtain rfl := Option.some.inj H
        go_wp2
        go_ret
        exact ⟨by first | rfl | (simp [errW_none, errW_some] <;> rfl) | (simp [*, errW_none, errW_some] <;> rfl), by repeat (first | (with_reducible first | exact HB.out | apply below_alloc | apply pw_below_drewN | apply below_drew1 | refine below_set ?_ GE218.out) | exact HB.out)⟩
      · replace c24 := Bool.eq_false_iff.mpr c24
        subst c24
        have H1 : ((some (([a0_3, a0_4] : List Int) : List Int)).bind fun y221 => (impl_GroupOk.l0 kj1 y221 (y221.length : Int) 0 l0_0 a0_1 l0_2 a0_3 a0_4)) = some r := by rw [if_neg (show ¬ (false = true) by decide)] at H; exact H
        clear H
        have H := H1
        clear H1
        obtain ⟨y221, hy221⟩ : ∃ y_ : List Int, y_ = (([a0_3, a0_4] : List Int)) := ⟨_, rfl⟩
        replace H : (impl_GroupOk.l0 kj1 y221 (y221.length : Int) 0 l0_0 a0_1 l0_2 a0_3 a0_4) = some r := by first | (rw [hy221]; with_reducible exact H) | (have H2_ := (Option.bind_some _ _).symm.trans H; rw [hy221]; with_reducible exact H2_) | (have H2_ := (Option.bind_some _ _).symm.trans H; with_reducible exact H2_) | with_reducible exact H | (rw [hy221]; exact H) | exact H
        have Ny221 := Aside0.mk hy221
        clear hy221
        have H' := Aside0.mk H
        clear H
        have hcz25_0 : wc.cell? ⟨gb218, 0, none⟩ = some (.slice A0_0 l0_0.length c0_0) := (blk_cell BK218.out 0).trans rfl
        have hcz25_1 : wc.cell? ⟨gb218, 1, none⟩ = some (.int .i64 a0_1) := (blk_cell BK218.out 1).trans rfl
        have hcz25_2 : wc.cell? ⟨gb218, 2, none⟩ = some (.slice A0_2 l0_2.length c0_2) := (blk_cell BK218.out 2).trans rfl
        have hcz25_3 : wc.cell? ⟨gb218, 3, none⟩ = some (.int .i64 a0_3) := (blk_cell BK218.out 3).trans rfl
        have hcz25_4 : wc.cell? ⟨gb218, 4, none⟩ = some (.int .i64 a0_4) := (blk_cell BK218.out 4).trans rfl
        have hfz25_0 := blk_frozen BK218.out 0
        have hfz25_1 := blk_frozen BK218.out 1
        have hfz25_2 := blk_frozen BK218.out 2
        have hfz25_3 := blk_frozen BK218.out 3
        have hfz25_4 := blk_frozen BK218.out 4
        go_wp2_with (first | ((with_reducible refine gate_dst (N := 43) rfl ?_); (try (refine gate_guard (by rfl) ?_; dsimp only)); refine Kd.R_lit (Kd.int .i64) _ 3 ?hg (N := 43) ?hd (xs := ([a0_3, a0_4] : List Int)) (inner := [.int .i64 a0_3, .int .i64 a0_4]) (ok := fun _ => True) (okp := fun _ => True) ?hr ?hp (fun _ hk => hk) trivial (Below.refl _ _) (Nat.le_refl _) (by simp) ?_; (case hd => rfl); (case hg => rfl); (case hr => first | (go_simp; done) | (go_simp; rfl)); (case hp => exact (Reps.one (show Kd.M (Kd.int .i64) _ _ _ a0_3 [.int .i64 a0_3] from rfl) (Reps.one (show Kd.M (Kd.int .i64) _ _ _ a0_4 [.int .i64 a0_4] from rfl) (Reps.none _ _)))); intro v222 w26 ho27 hb hg_ hnew_; clear hg_ hnew_; (first | rw [← Ny221.out] at ho27 | (simp only [Int.reduceToNat] at ho27; rw [← Ny221.out] at ho27)); have n0_ := Aside0.mk (Kd.R_lower ho27 (below_size (by repeat (first | (with_reducible first | exact HB.out | apply below_alloc | apply pw_below_drewN | apply below_drew1 | refine below_set ?_ GE218.out) | exact HB.out)))); have n1_ := Aside0.mk (blk_below (g := gb218) (o := .cells #[.slice A0_0 l0_0.length c0_0, .int .i64 a0_1, .slice A0_2 l0_2.length c0_2, .int .i64 a0_3, .int .i64 a0_4] 107 (0, 0)) (by (with_reducible repeat (first | refine blk_drewN ?_ _ | refine blk_drew ?_ | refine blk_alloc ?_ _)); exact BK218.out) hb); have n2_ := Aside0.mk (below_step (by repeat (first | (with_reducible first | exact HB.out | apply below_alloc | apply pw_below_drewN | apply below_drew1 | refine below_set ?_ GE218.out) | exact HB.out)) hb); clear BK218; clear HB; have HO223 := n0_; have BK218 := n1_; have HB := n2_; clear n0_ n1_ n2_; clear hb ho27; obtain ⟨Ao28, co28, eo28⟩ := Kd.R_slice HO223.out; subst eo28))
        go_loopg [45] kj1 (fun kq v45 w' => ∃ (x45_2 : Int), v45 = .int .i64 x45_2 ∧ Aside0 (impl_GroupOk.l0 kq y221 (y221.length : Int) x45_2 l0_0 a0_1 l0_2 a0_3 a0_4 = some r) ∧ Aside0 (kq ≤ kj1) ∧ Aside0 (Kd.R (Kd.int .i64) 3 w' w.heap.size (fun _ => True) (.slice Ao28 y221.length co28) y221) ∧ Aside0 (w'.heap[gb218]? = some (.cells #[(.slice A0_0 l0_0.length c0_0), .int .i64 a0_1, (.slice A0_2 l0_2.length c0_2), .int .i64 a0_3, .int .i64 a0_4] 107 (0, 0))) ∧ Aside0 (Below w.heap.size w w'))
        case atStart => exact ⟨(0), (by first | rfl | (simp; done) | (simp [*]; done)), H', ⟨Nat.le_refl _⟩, ⟨by (with_reducible repeat (first | apply Kd.R_alloc | apply Kd.R_drewN | apply Kd.R_drew)); exact HO223.out⟩, ⟨by (with_reducible repeat (first | refine blk_drewN ?_ _ | refine blk_drew ?_ | refine blk_alloc ?_ _)); exact BK218.out⟩, ⟨by repeat (first | (with_reducible first | exact HB.out | apply below_alloc | apply pw_below_drewN | apply below_drew1 | refine below_set ?_ GE218.out) | exact HB.out)⟩⟩
        case round =>
          clear H'
          try clear c1
          try clear c2
          try clear p2
          try clear c5
          try clear c6
          try clear c7
          try clear c8
          try clear c8b0
          try clear c8b1
          try clear c12
          try clear c12b0
          try clear c12b1
          try clear c17
          try clear c24
          try clear hcz11_0
          try clear hcz11_1
          try clear hcz11_2
          try clear hcz11_3
          try clear hcz11_4
          try clear hcz13_0
          try clear hcz13_1
          try clear hcz13_2
          try clear hcz13_3
          try clear hcz13_4
          try clear hcz15_0
          try clear hcz15_1
          try clear hcz15_2
          try clear hcz15_3
          try clear hcz15_4
          try clear hcz16_0
          try clear hcz16_1
          try clear hcz16_2
          try clear hcz16_3
          try clear hcz16_4
          try clear hcz18_0
          try clear hcz18_1
          try clear hcz18_2
          try clear hcz18_3
          try clear hcz18_4
          try clear hcz19_0
          try clear hcz19_1
          try clear hcz19_2
          try clear hcz19_3
          try clear hcz19_4
          try clear hcz21_0
          try clear hcz21_1
          try clear hcz21_2
          try clear hcz21_3
          try clear hcz21_4
          try clear hcz22_0
          try clear hcz22_1
          try clear hcz22_2
          try clear hcz22_3
          try clear hcz22_4
          try clear hcz25_0
          try clear hcz25_1
          try clear hcz25_2
          try clear hcz25_3
          try clear hcz25_4
          try clear hcz9_0
          try clear hcz9_1
          try clear hcz9_2
          try clear hcz9_3
          try clear hcz9_4
          try clear hfz11_0
          try clear hfz11_1
          try clear hfz11_2
          try clear hfz11_3
          try clear hfz11_4
          try clear hfz13_0
          try clear hfz13_1
          try clear hfz13_2
          try clear hfz13_3
          try clear hfz13_4
          try clear hfz15_0
          try clear hfz15_1
          try clear hfz15_2
          try clear hfz15_3
          try clear hfz15_4
          try clear hfz16_0
          try clear hfz16_1
          try clear hfz16_2
          try clear hfz16_3
          try clear hfz16_4
          try clear hfz18_0
          try clear hfz18_1
          try clear hfz18_2
          try clear hfz18_3
          try clear hfz18_4
          try clear hfz19_0
          try clear hfz19_1
          try clear hfz19_2
          try clear hfz19_3
          try clear hfz19_4
          try clear hfz21_0
          try clear hfz21_1
          try clear hfz21_2
          try clear hfz21_3
          try clear hfz21_4
          try clear hfz22_0
          try clear hfz22_1
          try clear hfz22_2
          try clear hfz22_3
          try clear hfz22_4
          try clear hfz25_0
          try clear hfz25_1
          try clear hfz25_2
          try clear hfz25_3
          try clear hfz25_4
          try clear hfz9_0
          try clear hfz9_1
          try clear hfz9_2
          try clear hfz9_3
          try clear hfz9_4
          try clear p2
          obtain ⟨x45_2, rfl, HA, HK2, HO_43, BK218, HB⟩ := hrel
          cases gk with
          | zero => exact absurd HA.out (by simp [impl_GroupOk.l0])
          | succ k2 =>
            have H := HA.out
            clear HA
            simp only [impl_GroupOk.l0] at H
            by_cases c29 : x45_2 < (y221.length : Int)
            · rw [if_pos c29] at H
              have c29b0 : decide (x45_2 < (y221.length : Int)) = true := decide_eq_true c29
              clear c29
              by_cases c30 : 0 ≤ x45_2
              · rw [if_pos c30] at H
                have c30b0 : decide (0 ≤ x45_2) = true := decide_eq_true c30
                clear c30
                by_cases c31 : x45_2 < (y221.length : Int)
                · rw [if_pos c31] at H
                  have c31b0 : decide (x45_2 < (y221.length : Int)) = true := decide_eq_true c31
                  clear c31
                  replace H := Option.bind_eq_some_iff.mp H
                  obtain ⟨t225, A320, H⟩ := H
                  replace H : (if t225 = true then (if 0 ≤ (rd y221 x45_2) then (if (rd y221 x45_2) < (l0_0.length : Int) then (if ((rd_T251 l0_0 (rd y221 x45_2)).f2) = 3 then (impl_GroupOk.l0 k2 y221 (y221.length : Int) (wrap64 (x45_2 + 1)) l0_0 a0_1 l0_2 a0_3 a0_4) else (some false)) else (none)) else (none)) else (some false)) = some r := H
                  have A32 := Aside0.mk A320
                  clear A320
                  by_cases c33 : t225 = true
                  · subst c33
                    have H1 : (if 0 ≤ (rd y221 x45_2) then (if (rd y221 x45_2) < (l0_0.length : Int) then (if ((rd_T251 l0_0 (rd y221 x45_2)).f2) = 3 then (impl_GroupOk.l0 k2 y221 (y221.length : Int) (wrap64 (x45_2 + 1)) l0_0 a0_1 l0_2 a0_3 a0_4) else (some false)) else (none)) else (none)) = some r := by rw [if_pos rfl] at H; exact H
                    clear H
                    have H := H1
                    clear H1
                    by_cases c34 : 0 ≤ (rd y221 x45_2)
                    · rw [if_pos c34] at H
                      have c34b0 : decide (0 ≤ (rd y221 x45_2)) = true := decide_eq_true c34
                      clear c34
                      by_cases c35 : (rd y221 x45_2) < (l0_0.length : Int)
                      · rw [if_pos c35] at H
                        have c35b0 : decide ((rd y221 x45_2) < (l0_0.length : Int)) = true := decide_eq_true c35
                        clear c35
                        by_cases c36 : ((rd_T251 l0_0 (rd y221 x45_2)).f2) = 3
                        · rw [if_pos c36] at H
                          have c36b0 : (((rd_T251 l0_0 (rd y221 x45_2)).f2) == 3) = true := beq_iff_eq.mpr c36
                          have c36b1 : (((rd_T251 l0_0 (rd y221 x45_2)).f2) != 3) = false := bne_eq_false_iff_eq.mpr c36
                          clear c36
                          have H' := Aside0.mk H
                          clear H
                          have p224 : 0 ≤ (x45_2 : Int) := of_decide_eq_true (by first | (with_reducible assumption) | assumption)
                          have q224 : x45_2 < (y221.length : Int) := of_decide_eq_true (by first | (with_reducible assumption) | assumption)
                          obtain ⟨ad224, e224, hx224_0⟩ := Kd.at_int (Kd.R_reads' HO_43.out).2.2 x45_2 p224 q224
                          cases e224
                          replace p224 := eq_true p224
                          replace q224 := eq_true q224
                          have hcz37_0 : wr.cell? ⟨gb218, 0, none⟩ = some (.slice A0_0 l0_0.length c0_0) := (blk_cell BK218.out 0).trans rfl
                          have hcz37_1 : wr.cell? ⟨gb218, 1, none⟩ = some (.int .i64 a0_1) := (blk_cell BK218.out 1).trans rfl
                          have hcz37_2 : wr.cell? ⟨gb218, 2, none⟩ = some (.slice A0_2 l0_2.length c0_2) := (blk_cell BK218.out 2).trans rfl
                          have hcz37_3 : wr.cell? ⟨gb218, 3, none⟩ = some (.int .i64 a0_3) := (blk_cell BK218.out 3).trans rfl
                          have hcz37_4 : wr.cell? ⟨gb218, 4, none⟩ = some (.int .i64 a0_4) := (blk_cell BK218.out 4).trans rfl
                          have hfz37_0 := blk_frozen BK218.out 0
                          have hfz37_1 := blk_frozen BK218.out 1
                          have hfz37_2 := blk_frozen BK218.out 2
                          have hfz37_3 := blk_frozen BK218.out 3
                          have hfz37_4 := blk_frozen BK218.out 4
                          go_wp2_with (first | ((with_reducible refine gate_callee (f := 171) rfl ?_); refine goesL_ (some 52) rfl rfl Try.func171 (by kernel_rfl) rfl #[.slice A0_0 l0_0.length c0_0, .int .i64 (rd y221 x45_2)] rfl (by (try simp only [List.map_toArray, List.map_cons, List.map_nil]); first | done | rfl | (simp only [List.length_drop, List.length_take]; rfl)) ?_; (with_reducible refine (impl_leafAt.calls _ _ l0_0 (rd y221 x45_2) true _ ?side1 ?side2 A32.out).mono ?_); (case side1 => repeat (first | exact (Kd.C_below HR0_0.out HB.out) | (with_reducible refine Kd.C_alloc ?_ _) | (with_reducible refine Kd.C_drewN ?_ _) | (with_reducible refine Kd.C_drew ?_))); (case side2 => exact HC0_0.out); rintro e w' ⟨rfl, ⟨nd, rfl⟩⟩; refine ⟨_, rfl, ?_⟩; have p226 : 0 ≤ ((rd y221 x45_2) : Int) := of_decide_eq_true (by first | (with_reducible assumption) | assumption); have q226 : (rd y221 x45_2) < (l0_0.length : Int) := of_decide_eq_true (by first | (with_reducible assumption) | assumption); obtain ⟨ad226, e226, hx226_0, hx226_1, hx226_2⟩ := at_T251 HR0_0.out (rd y221 x45_2) p226 q226; cases e226; replace hx226_0 := (HB.out.cell (World.block_lt_of_cell? w _ hx226_0)).trans hx226_0; replace hx226_1 := (HB.out.cell (World.block_lt_of_cell? w _ hx226_1)).trans hx226_1; replace hx226_2 := (HB.out.cell (World.block_lt_of_cell? w _ hx226_2)).trans hx226_2; replace p226 := eq_true p226; replace q226 := eq_true q226))
                          go_roundg k2
                          case measure => have := HJ1.out; have := HK2.out; omega
                          case rel => exact ⟨(wrap64 (x45_2 + 1)), (by first | rfl | (simp; done) | (simp [*]; done)), H', ⟨by have := HJ1.out; have := HK2.out; omega⟩, ⟨by (with_reducible repeat (first | apply Kd.R_alloc | apply Kd.R_drewN | apply Kd.R_drew)); exact HO_43.out⟩, ⟨by (with_reducible repeat (first | refine blk_drewN ?_ _ | refine blk_drew ?_ | refine blk_alloc ?_ _)); exact BK218.out⟩, ⟨by repeat (first | (with_reducible first | exact HB.out | apply below_alloc | apply pw_below_drewN | apply below_drew1 | refine below_set ?_ GE218.out) | exact HB.out)⟩⟩
                        · rw [if_neg c36] at H
                          have c36b0 : (((rd_T251 l0_0 (rd y221 x45_2)).f2) == 3) = false := beq_eq_false_iff_ne.mpr c36
                          have c36b1 : (((rd_T251 l0_0 (rd y221 x45_2)).f2) != 3) = true := bne_iff_ne.mpr c36
                          obtain rfl := Option.some.inj H
                          have p224 : 0 ≤ (x45_2 : Int) := of_decide_eq_true (by first | (with_reducible assumption) | assumption)
                          have q224 : x45_2 < (y221.length : Int) := of_decide_eq_true (by first | (with_reducible assumption) | assumption)
                          obtain ⟨ad224, e224, hx224_0⟩ := Kd.at_int (Kd.R_reads' HO_43.out).2.2 x45_2 p224 q224
                          cases e224
                          replace p224 := eq_true p224
                          replace q224 := eq_true q224
                          have hcz38_0 : wr.cell? ⟨gb218, 0, none⟩ = some (.slice A0_0 l0_0.length c0_0) := (blk_cell BK218.out 0).trans rfl
                          have hcz38_1 : wr.cell? ⟨gb218, 1, none⟩ = some (.int .i64 a0_1) := (blk_cell BK218.out 1).trans rfl
                          have hcz38_2 : wr.cell? ⟨gb218, 2, none⟩ = some (.slice A0_2 l0_2.length c0_2) := (blk_cell BK218.out 2).trans rfl
                          have hcz38_3 : wr.cell? ⟨gb218, 3, none⟩ = some (.int .i64 a0_3) := (blk_cell BK218.out 3).trans rfl
                          have hcz38_4 : wr.cell? ⟨gb218, 4, none⟩ = some (.int .i64 a0_4) := (blk_cell BK218.out 4).trans rfl
                          have hfz38_0 := blk_frozen BK218.out 0
                          have hfz38_1 := blk_frozen BK218.out 1
                          have hfz38_2 := blk_frozen BK218.out 2
                          have hfz38_3 := blk_frozen BK218.out 3
                          have hfz38_4 := blk_frozen BK218.out 4
                          go_wp2_with (first | ((with_reducible refine gate_callee (f := 171) rfl ?_); refine goesL_ (some 52) rfl rfl Try.func171 (by kernel_rfl) rfl #[.slice A0_0 l0_0.length c0_0, .int .i64 (rd y221 x45_2)] rfl (by (try simp only [List.map_toArray, List.map_cons, List.map_nil]); first | done | rfl | (simp only [List.length_drop, List.length_take]; rfl)) ?_; (with_reducible refine (impl_leafAt.calls _ _ l0_0 (rd y221 x45_2) true _ ?side1 ?side2 A32.out).mono ?_); (case side1 => repeat (first | exact (Kd.C_below HR0_0.out HB.out) | (with_reducible refine Kd.C_alloc ?_ _) | (with_reducible refine Kd.C_drewN ?_ _) | (with_reducible refine Kd.C_drew ?_))); (case side2 => exact HC0_0.out); rintro e w' ⟨rfl, ⟨nd, rfl⟩⟩; refine ⟨_, rfl, ?_⟩; have p226 : 0 ≤ ((rd y221 x45_2) : Int) := of_decide_eq_true (by first | (with_reducible assumption) | assumption); have q226 : (rd y221 x45_2) < (l0_0.length : Int) := of_decide_eq_true (by first | (with_reducible assumption) | assumption); obtain ⟨ad226, e226, hx226_0, hx226_1, hx226_2⟩ := at_T251 HR0_0.out (rd y221 x45_2) p226 q226; cases e226; replace hx226_0 := (HB.out.cell (World.block_lt_of_cell? w _ hx226_0)).trans hx226_0; replace hx226_1 := (HB.out.cell (World.block_lt_of_cell? w _ hx226_1)).trans hx226_1; replace hx226_2 := (HB.out.cell (World.block_lt_of_cell? w _ hx226_2)).trans hx226_2; replace p226 := eq_true p226; replace q226 := eq_true q226))
                          go_ret
                          exact ⟨by first | rfl | (simp [errW_none, errW_some] <;> rfl) | (simp [*, errW_none, errW_some] <;> rfl), by repeat (first | (with_reducible first | exact HB.out | apply below_alloc | apply pw_below_drewN | apply below_drew1 | refine below_set ?_ GE218.out) | exact HB.out)⟩
                      · rw [if_neg c35] at H
                        exact absurd H (by simp)
                    · rw [if_neg c34] at H
                      exact absurd H (by simp)
                  · replace c33 := Bool.eq_false_iff.mpr c33
                    subst c33
                    have H1 : (some false) = some r := by rw [if_neg (show ¬ (false = true) by decide)] at H; exact H
                    clear H
                    have H := H1
                    clear H1
                    obtain rfl := Option.some.inj H
                    have p224 : 0 ≤ (x45_2 : Int) := of_decide_eq_true (by first | (with_reducible assumption) | assumption)
                    have q224 : x45_2 < (y221.length : Int) := of_decide_eq_true (by first | (with_reducible assumption) | assumption)
                    obtain ⟨ad224, e224, hx224_0⟩ := Kd.at_int (Kd.R_reads' HO_43.out).2.2 x45_2 p224 q224
                    cases e224
                    replace p224 := eq_true p224
                    replace q224 := eq_true q224
                    have hcz39_0 : wr.cell? ⟨gb218, 0, none⟩ = some (.slice A0_0 l0_0.length c0_0) := (blk_cell BK218.out 0).trans rfl
                    have hcz39_1 : wr.cell? ⟨gb218, 1, none⟩ = some (.int .i64 a0_1) := (blk_cell BK218.out 1).trans rfl
                    have hcz39_2 : wr.cell? ⟨gb218, 2, none⟩ = some (.slice A0_2 l0_2.length c0_2) := (blk_cell BK218.out 2).trans rfl
                    have hcz39_3 : wr.cell? ⟨gb218, 3, none⟩ = some (.int .i64 a0_3) := (blk_cell BK218.out 3).trans rfl
                    have hcz39_4 : wr.cell? ⟨gb218, 4, none⟩ = some (.int .i64 a0_4) := (blk_cell BK218.out 4).trans rfl
                    have hfz39_0 := blk_frozen BK218.out 0
                    have hfz39_1 := blk_frozen BK218.out 1
                    have hfz39_2 := blk_frozen BK218.out 2
                    have hfz39_3 := blk_frozen BK218.out 3
                    have hfz39_4 := blk_frozen BK218.out 4
                    go_wp2_with (first | ((with_reducible refine gate_callee (f := 171) rfl ?_); refine goesL_ (some 52) rfl rfl Try.func171 (by kernel_rfl) rfl #[.slice A0_0 l0_0.length c0_0, .int .i64 (rd y221 x45_2)] rfl (by (try simp only [List.map_toArray, List.map_cons, List.map_nil]); first | done | rfl | (simp only [List.length_drop, List.length_take]; rfl)) ?_; (with_reducible refine (impl_leafAt.calls _ _ l0_0 (rd y221 x45_2) false _ ?side1 ?side2 A32.out).mono ?_); (case side1 => repeat (first | exact (Kd.C_below HR0_0.out HB.out) | (with_reducible refine Kd.C_alloc ?_ _) | (with_reducible refine Kd.C_drewN ?_ _) | (with_reducible refine Kd.C_drew ?_))); (case side2 => exact HC0_0.out); rintro e w' ⟨rfl, ⟨nd, rfl⟩⟩; refine ⟨_, rfl, ?_⟩))
                    go_ret
                    exact ⟨by first | rfl | (simp [errW_none, errW_some] <;> rfl) | (simp [*, errW_none, errW_some] <;> rfl), by repeat (first | (with_reducible first | exact HB.out | apply below_alloc | apply pw_below_drewN | apply below_drew1 | refine below_set ?_ GE218.out) | exact HB.out)⟩
                · rw [if_neg c31] at H
                  exact absurd H (by simp)
              · rw [if_neg c30] at H
                exact absurd H (by simp)
            · rw [if_neg c29] at H
              have c29b0 : decide (x45_2 < (y221.length : Int)) = false := decide_eq_false c29
              clear c29
              have H' := Aside0.mk H
              clear H
              have hcz40_0 : wr.cell? ⟨gb218, 0, none⟩ = some (.slice A0_0 l0_0.length c0_0) := (blk_cell BK218.out 0).trans rfl
              have hcz40_1 : wr.cell? ⟨gb218, 1, none⟩ = some (.int .i64 a0_1) := (blk_cell BK218.out 1).trans rfl
              have hcz40_2 : wr.cell? ⟨gb218, 2, none⟩ = some (.slice A0_2 l0_2.length c0_2) := (blk_cell BK218.out 2).trans rfl
              have hcz40_3 : wr.cell? ⟨gb218, 3, none⟩ = some (.int .i64 a0_3) := (blk_cell BK218.out 3).trans rfl
              have hcz40_4 : wr.cell? ⟨gb218, 4, none⟩ = some (.int .i64 a0_4) := (blk_cell BK218.out 4).trans rfl
              have hfz40_0 := blk_frozen BK218.out 0
              have hfz40_1 := blk_frozen BK218.out 1
              have hfz40_2 := blk_frozen BK218.out 2
              have hfz40_3 := blk_frozen BK218.out 3
              have hfz40_4 := blk_frozen BK218.out 4
              go_wp2
              go_loopg [67] k2 (fun kq v67 w' => ∃ (x67_3 : Int), v67 = .int .i64 x67_3 ∧ Aside0 (impl_GroupOk.l1 kq l0_2 (l0_2.length : Int) x67_3 l0_0 a0_1 l0_2 a0_3 a0_4 = some r) ∧ Aside0 (kq ≤ k2) ∧ Aside0 (w'.heap[gb218]? = some (.cells #[(.slice A0_0 l0_0.length c0_0), .int .i64 a0_1, (.slice A0_2 l0_2.length c0_2), .int .i64 a0_3, .int .i64 a0_4] 107 (0, 0))) ∧ Aside0 (Below w.heap.size w w'))
              case atStart => exact ⟨(0), (by first | rfl | (simp; done) | (simp [*]; done)), H', ⟨Nat.le_refl _⟩, ⟨by (with_reducible repeat (first | refine blk_drewN ?_ _ | refine blk_drew ?_ | refine blk_alloc ?_ _)); exact BK218.out⟩, ⟨by repeat (first | (with_reducible first | exact HB.out | apply below_alloc | apply pw_below_drewN | apply below_drew1 | refine below_set ?_ GE218.out) | exact HB.out)⟩⟩
              case round =>
                clear H'
                try clear c1
                try clear c2
                try clear p2
                try clear q2
                try clear hx2
                try clear c3
                try clear c5
                try clear c6
                try clear p6
                try clear c7
                try clear c8
                try clear c8b0
                try clear c8b1
                try clear c12
                try clear c12b0
                try clear c12b1
                try clear c17
                try clear p22
                try clear q22
                try clear hx22
                try clear c24
                try clear c29
                try clear c29b0
                try clear c30
                try clear c30b0
                try clear c31
                try clear c31b0
                try clear c33
                try clear c34
                try clear c34b0
                try clear c35
                try clear c35b0
                try clear c36
                try clear c36b0
                try clear c36b1
                try clear hcz11_0
                try clear hcz11_1
                try clear hcz11_2
                try clear hcz11_3
                try clear hcz11_4
                try clear hcz13_0
                try clear hcz13_1
                try clear hcz13_2
                try clear hcz13_3
                try clear hcz13_4
                try clear hcz15_0
                try clear hcz15_1
                try clear hcz15_2
                try clear hcz15_3
                try clear hcz15_4
                try clear hcz16_0
                try clear hcz16_1
                try clear hcz16_2
                try clear hcz16_3
                try clear hcz16_4
                try clear hcz18_0
                try clear hcz18_1
                try clear hcz18_2
                try clear hcz18_3
                try clear hcz18_4
                try clear hcz19_0
                try clear hcz19_1
                try clear hcz19_2
                try clear hcz19_3
                try clear hcz19_4
                try clear hcz21_0
                try clear hcz21_1
                try clear hcz21_2
                try clear hcz21_3
                try clear hcz21_4
                try clear hcz22_0
                try clear hcz22_1
                try clear hcz22_2
                try clear hcz22_3
                try clear hcz22_4
                try clear hcz25_0
                try clear hcz25_1
                try clear hcz25_2
                try clear hcz25_3
                try clear hcz25_4
                try clear hcz37_0
                try clear hcz37_1
                try clear hcz37_2
                try clear hcz37_3
                try clear hcz37_4
                try clear hcz38_0
                try clear hcz38_1
                try clear hcz38_2
                try clear hcz38_3
                try clear hcz38_4
                try clear hcz39_0
                try clear hcz39_1
                try clear hcz39_2
                try clear hcz39_3
                try clear hcz39_4
                try clear hcz40_0
                try clear hcz40_1
                try clear hcz40_2
                try clear hcz40_3
                try clear hcz40_4
                try clear hcz9_0
                try clear hcz9_1
                try clear hcz9_2
                try clear hcz9_3
                try clear hcz9_4
                try clear hfz11_0
                try clear hfz11_1
                try clear hfz11_2
                try clear hfz11_3
                try clear hfz11_4
                try clear hfz13_0
                try clear hfz13_1
                try clear hfz13_2
                try clear hfz13_3
                try clear hfz13_4
                try clear hfz15_0
                try clear hfz15_1
                try clear hfz15_2
                try clear hfz15_3
                try clear hfz15_4
                try clear hfz16_0
                try clear hfz16_1
                try clear hfz16_2
                try clear hfz16_3
                try clear hfz16_4
                try clear hfz18_0
                try clear hfz18_1
                try clear hfz18_2
                try clear hfz18_3
                try clear hfz18_4
                try clear hfz19_0
                try clear hfz19_1
                try clear hfz19_2
                try clear hfz19_3
                try clear hfz19_4
                try clear hfz21_0
                try clear hfz21_1
                try clear hfz21_2
                try clear hfz21_3
                try clear hfz21_4
                try clear hfz22_0
                try clear hfz22_1
                try clear hfz22_2
                try clear hfz22_3
                try clear hfz22_4
                try clear hfz25_0
                try clear hfz25_1
                try clear hfz25_2
                try clear hfz25_3
                try clear hfz25_4
                try clear hfz37_0
                try clear hfz37_1
                try clear hfz37_2
                try clear hfz37_3
                try clear hfz37_4
                try clear hfz38_0
                try clear hfz38_1
                try clear hfz38_2
                try clear hfz38_3
                try clear hfz38_4
                try clear hfz39_0
                try clear hfz39_1
                try clear hfz39_2
                try clear hfz39_3
                try clear hfz39_4
                try clear hfz40_0
                try clear hfz40_1
                try clear hfz40_2
                try clear hfz40_3
                try clear hfz40_4
                try clear hfz9_0
                try clear hfz9_1
                try clear hfz9_2
                try clear hfz9_3
                try clear hfz9_4
                try clear hx224_0
                try clear hx226_0
                try clear hx226_1
                try clear hx226_2
                try clear p2
                try clear p224
                try clear p226
                try clear q224
                try clear q226
                obtain ⟨x67_3, rfl, HA, HK3, BK218, HB⟩ := hrel
                cases gk with
                | zero => exact absurd HA.out (by simp [impl_GroupOk.l1])
                | succ k3 =>
                  have H := HA.out
                  clear HA
                  simp only [impl_GroupOk.l1] at H
                  by_cases c41 : x67_3 < (l0_2.length : Int)
                  · rw [if_pos c41] at H
                    have c41b0 : decide (x67_3 < (l0_2.length : Int)) = true := decide_eq_true c41
                    clear c41
                    by_cases c42 : 0 ≤ x67_3
                    · rw [if_pos c42] at H
                      have c42b0 : decide (0 ≤ x67_3) = true := decide_eq_true c42
                      clear c42
                      by_cases c43 : x67_3 < (l0_2.length : Int)
                      · rw [if_pos c43] at H
                        have c43b0 : decide (x67_3 < (l0_2.length : Int)) = true := decide_eq_true c43
                        clear c43
                        have HC44 := Aside0.mk H
                        clear H
                        have p227 : 0 ≤ (x67_3 : Int) := of_decide_eq_true (by first | (with_reducible assumption) | assumption)
                        have q227 : x67_3 < (l0_2.length : Int) := of_decide_eq_true (by first | (with_reducible assumption) | assumption)
                        obtain ⟨ad227, A227_3, c227_3, e227, hx227_0, hx227_1, hx227_2, hx227_3, hl227_3, hi227_3⟩ := at_T245 HR0_2.out x67_3 p227 q227
                        cases e227
                        replace hx227_0 := (HB.out.cell (World.block_lt_of_cell? w _ hx227_0)).trans hx227_0
                        replace hx227_1 := (HB.out.cell (World.block_lt_of_cell? w _ hx227_1)).trans hx227_1
                        replace hx227_2 := (HB.out.cell (World.block_lt_of_cell? w _ hx227_2)).trans hx227_2
                        replace hx227_3 := (HB.out.cell (World.block_lt_of_cell? w _ hx227_3)).trans hx227_3
                        have HR227_3 := Aside0.mk hi227_3
                        have HC227_3 := Aside0.mk hl227_3
                        clear hi227_3 hl227_3
                        replace p227 := eq_true p227
                        replace q227 := eq_true q227
                        go_upto_region 12 with (first | ((with_reducible refine gate_dst (N := 6) rfl ?_); (try (refine gate_guard (by rfl) ?_; dsimp only)); refine box_event ?hg (N := 6) ?hd (cs := #[.int .i64 0, .int .i64 0, .int .i64 0, .slice none 0 0]) (t := 245) ?hr ?_; (case hd => rfl); (case hg => rfl); (case hr => first | (go_simp; done) | (go_simp; rfl)); intro gb228 hg w45 hbox hb; have n0_ := Aside0.mk (blk_below (g := gb218) (o := .cells #[.slice A0_0 l0_0.length c0_0, .int .i64 a0_1, .slice (some ad227) l0_2.length c0_2, .int .i64 a0_3, .int .i64 a0_4] 107 (0, 0)) (by (with_reducible repeat (first | refine blk_drewN ?_ _ | refine blk_drew ?_ | refine blk_alloc ?_ _)); exact BK218.out) hb); have n1_ := Aside0.mk (below_step (by repeat (first | (with_reducible first | exact HB.out | apply below_alloc | apply pw_below_drewN | apply below_drew1 | refine below_set ?_ GE218.out) | exact HB.out)) hb); have n2_ := Aside0.mk (hbox); have n3_ := Aside0.mk ((by rw [hg]; exact (below_size (by repeat (first | (with_reducible first | exact HB.out | apply below_alloc | apply pw_below_drewN | apply below_drew1 | refine below_set ?_ GE218.out) | exact HB.out))) : w.heap.size ≤ gb228)); have n4_ := Aside0.mk ((by rw [hg]; exact (below_size (by repeat (first | (with_reducible first | exact HB.out | apply below_alloc | apply pw_below_drewN | apply below_drew1 | refine below_set ?_ GE218.out) | exact HB.out))) : w.heap.size ≤ gb228)); have n5_ := Aside0.mk ((by rw [hg]; exact Nat.ne_of_lt (blk_lt (g := gb218) (o := .cells #[.slice A0_0 l0_0.length c0_0, .int .i64 a0_1, .slice (some ad227) l0_2.length c0_2, .int .i64 a0_3, .int .i64 a0_4] 107 (0, 0)) (by (with_reducible repeat (first | refine blk_drewN ?_ _ | refine blk_drew ?_ | refine blk_alloc ?_ _)); exact BK218.out)) : gb218 ≠ gb228)); have n6_ := Aside0.mk ((by rw [hg]; exact Nat.ne_of_gt (blk_lt (g := gb218) (o := .cells #[.slice A0_0 l0_0.length c0_0, .int .i64 a0_1, .slice (some ad227) l0_2.length c0_2, .int .i64 a0_3, .int .i64 a0_4] 107 (0, 0)) (by (with_reducible repeat (first | refine blk_drewN ?_ _ | refine blk_drew ?_ | refine blk_alloc ?_ _)); exact BK218.out)) : gb228 ≠ gb218)); clear BK218; clear HB; have BK218 := n0_; have HB := n1_; have BK228 := n2_; have GW228 := n3_; have GE228 := n4_; have NB218_228 := n5_; have NB228_218 := n6_; clear n0_ n1_ n2_ n3_ n4_ n5_ n6_; clear hb hbox hg; have hnb46 := NB228_218.out; have hnc46 := NB218_228.out; have hcz47_0 : w45.cell? ⟨gb228, 0, none⟩ = some (.int .i64 0) := (blk_cell BK228.out 0).trans rfl; have hcz47_1 : w45.cell? ⟨gb228, 1, none⟩ = some (.int .i64 0) := (blk_cell BK228.out 1).trans rfl; have hcz47_2 : w45.cell? ⟨gb228, 2, none⟩ = some (.int .i64 0) := (blk_cell BK228.out 2).trans rfl; have hcz47_3 : w45.cell? ⟨gb228, 3, none⟩ = some (.slice none 0 0) := (blk_cell BK228.out 3).trans rfl; have hfz47_0 := blk_frozen BK228.out 0; have hfz47_1 := blk_frozen BK228.out 1; have hfz47_2 := blk_frozen BK228.out 2; have hfz47_3 := blk_frozen BK228.out 3))
                        (try simp only [Act.put, List.setIfInBounds_toArray, List.set_cons_zero, List.set_cons_succ])
                        go_cut [119] (fun v119 wc => ∃ (kq : Nat) (x119_43 : Bool), v119 = .bool x119_43 ∧ Aside0 (impl_GroupOk.j3 kq l0_2 (l0_2.length : Int) x67_3 x119_43 l0_0 a0_1 l0_2 a0_3 a0_4 ((rd_T245 l0_2 x67_3).f0) ((rd_T245 l0_2 x67_3).f1) ((rd_T245 l0_2 x67_3).f2) ((rd_T245 l0_2 x67_3).f3) = some r) ∧ Aside0 (kq ≤ k3) ∧ Aside0 (wc.heap[gb218]? = some (.cells #[(.slice A0_0 l0_0.length c0_0), .int .i64 a0_1, (.slice (some ad227) l0_2.length c0_2), .int .i64 a0_3, .int .i64 a0_4] 107 (0, 0))) ∧ Aside0 (wc.heap[gb228]? = some (.cells #[.int .i64 ((rd_T245 l0_2 x67_3).f0), .int .i64 ((rd_T245 l0_2 x67_3).f1), .int .i64 ((rd_T245 l0_2 x67_3).f2), (.slice A227_3 ((rd_T245 l0_2 x67_3).f3).length c227_3)] 245 (0, 0))) ∧ Aside0 (Below w.heap.size w wc))
                        case first =>
                          have H := HC44.out
                          clear HC44
                          by_cases c48 : x67_3 = 0
                          · rw [if_pos c48] at H
                            have c48b0 : (x67_3 == 0) = true := beq_iff_eq.mpr c48
                            have c48b1 : (x67_3 != 0) = false := bne_eq_false_iff_eq.mpr c48
                            clear c48
                            (first | rw [c48b0] | (simp only [i64_w, i32_w]; rw [c48b0]) | skip)
                            by_cases c49 : ((rd_T245 l0_2 x67_3).f0) = (-1)
                            · rw [if_pos c49] at H
                              have c49b0 : (((rd_T245 l0_2 x67_3).f0) == (-1)) = true := beq_iff_eq.mpr c49
                              have c49b1 : (((rd_T245 l0_2 x67_3).f0) != (-1)) = false := bne_eq_false_iff_eq.mpr c49
                              clear c49
                              by_cases c50 : ((rd_T245 l0_2 x67_3).f1) = 10000
                              · rw [if_pos c50] at H
                                have c50b0 : (((rd_T245 l0_2 x67_3).f1) == 10000) = true := beq_iff_eq.mpr c50
                                have c50b1 : (((rd_T245 l0_2 x67_3).f1) != 10000) = false := bne_eq_false_iff_eq.mpr c50
                                clear c50
                                by_cases c51 : x67_3 > 0
                                · rw [if_pos c51] at H
                                  have c51b0 : decide (0 < x67_3) = true := decide_eq_true c51
                                  clear c51
                                  replace H := Option.bind_eq_some_iff.mp H
                                  obtain ⟨t229, A520, H⟩ := H
                                  replace H : (if t229 = true then ((impl_between.f ((rd_T245 l0_2 x67_3).f1) 1 10000).bind fun t230 => (if t230 = true then ((impl_between.f ((rd_T245 l0_2 x67_3).f2) 0 (wrap64 (a0_1 - 1))).bind fun t231 => (if t231 = true then (impl_GroupOk.j3 k3 l0_2 (l0_2.length : Int) x67_3 ((((rd_T245 l0_2 x67_3).f3).length : Int) != (l0_0.length : Int)) l0_0 a0_1 l0_2 a0_3 a0_4 ((rd_T245 l0_2 x67_3).f0) ((rd_T245 l0_2 x67_3).f1) ((rd_T245 l0_2 x67_3).f2) ((rd_T245 l0_2 x67_3).f3)) else (impl_GroupOk.j3 k3 l0_2 (l0_2.length : Int) x67_3 true l0_0 a0_1 l0_2 a0_3 a0_4 ((rd_T245 l0_2 x67_3).f0) ((rd_T245 l0_2 x67_3).f1) ((rd_T245 l0_2 x67_3).f2) ((rd_T245 l0_2 x67_3).f3)))) else (impl_GroupOk.j3 k3 l0_2 (l0_2.length : Int) x67_3 true l0_0 a0_1 l0_2 a0_3 a0_4 ((rd_T245 l0_2 x67_3).f0) ((rd_T245 l0_2 x67_3).f1) ((rd_T245 l0_2 x67_3).f2) ((rd_T245 l0_2 x67_3).f3)))) else (impl_GroupOk.j3 k3 l0_2 (l0_2.length : Int) x67_3 true l0_0 a0_1 l0_2 a0_3 a0_4 ((rd_T245 l0_2 x67_3).f0) ((rd_T245 l0_2 x67_3).f1) ((rd_T245 l0_2 x67_3).f2) ((rd_T245 l0_2 x67_3).f3))) = some r := H
                                  have A52 := Aside0.mk A520
                                  clear A520
                                  by_cases c53 : t229 = true
                                  · subst c53
                                    have H1 : ((impl_between.f ((rd_T245 l0_2 x67_3).f1) 1 10000).bind fun t230 => (if t230 = true then ((impl_between.f ((rd_T245 l0_2 x67_3).f2) 0 (wrap64 (a0_1 - 1))).bind fun t231 => (if t231 = true then (impl_GroupOk.j3 k3 l0_2 (l0_2.length : Int) x67_3 ((((rd_T245 l0_2 x67_3).f3).length : Int) != (l0_0.length : Int)) l0_0 a0_1 l0_2 a0_3 a0_4 ((rd_T245 l0_2 x67_3).f0) ((rd_T245 l0_2 x67_3).f1) ((rd_T245 l0_2 x67_3).f2) ((rd_T245 l0_2 x67_3).f3)) else (impl_GroupOk.j3 k3 l0_2 (l0_2.length : Int) x67_3 true l0_0 a0_1 l0_2 a0_3 a0_4 ((rd_T245 l0_2 x67_3).f0) ((rd_T245 l0_2 x67_3).f1) ((rd_T245 l0_2 x67_3).f2) ((rd_T245 l0_2 x67_3).f3)))) else (impl_GroupOk.j3 k3 l0_2 (l0_2.length : Int) x67_3 true l0_0 a0_1 l0_2 a0_3 a0_4 ((rd_T245 l0_2 x67_3).f0) ((rd_T245 l0_2 x67_3).f1) ((rd_T245 l0_2 x67_3).f2) ((rd_T245 l0_2 x67_3).f3)))) = some r := by rw [if_pos rfl] at H; exact H
                                    clear H
                                    have H := H1
                                    clear H1
                                    replace H := Option.bind_eq_some_iff.mp H
                                    obtain ⟨t230, A540, H⟩ := H
                                    replace H : (if t230 = true then ((impl_between.f ((rd_T245 l0_2 x67_3).f2) 0 (wrap64 (a0_1 - 1))).bind fun t231 => (if t231 = true then (impl_GroupOk.j3 k3 l0_2 (l0_2.length : Int) x67_3 ((((rd_T245 l0_2 x67_3).f3).length : Int) != (l0_0.length : Int)) l0_0 a0_1 l0_2 a0_3 a0_4 ((rd_T245 l0_2 x67_3).f0) ((rd_T245 l0_2 x67_3).f1) ((rd_T245 l0_2 x67_3).f2) ((rd_T245 l0_2 x67_3).f3)) else (impl_GroupOk.j3 k3 l0_2 (l0_2.length : Int) x67_3 true l0_0 a0_1 l0_2 a0_3 a0_4 ((rd_T245 l0_2 x67_3).f0) ((rd_T245 l0_2 x67_3).f1) ((rd_T245 l0_2 x67_3).f2) ((rd_T245 l0_2 x67_3).f3)))) else (impl_GroupOk.j3 k3 l0_2 (l0_2.length : Int) x67_3 true l0_0 a0_1 l0_2 a0_3 a0_4 ((rd_T245 l0_2 x67_3).f0) ((rd_T245 l0_2 x67_3).f1) ((rd_T245 l0_2 x67_3).f2) ((rd_T245 l0_2 x67_3).f3))) = some r := H
                                    have A54 := Aside0.mk A540
                                    clear A540
                                    by_cases c55 : t230 = true
                                    · subst c55
                                      have H1 : ((impl_between.f ((rd_T245 l0_2 x67_3).f2) 0 (wrap64 (a0_1 - 1))).bind fun t231 => (if t231 = true then (impl_GroupOk.j3 k3 l0_2 (l0_2.length : Int) x67_3 ((((rd_T245 l0_2 x67_3).f3).length : Int) != (l0_0.length : Int)) l0_0 a0_1 l0_2 a0_3 a0_4 ((rd_T245 l0_2 x67_3).f0) ((rd_T245 l0_2 x67_3).f1) ((rd_T245 l0_2 x67_3).f2) ((rd_T245 l0_2 x67_3).f3)) else (impl_GroupOk.j3 k3 l0_2 (l0_2.length : Int) x67_3 true l0_0 a0_1 l0_2 a0_3 a0_4 ((rd_T245 l0_2 x67_3).f0) ((rd_T245 l0_2 x67_3).f1) ((rd_T245 l0_2 x67_3).f2) ((rd_T245 l0_2 x67_3).f3)))) = some r := by rw [if_pos rfl] at H; exact H
                                      clear H
                                      have H := H1
                                      clear H1
                                      replace H := Option.bind_eq_some_iff.mp H
                                      obtain ⟨t231, A560, H⟩ := H
                                      replace H : (if t231 = true then (impl_GroupOk.j3 k3 l0_2 (l0_2.length : Int) x67_3 ((((rd_T245 l0_2 x67_3).f3).length : Int) != (l0_0.length : Int)) l0_0 a0_1 l0_2 a0_3 a0_4 ((rd_T245 l0_2 x67_3).f0) ((rd_T245 l0_2 x67_3).f1) ((rd_T245 l0_2 x67_3).f2) ((rd_T245 l0_2 x67_3).f3)) else (impl_GroupOk.j3 k3 l0_2 (l0_2.length : Int) x67_3 true l0_0 a0_1 l0_2 a0_3 a0_4 ((rd_T245 l0_2 x67_3).f0) ((rd_T245 l0_2 x67_3).f1) ((rd_T245 l0_2 x67_3).f2) ((rd_T245 l0_2 x67_3).f3))) = some r := H
                                      have A56 := Aside0.mk A560
                                      clear A560
                                      by_cases c57 : t231 = true
                                      · subst c57
                                        have H1 : (impl_GroupOk.j3 k3 l0_2 (l0_2.length : Int) x67_3 ((((rd_T245 l0_2 x67_3).f3).length : Int) != (l0_0.length : Int)) l0_0 a0_1 l0_2 a0_3 a0_4 ((rd_T245 l0_2 x67_3).f0) ((rd_T245 l0_2 x67_3).f1) ((rd_T245 l0_2 x67_3).f2) ((rd_T245 l0_2 x67_3).f3)) = some r := by rw [if_pos rfl] at H; exact H
                                        clear H
                                        have H := H1
                                        clear H1
                                        have H' := Aside0.mk H
                                        clear H
                                        have hnb58 := NB228_218.out
                                        have hnc58 := NB218_228.out
                                        have hcz59_0 : w45.cell? ⟨gb228, 0, none⟩ = some (.int .i64 0) := (blk_cell BK228.out 0).trans rfl
                                        have hcz59_1 : w45.cell? ⟨gb228, 1, none⟩ = some (.int .i64 0) := (blk_cell BK228.out 1).trans rfl
                                        have hcz59_2 : w45.cell? ⟨gb228, 2, none⟩ = some (.int .i64 0) := (blk_cell BK228.out 2).trans rfl
                                        have hcz59_3 : w45.cell? ⟨gb228, 3, none⟩ = some (.slice none 0 0) := (blk_cell BK228.out 3).trans rfl
                                        have hfz59_0 := blk_frozen BK228.out 0
                                        have hfz59_1 := blk_frozen BK228.out 1
                                        have hfz59_2 := blk_frozen BK228.out 2
                                        have hfz59_3 := blk_frozen BK228.out 3
                                        go_wp2_with (first | (go_at_call 112; (with_reducible refine (impl_between.calls ((rd_T245 l0_2 x67_3).f0) 0 (wrap64 (x67_3 - 1)) true _ A52.out).mono ?_); rintro e w' ⟨rfl, ⟨nd, rfl⟩⟩) | (go_at_call 112; (with_reducible refine (impl_between.calls ((rd_T245 l0_2 x67_3).f1) 1 10000 true _ A54.out).mono ?_); rintro e w' ⟨rfl, ⟨nd, rfl⟩⟩; have hcz60_0 : w45.cell? ⟨gb218, 0, none⟩ = some (.slice A0_0 l0_0.length c0_0) := (blk_cell BK218.out 0).trans rfl; have hcz60_1 : w45.cell? ⟨gb218, 1, none⟩ = some (.int .i64 a0_1) := (blk_cell BK218.out 1).trans rfl; have hcz60_2 : w45.cell? ⟨gb218, 2, none⟩ = some (.slice (some ad227) l0_2.length c0_2) := (blk_cell BK218.out 2).trans rfl; have hcz60_3 : w45.cell? ⟨gb218, 3, none⟩ = some (.int .i64 a0_3) := (blk_cell BK218.out 3).trans rfl; have hcz60_4 : w45.cell? ⟨gb218, 4, none⟩ = some (.int .i64 a0_4) := (blk_cell BK218.out 4).trans rfl; have hfz60_0 := blk_frozen BK218.out 0; have hfz60_1 := blk_frozen BK218.out 1; have hfz60_2 := blk_frozen BK218.out 2; have hfz60_3 := blk_frozen BK218.out 3; have hfz60_4 := blk_frozen BK218.out 4) | (go_at_call 112; (with_reducible refine (impl_between.calls ((rd_T245 l0_2 x67_3).f2) 0 (wrap64 (a0_1 - 1)) true _ A56.out).mono ?_); rintro e w' ⟨rfl, ⟨nd, rfl⟩⟩))
                                        go_meet
                                        case rel => exact ⟨_, (((((rd_T245 l0_2 x67_3).f3).length : Int) != (l0_0.length : Int))), (by first | rfl | (simp; done) | (simp [*]; done)), H', ⟨by have := HJ1.out; have := HK2.out; have := HK3.out; first | omega | exact Nat.le_refl _⟩, ⟨by (with_reducible repeat (first | refine blk_drewN ?_ _ | refine blk_drew ?_ | refine blk_alloc ?_ _)); refine blk_far ?_ NB218_228.out _; (with_reducible repeat (first | refine blk_drewN ?_ _ | refine blk_drew ?_ | refine blk_alloc ?_ _)); refine blk_far ?_ NB218_228.out _; (with_reducible repeat (first | refine blk_drewN ?_ _ | refine blk_drew ?_ | refine blk_alloc ?_ _)); refine blk_far ?_ NB218_228.out _; (with_reducible repeat (first | refine blk_drewN ?_ _ | refine blk_drew ?_ | refine blk_alloc ?_ _)); refine blk_far ?_ NB218_228.out _; (with_reducible repeat (first | refine blk_drewN ?_ _ | refine blk_drew ?_ | refine blk_alloc ?_ _)); exact BK218.out⟩, ⟨by (with_reducible repeat (first | refine blk_drewN ?_ _ | refine blk_drew ?_ | refine blk_alloc ?_ _)); refine blk_put (cs := #[.int .i64 ((rd_T245 l0_2 x67_3).f0), .int .i64 ((rd_T245 l0_2 x67_3).f1), .int .i64 ((rd_T245 l0_2 x67_3).f2), .slice none 0 0]) ?_ 3 _ rfl; (with_reducible repeat (first | refine blk_drewN ?_ _ | refine blk_drew ?_ | refine blk_alloc ?_ _)); refine blk_put (cs := #[.int .i64 ((rd_T245 l0_2 x67_3).f0), .int .i64 ((rd_T245 l0_2 x67_3).f1), .int .i64 0, .slice none 0 0]) ?_ 2 _ rfl; (with_reducible repeat (first | refine blk_drewN ?_ _ | refine blk_drew ?_ | refine blk_alloc ?_ _)); refine blk_put (cs := #[.int .i64 ((rd_T245 l0_2 x67_3).f0), .int .i64 0, .int .i64 0, .slice none 0 0]) ?_ 1 _ rfl; (with_reducible repeat (first | refine blk_drewN ?_ _ | refine blk_drew ?_ | refine blk_alloc ?_ _)); refine blk_put (cs := #[.int .i64 0, .int .i64 0, .int .i64 0, .slice none 0 0]) ?_ 0 _ rfl; (with_reducible repeat (first | refine blk_drewN ?_ _ | refine blk_drew ?_ | refine blk_alloc ?_ _)); exact BK228.out⟩, ⟨by repeat (first | (with_reducible first | exact HB.out | apply below_alloc | apply pw_below_drewN | apply below_drew1 | refine below_set ?_ GE218.out | refine below_set ?_ GE228.out) | exact HB.out)⟩⟩
                                      · replace c57 := Bool.eq_false_iff.mpr c57
                                        subst c57
                                        have H1 : (impl_GroupOk.j3 k3 l0_2 (l0_2.length : Int) x67_3 true l0_0 a0_1 l0_2 a0_3 a0_4 ((rd_T245 l0_2 x67_3).f0) ((rd_T245 l0_2 x67_3).f1) ((rd_T245 l0_2 x67_3).f2) ((rd_T245 l0_2 x67_3).f3)) = some r := by rw [if_neg (show ¬ (false = true) by decide)] at H; exact H
                                        clear H
                                        have H := H1
                                        clear H1
                                        have H' := Aside0.mk H
                                        clear H
                                        have hnb61 := NB228_218.out
                                        have hnc61 := NB218_228.out
                                        have hcz62_0 : w45.cell? ⟨gb228, 0, none⟩ = some (.int .i64 0) := (blk_cell BK228.out 0).trans rfl
                                        have hcz62_1 : w45.cell? ⟨gb228, 1, none⟩ = some (.int .i64 0) := (blk_cell BK228.out 1).trans rfl
                                        have hcz62_2 : w45.cell? ⟨gb228, 2, none⟩ = some (.int .i64 0) := (blk_cell BK228.out 2).trans rfl
                                        have hcz62_3 : w45.cell? ⟨gb228, 3, none⟩ = some (.slice none 0 0) := (blk_cell BK228.out 3).trans rfl
                                        have hfz62_0 := blk_frozen BK228.out 0
                                        have hfz62_1 := blk_frozen BK228.out 1
                                        have hfz62_2 := blk_frozen BK228.out 2
                                        have hfz62_3 := blk_frozen BK228.out 3
                                        go_wp2_with (first | (go_at_call 112; (with_reducible refine (impl_between.calls ((rd_T245 l0_2 x67_3).f0) 0 (wrap64 (x67_3 - 1)) true _ A52.out).mono ?_); rintro e w' ⟨rfl, ⟨nd, rfl⟩⟩) | (go_at_call 112; (with_reducible refine (impl_between.calls ((rd_T245 l0_2 x67_3).f1) 1 10000 true _ A54.out).mono ?_); rintro e w' ⟨rfl, ⟨nd, rfl⟩⟩; have hcz63_0 : w45.cell? ⟨gb218, 0, none⟩ = some (.slice A0_0 l0_0.length c0_0) := (blk_cell BK218.out 0).trans rfl; have hcz63_1 : w45.cell? ⟨gb218, 1, none⟩ = some (.int .i64 a0_1) := (blk_cell BK218.out 1).trans rfl; have hcz63_2 : w45.cell? ⟨gb218, 2, none⟩ = some (.slice (some ad227) l0_2.length c0_2) := (blk_cell BK218.out 2).trans rfl; have hcz63_3 : w45.cell? ⟨gb218, 3, none⟩ = some (.int .i64 a0_3) := (blk_cell BK218.out 3).trans rfl; have hcz63_4 : w45.cell? ⟨gb218, 4, none⟩ = some (.int .i64 a0_4) := (blk_cell BK218.out 4).trans rfl; have hfz63_0 := blk_frozen BK218.out 0; have hfz63_1 := blk_frozen BK218.out 1; have hfz63_2 := blk_frozen BK218.out 2; have hfz63_3 := blk_frozen BK218.out 3; have hfz63_4 := blk_frozen BK218.out 4) | (go_at_call 112; (with_reducible refine (impl_between.calls ((rd_T245 l0_2 x67_3).f2) 0 (wrap64 (a0_1 - 1)) false _ A56.out).mono ?_); rintro e w' ⟨rfl, ⟨nd, rfl⟩⟩))
                                        go_meet
                                        case rel => exact ⟨_, (true), (by first | rfl | (simp; done) | (simp [*]; done)), H', ⟨by have := HJ1.out; have := HK2.out; have := HK3.out; first | omega | exact Nat.le_refl _⟩, ⟨by (with_reducible repeat (first | refine blk_drewN ?_ _ | refine blk_drew ?_ | refine blk_alloc ?_ _)); refine blk_far ?_ NB218_228.out _; (with_reducible repeat (first | refine blk_drewN ?_ _ | refine blk_drew ?_ | refine blk_alloc ?_ _)); refine blk_far ?_ NB218_228.out _; (with_reducible repeat (first | refine blk_drewN ?_ _ | refine blk_drew ?_ | refine blk_alloc ?_ _)); refine blk_far ?_ NB218_228.out _; (with_reducible repeat (first | refine blk_drewN ?_ _ | refine blk_drew ?_ | refine blk_alloc ?_ _)); refine blk_far ?_ NB218_228.out _; (with_reducible repeat (first | refine blk_drewN ?_ _ | refine blk_drew ?_ | refine blk_alloc ?_ _)); exact BK218.out⟩, ⟨by (with_reducible repeat (first | refine blk_drewN ?_ _ | refine blk_drew ?_ | refine blk_alloc ?_ _)); refine blk_put (cs := #[.int .i64 ((rd_T245 l0_2 x67_3).f0), .int .i64 ((rd_T245 l0_2 x67_3).f1), .int .i64 ((rd_T245 l0_2 x67_3).f2), .slice none 0 0]) ?_ 3 _ rfl; (with_reducible repeat (first | refine blk_drewN ?_ _ | refine blk_drew ?_ | refine blk_alloc ?_ _)); refine blk_put (cs := #[.int .i64 ((rd_T245 l0_2 x67_3).f0), .int .i64 ((rd_T245 l0_2 x67_3).f1), .int .i64 0, .slice none 0 0]) ?_ 2 _ rfl; (with_reducible repeat (first | refine blk_drewN ?_ _ | refine blk_drew ?_ | refine blk_alloc ?_ _)); refine blk_put (cs := #[.int .i64 ((rd_T245 l0_2 x67_3).f0), .int .i64 0, .int .i64 0, .slice none 0 0]) ?_ 1 _ rfl; (with_reducible repeat (first | refine blk_drewN ?_ _ | refine blk_drew ?_ | refine blk_alloc ?_ _)); refine blk_put (cs := #[.int .i64 0, .int .i64 0, .int .i64 0, .slice none 0 0]) ?_ 0 _ rfl; (with_reducible repeat (first | refine blk_drewN ?_ _ | refine blk_drew ?_ | refine blk_alloc ?_ _)); exact BK228.out⟩, ⟨by repeat (first | (with_reducible first | exact HB.out | apply below_alloc | apply pw_below_drewN | apply below_drew1 | refine below_set ?_ GE218.out | refine below_set ?_ GE228.out) | exact HB.out)⟩⟩
                                    · replace c55 := Bool.eq_false_iff.mpr c55
                                      subst c55
                                      have H1 : (impl_GroupOk.j3 k3 l0_2 (l0_2.length : Int) x67_3 true l0_0 a0_1 l0_2 a0_3 a0_4 ((rd_T245 l0_2 x67_3).f0) ((rd_T245 l0_2 x67_3).f1) ((rd_T245 l0_2 x67_3).f2) ((rd_T245 l0_2 x67_3).f3)) = some r := by rw [if_neg (show ¬ (false = true) by decide)] at H; exact H
                                      clear H
                                      have H := H1
                                      clear H1
                                      have H' := Aside0.mk H
                                      clear H
                                      have hnb64 := NB228_218.out
                                      have hnc64 := NB218_228.out
                                      have hcz65_0 : w45.cell? ⟨gb228, 0, none⟩ = some (.int .i64 0) := (blk_cell BK228.out 0).trans rfl
                                      have hcz65_1 : w45.cell? ⟨gb228, 1, none⟩ = some (.int .i64 0) := (blk_cell BK228.out 1).trans rfl
                                      have hcz65_2 : w45.cell? ⟨gb228, 2, none⟩ = some (.int .i64 0) := (blk_cell BK228.out 2).trans rfl
                                      have hcz65_3 : w45.cell? ⟨gb228, 3, none⟩ = some (.slice none 0 0) := (blk_cell BK228.out 3).trans rfl
                                      have hfz65_0 := blk_frozen BK228.out 0
                                      have hfz65_1 := blk_frozen BK228.out 1
                                      have hfz65_2 := blk_frozen BK228.out 2
                                      have hfz65_3 := blk_frozen BK228.out 3
                                      go_wp2_with (first | (go_at_call 112; (with_reducible refine (impl_between.calls ((rd_T245 l0_2 x67_3).f0) 0 (wrap64 (x67_3 - 1)) true _ A52.out).mono ?_); rintro e w' ⟨rfl, ⟨nd, rfl⟩⟩) | (go_at_call 112; (with_reducible refine (impl_between.calls ((rd_T245 l0_2 x67_3).f1) 1 10000 false _ A54.out).mono ?_); rintro e w' ⟨rfl, ⟨nd, rfl⟩⟩))
                                      go_meet
                                      case rel => exact ⟨_, (true), (by first | rfl | (simp; done) | (simp [*]; done)), H', ⟨by have := HJ1.out; have := HK2.out; have := HK3.out; first | omega | exact Nat.le_refl _⟩, ⟨by (with_reducible repeat (first | refine blk_drewN ?_ _ | refine blk_drew ?_ | refine blk_alloc ?_ _)); refine blk_far ?_ NB218_228.out _; (with_reducible repeat (first | refine blk_drewN ?_ _ | refine blk_drew ?_ | refine blk_alloc ?_ _)); refine blk_far ?_ NB218_228.out _; (with_reducible repeat (first | refine blk_drewN ?_ _ | refine blk_drew ?_ | refine blk_alloc ?_ _)); refine blk_far ?_ NB218_228.out _; (with_reducible repeat (first | refine blk_drewN ?_ _ | refine blk_drew ?_ | refine blk_alloc ?_ _)); refine blk_far ?_ NB218_228.out _; (with_reducible repeat (first | refine blk_drewN ?_ _ | refine blk_drew ?_ | refine blk_alloc ?_ _)); exact BK218.out⟩, ⟨by (with_reducible repeat (first | refine blk_drewN ?_ _ | refine blk_drew ?_ | refine blk_alloc ?_ _)); refine blk_put (cs := #[.int .i64 ((rd_T245 l0_2 x67_3).f0), .int .i64 ((rd_T245 l0_2 x67_3).f1), .int .i64 ((rd_T245 l0_2 x67_3).f2), .slice none 0 0]) ?_ 3 _ rfl; (with_reducible repeat (first | refine blk_drewN ?_ _ | refine blk_drew ?_ | refine blk_alloc ?_ _)); refine blk_put (cs := #[.int .i64 ((rd_T245 l0_2 x67_3).f0), .int .i64 ((rd_T245 l0_2 x67_3).f1), .int .i64 0, .slice none 0 0]) ?_ 2 _ rfl; (with_reducible repeat (first | refine blk_drewN ?_ _ | refine blk_drew ?_ | refine blk_alloc ?_ _)); refine blk_put (cs := #[.int .i64 ((rd_T245 l0_2 x67_3).f0), .int .i64 0, .int .i64 0, .slice none 0 0]) ?_ 1 _ rfl; (with_reducible repeat (first | refine blk_drewN ?_ _ | refine blk_drew ?_ | refine blk_alloc ?_ _)); refine blk_put (cs := #[.int .i64 0, .int .i64 0, .int .i64 0, .slice none 0 0]) ?_ 0 _ rfl; (with_reducible repeat (first | refine blk_drewN ?_ _ | refine blk_drew ?_ | refine blk_alloc ?_ _)); exact BK228.out⟩, ⟨by repeat (first | (with_reducible first | exact HB.out | apply below_alloc | apply pw_below_drewN | apply below_drew1 | refine below_set ?_ GE218.out | refine below_set ?_ GE228.out) | exact HB.out)⟩⟩
                                  · replace c53 := Bool.eq_false_iff.mpr c53
                                    subst c53
                                    have H1 : (impl_GroupOk.j3 k3 l0_2 (l0_2.length : Int) x67_3 true l0_0 a0_1 l0_2 a0_3 a0_4 ((rd_T245 l0_2 x67_3).f0) ((rd_T245 l0_2 x67_3).f1) ((rd_T245 l0_2 x67_3).f2) ((rd_T245 l0_2 x67_3).f3)) = some r := by rw [if_neg (show ¬ (false = true) by decide)] at H; exact H
                                    clear H
                                    have H := H1
                                    clear H1
                                    have H' := Aside0.mk H
                                    clear H
                                    have hnb66 := NB228_218.out
                                    have hnc66 := NB218_228.out
                                    have hcz67_0 : w45.cell? ⟨gb228, 0, none⟩ = some (.int .i64 0) := (blk_cell BK228.out 0).trans rfl
                                    have hcz67_1 : w45.cell? ⟨gb228, 1, none⟩ = some (.int .i64 0) := (blk_cell BK228.out 1).trans rfl
                                    have hcz67_2 : w45.cell? ⟨gb228, 2, none⟩ = some (.int .i64 0) := (blk_cell BK228.out 2).trans rfl
                                    have hcz67_3 : w45.cell? ⟨gb228, 3, none⟩ = some (.slice none 0 0) := (blk_cell BK228.out 3).trans rfl
                                    have hfz67_0 := blk_frozen BK228.out 0
                                    have hfz67_1 := blk_frozen BK228.out 1
                                    have hfz67_2 := blk_frozen BK228.out 2
                                    have hfz67_3 := blk_frozen BK228.out 3
                                    go_wp2_with (first | (go_at_call 112; (with_reducible refine (impl_between.calls ((rd_T245 l0_2 x67_3).f0) 0 (wrap64 (x67_3 - 1)) false _ A52.out).mono ?_); rintro e w' ⟨rfl, ⟨nd, rfl⟩⟩))
                                    go_meet
                                    case rel => exact ⟨_, (true), (by first | rfl | (simp; done) | (simp [*]; done)), H', ⟨by have := HJ1.out; have := HK2.out; have := HK3.out; first | omega | exact Nat.le_refl _⟩, ⟨by (with_reducible repeat (first | refine blk_drewN ?_ _ | refine blk_drew ?_ | refine blk_alloc ?_ _)); refine blk_far ?_ NB218_228.out _; (with_reducible repeat (first | refine blk_drewN ?_ _ | refine blk_drew ?_ | refine blk_alloc ?_ _)); refine blk_far ?_ NB218_228.out _; (with_reducible repeat (first | refine blk_drewN ?_ _ | refine blk_drew ?_ | refine blk_alloc ?_ _)); refine blk_far ?_ NB218_228.out _; (with_reducible repeat (first | refine blk_drewN ?_ _ | refine blk_drew ?_ | refine blk_alloc ?_ _)); refine blk_far ?_ NB218_228.out _; (with_reducible repeat (first | refine blk_drewN ?_ _ | refine blk_drew ?_ | refine blk_alloc ?_ _)); exact BK218.out⟩, ⟨by (with_reducible repeat (first | refine blk_drewN ?_ _ | refine blk_drew ?_ | refine blk_alloc ?_ _)); refine blk_put (cs := #[.int .i64 ((rd_T245 l0_2 x67_3).f0), .int .i64 ((rd_T245 l0_2 x67_3).f1), .int .i64 ((rd_T245 l0_2 x67_3).f2), .slice none 0 0]) ?_ 3 _ rfl; (with_reducible repeat (first | refine blk_drewN ?_ _ | refine blk_drew ?_ | refine blk_alloc ?_ _)); refine blk_put (cs := #[.int .i64 ((rd_T245 l0_2 x67_3).f0), .int .i64 ((rd_T245 l0_2 x67_3).f1), .int .i64 0, .slice none 0 0]) ?_ 2 _ rfl; (with_reducible repeat (first | refine blk_drewN ?_ _ | refine blk_drew ?_ | refine blk_alloc ?_ _)); refine blk_put (cs := #[.int .i64 ((rd_T245 l0_2 x67_3).f0), .int .i64 0, .int .i64 0, .slice none 0 0]) ?_ 1 _ rfl; (with_reducible repeat (first | refine blk_drewN ?_ _ | refine blk_drew ?_ | refine blk_alloc ?_ _)); refine blk_put (cs := #[.int .i64 0, .int .i64 0, .int .i64 0, .slice none 0 0]) ?_ 0 _ rfl; (with_reducible repeat (first | refine blk_drewN ?_ _ | refine blk_drew ?_ | refine blk_alloc ?_ _)); exact BK228.out⟩, ⟨by repeat (first | (with_reducible first | exact HB.out | apply below_alloc | apply pw_below_drewN | apply below_drew1 | refine below_set ?_ GE218.out | refine below_set ?_ GE228.out) | exact HB.out)⟩⟩
                                · rw [if_neg c51] at H
                                  have c51b0 : decide (0 < x67_3) = false := decide_eq_false c51
                                  clear c51
                                  replace H := Option.bind_eq_some_iff.mp H
                                  obtain ⟨t232, A680, H⟩ := H
                                  replace H : (if t232 = true then ((impl_between.f ((rd_T245 l0_2 x67_3).f2) 0 (wrap64 (a0_1 - 1))).bind fun t233 => (if t233 = true then (impl_GroupOk.j3 k3 l0_2 (l0_2.length : Int) x67_3 ((((rd_T245 l0_2 x67_3).f3).length : Int) != (l0_0.length : Int)) l0_0 a0_1 l0_2 a0_3 a0_4 ((rd_T245 l0_2 x67_3).f0) ((rd_T245 l0_2 x67_3).f1) ((rd_T245 l0_2 x67_3).f2) ((rd_T245 l0_2 x67_3).f3)) else (impl_GroupOk.j3 k3 l0_2 (l0_2.length : Int) x67_3 true l0_0 a0_1 l0_2 a0_3 a0_4 ((rd_T245 l0_2 x67_3).f0) ((rd_T245 l0_2 x67_3).f1) ((rd_T245 l0_2 x67_3).f2) ((rd_T245 l0_2 x67_3).f3)))) else (impl_GroupOk.j3 k3 l0_2 (l0_2.length : Int) x67_3 true l0_0 a0_1 l0_2 a0_3 a0_4 ((rd_T245 l0_2 x67_3).f0) ((rd_T245 l0_2 x67_3).f1) ((rd_T245 l0_2 x67_3).f2) ((rd_T245 l0_2 x67_3).f3))) = some r := H
                                  have A68 := Aside0.mk A680
                                  clear A680
                                  by_cases c69 : t232 = true
                                  · subst c69
                                    have H1 : ((impl_between.f ((rd_T245 l0_2 x67_3).f2) 0 (wrap64 (a0_1 - 1))).bind fun t233 => (if t233 = true then (impl_GroupOk.j3 k3 l0_2 (l0_2.length : Int) x67_3 ((((rd_T245 l0_2 x67_3).f3).length : Int) != (l0_0.length : Int)) l0_0 a0_1 l0_2 a0_3 a0_4 ((rd_T245 l0_2 x67_3).f0) ((rd_T245 l0_2 x67_3).f1) ((rd_T245 l0_2 x67_3).f2) ((rd_T245 l0_2 x67_3).f3)) else (impl_GroupOk.j3 k3 l0_2 (l0_2.length : Int) x67_3 true l0_0 a0_1 l0_2 a0_3 a0_4 ((rd_T245 l0_2 x67_3).f0) ((rd_T245 l0_2 x67_3).f1) ((rd_T245 l0_2 x67_3).f2) ((rd_T245 l0_2 x67_3).f3)))) = some r := by rw [if_pos rfl] at H; exact H
                                    clear H
                                    have H := H1
                                    clear H1
                                    replace H := Option.bind_eq_some_iff.mp H
                                    obtain ⟨t233, A700, H⟩ := H
                                    replace H : (if t233 = true then (impl_GroupOk.j3 k3 l0_2 (l0_2.length : Int) x67_3 ((((rd_T245 l0_2 x67_3).f3).length : Int) != (l0_0.length : Int)) l0_0 a0_1 l0_2 a0_3 a0_4 ((rd_T245 l0_2 x67_3).f0) ((rd_T245 l0_2 x67_3).f1) ((rd_T245 l0_2 x67_3).f2) ((rd_T245 l0_2 x67_3).f3)) else (impl_GroupOk.j3 k3 l0_2 (l0_2.length : Int) x67_3 true l0_0 a0_1 l0_2 a0_3 a0_4 ((rd_T245 l0_2 x67_3).f0) ((rd_T245 l0_2 x67_3).f1) ((rd_T245 l0_2 x67_3).f2) ((rd_T245 l0_2 x67_3).f3))) = some r := H
                                    have A70 := Aside0.mk A700
                                    clear A700
                                    by_cases c71 : t233 = true
                                    · subst c71
                                      have H1 : (impl_GroupOk.j3 k3 l0_2 (l0_2.length : Int) x67_3 ((((rd_T245 l0_2 x67_3).f3).length : Int) != (l0_0.length : Int)) l0_0 a0_1 l0_2 a0_3 a0_4 ((rd_T245 l0_2 x67_3).f0) ((rd_T245 l0_2 x67_3).f1) ((rd_T245 l0_2 x67_3).f2) ((rd_T245 l0_2 x67_3).f3)) = some r := by rw [if_pos rfl] at H; exact H
                                      clear H
                                      have H := H1
                                      clear H1
                                      have H' := Aside0.mk H
                                      clear H
                                      have hnb72 := NB228_218.out
                                      have hnc72 := NB218_228.out
                                      have hcz73_0 : w45.cell? ⟨gb228, 0, none⟩ = some (.int .i64 0) := (blk_cell BK228.out 0).trans rfl
                                      have hcz73_1 : w45.cell? ⟨gb228, 1, none⟩ = some (.int .i64 0) := (blk_cell BK228.out 1).trans rfl
                                      have hcz73_2 : w45.cell? ⟨gb228, 2, none⟩ = some (.int .i64 0) := (blk_cell BK228.out 2).trans rfl
                                      have hcz73_3 : w45.cell? ⟨gb228, 3, none⟩ = some (.slice none 0 0) := (blk_cell BK228.out 3).trans rfl
                                      have hfz73_0 := blk_frozen BK228.out 0
                                      have hfz73_1 := blk_frozen BK228.out 1
                                      have hfz73_2 := blk_frozen BK228.out 2
                                      have hfz73_3 := blk_frozen BK228.out 3
                                      go_wp2_with (first | (go_at_call 112; (with_reducible refine (impl_between.calls ((rd_T245 l0_2 x67_3).f1) 1 10000 true _ A68.out).mono ?_); rintro e w' ⟨rfl, ⟨nd, rfl⟩⟩; have hcz74_0 : w45.cell? ⟨gb218, 0, none⟩ = some (.slice A0_0 l0_0.length c0_0) := (blk_cell BK218.out 0).trans rfl; have hcz74_1 : w45.cell? ⟨gb218, 1, none⟩ = some (.int .i64 a0_1) := (blk_cell BK218.out 1).trans rfl; have hcz74_2 : w45.cell? ⟨gb218, 2, none⟩ = some (.slice (some ad227) l0_2.length c0_2) := (blk_cell BK218.out 2).trans rfl; have hcz74_3 : w45.cell? ⟨gb218, 3, none⟩ = some (.int .i64 a0_3) := (blk_cell BK218.out 3).trans rfl; have hcz74_4 : w45.cell? ⟨gb218, 4, none⟩ = some (.int .i64 a0_4) := (blk_cell BK218.out 4).trans rfl; have hfz74_0 := blk_frozen BK218.out 0; have hfz74_1 := blk_frozen BK218.out 1; have hfz74_2 := blk_frozen BK218.out 2; have hfz74_3 := blk_frozen BK218.out 3; have hfz74_4 := blk_frozen BK218.out 4) | (go_at_call 112; (with_reducible refine (impl_between.calls ((rd_T245 l0_2 x67_3).f2) 0 (wrap64 (a0_1 - 1)) true _ A70.out).mono ?_); rintro e w' ⟨rfl, ⟨nd, rfl⟩⟩))
                                      go_meet
                                      case rel => exact ⟨_, (((((rd_T245 l0_2 x67_3).f3).length : Int) != (l0_0.length : Int))), (by first | rfl | (simp; done) | (simp [*]; done)), H', ⟨by have := HJ1.out; have := HK2.out; have := HK3.out; first | omega | exact Nat.le_refl _⟩, ⟨by (with_reducible repeat (first | refine blk_drewN ?_ _ | refine blk_drew ?_ | refine blk_alloc ?_ _)); refine blk_far ?_ NB218_228.out _; (with_reducible repeat (first | refine blk_drewN ?_ _ | refine blk_drew ?_ | refine blk_alloc ?_ _)); refine blk_far ?_ NB218_228.out _; (with_reducible repeat (first | refine blk_drewN ?_ _ | refine blk_drew ?_ | refine blk_alloc ?_ _)); refine blk_far ?_ NB218_228.out _; (with_reducible repeat (first | refine blk_drewN ?_ _ | refine blk_drew ?_ | refine blk_alloc ?_ _)); refine blk_far ?_ NB218_228.out _; (with_reducible repeat (first | refine blk_drewN ?_ _ | refine blk_drew ?_ | refine blk_alloc ?_ _)); exact BK218.out⟩, ⟨by (with_reducible repeat (first | refine blk_drewN ?_ _ | refine blk_drew ?_ | refine blk_alloc ?_ _)); refine blk_put (cs := #[.int .i64 ((rd_T245 l0_2 x67_3).f0), .int .i64 ((rd_T245 l0_2 x67_3).f1), .int .i64 ((rd_T245 l0_2 x67_3).f2), .slice none 0 0]) ?_ 3 _ rfl; (with_reducible repeat (first | refine blk_drewN ?_ _ | refine blk_drew ?_ | refine blk_alloc ?_ _)); refine blk_put (cs := #[.int .i64 ((rd_T245 l0_2 x67_3).f0), .int .i64 ((rd_T245 l0_2 x67_3).f1), .int .i64 0, .slice none 0 0]) ?_ 2 _ rfl; (with_reducible repeat (first | refine blk_drewN ?_ _ | refine blk_drew ?_ | refine blk_alloc ?_ _)); refine blk_put (cs := #[.int .i64 ((rd_T245 l0_2 x67_3).f0), .int .i64 0, .int .i64 0, .slice none 0 0]) ?_ 1 _ rfl; (with_reducible repeat (first | refine blk_drewN ?_ _ | refine blk_drew ?_ | refine blk_alloc ?_ _)); refine blk_put (cs := #[.int .i64 0, .int .i64 0, .int .i64 0, .slice none 0 0]) ?_ 0 _ rfl; (with_reducible repeat (first | refine blk_drewN ?_ _ | refine blk_drew ?_ | refine blk_alloc ?_ _)); exact BK228.out⟩, ⟨by repeat (first | (with_reducible first | exact HB.out | apply below_alloc | apply pw_below_drewN | apply below_drew1 | refine below_set ?_ GE218.out | refine below_set ?_ GE228.out) | exact HB.out)⟩⟩
                                    · replace c71 := Bool.eq_false_iff.mpr c71
                                      subst c71
                                      have H1 : (impl_GroupOk.j3 k3 l0_2 (l0_2.length : Int) x67_3 true l0_0 a0_1 l0_2 a0_3 a0_4 ((rd_T245 l0_2 x67_3).f0) ((rd_T245 l0_2 x67_3).f1) ((rd_T245 l0_2 x67_3).f2) ((rd_T245 l0_2 x67_3).f3)) = some r := by rw [if_neg (show ¬ (false = true) by decide)] at H; exact H
                                      clear H
                                      have H := H1
                                      clear H1
                                      have H' := Aside0.mk H
                                      clear H
                                      have hnb75 := NB228_218.out
                                      have hnc75 := NB218_228.out
                                      have hcz76_0 : w45.cell? ⟨gb228, 0, none⟩ = some (.int .i64 0) := (blk_cell BK228.out 0).trans rfl
                                      have hcz76_1 : w45.cell? ⟨gb228, 1, none⟩ = some (.int .i64 0) := (blk_cell BK228.out 1).trans rfl
                                      have hcz76_2 : w45.cell? ⟨gb228, 2, none⟩ = some (.int .i64 0) := (blk_cell BK228.out 2).trans rfl
                                      have hcz76_3 : w45.cell? ⟨gb228, 3, none⟩ = some (.slice none 0 0) := (blk_cell BK228.out 3).trans rfl
                                      have hfz76_0 := blk_frozen BK228.out 0
                                      have hfz76_1 := blk_frozen BK228.out 1
                                      have hfz76_2 := blk_frozen BK228.out 2
                                      have hfz76_3 := blk_frozen BK228.out 3
                                      go_wp2_with (first | (go_at_call 112; (with_reducible refine (impl_between.calls ((rd_T245 l0_2 x67_3).f1) 1 10000 true _ A68.out).mono ?_); rintro e w' ⟨rfl, ⟨nd, rfl⟩⟩; have hcz77_0 : w45.cell? ⟨gb218, 0, none⟩ = some (.slice A0_0 l0_0.length c0_0) := (blk_cell BK218.out 0).trans rfl; have hcz77_1 : w45.cell? ⟨gb218, 1, none⟩ = some (.int .i64 a0_1) := (blk_cell BK218.out 1).trans rfl; have hcz77_2 : w45.cell? ⟨gb218, 2, none⟩ = some (.slice (some ad227) l0_2.length c0_2) := (blk_cell BK218.out 2).trans rfl; have hcz77_3 : w45.cell? ⟨gb218, 3, none⟩ = some (.int .i64 a0_3) := (blk_cell BK218.out 3).trans rfl; have hcz77_4 : w45.cell? ⟨gb218, 4, none⟩ = some (.int .i64 a0_4) := (blk_cell BK218.out 4).trans rfl; have hfz77_0 := blk_frozen BK218.out 0; have hfz77_1 := blk_frozen BK218.out 1; have hfz77_2 := blk_frozen BK218.out 2; have hfz77_3 := blk_frozen BK218.out 3; have hfz77_4 := blk_frozen BK218.out 4) | (go_at_call 112; (with_reducible refine (impl_between.calls ((rd_T245 l0_2 x67_3).f2) 0 (wrap64 (a0_1 - 1)) false _ A70.out).mono ?_); rintro e w' ⟨rfl, ⟨nd, rfl⟩⟩))
                                      go_meet
                                      case rel => exact ⟨_, (true), (by first | rfl | (simp; done) | (simp [*]; done)), H', ⟨by have := HJ1.out; have := HK2.out; have := HK3.out; first | omega | exact Nat.le_refl _⟩, ⟨by (with_reducible repeat (first | refine blk_drewN ?_ _ | refine blk_drew ?_ | refine blk_alloc ?_ _)); refine blk_far ?_ NB218_228.out _; (with_reducible repeat (first | refine blk_drewN ?_ _ | refine blk_drew ?_ | refine blk_alloc ?_ _)); refine blk_far ?_ NB218_228.out _; (with_reducible repeat (first | refine blk_drewN ?_ _ | refine blk_drew ?_ | refine blk_alloc ?_ _)); refine blk_far ?_ NB218_228.out _; (with_reducible repeat (first | refine blk_drewN ?_ _ | refine blk_drew ?_ | refine blk_alloc ?_ _)); refine blk_far ?_ NB218_228.out _; (with_reducible repeat (first | refine blk_drewN ?_ _ | refine blk_drew ?_ | refine blk_alloc ?_ _)); exact BK218.out⟩, ⟨by (with_reducible repeat (first | refine blk_drewN ?_ _ | refine blk_drew ?_ | refine blk_alloc ?_ _)); refine blk_put (cs := #[.int .i64 ((rd_T245 l0_2 x67_3).f0), .int .i64 ((rd_T245 l0_2 x67_3).f1), .int .i64 ((rd_T245 l0_2 x67_3).f2), .slice none 0 0]) ?_ 3 _ rfl; (with_reducible repeat (first | refine blk_drewN ?_ _ | refine blk_drew ?_ | refine blk_alloc ?_ _)); refine blk_put (cs := #[.int .i64 ((rd_T245 l0_2 x67_3).f0), .int .i64 ((rd_T245 l0_2 x67_3).f1), .int .i64 0, .slice none 0 0]) ?_ 2 _ rfl; (with_reducible repeat (first | refine blk_drewN ?_ _ | refine blk_drew ?_ | refine blk_alloc ?_ _)); refine blk_put (cs := #[.int .i64 ((rd_T245 l0_2 x67_3).f0), .int .i64 0, .int .i64 0, .slice none 0 0]) ?_ 1 _ rfl; (with_reducible repeat (first | refine blk_drewN ?_ _ | refine blk_drew ?_ | refine blk_alloc ?_ _)); refine blk_put (cs := #[.int .i64 0, .int .i64 0, .int .i64 0, .slice none 0 0]) ?_ 0 _ rfl; (with_reducible repeat (first | refine blk_drewN ?_ _ | refine blk_drew ?_ | refine blk_alloc ?_ _)); exact BK228.out⟩, ⟨by repeat (first | (with_reducible first | exact HB.out | apply below_alloc | apply pw_below_drewN | apply below_drew1 | refine below_set ?_ GE218.out | refine below_set ?_ GE228.out) | exact HB.out)⟩⟩
                                  · replace c69 := Bool.eq_false_iff.mpr c69
                                    subst c69
                                    have H1 : (impl_GroupOk.j3 k3 l0_2 (l0_2.length : Int) x67_3 true l0_0 a0_1 l0_2 a0_3 a0_4 ((rd_T245 l0_2 x67_3).f0) ((rd_T245 l0_2 x67_3).f1) ((rd_T245 l0_2 x67_3).f2) ((rd_T245 l0_2 x67_3).f3)) = some r := by rw [if_neg (show ¬ (false = true) by decide)] at H; exact H
                                    clear H
                                    have H := H1
                                    clear H1
                                    have H' := Aside0.mk H
                                    clear H
                                    have hnb78 := NB228_218.out
                                    have hnc78 := NB218_228.out
                                    have hcz79_0 : w45.cell? ⟨gb228, 0, none⟩ = some (.int .i64 0) := (blk_cell BK228.out 0).trans rfl
                                    have hcz79_1 : w45.cell? ⟨gb228, 1, none⟩ = some (.int .i64 0) := (blk_cell BK228.out 1).trans rfl
                                    have hcz79_2 : w45.cell? ⟨gb228, 2, none⟩ = some (.int .i64 0) := (blk_cell BK228.out 2).trans rfl
                                    have hcz79_3 : w45.cell? ⟨gb228, 3, none⟩ = some (.slice none 0 0) := (blk_cell BK228.out 3).trans rfl
                                    have hfz79_0 := blk_frozen BK228.out 0
                                    have hfz79_1 := blk_frozen BK228.out 1
                                    have hfz79_2 := blk_frozen BK228.out 2
                                    have hfz79_3 := blk_frozen BK228.out 3
                                    go_wp2_with (first | (go_at_call 112; (with_reducible refine (impl_between.calls ((rd_T245 l0_2 x67_3).f1) 1 10000 false _ A68.out).mono ?_); rintro e w' ⟨rfl, ⟨nd, rfl⟩⟩))
                                    go_meet
                                    case rel => exact ⟨_, (true), (by first | rfl | (simp; done) | (simp [*]; done)), H', ⟨by have := HJ1.out; have := HK2.out; have := HK3.out; first | omega | exact Nat.le_refl _⟩, ⟨by (with_reducible repeat (first | refine blk_drewN ?_ _ | refine blk_drew ?_ | refine blk_alloc ?_ _)); refine blk_far ?_ NB218_228.out _; (with_reducible repeat (first | refine blk_drewN ?_ _ | refine blk_drew ?_ | refine blk_alloc ?_ _)); refine blk_far ?_ NB218_228.out _; (with_reducible repeat (first | refine blk_drewN ?_ _ | refine blk_drew ?_ | refine blk_alloc ?_ _)); refine blk_far ?_ NB218_228.out _; (with_reducible repeat (first | refine blk_drewN ?_ _ | refine blk_drew ?_ | refine blk_alloc ?_ _)); refine blk_far ?_ NB218_228.out _; (with_reducible repeat (first | refine blk_drewN ?_ _ | refine blk_drew ?_ | refine blk_alloc ?_ _)); exact BK218.out⟩, ⟨by (with_reducible repeat (first | refine blk_drewN ?_ _ | refine blk_drew ?_ | refine blk_alloc ?_ _)); refine blk_put (cs := #[.int .i64 ((rd_T245 l0_2 x67_3).f0), .int .i64 ((rd_T245 l0_2 x67_3).f1), .int .i64 ((rd_T245 l0_2 x67_3).f2), .slice none 0 0]) ?_ 3 _ rfl; (with_reducible repeat (first | refine blk_drewN ?_ _ | refine blk_drew ?_ | refine blk_alloc ?_ _)); refine blk_put (cs := #[.int .i64 ((rd_T245 l0_2 x67_3).f0), .int .i64 ((rd_T245 l0_2 x67_3).f1), .int .i64 0, .slice none 0 0]) ?_ 2 _ rfl; (with_reducible repeat (first | refine blk_drewN ?_ _ | refine blk_drew ?_ | refine blk_alloc ?_ _)); refine blk_put (cs := #[.int .i64 ((rd_T245 l0_2 x67_3).f0), .int .i64 0, .int .i64 0, .slice none 0 0]) ?_ 1 _ rfl; (with_reducible repeat (first | refine blk_drewN ?_ _ | refine blk_drew ?_ | refine blk_alloc ?_ _)); refine blk_put (cs := #[.int .i64 0, .int .i64 0, .int .i64 0, .slice none 0 0]) ?_ 0 _ rfl; (with_reducible repeat (first | refine blk_drewN ?_ _ | refine blk_drew ?_ | refine blk_alloc ?_ _)); exact BK228.out⟩, ⟨by repeat (first | (with_reducible first | exact HB.out | apply below_alloc | apply pw_below_drewN | apply below_drew1 | refine below_set ?_ GE218.out | refine below_set ?_ GE228.out) | exact HB.out)⟩⟩
                              · rw [if_neg c50] at H
                                have c50b0 : (((rd_T245 l0_2 x67_3).f1) == 10000) = false := beq_eq_false_iff_ne.mpr c50
                                have c50b1 : (((rd_T245 l0_2 x67_3).f1) != 10000) = true := bne_iff_ne.mpr c50
                                have H' := Aside0.mk H
                                clear H
                                have hnb80 := NB228_218.out
                                have hnc80 := NB218_228.out
                                have hcz81_0 : w45.cell? ⟨gb228, 0, none⟩ = some (.int .i64 0) := (blk_cell BK228.out 0).trans rfl
                                have hcz81_1 : w45.cell? ⟨gb228, 1, none⟩ = some (.int .i64 0) := (blk_cell BK228.out 1).trans rfl
                                have hcz81_2 : w45.cell? ⟨gb228, 2, none⟩ = some (.int .i64 0) := (blk_cell BK228.out 2).trans rfl
                                have hcz81_3 : w45.cell? ⟨gb228, 3, none⟩ = some (.slice none 0 0) := (blk_cell BK228.out 3).trans rfl
                                have hfz81_0 := blk_frozen BK228.out 0
                                have hfz81_1 := blk_frozen BK228.out 1
                                have hfz81_2 := blk_frozen BK228.out 2
                                have hfz81_3 := blk_frozen BK228.out 3
                                go_wp2
                                go_meet
                                case rel => exact ⟨_, (true), (by first | rfl | (simp; done) | (simp [*]; done)), H', ⟨by have := HJ1.out; have := HK2.out; have := HK3.out; first | omega | exact Nat.le_refl _⟩, ⟨by (with_reducible repeat (first | refine blk_drewN ?_ _ | refine blk_drew ?_ | refine blk_alloc ?_ _)); refine blk_far ?_ NB218_228.out _; (with_reducible repeat (first | refine blk_drewN ?_ _ | refine blk_drew ?_ | refine blk_alloc ?_ _)); refine blk_far ?_ NB218_228.out _; (with_reducible repeat (first | refine blk_drewN ?_ _ | refine blk_drew ?_ | refine blk_alloc ?_ _)); refine blk_far ?_ NB218_228.out _; (with_reducible repeat (first | refine blk_drewN ?_ _ | refine blk_drew ?_ | refine blk_alloc ?_ _)); refine blk_far ?_ NB218_228.out _; (with_reducible repeat (first | refine blk_drewN ?_ _ | refine blk_drew ?_ | refine blk_alloc ?_ _)); exact BK218.out⟩, ⟨by (with_reducible repeat (first | refine blk_drewN ?_ _ | refine blk_drew ?_ | refine blk_alloc ?_ _)); refine blk_put (cs := #[.int .i64 ((rd_T245 l0_2 x67_3).f0), .int .i64 ((rd_T245 l0_2 x67_3).f1), .int .i64 ((rd_T245 l0_2 x67_3).f2), .slice none 0 0]) ?_ 3 _ rfl; (with_reducible repeat (first | refine blk_drewN ?_ _ | refine blk_drew ?_ | refine blk_alloc ?_ _)); refine blk_put (cs := #[.int .i64 ((rd_T245 l0_2 x67_3).f0), .int .i64 ((rd_T245 l0_2 x67_3).f1), .int .i64 0, .slice none 0 0]) ?_ 2 _ rfl; (with_reducible repeat (first | refine blk_drewN ?_ _ | refine blk_drew ?_ | refine blk_alloc ?_ _)); refine blk_put (cs := #[.int .i64 ((rd_T245 l0_2 x67_3).f0), .int .i64 0, .int .i64 0, .slice none 0 0]) ?_ 1 _ rfl; (with_reducible repeat (first | refine blk_drewN ?_ _ | refine blk_drew ?_ | refine blk_alloc ?_ _)); refine blk_put (cs := #[.int .i64 0, .int .i64 0, .int .i64 0, .slice none 0 0]) ?_ 0 _ rfl; (with_reducible repeat (first | refine blk_drewN ?_ _ | refine blk_drew ?_ | refine blk_alloc ?_ _)); exact BK228.out⟩, ⟨by repeat (first | (with_reducible first | exact HB.out | apply below_alloc | apply pw_below_drewN | apply below_drew1 | refine below_set ?_ GE218.out | refine below_set ?_ GE228.out) | exact HB.out)⟩⟩
                            · rw [if_neg c49] at H
                              have c49b0 : (((rd_T245 l0_2 x67_3).f0) == (-1)) = false := beq_eq_false_iff_ne.mpr c49
                              have c49b1 : (((rd_T245 l0_2 x67_3).f0) != (-1)) = true := bne_iff_ne.mpr c49
                              have H' := Aside0.mk H
                              clear H
                              have hnb82 := NB228_218.out
                              have hnc82 := NB218_228.out
                              have hcz83_0 : w45.cell? ⟨gb228, 0, none⟩ = some (.int .i64 0) := (blk_cell BK228.out 0).trans rfl
                              have hcz83_1 : w45.cell? ⟨gb228, 1, none⟩ = some (.int .i64 0) := (blk_cell BK228.out 1).trans rfl
                              have hcz83_2 : w45.cell? ⟨gb228, 2, none⟩ = some (.int .i64 0) := (blk_cell BK228.out 2).trans rfl
                              have hcz83_3 : w45.cell? ⟨gb228, 3, none⟩ = some (.slice none 0 0) := (blk_cell BK228.out 3).trans rfl
                              have hfz83_0 := blk_frozen BK228.out 0
                              have hfz83_1 := blk_frozen BK228.out 1
                              have hfz83_2 := blk_frozen BK228.out 2
                              have hfz83_3 := blk_frozen BK228.out 3
                              go_wp2
                              go_meet
                              case rel => exact ⟨_, (true), (by first | rfl | (simp; done) | (simp [*]; done)), H', ⟨by have := HJ1.out; have := HK2.out; have := HK3.out; first | omega | exact Nat.le_refl _⟩, ⟨by (with_reducible repeat (first | refine blk_drewN ?_ _ | refine blk_drew ?_ | refine blk_alloc ?_ _)); refine blk_far ?_ NB218_228.out _; (with_reducible repeat (first | refine blk_drewN ?_ _ | refine blk_drew ?_ | refine blk_alloc ?_ _)); refine blk_far ?_ NB218_228.out _; (with_reducible repeat (first | refine blk_drewN ?_ _ | refine blk_drew ?_ | refine blk_alloc ?_ _)); refine blk_far ?_ NB218_228.out _; (with_reducible repeat (first | refine blk_drewN ?_ _ | refine blk_drew ?_ | refine blk_alloc ?_ _)); refine blk_far ?_ NB218_228.out _; (with_reducible repeat (first | refine blk_drewN ?_ _ | refine blk_drew ?_ | refine blk_alloc ?_ _)); exact BK218.out⟩, ⟨by (with_reducible repeat (first | refine blk_drewN ?_ _ | refine blk_drew ?_ | refine blk_alloc ?_ _)); refine blk_put (cs := #[.int .i64 ((rd_T245 l0_2 x67_3).f0), .int .i64 ((rd_T245 l0_2 x67_3).f1), .int .i64 ((rd_T245 l0_2 x67_3).f2), .slice none 0 0]) ?_ 3 _ rfl; (with_reducible repeat (first | refine blk_drewN ?_ _ | refine blk_drew ?_ | refine blk_alloc ?_ _)); refine blk_put (cs := #[.int .i64 ((rd_T245 l0_2 x67_3).f0), .int .i64 ((rd_T245 l0_2 x67_3).f1), .int .i64 0, .slice none 0 0]) ?_ 2 _ rfl; (with_reducible repeat (first | refine blk_drewN ?_ _ | refine blk_drew ?_ | refine blk_alloc ?_ _)); refine blk_put (cs := #[.int .i64 ((rd_T245 l0_2 x67_3).f0), .int .i64 0, .int .i64 0, .slice none 0 0]) ?_ 1 _ rfl; (with_reducible repeat (first | refine blk_drewN ?_ _ | refine blk_drew ?_ | refine blk_alloc ?_ _)); refine blk_put (cs := #[.int .i64 0, .int .i64 0, .int .i64 0, .slice none 0 0]) ?_ 0 _ rfl; (with_reducible repeat (first | refine blk_drewN ?_ _ | refine blk_drew ?_ | refine blk_alloc ?_ _)); exact BK228.out⟩, ⟨by repeat (first | (with_reducible first | exact HB.out | apply below_alloc | apply pw_below_drewN | apply below_drew1 | refine below_set ?_ GE218.out | refine below_set ?_ GE228.out) | exact HB.out)⟩⟩
                          · rw [if_neg c48] at H
                            have c48b0 : (x67_3 == 0) = false := beq_eq_false_iff_ne.mpr c48
                            have c48b1 : (x67_3 != 0) = true := bne_iff_ne.mpr c48
                            (first | rw [c48b0] | (simp only [i64_w, i32_w]; rw [c48b0]) | skip)
                            by_cases c84 : x67_3 > 0
                            · rw [if_pos c84] at H
                              have c84b0 : decide (0 < x67_3) = true := decide_eq_true c84
                              clear c84
                              replace H := Option.bind_eq_some_iff.mp H
                              obtain ⟨t234, A850, H⟩ := H
                              replace H : (if t234 = true then ((impl_between.f ((rd_T245 l0_2 x67_3).f1) 1 10000).bind fun t235 => (if t235 = true then ((impl_between.f ((rd_T245 l0_2 x67_3).f2) 0 (wrap64 (a0_1 - 1))).bind fun t236 => (if t236 = true then (impl_GroupOk.j3 k3 l0_2 (l0_2.length : Int) x67_3 ((((rd_T245 l0_2 x67_3).f3).length : Int) != (l0_0.length : Int)) l0_0 a0_1 l0_2 a0_3 a0_4 ((rd_T245 l0_2 x67_3).f0) ((rd_T245 l0_2 x67_3).f1) ((rd_T245 l0_2 x67_3).f2) ((rd_T245 l0_2 x67_3).f3)) else (impl_GroupOk.j3 k3 l0_2 (l0_2.length : Int) x67_3 true l0_0 a0_1 l0_2 a0_3 a0_4 ((rd_T245 l0_2 x67_3).f0) ((rd_T245 l0_2 x67_3).f1) ((rd_T245 l0_2 x67_3).f2) ((rd_T245 l0_2 x67_3).f3)))) else (impl_GroupOk.j3 k3 l0_2 (l0_2.length : Int) x67_3 true l0_0 a0_1 l0_2 a0_3 a0_4 ((rd_T245 l0_2 x67_3).f0) ((rd_T245 l0_2 x67_3).f1) ((rd_T245 l0_2 x67_3).f2) ((rd_T245 l0_2 x67_3).f3)))) else (impl_GroupOk.j3 k3 l0_2 (l0_2.length : Int) x67_3 true l0_0 a0_1 l0_2 a0_3 a0_4 ((rd_T245 l0_2 x67_3).f0) ((rd_T245 l0_2 x67_3).f1) ((rd_T245 l0_2 x67_3).f2) ((rd_T245 l0_2 x67_3).f3))) = some r := H
                              have A85 := Aside0.mk A850
                              clear A850
                              by_cases c86 : t234 = true
                              · subst c86
                                have H1 : ((impl_between.f ((rd_T245 l0_2 x67_3).f1) 1 10000).bind fun t235 => (if t235 = true then ((impl_between.f ((rd_T245 l0_2 x67_3).f2) 0 (wrap64 (a0_1 - 1))).bind fun t236 => (if t236 = true then (impl_GroupOk.j3 k3 l0_2 (l0_2.length : Int) x67_3 ((((rd_T245 l0_2 x67_3).f3).length : Int) != (l0_0.length : Int)) l0_0 a0_1 l0_2 a0_3 a0_4 ((rd_T245 l0_2 x67_3).f0) ((rd_T245 l0_2 x67_3).f1) ((rd_T245 l0_2 x67_3).f2) ((rd_T245 l0_2 x67_3).f3)) else (impl_GroupOk.j3 k3 l0_2 (l0_2.length : Int) x67_3 true l0_0 a0_1 l0_2 a0_3 a0_4 ((rd_T245 l0_2 x67_3).f0) ((rd_T245 l0_2 x67_3).f1) ((rd_T245 l0_2 x67_3).f2) ((rd_T245 l0_2 x67_3).f3)))) else (impl_GroupOk.j3 k3 l0_2 (l0_2.length : Int) x67_3 true l0_0 a0_1 l0_2 a0_3 a0_4 ((rd_T245 l0_2 x67_3).f0) ((rd_T245 l0_2 x67_3).f1) ((rd_T245 l0_2 x67_3).f2) ((rd_T245 l0_2 x67_3).f3)))) = some r := by rw [if_pos rfl] at H; exact H
                                clear H
                                have H := H1
                                clear H1
                                replace H := Option.bind_eq_some_iff.mp H
                                obtain ⟨t235, A870, H⟩ := H
                                replace H : (if t235 = true then ((impl_between.f ((rd_T245 l0_2 x67_3).f2) 0 (wrap64 (a0_1 - 1))).bind fun t236 => (if t236 = true then (impl_GroupOk.j3 k3 l0_2 (l0_2.length : Int) x67_3 ((((rd_T245 l0_2 x67_3).f3).length : Int) != (l0_0.length : Int)) l0_0 a0_1 l0_2 a0_3 a0_4 ((rd_T245 l0_2 x67_3).f0) ((rd_T245 l0_2 x67_3).f1) ((rd_T245 l0_2 x67_3).f2) ((rd_T245 l0_2 x67_3).f3)) else (impl_GroupOk.j3 k3 l0_2 (l0_2.length : Int) x67_3 true l0_0 a0_1 l0_2 a0_3 a0_4 ((rd_T245 l0_2 x67_3).f0) ((rd_T245 l0_2 x67_3).f1) ((rd_T245 l0_2 x67_3).f2) ((rd_T245 l0_2 x67_3).f3)))) else (impl_GroupOk.j3 k3 l0_2 (l0_2.length : Int) x67_3 true l0_0 a0_1 l0_2 a0_3 a0_4 ((rd_T245 l0_2 x67_3).f0) ((rd_T245 l0_2 x67_3).f1) ((rd_T245 l0_2 x67_3).f2) ((rd_T245 l0_2 x67_3).f3))) = some r := H
                                have A87 := Aside0.mk A870
                                clear A870
                                by_cases c88 : t235 = true
                                · subst c88
                                  have H1 : ((impl_between.f ((rd_T245 l0_2 x67_3).f2) 0 (wrap64 (a0_1 - 1))).bind fun t236 => (if t236 = true then (impl_GroupOk.j3 k3 l0_2 (l0_2.length : Int) x67_3 ((((rd_T245 l0_2 x67_3).f3).length : Int) != (l0_0.length : Int)) l0_0 a0_1 l0_2 a0_3 a0_4 ((rd_T245 l0_2 x67_3).f0) ((rd_T245 l0_2 x67_3).f1) ((rd_T245 l0_2 x67_3).f2) ((rd_T245 l0_2 x67_3).f3)) else (impl_GroupOk.j3 k3 l0_2 (l0_2.length : Int) x67_3 true l0_0 a0_1 l0_2 a0_3 a0_4 ((rd_T245 l0_2 x67_3).f0) ((rd_T245 l0_2 x67_3).f1) ((rd_T245 l0_2 x67_3).f2) ((rd_T245 l0_2 x67_3).f3)))) = some r := by rw [if_pos rfl] at H; exact H
                                  clear H
                                  have H := H1
                                  clear H1
                                  replace H := Option.bind_eq_some_iff.mp H
                                  obtain ⟨t236, A890, H⟩ := H
                                  replace H : (if t236 = true then (impl_GroupOk.j3 k3 l0_2 (l0_2.length : Int) x67_3 ((((rd_T245 l0_2 x67_3).f3).length : Int) != (l0_0.length : Int)) l0_0 a0_1 l0_2 a0_3 a0_4 ((rd_T245 l0_2 x67_3).f0) ((rd_T245 l0_2 x67_3).f1) ((rd_T245 l0_2 x67_3).f2) ((rd_T245 l0_2 x67_3).f3)) else (impl_GroupOk.j3 k3 l0_2 (l0_2.length : Int) x67_3 true l0_0 a0_1 l0_2 a0_3 a0_4 ((rd_T245 l0_2 x67_3).f0) ((rd_T245 l0_2 x67_3).f1) ((rd_T245 l0_2 x67_3).f2) ((rd_T245 l0_2 x67_3).f3))) = some r := H
                                  have A89 := Aside0.mk A890
                                  clear A890
                                  by_cases c90 : t236 = true
                                  · subst c90
                                    have H1 : (impl_GroupOk.j3 k3 l0_2 (l0_2.length : Int) x67_3 ((((rd_T245 l0_2 x67_3).f3).length : Int) != (l0_0.length : Int)) l0_0 a0_1 l0_2 a0_3 a0_4 ((rd_T245 l0_2 x67_3).f0) ((rd_T245 l0_2 x67_3).f1) ((rd_T245 l0_2 x67_3).f2) ((rd_T245 l0_2 x67_3).f3)) = some r := by rw [if_pos rfl] at H; exact H
                                    clear H
                                    have H := H1
                                    clear H1
                                    have H' := Aside0.mk H
                                    clear H
                                    have hnb91 := NB228_218.out
                                    have hnc91 := NB218_228.out
                                    have hcz92_0 : w45.cell? ⟨gb228, 0, none⟩ = some (.int .i64 0) := (blk_cell BK228.out 0).trans rfl
                                    have hcz92_1 : w45.cell? ⟨gb228, 1, none⟩ = some (.int .i64 0) := (blk_cell BK228.out 1).trans rfl
                                    have hcz92_2 : w45.cell? ⟨gb228, 2, none⟩ = some (.int .i64 0) := (blk_cell BK228.out 2).trans rfl
                                    have hcz92_3 : w45.cell? ⟨gb228, 3, none⟩ = some (.slice none 0 0) := (blk_cell BK228.out 3).trans rfl
                                    have hfz92_0 := blk_frozen BK228.out 0
                                    have hfz92_1 := blk_frozen BK228.out 1
                                    have hfz92_2 := blk_frozen BK228.out 2
                                    have hfz92_3 := blk_frozen BK228.out 3
                                    go_wp2_with (first | (go_at_call 112; (with_reducible refine (impl_between.calls ((rd_T245 l0_2 x67_3).f0) 0 (wrap64 (x67_3 - 1)) true _ A85.out).mono ?_); rintro e w' ⟨rfl, ⟨nd, rfl⟩⟩) | (go_at_call 112; (with_reducible refine (impl_between.calls ((rd_T245 l0_2 x67_3).f1) 1 10000 true _ A87.out).mono ?_); rintro e w' ⟨rfl, ⟨nd, rfl⟩⟩; have hcz93_0 : w45.cell? ⟨gb218, 0, none⟩ = some (.slice A0_0 l0_0.length c0_0) := (blk_cell BK218.out 0).trans rfl; have hcz93_1 : w45.cell? ⟨gb218, 1, none⟩ = some (.int .i64 a0_1) := (blk_cell BK218.out 1).trans rfl; have hcz93_2 : w45.cell? ⟨gb218, 2, none⟩ = some (.slice (some ad227) l0_2.length c0_2) := (blk_cell BK218.out 2).trans rfl; have hcz93_3 : w45.cell? ⟨gb218, 3, none⟩ = some (.int .i64 a0_3) := (blk_cell BK218.out 3).trans rfl; have hcz93_4 : w45.cell? ⟨gb218, 4, none⟩ = some (.int .i64 a0_4) := (blk_cell BK218.out 4).trans rfl; have hfz93_0 := blk_frozen BK218.out 0; have hfz93_1 := blk_frozen BK218.out 1; have hfz93_2 := blk_frozen BK218.out 2; have hfz93_3 := blk_frozen BK218.out 3; have hfz93_4 := blk_frozen BK218.out 4) | (go_at_call 112; (with_reducible refine (impl_between.calls ((rd_T245 l0_2 x67_3).f2) 0 (wrap64 (a0_1 - 1)) true _ A89.out).mono ?_); rintro e w' ⟨rfl, ⟨nd, rfl⟩⟩))
                                    go_meet
                                    case rel => exact ⟨_, (((((rd_T245 l0_2 x67_3).f3).length : Int) != (l0_0.length : Int))), (by first | rfl | (simp; done) | (simp [*]; done)), H', ⟨by have := HJ1.out; have := HK2.out; have := HK3.out; first | omega | exact Nat.le_refl _⟩, ⟨by (with_reducible repeat (first | refine blk_drewN ?_ _ | refine blk_drew ?_ | refine blk_alloc ?_ _)); refine blk_far ?_ NB218_228.out _; (with_reducible repeat (first | refine blk_drewN ?_ _ | refine blk_drew ?_ | refine blk_alloc ?_ _)); refine blk_far ?_ NB218_228.out _; (with_reducible repeat (first | refine blk_drewN ?_ _ | refine blk_drew ?_ | refine blk_alloc ?_ _)); refine blk_far ?_ NB218_228.out _; (with_reducible repeat (first | refine blk_drewN ?_ _ | refine blk_drew ?_ | refine blk_alloc ?_ _)); refine blk_far ?_ NB218_228.out _; (with_reducible repeat (first | refine blk_drewN ?_ _ | refine blk_drew ?_ | refine blk_alloc ?_ _)); exact BK218.out⟩, ⟨by (with_reducible repeat (first | refine blk_drewN ?_ _ | refine blk_drew ?_ | refine blk_alloc ?_ _)); refine blk_put (cs := #[.int .i64 ((rd_T245 l0_2 x67_3).f0), .int .i64 ((rd_T245 l0_2 x67_3).f1), .int .i64 ((rd_T245 l0_2 x67_3).f2), .slice none 0 0]) ?_ 3 _ rfl; (with_reducible repeat (first | refine blk_drewN ?_ _ | refine blk_drew ?_ | refine blk_alloc ?_ _)); refine blk_put (cs := #[.int .i64 ((rd_T245 l0_2 x67_3).f0), .int .i64 ((rd_T245 l0_2 x67_3).f1), .int .i64 0, .slice none 0 0]) ?_ 2 _ rfl; (with_reducible repeat (first | refine blk_drewN ?_ _ | refine blk_drew ?_ | refine blk_alloc ?_ _)); refine blk_put (cs := #[.int .i64 ((rd_T245 l0_2 x67_3).f0), .int .i64 0, .int .i64 0, .slice none 0 0]) ?_ 1 _ rfl; (with_reducible repeat (first | refine blk_drewN ?_ _ | refine blk_drew ?_ | refine blk_alloc ?_ _)); refine blk_put (cs := #[.int .i64 0, .int .i64 0, .int .i64 0, .slice none 0 0]) ?_ 0 _ rfl; (with_reducible repeat (first | refine blk_drewN ?_ _ | refine blk_drew ?_ | refine blk_alloc ?_ _)); exact BK228.out⟩, ⟨by repeat (first | (with_reducible first | exact HB.out | apply below_alloc | apply pw_below_drewN | apply below_drew1 | refine below_set ?_ GE218.out | refine below_set ?_ GE228.out) | exact HB.out)⟩⟩
                                  · replace c90 := Bool.eq_false_iff.mpr c90
                                    subst c90
                                    have H1 : (impl_GroupOk.j3 k3 l0_2 (l0_2.length : Int) x67_3 true l0_0 a0_1 l0_2 a0_3 a0_4 ((rd_T245 l0_2 x67_3).f0) ((rd_T245 l0_2 x67_3).f1) ((rd_T245 l0_2 x67_3).f2) ((rd_T245 l0_2 x67_3).f3)) = some r := by rw [if_neg (show ¬ (false = true) by decide)] at H; exact H
                                    clear H
                                    have H := H1
                                    clear H1
                                    have H' := Aside0.mk H
                                    clear H
                                    have hnb94 := NB228_218.out
                                    have hnc94 := NB218_228.out
                                    have hcz95_0 : w45.cell? ⟨gb228, 0, none⟩ = some (.int .i64 0) := (blk_cell BK228.out 0).trans rfl
                                    have hcz95_1 : w45.cell? ⟨gb228, 1, none⟩ = some (.int .i64 0) := (blk_cell BK228.out 1).trans rfl
                                    have hcz95_2 : w45.cell? ⟨gb228, 2, none⟩ = some (.int .i64 0) := (blk_cell BK228.out 2).trans rfl
                                    have hcz95_3 : w45.cell? ⟨gb228, 3, none⟩ = some (.slice none 0 0) := (blk_cell BK228.out 3).trans rfl
                                    have hfz95_0 := blk_frozen BK228.out 0
                                    have hfz95_1 := blk_frozen BK228.out 1
                                    have hfz95_2 := blk_frozen BK228.out 2
                                    have hfz95_3 := blk_frozen BK228.out 3
                                    go_wp2_with (first | (go_at_call 112; (with_reducible refine (impl_between.calls ((rd_T245 l0_2 x67_3).f0) 0 (wrap64 (x67_3 - 1)) true _ A85.out).mono ?_); rintro e w' ⟨rfl, ⟨nd, rfl⟩⟩) | (go_at_call 112; (with_reducible refine (impl_between.calls ((rd_T245 l0_2 x67_3).f1) 1 10000 true _ A87.out).mono ?_); rintro e w' ⟨rfl, ⟨nd, rfl⟩⟩; have hcz96_0 : w45.cell? ⟨gb218, 0, none⟩ = some (.slice A0_0 l0_0.length c0_0) := (blk_cell BK218.out 0).trans rfl; have hcz96_1 : w45.cell? ⟨gb218, 1, none⟩ = some (.int .i64 a0_1) := (blk_cell BK218.out 1).trans rfl; have hcz96_2 : w45.cell? ⟨gb218, 2, none⟩ = some (.slice (some ad227) l0_2.length c0_2) := (blk_cell BK218.out 2).trans rfl; have hcz96_3 : w45.cell? ⟨gb218, 3, none⟩ = some (.int .i64 a0_3) := (blk_cell BK218.out 3).trans rfl; have hcz96_4 : w45.cell? ⟨gb218, 4, none⟩ = some (.int .i64 a0_4) := (blk_cell BK218.out 4).trans rfl; have hfz96_0 := blk_frozen BK218.out 0; have hfz96_1 := blk_frozen BK218.out 1; have hfz96_2 := blk_frozen BK218.out 2; have hfz96_3 := blk_frozen BK218.out 3; have hfz96_4 := blk_frozen BK218.out 4) | (go_at_call 112; (with_reducible refine (impl_between.calls ((rd_T245 l0_2 x67_3).f2) 0 (wrap64 (a0_1 - 1)) false _ A89.out).mono ?_); rintro e w' ⟨rfl, ⟨nd, rfl⟩⟩))
                                    go_meet
                                    case rel => exact ⟨_, (true), (by first | rfl | (simp; done) | (simp [*]; done)), H', ⟨by have := HJ1.out; have := HK2.out; have := HK3.out; first | omega | exact Nat.le_refl _⟩, ⟨by (with_reducible repeat (first | refine blk_drewN ?_ _ | refine blk_drew ?_ | refine blk_alloc ?_ _)); refine blk_far ?_ NB218_228.out _; (with_reducible repeat (first | refine blk_drewN ?_ _ | refine blk_drew ?_ | refine blk_alloc ?_ _)); refine blk_far ?_ NB218_228.out _; (with_reducible repeat (first | refine blk_drewN ?_ _ | refine blk_drew ?_ | refine blk_alloc ?_ _)); refine blk_far ?_ NB218_228.out _; (with_reducible repeat (first | refine blk_drewN ?_ _ | refine blk_drew ?_ | refine blk_alloc ?_ _)); refine blk_far ?_ NB218_228.out _; (with_reducible repeat (first | refine blk_drewN ?_ _ | refine blk_drew ?_ | refine blk_alloc ?_ _)); exact BK218.out⟩, ⟨by (with_reducible repeat (first | refine blk_drewN ?_ _ | refine blk_drew ?_ | refine blk_alloc ?_ _)); refine blk_put (cs := #[.int .i64 ((rd_T245 l0_2 x67_3).f0), .int .i64 ((rd_T245 l0_2 x67_3).f1), .int .i64 ((rd_T245 l0_2 x67_3).f2), .slice none 0 0]) ?_ 3 _ rfl; (with_reducible repeat (first | refine blk_drewN ?_ _ | refine blk_drew ?_ | refine blk_alloc ?_ _)); refine blk_put (cs := #[.int .i64 ((rd_T245 l0_2 x67_3).f0), .int .i64 ((rd_T245 l0_2 x67_3).f1), .int .i64 0, .slice none 0 0]) ?_ 2 _ rfl; (with_reducible repeat (first | refine blk_drewN ?_ _ | refine blk_drew ?_ | refine blk_alloc ?_ _)); refine blk_put (cs := #[.int .i64 ((rd_T245 l0_2 x67_3).f0), .int .i64 0, .int .i64 0, .slice none 0 0]) ?_ 1 _ rfl; (with_reducible repeat (first | refine blk_drewN ?_ _ | refine blk_drew ?_ | refine blk_alloc ?_ _)); refine blk_put (cs := #[.int .i64 0, .int .i64 0, .int .i64 0, .slice none 0 0]) ?_ 0 _ rfl; (with_reducible repeat (first | refine blk_drewN ?_ _ | refine blk_drew ?_ | refine blk_alloc ?_ _)); exact BK228.out⟩, ⟨by repeat (first | (with_reducible first | exact HB.out | apply below_alloc | apply pw_below_drewN | apply below_drew1 | refine below_set ?_ GE218.out | refine below_set ?_ GE228.out) | exact HB.out)⟩⟩
                                · replace c88 := Bool.eq_false_iff.mpr c88
                                  subst c88
                                  have H1 : (impl_GroupOk.j3 k3 l0_2 (l0_2.length : Int) x67_3 true l0_0 a0_1 l0_2 a0_3 a0_4 ((rd_T245 l0_2 x67_3).f0) ((rd_T245 l0_2 x67_3).f1) ((rd_T245 l0_2 x67_3).f2) ((rd_T245 l0_2 x67_3).f3)) = some r := by rw [if_neg (show ¬ (false = true) by decide)] at H; exact H
                                  clear H
                                  have H := H1
                                  clear H1
                                  have H' := Aside0.mk H
                                  clear H
                                  have hnb97 := NB228_218.out
                                  have hnc97 := NB218_228.out
                                  have hcz98_0 : w45.cell? ⟨gb228, 0, none⟩ = some (.int .i64 0) := (blk_cell BK228.out 0).trans rfl
                                  have hcz98_1 : w45.cell? ⟨gb228, 1, none⟩ = some (.int .i64 0) := (blk_cell BK228.out 1).trans rfl
                                  have hcz98_2 : w45.cell? ⟨gb228, 2, none⟩ = some (.int .i64 0) := (blk_cell BK228.out 2).trans rfl
                                  have hcz98_3 : w45.cell? ⟨gb228, 3, none⟩ = some (.slice none 0 0) := (blk_cell BK228.out 3).trans rfl
                                  have hfz98_0 := blk_frozen BK228.out 0
                                  have hfz98_1 := blk_frozen BK228.out 1
                                  have hfz98_2 := blk_frozen BK228.out 2
                                  have hfz98_3 := blk_frozen BK228.out 3
                                  go_wp2_with (first | (go_at_call 112; (with_reducible refine (impl_between.calls ((rd_T245 l0_2 x67_3).f0) 0 (wrap64 (x67_3 - 1)) true _ A85.out).mono ?_); rintro e w' ⟨rfl, ⟨nd, rfl⟩⟩) | (go_at_call 112; (with_reducible refine (impl_between.calls ((rd_T245 l0_2 x67_3).f1) 1 10000 false _ A87.out).mono ?_); rintro e w' ⟨rfl, ⟨nd, rfl⟩⟩))
                                  go_meet
                                  case rel => exact ⟨_, (true), (by first | rfl | (simp; done) | (simp [*]; done)), H', ⟨by have := HJ1.out; have := HK2.out; have := HK3.out; first | omega | exact Nat.le_refl _⟩, ⟨by (with_reducible repeat (first | refine blk_drewN ?_ _ | refine blk_drew ?_ | refine blk_alloc ?_ _)); refine blk_far ?_ NB218_228.out _; (with_reducible repeat (first | refine blk_drewN ?_ _ | refine blk_drew ?_ | refine blk_alloc ?_ _)); refine blk_far ?_ NB218_228.out _; (with_reducible repeat (first | refine blk_drewN ?_ _ | refine blk_drew ?_ | refine blk_alloc ?_ _)); refine blk_far ?_ NB218_228.out _; (with_reducible repeat (first | refine blk_drewN ?_ _ | refine blk_drew ?_ | refine blk_alloc ?_ _)); refine blk_far ?_ NB218_228.out _; (with_reducible repeat (first | refine blk_drewN ?_ _ | refine blk_drew ?_ | refine blk_alloc ?_ _)); exact BK218.out⟩, ⟨by (with_reducible repeat (first | refine blk_drewN ?_ _ | refine blk_drew ?_ | refine blk_alloc ?_ _)); refine blk_put (cs := #[.int .i64 ((rd_T245 l0_2 x67_3).f0), .int .i64 ((rd_T245 l0_2 x67_3).f1), .int .i64 ((rd_T245 l0_2 x67_3).f2), .slice none 0 0]) ?_ 3 _ rfl; (with_reducible repeat (first | refine blk_drewN ?_ _ | refine blk_drew ?_ | refine blk_alloc ?_ _)); refine blk_put (cs := #[.int .i64 ((rd_T245 l0_2 x67_3).f0), .int .i64 ((rd_T245 l0_2 x67_3).f1), .int .i64 0, .slice none 0 0]) ?_ 2 _ rfl; (with_reducible repeat (first | refine blk_drewN ?_ _ | refine blk_drew ?_ | refine blk_alloc ?_ _)); refine blk_put (cs := #[.int .i64 ((rd_T245 l0_2 x67_3).f0), .int .i64 0, .int .i64 0, .slice none 0 0]) ?_ 1 _ rfl; (with_reducible repeat (first | refine blk_drewN ?_ _ | refine blk_drew ?_ | refine blk_alloc ?_ _)); refine blk_put (cs := #[.int .i64 0, .int .i64 0, .int .i64 0, .slice none 0 0]) ?_ 0 _ rfl; (with_reducible repeat (first | refine blk_drewN ?_ _ | refine blk_drew ?_ | refine blk_alloc ?_ _)); exact BK228.out⟩, ⟨by repeat (first | (with_reducible first | exact HB.out | apply below_alloc | apply pw_below_drewN | apply below_drew1 | refine below_set ?_ GE218.out | refine below_set ?_ GE228.out) | exact HB.out)⟩⟩
                              · replace c86 := Bool.eq_false_iff.mpr c86
                                subst c86
                                have H1 : (impl_GroupOk.j3 k3 l0_2 (l0_2.length : Int) x67_3 true l0_0 a0_1 l0_2 a0_3 a0_4 ((rd_T245 l0_2 x67_3).f0) ((rd_T245 l0_2 x67_3).f1) ((rd_T245 l0_2 x67_3).f2) ((rd_T245 l0_2 x67_3).f3)) = some r := by rw [if_neg (show ¬ (false = true) by decide)] at H; exact H
                                clear H
                                have H := H1
                                clear H1
                                have H' := Aside0.mk H
                                clear H
                                have hnb99 := NB228_218.out
                                have hnc99 := NB218_228.out
                                have hcz100_0 : w45.cell? ⟨gb228, 0, none⟩ = some (.int .i64 0) := (blk_cell BK228.out 0).trans rfl
                                have hcz100_1 : w45.cell? ⟨gb228, 1, none⟩ = some (.int .i64 0) := (blk_cell BK228.out 1).trans rfl
                                have hcz100_2 : w45.cell? ⟨gb228, 2, none⟩ = some (.int .i64 0) := (blk_cell BK228.out 2).trans rfl
                                have hcz100_3 : w45.cell? ⟨gb228, 3, none⟩ = some (.slice none 0 0) := (blk_cell BK228.out 3).trans rfl
                                have hfz100_0 := blk_frozen BK228.out 0
                                have hfz100_1 := blk_frozen BK228.out 1
                                have hfz100_2 := blk_frozen BK228.out 2
                                have hfz100_3 := blk_frozen BK228.out 3
                                go_wp2_with (first | (go_at_call 112; (with_reducible refine (impl_between.calls ((rd_T245 l0_2 x67_3).f0) 0 (wrap64 (x67_3 - 1)) false _ A85.out).mono ?_); rintro e w' ⟨rfl, ⟨nd, rfl⟩⟩))
                                go_meet
                                case rel => exact ⟨_, (true), (by first | rfl | (simp; done) | (simp [*]; done)), H', ⟨by have := HJ1.out; have := HK2.out; have := HK3.out; first | omega | exact Nat.le_refl _⟩, ⟨by (with_reducible repeat (first | refine blk_drewN ?_ _ | refine blk_drew ?_ | refine blk_alloc ?_ _)); refine blk_far ?_ NB218_228.out _; (with_reducible repeat (first | refine blk_drewN ?_ _ | refine blk_drew ?_ | refine blk_alloc ?_ _)); refine blk_far ?_ NB218_228.out _; (with_reducible repeat (first | refine blk_drewN ?_ _ | refine blk_drew ?_ | refine blk_alloc ?_ _)); refine blk_far ?_ NB218_228.out _; (with_reducible repeat (first | refine blk_drewN ?_ _ | refine blk_drew ?_ | refine blk_alloc ?_ _)); refine blk_far ?_ NB218_228.out _; (with_reducible repeat (first | refine blk_drewN ?_ _ | refine blk_drew ?_ | refine blk_alloc ?_ _)); exact BK218.out⟩, ⟨by (with_reducible repeat (first | refine blk_drewN ?_ _ | refine blk_drew ?_ | refine blk_alloc ?_ _)); refine blk_put (cs := #[.int .i64 ((rd_T245 l0_2 x67_3).f0), .int .i64 ((rd_T245 l0_2 x67_3).f1), .int .i64 ((rd_T245 l0_2 x67_3).f2), .slice none 0 0]) ?_ 3 _ rfl; (with_reducible repeat (first | refine blk_drewN ?_ _ | refine blk_drew ?_ | refine blk_alloc ?_ _)); refine blk_put (cs := #[.int .i64 ((rd_T245 l0_2 x67_3).f0), .int .i64 ((rd_T245 l0_2 x67_3).f1), .int .i64 0, .slice none 0 0]) ?_ 2 _ rfl; (with_reducible repeat (first | refine blk_drewN ?_ _ | refine blk_drew ?_ | refine blk_alloc ?_ _)); refine blk_put (cs := #[.int .i64 ((rd_T245 l0_2 x67_3).f0), .int .i64 0, .int .i64 0, .slice none 0 0]) ?_ 1 _ rfl; (with_reducible repeat (first | refine blk_drewN ?_ _ | refine blk_drew ?_ | refine blk_alloc ?_ _)); refine blk_put (cs := #[.int .i64 0, .int .i64 0, .int .i64 0, .slice none 0 0]) ?_ 0 _ rfl; (with_reducible repeat (first | refine blk_drewN ?_ _ | refine blk_drew ?_ | refine blk_alloc ?_ _)); exact BK228.out⟩, ⟨by repeat (first | (with_reducible first | exact HB.out | apply below_alloc | apply pw_below_drewN | apply below_drew1 | refine below_set ?_ GE218.out | refine below_set ?_ GE228.out) | exact HB.out)⟩⟩
                            · rw [if_neg c84] at H
                              have c84b0 : decide (0 < x67_3) = false := decide_eq_false c84
                              clear c84
                              replace H := Option.bind_eq_some_iff.mp H
                              obtain ⟨t237, A1010, H⟩ := H
                              replace H : (if t237 = true then ((impl_between.f ((rd_T245 l0_2 x67_3).f2) 0 (wrap64 (a0_1 - 1))).bind fun t238 => (if t238 = true then (impl_GroupOk.j3 k3 l0_2 (l0_2.length : Int) x67_3 ((((rd_T245 l0_2 x67_3).f3).length : Int) != (l0_0.length : Int)) l0_0 a0_1 l0_2 a0_3 a0_4 ((rd_T245 l0_2 x67_3).f0) ((rd_T245 l0_2 x67_3).f1) ((rd_T245 l0_2 x67_3).f2) ((rd_T245 l0_2 x67_3).f3)) else (impl_GroupOk.j3 k3 l0_2 (l0_2.length : Int) x67_3 true l0_0 a0_1 l0_2 a0_3 a0_4 ((rd_T245 l0_2 x67_3).f0) ((rd_T245 l0_2 x67_3).f1) ((rd_T245 l0_2 x67_3).f2) ((rd_T245 l0_2 x67_3).f3)))) else (impl_GroupOk.j3 k3 l0_2 (l0_2.length : Int) x67_3 true l0_0 a0_1 l0_2 a0_3 a0_4 ((rd_T245 l0_2 x67_3).f0) ((rd_T245 l0_2 x67_3).f1) ((rd_T245 l0_2 x67_3).f2) ((rd_T245 l0_2 x67_3).f3))) = some r := H
                              have A101 := Aside0.mk A1010
                              clear A1010
                              by_cases c102 : t237 = true
                              · subst c102
                                have H1 : ((impl_between.f ((rd_T245 l0_2 x67_3).f2) 0 (wrap64 (a0_1 - 1))).bind fun t238 => (if t238 = true then (impl_GroupOk.j3 k3 l0_2 (l0_2.length : Int) x67_3 ((((rd_T245 l0_2 x67_3).f3).length : Int) != (l0_0.length : Int)) l0_0 a0_1 l0_2 a0_3 a0_4 ((rd_T245 l0_2 x67_3).f0) ((rd_T245 l0_2 x67_3).f1) ((rd_T245 l0_2 x67_3).f2) ((rd_T245 l0_2 x67_3).f3)) else (impl_GroupOk.j3 k3 l0_2 (l0_2.length : Int) x67_3 true l0_0 a0_1 l0_2 a0_3 a0_4 ((rd_T245 l0_2 x67_3).f0) ((rd_T245 l0_2 x67_3).f1) ((rd_T245 l0_2 x67_3).f2) ((rd_T245 l0_2 x67_3).f3)))) = some r := by rw [if_pos rfl] at H; exact H
                                clear H
                                have H := H1
                                clear H1
                                replace H := Option.bind_eq_some_iff.mp H
                                obtain ⟨t238, A1030, H⟩ := H
                                replace H : (if t238 = true then (impl_GroupOk.j3 k3 l0_2 (l0_2.length : Int) x67_3 ((((rd_T245 l0_2 x67_3).f3).length : Int) != (l0_0.length : Int)) l0_0 a0_1 l0_2 a0_3 a0_4 ((rd_T245 l0_2 x67_3).f0) ((rd_T245 l0_2 x67_3).f1) ((rd_T245 l0_2 x67_3).f2) ((rd_T245 l0_2 x67_3).f3)) else (impl_GroupOk.j3 k3 l0_2 (l0_2.length : Int) x67_3 true l0_0 a0_1 l0_2 a0_3 a0_4 ((rd_T245 l0_2 x67_3).f0) ((rd_T245 l0_2 x67_3).f1) ((rd_T245 l0_2 x67_3).f2) ((rd_T245 l0_2 x67_3).f3))) = some r := H
                                have A103 := Aside0.mk A1030
                                clear A1030
                                by_cases c104 : t238 = true
                                · subst c104
                                  have H1 : (impl_GroupOk.j3 k3 l0_2 (l0_2.length : Int) x67_3 ((((rd_T245 l0_2 x67_3).f3).length : Int) != (l0_0.length : Int)) l0_0 a0_1 l0_2 a0_3 a0_4 ((rd_T245 l0_2 x67_3).f0) ((rd_T245 l0_2 x67_3).f1) ((rd_T245 l0_2 x67_3).f2) ((rd_T245 l0_2 x67_3).f3)) = some r := by rw [if_pos rfl] at H; exact H
                                  clear H
                                  have H := H1
                                  clear H1
                                  have H' := Aside0.mk H
                                  clear H
                                  have hnb105 := NB228_218.out
                                  have hnc105 := NB218_228.out
                                  have hcz106_0 : w45.cell? ⟨gb228, 0, none⟩ = some (.int .i64 0) := (blk_cell BK228.out 0).trans rfl
                                  have hcz106_1 : w45.cell? ⟨gb228, 1, none⟩ = some (.int .i64 0) := (blk_cell BK228.out 1).trans rfl
                                  have hcz106_2 : w45.cell? ⟨gb228, 2, none⟩ = some (.int .i64 0) := (blk_cell BK228.out 2).trans rfl
                                  have hcz106_3 : w45.cell? ⟨gb228, 3, none⟩ = some (.slice none 0 0) := (blk_cell BK228.out 3).trans rfl
                                  have hfz106_0 := blk_frozen BK228.out 0
                                  have hfz106_1 := blk_frozen BK228.out 1
                                  have hfz106_2 := blk_frozen BK228.out 2
                                  have hfz106_3 := blk_frozen BK228.out 3
                                  go_wp2_with (first | (go_at_call 112; (with_reducible refine (impl_between.calls ((rd_T245 l0_2 x67_3).f1) 1 10000 true _ A101.out).mono ?_); rintro e w' ⟨rfl, ⟨nd, rfl⟩⟩; have hcz107_0 : w45.cell? ⟨gb218, 0, none⟩ = some (.slice A0_0 l0_0.length c0_0) := (blk_cell BK218.out 0).trans rfl; have hcz107_1 : w45.cell? ⟨gb218, 1, none⟩ = some (.int .i64 a0_1) := (blk_cell BK218.out 1).trans rfl; have hcz107_2 : w45.cell? ⟨gb218, 2, none⟩ = some (.slice (some ad227) l0_2.length c0_2) := (blk_cell BK218.out 2).trans rfl; have hcz107_3 : w45.cell? ⟨gb218, 3, none⟩ = some (.int .i64 a0_3) := (blk_cell BK218.out 3).trans rfl; have hcz107_4 : w45.cell? ⟨gb218, 4, none⟩ = some (.int .i64 a0_4) := (blk_cell BK218.out 4).trans rfl; have hfz107_0 := blk_frozen BK218.out 0; have hfz107_1 := blk_frozen BK218.out 1; have hfz107_2 := blk_frozen BK218.out 2; have hfz107_3 := blk_frozen BK218.out 3; have hfz107_4 := blk_frozen BK218.out 4) | (go_at_call 112; (with_reducible refine (impl_between.calls ((rd_T245 l0_2 x67_3).f2) 0 (wrap64 (a0_1 - 1)) true _ A103.out).mono ?_); rintro e w' ⟨rfl, ⟨nd, rfl⟩⟩))
                                  go_meet
                                  case rel => exact ⟨_, (((((rd_T245 l0_2 x67_3).f3).length : Int) != (l0_0.length : Int))), (by first | rfl | (simp; done) | (simp [*]; done)), H', ⟨by have := HJ1.out; have := HK2.out; have := HK3.out; first | omega | exact Nat.le_refl _⟩, ⟨by (with_reducible repeat (first | refine blk_drewN ?_ _ | refine blk_drew ?_ | refine blk_alloc ?_ _)); refine blk_far ?_ NB218_228.out _; (with_reducible repeat (first | refine blk_drewN ?_ _ | refine blk_drew ?_ | refine blk_alloc ?_ _)); refine blk_far ?_ NB218_228.out _; (with_reducible repeat (first | refine blk_drewN ?_ _ | refine blk_drew ?_ | refine blk_alloc ?_ _)); refine blk_far ?_ NB218_228.out _; (with_reducible repeat (first | refine blk_drewN ?_ _ | refine blk_drew ?_ | refine blk_alloc ?_ _)); refine blk_far ?_ NB218_228.out _; (with_reducible repeat (first | refine blk_drewN ?_ _ | refine blk_drew ?_ | refine blk_alloc ?_ _)); exact BK218.out⟩, ⟨by (with_reducible repeat (first | refine blk_drewN ?_ _ | refine blk_drew ?_ | refine blk_alloc ?_ _)); refine blk_put (cs := #[.int .i64 ((rd_T245 l0_2 x67_3).f0), .int .i64 ((rd_T245 l0_2 x67_3).f1), .int .i64 ((rd_T245 l0_2 x67_3).f2), .slice none 0 0]) ?_ 3 _ rfl; (with_reducible repeat (first | refine blk_drewN ?_ _ | refine blk_drew ?_ | refine blk_alloc ?_ _)); refine blk_put (cs := #[.int .i64 ((rd_T245 l0_2 x67_3).f0), .int .i64 ((rd_T245 l0_2 x67_3).f1), .int .i64 0, .slice none 0 0]) ?_ 2 _ rfl; (with_reducible repeat (first | refine blk_drewN ?_ _ | refine blk_drew ?_ | refine blk_alloc ?_ _)); refine blk_put (cs := #[.int .i64 ((rd_T245 l0_2 x67_3).f0), .int .i64 0, .int .i64 0, .slice none 0 0]) ?_ 1 _ rfl; (with_reducible repeat (first | refine blk_drewN ?_ _ | refine blk_drew ?_ | refine blk_alloc ?_ _)); refine blk_put (cs := #[.int .i64 0, .int .i64 0, .int .i64 0, .slice none 0 0]) ?_ 0 _ rfl; (with_reducible repeat (first | refine blk_drewN ?_ _ | refine blk_drew ?_ | refine blk_alloc ?_ _)); exact BK228.out⟩, ⟨by repeat (first | (with_reducible first | exact HB.out | apply below_alloc | apply pw_below_drewN | apply below_drew1 | refine below_set ?_ GE218.out | refine below_set ?_ GE228.out) | exact HB.out)⟩⟩
                                · replace c104 := Bool.eq_false_iff.mpr c104
                                  subst c104
                                  have H1 : (impl_GroupOk.j3 k3 l0_2 (l0_2.length : Int) x67_3 true l0_0 a0_1 l0_2 a0_3 a0_4 ((rd_T245 l0_2 x67_3).f0) ((rd_T245 l0_2 x67_3).f1) ((rd_T245 l0_2 x67_3).f2) ((rd_T245 l0_2 x67_3).f3)) = some r := by rw [if_neg (show ¬ (false = true) by decide)] at H; exact H
                                  clear H
                                  have H := H1
                                  clear H1
                                  have H' := Aside0.mk H
                                  clear H
                                  have hnb108 := NB228_218.out
                                  have hnc108 := NB218_228.out
                                  have hcz109_0 : w45.cell? ⟨gb228, 0, none⟩ = some (.int .i64 0) := (blk_cell BK228.out 0).trans rfl
                                  have hcz109_1 : w45.cell? ⟨gb228, 1, none⟩ = some (.int .i64 0) := (blk_cell BK228.out 1).trans rfl
                                  have hcz109_2 : w45.cell? ⟨gb228, 2, none⟩ = some (.int .i64 0) := (blk_cell BK228.out 2).trans rfl
                                  have hcz109_3 : w45.cell? ⟨gb228, 3, none⟩ = some (.slice none 0 0) := (blk_cell BK228.out 3).trans rfl
                                  have hfz109_0 := blk_frozen BK228.out 0
                                  have hfz109_1 := blk_frozen BK228.out 1
                                  have hfz109_2 := blk_frozen BK228.out 2
                                  have hfz109_3 := blk_frozen BK228.out 3
                                  go_wp2_with (first | (go_at_call 112; (with_reducible refine (impl_between.calls ((rd_T245 l0_2 x67_3).f1) 1 10000 true _ A101.out).mono ?_); rintro e w' ⟨rfl, ⟨nd, rfl⟩⟩; have hcz110_0 : w45.cell? ⟨gb218, 0, none⟩ = some (.slice A0_0 l0_0.length c0_0) := (blk_cell BK218.out 0).trans rfl; have hcz110_1 : w45.cell? ⟨gb218, 1, none⟩ = some (.int .i64 a0_1) := (blk_cell BK218.out 1).trans rfl; have hcz110_2 : w45.cell? ⟨gb218, 2, none⟩ = some (.slice (some ad227) l0_2.length c0_2) := (blk_cell BK218.out 2).trans rfl; have hcz110_3 : w45.cell? ⟨gb218, 3, none⟩ = some (.int .i64 a0_3) := (blk_cell BK218.out 3).trans rfl; have hcz110_4 : w45.cell? ⟨gb218, 4, none⟩ = some (.int .i64 a0_4) := (blk_cell BK218.out 4).trans rfl; have hfz110_0 := blk_frozen BK218.out 0; have hfz110_1 := blk_frozen BK218.out 1; have hfz110_2 := blk_frozen BK218.out 2; have hfz110_3 := blk_frozen BK218.out 3; have hfz110_4 := blk_frozen BK218.out 4) | (go_at_call 112; (with_reducible refine (impl_between.calls ((rd_T245 l0_2 x67_3).f2) 0 (wrap64 (a0_1 - 1)) false _ A103.out).mono ?_); rintro e w' ⟨rfl, ⟨nd, rfl⟩⟩))
                                  go_meet
                                  case rel => exact ⟨_, (true), (by first | rfl | (simp; done) | (simp [*]; done)), H', ⟨by have := HJ1.out; have := HK2.out; have := HK3.out; first | omega | exact Nat.le_refl _⟩, ⟨by (with_reducible repeat (first | refine blk_drewN ?_ _ | refine blk_drew ?_ | refine blk_alloc ?_ _)); refine blk_far ?_ NB218_228.out _; (with_reducible repeat (first | refine blk_drewN ?_ _ | refine blk_drew ?_ | refine blk_alloc ?_ _)); refine blk_far ?_ NB218_228.out _; (with_reducible repeat (first | refine blk_drewN ?_ _ | refine blk_drew ?_ | refine blk_alloc ?_ _)); refine blk_far ?_ NB218_228.out _; (with_reducible repeat (first | refine blk_drewN ?_ _ | refine blk_drew ?_ | refine blk_alloc ?_ _)); refine blk_far ?_ NB218_228.out _; (with_reducible repeat (first | refine blk_drewN ?_ _ | refine blk_drew ?_ | refine blk_alloc ?_ _)); exact BK218.out⟩, ⟨by (with_reducible repeat (first | refine blk_drewN ?_ _ | refine blk_drew ?_ | refine blk_alloc ?_ _)); refine blk_put (cs := #[.int .i64 ((rd_T245 l0_2 x67_3).f0), .int .i64 ((rd_T245 l0_2 x67_3).f1), .int .i64 ((rd_T245 l0_2 x67_3).f2), .slice none 0 0]) ?_ 3 _ rfl; (with_reducible repeat (first | refine blk_drewN ?_ _ | refine blk_drew ?_ | refine blk_alloc ?_ _)); refine blk_put (cs := #[.int .i64 ((rd_T245 l0_2 x67_3).f0), .int .i64 ((rd_T245 l0_2 x67_3).f1), .int .i64 0, .slice none 0 0]) ?_ 2 _ rfl; (with_reducible repeat (first | refine blk_drewN ?_ _ | refine blk_drew ?_ | refine blk_alloc ?_ _)); refine blk_put (cs := #[.int .i64 ((rd_T245 l0_2 x67_3).f0), .int .i64 0, .int .i64 0, .slice none 0 0]) ?_ 1 _ rfl; (with_reducible repeat (first | refine blk_drewN ?_ _ | refine blk_drew ?_ | refine blk_alloc ?_ _)); refine blk_put (cs := #[.int .i64 0, .int .i64 0, .int .i64 0, .slice none 0 0]) ?_ 0 _ rfl; (with_reducible repeat (first | refine blk_drewN ?_ _ | refine blk_drew ?_ | refine blk_alloc ?_ _)); exact BK228.out⟩, ⟨by repeat (first | (with_reducible first | exact HB.out | apply below_alloc | apply pw_below_drewN | apply below_drew1 | refine below_set ?_ GE218.out | refine below_set ?_ GE228.out) | exact HB.out)⟩⟩
                              · replace c102 := Bool.eq_false_iff.mpr c102
                                subst c102
                                have H1 : (impl_GroupOk.j3 k3 l0_2 (l0_2.length : Int) x67_3 true l0_0 a0_1 l0_2 a0_3 a0_4 ((rd_T245 l0_2 x67_3).f0) ((rd_T245 l0_2 x67_3).f1) ((rd_T245 l0_2 x67_3).f2) ((rd_T245 l0_2 x67_3).f3)) = some r := by rw [if_neg (show ¬ (false = true) by decide)] at H; exact H
                                clear H
                                have H := H1
                                clear H1
                                have H' := Aside0.mk H
                                clear H
                                have hnb111 := NB228_218.out
                                have hnc111 := NB218_228.out
                                have hcz112_0 : w45.cell? ⟨gb228, 0, none⟩ = some (.int .i64 0) := (blk_cell BK228.out 0).trans rfl
                                have hcz112_1 : w45.cell? ⟨gb228, 1, none⟩ = some (.int .i64 0) := (blk_cell BK228.out 1).trans rfl
                                have hcz112_2 : w45.cell? ⟨gb228, 2, none⟩ = some (.int .i64 0) := (blk_cell BK228.out 2).trans rfl
                                have hcz112_3 : w45.cell? ⟨gb228, 3, none⟩ = some (.slice none 0 0) := (blk_cell BK228.out 3).trans rfl
                                have hfz112_0 := blk_frozen BK228.out 0
                                have hfz112_1 := blk_frozen BK228.out 1
                                have hfz112_2 := blk_frozen BK228.out 2
                                have hfz112_3 := blk_frozen BK228.out 3
                                go_wp2_with (first | (go_at_call 112; (with_reducible refine (impl_between.calls ((rd_T245 l0_2 x67_3).f1) 1 10000 false _ A101.out).mono ?_); rintro e w' ⟨rfl, ⟨nd, rfl⟩⟩))
                                go_meet
                                case rel => exact ⟨_, (true), (by first | rfl | (simp; done) | (simp [*]; done)), H', ⟨by have := HJ1.out; have := HK2.out; have := HK3.out; first | omega | exact Nat.le_refl _⟩, ⟨by (with_reducible repeat (first | refine blk_drewN ?_ _ | refine blk_drew ?_ | refine blk_alloc ?_ _)); refine blk_far ?_ NB218_228.out _; (with_reducible repeat (first | refine blk_drewN ?_ _ | refine blk_drew ?_ | refine blk_alloc ?_ _)); refine blk_far ?_ NB218_228.out _; (with_reducible repeat (first | refine blk_drewN ?_ _ | refine blk_drew ?_ | refine blk_alloc ?_ _)); refine blk_far ?_ NB218_228.out _; (with_reducible repeat (first | refine blk_drewN ?_ _ | refine blk_drew ?_ | refine blk_alloc ?_ _)); refine blk_far ?_ NB218_228.out _; (with_reducible repeat (first | refine blk_drewN ?_ _ | refine blk_drew ?_ | refine blk_alloc ?_ _)); exact BK218.out⟩, ⟨by (with_reducible repeat (first | refine blk_drewN ?_ _ | refine blk_drew ?_ | refine blk_alloc ?_ _)); refine blk_put (cs := #[.int .i64 ((rd_T245 l0_2 x67_3).f0), .int .i64 ((rd_T245 l0_2 x67_3).f1), .int .i64 ((rd_T245 l0_2 x67_3).f2), .slice none 0 0]) ?_ 3 _ rfl; (with_reducible repeat (first | refine blk_drewN ?_ _ | refine blk_drew ?_ | refine blk_alloc ?_ _)); refine blk_put (cs := #[.int .i64 ((rd_T245 l0_2 x67_3).f0), .int .i64 ((rd_T245 l0_2 x67_3).f1), .int .i64 0, .slice none 0 0]) ?_ 2 _ rfl; (with_reducible repeat (first | refine blk_drewN ?_ _ | refine blk_drew ?_ | refine blk_alloc ?_ _)); refine blk_put (cs := #[.int .i64 ((rd_T245 l0_2 x67_3).f0), .int .i64 0, .int .i64 0, .slice none 0 0]) ?_ 1 _ rfl; (with_reducible repeat (first | refine blk_drewN ?_ _ | refine blk_drew ?_ | refine blk_alloc ?_ _)); refine blk_put (cs := #[.int .i64 0, .int .i64 0, .int .i64 0, .slice none 0 0]) ?_ 0 _ rfl; (with_reducible repeat (first | refine blk_drewN ?_ _ | refine blk_drew ?_ | refine blk_alloc ?_ _)); exact BK228.out⟩, ⟨by repeat (first | (with_reducible first | exact HB.out | apply below_alloc | apply pw_below_drewN | apply below_drew1 | refine below_set ?_ GE218.out | refine below_set ?_ GE228.out) | exact HB.out)⟩⟩
                        case rest =>
                          clear HC44
                          try clear c1
                          try clear c2
                          try clear p2
                          try clear q2
                          try clear hx2
                          try clear c4
                          try clear c5
                          try clear c6
                          try clear p6
                          try clear c7
                          try clear c8
                          try clear c9
                          try clear c10
                          try clear c11
                          try clear c22
                          try clear p22
                          try clear q22
                          try clear hx22
                          try clear c41
                          try clear c41b0
                          try clear c42
                          try clear c42b0
                          try clear c43
                          try clear c43b0
                          try clear c46
                          try clear c48
                          try clear c48b0
                          try clear c48b1
                          try clear c49
                          try clear c49b0
                          try clear c49b1
                          try clear c50
                          try clear c50b0
                          try clear c50b1
                          try clear c51
                          try clear c51b0
                          try clear c53
                          try clear c55
                          try clear c57
                          try clear c58
                          try clear c61
                          try clear c64
                          try clear p64
                          try clear c66
                          try clear c69
                          try clear c71
                          try clear c72
                          try clear c75
                          try clear c78
                          try clear c80
                          try clear c82
                          try clear c84
                          try clear c84b0
                          try clear c86
                          try clear c88
                          try clear c90
                          try clear c91
                          try clear c94
                          try clear c97
                          try clear c99
                          try clear c102
                          try clear c104
                          try clear c105
                          try clear c108
                          try clear c111
                          try clear hcz100_0
                          try clear hcz100_1
                          try clear hcz100_2
                          try clear hcz100_3
                          try clear hcz106_0
                          try clear hcz106_1
                          try clear hcz106_2
                          try clear hcz106_3
                          try clear hcz107_0
                          try clear hcz107_1
                          try clear hcz107_2
                          try clear hcz107_3
                          try clear hcz107_4
                          try clear hcz109_0
                          try clear hcz109_1
                          try clear hcz109_2
                          try clear hcz109_3
                          try clear hcz110_0
                          try clear hcz110_1
                          try clear hcz110_2
                          try clear hcz110_3
                          try clear hcz110_4
                          try clear hcz112_0
                          try clear hcz112_1
                          try clear hcz112_2
                          try clear hcz112_3
                          try clear hcz25_1
                          try clear hcz25_2
                          try clear hcz25_3
                          try clear hcz25_4
                          try clear hcz37_0
                          try clear hcz37_1
                          try clear hcz37_2
                          try clear hcz37_3
                          try clear hcz37_4
                          try clear hcz38_0
                          try clear hcz38_1
                          try clear hcz38_2
                          try clear hcz38_3
                          try clear hcz38_4
                          try clear hcz39_0
                          try clear hcz39_1
                          try clear hcz39_2
                          try clear hcz39_3
                          try clear hcz39_4
                          try clear hcz40_0
                          try clear hcz40_1
                          try clear hcz40_2
                          try clear hcz40_3
                          try clear hcz40_4
                          try clear hcz47_0
                          try clear hcz47_1
                          try clear hcz47_2
                          try clear hcz47_3
                          try clear hcz59_0
                          try clear hcz59_1
                          try clear hcz59_2
                          try clear hcz59_3
                          try clear hcz60_0
                          try clear hcz60_1
                          try clear hcz60_2
                          try clear hcz60_3
                          try clear hcz60_4
                          try clear hcz62_0
                          try clear hcz62_1
                          try clear hcz62_2
                          try clear hcz62_3
                          try clear hcz63_0
                          try clear hcz63_1
                          try clear hcz63_2
                          try clear hcz63_3
                          try clear hcz63_4
                          try clear hcz65_0
                          try clear hcz65_1
                          try clear hcz65_2
                          try clear hcz65_3
                          try clear hcz67_0
                          try clear hcz67_1
                          try clear hcz67_2
                          try clear hcz67_3
                          try clear hcz73_0
                          try clear hcz73_1
                          try clear hcz73_2
                          try clear hcz73_3
                          try clear hcz74_0
                          try clear hcz74_1
                          try clear hcz74_2
                          try clear hcz74_3
                          try clear hcz74_4
                          try clear hcz76_0
                          try clear hcz76_1
                          try clear hcz76_2
                          try clear hcz76_3
                          try clear hcz77_0
                          try clear hcz77_1
                          try clear hcz77_2
                          try clear hcz77_3
                          try clear hcz77_4
                          try clear hcz79_0
                          try clear hcz79_1
                          try clear hcz79_2
                          try clear hcz79_3
                          try clear hcz81_0
                          try clear hcz81_1
                          try clear hcz81_2
                          try clear hcz81_3
                          try clear hcz83_0
                          try clear hcz83_1
                          try clear hcz83_2
                          try clear hcz83_3
                          try clear hcz92_0
                          try clear hcz92_1
                          try clear hcz92_2
                          try clear hcz92_3
                          try clear hcz93_0
                          try clear hcz93_1
                          try clear hcz93_2
                          try clear hcz93_3
                          try clear hcz93_4
                          try clear hcz95_0
                          try clear hcz95_1
                          try clear hcz95_2
                          try clear hcz95_3
                          try clear hcz96_0
                          try clear hcz96_1
                          try clear hcz96_2
                          try clear hcz96_3
                          try clear hcz96_4
                          try clear hcz98_0
                          try clear hcz98_1
                          try clear hcz98_2
                          try clear hcz98_3
                          try clear hcz9_0
                          try clear hcz9_1
                          try clear hcz9_2
                          try clear hcz9_3
                          try clear hcz9_4
                          try clear hfz100_0
                          try clear hfz100_1
                          try clear hfz100_2
                          try clear hfz100_3
                          try clear hfz106_0
                          try clear hfz106_1
                          try clear hfz106_2
                          try clear hfz106_3
                          try clear hfz107_0
                          try clear hfz107_1
                          try clear hfz107_2
                          try clear hfz107_3
                          try clear hfz107_4
                          try clear hfz109_0
                          try clear hfz109_1
                          try clear hfz109_2
                          try clear hfz109_3
                          try clear hfz110_0
                          try clear hfz110_1
                          try clear hfz110_2
                          try clear hfz110_3
                          try clear hfz110_4
                          try clear hfz112_0
                          try clear hfz112_1
                          try clear hfz112_2
                          try clear hfz112_3
                          try clear hfz11_0
                          try clear hfz11_1
                          try clear hfz11_2
                          try clear hfz11_3
                          try clear hfz11_4
                          try clear hfz13_0
                          try clear hfz13_1
                          try clear hfz13_2
                          try clear hfz13_3
                          try clear hfz13_4
                          try clear hfz15_0
                          try clear hfz15_1
                          try clear hfz15_2
                          try clear hfz15_3
                          try clear hfz15_4
                          try clear hfz16_0
                          try clear hfz16_1
                          try clear hfz16_2
                          try clear hfz16_3
                          try clear hfz16_4
                          try clear hfz18_0
                          try clear hfz18_1
                          try clear hfz18_2
                          try clear hfz18_3
                          try clear hfz18_4
                          try clear hfz19_0
                          try clear hfz19_1
                          try clear hfz19_2
                          try clear hfz19_3
                          try clear hfz19_4
                          try clear hfz21_0
                          try clear hfz21_1
                          try clear hfz21_2
                          try clear hfz21_3
                          try clear hfz21_4
                          try clear hfz22_0
                          try clear hfz22_1
                          try clear hfz22_2
                          try clear hfz22_3
                          try clear hfz22_4
                          try clear hfz25_0
                          try clear hfz25_1
                          try clear hfz25_2
                          try clear hfz25_3
                          try clear hfz25_4
                          try clear hfz37_0
                          try clear hfz37_1
                          try clear hfz37_2
                          try clear hfz37_3
                          try clear hfz37_4
                          try clear hfz38_0
                          try clear hfz38_1
                          try clear hfz38_2
                          try clear hfz38_3
                          try clear hfz38_4
                          try clear hfz39_0
                          try clear hfz39_1
                          try clear hfz39_2
                          try clear hfz39_3
                          try clear hfz39_4
                          try clear hfz40_0
                          try clear hfz40_1
                          try clear hfz40_2
                          try clear hfz40_3
                          try clear hfz40_4
                          try clear hfz47_0
                          try clear hfz47_1
                          try clear hfz47_2
                          try clear hfz47_3
                          try clear hfz59_0
                          try clear hfz59_1
                          try clear hfz59_2
                          try clear hfz59_3
                          try clear hfz60_0
                          try clear hfz60_1
                          try clear hfz60_2
                          try clear hfz60_3
                          try clear hfz60_4
                          try clear hfz62_0
                          try clear hfz62_1
                          try clear hfz62_2
                          try clear hfz62_3
                          try clear hfz63_0
                          try clear hfz63_1
                          try clear hfz63_2
                          try clear hfz63_3
                          try clear hfz63_4
                          try clear hfz65_0
                          try clear hfz65_1
                          try clear hfz65_2
                          try clear hfz65_3
                          try clear hfz67_0
                          try clear hfz67_1
                          try clear hfz67_2
                          try clear hfz67_3
                          try clear hfz73_0
                          try clear hfz73_1
                          try clear hfz73_2
                          try clear hfz73_3
                          try clear hfz74_0
                          try clear hfz74_1
                          try clear hfz74_2
                          try clear hfz74_3
                          try clear hfz74_4
                          try clear hfz76_0
                          try clear hfz76_1
                          try clear hfz76_2
                          try clear hfz76_3
                          try clear hfz77_0
                          try clear hfz77_1
                          try clear hfz77_2
                          try clear hfz77_3
                          try clear hfz77_4
                          try clear hfz79_0
                          try clear hfz79_1
                          try clear hfz79_2
                          try clear hfz79_3
                          try clear hfz81_0
                          try clear hfz81_1
                          try clear hfz81_2
                          try clear hfz81_3
                          try clear hfz83_0
                          try clear hfz83_1
                          try clear hfz83_2
                          try clear hfz83_3
                          try clear hfz92_0
                          try clear hfz92_1
                          try clear hfz92_2
                          try clear hfz92_3
                          try clear hfz93_0
                          try clear hfz93_1
                          try clear hfz93_2
                          try clear hfz93_3
                          try clear hfz93_4
                          try clear hfz95_0
                          try clear hfz95_1
                          try clear hfz95_2
                          try clear hfz95_3
                          try clear hfz96_0
                          try clear hfz96_1
                          try clear hfz96_2
                          try clear hfz96_3
                          try clear hfz96_4
                          try clear hfz98_0
                          try clear hfz98_1
                          try clear hfz98_2
                          try clear hfz98_3
                          try clear hfz9_0
                          try clear hfz9_1
                          try clear hfz9_2
                          try clear hfz9_3
                          try clear hfz9_4
                          try clear hx224_0
                          try clear hx226_0
                          try clear hx226_1
                          try clear hx226_2
                          try clear hx227_0
                          try clear hx227_1
                          try clear hx227_2
                          try clear hx227_3
                          try clear p2
                          try clear p224
                          try clear p226
                          try clear p227
                          try clear q224
                          try clear q226
                          try clear q227
                          obtain ⟨kq, x119_43, rfl, HA, HJ43, BK218, BK228, HB⟩ := hcut
                          cases kq with
                          | zero => exact absurd HA.out (by simp [impl_GroupOk.j3])
                          | succ kj43 =>
                            have H := HA.out
                            clear HA
                            simp only [impl_GroupOk.j3] at H
                            by_cases c113 : x119_43 = true
                            · subst c113
                              have H1 : (some false) = some r := by rw [if_pos rfl] at H; exact H
                              clear H
                              have H := H1
                              clear H1
                              obtain rfl := Option.some.inj H
                              go_wp2
                              go_ret
                              exact ⟨by first | rfl | (simp [errW_none, errW_some] <;> rfl) | (simp [*, errW_none, errW_some] <;> rfl), by repeat (first | (with_reducible first | exact HB.out | apply below_alloc | apply pw_below_drewN | apply below_drew1 | refine below_set ?_ GE218.out | refine below_set ?_ GE228.out) | exact HB.out)⟩
                            · replace c113 := Bool.eq_false_iff.mpr c113
                              subst c113
                              have H1 : (impl_GroupOk.l2 kj43 0 l0_2 (l0_2.length : Int) x67_3 ((rd_T245 l0_2 x67_3).f3) (((rd_T245 l0_2 x67_3).f3).length : Int) 0 l0_0 a0_1 l0_2 a0_3 a0_4) = some r := by rw [if_neg (show ¬ (false = true) by decide)] at H; exact H
                              clear H
                              have H := H1
                              clear H1
                              have H' := Aside0.mk H
                              clear H
                              have hnb114 := NB228_218.out
                              have hnc114 := NB218_228.out
                              have hcz115_0 : wc.cell? ⟨gb228, 0, none⟩ = some (.int .i64 ((rd_T245 l0_2 x67_3).f0)) := (blk_cell BK228.out 0).trans rfl
                              have hcz115_1 : wc.cell? ⟨gb228, 1, none⟩ = some (.int .i64 ((rd_T245 l0_2 x67_3).f1)) := (blk_cell BK228.out 1).trans rfl
                              have hcz115_2 : wc.cell? ⟨gb228, 2, none⟩ = some (.int .i64 ((rd_T245 l0_2 x67_3).f2)) := (blk_cell BK228.out 2).trans rfl
                              have hcz115_3 : wc.cell? ⟨gb228, 3, none⟩ = some (.slice A227_3 ((rd_T245 l0_2 x67_3).f3).length c227_3) := (blk_cell BK228.out 3).trans rfl
                              have hfz115_0 := blk_frozen BK228.out 0
                              have hfz115_1 := blk_frozen BK228.out 1
                              have hfz115_2 := blk_frozen BK228.out 2
                              have hfz115_3 := blk_frozen BK228.out 3
                              go_wp2
                              go_loopg [7, 123] kj43 (fun kq v7 v123 w' => ∃ (x7_5 : Int) (x123_5 : Int), v7 = .int .i64 x7_5 ∧ v123 = .int .i64 x123_5 ∧ Aside0 (impl_GroupOk.l2 kq x7_5 l0_2 (l0_2.length : Int) x67_3 ((rd_T245 l0_2 x67_3).f3) (((rd_T245 l0_2 x67_3).f3).length : Int) x123_5 l0_0 a0_1 l0_2 a0_3 a0_4 = some r) ∧ Aside0 (kq ≤ kj43) ∧ Aside0 (w'.heap[gb218]? = some (.cells #[(.slice A0_0 l0_0.length c0_0), .int .i64 a0_1, (.slice (some ad227) l0_2.length c0_2), .int .i64 a0_3, .int .i64 a0_4] 107 (0, 0))) ∧ Aside0 (w'.heap[gb228]? = some (.cells #[.int .i64 ((rd_T245 l0_2 x67_3).f0), .int .i64 ((rd_T245 l0_2 x67_3).f1), .int .i64 ((rd_T245 l0_2 x67_3).f2), (.slice A227_3 ((rd_T245 l0_2 x67_3).f3).length c227_3)] 245 (0, 0))) ∧ Aside0 (Below w.heap.size w w'))
                              case atStart => exact ⟨(0), (0), (by first | rfl | (simp; done) | (simp [*]; done)), (by first | rfl | (simp; done) | (simp [*]; done)), H', ⟨Nat.le_refl _⟩, ⟨by (with_reducible repeat (first | refine blk_drewN ?_ _ | refine blk_drew ?_ | refine blk_alloc ?_ _)); exact BK218.out⟩, ⟨by (with_reducible repeat (first | refine blk_drewN ?_ _ | refine blk_drew ?_ | refine blk_alloc ?_ _)); exact BK228.out⟩, ⟨by repeat (first | (with_reducible first | exact HB.out | apply below_alloc | apply pw_below_drewN | apply below_drew1 | refine below_set ?_ GE218.out | refine below_set ?_ GE228.out) | exact HB.out)⟩⟩
                              case round =>
                                clear H'
                                try clear c1
                                try clear c2
                                try clear p2
                                try clear q2
                                try clear hx2
                                try clear c4
                                try clear c5
                                try clear c6
                                try clear p6
                                try clear c7
                                try clear c8
                                try clear c9
                                try clear c10
                                try clear c11
                                try clear c22
                                try clear p22
                                try clear q22
                                try clear hx22
                                try clear c41
                                try clear c41b0
                                try clear c42
                                try clear c42b0
                                try clear c43
                                try clear c43b0
                                try clear c46
                                try clear c48
                                try clear c48b0
                                try clear c48b1
                                try clear c49
                                try clear c49b0
                                try clear c49b1
                                try clear c50
                                try clear c50b0
                                try clear c50b1
                                try clear c51
                                try clear c51b0
                                try clear c53
                                try clear c55
                                try clear c57
                                try clear c58
                                try clear c61
                                try clear c64
                                try clear p64
                                try clear c66
                                try clear c69
                                try clear c71
                                try clear c72
                                try clear c75
                                try clear c78
                                try clear c80
                                try clear c82
                                try clear c84
                                try clear c84b0
                                try clear c86
                                try clear c88
                                try clear c90
                                try clear c91
                                try clear c94
                                try clear c97
                                try clear c99
                                try clear c102
                                try clear c104
                                try clear c105
                                try clear c108
                                try clear c111
                                try clear c113
                                try clear c114
                                try clear hcz100_0
                                try clear hcz100_1
                                try clear hcz100_2
                                try clear hcz100_3
                                try clear hcz106_0
                                try clear hcz106_1
                                try clear hcz106_2
                                try clear hcz106_3
                                try clear hcz107_0
                                try clear hcz107_1
                                try clear hcz107_2
                                try clear hcz107_3
                                try clear hcz107_4
                                try clear hcz109_0
                                try clear hcz109_1
                                try clear hcz109_2
                                try clear hcz109_3
                                try clear hcz110_0
                                try clear hcz110_1
                                try clear hcz110_2
                                try clear hcz110_3
                                try clear hcz110_4
                                try clear hcz112_0
                                try clear hcz112_1
                                try clear hcz112_2
                                try clear hcz112_3
                                try clear hcz115_0
                                try clear hcz115_1
                                try clear hcz115_2
                                try clear hcz115_3
                                try clear hcz25_1
                                try clear hcz25_2
                                try clear hcz25_3
                                try clear hcz25_4
                                try clear hcz37_0
                                try clear hcz37_1
                                try clear hcz37_2
                                try clear hcz37_3
                                try clear hcz37_4
                                try clear hcz38_0
                                try clear hcz38_1
                                try clear hcz38_2
                                try clear hcz38_3
                                try clear hcz38_4
                                try clear hcz39_0
                                try clear hcz39_1
                                try clear hcz39_2
                                try clear hcz39_3
                                try clear hcz39_4
                                try clear hcz40_0
                                try clear hcz40_1
                                try clear hcz40_2
                                try clear hcz40_3
                                try clear hcz40_4
                                try clear hcz47_0
                                try clear hcz47_1
                                try clear hcz47_2
                                try clear hcz47_3
                                try clear hcz59_0
                                try clear hcz59_1
                                try clear hcz59_2
                                try clear hcz59_3
                                try clear hcz60_0
                                try clear hcz60_1
                                try clear hcz60_2
                                try clear hcz60_3
                                try clear hcz60_4
                                try clear hcz62_0
                                try clear hcz62_1
                                try clear hcz62_2
                                try clear hcz62_3
                                try clear hcz63_0
                                try clear hcz63_1
                                try clear hcz63_2
                                try clear hcz63_3
                                try clear hcz63_4
                                try clear hcz65_0
                                try clear hcz65_1
                                try clear hcz65_2
                                try clear hcz65_3
                                try clear hcz67_0
                                try clear hcz67_1
                                try clear hcz67_2
                                try clear hcz67_3
                                try clear hcz73_0
                                try clear hcz73_1
                                try clear hcz73_2
                                try clear hcz73_3
                                try clear hcz74_0
                                try clear hcz74_1
                                try clear hcz74_2
                                try clear hcz74_3
                                try clear hcz74_4
                                try clear hcz76_0
                                try clear hcz76_1
                                try clear hcz76_2
                                try clear hcz76_3
                                try clear hcz77_0
                                try clear hcz77_1
                                try clear hcz77_2
                                try clear hcz77_3
                                try clear hcz77_4
                                try clear hcz79_0
                                try clear hcz79_1
                                try clear hcz79_2
                                try clear hcz79_3
                                try clear hcz81_0
                                try clear hcz81_1
                                try clear hcz81_2
                                try clear hcz81_3
                                try clear hcz83_0
                                try clear hcz83_1
                                try clear hcz83_2
                                try clear hcz83_3
                                try clear hcz92_0
                                try clear hcz92_1
                                try clear hcz92_2
                                try clear hcz92_3
                                try clear hcz93_0
                                try clear hcz93_1
                                try clear hcz93_2
                                try clear hcz93_3
                                try clear hcz93_4
                                try clear hcz95_0
                                try clear hcz95_1
                                try clear hcz95_2
                                try clear hcz95_3
                                try clear hcz96_0
                                try clear hcz96_1
                                try clear hcz96_2
                                try clear hcz96_3
                                try clear hcz96_4
                                try clear hcz98_0
                                try clear hcz98_1
                                try clear hcz98_2
                                try clear hcz98_3
                                try clear hcz9_0
                                try clear hcz9_1
                                try clear hcz9_2
                                try clear hcz9_3
                                try clear hcz9_4
                                try clear hfz100_0
                                try clear hfz100_1
                                try clear hfz100_2
                                try clear hfz100_3
                                try clear hfz106_0
                                try clear hfz106_1
                                try clear hfz106_2
                                try clear hfz106_3
                                try clear hfz107_0
                                try clear hfz107_1
                                try clear hfz107_2
                                try clear hfz107_3
                                try clear hfz107_4
                                try clear hfz109_0
                                try clear hfz109_1
                                try clear hfz109_2
                                try clear hfz109_3
                                try clear hfz110_0
                                try clear hfz110_1
                                try clear hfz110_2
                                try clear hfz110_3
                                try clear hfz110_4
                                try clear hfz112_0
                                try clear hfz112_1
                                try clear hfz112_2
                                try clear hfz112_3
                                try clear hfz115_0
                                try clear hfz115_1
                                try clear hfz115_2
                                try clear hfz115_3
                                try clear hfz11_0
                                try clear hfz11_1
                                try clear hfz11_2
                                try clear hfz11_3
                                try clear hfz11_4
                                try clear hfz13_0
                                try clear hfz13_1
                                try clear hfz13_2
                                try clear hfz13_3
                                try clear hfz13_4
                                try clear hfz15_0
                                try clear hfz15_1
                                try clear hfz15_2
                                try clear hfz15_3
                                try clear hfz15_4
                                try clear hfz16_0
                                try clear hfz16_1
                                try clear hfz16_2
                                try clear hfz16_3
                                try clear hfz16_4
                                try clear hfz18_0
                                try clear hfz18_1
                                try clear hfz18_2
                                try clear hfz18_3
                                try clear hfz18_4
                                try clear hfz19_0
                                try clear hfz19_1
                                try clear hfz19_2
                                try clear hfz19_3
                                try clear hfz19_4
                                try clear hfz21_0
                                try clear hfz21_1
                                try clear hfz21_2
                                try clear hfz21_3
                                try clear hfz21_4
                                try clear hfz22_0
                                try clear hfz22_1
                                try clear hfz22_2
                                try clear hfz22_3
                                try clear hfz22_4
                                try clear hfz25_0
                                try clear hfz25_1
                                try clear hfz25_2
                                try clear hfz25_3
                                try clear hfz25_4
                                try clear hfz37_0
                                try clear hfz37_1
                                try clear hfz37_2
                                try clear hfz37_3
                                try clear hfz37_4
                                try clear hfz38_0
                                try clear hfz38_1
                                try clear hfz38_2
                                try clear hfz38_3
                                try clear hfz38_4
                                try clear hfz39_0
                                try clear hfz39_1
                                try clear hfz39_2
                                try clear hfz39_3
                                try clear hfz39_4
                                try clear hfz40_0
                                try clear hfz40_1
                                try clear hfz40_2
                                try clear hfz40_3
                                try clear hfz40_4
                                try clear hfz47_0
                                try clear hfz47_1
                                try clear hfz47_2
                                try clear hfz47_3
                                try clear hfz59_0
                                try clear hfz59_1
                                try clear hfz59_2
                                try clear hfz59_3
                                try clear hfz60_0
                                try clear hfz60_1
                                try clear hfz60_2
                                try clear hfz60_3
                                try clear hfz60_4
                                try clear hfz62_0
                                try clear hfz62_1
                                try clear hfz62_2
                                try clear hfz62_3
                                try clear hfz63_0
                                try clear hfz63_1
                                try clear hfz63_2
                                try clear hfz63_3
                                try clear hfz63_4
                                try clear hfz65_0
                                try clear hfz65_1
                                try clear hfz65_2
                                try clear hfz65_3
                                try clear hfz67_0
                                try clear hfz67_1
                                try clear hfz67_2
                                try clear hfz67_3
                                try clear hfz73_0
                                try clear hfz73_1
                                try clear hfz73_2
                                try clear hfz73_3
                                try clear hfz74_0
                                try clear hfz74_1
                                try clear hfz74_2
                                try clear hfz74_3
                                try clear hfz74_4
                                try clear hfz76_0
                                try clear hfz76_1
                                try clear hfz76_2
                                try clear hfz76_3
                                try clear hfz77_0
                                try clear hfz77_1
                                try clear hfz77_2
                                try clear hfz77_3
                                try clear hfz77_4
                                try clear hfz79_0
                                try clear hfz79_1
                                try clear hfz79_2
                                try clear hfz79_3
                                try clear hfz81_0
                                try clear hfz81_1
                                try clear hfz81_2
                                try clear hfz81_3
                                try clear hfz83_0
                                try clear hfz83_1
                                try clear hfz83_2
                                try clear hfz83_3
                                try clear hfz92_0
                                try clear hfz92_1
                                try clear hfz92_2
                                try clear hfz92_3
                                try clear hfz93_0
                                try clear hfz93_1
                                try clear hfz93_2
                                try clear hfz93_3
                                try clear hfz93_4
                                try clear hfz95_0
                                try clear hfz95_1
                                try clear hfz95_2
                                try clear hfz95_3
                                try clear hfz96_0
                                try clear hfz96_1
                                try clear hfz96_2
                                try clear hfz96_3
                                try clear hfz96_4
                                try clear hfz98_0
                                try clear hfz98_1
                                try clear hfz98_2
                                try clear hfz98_3
                                try clear hfz9_0
                                try clear hfz9_1
                                try clear hfz9_2
                                try clear hfz9_3
                                try clear hfz9_4
                                try clear hx224_0
                                try clear hx226_0
                                try clear hx226_1
                                try clear hx226_2
                                try clear hx227_0
                                try clear hx227_1
                                try clear hx227_2
                                try clear hx227_3
                                try clear p2
                                try clear p22
                                try clear p224
                                try clear p226
                                try clear p227
                                try clear p6
                                try clear p64
                                try clear q2
                                try clear q22
                                try clear q224
                                try clear q226
                                try clear q227
                                obtain ⟨x7_5, x123_5, rfl, rfl, HA, HK5, BK218, BK228, HB⟩ := hrel
                                cases gk with
                                | zero => exact absurd HA.out (by simp [impl_GroupOk.l2])
                                | succ k5 =>
                                  have H := HA.out
                                  clear HA
                                  simp only [impl_GroupOk.l2] at H
                                  by_cases c116 : x123_5 < (((rd_T245 l0_2 x67_3).f3).length : Int)
                                  · rw [if_pos c116] at H
                                    have c116b0 : decide (x123_5 < (((rd_T245 l0_2 x67_3).f3).length : Int)) = true := decide_eq_true c116
                                    clear c116
                                    by_cases c117 : 0 ≤ x123_5
                                    · rw [if_pos c117] at H
                                      have c117b0 : decide (0 ≤ x123_5) = true := decide_eq_true c117
                                      clear c117
                                      by_cases c118 : x123_5 < (((rd_T245 l0_2 x67_3).f3).length : Int)
                                      · rw [if_pos c118] at H
                                        have c118b0 : decide (x123_5 < (((rd_T245 l0_2 x67_3).f3).length : Int)) = true := decide_eq_true c118
                                        clear c118
                                        replace H := Option.bind_eq_some_iff.mp H
                                        obtain ⟨t240, A1190, H⟩ := H
                                        replace H : (if t240 = true then (if (rd ((rd_T245 l0_2 x67_3).f3) x123_5) = 0 then (impl_GroupOk.l2 k5 (wrap64 (x7_5 + (rd ((rd_T245 l0_2 x67_3).f3) x123_5))) l0_2 (l0_2.length : Int) x67_3 ((rd_T245 l0_2 x67_3).f3) (((rd_T245 l0_2 x67_3).f3).length : Int) (wrap64 (x123_5 + 1)) l0_0 a0_1 l0_2 a0_3 a0_4) else ((impl_leafAt.f l0_0 x123_5).bind fun t241 => (if t241 = true then (impl_GroupOk.l2 k5 (wrap64 (x7_5 + (rd ((rd_T245 l0_2 x67_3).f3) x123_5))) l0_2 (l0_2.length : Int) x67_3 ((rd_T245 l0_2 x67_3).f3) (((rd_T245 l0_2 x67_3).f3).length : Int) (wrap64 (x123_5 + 1)) l0_0 a0_1 l0_2 a0_3 a0_4) else (some false)))) else (some false)) = some r := H
                                        have A119 := Aside0.mk A1190
                                        clear A1190
                                        by_cases c120 : t240 = true
                                        · subst c120
                                          have H1 : (if (rd ((rd_T245 l0_2 x67_3).f3) x123_5) = 0 then (impl_GroupOk.l2 k5 (wrap64 (x7_5 + (rd ((rd_T245 l0_2 x67_3).f3) x123_5))) l0_2 (l0_2.length : Int) x67_3 ((rd_T245 l0_2 x67_3).f3) (((rd_T245 l0_2 x67_3).f3).length : Int) (wrap64 (x123_5 + 1)) l0_0 a0_1 l0_2 a0_3 a0_4) else ((impl_leafAt.f l0_0 x123_5).bind fun t241 => (if t241 = true then (impl_GroupOk.l2 k5 (wrap64 (x7_5 + (rd ((rd_T245 l0_2 x67_3).f3) x123_5))) l0_2 (l0_2.length : Int) x67_3 ((rd_T245 l0_2 x67_3).f3) (((rd_T245 l0_2 x67_3).f3).length : Int) (wrap64 (x123_5 + 1)) l0_0 a0_1 l0_2 a0_3 a0_4) else (some false)))) = some r := by rw [if_pos rfl] at H; exact H
                                          clear H
                                          have H := H1
                                          clear H1
                                          by_cases c121 : (rd ((rd_T245 l0_2 x67_3).f3) x123_5) = 0
                                          · rw [if_pos c121] at H
                                            have c121b0 : ((rd ((rd_T245 l0_2 x67_3).f3) x123_5) == 0) = true := beq_iff_eq.mpr c121
                                            have c121b1 : ((rd ((rd_T245 l0_2 x67_3).f3) x123_5) != 0) = false := bne_eq_false_iff_eq.mpr c121
                                            clear c121
                                            have H' := Aside0.mk H
                                            clear H
                                            have p239 : 0 ≤ (x123_5 : Int) := of_decide_eq_true (by first | (with_reducible assumption) | assumption)
                                            have q239 : x123_5 < (((rd_T245 l0_2 x67_3).f3).length : Int) := of_decide_eq_true (by first | (with_reducible assumption) | assumption)
                                            obtain ⟨ad239, e239, hx239_0⟩ := Kd.at_int HR227_3.out x123_5 p239 q239
                                            cases e239
                                            replace hx239_0 := (HB.out.cell (World.block_lt_of_cell? w _ hx239_0)).trans hx239_0
                                            replace p239 := eq_true p239
                                            replace q239 := eq_true q239
                                            go_wp2_with (first | ((with_reducible refine gate_callee (f := 106) rfl ?_); refine goesL_ (some 129) rfl rfl Try.func106 (by kernel_rfl) rfl #[.int .i64 (rd ((rd_T245 l0_2 x67_3).f3) x123_5)] rfl (by (try simp only [List.map_toArray, List.map_cons, List.map_nil]); first | done | rfl | (simp only [List.length_drop, List.length_take]; rfl)) ?_; (with_reducible refine (impl_amount.calls (rd ((rd_T245 l0_2 x67_3).f3) x123_5) true _ A119.out).mono ?_); rintro e w' ⟨rfl, ⟨nd, rfl⟩⟩; refine ⟨_, rfl, ?_⟩))
                                            go_roundg k5
                                            case measure => have := HJ1.out; have := HK2.out; have := HK3.out; have := HJ43.out; have := HK5.out; omega
                                            case rel => exact ⟨(wrap64 (x7_5 + (rd ((rd_T245 l0_2 x67_3).f3) x123_5))), (wrap64 (x123_5 + 1)), (by first | rfl | (simp; done) | (simp [*]; done)), (by first | rfl | (simp; done) | (simp [*]; done)), H', ⟨by have := HJ1.out; have := HK2.out; have := HK3.out; have := HJ43.out; have := HK5.out; omega⟩, ⟨by (with_reducible repeat (first | refine blk_drewN ?_ _ | refine blk_drew ?_ | refine blk_alloc ?_ _)); exact BK218.out⟩, ⟨by (with_reducible repeat (first | refine blk_drewN ?_ _ | refine blk_drew ?_ | refine blk_alloc ?_ _)); exact BK228.out⟩, ⟨by repeat (first | (with_reducible first | exact HB.out | apply below_alloc | apply pw_below_drewN | apply below_drew1 | refine below_set ?_ GE218.out | refine below_set ?_ GE228.out) | exact HB.out)⟩⟩
                                          · rw [if_neg c121] at H
                                            have c121b0 : ((rd ((rd_T245 l0_2 x67_3).f3) x123_5) == 0) = false := beq_eq_false_iff_ne.mpr c121
                                            have c121b1 : ((rd ((rd_T245 l0_2 x67_3).f3) x123_5) != 0) = true := bne_iff_ne.mpr c121
                                            replace H := Option.bind_eq_some_iff.mp H
                                            obtain ⟨t241, A1220, H⟩ := H
                                            replace H : (if t241 = true then (impl_GroupOk.l2 k5 (wrap64 (x7_5 + (rd ((rd_T245 l0_2 x67_3).f3) x123_5))) l0_2 (l0_2.length : Int) x67_3 ((rd_T245 l0_2 x67_3).f3) (((rd_T245 l0_2 x67_3).f3).length : Int) (wrap64 (x123_5 + 1)) l0_0 a0_1 l0_2 a0_3 a0_4) else (some false)) = some r := H
                                            have A122 := Aside0.mk A1220
                                            clear A1220
                                            by_cases c123 : t241 = true
                                            · subst c123
                                              have H1 : (impl_GroupOk.l2 k5 (wrap64 (x7_5 + (rd ((rd_T245 l0_2 x67_3).f3) x123_5))) l0_2 (l0_2.length : Int) x67_3 ((rd_T245 l0_2 x67_3).f3) (((rd_T245 l0_2 x67_3).f3).length : Int) (wrap64 (x123_5 + 1)) l0_0 a0_1 l0_2 a0_3 a0_4) = some r := by rw [if_pos rfl] at H; exact H
                                              clear H
                                              have H := H1
                                              clear H1
                                              have H' := Aside0.mk H
                                              clear H
                                              have p239 : 0 ≤ (x123_5 : Int) := of_decide_eq_true (by first | (with_reducible assumption) | assumption)
                                              have q239 : x123_5 < (((rd_T245 l0_2 x67_3).f3).length : Int) := of_decide_eq_true (by first | (with_reducible assumption) | assumption)
                                              obtain ⟨ad239, e239, hx239_0⟩ := Kd.at_int HR227_3.out x123_5 p239 q239
                                              cases e239
                                              replace hx239_0 := (HB.out.cell (World.block_lt_of_cell? w _ hx239_0)).trans hx239_0
                                              replace p239 := eq_true p239
                                              replace q239 := eq_true q239
                                              go_wp2_with (first | ((with_reducible refine gate_callee (f := 106) rfl ?_); refine goesL_ (some 129) rfl rfl Try.func106 (by kernel_rfl) rfl #[.int .i64 (rd ((rd_T245 l0_2 x67_3).f3) x123_5)] rfl (by (try simp only [List.map_toArray, List.map_cons, List.map_nil]); first | done | rfl | (simp only [List.length_drop, List.length_take]; rfl)) ?_; (with_reducible refine (impl_amount.calls (rd ((rd_T245 l0_2 x67_3).f3) x123_5) true _ A119.out).mono ?_); rintro e w' ⟨rfl, ⟨nd, rfl⟩⟩; refine ⟨_, rfl, ?_⟩; have hnb124 := NB218_228.out; have hnc124 := NB228_218.out; have hcz125_0 : wr.cell? ⟨gb218, 0, none⟩ = some (.slice A0_0 l0_0.length c0_0) := (blk_cell BK218.out 0).trans rfl; have hcz125_1 : wr.cell? ⟨gb218, 1, none⟩ = some (.int .i64 a0_1) := (blk_cell BK218.out 1).trans rfl; have hcz125_2 : wr.cell? ⟨gb218, 2, none⟩ = some (.slice (some ad227) l0_2.length c0_2) := (blk_cell BK218.out 2).trans rfl; have hcz125_3 : wr.cell? ⟨gb218, 3, none⟩ = some (.int .i64 a0_3) := (blk_cell BK218.out 3).trans rfl; have hcz125_4 : wr.cell? ⟨gb218, 4, none⟩ = some (.int .i64 a0_4) := (blk_cell BK218.out 4).trans rfl; have hfz125_0 := blk_frozen BK218.out 0; have hfz125_1 := blk_frozen BK218.out 1; have hfz125_2 := blk_frozen BK218.out 2; have hfz125_3 := blk_frozen BK218.out 3; have hfz125_4 := blk_frozen BK218.out 4) | (go_at_call 171; (with_reducible refine (impl_leafAt.calls _ _ l0_0 x123_5 true _ ?side1 ?side2 A122.out).mono ?_); (case side1 => repeat (first | exact (Kd.C_below HR0_0.out (by repeat (first | (with_reducible first | exact HB.out | apply below_alloc | apply pw_below_drewN | apply below_drew1 | refine below_set ?_ GE218.out | refine below_set ?_ GE228.out) | exact HB.out))) | (with_reducible refine Kd.C_alloc ?_ _) | (with_reducible refine Kd.C_drewN ?_ _) | (with_reducible refine Kd.C_drew ?_))); (case side2 => exact HC0_0.out); rintro e w' ⟨rfl, ⟨nd, rfl⟩⟩))
                                              go_roundg k5
                                              case measure => have := HJ1.out; have := HK2.out; have := HK3.out; have := HJ43.out; have := HK5.out; omega
                                              case rel => exact ⟨(wrap64 (x7_5 + (rd ((rd_T245 l0_2 x67_3).f3) x123_5))), (wrap64 (x123_5 + 1)), (by first | rfl | (simp; done) | (simp [*]; done)), (by first | rfl | (simp; done) | (simp [*]; done)), H', ⟨by have := HJ1.out; have := HK2.out; have := HK3.out; have := HJ43.out; have := HK5.out; omega⟩, ⟨by (with_reducible repeat (first | refine blk_drewN ?_ _ | refine blk_drew ?_ | refine blk_alloc ?_ _)); exact BK218.out⟩, ⟨by (with_reducible repeat (first | refine blk_drewN ?_ _ | refine blk_drew ?_ | refine blk_alloc ?_ _)); exact BK228.out⟩, ⟨by repeat (first | (with_reducible first | exact HB.out | apply below_alloc | apply pw_below_drewN | apply below_drew1 | refine below_set ?_ GE218.out | refine below_set ?_ GE228.out) | exact HB.out)⟩⟩
                                            · replace c123 := Bool.eq_false_iff.mpr c123
                                              subst c123
                                              have H1 : (some false) = some r := by rw [if_neg (show ¬ (false = true) by decide)] at H; exact H
                                              clear H
                                              have H := H1
                                              clear H1
                                              obtain rfl := Option.some.inj H
                                              have p239 : 0 ≤ (x123_5 : Int) := of_decide_eq_true (by first | (with_reducible assumption) | assumption)
                                              have q239 : x123_5 < (((rd_T245 l0_2 x67_3).f3).length : Int) := of_decide_eq_true (by first | (with_reducible assumption) | assumption)
                                              obtain ⟨ad239, e239, hx239_0⟩ := Kd.at_int HR227_3.out x123_5 p239 q239
                                              cases e239
                                              replace hx239_0 := (HB.out.cell (World.block_lt_of_cell? w _ hx239_0)).trans hx239_0
                                              replace p239 := eq_true p239
                                              replace q239 := eq_true q239
                                              go_wp2_with (first | ((with_reducible refine gate_callee (f := 106) rfl ?_); refine goesL_ (some 129) rfl rfl Try.func106 (by kernel_rfl) rfl #[.int .i64 (rd ((rd_T245 l0_2 x67_3).f3) x123_5)] rfl (by (try simp only [List.map_toArray, List.map_cons, List.map_nil]); first | done | rfl | (simp only [List.length_drop, List.length_take]; rfl)) ?_; (with_reducible refine (impl_amount.calls (rd ((rd_T245 l0_2 x67_3).f3) x123_5) true _ A119.out).mono ?_); rintro e w' ⟨rfl, ⟨nd, rfl⟩⟩; refine ⟨_, rfl, ?_⟩; have hnb126 := NB218_228.out; have hnc126 := NB228_218.out; have hcz127_0 : wr.cell? ⟨gb218, 0, none⟩ = some (.slice A0_0 l0_0.length c0_0) := (blk_cell BK218.out 0).trans rfl; have hcz127_1 : wr.cell? ⟨gb218, 1, none⟩ = some (.int .i64 a0_1) := (blk_cell BK218.out 1).trans rfl; have hcz127_2 : wr.cell? ⟨gb218, 2, none⟩ = some (.slice (some ad227) l0_2.length c0_2) := (blk_cell BK218.out 2).trans rfl; have hcz127_3 : wr.cell? ⟨gb218, 3, none⟩ = some (.int .i64 a0_3) := (blk_cell BK218.out 3).trans rfl; have hcz127_4 : wr.cell? ⟨gb218, 4, none⟩ = some (.int .i64 a0_4) := (blk_cell BK218.out 4).trans rfl; have hfz127_0 := blk_frozen BK218.out 0; have hfz127_1 := blk_frozen BK218.out 1; have hfz127_2 := blk_frozen BK218.out 2; have hfz127_3 := blk_frozen BK218.out 3; have hfz127_4 := blk_frozen BK218.out 4) | (go_at_call 171; (with_reducible refine (impl_leafAt.calls _ _ l0_0 x123_5 false _ ?side1 ?side2 A122.out).mono ?_); (case side1 => repeat (first | exact (Kd.C_below HR0_0.out (by repeat (first | (with_reducible first | exact HB.out | apply below_alloc | apply pw_below_drewN | apply below_drew1 | refine below_set ?_ GE218.out | refine below_set ?_ GE228.out) | exact HB.out))) | (with_reducible refine Kd.C_alloc ?_ _) | (with_reducible refine Kd.C_drewN ?_ _) | (with_reducible refine Kd.C_drew ?_))); (case side2 => exact HC0_0.out); rintro e w' ⟨rfl, ⟨nd, rfl⟩⟩))
                                              go_ret
                                              exact ⟨by first | rfl | (simp [errW_none, errW_some] <;> rfl) | (simp [*, errW_none, errW_some] <;> rfl), by repeat (first | (with_reducible first | exact HB.out | apply below_alloc | apply pw_below_drewN | apply below_drew1 | refine below_set ?_ GE218.out | refine below_set ?_ GE228.out) | exact HB.out)⟩
                                        · replace c120 := Bool.eq_false_iff.mpr c120
                                          subst c120
                                          have H1 : (some false) = some r := by rw [if_neg (show ¬ (false = true) by decide)] at H; exact H
                                          clear H
                                          have H := H1
                                          clear H1
                                          obtain rfl := Option.some.inj H
                                          have p239 : 0 ≤ (x123_5 : Int) := of_decide_eq_true (by first | (with_reducible assumption) | assumption)
                                          have q239 : x123_5 < (((rd_T245 l0_2 x67_3).f3).length : Int) := of_decide_eq_true (by first | (with_reducible assumption) | assumption)
                                          obtain ⟨ad239, e239, hx239_0⟩ := Kd.at_int HR227_3.out x123_5 p239 q239
                                          cases e239
                                          replace hx239_0 := (HB.out.cell (World.block_lt_of_cell? w _ hx239_0)).trans hx239_0
                                          replace p239 := eq_true p239
                                          replace q239 := eq_true q239
                                          go_wp2_with (first | ((with_reducible refine gate_callee (f := 106) rfl ?_); refine goesL_ (some 129) rfl rfl Try.func106 (by kernel_rfl) rfl #[.int .i64 (rd ((rd_T245 l0_2 x67_3).f3) x123_5)] rfl (by (try simp only [List.map_toArray, List.map_cons, List.map_nil]); first | done | rfl | (simp only [List.length_drop, List.length_take]; rfl)) ?_; (with_reducible refine (impl_amount.calls (rd ((rd_T245 l0_2 x67_3).f3) x123_5) false _ A119.out).mono ?_); rintro e w' ⟨rfl, ⟨nd, rfl⟩⟩; refine ⟨_, rfl, ?_⟩))
                                          go_ret
                                          exact ⟨by first | rfl | (simp [errW_none, errW_some] <;> rfl) | (simp [*, errW_none, errW_some] <;> rfl), by repeat (first | (with_reducible first | exact HB.out | apply below_alloc | apply pw_below_drewN | apply below_drew1 | refine below_set ?_ GE218.out | refine below_set ?_ GE228.out) | exact HB.out)⟩
                                      · rw [if_neg c118] at H
                                        exact absurd H (by simp)
                                    · rw [if_neg c117] at H
                                      exact absurd H (by simp)
                                  · rw [if_neg c116] at H
                                    have c116b0 : decide (x123_5 < (((rd_T245 l0_2 x67_3).f3).length : Int)) = false := decide_eq_false c116
                                    clear c116
                                    by_cases c128 : x7_5 = 0
                                    · rw [if_pos c128] at H
                                      have c128b0 : (x7_5 == 0) = true := beq_iff_eq.mpr c128
                                      have c128b1 : (x7_5 != 0) = false := bne_eq_false_iff_eq.mpr c128
                                      clear c128
                                      have H' := Aside0.mk H
                                      clear H
                                      go_wp2
                                      go_roundg k5
                                      case measure => have := HJ1.out; have := HK2.out; have := HK3.out; have := HJ43.out; have := HK5.out; omega
                                      case rel => exact ⟨(wrap64 (x67_3 + 1)), (by first | rfl | (simp; done) | (simp [*]; done)), H', ⟨by have := HJ1.out; have := HK2.out; have := HK3.out; have := HJ43.out; have := HK5.out; omega⟩, ⟨by (with_reducible repeat (first | refine blk_drewN ?_ _ | refine blk_drew ?_ | refine blk_alloc ?_ _)); exact BK218.out⟩, ⟨by repeat (first | (with_reducible first | exact HB.out | apply below_alloc | apply pw_below_drewN | apply below_drew1 | refine below_set ?_ GE218.out | refine below_set ?_ GE228.out) | exact HB.out)⟩⟩
                                    · rw [if_neg c128] at H
                                      have c128b0 : (x7_5 == 0) = false := beq_eq_false_iff_ne.mpr c128
                                      have c128b1 : (x7_5 != 0) = true := bne_iff_ne.mpr c128
                                      obtain rfl := Option.some.inj H
                                      go_wp2
                                      go_ret
                                      exact ⟨by first | rfl | (simp [errW_none, errW_some] <;> rfl) | (simp [*, errW_none, errW_some] <;> rfl), by repeat (first | (with_reducible first | exact HB.out | apply below_alloc | apply pw_below_drewN | apply below_drew1 | refine below_set ?_ GE218.out | refine below_set ?_ GE228.out) | exact HB.out)⟩
                      · rw [if_neg c43] at H
                        exact absurd H (by simp)
                    · rw [if_neg c42] at H
                      exact absurd H (by simp)
                  · rw [if_neg c41] at H
                    have c41b0 : decide (x67_3 < (l0_2.length : Int)) = false := decide_eq_false c41
                    clear c41
                    obtain rfl := Option.some.inj H
                    go_wp2
                    go_ret
                    exact ⟨by first | rfl | (simp [errW_none, errW_some] <;> rfl) | (simp [*, errW_none, errW_some] <;> rfl), by repeat (first | (with_reducible first | exact HB.out | apply below_alloc | apply pw_below_drewN | apply below_drew1 | refine below_set ?_ GE218.out) | exact HB.out)⟩
end Go.Proofs.Ytnbecbgpefmcoaa.PFnExactGroupOk
