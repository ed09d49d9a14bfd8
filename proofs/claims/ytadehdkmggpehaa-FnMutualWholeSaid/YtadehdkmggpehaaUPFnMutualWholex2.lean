import Derived.Test.YtadehdkmggpehaaUPFnMutualWholex0
import Derived.Test.YtadehdkmggpehaaUPFnMutualWholex1
import Derived.Test.YtadehdkmggpehaaUSlimWords
namespace Go.Proofs.Ytadehdkmggpehaa.PFnMutualWhole
open Go.Proofs.Ytadehdkmggpehaa.SlimWords
open Go.RowKit Go.Proofs.YtadehdkmggpehaaW.PrintWords Go.Proofs.YtadehdkmggpehaaW.PrintLast Go.Proofs.YtadehdkmggpehaaW.PrintMore Go.Proofs.Ytadehdkmggpehaa.MapWords Go.Proofs.Ytadehdkmggpehaa.IterWords Go.Proofs.Ytadehdkmggpehaa.MarkWords Go.Proofs.Ytadehdkmggpehaa.ArrWords
attribute [local go_sem] ptrOf_slice max2_int min2_int max_two min_two max_three min_three max_four min_four
set_option linter.unusedVariables false
set_option linter.unusedSimpArgs false
mutual
def spec_Shares.j0 : Nat → Int → List Int → List Int → Bool → Option (List Int)
  | 0, _, _, _, _ => none
  | k + 1, x0, x1, x5, x23 => if x23 = true then (some x5) else (spec_Shares.l0 k x0 x1 x5 0 0)
def spec_Shares.l0 : Nat → Int → List Int → List Int → Int → Int → Option (List Int)
  | 0, _, _, _, _, _ => none
  | k + 1, x0, x1, x5, x6, x7 => if x7 < (x1.length : Int) then (if 0 ≤ x7 then ((spec_l1Factor.f (rd x1 x7)).bind fun t127 => (if t127 = true then (spec_Shares.l0 k x0 x1 x5 (wrap64 (x6 + (rd x1 x7))) (wrap64 (x7 + 1))) else (some x5))) else (none)) else (if x6 = 0 then (some x5) else (spec_Shares.l1 k x0 x1 x5 x6 (([] : List Int)) x0 0))
def spec_Shares.l1 : Nat → Int → List Int → List Int → Int → List Int → Int → Int → Option (List Int)
  | 0, _, _, _, _, _, _, _ => none
  | k + 1, x0, x1, x5, x6, x8, x9, x10 => if x10 < (x1.length : Int) then (if 0 ≤ x10 then (if x6 = 0 then (none) else (if x5.length < 17592186044416 then ((spec_l1Abs.f (Int.tmod (wrap64 (x0 * (rd x1 x10))) x6)).bind fun t136 => (if x8.length < 17592186044416 then (spec_Shares.l1 k x0 x1 (x5 ++ [wrap64 (Int.tdiv (wrap64 (x0 * (rd x1 x10))) x6)]) x6 (x8 ++ [t136]) (wrap64 (x9 - (wrap64 (Int.tdiv (wrap64 (x0 * (rd x1 x10))) x6)))) (wrap64 (x10 + 1))) else (none))) else (none))) else (none)) else (if x9 < 0 then (spec_Shares.j3 k x5 x8 x9 (-1)) else (spec_Shares.j3 k x5 x8 x9 1))
def spec_Shares.j3 : Nat → List Int → List Int → Int → Int → Option (List Int)
  | 0, _, _, _, _ => none
  | k + 1, x5, x8, x9, x12 => spec_Shares.l2 k x5 x8 x9 x12
def spec_Shares.l2 : Nat → List Int → List Int → Int → Int → Option (List Int)
  | 0, _, _, _, _ => none
  | k + 1, x5, x8, x9, x12 => if x9 = 0 then (some x5) else (spec_Shares.l3 k x5 x8 x9 x12 0 1)
def spec_Shares.l3 : Nat → List Int → List Int → Int → Int → Int → Int → Option (List Int)
  | 0, _, _, _, _, _, _ => none
  | k + 1, x5, x8, x9, x12, x13, x14 => if x14 < (x8.length : Int) then (if 0 ≤ x14 then (if 0 ≤ x13 then (if x13 < (x8.length : Int) then (if (rd x8 x14) > (rd x8 x13) then (spec_Shares.l3 k x5 x8 x9 x12 x14 (wrap64 (x14 + 1))) else (spec_Shares.l3 k x5 x8 x9 x12 x13 (wrap64 (x14 + 1)))) else (none)) else (none)) else (none)) else (if 0 ≤ x13 then (if x13 < (x5.length : Int) then (if x13 < (x8.length : Int) then (spec_Shares.l2 k (x5.set (x13 : Int).toNat (wrap64 ((rd x5 x13) + x12))) (x8.set (x13 : Int).toNat (-1)) (wrap64 (x9 - x12)) x12) else (none)) else (none)) else (none))
end
def spec_Shares.f (k : Nat) (a0 : Int) (l1 : List Int) : Option (List Int) := (some (([] : List Int) : List Int)).bind fun y122 => ((spec_l1Amount.f a0).bind fun t125 => (if t125 = true then (spec_Shares.j0 k a0 l1 y122 (decide ((l1.length : Int) > 200))) else (spec_Shares.j0 k a0 l1 y122 true)))
theorem spec_Shares.mono_l : ∀ k, (∀ y0 y1 y2 y3, LeO (spec_Shares.j0 k y0 y1 y2 y3) (spec_Shares.j0 (k + 1) y0 y1 y2 y3)) ∧ (∀ y0 y1 y2 y3 y4, LeO (spec_Shares.l0 k y0 y1 y2 y3 y4) (spec_Shares.l0 (k + 1) y0 y1 y2 y3 y4)) ∧ (∀ y0 y1 y2 y3 y4 y5 y6, LeO (spec_Shares.l1 k y0 y1 y2 y3 y4 y5 y6) (spec_Shares.l1 (k + 1) y0 y1 y2 y3 y4 y5 y6)) ∧ (∀ y0 y1 y2 y3, LeO (spec_Shares.j3 k y0 y1 y2 y3) (spec_Shares.j3 (k + 1) y0 y1 y2 y3)) ∧ (∀ y0 y1 y2 y3, LeO (spec_Shares.l2 k y0 y1 y2 y3) (spec_Shares.l2 (k + 1) y0 y1 y2 y3)) ∧ (∀ y0 y1 y2 y3 y4 y5, LeO (spec_Shares.l3 k y0 y1 y2 y3 y4 y5) (spec_Shares.l3 (k + 1) y0 y1 y2 y3 y4 y5))
  | 0 => ⟨fun _ _ _ _ r h => by simp [spec_Shares.j0] at h, fun _ _ _ _ _ r h => by simp [spec_Shares.l0] at h, fun _ _ _ _ _ _ _ r h => by simp [spec_Shares.l1] at h, fun _ _ _ _ r h => by simp [spec_Shares.j3] at h, fun _ _ _ _ r h => by simp [spec_Shares.l2] at h, fun _ _ _ _ _ _ r h => by simp [spec_Shares.l3] at h⟩
  | k + 1 => by
    obtain ⟨ih0, ih1, ih2, ih3, ih4, ih5⟩ := spec_Shares.mono_l k
    refine ⟨?_, ?_, ?_, ?_, ?_, ?_⟩
    · intro y0 y1 y2 y3
      unfold spec_Shares.j0
      repeat' first
      | (with_reducible exact ih0 _ _ _ _)
      | (with_reducible exact ih1 _ _ _ _ _)
      | (with_reducible exact ih2 _ _ _ _ _ _ _)
      | (with_reducible exact ih3 _ _ _ _)
      | (with_reducible exact ih4 _ _ _ _)
      | (with_reducible exact ih5 _ _ _ _ _ _)
      | (with_reducible exact LeO.refl _)
      | (with_reducible exact LeO.none _)
      | (with_reducible refine LeO.ite ?_ ?_)
      | (with_reducible refine LeO.bind ?_ (fun _ => ?_))
      | exact ih0 _ _ _ _
      | exact ih1 _ _ _ _ _
      | exact ih2 _ _ _ _ _ _ _
      | exact ih3 _ _ _ _
      | exact ih4 _ _ _ _
      | exact ih5 _ _ _ _ _ _
      | exact LeO.none _
      | refine LeO.ite ?_ ?_
      | refine LeO.bind ?_ (fun _ => ?_)
    · intro y0 y1 y2 y3 y4
      unfold spec_Shares.l0
      repeat' first
      | (with_reducible exact ih0 _ _ _ _)
      | (with_reducible exact ih1 _ _ _ _ _)
      | (with_reducible exact ih2 _ _ _ _ _ _ _)
      | (with_reducible exact ih3 _ _ _ _)
      | (with_reducible exact ih4 _ _ _ _)
      | (with_reducible exact ih5 _ _ _ _ _ _)
      | (with_reducible exact LeO.refl _)
      | (with_reducible exact LeO.none _)
      | (with_reducible refine LeO.ite ?_ ?_)
      | (with_reducible refine LeO.bind ?_ (fun _ => ?_))
      | exact ih0 _ _ _ _
      | exact ih1 _ _ _ _ _
      | exact ih2 _ _ _ _ _ _ _
      | exact ih3 _ _ _ _
      | exact ih4 _ _ _ _
      | exact ih5 _ _ _ _ _ _
      | exact LeO.none _
      | refine LeO.ite ?_ ?_
      | refine LeO.bind ?_ (fun _ => ?_)
    · intro y0 y1 y2 y3 y4 y5 y6
      unfold spec_Shares.l1
      repeat' first
      | (with_reducible exact ih0 _ _ _ _)
      | (with_reducible exact ih1 _ _ _ _ _)
      | (with_reducible exact ih2 _ _ _ _ _ _ _)
      | (with_reducible exact ih3 _ _ _ _)
      | (with_reducible exact ih4 _ _ _ _)
      | (with_reducible exact ih5 _ _ _ _ _ _)
      | (with_reducible exact LeO.refl _)
      | (with_reducible exact LeO.none _)
      | (with_reducible refine LeO.ite ?_ ?_)
      | (with_reducible refine LeO.bind ?_ (fun _ => ?_))
      | exact ih0 _ _ _ _
      | exact ih1 _ _ _ _ _
      | exact ih2 _ _ _ _ _ _ _
      | exact ih3 _ _ _ _
      | exact ih4 _ _ _ _
      | exact ih5 _ _ _ _ _ _
      | exact LeO.none _
      | refine LeO.ite ?_ ?_
      | refine LeO.bind ?_ (fun _ => ?_)
    · intro y0 y1 y2 y3
      unfold spec_Shares.j3
      repeat' first
      | (with_reducible exact ih0 _ _ _ _)
      | (with_reducible exact ih1 _ _ _ _ _)
      | (with_reducible exact ih2 _ _ _ _ _ _ _)
      | (with_reducible exact ih3 _ _ _ _)
      | (with_reducible exact ih4 _ _ _ _)
      | (with_reducible exact ih5 _ _ _ _ _ _)
      | (with_reducible exact LeO.refl _)
      | (with_reducible exact LeO.none _)
      | (with_reducible refine LeO.ite ?_ ?_)
      | (with_reducible refine LeO.bind ?_ (fun _ => ?_))
      | exact ih0 _ _ _ _
      | exact ih1 _ _ _ _ _
      | exact ih2 _ _ _ _ _ _ _
      | exact ih3 _ _ _ _
      | exact ih4 _ _ _ _
      | exact ih5 _ _ _ _ _ _
      | exact LeO.none _
      | refine LeO.ite ?_ ?_
      | refine LeO.bind ?_ (fun _ => ?_)
    · intro y0 y1 y2 y3
      unfold spec_Shares.l2
      repeat' first
      | (with_reducible exact ih0 _ _ _ _)
      | (with_reducible exact ih1 _ _ _ _ _)
      | (with_reducible exact ih2 _ _ _ _ _ _ _)
      | (with_reducible exact ih3 _ _ _ _)
      | (with_reducible exact ih4 _ _ _ _)
      | (with_reducible exact ih5 _ _ _ _ _ _)
      | (with_reducible exact LeO.refl _)
      | (with_reducible exact LeO.none _)
      | (with_reducible refine LeO.ite ?_ ?_)
      | (with_reducible refine LeO.bind ?_ (fun _ => ?_))
      | exact ih0 _ _ _ _
      | exact ih1 _ _ _ _ _
      | exact ih2 _ _ _ _ _ _ _
      | exact ih3 _ _ _ _
      | exact ih4 _ _ _ _
      | exact ih5 _ _ _ _ _ _
      | exact LeO.none _
      | refine LeO.ite ?_ ?_
      | refine LeO.bind ?_ (fun _ => ?_)
    · intro y0 y1 y2 y3 y4 y5
      unfold spec_Shares.l3
      repeat' first
      | (with_reducible exact ih0 _ _ _ _)
      | (with_reducible exact ih1 _ _ _ _ _)
      | (with_reducible exact ih2 _ _ _ _ _ _ _)
      | (with_reducible exact ih3 _ _ _ _)
      | (with_reducible exact ih4 _ _ _ _)
      | (with_reducible exact ih5 _ _ _ _ _ _)
      | (with_reducible exact LeO.refl _)
      | (with_reducible exact LeO.none _)
      | (with_reducible refine LeO.ite ?_ ?_)
      | (with_reducible refine LeO.bind ?_ (fun _ => ?_))
      | exact ih0 _ _ _ _
      | exact ih1 _ _ _ _ _
      | exact ih2 _ _ _ _ _ _ _
      | exact ih3 _ _ _ _
      | exact ih4 _ _ _ _
      | exact ih5 _ _ _ _ _ _
      | exact LeO.none _
      | refine LeO.ite ?_ ?_
      | refine LeO.bind ?_ (fun _ => ?_)
theorem spec_Shares.mono : ∀ a0 a1 k, LeO (spec_Shares.f k a0 a1) (spec_Shares.f (k + 1) a0 a1) := by
 intro a0 a1 k
 obtain ⟨ih0, ih1, ih2, ih3, ih4, ih5⟩ := spec_Shares.mono_l k
 unfold spec_Shares.f
 repeat' first
     | (with_reducible exact ih0 _ _ _ _)
     | (with_reducible exact ih1 _ _ _ _ _)
     | (with_reducible exact ih2 _ _ _ _ _ _ _)
     | (with_reducible exact ih3 _ _ _ _)
     | (with_reducible exact ih4 _ _ _ _)
     | (with_reducible exact ih5 _ _ _ _ _ _)
     | (with_reducible exact LeO.refl _)
     | (with_reducible exact LeO.none _)
     | (with_reducible refine LeO.ite ?_ ?_)
     | (with_reducible refine LeO.bind ?_ (fun _ => ?_))
     | exact ih0 _ _ _ _
     | exact ih1 _ _ _ _ _
     | exact ih2 _ _ _ _ _ _ _
     | exact ih3 _ _ _ _
     | exact ih4 _ _ _ _
     | exact ih5 _ _ _ _ _ _
     | exact LeO.none _
     | refine LeO.ite ?_ ?_
     | refine LeO.bind ?_ (fun _ => ?_)
set_option maxHeartbeats 8000000 in
set_option maxRecDepth 100000 in
theorem spec_Shares.calls (k : Nat) (a0 : Int) (A1 : Option Addr) (c1 : Nat) (l1 : List Int) (r : List Int) (w : World) (hr1 : Kd.C (Kd.int .i64) w A1 l1.length l1) (hc1 : l1.length ≤ c1) (h : spec_Shares.f k a0 l1 = some r) :
    Calls Try.prog 43 #[.int .i64 a0, .slice A1 l1.length c1] w fun e w' => ∃ v0_ : Value, e = .returned (v0_) ∧ Kd.R (Kd.int .i64) 3 w' w.heap.size (fun _ => True) v0_ r ∧ Below w.heap.size w w' := by
 have HR1 := Aside0.mk hr1; have HC1 := Aside0.mk hc1; clear hr1 hc1; have HB := aZ (Below.refl w.heap.size w); have H : ((some (([] : List Int) : List Int)).bind fun y122 => ((spec_l1Amount.f a0).bind fun t125 => (if t125 = true then (spec_Shares.j0 k a0 l1 y122 (decide ((l1.length : Int) > 200))) else (spec_Shares.j0 k a0 l1 y122 true)))) = some r := h; clear h; obtain ⟨y122, hy122⟩ : ∃ y_ : List Int, y_ = (([] : List Int)) := ⟨_, rfl⟩
 replace H : ((spec_l1Amount.f a0).bind fun t125 => (if t125 = true then (spec_Shares.j0 k a0 l1 y122 (decide ((l1.length : Int) > 200))) else (spec_Shares.j0 k a0 l1 y122 true))) = some r := by first | (rw [hy122]; with_reducible exact H) | (have H2_ := (Option.bind_some _ _).symm.trans H; rw [hy122]; with_reducible exact H2_) | (have H2_ := (Option.bind_some _ _).symm.trans H; with_reducible exact H2_) | with_reducible exact H | (rw [hy122]; exact H) | exact H
 have Ny122 := Aside0.mk hy122; clear hy122; have HC3 := Aside0.mk H; clear H; go_enter Try.func43, Try.ntmps43
 go_upto_region 2 with (first | ((with_reducible refine gate_dst (N := 15) rfl ?_); (try (refine gate_guard (by rfl) ?_; dsimp only)); refine Kd.R_lit (Kd.int .i64) _ 3 ?hg (N := 15) ?hd (xs := ([] : List Int)) (inner := []) (ok := fun _ => True) (okp := fun _ => True) ?hr ?hp (fun _ hk => hk) trivial (Below.refl _ _) (Nat.le_refl _) (by simp) ?_; (case hd => rfl); (case hg => rfl); (case hr => first | (go_simp; done) | (go_simp; rfl)); (case hp => exact (Reps.none _ _)); intro v123 w4 ho5 hb hg_ hnew_; clear hg_ hnew_; (first | rw [← Ny122.out] at ho5 | (simp only [Int.reduceToNat] at ho5; rw [← Ny122.out] at ho5)); have HO124 := aZ (Kd.R_lower ho5 (below_size (lZB HB.out))); replace HB := aZ (below_step (lZB HB.out) hb); clear hb ho5))
 repeat (go_quiet (first | ((with_reducible refine gate_dst (N := 15) rfl ?_); (try (refine gate_guard (by rfl) ?_; dsimp only)); refine Kd.R_lit (Kd.int .i64) _ 3 ?hg (N := 15) ?hd (xs := ([] : List Int)) (inner := []) (ok := fun _ => True) (okp := fun _ => True) ?hr ?hp (fun _ hk => hk) trivial (Below.refl _ _) (Nat.le_refl _) (by simp) ?_; (case hd => rfl); (case hg => rfl); (case hr => first | (go_simp; done) | (go_simp; rfl)); (case hp => exact (Reps.none _ _)); intro v123 w4 ho5 hb hg_ hnew_; clear hg_ hnew_; (first | rw [← Ny122.out] at ho5 | (simp only [Int.reduceToNat] at ho5; rw [← Ny122.out] at ho5)); have HO124 := aZ (Kd.R_lower ho5 (below_size (lZB HB.out))); replace HB := aZ (below_step (lZB HB.out) hb); clear hb ho5)); go_upto_region 2 with (first | ((with_reducible refine gate_dst (N := 15) rfl ?_); (try (refine gate_guard (by rfl) ?_; dsimp only)); refine Kd.R_lit (Kd.int .i64) _ 3 ?hg (N := 15) ?hd (xs := ([] : List Int)) (inner := []) (ok := fun _ => True) (okp := fun _ => True) ?hr ?hp (fun _ hk => hk) trivial (Below.refl _ _) (Nat.le_refl _) (by simp) ?_; (case hd => rfl); (case hg => rfl); (case hr => first | (go_simp; done) | (go_simp; rfl)); (case hp => exact (Reps.none _ _)); intro v123 w4 ho5 hb hg_ hnew_; clear hg_ hnew_; (first | rw [← Ny122.out] at ho5 | (simp only [Int.reduceToNat] at ho5; rw [← Ny122.out] at ho5)); have HO124 := aZ (Kd.R_lower ho5 (below_size (lZB HB.out))); replace HB := aZ (below_step (lZB HB.out) hb); clear hb ho5)))
 (try simp only [Act.put, sZ1, sZ2, sZ3])
 go_cut [23] (fun v23 wc => ∃ (kq : Nat) (x23_2 : Bool), v23 = .bool x23_2 ∧ Aside0 (spec_Shares.j0 kq a0 l1 y122 x23_2 = some r) ∧ Aside0 (kq ≤ k) ∧ Aside0 (Kd.R (Kd.int .i64) 3 wc w.heap.size (fun _ => True) v123 y122) ∧ Aside0 (Below w.heap.size w wc))
 case first =>
  have H := HC3.out; clear HC3; replace H := Option.bind_eq_some_iff.mp H; obtain ⟨t125, A60, H⟩ := H; replace H : (if t125 = true then (spec_Shares.j0 k a0 l1 y122 (decide ((l1.length : Int) > 200))) else (spec_Shares.j0 k a0 l1 y122 true)) = some r := H; have A6 := Aside0.mk A60; clear A60
  by_cases c7 : t125 = true
  ·subst c7; rw [if_pos rfl] at H; have H' := Aside0.mk H; clear H
   go_wp2_with (first | (go_at_call 57; (with_reducible refine (spec_l1Amount.calls a0 true _ A6.out).mono ?_); rintro e w' ⟨rfl, ⟨nd, rfl⟩⟩; (try first | exact ⟨rfl, _, World.drewN_drewN _ _ _⟩ | exact ⟨rfl, _, Eq.trans (World.drewN_drewN _ _ _) (congrArg (World.drewN _) (Nat.add_assoc _ _ _))⟩)))
   repeat (go_quiet (first | (go_at_call 57; (with_reducible refine (spec_l1Amount.calls a0 true _ A6.out).mono ?_); rintro e w' ⟨rfl, ⟨nd, rfl⟩⟩; (try first | exact ⟨rfl, _, World.drewN_drewN _ _ _⟩ | exact ⟨rfl, _, Eq.trans (World.drewN_drewN _ _ _) (congrArg (World.drewN _) (Nat.add_assoc _ _ _))⟩))); try go_wp2_with (first | (go_at_call 57; (with_reducible refine (spec_l1Amount.calls a0 true _ A6.out).mono ?_); rintro e w' ⟨rfl, ⟨nd, rfl⟩⟩; (try first | exact ⟨rfl, _, World.drewN_drewN _ _ _⟩ | exact ⟨rfl, _, Eq.trans (World.drewN_drewN _ _ _) (congrArg (World.drewN _) (Nat.add_assoc _ _ _))⟩))))
   go_meet
   case rel => exact ⟨_, (decide ((l1.length : Int) > 200)), tZB, H', ⟨by first | omega | exact Nat.le_refl _⟩, ⟨lZR HO124.out⟩, ⟨bZ⟩⟩
  replace c7 := Bool.eq_false_iff.mpr c7; subst c7; rw [if_neg Bool.false_ne_true] at H; have H' := Aside0.mk H; clear H
  go_wp2_with (first | (go_at_call 57; (with_reducible refine (spec_l1Amount.calls a0 false _ A6.out).mono ?_); rintro e w' ⟨rfl, ⟨nd, rfl⟩⟩; (try first | exact ⟨rfl, _, World.drewN_drewN _ _ _⟩ | exact ⟨rfl, _, Eq.trans (World.drewN_drewN _ _ _) (congrArg (World.drewN _) (Nat.add_assoc _ _ _))⟩)))
  repeat (go_quiet (first | (go_at_call 57; (with_reducible refine (spec_l1Amount.calls a0 false _ A6.out).mono ?_); rintro e w' ⟨rfl, ⟨nd, rfl⟩⟩; (try first | exact ⟨rfl, _, World.drewN_drewN _ _ _⟩ | exact ⟨rfl, _, Eq.trans (World.drewN_drewN _ _ _) (congrArg (World.drewN _) (Nat.add_assoc _ _ _))⟩))); try go_wp2_with (first | (go_at_call 57; (with_reducible refine (spec_l1Amount.calls a0 false _ A6.out).mono ?_); rintro e w' ⟨rfl, ⟨nd, rfl⟩⟩; (try first | exact ⟨rfl, _, World.drewN_drewN _ _ _⟩ | exact ⟨rfl, _, Eq.trans (World.drewN_drewN _ _ _) (congrArg (World.drewN _) (Nat.add_assoc _ _ _))⟩))))
  go_meet
  case rel => exact ⟨_, (true), tZB, H', ⟨by first | omega | exact Nat.le_refl _⟩, ⟨lZR HO124.out⟩, ⟨bZ⟩⟩
 case rest =>
  clear HC3; obtain ⟨kq, x23_2, rfl, HA, HJ2, HO_5, HB⟩ := hcut
  cases kq with
  | zero => exact absurd HA.out (by simp [spec_Shares.j0])
  | succ kj2 =>
   have H := HA.out; clear HA; simp only [spec_Shares.j0] at H
   by_cases c8 : x23_2 = true
   ·subst c8; rw [if_pos rfl] at H; obtain rfl := Option.some.inj H; go_wp2
    repeat (go_quiet (fail); try go_wp2)
    go_ret; exact ⟨_, tZC, lZR HO_5.out, bZ⟩
   replace c8 := Bool.eq_false_iff.mpr c8; subst c8; rw [if_neg Bool.false_ne_true] at H; have H' := Aside0.mk H; clear H; go_wp2
   repeat (go_quiet (fail); try go_wp2)
   go_loopg [6, 7] kj2 (fun kq v6 v7 w' => ∃ (x6_2 : Int) (x7_2 : Int), v6 = .int .i64 x6_2 ∧ v7 = .int .i64 x7_2 ∧ Aside0 (spec_Shares.l0 kq a0 l1 y122 x6_2 x7_2 = some r) ∧ Aside0 (kq ≤ kj2) ∧ Aside0 (Kd.R (Kd.int .i64) 3 w' w.heap.size (fun _ => True) v123 y122) ∧ Aside0 (Below w.heap.size w w'))
   case atStart => exact ⟨(0), (0), tZB, tZB, H', ⟨Nat.le_refl _⟩, ⟨lZR HO_5.out⟩, ⟨bZ⟩⟩
   case round =>
    clear H'; obtain ⟨x6_2, x7_2, rfl, rfl, HA, HK2, HO_5, HB⟩ := hrel
    cases gk with
    | zero => exact absurd HA.out (by simp [spec_Shares.l0])
    | succ k2 =>
     have H := HA.out; clear HA; simp only [spec_Shares.l0] at H
     by_cases c9 : x7_2 < (l1.length : Int)
     ·rw [if_pos c9] at H; have c9b0 := decide_eq_true c9; clear c9
      by_cases c10 : 0 ≤ x7_2
      rotate_left
      ·rw [if_neg c10] at H; exact absurd H (by simp)
      rw [if_pos c10] at H; have c10b0 := decide_eq_true c10; clear c10; replace H := Option.bind_eq_some_iff.mp H; obtain ⟨t127, A110, H⟩ := H; replace H : (if t127 = true then (spec_Shares.l0 k2 a0 l1 y122 (wrap64 (x6_2 + (rd l1 x7_2))) (wrap64 (x7_2 + 1))) else (some y122)) = some r := H; have A11 := Aside0.mk A110; clear A110
      by_cases c12 : t127 = true
      rotate_left
      ·replace c12 := Bool.eq_false_iff.mpr c12; subst c12; rw [if_neg Bool.false_ne_true] at H; obtain rfl := Option.some.inj H; have p126 : 0 ≤ (x7_2 : Int) := of_decide_eq_true tZE; have q126 : x7_2 < (l1.length : Int) := of_decide_eq_true tZE; obtain ⟨ad126, e126, hx126_0⟩ := Kd.at_int HR1.out x7_2 p126 q126
       cases e126
       replace hx126_0 := cZ HB hx126_0; replace p126 := eq_true p126; replace q126 := eq_true q126
       go_wp2_with (first | (go_at_call 66; (with_reducible refine (spec_l1Factor.calls (rd l1 x7_2) false _ A11.out).mono ?_); rintro e w' ⟨rfl, ⟨nd, rfl⟩⟩; (try first | exact ⟨rfl, _, World.drewN_drewN _ _ _⟩ | exact ⟨rfl, _, Eq.trans (World.drewN_drewN _ _ _) (congrArg (World.drewN _) (Nat.add_assoc _ _ _))⟩)))
       repeat (go_quiet (first | (go_at_call 66; (with_reducible refine (spec_l1Factor.calls (rd l1 x7_2) false _ A11.out).mono ?_); rintro e w' ⟨rfl, ⟨nd, rfl⟩⟩; (try first | exact ⟨rfl, _, World.drewN_drewN _ _ _⟩ | exact ⟨rfl, _, Eq.trans (World.drewN_drewN _ _ _) (congrArg (World.drewN _) (Nat.add_assoc _ _ _))⟩))); try go_wp2_with (first | (go_at_call 66; (with_reducible refine (spec_l1Factor.calls (rd l1 x7_2) false _ A11.out).mono ?_); rintro e w' ⟨rfl, ⟨nd, rfl⟩⟩; (try first | exact ⟨rfl, _, World.drewN_drewN _ _ _⟩ | exact ⟨rfl, _, Eq.trans (World.drewN_drewN _ _ _) (congrArg (World.drewN _) (Nat.add_assoc _ _ _))⟩))))
       go_ret; exact ⟨_, tZC, lZR HO_5.out, bZ⟩
      subst c12; rw [if_pos rfl] at H; have H' := Aside0.mk H; clear H; have p126 : 0 ≤ (x7_2 : Int) := of_decide_eq_true tZE; have q126 : x7_2 < (l1.length : Int) := of_decide_eq_true tZE; obtain ⟨ad126, e126, hx126_0⟩ := Kd.at_int HR1.out x7_2 p126 q126
      cases e126
      replace hx126_0 := cZ HB hx126_0; replace p126 := eq_true p126; replace q126 := eq_true q126
      go_wp2_with (first | (go_at_call 66; (with_reducible refine (spec_l1Factor.calls (rd l1 x7_2) true _ A11.out).mono ?_); rintro e w' ⟨rfl, ⟨nd, rfl⟩⟩; (try first | exact ⟨rfl, _, World.drewN_drewN _ _ _⟩ | exact ⟨rfl, _, Eq.trans (World.drewN_drewN _ _ _) (congrArg (World.drewN _) (Nat.add_assoc _ _ _))⟩); have p128 : 0 ≤ (x7_2 : Int) := of_decide_eq_true tZE; have q128 : x7_2 < (l1.length : Int) := of_decide_eq_true tZE; obtain ⟨ad128, e128, hx128_0⟩ := Kd.at_int HR1.out x7_2 p128 q128; obtain rfl : ad126 = ad128 := (by injection e128); replace hx128_0 := cZ HB hx128_0; replace p128 := eq_true p128; replace q128 := eq_true q128))
      repeat (go_quiet (first | (go_at_call 66; (with_reducible refine (spec_l1Factor.calls (rd l1 x7_2) true _ A11.out).mono ?_); rintro e w' ⟨rfl, ⟨nd, rfl⟩⟩; (try first | exact ⟨rfl, _, World.drewN_drewN _ _ _⟩ | exact ⟨rfl, _, Eq.trans (World.drewN_drewN _ _ _) (congrArg (World.drewN _) (Nat.add_assoc _ _ _))⟩); have p128 : 0 ≤ (x7_2 : Int) := of_decide_eq_true tZE; have q128 : x7_2 < (l1.length : Int) := of_decide_eq_true tZE; obtain ⟨ad128, e128, hx128_0⟩ := Kd.at_int HR1.out x7_2 p128 q128; obtain rfl : ad126 = ad128 := (by injection e128); replace hx128_0 := cZ HB hx128_0; replace p128 := eq_true p128; replace q128 := eq_true q128)); try go_wp2_with (first | (go_at_call 66; (with_reducible refine (spec_l1Factor.calls (rd l1 x7_2) true _ A11.out).mono ?_); rintro e w' ⟨rfl, ⟨nd, rfl⟩⟩; (try first | exact ⟨rfl, _, World.drewN_drewN _ _ _⟩ | exact ⟨rfl, _, Eq.trans (World.drewN_drewN _ _ _) (congrArg (World.drewN _) (Nat.add_assoc _ _ _))⟩); have p128 : 0 ≤ (x7_2 : Int) := of_decide_eq_true tZE; have q128 : x7_2 < (l1.length : Int) := of_decide_eq_true tZE; obtain ⟨ad128, e128, hx128_0⟩ := Kd.at_int HR1.out x7_2 p128 q128; obtain rfl : ad126 = ad128 := (by injection e128); replace hx128_0 := cZ HB hx128_0; replace p128 := eq_true p128; replace q128 := eq_true q128)))
      go_roundg k2
      case measure => have := HJ2.out; have := HK2.out; omega
      case rel => exact ⟨(wrap64 (x6_2 + (rd l1 x7_2))), (wrap64 (x7_2 + 1)), tZB, tZB, H', ⟨by have := HJ2.out; have := HK2.out; omega⟩, ⟨lZR HO_5.out⟩, ⟨bZ⟩⟩
     rw [if_neg c9] at H; have c9b0 := decide_eq_false c9; clear c9
     by_cases c13 : x6_2 = 0
     ·rw [if_pos c13] at H; have c13b0 : (x6_2 == 0) = true := beq_iff_eq.mpr c13; have c13b1 : (x6_2 != 0) = false := bne_eq_false_iff_eq.mpr c13; clear c13; obtain rfl := Option.some.inj H; go_wp2
      repeat (go_quiet (fail); try go_wp2)
      go_ret; exact ⟨_, tZC, lZR HO_5.out, bZ⟩
     rw [if_neg c13] at H; have c13b0 : (x6_2 == 0) = false := beq_eq_false_iff_ne.mpr c13; have c13b1 : (x6_2 != 0) = true := bne_iff_ne.mpr c13; obtain ⟨y129, hy129⟩ : ∃ y_ : List Int, y_ = (([] : List Int)) := ⟨_, rfl⟩; replace H : (spec_Shares.l1 k2 a0 l1 y122 x6_2 y129 a0 0) = some r := by first | (rw [hy129]; with_reducible exact H) | (have H2_ := (Option.bind_some _ _).symm.trans H; rw [hy129]; with_reducible exact H2_) | (have H2_ := (Option.bind_some _ _).symm.trans H; with_reducible exact H2_) | with_reducible exact H | (rw [hy129]; exact H) | exact H
     have Ny129 := Aside0.mk hy129; clear hy129; have H' := Aside0.mk H; clear H
     go_wp2_with (first | ((with_reducible refine gate_dst (N := 47) rfl ?_); (try (refine gate_guard (by rfl) ?_; dsimp only)); refine Kd.R_lit (Kd.int .i64) _ 3 ?hg (N := 47) ?hd (xs := ([] : List Int)) (inner := []) (ok := fun _ => True) (okp := fun _ => True) ?hr ?hp (fun _ hk => hk) trivial (Below.refl _ _) (Nat.le_refl _) (by simp) ?_; (case hd => rfl); (case hg => rfl); (case hr => first | (go_simp; done) | (go_simp; rfl)); (case hp => exact (Reps.none _ _)); intro v130 w14 ho15 hb hg_ hnew_; clear hg_ hnew_; (first | rw [← Ny129.out] at ho15 | (simp only [Int.reduceToNat] at ho15; rw [← Ny129.out] at ho15)); have HO131 := aZ (Kd.R_lower (Kd.R_new' ho15 (Kd.R_lt (lZR HO_5.out))) (below_size (lZB HB.out))); replace HO_5 := aZ (Kd.R_elder' (lZR HO_5.out) (Kd.R_base ho15) hb); replace HB := aZ (below_step (lZB HB.out) hb); clear hb ho15))
     repeat (go_quiet (first | ((with_reducible refine gate_dst (N := 47) rfl ?_); (try (refine gate_guard (by rfl) ?_; dsimp only)); refine Kd.R_lit (Kd.int .i64) _ 3 ?hg (N := 47) ?hd (xs := ([] : List Int)) (inner := []) (ok := fun _ => True) (okp := fun _ => True) ?hr ?hp (fun _ hk => hk) trivial (Below.refl _ _) (Nat.le_refl _) (by simp) ?_; (case hd => rfl); (case hg => rfl); (case hr => first | (go_simp; done) | (go_simp; rfl)); (case hp => exact (Reps.none _ _)); intro v130 w14 ho15 hb hg_ hnew_; clear hg_ hnew_; (first | rw [← Ny129.out] at ho15 | (simp only [Int.reduceToNat] at ho15; rw [← Ny129.out] at ho15)); have HO131 := aZ (Kd.R_lower (Kd.R_new' ho15 (Kd.R_lt (lZR HO_5.out))) (below_size (lZB HB.out))); replace HO_5 := aZ (Kd.R_elder' (lZR HO_5.out) (Kd.R_base ho15) hb); replace HB := aZ (below_step (lZB HB.out) hb); clear hb ho15)); try go_wp2_with (first | ((with_reducible refine gate_dst (N := 47) rfl ?_); (try (refine gate_guard (by rfl) ?_; dsimp only)); refine Kd.R_lit (Kd.int .i64) _ 3 ?hg (N := 47) ?hd (xs := ([] : List Int)) (inner := []) (ok := fun _ => True) (okp := fun _ => True) ?hr ?hp (fun _ hk => hk) trivial (Below.refl _ _) (Nat.le_refl _) (by simp) ?_; (case hd => rfl); (case hg => rfl); (case hr => first | (go_simp; done) | (go_simp; rfl)); (case hp => exact (Reps.none _ _)); intro v130 w14 ho15 hb hg_ hnew_; clear hg_ hnew_; (first | rw [← Ny129.out] at ho15 | (simp only [Int.reduceToNat] at ho15; rw [← Ny129.out] at ho15)); have HO131 := aZ (Kd.R_lower (Kd.R_new' ho15 (Kd.R_lt (lZR HO_5.out))) (below_size (lZB HB.out))); replace HO_5 := aZ (Kd.R_elder' (lZR HO_5.out) (Kd.R_base ho15) hb); replace HB := aZ (below_step (lZB HB.out) hb); clear hb ho15)))
     go_loopg [5, 8, 9, 10] k2 (fun kq v5 v8 v9 v10 w' => ∃ (x5_3 : List Int) (x8_3 : List Int) (x9_3 : Int) (x10_3 : Int), v9 = .int .i64 x9_3 ∧ v10 = .int .i64 x10_3 ∧ Aside0 (spec_Shares.l1 kq a0 l1 x5_3 x6_2 x8_3 x9_3 x10_3 = some r) ∧ Aside0 (kq ≤ k2) ∧ Aside0 (Kd.R (Kd.int .i64) 3 w' w.heap.size (fun k_ => some k_ ≠ (v8 : Value).ownBlock) v5 x5_3) ∧ Aside0 (Kd.R (Kd.int .i64) 3 w' w.heap.size (fun k_ => some k_ ≠ (v5 : Value).ownBlock) v8 x8_3) ∧ Aside0 (Below w.heap.size w w'))
     case atStart => exact ⟨(y122), (y129), (a0), (0), tZB, tZB, H', ⟨Nat.le_refl _⟩, ⟨by (with_reducible repeat (first | apply Kd.R_alloc | apply Kd.R_drewN | apply Kd.R_drew)); exact Kd.R_mono HO_5.out (fun _ hk => hk.2)⟩, ⟨by (with_reducible repeat (first | apply Kd.R_alloc | apply Kd.R_drewN | apply Kd.R_drew)); exact Kd.R_mono HO131.out (fun _ hk => hk.2)⟩, ⟨bZ⟩⟩
     case round =>
      clear H'; (try clear c9b0 c13 c13b0 c13b1); obtain ⟨x5_3, x8_3, x9_3, x10_3, rfl, rfl, HA, HK3, HO_5, HO_8, HB⟩ := hrel
      cases gk with
      | zero => exact absurd HA.out (by simp [spec_Shares.l1])
      | succ k3 =>
       have H := HA.out; clear HA; simp only [spec_Shares.l1] at H
       by_cases c16 : x10_3 < (l1.length : Int)
       ·rw [if_pos c16] at H; have c16b0 := decide_eq_true c16; clear c16
        by_cases c17 : 0 ≤ x10_3
        rotate_left
        ·rw [if_neg c17] at H; exact absurd H (by simp)
        rw [if_pos c17] at H; have c17b0 := decide_eq_true c17; clear c17
        by_cases c18 : x6_2 = 0
        ·rw [if_pos c18] at H; exact absurd H (by simp)
        rw [if_neg c18] at H; have c18b0 : (x6_2 == 0) = false := beq_eq_false_iff_ne.mpr c18; have c18b1 : (x6_2 != 0) = true := bne_iff_ne.mpr c18
        by_cases c19 : x5_3.length < 17592186044416
        rotate_left
        ·rw [if_neg c19] at H; exact absurd H (by simp)
        rw [if_pos c19] at H; have LMc19 := Aside0.mk c19; clear c19; obtain ⟨y133, hy133⟩ : ∃ y_ : List Int, y_ = (x5_3 ++ [wrap64 (Int.tdiv (wrap64 (a0 * (rd l1 x10_3))) x6_2)]) := ⟨_, rfl⟩; replace H : ((spec_l1Abs.f (Int.tmod (wrap64 (a0 * (rd l1 x10_3))) x6_2)).bind fun t136 => (if x8_3.length < 17592186044416 then (spec_Shares.l1 k3 a0 l1 y133 x6_2 (x8_3 ++ [t136]) (wrap64 (x9_3 - (wrap64 (Int.tdiv (wrap64 (a0 * (rd l1 x10_3))) x6_2)))) (wrap64 (x10_3 + 1))) else (none))) = some r := by first | (rw [hy133]; with_reducible exact H) | (have H2_ := (Option.bind_some _ _).symm.trans H; rw [hy133]; with_reducible exact H2_) | (have H2_ := (Option.bind_some _ _).symm.trans H; with_reducible exact H2_) | with_reducible exact H | (rw [hy133]; exact H) | exact H
        have Ny133 := Aside0.mk hy133; clear hy133; replace H := Option.bind_eq_some_iff.mp H; obtain ⟨t136, A200, H⟩ := H; replace H : (if x8_3.length < 17592186044416 then (spec_Shares.l1 k3 a0 l1 y133 x6_2 (x8_3 ++ [t136]) (wrap64 (x9_3 - (wrap64 (Int.tdiv (wrap64 (a0 * (rd l1 x10_3))) x6_2)))) (wrap64 (x10_3 + 1))) else (none)) = some r := H; have A20 := Aside0.mk A200; clear A200
        by_cases c21 : x8_3.length < 17592186044416
        rotate_left
        ·rw [if_neg c21] at H; exact absurd H (by simp)
        rw [if_pos c21] at H; have LMc21 := Aside0.mk c21; clear c21; obtain ⟨y137, hy137⟩ : ∃ y_ : List Int, y_ = (x8_3 ++ [t136]) := ⟨_, rfl⟩; replace H : (spec_Shares.l1 k3 a0 l1 y133 x6_2 y137 (wrap64 (x9_3 - (wrap64 (Int.tdiv (wrap64 (a0 * (rd l1 x10_3))) x6_2)))) (wrap64 (x10_3 + 1))) = some r := by first | (rw [hy137]; with_reducible exact H) | (have H2_ := (Option.bind_some _ _).symm.trans H; rw [hy137]; with_reducible exact H2_) | (have H2_ := (Option.bind_some _ _).symm.trans H; with_reducible exact H2_) | with_reducible exact H | (rw [hy137]; exact H) | exact H
        have Ny137 := Aside0.mk hy137; clear hy137; have H' := Aside0.mk H; clear H; have p132 : 0 ≤ (x10_3 : Int) := of_decide_eq_true tZE; have q132 : x10_3 < (l1.length : Int) := of_decide_eq_true tZE; obtain ⟨ad132, e132, hx132_0⟩ := Kd.at_int HR1.out x10_3 p132 q132
        cases e132
        replace hx132_0 := cZ HB hx132_0; replace p132 := eq_true p132; replace q132 := eq_true q132
        go_wp2_with (first | ((with_reducible refine gate_builtin (b := .append) (xs := #[.tmp 61, .tmp 65]) rfl ?_); (try (refine gate_guard (by rfl) ?_; dsimp only)); at_builtin; refine Kd.R_append (Kd.int .i64) (w0 := w) w.heap.size rfl (.tmp 61) (.tmp 65) 24 3 (.int .i64 0) 8 rfl Try.underlying24 info3 rfl (by decide) (by omega) u5 x5_3 (wrap64 (Int.tdiv (wrap64 (a0 * (rd l1 x10_3))) x6_2)) [.int .i64 (wrap64 (Int.tdiv (wrap64 (a0 * (rd l1 x10_3))) x6_2))] (fun k_ => some k_ ≠ (u8 : Value).ownBlock) (fun _ => False) rfl rfl ?aP (fun _ hk => hk.elim) ?aF ?aO ?aB ?aS ?aL ?_; (case aP => exact rfl); (case aB => exact (lZB HB.out)); (case aF => exact (fun k_ hk => Kd.fresh' (Kd.R_lt (lZR HO_8.out)) k_ hk)); (case aO => exact (lZR HO_5.out)); (case aS => exact (below_size (lZB HB.out))); (case aL => have := LMc19.out; omega); intro v134 w22 ho hb hg hat; rw [← Ny133.out] at ho; replace HO_8 := aZ (Kd.R_after (ok := (fun _ => True)) (by (with_reducible repeat (first | apply Kd.R_alloc | apply Kd.R_drewN | apply Kd.R_drew)); exact Kd.R_mono HO_8.out (fun _ hk => ⟨trivial, hk⟩)) hg hat); replace HB := aZ (hb); have HO135 := aZ (ho); clear HO_5; clear ho hb hg hat) | (go_at_call 67; (with_reducible refine (spec_l1Abs.calls (Int.tmod (wrap64 (a0 * (rd l1 x10_3))) x6_2) t136 _ A20.out).mono ?_); rintro e w' ⟨rfl, ⟨nd, rfl⟩⟩; (try first | exact ⟨rfl, _, World.drewN_drewN _ _ _⟩ | exact ⟨rfl, _, Eq.trans (World.drewN_drewN _ _ _) (congrArg (World.drewN _) (Nat.add_assoc _ _ _))⟩)) | ((with_reducible refine gate_builtin (b := .append) (xs := #[.tmp 67, .tmp 72]) rfl ?_); (try (refine gate_guard (by rfl) ?_; dsimp only)); at_builtin; refine Kd.R_append (Kd.int .i64) (w0 := w) w.heap.size rfl (.tmp 67) (.tmp 72) 24 3 (.int .i64 0) 8 rfl Try.underlying24 info3 rfl (by decide) (by omega) u8 x8_3 t136 [.int .i64 t136] (fun k_ => some k_ ≠ (v134 : Value).ownBlock) (fun _ => False) rfl rfl ?aP (fun _ hk => hk.elim) ?aF ?aO ?aB ?aS ?aL ?_; (case aP => exact rfl); (case aB => exact (lZB HB.out)); (case aF => exact (fun k_ hk => Kd.fresh' (Kd.R_lt (lZR HO135.out)) k_ hk)); (case aO => exact (by (with_reducible repeat (first | apply Kd.R_alloc | apply Kd.R_drewN | apply Kd.R_drew)); exact Kd.R_mono HO_8.out (fun _ hk => hk.2))); (case aS => exact (below_size (lZB HB.out))); (case aL => have := LMc21.out; omega); intro v138 w23 ho hb hg hat; rw [← Ny137.out] at ho; replace HO135 := aZ (Kd.R_after (ok := (fun _ => True)) (by (with_reducible repeat (first | apply Kd.R_alloc | apply Kd.R_drewN | apply Kd.R_drew)); exact Kd.R_mono HO135.out (fun _ hk => ⟨trivial, hk⟩)) hg hat); replace HB := aZ (hb); have HO139 := aZ (ho); clear HO_8; clear ho hb hg hat))
        repeat (go_quiet (first | ((with_reducible refine gate_builtin (b := .append) (xs := #[.tmp 61, .tmp 65]) rfl ?_); (try (refine gate_guard (by rfl) ?_; dsimp only)); at_builtin; refine Kd.R_append (Kd.int .i64) (w0 := w) w.heap.size rfl (.tmp 61) (.tmp 65) 24 3 (.int .i64 0) 8 rfl Try.underlying24 info3 rfl (by decide) (by omega) u5 x5_3 (wrap64 (Int.tdiv (wrap64 (a0 * (rd l1 x10_3))) x6_2)) [.int .i64 (wrap64 (Int.tdiv (wrap64 (a0 * (rd l1 x10_3))) x6_2))] (fun k_ => some k_ ≠ (u8 : Value).ownBlock) (fun _ => False) rfl rfl ?aP (fun _ hk => hk.elim) ?aF ?aO ?aB ?aS ?aL ?_; (case aP => exact rfl); (case aB => exact (lZB HB.out)); (case aF => exact (fun k_ hk => Kd.fresh' (Kd.R_lt (lZR HO_8.out)) k_ hk)); (case aO => exact (lZR HO_5.out)); (case aS => exact (below_size (lZB HB.out))); (case aL => have := LMc19.out; omega); intro v134 w22 ho hb hg hat; rw [← Ny133.out] at ho; replace HO_8 := aZ (Kd.R_after (ok := (fun _ => True)) (by (with_reducible repeat (first | apply Kd.R_alloc | apply Kd.R_drewN | apply Kd.R_drew)); exact Kd.R_mono HO_8.out (fun _ hk => ⟨trivial, hk⟩)) hg hat); replace HB := aZ (hb); have HO135 := aZ (ho); clear HO_5; clear ho hb hg hat) | (go_at_call 67; (with_reducible refine (spec_l1Abs.calls (Int.tmod (wrap64 (a0 * (rd l1 x10_3))) x6_2) t136 _ A20.out).mono ?_); rintro e w' ⟨rfl, ⟨nd, rfl⟩⟩; (try first | exact ⟨rfl, _, World.drewN_drewN _ _ _⟩ | exact ⟨rfl, _, Eq.trans (World.drewN_drewN _ _ _) (congrArg (World.drewN _) (Nat.add_assoc _ _ _))⟩)) | ((with_reducible refine gate_builtin (b := .append) (xs := #[.tmp 67, .tmp 72]) rfl ?_); (try (refine gate_guard (by rfl) ?_; dsimp only)); at_builtin; refine Kd.R_append (Kd.int .i64) (w0 := w) w.heap.size rfl (.tmp 67) (.tmp 72) 24 3 (.int .i64 0) 8 rfl Try.underlying24 info3 rfl (by decide) (by omega) u8 x8_3 t136 [.int .i64 t136] (fun k_ => some k_ ≠ (v134 : Value).ownBlock) (fun _ => False) rfl rfl ?aP (fun _ hk => hk.elim) ?aF ?aO ?aB ?aS ?aL ?_; (case aP => exact rfl); (case aB => exact (lZB HB.out)); (case aF => exact (fun k_ hk => Kd.fresh' (Kd.R_lt (lZR HO135.out)) k_ hk)); (case aO => exact (by (with_reducible repeat (first | apply Kd.R_alloc | apply Kd.R_drewN | apply Kd.R_drew)); exact Kd.R_mono HO_8.out (fun _ hk => hk.2))); (case aS => exact (below_size (lZB HB.out))); (case aL => have := LMc21.out; omega); intro v138 w23 ho hb hg hat; rw [← Ny137.out] at ho; replace HO135 := aZ (Kd.R_after (ok := (fun _ => True)) (by (with_reducible repeat (first | apply Kd.R_alloc | apply Kd.R_drewN | apply Kd.R_drew)); exact Kd.R_mono HO135.out (fun _ hk => ⟨trivial, hk⟩)) hg hat); replace HB := aZ (hb); have HO139 := aZ (ho); clear HO_8; clear ho hb hg hat)); try go_wp2_with (first | ((with_reducible refine gate_builtin (b := .append) (xs := #[.tmp 61, .tmp 65]) rfl ?_); (try (refine gate_guard (by rfl) ?_; dsimp only)); at_builtin; refine Kd.R_append (Kd.int .i64) (w0 := w) w.heap.size rfl (.tmp 61) (.tmp 65) 24 3 (.int .i64 0) 8 rfl Try.underlying24 info3 rfl (by decide) (by omega) u5 x5_3 (wrap64 (Int.tdiv (wrap64 (a0 * (rd l1 x10_3))) x6_2)) [.int .i64 (wrap64 (Int.tdiv (wrap64 (a0 * (rd l1 x10_3))) x6_2))] (fun k_ => some k_ ≠ (u8 : Value).ownBlock) (fun _ => False) rfl rfl ?aP (fun _ hk => hk.elim) ?aF ?aO ?aB ?aS ?aL ?_; (case aP => exact rfl); (case aB => exact (lZB HB.out)); (case aF => exact (fun k_ hk => Kd.fresh' (Kd.R_lt (lZR HO_8.out)) k_ hk)); (case aO => exact (lZR HO_5.out)); (case aS => exact (below_size (lZB HB.out))); (case aL => have := LMc19.out; omega); intro v134 w22 ho hb hg hat; rw [← Ny133.out] at ho; replace HO_8 := aZ (Kd.R_after (ok := (fun _ => True)) (by (with_reducible repeat (first | apply Kd.R_alloc | apply Kd.R_drewN | apply Kd.R_drew)); exact Kd.R_mono HO_8.out (fun _ hk => ⟨trivial, hk⟩)) hg hat); replace HB := aZ (hb); have HO135 := aZ (ho); clear HO_5; clear ho hb hg hat) | (go_at_call 67; (with_reducible refine (spec_l1Abs.calls (Int.tmod (wrap64 (a0 * (rd l1 x10_3))) x6_2) t136 _ A20.out).mono ?_); rintro e w' ⟨rfl, ⟨nd, rfl⟩⟩; (try first | exact ⟨rfl, _, World.drewN_drewN _ _ _⟩ | exact ⟨rfl, _, Eq.trans (World.drewN_drewN _ _ _) (congrArg (World.drewN _) (Nat.add_assoc _ _ _))⟩)) | ((with_reducible refine gate_builtin (b := .append) (xs := #[.tmp 67, .tmp 72]) rfl ?_); (try (refine gate_guard (by rfl) ?_; dsimp only)); at_builtin; refine Kd.R_append (Kd.int .i64) (w0 := w) w.heap.size rfl (.tmp 67) (.tmp 72) 24 3 (.int .i64 0) 8 rfl Try.underlying24 info3 rfl (by decide) (by omega) u8 x8_3 t136 [.int .i64 t136] (fun k_ => some k_ ≠ (v134 : Value).ownBlock) (fun _ => False) rfl rfl ?aP (fun _ hk => hk.elim) ?aF ?aO ?aB ?aS ?aL ?_; (case aP => exact rfl); (case aB => exact (lZB HB.out)); (case aF => exact (fun k_ hk => Kd.fresh' (Kd.R_lt (lZR HO135.out)) k_ hk)); (case aO => exact (by (with_reducible repeat (first | apply Kd.R_alloc | apply Kd.R_drewN | apply Kd.R_drew)); exact Kd.R_mono HO_8.out (fun _ hk => hk.2))); (case aS => exact (below_size (lZB HB.out))); (case aL => have := LMc21.out; omega); intro v138 w23 ho hb hg hat; rw [← Ny137.out] at ho; replace HO135 := aZ (Kd.R_after (ok := (fun _ => True)) (by (with_reducible repeat (first | apply Kd.R_alloc | apply Kd.R_drewN | apply Kd.R_drew)); exact Kd.R_mono HO135.out (fun _ hk => ⟨trivial, hk⟩)) hg hat); replace HB := aZ (hb); have HO139 := aZ (ho); clear HO_8; clear ho hb hg hat)))
        go_roundg k3
        case measure => have := HJ2.out; have := HK2.out; have := HK3.out; omega
        case rel => exact ⟨(y133), (y137), (wrap64 (x9_3 - (wrap64 (Int.tdiv (wrap64 (a0 * (rd l1 x10_3))) x6_2)))), (wrap64 (x10_3 + 1)), tZB, tZB, H', ⟨by have := HJ2.out; have := HK2.out; have := HK3.out; omega⟩, ⟨by (with_reducible repeat (first | apply Kd.R_alloc | apply Kd.R_drewN | apply Kd.R_drew)); exact Kd.R_mono HO135.out (fun _ hk => hk.2)⟩, ⟨lZR HO139.out⟩, ⟨bZ⟩⟩
       rw [if_neg c16] at H; have c16b0 := decide_eq_false c16; clear c16; have HC24 := Aside0.mk H; clear H
       go_upto_if 80 with (fail)
       repeat (go_quiet (fail); go_upto_if 80 with (fail))
       go_cut [12] (fun v12 wc => ∃ (kq : Nat) (x12_23 : Int), v12 = .int .i64 x12_23 ∧ Aside0 (spec_Shares.j3 kq x5_3 x8_3 x9_3 x12_23 = some r) ∧ Aside0 (kq ≤ k3) ∧ Aside0 (Kd.R (Kd.int .i64) 3 wc w.heap.size (fun k_ => some k_ ≠ (u8 : Value).ownBlock) u5 x5_3) ∧ Aside0 (Kd.R (Kd.int .i64) 3 wc w.heap.size (fun k_ => some k_ ≠ (u5 : Value).ownBlock) u8 x8_3) ∧ Aside0 (Below w.heap.size w wc))
       case first =>
        have H := HC24.out; clear HC24
        by_cases c25 : x9_3 < 0
        rotate_left
        ·rw [if_neg c25] at H; have c25b0 := decide_eq_false c25; clear c25; (first | rw [c25b0] | (simp only [i64_w, i32_w]; rw [c25b0]) | skip); have H' := Aside0.mk H; clear H; go_wp2
         repeat (go_quiet (fail); try go_wp2)
         go_meet
         case rel => exact ⟨_, (1), tZB, H', ⟨by have := HJ2.out; have := HK2.out; have := HK3.out; first | omega | exact Nat.le_refl _⟩, ⟨lZR HO_5.out⟩, ⟨lZR HO_8.out⟩, ⟨bZ⟩⟩
        rw [if_pos c25] at H; have c25b0 := decide_eq_true c25; clear c25; (first | rw [c25b0] | (simp only [i64_w, i32_w]; rw [c25b0]) | skip); have H' := Aside0.mk H; clear H; go_wp2
        repeat (go_quiet (fail); try go_wp2)
        go_meet
        case rel => exact ⟨_, ((-1)), tZB, H', ⟨by have := HJ2.out; have := HK2.out; have := HK3.out; first | omega | exact Nat.le_refl _⟩, ⟨lZR HO_5.out⟩, ⟨lZR HO_8.out⟩, ⟨bZ⟩⟩
       case rest =>
        clear HC24; (try clear c9b0 c13 c13b0 c13b1 c16b0); obtain ⟨kq, x12_23, rfl, HA, HJ23, HO_5, HO_8, HB⟩ := hcut
        cases kq with
        | zero => exact absurd HA.out (by simp [spec_Shares.j3])
        | succ kj23 =>
         have H := HA.out; clear HA; simp only [spec_Shares.j3] at H; have H' := Aside0.mk H; clear H; go_wp2
         repeat (go_quiet (fail); try go_wp2)
         go_loopg [9] kj23 (fun kq v9 w' => ∃ (x5_5 : List Int) (x8_5 : List Int) (x9_5 : Int), v9 = .int .i64 x9_5 ∧ Aside0 (spec_Shares.l2 kq x5_5 x8_5 x9_5 x12_23 = some r) ∧ Aside0 (kq ≤ kj23) ∧ Aside0 (Kd.R (Kd.int .i64) 3 w' w.heap.size (fun k_ => some k_ ≠ (u8 : Value).ownBlock) u5 x5_5) ∧ Aside0 (Kd.R (Kd.int .i64) 3 w' w.heap.size (fun k_ => some k_ ≠ (u5 : Value).ownBlock) u8 x8_5) ∧ Aside0 (Below w.heap.size w w'))
         case atStart => exact ⟨(x5_3), (x8_3), (x9_3), tZB, H', ⟨Nat.le_refl _⟩, ⟨lZR HO_5.out⟩, ⟨lZR HO_8.out⟩, ⟨bZ⟩⟩
         case round =>
          clear H'; (try clear c9b0 c13 c13b0 c13b1 c16b0); obtain ⟨x5_5, x8_5, x9_5, rfl, HA, HK5, HO_5, HO_8, HB⟩ := hrel
          cases gk with
          | zero => exact absurd HA.out (by simp [spec_Shares.l2])
          | succ k5 =>
           have H := HA.out; clear HA; simp only [spec_Shares.l2] at H
           by_cases c26 : x9_5 = 0
           ·rw [if_pos c26] at H; have c26b0 : (x9_5 == 0) = true := beq_iff_eq.mpr c26; have c26b1 : (x9_5 != 0) = false := bne_eq_false_iff_eq.mpr c26; clear c26; obtain rfl := Option.some.inj H; go_wp2
            repeat (go_quiet (fail); try go_wp2)
            go_ret; exact ⟨_, tZC, by (with_reducible repeat (first | apply Kd.R_alloc | apply Kd.R_drewN | apply Kd.R_drew)); exact Kd.R_mono HO_5.out (fun _ hk => trivial), bZ⟩
           rw [if_neg c26] at H; have c26b0 : (x9_5 == 0) = false := beq_eq_false_iff_ne.mpr c26; have c26b1 : (x9_5 != 0) = true := bne_iff_ne.mpr c26; have H' := Aside0.mk H; clear H; go_wp2
           repeat (go_quiet (fail); try go_wp2)
           go_loopg [13, 14] k5 (fun kq v13 v14 w' => ∃ (x13_6 : Int) (x14_6 : Int), v13 = .int .i64 x13_6 ∧ v14 = .int .i64 x14_6 ∧ Aside0 (spec_Shares.l3 kq x5_5 x8_5 x9_5 x12_23 x13_6 x14_6 = some r) ∧ Aside0 (kq ≤ k5) ∧ Aside0 (Kd.R (Kd.int .i64) 3 w' w.heap.size (fun k_ => some k_ ≠ (u8 : Value).ownBlock) u5 x5_5) ∧ Aside0 (Kd.R (Kd.int .i64) 3 w' w.heap.size (fun k_ => some k_ ≠ (u5 : Value).ownBlock) u8 x8_5) ∧ Aside0 (Below w.heap.size w w'))
           case atStart => exact ⟨(0), (1), tZB, tZB, H', ⟨Nat.le_refl _⟩, ⟨lZR HO_5.out⟩, ⟨lZR HO_8.out⟩, ⟨bZ⟩⟩
           case round =>
            clear H'; (try clear c9b0 c13 c13b0 c13b1 c16b0 c26 c26b0 c26b1); obtain ⟨x13_6, x14_6, rfl, rfl, HA, HK6, HO_5, HO_8, HB⟩ := hrel
            cases gk with
            | zero => exact absurd HA.out (by simp [spec_Shares.l3])
            | succ k6 =>
             have H := HA.out; clear HA; simp only [spec_Shares.l3] at H
             by_cases c27 : x14_6 < (x8_5.length : Int)
             ·rw [if_pos c27] at H; have c27b0 := decide_eq_true c27; clear c27
              by_cases c28 : 0 ≤ x14_6
              rotate_left
              ·rw [if_neg c28] at H; exact absurd H (by simp)
              rw [if_pos c28] at H; have c28b0 := decide_eq_true c28; clear c28
              by_cases c29 : 0 ≤ x13_6
              rotate_left
              ·rw [if_neg c29] at H; exact absurd H (by simp)
              rw [if_pos c29] at H; have c29b0 := decide_eq_true c29; clear c29
              by_cases c30 : x13_6 < (x8_5.length : Int)
              rotate_left
              ·rw [if_neg c30] at H; exact absurd H (by simp)
              rw [if_pos c30] at H; have c30b0 := decide_eq_true c30; clear c30
              by_cases c31 : (rd x8_5 x14_6) > (rd x8_5 x13_6)
              ·rw [if_pos c31] at H; have c31b0 : decide ((rd x8_5 x13_6) < (rd x8_5 x14_6)) = true := decide_eq_true c31; clear c31; have H' := Aside0.mk H; clear H; obtain ⟨Ao32, co32, eo32⟩ := Kd.R_slice HO_8.out; subst eo32; have p140 : 0 ≤ (x14_6 : Int) := of_decide_eq_true tZE; have q140 : x14_6 < (x8_5.length : Int) := of_decide_eq_true tZE; obtain ⟨ad140, e140, hx140_0⟩ := Kd.at_int (Kd.R_reads' HO_8.out).2.2 x14_6 p140 q140
               cases e140
               replace p140 := eq_true p140; replace q140 := eq_true q140; have p141 : 0 ≤ (x13_6 : Int) := of_decide_eq_true tZE; have q141 : x13_6 < (x8_5.length : Int) := of_decide_eq_true tZE; obtain ⟨ad141, e141, hx141_0⟩ := Kd.at_int (Kd.R_reads' HO_8.out).2.2 x13_6 p141 q141; obtain rfl : ad140 = ad141 := (by injection e141); replace p141 := eq_true p141; replace q141 := eq_true q141; go_wp2
               repeat (go_quiet (fail); try go_wp2)
               go_roundg k6
               case measure => have := HJ2.out; have := HK2.out; have := HK3.out; have := HJ23.out; have := HK5.out; have := HK6.out; omega
               case rel => exact ⟨(x14_6), (wrap64 (x14_6 + 1)), tZB, tZB, H', ⟨by have := HJ2.out; have := HK2.out; have := HK3.out; have := HJ23.out; have := HK5.out; have := HK6.out; omega⟩, ⟨lZR HO_5.out⟩, ⟨lZR HO_8.out⟩, ⟨bZ⟩⟩
              rw [if_neg c31] at H; have c31b0 : decide ((rd x8_5 x13_6) < (rd x8_5 x14_6)) = false := decide_eq_false c31; clear c31; have H' := Aside0.mk H; clear H; obtain ⟨Ao33, co33, eo33⟩ := Kd.R_slice HO_8.out; subst eo33; have p140 : 0 ≤ (x14_6 : Int) := of_decide_eq_true tZE; have q140 : x14_6 < (x8_5.length : Int) := of_decide_eq_true tZE; obtain ⟨ad140, e140, hx140_0⟩ := Kd.at_int (Kd.R_reads' HO_8.out).2.2 x14_6 p140 q140
              cases e140
              replace p140 := eq_true p140; replace q140 := eq_true q140; have p141 : 0 ≤ (x13_6 : Int) := of_decide_eq_true tZE; have q141 : x13_6 < (x8_5.length : Int) := of_decide_eq_true tZE; obtain ⟨ad141, e141, hx141_0⟩ := Kd.at_int (Kd.R_reads' HO_8.out).2.2 x13_6 p141 q141; obtain rfl : ad140 = ad141 := (by injection e141); replace p141 := eq_true p141; replace q141 := eq_true q141; go_wp2
              repeat (go_quiet (fail); try go_wp2)
              go_roundg k6
              case measure => have := HJ2.out; have := HK2.out; have := HK3.out; have := HJ23.out; have := HK5.out; have := HK6.out; omega
              case rel => exact ⟨(x13_6), (wrap64 (x14_6 + 1)), tZB, tZB, H', ⟨by have := HJ2.out; have := HK2.out; have := HK3.out; have := HJ23.out; have := HK5.out; have := HK6.out; omega⟩, ⟨lZR HO_5.out⟩, ⟨lZR HO_8.out⟩, ⟨bZ⟩⟩
             rw [if_neg c27] at H; have c27b0 := decide_eq_false c27; clear c27
             by_cases c34 : 0 ≤ x13_6
             rotate_left
             ·rw [if_neg c34] at H; exact absurd H (by simp)
             rw [if_pos c34] at H; have c34b0 := decide_eq_true c34; clear c34
             by_cases c35 : x13_6 < (x5_5.length : Int)
             rotate_left
             ·rw [if_neg c35] at H; exact absurd H (by simp)
             rw [if_pos c35] at H; have c35b0 := decide_eq_true c35; clear c35; obtain ⟨y143, hy143⟩ : ∃ y_ : List Int, y_ = (x5_5.set (x13_6 : Int).toNat (wrap64 ((rd x5_5 x13_6) + x12_23))) := ⟨_, rfl⟩; replace H : (if x13_6 < (x8_5.length : Int) then (spec_Shares.l2 k6 y143 (x8_5.set (x13_6 : Int).toNat (-1)) (wrap64 (x9_5 - x12_23)) x12_23) else (none)) = some r := by first | (rw [hy143]; with_reducible exact H) | (have H2_ := (Option.bind_some _ _).symm.trans H; rw [hy143]; with_reducible exact H2_) | (have H2_ := (Option.bind_some _ _).symm.trans H; with_reducible exact H2_) | with_reducible exact H | (rw [hy143]; exact H) | exact H
             have Ny143 := Aside0.mk hy143; clear hy143
             by_cases c37 : x13_6 < (x8_5.length : Int)
             rotate_left
             ·rw [if_neg c37] at H; exact absurd H (by simp)
             rw [if_pos c37] at H; have c37b0 := decide_eq_true c37; clear c37; obtain ⟨y144, hy144⟩ : ∃ y_ : List Int, y_ = (x8_5.set (x13_6 : Int).toNat (-1)) := ⟨_, rfl⟩; replace H : (spec_Shares.l2 k6 y143 y144 (wrap64 (x9_5 - x12_23)) x12_23) = some r := by first | (rw [hy144]; with_reducible exact H) | (have H2_ := (Option.bind_some _ _).symm.trans H; rw [hy144]; with_reducible exact H2_) | (have H2_ := (Option.bind_some _ _).symm.trans H; with_reducible exact H2_) | with_reducible exact H | (rw [hy144]; exact H) | exact H
             have Ny144 := Aside0.mk hy144; clear hy144; have H' := Aside0.mk H; clear H; obtain ⟨Ao39, co39, eo39⟩ := Kd.R_slice HO_8.out; subst eo39; obtain ⟨Ao40, co40, eo40⟩ := Kd.R_slice HO_5.out; subst eo40; have p142 : 0 ≤ (x13_6 : Int) := of_decide_eq_true tZE; have q142 : x13_6 < (x5_5.length : Int) := of_decide_eq_true tZE; obtain ⟨ad142, e142, hx142_0⟩ := Kd.at_int (Kd.R_reads' HO_5.out).2.2 x13_6 p142 q142
             cases e142
             replace p142 := eq_true p142; replace q142 := eq_true q142; have p36 : 0 ≤ (x13_6 : Int) := of_decide_eq_true tZE; have q36 : (x13_6 : Int) < ((x5_5.length : Int) : Int) := of_decide_eq_true tZE; obtain ⟨go36, co36, eo36, gb36, gl36, cl36, HG36⟩ := Kd.R_form HO_5.out (by omega); (first | cases eo36 | (injection eo36 with ea_ en_ ec_; (first | subst ea_ | (injection ea_ with ea_; subst ea_)); subst ec_; clear en_)); have GB36 := Aside0.mk gb36; have GG36 := Aside0.mk HG36; clear gb36 gl36 HG36; (first | simp only [add_plain] at hx142_0 | skip); obtain ⟨hx36_0, hf36_0⟩ := Kd.R_celln 0 HO_5.out (x13_6 : Int) p36 q36; replace p36 := eq_true p36; replace q36 := eq_true q36; have HP41 := Kd.R_putg HO_5.out (x13_6 : Int) (wrap64 ((rd x5_5 x13_6) + x12_23))
             go_wp2_with (first | ((with_reducible refine gate_store (t := 3) (p := 110) rfl ?_); (try (rw [drewN_self wr]; generalize hq_ : World.drewN wr _ = wr; replace HO_5 := aZ (Kd.R_at hq_ HO_5.out); replace HO_8 := aZ (Kd.R_at hq_ HO_8.out); replace HB := aZ (below_at hq_ HB.out); clear hq_; (try (have p36 : 0 ≤ (x13_6 : Int) := of_decide_eq_true tZE)); (try (have q36 : (x13_6 : Int) < ((x5_5.length : Int) : Int) := of_decide_eq_true tZE)); (try (obtain ⟨go36, co36, eo36, gb36, gl36, cl36, HG36⟩ := Kd.R_form HO_5.out (by omega))); (try (first | cases eo36 | (injection eo36 with ea_ en_ ec_; (first | subst ea_ | (injection ea_ with ea_; subst ea_)); subst ec_; clear en_))); (try (have GB36 := Aside0.mk gb36)); (try (have GG36 := Aside0.mk HG36)); (try (clear gb36 gl36 HG36)); (try (first | simp only [add_plain] at hx142_0 | skip)); (try (obtain ⟨hx36_0, hf36_0⟩ := Kd.R_celln 0 HO_5.out (x13_6 : Int) p36 q36)); (try (replace p36 := eq_true p36)); (try (replace q36 := eq_true q36)); (try (have HP41 := Kd.R_putg HO_5.out (x13_6 : Int) (wrap64 ((rd x5_5 x13_6) + x12_23)))))); refine store_event (t := 3) (p := 110) (v := ?vo_w42) (w1 := (wr.setCell ⟨go36, (x13_6 : Int).toNat, none⟩ (.int .i64 (wrap64 ((rd x5_5 x13_6) + x12_23))))) ?hg ?ho ?hn ?hr ?_; (case ho => rfl); (case hg => rfl); (case hn => rfl); (case hr => first | (go_simp; done) | (go_simp; rfl)); intro w42 hw; have hg : wr.grownBy w42 (some go36) := (by rw [hw]; exact HP41.2); have hp_ : Kd.R (Kd.int .i64) 3 w42 w.heap.size (fun k_ => some k_ ≠ (.slice Ao39 x8_5.length co39 : Value).ownBlock) (.slice (some ⟨go36, 0, none⟩) x5_5.length co40) y143 := (by rw [hw, Ny143.out]; exact HP41.1); clear HP41; replace HO_5 := aZ (hp_); replace HO_8 := aZ (Kd.R_after (v := (.slice (some ⟨go36, 0, none⟩) x5_5.length co40)) (v1 := (.slice (some ⟨go36, 0, none⟩) x5_5.length co40)) (ok := (fun _ => True)) (by (with_reducible repeat (first | apply Kd.R_alloc | apply Kd.R_drewN | apply Kd.R_drew)); exact Kd.R_mono HO_8.out (fun _ hk => ⟨trivial, hk⟩)) hg (.inl rfl)); replace HB := aZ ((by rw [hw]; exact below_set (HB.out) GB36.out : Below w.heap.size w w42)); clear hg hw hp_; have p38 : 0 ≤ (x13_6 : Int) := of_decide_eq_true tZE; have q38 : (x13_6 : Int) < ((x8_5.length : Int) : Int) := of_decide_eq_true tZE; obtain ⟨go38, co38, eo38, gb38, gl38, cl38, HG38⟩ := Kd.R_form HO_8.out (by omega); (first | cases eo38 | (injection eo38 with ea_ en_ ec_; (first | subst ea_ | (injection ea_ with ea_; subst ea_)); subst ec_; clear en_)); have GB38 := Aside0.mk gb38; have GG38 := Aside0.mk HG38; clear gb38 gl38 HG38; obtain ⟨hx38_0, hf38_0⟩ := Kd.R_celln 0 HO_8.out (x13_6 : Int) p38 q38; replace p38 := eq_true p38; replace q38 := eq_true q38; have n_ := aZ (Kd.R_mono (ok' := (fun k_ => some k_ ≠ (.slice (some ⟨go36, 0, none⟩) x5_5.length co40 : Value).ownBlock)) HO_8.out (fun k_ hk => hk.2)); clear HO_8; have HO_8 := n_; clear n_; obtain ⟨hy43_, hz43_⟩ := Kd.R_celln 0 HO_8.out (x13_6 : Int) (of_decide_eq_true tZE) (of_decide_eq_true tZE); have HP43 := Kd.R_putg HO_8.out (x13_6 : Int) (-1)) | ((with_reducible refine gate_store (t := 3) (p := 113) rfl ?_); (try (rw [drewN_self w42]; generalize hq_ : World.drewN w42 _ = w42; replace HO_5 := aZ (Kd.R_at hq_ HO_5.out); replace HO_8 := aZ (Kd.R_at hq_ HO_8.out); replace HB := aZ (below_at hq_ HB.out); clear hq_; (try (have p38 : 0 ≤ (x13_6 : Int) := of_decide_eq_true tZE)); (try (have q38 : (x13_6 : Int) < ((x8_5.length : Int) : Int) := of_decide_eq_true tZE)); (try (obtain ⟨go38, co38, eo38, gb38, gl38, cl38, HG38⟩ := Kd.R_form HO_8.out (by omega))); (try (first | cases eo38 | (injection eo38 with ea_ en_ ec_; (first | subst ea_ | (injection ea_ with ea_; subst ea_)); subst ec_; clear en_))); (try (have GB38 := Aside0.mk gb38)); (try (have GG38 := Aside0.mk HG38)); (try (clear gb38 gl38 HG38)); (try (obtain ⟨hx38_0, hf38_0⟩ := Kd.R_celln 0 HO_8.out (x13_6 : Int) p38 q38)); (try (replace p38 := eq_true p38)); (try (replace q38 := eq_true q38)); (try (have n_ := aZ (Kd.R_mono (ok' := (fun k_ => some k_ ≠ (.slice (some ⟨go36, 0, none⟩) x5_5.length co40 : Value).ownBlock)) HO_8.out (fun k_ hk => hk.2)); clear HO_8; have HO_8 := n_; clear n_)); (try (obtain ⟨hy43_, hz43_⟩ := Kd.R_celln 0 HO_8.out (x13_6 : Int) (of_decide_eq_true tZE) (of_decide_eq_true tZE))); (try (have HP43 := Kd.R_putg HO_8.out (x13_6 : Int) (-1))))); refine store_event (t := 3) (p := 113) (v := ?vo_w44) (w1 := (w42.setCell ⟨go38, (x13_6 : Int).toNat, none⟩ (.int .i64 (-1)))) ?hg ?ho ?hn ?hr ?_; (case ho => rfl); (case hg => rfl); (case hn => rfl); (case hr => first | (go_simp; done) | (go_simp; rfl)); intro w44 hw; have hg : w42.grownBy w44 (some go38) := (by rw [hw]; exact HP43.2); have hp_ : Kd.R (Kd.int .i64) 3 w44 w.heap.size (fun k_ => some k_ ≠ (.slice (some ⟨go36, 0, none⟩) x5_5.length co40 : Value).ownBlock) (.slice (some ⟨go38, 0, none⟩) x8_5.length co39) y144 := (by rw [hw, Ny144.out]; exact HP43.1); clear HP43; replace HO_5 := aZ (Kd.R_after (v := (.slice (some ⟨go38, 0, none⟩) x8_5.length co39)) (v1 := (.slice (some ⟨go38, 0, none⟩) x8_5.length co39)) (ok := (fun _ => True)) (by (with_reducible repeat (first | apply Kd.R_alloc | apply Kd.R_drewN | apply Kd.R_drew)); exact Kd.R_mono HO_5.out (fun _ hk => ⟨trivial, hk⟩)) hg (.inl rfl)); replace HO_8 := aZ (hp_); replace HB := aZ ((by rw [hw]; exact below_set (HB.out) GB38.out : Below w.heap.size w w44)); clear hg hw hp_))
             repeat (go_quiet (first | ((with_reducible refine gate_store (t := 3) (p := 110) rfl ?_); (try (rw [drewN_self wr]; generalize hq_ : World.drewN wr _ = wr; replace HO_5 := aZ (Kd.R_at hq_ HO_5.out); replace HO_8 := aZ (Kd.R_at hq_ HO_8.out); replace HB := aZ (below_at hq_ HB.out); clear hq_; (try (have p36 : 0 ≤ (x13_6 : Int) := of_decide_eq_true tZE)); (try (have q36 : (x13_6 : Int) < ((x5_5.length : Int) : Int) := of_decide_eq_true tZE)); (try (obtain ⟨go36, co36, eo36, gb36, gl36, cl36, HG36⟩ := Kd.R_form HO_5.out (by omega))); (try (first | cases eo36 | (injection eo36 with ea_ en_ ec_; (first | subst ea_ | (injection ea_ with ea_; subst ea_)); subst ec_; clear en_))); (try (have GB36 := Aside0.mk gb36)); (try (have GG36 := Aside0.mk HG36)); (try (clear gb36 gl36 HG36)); (try (first | simp only [add_plain] at hx142_0 | skip)); (try (obtain ⟨hx36_0, hf36_0⟩ := Kd.R_celln 0 HO_5.out (x13_6 : Int) p36 q36)); (try (replace p36 := eq_true p36)); (try (replace q36 := eq_true q36)); (try (have HP41 := Kd.R_putg HO_5.out (x13_6 : Int) (wrap64 ((rd x5_5 x13_6) + x12_23)))))); refine store_event (t := 3) (p := 110) (v := ?vo_w42) (w1 := (wr.setCell ⟨go36, (x13_6 : Int).toNat, none⟩ (.int .i64 (wrap64 ((rd x5_5 x13_6) + x12_23))))) ?hg ?ho ?hn ?hr ?_; (case ho => rfl); (case hg => rfl); (case hn => rfl); (case hr => first | (go_simp; done) | (go_simp; rfl)); intro w42 hw; have hg : wr.grownBy w42 (some go36) := (by rw [hw]; exact HP41.2); have hp_ : Kd.R (Kd.int .i64) 3 w42 w.heap.size (fun k_ => some k_ ≠ (.slice Ao39 x8_5.length co39 : Value).ownBlock) (.slice (some ⟨go36, 0, none⟩) x5_5.length co40) y143 := (by rw [hw, Ny143.out]; exact HP41.1); clear HP41; replace HO_5 := aZ (hp_); replace HO_8 := aZ (Kd.R_after (v := (.slice (some ⟨go36, 0, none⟩) x5_5.length co40)) (v1 := (.slice (some ⟨go36, 0, none⟩) x5_5.length co40)) (ok := (fun _ => True)) (by (with_reducible repeat (first | apply Kd.R_alloc | apply Kd.R_drewN | apply Kd.R_drew)); exact Kd.R_mono HO_8.out (fun _ hk => ⟨trivial, hk⟩)) hg (.inl rfl)); replace HB := aZ ((by rw [hw]; exact below_set (HB.out) GB36.out : Below w.heap.size w w42)); clear hg hw hp_; have p38 : 0 ≤ (x13_6 : Int) := of_decide_eq_true tZE; have q38 : (x13_6 : Int) < ((x8_5.length : Int) : Int) := of_decide_eq_true tZE; obtain ⟨go38, co38, eo38, gb38, gl38, cl38, HG38⟩ := Kd.R_form HO_8.out (by omega); (first | cases eo38 | (injection eo38 with ea_ en_ ec_; (first | subst ea_ | (injection ea_ with ea_; subst ea_)); subst ec_; clear en_)); have GB38 := Aside0.mk gb38; have GG38 := Aside0.mk HG38; clear gb38 gl38 HG38; obtain ⟨hx38_0, hf38_0⟩ := Kd.R_celln 0 HO_8.out (x13_6 : Int) p38 q38; replace p38 := eq_true p38; replace q38 := eq_true q38; have n_ := aZ (Kd.R_mono (ok' := (fun k_ => some k_ ≠ (.slice (some ⟨go36, 0, none⟩) x5_5.length co40 : Value).ownBlock)) HO_8.out (fun k_ hk => hk.2)); clear HO_8; have HO_8 := n_; clear n_; obtain ⟨hy43_, hz43_⟩ := Kd.R_celln 0 HO_8.out (x13_6 : Int) (of_decide_eq_true tZE) (of_decide_eq_true tZE); have HP43 := Kd.R_putg HO_8.out (x13_6 : Int) (-1)) | ((with_reducible refine gate_store (t := 3) (p := 113) rfl ?_); (try (rw [drewN_self w42]; generalize hq_ : World.drewN w42 _ = w42; replace HO_5 := aZ (Kd.R_at hq_ HO_5.out); replace HO_8 := aZ (Kd.R_at hq_ HO_8.out); replace HB := aZ (below_at hq_ HB.out); clear hq_; (try (have p38 : 0 ≤ (x13_6 : Int) := of_decide_eq_true tZE)); (try (have q38 : (x13_6 : Int) < ((x8_5.length : Int) : Int) := of_decide_eq_true tZE)); (try (obtain ⟨go38, co38, eo38, gb38, gl38, cl38, HG38⟩ := Kd.R_form HO_8.out (by omega))); (try (first | cases eo38 | (injection eo38 with ea_ en_ ec_; (first | subst ea_ | (injection ea_ with ea_; subst ea_)); subst ec_; clear en_))); (try (have GB38 := Aside0.mk gb38)); (try (have GG38 := Aside0.mk HG38)); (try (clear gb38 gl38 HG38)); (try (obtain ⟨hx38_0, hf38_0⟩ := Kd.R_celln 0 HO_8.out (x13_6 : Int) p38 q38)); (try (replace p38 := eq_true p38)); (try (replace q38 := eq_true q38)); (try (have n_ := aZ (Kd.R_mono (ok' := (fun k_ => some k_ ≠ (.slice (some ⟨go36, 0, none⟩) x5_5.length co40 : Value).ownBlock)) HO_8.out (fun k_ hk => hk.2)); clear HO_8; have HO_8 := n_; clear n_)); (try (obtain ⟨hy43_, hz43_⟩ := Kd.R_celln 0 HO_8.out (x13_6 : Int) (of_decide_eq_true tZE) (of_decide_eq_true tZE))); (try (have HP43 := Kd.R_putg HO_8.out (x13_6 : Int) (-1))))); refine store_event (t := 3) (p := 113) (v := ?vo_w44) (w1 := (w42.setCell ⟨go38, (x13_6 : Int).toNat, none⟩ (.int .i64 (-1)))) ?hg ?ho ?hn ?hr ?_; (case ho => rfl); (case hg => rfl); (case hn => rfl); (case hr => first | (go_simp; done) | (go_simp; rfl)); intro w44 hw; have hg : w42.grownBy w44 (some go38) := (by rw [hw]; exact HP43.2); have hp_ : Kd.R (Kd.int .i64) 3 w44 w.heap.size (fun k_ => some k_ ≠ (.slice (some ⟨go36, 0, none⟩) x5_5.length co40 : Value).ownBlock) (.slice (some ⟨go38, 0, none⟩) x8_5.length co39) y144 := (by rw [hw, Ny144.out]; exact HP43.1); clear HP43; replace HO_5 := aZ (Kd.R_after (v := (.slice (some ⟨go38, 0, none⟩) x8_5.length co39)) (v1 := (.slice (some ⟨go38, 0, none⟩) x8_5.length co39)) (ok := (fun _ => True)) (by (with_reducible repeat (first | apply Kd.R_alloc | apply Kd.R_drewN | apply Kd.R_drew)); exact Kd.R_mono HO_5.out (fun _ hk => ⟨trivial, hk⟩)) hg (.inl rfl)); replace HO_8 := aZ (hp_); replace HB := aZ ((by rw [hw]; exact below_set (HB.out) GB38.out : Below w.heap.size w w44)); clear hg hw hp_)); try go_wp2_with (first | ((with_reducible refine gate_store (t := 3) (p := 110) rfl ?_); (try (rw [drewN_self wr]; generalize hq_ : World.drewN wr _ = wr; replace HO_5 := aZ (Kd.R_at hq_ HO_5.out); replace HO_8 := aZ (Kd.R_at hq_ HO_8.out); replace HB := aZ (below_at hq_ HB.out); clear hq_; (try (have p36 : 0 ≤ (x13_6 : Int) := of_decide_eq_true tZE)); (try (have q36 : (x13_6 : Int) < ((x5_5.length : Int) : Int) := of_decide_eq_true tZE)); (try (obtain ⟨go36, co36, eo36, gb36, gl36, cl36, HG36⟩ := Kd.R_form HO_5.out (by omega))); (try (first | cases eo36 | (injection eo36 with ea_ en_ ec_; (first | subst ea_ | (injection ea_ with ea_; subst ea_)); subst ec_; clear en_))); (try (have GB36 := Aside0.mk gb36)); (try (have GG36 := Aside0.mk HG36)); (try (clear gb36 gl36 HG36)); (try (first | simp only [add_plain] at hx142_0 | skip)); (try (obtain ⟨hx36_0, hf36_0⟩ := Kd.R_celln 0 HO_5.out (x13_6 : Int) p36 q36)); (try (replace p36 := eq_true p36)); (try (replace q36 := eq_true q36)); (try (have HP41 := Kd.R_putg HO_5.out (x13_6 : Int) (wrap64 ((rd x5_5 x13_6) + x12_23)))))); refine store_event (t := 3) (p := 110) (v := ?vo_w42) (w1 := (wr.setCell ⟨go36, (x13_6 : Int).toNat, none⟩ (.int .i64 (wrap64 ((rd x5_5 x13_6) + x12_23))))) ?hg ?ho ?hn ?hr ?_; (case ho => rfl); (case hg => rfl); (case hn => rfl); (case hr => first | (go_simp; done) | (go_simp; rfl)); intro w42 hw; have hg : wr.grownBy w42 (some go36) := (by rw [hw]; exact HP41.2); have hp_ : Kd.R (Kd.int .i64) 3 w42 w.heap.size (fun k_ => some k_ ≠ (.slice Ao39 x8_5.length co39 : Value).ownBlock) (.slice (some ⟨go36, 0, none⟩) x5_5.length co40) y143 := (by rw [hw, Ny143.out]; exact HP41.1); clear HP41; replace HO_5 := aZ (hp_); replace HO_8 := aZ (Kd.R_after (v := (.slice (some ⟨go36, 0, none⟩) x5_5.length co40)) (v1 := (.slice (some ⟨go36, 0, none⟩) x5_5.length co40)) (ok := (fun _ => True)) (by (with_reducible repeat (first | apply Kd.R_alloc | apply Kd.R_drewN | apply Kd.R_drew)); exact Kd.R_mono HO_8.out (fun _ hk => ⟨trivial, hk⟩)) hg (.inl rfl)); replace HB := aZ ((by rw [hw]; exact below_set (HB.out) GB36.out : Below w.heap.size w w42)); clear hg hw hp_; have p38 : 0 ≤ (x13_6 : Int) := of_decide_eq_true tZE; have q38 : (x13_6 : Int) < ((x8_5.length : Int) : Int) := of_decide_eq_true tZE; obtain ⟨go38, co38, eo38, gb38, gl38, cl38, HG38⟩ := Kd.R_form HO_8.out (by omega); (first | cases eo38 | (injection eo38 with ea_ en_ ec_; (first | subst ea_ | (injection ea_ with ea_; subst ea_)); subst ec_; clear en_)); have GB38 := Aside0.mk gb38; have GG38 := Aside0.mk HG38; clear gb38 gl38 HG38; obtain ⟨hx38_0, hf38_0⟩ := Kd.R_celln 0 HO_8.out (x13_6 : Int) p38 q38; replace p38 := eq_true p38; replace q38 := eq_true q38; have n_ := aZ (Kd.R_mono (ok' := (fun k_ => some k_ ≠ (.slice (some ⟨go36, 0, none⟩) x5_5.length co40 : Value).ownBlock)) HO_8.out (fun k_ hk => hk.2)); clear HO_8; have HO_8 := n_; clear n_; obtain ⟨hy43_, hz43_⟩ := Kd.R_celln 0 HO_8.out (x13_6 : Int) (of_decide_eq_true tZE) (of_decide_eq_true tZE); have HP43 := Kd.R_putg HO_8.out (x13_6 : Int) (-1)) | ((with_reducible refine gate_store (t := 3) (p := 113) rfl ?_); (try (rw [drewN_self w42]; generalize hq_ : World.drewN w42 _ = w42; replace HO_5 := aZ (Kd.R_at hq_ HO_5.out); replace HO_8 := aZ (Kd.R_at hq_ HO_8.out); replace HB := aZ (below_at hq_ HB.out); clear hq_; (try (have p38 : 0 ≤ (x13_6 : Int) := of_decide_eq_true tZE)); (try (have q38 : (x13_6 : Int) < ((x8_5.length : Int) : Int) := of_decide_eq_true tZE)); (try (obtain ⟨go38, co38, eo38, gb38, gl38, cl38, HG38⟩ := Kd.R_form HO_8.out (by omega))); (try (first | cases eo38 | (injection eo38 with ea_ en_ ec_; (first | subst ea_ | (injection ea_ with ea_; subst ea_)); subst ec_; clear en_))); (try (have GB38 := Aside0.mk gb38)); (try (have GG38 := Aside0.mk HG38)); (try (clear gb38 gl38 HG38)); (try (obtain ⟨hx38_0, hf38_0⟩ := Kd.R_celln 0 HO_8.out (x13_6 : Int) p38 q38)); (try (replace p38 := eq_true p38)); (try (replace q38 := eq_true q38)); (try (have n_ := aZ (Kd.R_mono (ok' := (fun k_ => some k_ ≠ (.slice (some ⟨go36, 0, none⟩) x5_5.length co40 : Value).ownBlock)) HO_8.out (fun k_ hk => hk.2)); clear HO_8; have HO_8 := n_; clear n_)); (try (obtain ⟨hy43_, hz43_⟩ := Kd.R_celln 0 HO_8.out (x13_6 : Int) (of_decide_eq_true tZE) (of_decide_eq_true tZE))); (try (have HP43 := Kd.R_putg HO_8.out (x13_6 : Int) (-1))))); refine store_event (t := 3) (p := 113) (v := ?vo_w44) (w1 := (w42.setCell ⟨go38, (x13_6 : Int).toNat, none⟩ (.int .i64 (-1)))) ?hg ?ho ?hn ?hr ?_; (case ho => rfl); (case hg => rfl); (case hn => rfl); (case hr => first | (go_simp; done) | (go_simp; rfl)); intro w44 hw; have hg : w42.grownBy w44 (some go38) := (by rw [hw]; exact HP43.2); have hp_ : Kd.R (Kd.int .i64) 3 w44 w.heap.size (fun k_ => some k_ ≠ (.slice (some ⟨go36, 0, none⟩) x5_5.length co40 : Value).ownBlock) (.slice (some ⟨go38, 0, none⟩) x8_5.length co39) y144 := (by rw [hw, Ny144.out]; exact HP43.1); clear HP43; replace HO_5 := aZ (Kd.R_after (v := (.slice (some ⟨go38, 0, none⟩) x8_5.length co39)) (v1 := (.slice (some ⟨go38, 0, none⟩) x8_5.length co39)) (ok := (fun _ => True)) (by (with_reducible repeat (first | apply Kd.R_alloc | apply Kd.R_drewN | apply Kd.R_drew)); exact Kd.R_mono HO_5.out (fun _ hk => ⟨trivial, hk⟩)) hg (.inl rfl)); replace HO_8 := aZ (hp_); replace HB := aZ ((by rw [hw]; exact below_set (HB.out) GB38.out : Below w.heap.size w w44)); clear hg hw hp_)))
             go_roundg k6
             case measure => have := HJ2.out; have := HK2.out; have := HK3.out; have := HJ23.out; have := HK5.out; have := HK6.out; omega
             case rel => exact ⟨(y143), (y144), (wrap64 (x9_5 - x12_23)), tZB, H', ⟨by have := HJ2.out; have := HK2.out; have := HK3.out; have := HJ23.out; have := HK5.out; have := HK6.out; omega⟩, ⟨by (with_reducible repeat (first | apply Kd.R_alloc | apply Kd.R_drewN | apply Kd.R_drew)); exact Kd.R_mono HO_5.out (fun _ hk => hk.2)⟩, ⟨lZR HO_8.out⟩, ⟨bZ⟩⟩
def spec_l1PickInt.f (s0_0 : List Int) (s0_1 : Int) (s0_2 : Int) (l1 : List Int) : Option (Int × Int × Int) := (spec_l1Below.f s0_0 s0_1 s0_2 (l1.length : Int)).bind fun bt145 => (if 0 ≤ bt145.1 then (if bt145.1 < (l1.length : Int) then (some (rd l1 bt145.1, bt145.2.1, bt145.2.2)) else (none)) else (none))
set_option maxHeartbeats 8000000 in
set_option maxRecDepth 100000 in
theorem spec_l1PickInt.calls (g : Nat) (s0_0 : List Int) (s0_1 : Int) (s0_2 : Int) (A1 : Option Addr) (c1 : Nat) (l1 : List Int) (r1 : Int) (r2 : Int) (r3 : Int) (w0 w : World) (hI : IsS76 w0 w g s0_0 s0_1 s0_2) (hB : Below w0.heap.size w0 w) (hr1 : Kd.C (Kd.int .i64) w A1 l1.length l1) (hc1 : l1.length ≤ c1) (hf1 : ∀ ad, A1 = some ad → 0 < l1.length → ad.block ≠ g) (h : spec_l1PickInt.f s0_0 s0_1 s0_2 l1 = some (r1, r2, r3)) :
    Calls Try.prog 49 #[.pointer (some ⟨g, 0, none⟩), .slice A1 l1.length c1] w fun e w' => e = .returned (.int .i64 r1) ∧ IsS76 w0 w' g s0_0 r2 r3 ∧ Below w0.heap.size w0 w' ∧ KeepBut w w' g none := by
 have HR1 := Aside0.mk hr1; have HC1 := Aside0.mk hc1; clear hr1 hc1; have HI0 := Aside0.mk hI; have HK := aZ (KeepBut.refl w g none); have HL := Aside0.mk hB.size; clear hI; have HW0 := Aside0.mk hB.size; have HB := Aside0.mk hB; clear hB; have H : ((spec_l1Below.f s0_0 s0_1 s0_2 (l1.length : Int)).bind fun bt145 => (if 0 ≤ bt145.1 then (if bt145.1 < (l1.length : Int) then (some (rd l1 bt145.1, bt145.2.1, bt145.2.2)) else (none)) else (none))) = some (r1, r2, r3) := h; clear h; replace H := Option.bind_eq_some_iff.mp H; obtain ⟨⟨t145, t146, t147⟩, A30, H⟩ := H; replace H : (if 0 ≤ t145 then (if t145 < (l1.length : Int) then (some (rd l1 t145, t146, t147)) else (none)) else (none)) = some (r1, r2, r3) := H; have A3 := Aside0.mk A30; clear A30
 by_cases c4 : 0 ≤ t145
 rotate_left
 ·rw [if_neg c4] at H; exact absurd H (by simp)
 rw [if_pos c4] at H; have c4b0 := decide_eq_true c4; clear c4
 by_cases c5 : t145 < (l1.length : Int)
 rotate_left
 ·rw [if_neg c5] at H; exact absurd H (by simp)
 rw [if_pos c5] at H; have c5b0 := decide_eq_true c5; clear c5; simp only [Option.some.injEq, Prod.mk.injEq] at H; obtain ⟨rfl, rfl, rfl⟩ := H; go_enter Try.func49, Try.ntmps49
 go_wp2_with (first | ((with_reducible refine gate_callee (f := 35) rfl ?_); refine goesL_ (some 9) rfl rfl Try.func35 kZ rfl #[.pointer (some ⟨g, 0, none⟩), .int .i64 (l1.length : Int)] rfl tZA ?_; (with_reducible refine (spec_l1Below.calls g s0_0 s0_1 s0_2 (l1.length : Int) t145 t146 t147 w0 _ ?side1 ?side2 A3.out).mono ?_); (case side1 => repeat (first | (with_reducible first | exact HI0.out | apply IsS76.alloc | apply IsS76.drewN | apply IsS76.drew | apply IsS76.set_1 | apply IsS76.set_2) | exact HI0.out)); (case side2 => repeat (first | (with_reducible first | exact HB.out | apply below_alloc | apply pw_below_drewN | apply below_drew1 | refine below_set ?_ (IsS76.ge HI0.out)) | exact HB.out)); rintro e w6 ⟨rfl, hi, hb, hk⟩; refine ⟨_, rfl, ?_⟩; replace HK := aZ (KeepBut.trans (by repeat (first | (with_reducible first | exact HK.out | apply KeepBut.set_ | apply keep_drewN | apply keep_drew | apply keep_alloc) | exact HK.out)) hk (.inl rfl)); replace HB := aZ (hb); replace HI0 := aZ (hi); (try clear hb); (try clear hb2); (try clear hk); (try clear hi); have p148 : 0 ≤ (t145 : Int) := of_decide_eq_true tZE; have q148 : t145 < (l1.length : Int) := of_decide_eq_true tZE; obtain ⟨ad148, e148, hx148_0⟩ := Kd.at_int HR1.out t145 p148 q148; cases e148; replace hx148_0 := keep_cell HK.out hx148_0 (by first | (rw [add_block]; exact hf1 _ rfl (by omega)) | exact hf1 _ rfl (by omega) | exact hf1 ad148 rfl (by omega)); replace p148 := eq_true p148; replace q148 := eq_true q148))
 go_ret; exact ⟨tZC, by repeat (first | (with_reducible first | exact HI0.out | apply IsS76.alloc | apply IsS76.drewN | apply IsS76.drew | apply IsS76.set_1 | apply IsS76.set_2) | exact HI0.out), by repeat (first | (with_reducible first | exact HB.out | apply below_alloc | apply pw_below_drewN | apply below_drew1 | refine below_set ?_ (IsS76.ge HI0.out)) | exact HB.out), by repeat (first | (with_reducible first | exact HK.out | apply KeepBut.set_ | apply keep_drewN | apply keep_drew | apply keep_alloc) | exact HK.out)⟩
end Go.Proofs.Ytadehdkmggpehaa.PFnMutualWhole
