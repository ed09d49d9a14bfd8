import Derived.Test.YtadehdkmggpehaaUPFnMutualWholex0
import Derived.Test.YtadehdkmggpehaaUPFnMutualWholex2
import Derived.Test.YtadehdkmggpehaaUPFnMutualWholex10
import Derived.Test.YtadehdkmggpehaaUPFnMutualWholex11
import Derived.Test.YtadehdkmggpehaaUSlimWords
namespace Go.Proofs.Ytadehdkmggpehaa.PFnMutualWhole
open Go.Proofs.Ytadehdkmggpehaa.SlimWords
open Go.RowKit Go.Proofs.YtadehdkmggpehaaW.PrintWords Go.Proofs.YtadehdkmggpehaaW.PrintLast Go.Proofs.YtadehdkmggpehaaW.PrintMore Go.Proofs.Ytadehdkmggpehaa.MapWords Go.Proofs.Ytadehdkmggpehaa.IterWords Go.Proofs.Ytadehdkmggpehaa.MarkWords Go.Proofs.Ytadehdkmggpehaa.ArrWords
attribute [local go_sem] ptrOf_slice max2_int min2_int max_two min_two max_three min_three max_four min_four
set_option linter.unusedVariables false
set_option linter.unusedSimpArgs false
mutual
def spec_l7Ends.l0 : Nat → Int → Int → List (List Int) → Int → List (List Int) → Int → Option (List Int × Int)
  | 0, _, _, _, _, _, _ => none
  | k + 1, x0, x1, x2, x3, x10, x11 => if x11 < x1 then (spec_l7Ends.l1 k x0 x1 x2 x3 x10 x11 (([] : List Int)) 0) else (spec_l7Ends.l2 k x0 x1 x2 x3 x10 (([] : List Int)) x1)
def spec_l7Ends.l1 : Nat → Int → Int → List (List Int) → Int → List (List Int) → Int → List Int → Int → Option (List Int × Int)
  | 0, _, _, _, _, _, _, _, _ => none
  | k + 1, x0, x1, x2, x3, x10, x11, x12, x13 => if x13 < x1 then (if x11 = x13 then (if x12.length < 17592186044416 then (spec_l7Ends.l1 k x0 x1 x2 x3 x10 x11 (x12 ++ [100]) (wrap64 (x13 + 1))) else (none)) else (if 0 ≤ x11 then (if x11 < (x2.length : Int) then (if 0 ≤ x13 then (if x13 < ((rd_L2 x2 x11).length : Int) then (if x12.length < 17592186044416 then (spec_l7Ends.l1 k x0 x1 x2 x3 x10 x11 (x12 ++ [wrap64 (-(rd (rd_L2 x2 x11) x13))]) (wrap64 (x13 + 1))) else (none)) else (none)) else (none)) else (none)) else (none))) else (if x10.length < 5864062014805 then (spec_l7Ends.l0 k x0 x1 x2 x3 (x10 ++ [x12]) (wrap64 (x11 + 1))) else (none))
def spec_l7Ends.l2 : Nat → Int → Int → List (List Int) → Int → List (List Int) → List Int → Int → Option (List Int × Int)
  | 0, _, _, _, _, _, _, _ => none
  | k + 1, x0, x1, x2, x3, x10, x14, x15 => if x15 < x0 then (spec_l7Ends.l3 k x0 x1 x2 x3 x10 x14 x15 (([] : List (List Int))) 0) else ((spec_l7Det.f k x10).bind fun t506 => (some (x14, t506)))
def spec_l7Ends.l3 : Nat → Int → Int → List (List Int) → Int → List (List Int) → List Int → Int → List (List Int) → Int → Option (List Int × Int)
  | 0, _, _, _, _, _, _, _, _, _ => none
  | k + 1, x0, x1, x2, x3, x10, x14, x15, x16, x17 => if x17 < x1 then ((some (([] : List Int) : List Int)).bind fun y510 => (if 0 ≤ x17 then (if x17 < (x10.length : Int) then (if y510.length + (rd_L2 x10 x17).length < 17592186044416 then ((some (y510 ++ (rd_L2 x10 x17) : List Int)).bind fun y514 => (if x17 < (x2.length : Int) then (if 0 ≤ x15 then (if x15 < ((rd_L2 x2 x17).length : Int) then (if 0 ≤ x3 then (if x3 < (y514.length : Int) then (if x16.length < 5864062014805 then (spec_l7Ends.l3 k x0 x1 x2 x3 x10 x14 x15 (x16 ++ [(y514.set (x3 : Int).toNat (rd (rd_L2 x2 x17) x15))]) (wrap64 (x17 + 1))) else (none)) else (none)) else (none)) else (none)) else (none)) else (none))) else (none)) else (none)) else (none))) else ((spec_l7Det.f k x16).bind fun t523 => (if x14.length < 17592186044416 then (spec_l7Ends.l2 k x0 x1 x2 x3 x10 (x14 ++ [t523]) (wrap64 (x15 + 1))) else (none)))
end
def spec_l7Ends.f (k : Nat) (a0 : Int) (a1 : Int) (l2 : List (List Int)) (a3 : Int) : Option (List Int × Int) := spec_l7Ends.l0 k a0 a1 l2 a3 (([] : List (List Int))) 0
theorem spec_l7Ends.mono_l : ∀ k, (∀ y0 y1 y2 y3 y4 y5, LeO (spec_l7Ends.l0 k y0 y1 y2 y3 y4 y5) (spec_l7Ends.l0 (k + 1) y0 y1 y2 y3 y4 y5)) ∧ (∀ y0 y1 y2 y3 y4 y5 y6 y7, LeO (spec_l7Ends.l1 k y0 y1 y2 y3 y4 y5 y6 y7) (spec_l7Ends.l1 (k + 1) y0 y1 y2 y3 y4 y5 y6 y7)) ∧ (∀ y0 y1 y2 y3 y4 y5 y6, LeO (spec_l7Ends.l2 k y0 y1 y2 y3 y4 y5 y6) (spec_l7Ends.l2 (k + 1) y0 y1 y2 y3 y4 y5 y6)) ∧ (∀ y0 y1 y2 y3 y4 y5 y6 y7 y8, LeO (spec_l7Ends.l3 k y0 y1 y2 y3 y4 y5 y6 y7 y8) (spec_l7Ends.l3 (k + 1) y0 y1 y2 y3 y4 y5 y6 y7 y8))
  | 0 => ⟨fun _ _ _ _ _ _ r h => by simp [spec_l7Ends.l0] at h, fun _ _ _ _ _ _ _ _ r h => by simp [spec_l7Ends.l1] at h, fun _ _ _ _ _ _ _ r h => by simp [spec_l7Ends.l2] at h, fun _ _ _ _ _ _ _ _ _ r h => by simp [spec_l7Ends.l3] at h⟩
  | k + 1 => by
    obtain ⟨ih0, ih1, ih2, ih3⟩ := spec_l7Ends.mono_l k
    refine ⟨?_, ?_, ?_, ?_⟩
    · intro y0 y1 y2 y3 y4 y5
      unfold spec_l7Ends.l0
      repeat' first
      | (with_reducible exact ih0 _ _ _ _ _ _)
      | (with_reducible exact ih1 _ _ _ _ _ _ _ _)
      | (with_reducible exact ih2 _ _ _ _ _ _ _)
      | (with_reducible exact ih3 _ _ _ _ _ _ _ _ _)
      | (with_reducible exact spec_l7Det.mono _ _)
      | (with_reducible exact LeO.refl _)
      | (with_reducible exact LeO.none _)
      | (with_reducible refine LeO.ite ?_ ?_)
      | (with_reducible refine LeO.bind ?_ (fun _ => ?_))
      | exact ih0 _ _ _ _ _ _
      | exact ih1 _ _ _ _ _ _ _ _
      | exact ih2 _ _ _ _ _ _ _
      | exact ih3 _ _ _ _ _ _ _ _ _
      | exact spec_l7Det.mono _ _
      | exact LeO.none _
      | refine LeO.ite ?_ ?_
      | refine LeO.bind ?_ (fun _ => ?_)
    · intro y0 y1 y2 y3 y4 y5 y6 y7
      unfold spec_l7Ends.l1
      repeat' first
      | (with_reducible exact ih0 _ _ _ _ _ _)
      | (with_reducible exact ih1 _ _ _ _ _ _ _ _)
      | (with_reducible exact ih2 _ _ _ _ _ _ _)
      | (with_reducible exact ih3 _ _ _ _ _ _ _ _ _)
      | (with_reducible exact spec_l7Det.mono _ _)
      | (with_reducible exact LeO.refl _)
      | (with_reducible exact LeO.none _)
      | (with_reducible refine LeO.ite ?_ ?_)
      | (with_reducible refine LeO.bind ?_ (fun _ => ?_))
      | exact ih0 _ _ _ _ _ _
      | exact ih1 _ _ _ _ _ _ _ _
      | exact ih2 _ _ _ _ _ _ _
      | exact ih3 _ _ _ _ _ _ _ _ _
      | exact spec_l7Det.mono _ _
      | exact LeO.none _
      | refine LeO.ite ?_ ?_
      | refine LeO.bind ?_ (fun _ => ?_)
    · intro y0 y1 y2 y3 y4 y5 y6
      unfold spec_l7Ends.l2
      repeat' first
      | (with_reducible exact ih0 _ _ _ _ _ _)
      | (with_reducible exact ih1 _ _ _ _ _ _ _ _)
      | (with_reducible exact ih2 _ _ _ _ _ _ _)
      | (with_reducible exact ih3 _ _ _ _ _ _ _ _ _)
      | (with_reducible exact spec_l7Det.mono _ _)
      | (with_reducible exact LeO.refl _)
      | (with_reducible exact LeO.none _)
      | (with_reducible refine LeO.ite ?_ ?_)
      | (with_reducible refine LeO.bind ?_ (fun _ => ?_))
      | exact ih0 _ _ _ _ _ _
      | exact ih1 _ _ _ _ _ _ _ _
      | exact ih2 _ _ _ _ _ _ _
      | exact ih3 _ _ _ _ _ _ _ _ _
      | exact spec_l7Det.mono _ _
      | exact LeO.none _
      | refine LeO.ite ?_ ?_
      | refine LeO.bind ?_ (fun _ => ?_)
    · intro y0 y1 y2 y3 y4 y5 y6 y7 y8
      unfold spec_l7Ends.l3
      repeat' first
      | (with_reducible exact ih0 _ _ _ _ _ _)
      | (with_reducible exact ih1 _ _ _ _ _ _ _ _)
      | (with_reducible exact ih2 _ _ _ _ _ _ _)
      | (with_reducible exact ih3 _ _ _ _ _ _ _ _ _)
      | (with_reducible exact spec_l7Det.mono _ _)
      | (with_reducible exact LeO.refl _)
      | (with_reducible exact LeO.none _)
      | (with_reducible refine LeO.ite ?_ ?_)
      | (with_reducible refine LeO.bind ?_ (fun _ => ?_))
      | exact ih0 _ _ _ _ _ _
      | exact ih1 _ _ _ _ _ _ _ _
      | exact ih2 _ _ _ _ _ _ _
      | exact ih3 _ _ _ _ _ _ _ _ _
      | exact spec_l7Det.mono _ _
      | exact LeO.none _
      | refine LeO.ite ?_ ?_
      | refine LeO.bind ?_ (fun _ => ?_)
theorem spec_l7Ends.mono : ∀ a0 a1 a2 a3 k, LeO (spec_l7Ends.f k a0 a1 a2 a3) (spec_l7Ends.f (k + 1) a0 a1 a2 a3) := by
 intro a0 a1 a2 a3 k
 obtain ⟨ih0, ih1, ih2, ih3⟩ := spec_l7Ends.mono_l k
 unfold spec_l7Ends.f
 repeat' first
     | (with_reducible exact ih0 _ _ _ _ _ _)
     | (with_reducible exact ih1 _ _ _ _ _ _ _ _)
     | (with_reducible exact ih2 _ _ _ _ _ _ _)
     | (with_reducible exact ih3 _ _ _ _ _ _ _ _ _)
     | (with_reducible exact spec_l7Det.mono _ _)
     | (with_reducible exact LeO.refl _)
     | (with_reducible exact LeO.none _)
     | (with_reducible refine LeO.ite ?_ ?_)
     | (with_reducible refine LeO.bind ?_ (fun _ => ?_))
     | exact ih0 _ _ _ _ _ _
     | exact ih1 _ _ _ _ _ _ _ _
     | exact ih2 _ _ _ _ _ _ _
     | exact ih3 _ _ _ _ _ _ _ _ _
     | exact spec_l7Det.mono _ _
     | exact LeO.none _
     | refine LeO.ite ?_ ?_
     | refine LeO.bind ?_ (fun _ => ?_)
set_option maxHeartbeats 8000000 in
set_option maxRecDepth 100000 in
theorem spec_l7Ends.calls (k : Nat) (a0 : Int) (a1 : Int) (A2 : Option Addr) (c2 : Nat) (l2 : List (List Int)) (a3 : Int) (r1 : List Int) (r2 : Int) (w : World) (hr2 : Kd.C (Kd.slice 3 (Kd.int .i64)) w A2 l2.length l2) (hc2 : l2.length ≤ c2) (h : spec_l7Ends.f k a0 a1 l2 a3 = some (r1, r2)) :
    Calls Try.prog 56 #[.int .i64 a0, .int .i64 a1, .slice A2 l2.length c2, .int .i64 a3] w fun e w' => ∃ v0_ : Value, e = .returned (.tuple #[v0_, .int .i64 r2]) ∧ Kd.R (Kd.int .i64) 3 w' w.heap.size (fun _ => True) v0_ r1 ∧ Below w.heap.size w w' := by
 have HR2 := Aside0.mk hr2; have HC2 := Aside0.mk hc2; clear hr2 hc2; have HB := aZ (Below.refl w.heap.size w); have H : (spec_l7Ends.l0 k a0 a1 l2 a3 (([] : List (List Int))) 0) = some (r1, r2) := h; clear h; obtain ⟨y486, hy486⟩ : ∃ y_ : List (List Int), y_ = (([] : List (List Int))) := ⟨_, rfl⟩; replace H : (spec_l7Ends.l0 k a0 a1 l2 a3 y486 0) = some (r1, r2) := by first | (rw [hy486]; with_reducible exact H) | (have H2_ := (Option.bind_some _ _).symm.trans H; rw [hy486]; with_reducible exact H2_) | (have H2_ := (Option.bind_some _ _).symm.trans H; with_reducible exact H2_) | with_reducible exact H | (rw [hy486]; exact H) | exact H
 have Ny486 := Aside0.mk hy486; clear hy486; have H' := Aside0.mk H; clear H; go_enter Try.func56, Try.ntmps56
 go_wp2_with (first | ((with_reducible refine gate_dst (N := 19) rfl ?_); refine Kd.S_lit (Kd.slice 3 (Kd.int .i64)) _ 24 ?hg (N := 19) ?hd (xs := ([] : List (List Int))) (inner := []) (ok := fun _ => True) (okp := fun _ => True) ?hr ?hp (fun _ hk => hk) trivial (Below.refl _ _) (Nat.le_refl _) (by simp) ?_; (case hd => rfl); (case hg => rfl); (case hr => first | (go_simp; done) | (go_simp; rfl)); (case hp => exact (Reps.none _ _)); intro v487 w5 ho6 hb hg_ hnew_; clear hg_ hnew_; (first | rw [← Ny486.out] at ho6 | (simp only [Int.reduceToNat] at ho6; rw [← Ny486.out] at ho6)); have HO488 := aZ (Kd.S_lower ho6 (below_size (lZB HB.out))); replace HB := aZ (below_step (lZB HB.out) hb); clear hb ho6))
 go_loopg [10, 11] k (fun kq v10 v11 w' => ∃ (x10_1 : List (List Int)) (x11_1 : Int), v11 = .int .i64 x11_1 ∧ Aside0 (spec_l7Ends.l0 kq a0 a1 l2 a3 x10_1 x11_1 = some (r1, r2)) ∧ Aside0 (kq ≤ k) ∧ Aside0 (Kd.S (Kd.slice 3 (Kd.int .i64)) 24 w' w.heap.size (fun _ => True) v10 x10_1) ∧ Aside0 (Below w.heap.size w w'))
 case atStart => exact ⟨(y486), (0), tZB, H', ⟨Nat.le_refl _⟩, ⟨lZS HO488.out⟩, ⟨bZ⟩⟩
 case round =>
  clear H'; obtain ⟨x10_1, x11_1, rfl, HA, HK1, HO_10, HB⟩ := hrel
  cases gk with
  | zero => exact absurd HA.out (by simp [spec_l7Ends.l0])
  | succ k1 =>
   have H := HA.out; clear HA; simp only [spec_l7Ends.l0] at H
   by_cases c7 : x11_1 < a1
   ·rw [if_pos c7] at H; have c7b0 := decide_eq_true c7; clear c7; obtain ⟨y489, hy489⟩ : ∃ y_ : List Int, y_ = (([] : List Int)) := ⟨_, rfl⟩; replace H : (spec_l7Ends.l1 k1 a0 a1 l2 a3 x10_1 x11_1 y489 0) = some (r1, r2) := by first | (rw [hy489]; with_reducible exact H) | (have H2_ := (Option.bind_some _ _).symm.trans H; rw [hy489]; with_reducible exact H2_) | (have H2_ := (Option.bind_some _ _).symm.trans H; with_reducible exact H2_) | with_reducible exact H | (rw [hy489]; exact H) | exact H
    have Ny489 := Aside0.mk hy489; clear hy489; have H' := Aside0.mk H; clear H
    go_wp2_with (first | ((with_reducible refine gate_dst (N := 25) rfl ?_); refine Kd.R_lit (Kd.int .i64) _ 3 ?hg (N := 25) ?hd (xs := ([] : List Int)) (inner := []) (ok := fun _ => True) (okp := fun _ => True) ?hr ?hp (fun _ hk => hk) trivial (Below.refl _ _) (Nat.le_refl _) (by simp) ?_; (case hd => rfl); (case hg => rfl); (case hr => first | (go_simp; done) | (go_simp; rfl)); (case hp => exact (Reps.none _ _)); intro v490 w8 ho9 hb hg_ hnew_; clear hg_ hnew_; (first | rw [← Ny489.out] at ho9 | (simp only [Int.reduceToNat] at ho9; rw [← Ny489.out] at ho9)); replace HO_10 := aZ (Kd.S_elder' (lZS HO_10.out) (Kd.R_base ho9) hb); have HO491 := aZ (Kd.R_lower ho9 (below_size (lZB HB.out))); replace HB := aZ (below_step (lZB HB.out) hb); clear hb ho9))
    go_loopg [12, 13] k1 (fun kq v12 v13 w' => ∃ (x12_2 : List Int) (x13_2 : Int), v13 = .int .i64 x13_2 ∧ Aside0 (spec_l7Ends.l1 kq a0 a1 l2 a3 x10_1 x11_1 x12_2 x13_2 = some (r1, r2)) ∧ Aside0 (kq ≤ k1) ∧ Aside0 (Kd.S (Kd.slice 3 (Kd.int .i64)) 24 w' w.heap.size (fun k_ => some k_ ≠ (v12 : Value).ownBlock) u10 x10_1) ∧ Aside0 (Kd.R (Kd.int .i64) 3 w' w.heap.size (fun _ => True) v12 x12_2) ∧ Aside0 (Below w.heap.size w w'))
    case atStart => exact ⟨(y489), (0), tZB, H', ⟨Nat.le_refl _⟩, ⟨by (with_reducible repeat (first | apply Kd.S_alloc | apply Kd.S_drewN | apply Kd.S_drew)); exact Kd.S_mono HO_10.out (fun _ hk => hk.2)⟩, ⟨lZR HO491.out⟩, ⟨bZ⟩⟩
    case round =>
     clear H'; (try clear c7b0); obtain ⟨x12_2, x13_2, rfl, HA, HK2, HO_10, HO_12, HB⟩ := hrel
     cases gk with
     | zero => exact absurd HA.out (by simp [spec_l7Ends.l1])
     | succ k2 =>
      have H := HA.out; clear HA; simp only [spec_l7Ends.l1] at H
      by_cases c10 : x13_2 < a1
      rotate_left
      ·rw [if_neg c10] at H; have c10b0 := decide_eq_false c10; clear c10
       by_cases c20 : x10_1.length < 5864062014805
       rotate_left
       ·rw [if_neg c20] at H; exact absurd H (by simp)
       rw [if_pos c20] at H; have LMc20 := Aside0.mk c20; clear c20; obtain ⟨y500, hy500⟩ : ∃ y_ : List (List Int), y_ = (x10_1 ++ [x12_2]) := ⟨_, rfl⟩; replace H : (spec_l7Ends.l0 k2 a0 a1 l2 a3 y500 (wrap64 (x11_1 + 1))) = some (r1, r2) := by first | (rw [hy500]; with_reducible exact H) | (have H2_ := (Option.bind_some _ _).symm.trans H; rw [hy500]; with_reducible exact H2_) | (have H2_ := (Option.bind_some _ _).symm.trans H; with_reducible exact H2_) | with_reducible exact H | (rw [hy500]; exact H) | exact H
       have Ny500 := Aside0.mk hy500; clear hy500; have H' := Aside0.mk H; clear H; obtain ⟨Ao22, co22, eo22⟩ := Kd.R_slice HO_12.out; subst eo22
       go_wp2_with (first | ((with_reducible refine gate_builtin (b := .append) (xs := #[.tmp 48, .tmp 50]) rfl ?_); at_builtin; refine Kd.S_append (Kd.slice 3 (Kd.int .i64)) (w0 := w) w.heap.size rfl (.tmp 48) (.tmp 50) 25 24 (.slice none 0 0) 24 rfl Try.underlying25 info24 rfl (by decide) (by omega) u10 x10_1 x12_2 [.slice Ao22 x12_2.length co22] (fun _ => True) (fun k_ => some k_ = (.slice Ao22 x12_2.length co22 : Value).ownBlock) rfl rfl ?aP (fun k_ hk_ => ((Kd.R_mono (ok' := fun k_ => ((fun _ => True)) k_ ∧ some k_ ≠ (u10 : Value).ownBlock) (Kd.R_apart' (HO_12.out) (Kd.S_typed HO_10.out) (by decide)) (fun k_ hk => ⟨trivial, hk.2⟩))).1 k_ hk_.symm) ?aF ?aO ?aB ?aS ?aL ?_; (case aP => exact Kd.M_row (Kd.R_mono (Kd.R_tight rfl (Kd.R_mono (ok' := fun k_ => ((fun _ => True)) k_ ∧ some k_ ≠ (u10 : Value).ownBlock) (Kd.R_apart' (HO_12.out) (Kd.S_typed HO_10.out) (by decide)) (fun k_ hk => ⟨trivial, hk.2⟩))) (fun _ h_ => h_))); (case aB => exact (lZB HB.out)); (case aF => exact (fun _ _ => trivial)); (case aO => exact (by (with_reducible repeat (first | apply Kd.S_alloc | apply Kd.S_drewN | apply Kd.S_drew)); exact Kd.S_mono HO_10.out (fun k_ hk => ⟨trivial, fun e_ => hk e_⟩))); (case aS => exact (below_size (lZB HB.out))); (case aL => have := LMc20.out; omega); intro v501 w21 ho hb hg hat; rw [← Ny500.out] at ho; replace HB := aZ (hb); have HO502 := aZ (ho); clear HO_10 HO_12; clear ho hb hg hat))
       go_roundg k2
       case measure => have := HK1.out; have := HK2.out; omega
       case rel => exact ⟨(y500), (wrap64 (x11_1 + 1)), tZB, H', ⟨by have := HK1.out; have := HK2.out; omega⟩, ⟨lZS HO502.out⟩, ⟨bZ⟩⟩
      rw [if_pos c10] at H; have c10b0 := decide_eq_true c10; clear c10
      by_cases c11 : x11_1 = x13_2
      ·rw [if_pos c11] at H; have c11b0 : (x11_1 == x13_2) = true := beq_iff_eq.mpr c11; have c11b1 : (x11_1 != x13_2) = false := bne_eq_false_iff_eq.mpr c11; clear c11
       by_cases c12 : x12_2.length < 17592186044416
       rotate_left
       ·rw [if_neg c12] at H; exact absurd H (by simp)
       rw [if_pos c12] at H; have LMc12 := Aside0.mk c12; clear c12; obtain ⟨y492, hy492⟩ : ∃ y_ : List Int, y_ = (x12_2 ++ [100]) := ⟨_, rfl⟩; replace H : (spec_l7Ends.l1 k2 a0 a1 l2 a3 x10_1 x11_1 y492 (wrap64 (x13_2 + 1))) = some (r1, r2) := by first | (rw [hy492]; with_reducible exact H) | (have H2_ := (Option.bind_some _ _).symm.trans H; rw [hy492]; with_reducible exact H2_) | (have H2_ := (Option.bind_some _ _).symm.trans H; with_reducible exact H2_) | with_reducible exact H | (rw [hy492]; exact H) | exact H
       have Ny492 := Aside0.mk hy492; clear hy492; have H' := Aside0.mk H; clear H
       go_wp2_with (first | ((with_reducible refine gate_builtin (b := .append) (xs := #[.tmp 34, .tmp 35]) rfl ?_); at_builtin; refine Kd.R_append (Kd.int .i64) (w0 := w) w.heap.size rfl (.tmp 34) (.tmp 35) 24 3 (.int .i64 0) 8 rfl Try.underlying24 info3 rfl (by decide) (by omega) u12 x12_2 100 [.int .i64 100] (fun _ => True) (fun _ => False) rfl rfl ?aP (fun _ hk => hk.elim) ?aF ?aO ?aB ?aS ?aL ?_; (case aP => exact rfl); (case aB => exact (lZB HB.out)); (case aF => exact (fun _ _ => trivial)); (case aO => exact (lZR HO_12.out)); (case aS => exact (below_size (lZB HB.out))); (case aL => have := LMc12.out; omega); intro v493 w13 ho hb hg hat; rw [← Ny492.out] at ho; replace HO_10 := aZ (Kd.S_after (ok := (fun _ => True)) (by (with_reducible repeat (first | apply Kd.S_alloc | apply Kd.S_drewN | apply Kd.S_drew)); exact Kd.S_mono HO_10.out (fun _ hk => ⟨trivial, hk⟩)) hg hat); replace HB := aZ (hb); have HO494 := aZ (ho); clear HO_12; clear ho hb hg hat))
       go_roundg k2
       case measure => have := HK1.out; have := HK2.out; omega
       case rel => exact ⟨(y492), (wrap64 (x13_2 + 1)), tZB, H', ⟨by have := HK1.out; have := HK2.out; omega⟩, ⟨by (with_reducible repeat (first | apply Kd.S_alloc | apply Kd.S_drewN | apply Kd.S_drew)); exact Kd.S_mono HO_10.out (fun _ hk => hk.2)⟩, ⟨lZR HO494.out⟩, ⟨bZ⟩⟩
      rw [if_neg c11] at H; have c11b0 : (x11_1 == x13_2) = false := beq_eq_false_iff_ne.mpr c11; have c11b1 : (x11_1 != x13_2) = true := bne_iff_ne.mpr c11
      by_cases c14 : 0 ≤ x11_1
      rotate_left
      ·rw [if_neg c14] at H; exact absurd H (by simp)
      rw [if_pos c14] at H; have c14b0 := decide_eq_true c14; clear c14
      by_cases c15 : x11_1 < (l2.length : Int)
      rotate_left
      ·rw [if_neg c15] at H; exact absurd H (by simp)
      rw [if_pos c15] at H; have c15b0 := decide_eq_true c15; clear c15
      by_cases c16 : 0 ≤ x13_2
      rotate_left
      ·rw [if_neg c16] at H; exact absurd H (by simp)
      rw [if_pos c16] at H; have c16b0 := decide_eq_true c16; clear c16
      by_cases c17 : x13_2 < ((rd_L2 l2 x11_1).length : Int)
      rotate_left
      ·rw [if_neg c17] at H; exact absurd H (by simp)
      rw [if_pos c17] at H; have c17b0 := decide_eq_true c17; clear c17
      by_cases c18 : x12_2.length < 17592186044416
      rotate_left
      ·rw [if_neg c18] at H; exact absurd H (by simp)
      rw [if_pos c18] at H; have LMc18 := Aside0.mk c18; clear c18; obtain ⟨y497, hy497⟩ : ∃ y_ : List Int, y_ = (x12_2 ++ [wrap64 (-(rd (rd_L2 l2 x11_1) x13_2))]) := ⟨_, rfl⟩; replace H : (spec_l7Ends.l1 k2 a0 a1 l2 a3 x10_1 x11_1 y497 (wrap64 (x13_2 + 1))) = some (r1, r2) := by first | (rw [hy497]; with_reducible exact H) | (have H2_ := (Option.bind_some _ _).symm.trans H; rw [hy497]; with_reducible exact H2_) | (have H2_ := (Option.bind_some _ _).symm.trans H; with_reducible exact H2_) | with_reducible exact H | (rw [hy497]; exact H) | exact H
      have Ny497 := Aside0.mk hy497; clear hy497; have H' := Aside0.mk H; clear H; have p495 : 0 ≤ (x11_1 : Int) := of_decide_eq_true tZE; have q495 : x11_1 < (l2.length : Int) := of_decide_eq_true tZE; obtain ⟨ad495, A495_0, c495_0, e495, hx495_0, hl495_0, hi495_0⟩ := at_L2 HR2.out x11_1 p495 q495; have hz495_0 := hx495_0
      cases e495
      replace hx495_0 := cZ HB hx495_0; have HR495_0 := Aside0.mk hi495_0; have HC495_0 := Aside0.mk hl495_0; clear hi495_0 hl495_0; replace p495 := eq_true p495; replace q495 := eq_true q495; have p496 : 0 ≤ (x13_2 : Int) := of_decide_eq_true tZE; have q496 : x13_2 < ((rd_L2 l2 x11_1).length : Int) := of_decide_eq_true tZE; obtain ⟨ad496, e496, hx496_0⟩ := Kd.at_int HR495_0.out x13_2 p496 q496
      cases e496
      replace hx496_0 := cZ HB hx496_0; replace p496 := eq_true p496; replace q496 := eq_true q496
      go_wp2_with (first | ((with_reducible refine gate_builtin (b := .append) (xs := #[.tmp 37, .tmp 46]) rfl ?_); at_builtin; refine Kd.R_append (Kd.int .i64) (w0 := w) w.heap.size rfl (.tmp 37) (.tmp 46) 24 3 (.int .i64 0) 8 rfl Try.underlying24 info3 rfl (by decide) (by omega) u12 x12_2 (wrap64 (-(rd (rd_L2 l2 x11_1) x13_2))) [.int .i64 (wrap64 (-(rd (rd_L2 l2 x11_1) x13_2)))] (fun _ => True) (fun _ => False) rfl rfl ?aP (fun _ hk => hk.elim) ?aF ?aO ?aB ?aS ?aL ?_; (case aP => exact rfl); (case aB => exact (lZB HB.out)); (case aF => exact (fun _ _ => trivial)); (case aO => exact (lZR HO_12.out)); (case aS => exact (below_size (lZB HB.out))); (case aL => have := LMc18.out; omega); intro v498 w19 ho hb hg hat; rw [← Ny497.out] at ho; replace HO_10 := aZ (Kd.S_after (ok := (fun _ => True)) (by (with_reducible repeat (first | apply Kd.S_alloc | apply Kd.S_drewN | apply Kd.S_drew)); exact Kd.S_mono HO_10.out (fun _ hk => ⟨trivial, hk⟩)) hg hat); replace HB := aZ (hb); have HO499 := aZ (ho); clear HO_12; clear ho hb hg hat))
      go_roundg k2
      case measure => have := HK1.out; have := HK2.out; omega
      case rel => exact ⟨(y497), (wrap64 (x13_2 + 1)), tZB, H', ⟨by have := HK1.out; have := HK2.out; omega⟩, ⟨by (with_reducible repeat (first | apply Kd.S_alloc | apply Kd.S_drewN | apply Kd.S_drew)); exact Kd.S_mono HO_10.out (fun _ hk => hk.2)⟩, ⟨lZR HO499.out⟩, ⟨bZ⟩⟩
   rw [if_neg c7] at H; have c7b0 := decide_eq_false c7; clear c7; obtain ⟨y503, hy503⟩ : ∃ y_ : List Int, y_ = (([] : List Int)) := ⟨_, rfl⟩; replace H : (spec_l7Ends.l2 k1 a0 a1 l2 a3 x10_1 y503 a1) = some (r1, r2) := by first | (rw [hy503]; with_reducible exact H) | (have H2_ := (Option.bind_some _ _).symm.trans H; rw [hy503]; with_reducible exact H2_) | (have H2_ := (Option.bind_some _ _).symm.trans H; with_reducible exact H2_) | with_reducible exact H | (rw [hy503]; exact H) | exact H
   have Ny503 := Aside0.mk hy503; clear hy503; have H' := Aside0.mk H; clear H
   go_wp2_with (first | ((with_reducible refine gate_dst (N := 52) rfl ?_); refine Kd.R_lit (Kd.int .i64) _ 3 ?hg (N := 52) ?hd (xs := ([] : List Int)) (inner := []) (ok := fun _ => True) (okp := fun _ => True) ?hr ?hp (fun _ hk => hk) trivial (Below.refl _ _) (Nat.le_refl _) (by simp) ?_; (case hd => rfl); (case hg => rfl); (case hr => first | (go_simp; done) | (go_simp; rfl)); (case hp => exact (Reps.none _ _)); intro v504 w23 ho24 hb hg_ hnew_; clear hg_ hnew_; (first | rw [← Ny503.out] at ho24 | (simp only [Int.reduceToNat] at ho24; rw [← Ny503.out] at ho24)); replace HO_10 := aZ (Kd.S_elder' (lZS HO_10.out) (Kd.R_base ho24) hb); have HO505 := aZ (Kd.R_lower ho24 (below_size (lZB HB.out))); replace HB := aZ (below_step (lZB HB.out) hb); clear hb ho24))
   go_loopg [14, 15] k1 (fun kq v14 v15 w' => ∃ (x14_2 : List Int) (x15_2 : Int), v15 = .int .i64 x15_2 ∧ Aside0 (spec_l7Ends.l2 kq a0 a1 l2 a3 x10_1 x14_2 x15_2 = some (r1, r2)) ∧ Aside0 (kq ≤ k1) ∧ Aside0 (Kd.S (Kd.slice 3 (Kd.int .i64)) 24 w' w.heap.size (fun k_ => some k_ ≠ (v14 : Value).ownBlock) u10 x10_1) ∧ Aside0 (Kd.R (Kd.int .i64) 3 w' w.heap.size (fun _ => True) v14 x14_2) ∧ Aside0 (Below w.heap.size w w'))
   case atStart => exact ⟨(y503), (a1), tZB, H', ⟨Nat.le_refl _⟩, ⟨by (with_reducible repeat (first | apply Kd.S_alloc | apply Kd.S_drewN | apply Kd.S_drew)); exact Kd.S_mono HO_10.out (fun _ hk => hk.2)⟩, ⟨lZR HO505.out⟩, ⟨bZ⟩⟩
   case round =>
    clear H'; (try clear c7b0); obtain ⟨x14_2, x15_2, rfl, HA, HK2, HO_10, HO_14, HB⟩ := hrel
    cases gk with
    | zero => exact absurd HA.out (by simp [spec_l7Ends.l2])
    | succ k2 =>
     have H := HA.out; clear HA; simp only [spec_l7Ends.l2] at H
     by_cases c25 : x15_2 < a0
     rotate_left
     ·rw [if_neg c25] at H; have c25b0 := decide_eq_false c25; clear c25; replace H := Option.bind_eq_some_iff.mp H; obtain ⟨t506, A510, H⟩ := H; replace H : (some (x14_2, t506)) = some (r1, r2) := H; have A51 := Aside0.mk A510; clear A510; simp only [Option.some.injEq, Prod.mk.injEq] at H; obtain ⟨rfl, rfl⟩ := H; obtain ⟨Ao52, co52, eo52⟩ := Kd.S_slice HO_10.out; subst eo52
      go_wp2_with (first | ((with_reducible refine gate_callee (f := 76) rfl ?_); refine goesL_ (some 92) rfl rfl Try.func76 kZ rfl #[.slice Ao52 x10_1.length co52] rfl tZA ?_; (with_reducible refine (spec_l7Det.calls k2 _ _ x10_1 t506 _ ?side1 ?side2 A51.out).mono ?_); (case side1 => repeat (first | exact (Kd.S_reads' HO_10.out).2.2 | (with_reducible refine Kd.C_alloc ?_ _) | (with_reducible refine Kd.C_drewN ?_ _) | (with_reducible refine Kd.C_drew ?_))); (case side2 => exact (Kd.S_reads' HO_10.out).2.1); rintro e w53 ⟨rfl, hb⟩; refine ⟨_, rfl, ?_⟩; replace HO_10 := aZ (Kd.S_below (lZS HO_10.out) hb); replace HO_14 := aZ (Kd.R_below (lZR HO_14.out) hb); replace HB := aZ (below_step (lZB HB.out) hb); (try clear hb); (try clear hb2); (try clear hk); (try clear hi)))
      go_ret2; exact ⟨_, tZC, lZR HO_14.out, bZ⟩
     rw [if_pos c25] at H; have c25b0 := decide_eq_true c25; clear c25; obtain ⟨y507, hy507⟩ : ∃ y_ : List (List Int), y_ = (([] : List (List Int))) := ⟨_, rfl⟩; replace H : (spec_l7Ends.l3 k2 a0 a1 l2 a3 x10_1 x14_2 x15_2 y507 0) = some (r1, r2) := by first | (rw [hy507]; with_reducible exact H) | (have H2_ := (Option.bind_some _ _).symm.trans H; rw [hy507]; with_reducible exact H2_) | (have H2_ := (Option.bind_some _ _).symm.trans H; with_reducible exact H2_) | with_reducible exact H | (rw [hy507]; exact H) | exact H
     have Ny507 := Aside0.mk hy507; clear hy507; have H' := Aside0.mk H; clear H
     go_wp2_with (first | ((with_reducible refine gate_dst (N := 59) rfl ?_); refine Kd.S_lit (Kd.slice 3 (Kd.int .i64)) _ 24 ?hg (N := 59) ?hd (xs := ([] : List (List Int))) (inner := []) (ok := fun _ => True) (okp := fun _ => True) ?hr ?hp (fun _ hk => hk) trivial (Below.refl _ _) (Nat.le_refl _) (by simp) ?_; (case hd => rfl); (case hg => rfl); (case hr => first | (go_simp; done) | (go_simp; rfl)); (case hp => exact (Reps.none _ _)); intro v508 w26 ho27 hb hg_ hnew_; clear hg_ hnew_; (first | rw [← Ny507.out] at ho27 | (simp only [Int.reduceToNat] at ho27; rw [← Ny507.out] at ho27)); have HO509 := aZ (Kd.S_lower (Kd.S_new' (Kd.S_new' ho27 (Kd.S_lt (lZS HO_10.out))) (Kd.R_lt (lZR HO_14.out))) (below_size (lZB HB.out))); replace HO_10 := aZ (Kd.S_elder' (lZS HO_10.out) (Kd.S_base ho27) hb); replace HO_14 := aZ (Kd.R_below (lZR HO_14.out) hb); replace HB := aZ (below_step (lZB HB.out) hb); clear hb ho27))
     go_loopg [16, 17] k2 (fun kq v16 v17 w' => ∃ (x14_3 : List Int) (x16_3 : List (List Int)) (x17_3 : Int), v17 = .int .i64 x17_3 ∧ Aside0 (spec_l7Ends.l3 kq a0 a1 l2 a3 x10_1 x14_3 x15_2 x16_3 x17_3 = some (r1, r2)) ∧ Aside0 (kq ≤ k2) ∧ Aside0 (Kd.S (Kd.slice 3 (Kd.int .i64)) 24 w' w.heap.size (fun k_ => some k_ ≠ (u14 : Value).ownBlock ∧ some k_ ≠ (v16 : Value).ownBlock) u10 x10_1) ∧ Aside0 (Kd.R (Kd.int .i64) 3 w' w.heap.size (fun _ => True) u14 x14_3) ∧ Aside0 (Kd.S (Kd.slice 3 (Kd.int .i64)) 24 w' w.heap.size (fun k_ => some k_ ≠ (u10 : Value).ownBlock ∧ some k_ ≠ (u14 : Value).ownBlock) v16 x16_3) ∧ Aside0 (Below w.heap.size w w'))
     case atStart => exact ⟨(x14_2), (y507), (0), tZB, H', ⟨Nat.le_refl _⟩, ⟨lZS HO_10.out⟩, ⟨lZR HO_14.out⟩, ⟨by (with_reducible repeat (first | apply Kd.S_alloc | apply Kd.S_drewN | apply Kd.S_drew)); exact Kd.S_mono HO509.out (fun _ hk => ⟨hk.1.2, hk.2⟩)⟩, ⟨bZ⟩⟩
     case round =>
      clear H'; (try clear c7b0 c25b0); obtain ⟨x14_3, x16_3, x17_3, rfl, HA, HK3, HO_10, HO_14, HO_16, HB⟩ := hrel
      cases gk with
      | zero => exact absurd HA.out (by simp [spec_l7Ends.l3])
      | succ k3 =>
       have H := HA.out; clear HA; simp only [spec_l7Ends.l3] at H
       by_cases c28 : x17_3 < a1
       rotate_left
       ·rw [if_neg c28] at H; have c28b0 := decide_eq_false c28; clear c28; replace H := Option.bind_eq_some_iff.mp H; obtain ⟨t523, A460, H⟩ := H; replace H : (if x14_3.length < 17592186044416 then (spec_l7Ends.l2 k3 a0 a1 l2 a3 x10_1 (x14_3 ++ [t523]) (wrap64 (x15_2 + 1))) else (none)) = some (r1, r2) := H; have A46 := Aside0.mk A460; clear A460
        by_cases c47 : x14_3.length < 17592186044416
        rotate_left
        ·rw [if_neg c47] at H; exact absurd H (by simp)
        rw [if_pos c47] at H; have LMc47 := Aside0.mk c47; clear c47; obtain ⟨y524, hy524⟩ : ∃ y_ : List Int, y_ = (x14_3 ++ [t523]) := ⟨_, rfl⟩; replace H : (spec_l7Ends.l2 k3 a0 a1 l2 a3 x10_1 y524 (wrap64 (x15_2 + 1))) = some (r1, r2) := by first | (rw [hy524]; with_reducible exact H) | (have H2_ := (Option.bind_some _ _).symm.trans H; rw [hy524]; with_reducible exact H2_) | (have H2_ := (Option.bind_some _ _).symm.trans H; with_reducible exact H2_) | with_reducible exact H | (rw [hy524]; exact H) | exact H
        have Ny524 := Aside0.mk hy524; clear hy524; have H' := Aside0.mk H; clear H; obtain ⟨Ao48, co48, eo48⟩ := Kd.S_slice HO_16.out; subst eo48
        go_wp2_with (first | ((with_reducible refine gate_callee (f := 76) rfl ?_); refine goesL_ (some 87) rfl rfl Try.func76 kZ rfl #[.slice Ao48 x16_3.length co48] rfl tZA ?_; (with_reducible refine (spec_l7Det.calls k3 _ _ x16_3 t523 _ ?side1 ?side2 A46.out).mono ?_); (case side1 => repeat (first | exact (Kd.S_reads' HO_16.out).2.2 | (with_reducible refine Kd.C_alloc ?_ _) | (with_reducible refine Kd.C_drewN ?_ _) | (with_reducible refine Kd.C_drew ?_))); (case side2 => exact (Kd.S_reads' HO_16.out).2.1); rintro e w49 ⟨rfl, hb⟩; refine ⟨_, rfl, ?_⟩; replace HO_10 := aZ (Kd.S_below (lZS HO_10.out) hb); replace HO_14 := aZ (Kd.R_below (lZR HO_14.out) hb); replace HO_16 := aZ (Kd.S_below (lZS HO_16.out) hb); replace HB := aZ (below_step (lZB HB.out) hb); (try clear hb); (try clear hb2); (try clear hk); (try clear hi)) | ((with_reducible refine gate_builtin (b := .append) (xs := #[.tmp 85, .tmp 88]) rfl ?_); at_builtin; refine Kd.R_append (Kd.int .i64) (w0 := w) w.heap.size rfl (.tmp 85) (.tmp 88) 24 3 (.int .i64 0) 8 rfl Try.underlying24 info3 rfl (by decide) (by omega) u14 x14_3 t523 [.int .i64 t523] (fun _ => True) (fun _ => False) rfl rfl ?aP (fun _ hk => hk.elim) ?aF ?aO ?aB ?aS ?aL ?_; (case aP => exact rfl); (case aB => exact (lZB HB.out)); (case aF => exact (fun _ _ => trivial)); (case aO => exact (lZR HO_14.out)); (case aS => exact (below_size (lZB HB.out))); (case aL => have := LMc47.out; omega); intro v525 w50 ho hb hg hat; rw [← Ny524.out] at ho; replace HO_10 := aZ (Kd.S_after (ok := (fun k_ => some k_ ≠ (.slice Ao48 x16_3.length co48 : Value).ownBlock)) (by (with_reducible repeat (first | apply Kd.S_alloc | apply Kd.S_drewN | apply Kd.S_drew)); exact Kd.S_mono HO_10.out (fun _ hk => ⟨hk.2, hk.1⟩)) hg hat); replace HO_16 := aZ (Kd.S_after (ok := (fun k_ => some k_ ≠ (u10 : Value).ownBlock)) (lZS HO_16.out) hg hat); replace HB := aZ (hb); have HO526 := aZ (ho); clear HO_14; clear ho hb hg hat))
        go_roundg k3
        case measure => have := HK1.out; have := HK2.out; have := HK3.out; omega
        case rel => exact ⟨(y524), (wrap64 (x15_2 + 1)), tZB, H', ⟨by have := HK1.out; have := HK2.out; have := HK3.out; omega⟩, ⟨by (with_reducible repeat (first | apply Kd.S_alloc | apply Kd.S_drewN | apply Kd.S_drew)); exact Kd.S_mono HO_10.out (fun _ hk => hk.2)⟩, ⟨lZR HO526.out⟩, ⟨bZ⟩⟩
       rw [if_pos c28] at H; have c28b0 := decide_eq_true c28; clear c28; obtain ⟨y510, hy510⟩ : ∃ y_ : List Int, y_ = (([] : List Int)) := ⟨_, rfl⟩
       replace H : (if 0 ≤ x17_3 then (if x17_3 < (x10_1.length : Int) then (if y510.length + (rd_L2 x10_1 x17_3).length < 17592186044416 then ((some (y510 ++ (rd_L2 x10_1 x17_3) : List Int)).bind fun y514 => (if x17_3 < (l2.length : Int) then (if 0 ≤ x15_2 then (if x15_2 < ((rd_L2 l2 x17_3).length : Int) then (if 0 ≤ a3 then (if a3 < (y514.length : Int) then (if x16_3.length < 5864062014805 then (spec_l7Ends.l3 k3 a0 a1 l2 a3 x10_1 x14_3 x15_2 (x16_3 ++ [(y514.set (a3 : Int).toNat (rd (rd_L2 l2 x17_3) x15_2))]) (wrap64 (x17_3 + 1))) else (none)) else (none)) else (none)) else (none)) else (none)) else (none))) else (none)) else (none)) else (none)) = some (r1, r2) := by first | (rw [hy510]; with_reducible exact H) | (have H2_ := (Option.bind_some _ _).symm.trans H; rw [hy510]; with_reducible exact H2_) | (have H2_ := (Option.bind_some _ _).symm.trans H; with_reducible exact H2_) | with_reducible exact H | (rw [hy510]; exact H) | exact H
       have Ny510 := Aside0.mk hy510; clear hy510
       by_cases c29 : 0 ≤ x17_3
       rotate_left
       ·rw [if_neg c29] at H; exact absurd H (by simp)
       rw [if_pos c29] at H; have c29b0 := decide_eq_true c29; clear c29
       by_cases c30 : x17_3 < (x10_1.length : Int)
       rotate_left
       ·rw [if_neg c30] at H; exact absurd H (by simp)
       rw [if_pos c30] at H; have c30b0 := decide_eq_true c30; clear c30
       by_cases c31 : y510.length + (rd_L2 x10_1 x17_3).length < 17592186044416
       rotate_left
       ·rw [if_neg c31] at H; exact absurd H (by simp)
       rw [if_pos c31] at H; have LMc31 := Aside0.mk c31; clear c31; obtain ⟨y514, hy514⟩ : ∃ y_ : List Int, y_ = (y510 ++ (rd_L2 x10_1 x17_3)) := ⟨_, rfl⟩; replace H : (if x17_3 < (l2.length : Int) then (if 0 ≤ x15_2 then (if x15_2 < ((rd_L2 l2 x17_3).length : Int) then (if 0 ≤ a3 then (if a3 < (y514.length : Int) then (if x16_3.length < 5864062014805 then (spec_l7Ends.l3 k3 a0 a1 l2 a3 x10_1 x14_3 x15_2 (x16_3 ++ [(y514.set (a3 : Int).toNat (rd (rd_L2 l2 x17_3) x15_2))]) (wrap64 (x17_3 + 1))) else (none)) else (none)) else (none)) else (none)) else (none)) else (none)) = some (r1, r2) := by first | (rw [hy514]; with_reducible exact H) | (have H2_ := (Option.bind_some _ _).symm.trans H; rw [hy514]; with_reducible exact H2_) | (have H2_ := (Option.bind_some _ _).symm.trans H; with_reducible exact H2_) | with_reducible exact H | (rw [hy514]; exact H) | exact H
       have Ny514 := Aside0.mk hy514; clear hy514
       by_cases c32 : x17_3 < (l2.length : Int)
       rotate_left
       ·rw [if_neg c32] at H; exact absurd H (by simp)
       rw [if_pos c32] at H; have c32b0 := decide_eq_true c32; clear c32
       by_cases c33 : 0 ≤ x15_2
       rotate_left
       ·rw [if_neg c33] at H; exact absurd H (by simp)
       rw [if_pos c33] at H; have c33b0 := decide_eq_true c33; clear c33
       by_cases c34 : x15_2 < ((rd_L2 l2 x17_3).length : Int)
       rotate_left
       ·rw [if_neg c34] at H; exact absurd H (by simp)
       rw [if_pos c34] at H; have c34b0 := decide_eq_true c34; clear c34
       by_cases c35 : 0 ≤ a3
       rotate_left
       ·rw [if_neg c35] at H; exact absurd H (by simp)
       rw [if_pos c35] at H; have c35b0 := decide_eq_true c35; clear c35
       by_cases c36 : a3 < (y514.length : Int)
       rotate_left
       ·rw [if_neg c36] at H; exact absurd H (by simp)
       rw [if_pos c36] at H; have c36b0 := decide_eq_true c36; clear c36; obtain ⟨y519, hy519⟩ : ∃ y_ : List Int, y_ = (y514.set (a3 : Int).toNat (rd (rd_L2 l2 x17_3) x15_2)) := ⟨_, rfl⟩; replace H : (if x16_3.length < 5864062014805 then (spec_l7Ends.l3 k3 a0 a1 l2 a3 x10_1 x14_3 x15_2 (x16_3 ++ [y519]) (wrap64 (x17_3 + 1))) else (none)) = some (r1, r2) := by first | (rw [hy519]; with_reducible exact H) | (have H2_ := (Option.bind_some _ _).symm.trans H; rw [hy519]; with_reducible exact H2_) | (have H2_ := (Option.bind_some _ _).symm.trans H; with_reducible exact H2_) | with_reducible exact H | (rw [hy519]; exact H) | exact H
       have Ny519 := Aside0.mk hy519; clear hy519
       by_cases c38 : x16_3.length < 5864062014805
       rotate_left
       ·rw [if_neg c38] at H; exact absurd H (by simp)
       rw [if_pos c38] at H; have LMc38 := Aside0.mk c38; clear c38; obtain ⟨y520, hy520⟩ : ∃ y_ : List (List Int), y_ = (x16_3 ++ [y519]) := ⟨_, rfl⟩; replace H : (spec_l7Ends.l3 k3 a0 a1 l2 a3 x10_1 x14_3 x15_2 y520 (wrap64 (x17_3 + 1))) = some (r1, r2) := by first | (rw [hy520]; with_reducible exact H) | (have H2_ := (Option.bind_some _ _).symm.trans H; rw [hy520]; with_reducible exact H2_) | (have H2_ := (Option.bind_some _ _).symm.trans H; with_reducible exact H2_) | with_reducible exact H | (rw [hy520]; exact H) | exact H
       have Ny520 := Aside0.mk hy520; clear hy520; have H' := Aside0.mk H; clear H
       go_wp2_with (first | ((with_reducible refine gate_dst (N := 65) rfl ?_); refine Kd.R_lit (Kd.int .i64) _ 3 ?hg (N := 65) ?hd (xs := ([] : List Int)) (inner := []) (ok := fun _ => True) (okp := fun _ => True) ?hr ?hp (fun _ hk => hk) trivial (Below.refl _ _) (Nat.le_refl _) (by simp) ?_; (case hd => rfl); (case hg => rfl); (case hr => first | (go_simp; done) | (go_simp; rfl)); (case hp => exact (Reps.none _ _)); intro v511 w39 ho40 hb hg_ hnew_; clear hg_ hnew_; (first | rw [← Ny510.out] at ho40 | (simp only [Int.reduceToNat] at ho40; rw [← Ny510.out] at ho40)); replace HO_10 := aZ (Kd.S_elder' (lZS HO_10.out) (Kd.R_base ho40) hb); replace HO_16 := aZ (Kd.S_elder' (lZS HO_16.out) (Kd.R_base ho40) hb); have HO512 := aZ (Kd.R_lower (Kd.R_new' ho40 (Kd.R_lt (lZR HO_14.out))) (below_size (lZB HB.out))); replace HO_14 := aZ (Kd.R_elder' (lZR HO_14.out) (Kd.R_base ho40) hb); replace HB := aZ (below_step (lZB HB.out) hb); clear hb ho40; obtain ⟨Ao41, co41, eo41⟩ := Kd.S_slice HO_10.out; subst eo41; have p513 : 0 ≤ (x17_3 : Int) := of_decide_eq_true tZE; have q513 : x17_3 < (x10_1.length : Int) := of_decide_eq_true tZE; obtain ⟨ad513, A513_0, c513_0, e513, hx513_0, hl513_0, hi513_0⟩ := at_L2 (Kd.S_reads' HO_10.out).2.2 x17_3 p513 q513; cases e513; obtain ⟨ce513, hce513, hMe513, hcc513⟩ := Kd.S_get HO_10.out [] x17_3 p513 (by first | exact q513 | exact of_decide_eq_true tZE | (have e_ := (Kd.S_reads' HO_10.out).1; omega)); obtain ⟨ve513_0, rfl, ge513_0⟩ := hMe513; have hv513_0 := hcc513 0 _ rfl; rw [Nat.add_zero, show ((Kd.slice 3 (Kd.int .i64))).sz = 1 from rfl, Nat.mul_one] at hv513_0; replace hv513_0 := Option.some.inj (hv513_0.symm.trans hx513_0); rw [hv513_0] at ge513_0; have HL513_0 := aZ (show Kd.R (Kd.int .i64) 3 _ _ _ _ (rd_L2 x10_1 x17_3) from ge513_0); clear hv513_0 ge513_0; clear hcc513 hce513; have HR513_0 := Aside0.mk hi513_0; have HC513_0 := Aside0.mk hl513_0; clear hi513_0 hl513_0; replace p513 := eq_true p513; replace q513 := eq_true q513) | ((with_reducible refine gate_builtin (b := .append) (xs := #[.tmp 65, .tmp 69]) rfl ?_); at_builtin; refine Kd.R_append_rows (Kd.int .i64) (w0 := w) w.heap.size rfl (.tmp 65) (.tmp 69) 24 3 (.int .i64 0) 8 rfl Try.underlying24 info3 rfl (by decide) (by omega) v511 y510 (rd_L2 x10_1 x17_3) _ _ _ (fun k_ => some k_ ≠ (u14 : Value).ownBlock) (fun _ => False) rfl rfl ?aO ?aR (fun _ _ h => h) (fun _ h => h.elim) ?aF ?aB ?aS ?aL ?_; (case aR => repeat (first | exact (by repeat (first | (with_reducible exact HR513_0.out) | (with_reducible refine Kd.C_alloc ?_ _) | (with_reducible refine Kd.C_drewN ?_ _) | (with_reducible refine Kd.C_drew ?_) | exact HR513_0.out)) | (with_reducible refine Kd.C_alloc ?_ _) | (with_reducible refine Kd.C_drewN ?_ _) | (with_reducible refine Kd.C_drew ?_))); (case aB => exact (lZB HB.out)); (case aF => exact (fun k_ hk => Kd.fresh' (Kd.R_lt (lZR HO_14.out)) k_ hk)); (case aO => exact (by (with_reducible repeat (first | apply Kd.R_alloc | apply Kd.R_drewN | apply Kd.R_drew)); exact Kd.R_mono HO512.out (fun _ hk => hk.2))); (case aS => exact (below_size (lZB HB.out))); (case aL => have := LMc31.out; omega); intro v515 w42 ho hb hg hat; rw [← Ny514.out] at ho; replace HO_10 := aZ (Kd.S_after (ok := (fun k_ => some k_ ≠ (u14 : Value).ownBlock ∧ some k_ ≠ (u16 : Value).ownBlock)) (lZS HO_10.out) hg hat); replace HO_14 := aZ (Kd.R_after (ok := (fun _ => True)) (lZR HO_14.out) hg hat); replace HO_16 := aZ (Kd.S_after (ok := (fun k_ => some k_ ≠ (.slice (some ad513) x10_1.length co41 : Value).ownBlock ∧ some k_ ≠ (u14 : Value).ownBlock)) (lZS HO_16.out) hg hat); replace HL513_0 := aZ (Kd.R_after (ok := (fun k_ => some k_ ≠ (.slice (some ad513) x10_1.length co41 : Value).ownBlock ∧ some k_ ≠ (u14 : Value).ownBlock ∧ some k_ ≠ (u16 : Value).ownBlock)) (by (with_reducible repeat (first | apply Kd.R_alloc | apply Kd.R_drewN | apply Kd.R_drew)); exact Kd.R_mono HL513_0.out (fun _ hk => ⟨⟨hk.2, ⟨hk.1.1.1, hk.1.1.2⟩⟩, hk.1.2⟩)) hg hat); replace HB := aZ (hb); have HO516 := aZ (ho); clear HO512; clear ho hb hg hat; have p517 : 0 ≤ (x17_3 : Int) := of_decide_eq_true tZE; have q517 : x17_3 < (l2.length : Int) := of_decide_eq_true tZE; obtain ⟨ad517, A517_0, c517_0, e517, hx517_0, hl517_0, hi517_0⟩ := at_L2 HR2.out x17_3 p517 q517; have hz517_0 := hx517_0; cases e517; replace hx517_0 := cZ HB hx517_0; have HR517_0 := Aside0.mk hi517_0; have HC517_0 := Aside0.mk hl517_0; clear hi517_0 hl517_0; replace p517 := eq_true p517; replace q517 := eq_true q517; have p518 : 0 ≤ (x15_2 : Int) := of_decide_eq_true tZE; have q518 : x15_2 < ((rd_L2 l2 x17_3).length : Int) := of_decide_eq_true tZE; obtain ⟨ad518, e518, hx518_0⟩ := Kd.at_int HR517_0.out x15_2 p518 q518; cases e518; replace hx518_0 := cZ HB hx518_0; replace p518 := eq_true p518; replace q518 := eq_true q518; have p37 : 0 ≤ (a3 : Int) := of_decide_eq_true tZE; have q37 : (a3 : Int) < ((y514.length : Int) : Int) := of_decide_eq_true tZE; obtain ⟨go37, co37, eo37, gb37, gl37, cl37, HG37⟩ := Kd.R_form HO516.out (by omega); (first | cases eo37 | (injection eo37 with ea_ en_ ec_; (first | subst ea_ | (injection ea_ with ea_; subst ea_)); subst ec_; clear en_)); have GB37 := Aside0.mk gb37; have GG37 := Aside0.mk HG37; clear gb37 gl37 HG37; obtain ⟨hx37_0, hf37_0⟩ := Kd.R_celln 0 HO516.out (a3 : Int) p37 q37; replace p37 := eq_true p37; replace q37 := eq_true q37; obtain ⟨hy43_, hz43_⟩ := Kd.R_celln 0 HO516.out (a3 : Int) (of_decide_eq_true tZE) (of_decide_eq_true tZE); have HP43 := Kd.R_putg HO516.out (a3 : Int) (rd (rd_L2 l2 x17_3) x15_2)) | ((with_reducible refine gate_store (t := 3) (p := 80) rfl ?_); refine store_event (t := 3) (p := 80) (v := ?vo_w44) (w1 := (w42.setCell ⟨go37, (a3 : Int).toNat, none⟩ (.int .i64 (rd (rd_L2 l2 x17_3) x15_2)))) ?hg ?ho ?hn ?hr ?_; (case ho => rfl); (case hg => rfl); (case hn => rfl); (case hr => first | (go_simp; done) | (go_simp; rfl)); intro w44 hw; have hg : w42.grownBy w44 (some go37) := (by rw [hw]; exact HP43.2); have hp_ : Kd.R (Kd.int .i64) 3 w44 w.heap.size (fun k_ => some k_ ≠ (u14 : Value).ownBlock) (.slice (some ⟨go37, 0, none⟩) y514.length co37) y519 := (by rw [hw, Ny519.out]; exact HP43.1); clear HP43; replace HO_10 := aZ (Kd.S_after (v := (.slice (some ⟨go37, 0, none⟩) y514.length co37)) (v1 := (.slice (some ⟨go37, 0, none⟩) y514.length co37)) (ok := (fun k_ => some k_ ≠ (u14 : Value).ownBlock ∧ some k_ ≠ (u16 : Value).ownBlock)) (lZS HO_10.out) hg (.inl rfl)); replace HO_14 := aZ (Kd.R_after (v := (.slice (some ⟨go37, 0, none⟩) y514.length co37)) (v1 := (.slice (some ⟨go37, 0, none⟩) y514.length co37)) (ok := (fun _ => True)) (lZR HO_14.out) hg (.inl rfl)); replace HO_16 := aZ (Kd.S_after (v := (.slice (some ⟨go37, 0, none⟩) y514.length co37)) (v1 := (.slice (some ⟨go37, 0, none⟩) y514.length co37)) (ok := (fun k_ => some k_ ≠ (.slice (some ad513) x10_1.length co41 : Value).ownBlock ∧ some k_ ≠ (u14 : Value).ownBlock)) (lZS HO_16.out) hg (.inl rfl)); replace HL513_0 := aZ (Kd.R_after (v := (.slice (some ⟨go37, 0, none⟩) y514.length co37)) (v1 := (.slice (some ⟨go37, 0, none⟩) y514.length co37)) (ok := (fun k_ => some k_ ≠ (.slice (some ad513) x10_1.length co41 : Value).ownBlock ∧ some k_ ≠ (u14 : Value).ownBlock ∧ some k_ ≠ (u16 : Value).ownBlock)) (lZR HL513_0.out) hg (.inl rfl)); replace HO516 := aZ (hp_); replace HB := aZ ((by rw [hw]; exact below_set (HB.out) GB37.out : Below w.heap.size w w44)); clear hg hw hp_) | ((with_reducible refine gate_builtin (b := .append) (xs := #[.tmp 81, .tmp 83]) rfl ?_); at_builtin; refine Kd.S_append (Kd.slice 3 (Kd.int .i64)) (w0 := w) w.heap.size rfl (.tmp 81) (.tmp 83) 25 24 (.slice none 0 0) 24 rfl Try.underlying25 info24 rfl (by decide) (by omega) u16 x16_3 y519 [.slice (some ⟨go37, 0, none⟩) y514.length co37] (fun k_ => some k_ ≠ (.slice (some ad513) x10_1.length co41 : Value).ownBlock ∧ some k_ ≠ (u14 : Value).ownBlock) (fun k_ => some k_ = (.slice (some ⟨go37, 0, none⟩) y514.length co37 : Value).ownBlock) rfl rfl ?aP (fun k_ hk_ => ((Kd.R_mono (ok' := fun k_ => ((fun k_ => some k_ ≠ (.slice (some ad513) x10_1.length co41 : Value).ownBlock ∧ some k_ ≠ (u14 : Value).ownBlock)) k_ ∧ some k_ ≠ (u16 : Value).ownBlock) (Kd.R_apart' (Kd.R_apart' (HO516.out) (Kd.S_typed HO_10.out) (by decide)) (Kd.S_typed HO_16.out) (by decide)) (fun k_ hk => ⟨⟨hk.1.2, hk.1.1⟩, hk.2⟩))).1 k_ hk_.symm) ?aF ?aO ?aB ?aS ?aL ?_; (case aP => exact Kd.M_row (Kd.R_mono (Kd.R_tight rfl (Kd.R_mono (ok' := fun k_ => ((fun k_ => some k_ ≠ (.slice (some ad513) x10_1.length co41 : Value).ownBlock ∧ some k_ ≠ (u14 : Value).ownBlock)) k_ ∧ some k_ ≠ (u16 : Value).ownBlock) (Kd.R_apart' (Kd.R_apart' (HO516.out) (Kd.S_typed HO_10.out) (by decide)) (Kd.S_typed HO_16.out) (by decide)) (fun k_ hk => ⟨⟨hk.1.2, hk.1.1⟩, hk.2⟩))) (fun _ h_ => h_))); (case aB => exact (lZB HB.out)); (case aF => exact (fun k_ hk => ⟨Kd.fresh' (Kd.S_lt (lZS HO_10.out)) k_ hk, Kd.fresh' (Kd.R_lt (lZR HO_14.out)) k_ hk⟩)); (case aO => exact (by (with_reducible repeat (first | apply Kd.S_alloc | apply Kd.S_drewN | apply Kd.S_drew)); exact Kd.S_mono HO_16.out (fun k_ hk => ⟨⟨hk.1.1, hk.1.2⟩, fun e_ => hk.2 e_⟩))); (case aS => exact (below_size (lZB HB.out))); (case aL => have := LMc38.out; omega); intro v521 w45 ho hb hg hat; rw [← Ny520.out] at ho; replace HO_10 := aZ (Kd.S_after (ok := (fun k_ => some k_ ≠ (u14 : Value).ownBlock ∧ some k_ ≠ (.slice (some ⟨go37, 0, none⟩) y514.length co37 : Value).ownBlock)) (by (with_reducible repeat (first | apply Kd.S_alloc | apply Kd.S_drewN | apply Kd.S_drew)); exact Kd.S_mono HO_10.out (fun _ hk => ⟨⟨hk.1.1, hk.2⟩, hk.1.2⟩)) hg hat); replace HO_14 := aZ (Kd.R_over' (lZR HO_14.out) (Kd.S_typed (lZS HO_16.out)) (by decide) hg); replace HL513_0 := aZ (Kd.R_after (ok := (fun k_ => some k_ ≠ (.slice (some ad513) x10_1.length co41 : Value).ownBlock ∧ some k_ ≠ (u14 : Value).ownBlock ∧ some k_ ≠ (.slice (some ⟨go37, 0, none⟩) y514.length co37 : Value).ownBlock)) (by (with_reducible repeat (first | apply Kd.R_alloc | apply Kd.R_drewN | apply Kd.R_drew)); exact Kd.R_mono HL513_0.out (fun _ hk => ⟨⟨hk.1.1, ⟨hk.1.2.1, hk.2⟩⟩, hk.1.2.2⟩)) hg hat); replace HB := aZ (hb); have HO522 := aZ (ho); clear HO_16 HO516; clear ho hb hg hat))
       go_roundg k3
       case measure => have := HK1.out; have := HK2.out; have := HK3.out; omega
       case rel => exact ⟨(x14_3), (y520), (wrap64 (x17_3 + 1)), tZB, H', ⟨by have := HK1.out; have := HK2.out; have := HK3.out; omega⟩, ⟨by (with_reducible repeat (first | apply Kd.S_alloc | apply Kd.S_drewN | apply Kd.S_drew)); exact Kd.S_mono HO_10.out (fun _ hk => ⟨hk.1.1, hk.2⟩)⟩, ⟨by (with_reducible repeat (first | apply Kd.R_alloc | apply Kd.R_drewN | apply Kd.R_drew)); exact Kd.R_mono HO_14.out (fun _ hk => trivial)⟩, ⟨lZS HO522.out⟩, ⟨bZ⟩⟩
mutual
def spec_l7Parts.j0 : Nat → List Int → Int → List (List Int) → List (List Int) → Bool → Option ((List (List Int)) × Bool)
  | 0, _, _, _, _, _ => none
  | k + 1, x0, x1, x2, x8, x23 => if x23 = true then (some (x8, false)) else (spec_l7Parts.l0 k x0 x1 x2 x8 0)
def spec_l7Parts.l0 : Nat → List Int → Int → List (List Int) → List (List Int) → Int → Option ((List (List Int)) × Bool)
  | 0, _, _, _, _, _ => none
  | k + 1, x0, x1, x2, x8, x9 => if x9 < x1 then ((spec_l7Ends.f k (x0.length : Int) x1 x2 x9).bind fun bt532 => (if bt532.2 = 0 then (some ((([] : List (List Int))), false)) else (if 0 ≤ x9 then (if x9 < (x0.length : Int) then ((spec_Shares.f k (rd x0 x9) bt532.1).bind fun t540 => (if x8.length < 5864062014805 then (spec_l7Parts.l0 k x0 x1 x2 (x8 ++ [t540]) (wrap64 (x9 + 1))) else (none))) else (none)) else (none)))) else (some (x8, true))
end
def spec_l7Parts.f (k : Nat) (l0 : List Int) (a1 : Int) (l2 : List (List Int)) : Option ((List (List Int)) × Bool) := (some (([] : List (List Int)) : List (List Int))).bind fun y527 => ((spec_l7Costs.f k l0).bind fun t530 => (if t530 = true then ((spec_l7Shares.f k (l0.length : Int) a1 l2).bind fun t531 => (spec_l7Parts.j0 k l0 a1 l2 y527 (!t531))) else (spec_l7Parts.j0 k l0 a1 l2 y527 true)))
theorem spec_l7Parts.mono_l : ∀ k, (∀ y0 y1 y2 y3 y4, LeO (spec_l7Parts.j0 k y0 y1 y2 y3 y4) (spec_l7Parts.j0 (k + 1) y0 y1 y2 y3 y4)) ∧ (∀ y0 y1 y2 y3 y4, LeO (spec_l7Parts.l0 k y0 y1 y2 y3 y4) (spec_l7Parts.l0 (k + 1) y0 y1 y2 y3 y4))
  | 0 => ⟨fun _ _ _ _ _ r h => by simp [spec_l7Parts.j0] at h, fun _ _ _ _ _ r h => by simp [spec_l7Parts.l0] at h⟩
  | k + 1 => by
    obtain ⟨ih0, ih1⟩ := spec_l7Parts.mono_l k
    refine ⟨?_, ?_⟩
    · intro y0 y1 y2 y3 y4
      unfold spec_l7Parts.j0
      repeat' first
      | (with_reducible exact ih0 _ _ _ _ _)
      | (with_reducible exact ih1 _ _ _ _ _)
      | (with_reducible exact spec_Shares.mono _ _ _)
      | (with_reducible exact spec_l7Costs.mono _ _)
      | (with_reducible exact spec_l7Ends.mono _ _ _ _ _)
      | (with_reducible exact spec_l7Shares.mono _ _ _ _)
      | (with_reducible exact LeO.refl _)
      | (with_reducible exact LeO.none _)
      | (with_reducible refine LeO.ite ?_ ?_)
      | (with_reducible refine LeO.bind ?_ (fun _ => ?_))
      | exact ih0 _ _ _ _ _
      | exact ih1 _ _ _ _ _
      | exact spec_Shares.mono _ _ _
      | exact spec_l7Costs.mono _ _
      | exact spec_l7Ends.mono _ _ _ _ _
      | exact spec_l7Shares.mono _ _ _ _
      | exact LeO.none _
      | refine LeO.ite ?_ ?_
      | refine LeO.bind ?_ (fun _ => ?_)
    · intro y0 y1 y2 y3 y4
      unfold spec_l7Parts.l0
      repeat' first
      | (with_reducible exact ih0 _ _ _ _ _)
      | (with_reducible exact ih1 _ _ _ _ _)
      | (with_reducible exact spec_Shares.mono _ _ _)
      | (with_reducible exact spec_l7Costs.mono _ _)
      | (with_reducible exact spec_l7Ends.mono _ _ _ _ _)
      | (with_reducible exact spec_l7Shares.mono _ _ _ _)
      | (with_reducible exact LeO.refl _)
      | (with_reducible exact LeO.none _)
      | (with_reducible refine LeO.ite ?_ ?_)
      | (with_reducible refine LeO.bind ?_ (fun _ => ?_))
      | exact ih0 _ _ _ _ _
      | exact ih1 _ _ _ _ _
      | exact spec_Shares.mono _ _ _
      | exact spec_l7Costs.mono _ _
      | exact spec_l7Ends.mono _ _ _ _ _
      | exact spec_l7Shares.mono _ _ _ _
      | exact LeO.none _
      | refine LeO.ite ?_ ?_
      | refine LeO.bind ?_ (fun _ => ?_)
theorem spec_l7Parts.mono : ∀ a0 a1 a2 k, LeO (spec_l7Parts.f k a0 a1 a2) (spec_l7Parts.f (k + 1) a0 a1 a2) := by
 intro a0 a1 a2 k
 obtain ⟨ih0, ih1⟩ := spec_l7Parts.mono_l k
 unfold spec_l7Parts.f
 repeat' first
     | (with_reducible exact ih0 _ _ _ _ _)
     | (with_reducible exact ih1 _ _ _ _ _)
     | (with_reducible exact spec_Shares.mono _ _ _)
     | (with_reducible exact spec_l7Costs.mono _ _)
     | (with_reducible exact spec_l7Ends.mono _ _ _ _ _)
     | (with_reducible exact spec_l7Shares.mono _ _ _ _)
     | (with_reducible exact LeO.refl _)
     | (with_reducible exact LeO.none _)
     | (with_reducible refine LeO.ite ?_ ?_)
     | (with_reducible refine LeO.bind ?_ (fun _ => ?_))
     | exact ih0 _ _ _ _ _
     | exact ih1 _ _ _ _ _
     | exact spec_Shares.mono _ _ _
     | exact spec_l7Costs.mono _ _
     | exact spec_l7Ends.mono _ _ _ _ _
     | exact spec_l7Shares.mono _ _ _ _
     | exact LeO.none _
     | refine LeO.ite ?_ ?_
     | refine LeO.bind ?_ (fun _ => ?_)
set_option maxHeartbeats 8000000 in
set_option maxRecDepth 100000 in
theorem spec_l7Parts.calls (k : Nat) (A0 : Option Addr) (c0 : Nat) (l0 : List Int) (a1 : Int) (A2 : Option Addr) (c2 : Nat) (l2 : List (List Int)) (r1 : List (List Int)) (r2 : Bool) (w : World) (hr0 : Kd.C (Kd.int .i64) w A0 l0.length l0) (hc0 : l0.length ≤ c0) (hr2 : Kd.C (Kd.slice 3 (Kd.int .i64)) w A2 l2.length l2) (hc2 : l2.length ≤ c2) (h : spec_l7Parts.f k l0 a1 l2 = some (r1, r2)) :
    Calls Try.prog 29 #[.slice A0 l0.length c0, .int .i64 a1, .slice A2 l2.length c2] w fun e w' => ∃ v0_ : Value, e = .returned (.tuple #[v0_, .bool r2]) ∧ Kd.S (Kd.slice 3 (Kd.int .i64)) 24 w' w.heap.size (fun _ => True) v0_ r1 ∧ Below w.heap.size w w' := by
 have HR0 := Aside0.mk hr0; have HC0 := Aside0.mk hc0; clear hr0 hc0; have HR2 := Aside0.mk hr2; have HC2 := Aside0.mk hc2; clear hr2 hc2; have HB := aZ (Below.refl w.heap.size w); have H : ((some (([] : List (List Int)) : List (List Int))).bind fun y527 => ((spec_l7Costs.f k l0).bind fun t530 => (if t530 = true then ((spec_l7Shares.f k (l0.length : Int) a1 l2).bind fun t531 => (spec_l7Parts.j0 k l0 a1 l2 y527 (!t531))) else (spec_l7Parts.j0 k l0 a1 l2 y527 true)))) = some (r1, r2) := h; clear h; obtain ⟨y527, hy527⟩ : ∃ y_ : List (List Int), y_ = (([] : List (List Int))) := ⟨_, rfl⟩
 replace H : ((spec_l7Costs.f k l0).bind fun t530 => (if t530 = true then ((spec_l7Shares.f k (l0.length : Int) a1 l2).bind fun t531 => (spec_l7Parts.j0 k l0 a1 l2 y527 (!t531))) else (spec_l7Parts.j0 k l0 a1 l2 y527 true))) = some (r1, r2) := by first | (rw [hy527]; with_reducible exact H) | (have H2_ := (Option.bind_some _ _).symm.trans H; rw [hy527]; with_reducible exact H2_) | (have H2_ := (Option.bind_some _ _).symm.trans H; with_reducible exact H2_) | with_reducible exact H | (rw [hy527]; exact H) | exact H
 have Ny527 := Aside0.mk hy527; clear hy527; have HC4 := Aside0.mk H; clear H; go_enter Try.func29, Try.ntmps29
 go_upto_region 2 with (first | ((with_reducible refine gate_dst (N := 12) rfl ?_); (try (refine gate_guard (by rfl) ?_; dsimp only)); refine Kd.S_lit (Kd.slice 3 (Kd.int .i64)) _ 24 ?hg (N := 12) ?hd (xs := ([] : List (List Int))) (inner := []) (ok := fun _ => True) (okp := fun _ => True) ?hr ?hp (fun _ hk => hk) trivial (Below.refl _ _) (Nat.le_refl _) (by simp) ?_; (case hd => rfl); (case hg => rfl); (case hr => first | (go_simp; done) | (go_simp; rfl)); (case hp => exact (Reps.none _ _)); intro v528 w5 ho6 hb hg_ hnew_; clear hg_ hnew_; (first | rw [← Ny527.out] at ho6 | (simp only [Int.reduceToNat] at ho6; rw [← Ny527.out] at ho6)); have HO529 := aZ (Kd.S_lower ho6 (below_size (lZB HB.out))); replace HB := aZ (below_step (lZB HB.out) hb); clear hb ho6))
 (try simp only [Act.put, sZ1, sZ2, sZ3])
 go_cut [23] (fun v23 wc => ∃ (kq : Nat) (x23_3 : Bool), v23 = .bool x23_3 ∧ Aside0 (spec_l7Parts.j0 kq l0 a1 l2 y527 x23_3 = some (r1, r2)) ∧ Aside0 (kq ≤ k) ∧ Aside0 (Kd.S (Kd.slice 3 (Kd.int .i64)) 24 wc w.heap.size (fun _ => True) v528 y527) ∧ Aside0 (Below w.heap.size w wc))
 case first =>
  have H := HC4.out; clear HC4; replace H := Option.bind_eq_some_iff.mp H; obtain ⟨t530, A70, H⟩ := H; replace H : (if t530 = true then ((spec_l7Shares.f k (l0.length : Int) a1 l2).bind fun t531 => (spec_l7Parts.j0 k l0 a1 l2 y527 (!t531))) else (spec_l7Parts.j0 k l0 a1 l2 y527 true)) = some (r1, r2) := H; have A7 := Aside0.mk A70; clear A70
  by_cases c8 : t530 = true
  rotate_left
  ·replace c8 := Bool.eq_false_iff.mpr c8; subst c8; rw [if_neg Bool.false_ne_true] at H; have H' := Aside0.mk H; clear H
   go_wp2_with (first | ((with_reducible refine gate_callee (f := 30) rfl ?_); refine goesL_ (some 14) rfl rfl Try.func30 kZ rfl #[.slice A0 l0.length c0] rfl tZA ?_; (with_reducible refine (spec_l7Costs.calls k _ _ l0 false _ ?side1 ?side2 A7.out).mono ?_); (case side1 => repeat (first | exact (Kd.C_below HR0.out HB.out) | (with_reducible refine Kd.C_alloc ?_ _) | (with_reducible refine Kd.C_drewN ?_ _) | (with_reducible refine Kd.C_drew ?_))); (case side2 => exact HC0.out); rintro e w' ⟨rfl, ⟨nd, rfl⟩⟩; refine ⟨_, rfl, ?_⟩))
   go_meet
   case rel => exact ⟨_, (true), tZB, H', ⟨by first | omega | exact Nat.le_refl _⟩, ⟨lZS HO529.out⟩, ⟨bZ⟩⟩
  subst c8; rw [if_pos rfl] at H; replace H := Option.bind_eq_some_iff.mp H; obtain ⟨t531, A90, H⟩ := H; replace H : (spec_l7Parts.j0 k l0 a1 l2 y527 (!t531)) = some (r1, r2) := H; have A9 := Aside0.mk A90; clear A90; have H' := Aside0.mk H; clear H
  go_wp2_with (first | ((with_reducible refine gate_callee (f := 30) rfl ?_); refine goesL_ (some 14) rfl rfl Try.func30 kZ rfl #[.slice A0 l0.length c0] rfl tZA ?_; (with_reducible refine (spec_l7Costs.calls k _ _ l0 true _ ?side1 ?side2 A7.out).mono ?_); (case side1 => repeat (first | exact (Kd.C_below HR0.out HB.out) | (with_reducible refine Kd.C_alloc ?_ _) | (with_reducible refine Kd.C_drewN ?_ _) | (with_reducible refine Kd.C_drew ?_))); (case side2 => exact HC0.out); rintro e w' ⟨rfl, ⟨nd, rfl⟩⟩; refine ⟨_, rfl, ?_⟩) | (go_at_call 55; (with_reducible refine (spec_l7Shares.calls k (l0.length : Int) a1 _ _ l2 t531 _ ?side1 ?side2 A9.out).mono ?_); (case side1 => repeat (first | exact (Kd.C_below HR2.out (lZB HB.out)) | (with_reducible refine Kd.C_alloc ?_ _) | (with_reducible refine Kd.C_drewN ?_ _) | (with_reducible refine Kd.C_drew ?_))); (case side2 => exact HC2.out); rintro e w' ⟨rfl, ⟨nd, rfl⟩⟩))
  go_meet
  case rel => exact ⟨_, (!t531), tZB, H', ⟨by first | omega | exact Nat.le_refl _⟩, ⟨lZS HO529.out⟩, ⟨bZ⟩⟩
 case rest =>
  clear HC4; obtain ⟨kq, x23_3, rfl, HA, HJ3, HO_8, HB⟩ := hcut
  cases kq with
  | zero => exact absurd HA.out (by simp [spec_l7Parts.j0])
  | succ kj3 =>
   have H := HA.out; clear HA; simp only [spec_l7Parts.j0] at H
   by_cases c10 : x23_3 = true
   ·subst c10; rw [if_pos rfl] at H; simp only [Option.some.injEq, Prod.mk.injEq] at H; obtain ⟨rfl, rfl⟩ := H; go_wp2; go_ret2; exact ⟨_, tZC, lZS HO_8.out, bZ⟩
   replace c10 := Bool.eq_false_iff.mpr c10; subst c10; rw [if_neg Bool.false_ne_true] at H; have H' := Aside0.mk H; clear H; go_wp2
   go_loopg [8, 9] kj3 (fun kq v8 v9 w' => ∃ (x8_2 : List (List Int)) (x9_2 : Int), v9 = .int .i64 x9_2 ∧ Aside0 (spec_l7Parts.l0 kq l0 a1 l2 x8_2 x9_2 = some (r1, r2)) ∧ Aside0 (kq ≤ kj3) ∧ Aside0 (Kd.S (Kd.slice 3 (Kd.int .i64)) 24 w' w.heap.size (fun _ => True) v8 x8_2) ∧ Aside0 (Below w.heap.size w w'))
   case atStart => exact ⟨(y527), (0), tZB, H', ⟨Nat.le_refl _⟩, ⟨lZS HO_8.out⟩, ⟨bZ⟩⟩
   case round =>
    clear H'; obtain ⟨x8_2, x9_2, rfl, HA, HK2, HO_8, HB⟩ := hrel
    cases gk with
    | zero => exact absurd HA.out (by simp [spec_l7Parts.l0])
    | succ k2 =>
     have H := HA.out; clear HA; simp only [spec_l7Parts.l0] at H
     by_cases c11 : x9_2 < a1
     rotate_left
     ·rw [if_neg c11] at H; have c11b0 := decide_eq_false c11; clear c11; simp only [Option.some.injEq, Prod.mk.injEq] at H; obtain ⟨rfl, rfl⟩ := H; go_wp2; go_ret2; exact ⟨_, tZC, lZS HO_8.out, bZ⟩
     rw [if_pos c11] at H; have c11b0 := decide_eq_true c11; clear c11; replace H := Option.bind_eq_some_iff.mp H; obtain ⟨⟨t532, t533⟩, A120, H⟩ := H; replace H : (if t533 = 0 then (some ((([] : List (List Int))), false)) else (if 0 ≤ x9_2 then (if x9_2 < (l0.length : Int) then ((spec_Shares.f k2 (rd l0 x9_2) t532).bind fun t540 => (if x8_2.length < 5864062014805 then (spec_l7Parts.l0 k2 l0 a1 l2 (x8_2 ++ [t540]) (wrap64 (x9_2 + 1))) else (none))) else (none)) else (none))) = some (r1, r2) := H; have A12 := Aside0.mk A120; clear A120
     by_cases c13 : t533 = 0
     ·rw [if_pos c13] at H; have c13b0 : (t533 == 0) = true := beq_iff_eq.mpr c13; have c13b1 : (t533 != 0) = false := bne_eq_false_iff_eq.mpr c13; clear c13; obtain ⟨y536, hy536⟩ : ∃ y_ : List (List Int), y_ = (([] : List (List Int))) := ⟨_, rfl⟩; replace H : (some (y536, false)) = some (r1, r2) := by first | (rw [hy536]; with_reducible exact H) | (have H2_ := (Option.bind_some _ _).symm.trans H; rw [hy536]; with_reducible exact H2_) | (have H2_ := (Option.bind_some _ _).symm.trans H; with_reducible exact H2_) | with_reducible exact H | (rw [hy536]; exact H) | exact H
      have Ny536 := Aside0.mk hy536; clear hy536; simp only [Option.some.injEq, Prod.mk.injEq] at H; obtain ⟨rfl, rfl⟩ := H
      go_wp2_with (first | ((with_reducible refine gate_callee (f := 56) rfl ?_); refine goesL_ (some 36) rfl rfl Try.func56 kZ rfl #[.int .i64 (l0.length : Int), .int .i64 a1, .slice A2 l2.length c2, .int .i64 x9_2] rfl tZA ?_; (with_reducible refine (spec_l7Ends.calls k2 (l0.length : Int) a1 _ _ l2 x9_2 t532 t533 _ ?side1 ?side2 A12.out).mono ?_); (case side1 => repeat (first | exact (Kd.C_below HR2.out HB.out) | (with_reducible refine Kd.C_alloc ?_ _) | (with_reducible refine Kd.C_drewN ?_ _) | (with_reducible refine Kd.C_drew ?_))); (case side2 => exact HC2.out); rintro e w14 ⟨v534, rfl, ho0, hb⟩; refine ⟨_, rfl, ?_⟩; replace HO_8 := aZ (Kd.S_elder' (lZS HO_8.out) (Kd.R_base ho0) hb); have HO535 := aZ (Kd.R_lower ho0 (below_size (lZB HB.out))); replace HB := aZ (below_step (lZB HB.out) hb); (try clear hb); (try clear hb2); (try clear hk); (try clear hi); (try clear ho0)) | ((with_reducible refine gate_dst (N := 41) rfl ?_); (try (refine gate_guard (by rfl) ?_; dsimp only)); refine Kd.S_lit (Kd.slice 3 (Kd.int .i64)) _ 24 ?hg (N := 41) ?hd (xs := ([] : List (List Int))) (inner := []) (ok := fun _ => True) (okp := fun _ => True) ?hr ?hp (fun _ hk => hk) trivial (Below.refl _ _) (Nat.le_refl _) (by simp) ?_; (case hd => rfl); (case hg => rfl); (case hr => first | (go_simp; done) | (go_simp; rfl)); (case hp => exact (Reps.none _ _)); intro v537 w15 ho16 hb hg_ hnew_; clear hg_ hnew_; (first | rw [← Ny536.out] at ho16 | (simp only [Int.reduceToNat] at ho16; rw [← Ny536.out] at ho16)); have HO538 := aZ (Kd.S_lower (Kd.S_new' (Kd.S_new' ho16 (Kd.S_lt (lZS HO_8.out))) (Kd.R_lt (lZR HO535.out))) (below_size (lZB HB.out))); replace HO_8 := aZ (Kd.S_elder' (lZS HO_8.out) (Kd.S_base ho16) hb); replace HO535 := aZ (Kd.R_below (lZR HO535.out) hb); replace HB := aZ (below_step (lZB HB.out) hb); clear hb ho16))
      go_ret2; exact ⟨_, tZC, by (with_reducible repeat (first | apply Kd.S_alloc | apply Kd.S_drewN | apply Kd.S_drew)); exact Kd.S_mono HO538.out (fun _ hk => trivial), bZ⟩
     rw [if_neg c13] at H; have c13b0 : (t533 == 0) = false := beq_eq_false_iff_ne.mpr c13; have c13b1 : (t533 != 0) = true := bne_iff_ne.mpr c13
     by_cases c17 : 0 ≤ x9_2
     rotate_left
     ·rw [if_neg c17] at H; exact absurd H (by simp)
     rw [if_pos c17] at H; have c17b0 := decide_eq_true c17; clear c17
     by_cases c18 : x9_2 < (l0.length : Int)
     rotate_left
     ·rw [if_neg c18] at H; exact absurd H (by simp)
     rw [if_pos c18] at H; have c18b0 := decide_eq_true c18; clear c18; replace H := Option.bind_eq_some_iff.mp H; obtain ⟨t540, A190, H⟩ := H; replace H : (if x8_2.length < 5864062014805 then (spec_l7Parts.l0 k2 l0 a1 l2 (x8_2 ++ [t540]) (wrap64 (x9_2 + 1))) else (none)) = some (r1, r2) := H; have A19 := Aside0.mk A190; clear A190
     by_cases c20 : x8_2.length < 5864062014805
     rotate_left
     ·rw [if_neg c20] at H; exact absurd H (by simp)
     rw [if_pos c20] at H; have LMc20 := Aside0.mk c20; clear c20; obtain ⟨y543, hy543⟩ : ∃ y_ : List (List Int), y_ = (x8_2 ++ [t540]) := ⟨_, rfl⟩; replace H : (spec_l7Parts.l0 k2 l0 a1 l2 y543 (wrap64 (x9_2 + 1))) = some (r1, r2) := by first | (rw [hy543]; with_reducible exact H) | (have H2_ := (Option.bind_some _ _).symm.trans H; rw [hy543]; with_reducible exact H2_) | (have H2_ := (Option.bind_some _ _).symm.trans H; with_reducible exact H2_) | with_reducible exact H | (rw [hy543]; exact H) | exact H
     have Ny543 := Aside0.mk hy543; clear hy543; have H' := Aside0.mk H; clear H
     go_wp2_with (first | ((with_reducible refine gate_callee (f := 56) rfl ?_); refine goesL_ (some 36) rfl rfl Try.func56 kZ rfl #[.int .i64 (l0.length : Int), .int .i64 a1, .slice A2 l2.length c2, .int .i64 x9_2] rfl tZA ?_; (with_reducible refine (spec_l7Ends.calls k2 (l0.length : Int) a1 _ _ l2 x9_2 t532 t533 _ ?side1 ?side2 A12.out).mono ?_); (case side1 => repeat (first | exact (Kd.C_below HR2.out HB.out) | (with_reducible refine Kd.C_alloc ?_ _) | (with_reducible refine Kd.C_drewN ?_ _) | (with_reducible refine Kd.C_drew ?_))); (case side2 => exact HC2.out); rintro e w21 ⟨v534, rfl, ho0, hb⟩; refine ⟨_, rfl, ?_⟩; replace HO_8 := aZ (Kd.S_elder' (lZS HO_8.out) (Kd.R_base ho0) hb); have HO535 := aZ (Kd.R_lower ho0 (below_size (lZB HB.out))); replace HB := aZ (below_step (lZB HB.out) hb); (try clear hb); (try clear hb2); (try clear hk); (try clear hi); (try clear ho0); have p539 : 0 ≤ (x9_2 : Int) := of_decide_eq_true tZE; have q539 : x9_2 < (l0.length : Int) := of_decide_eq_true tZE; obtain ⟨ad539, e539, hx539_0⟩ := Kd.at_int HR0.out x9_2 p539 q539; cases e539; replace hx539_0 := cZ HB hx539_0; replace p539 := eq_true p539; replace q539 := eq_true q539; obtain ⟨Ao22, co22, eo22⟩ := Kd.R_slice HO535.out; subst eo22) | ((with_reducible refine gate_callee (f := 43) rfl ?_); refine goesL_ (some 48) rfl rfl Try.func43 kZ rfl #[.int .i64 (rd l0 x9_2), .slice Ao22 t532.length co22] rfl tZA ?_; (with_reducible refine (spec_Shares.calls k2 (rd l0 x9_2) _ _ t532 t540 _ ?side1 ?side2 A19.out).mono ?_); (case side1 => repeat (first | exact (Kd.R_reads' HO535.out).2.2 | (with_reducible refine Kd.C_alloc ?_ _) | (with_reducible refine Kd.C_drewN ?_ _) | (with_reducible refine Kd.C_drew ?_))); (case side2 => exact (Kd.R_reads' HO535.out).2.1); rintro e w23 ⟨v541, rfl, ho0, hb⟩; refine ⟨_, rfl, ?_⟩; replace HO_8 := aZ (Kd.S_elder' (lZS HO_8.out) (Kd.R_base ho0) hb); have HO542 := aZ (Kd.R_lower (Kd.R_new' ho0 (Kd.R_lt (lZR HO535.out))) (below_size (lZB HB.out))); replace HO535 := aZ (Kd.R_elder' (lZR HO535.out) (Kd.R_base ho0) hb); replace HB := aZ (below_step (lZB HB.out) hb); (try clear hb); (try clear hb2); (try clear hk); (try clear hi); (try clear ho0); obtain ⟨Ao25, co25, eo25⟩ := Kd.R_slice HO542.out; subst eo25) | ((with_reducible refine gate_builtin (b := .append) (xs := #[.tmp 42, .tmp 49]) rfl ?_); (try (refine gate_guard (by rfl) ?_; dsimp only)); at_builtin; refine Kd.S_append (Kd.slice 3 (Kd.int .i64)) (w0 := w) w.heap.size rfl (.tmp 42) (.tmp 49) 25 24 (.slice none 0 0) 24 rfl Try.underlying25 info24 rfl (by decide) (by omega) u8 x8_2 t540 [.slice Ao25 t540.length co25] (fun k_ => some k_ ≠ (.slice Ao22 t532.length co22 : Value).ownBlock) (fun k_ => some k_ = (.slice Ao25 t540.length co25 : Value).ownBlock) rfl rfl ?aP (fun k_ hk_ => ((Kd.R_mono (ok' := fun k_ => ((fun k_ => some k_ ≠ (.slice Ao22 t532.length co22 : Value).ownBlock)) k_ ∧ some k_ ≠ (u8 : Value).ownBlock) (Kd.R_apart' (HO542.out) (Kd.S_typed HO_8.out) (by decide)) (fun k_ hk => ⟨hk.1.2, hk.2⟩))).1 k_ hk_.symm) ?aF ?aO ?aB ?aS ?aL ?_; (case aP => exact Kd.M_row (Kd.R_mono (Kd.R_tight rfl (Kd.R_mono (ok' := fun k_ => ((fun k_ => some k_ ≠ (.slice Ao22 t532.length co22 : Value).ownBlock)) k_ ∧ some k_ ≠ (u8 : Value).ownBlock) (Kd.R_apart' (HO542.out) (Kd.S_typed HO_8.out) (by decide)) (fun k_ hk => ⟨hk.1.2, hk.2⟩))) (fun _ h_ => h_))); (case aB => exact (lZB HB.out)); (case aF => exact (fun k_ hk => Kd.fresh' (Kd.R_lt (lZR HO535.out)) k_ hk)); (case aO => exact (by (with_reducible repeat (first | apply Kd.S_alloc | apply Kd.S_drewN | apply Kd.S_drew)); exact Kd.S_mono HO_8.out (fun k_ hk => ⟨hk.1.2, fun e_ => hk.2 e_⟩))); (case aS => exact (below_size (lZB HB.out))); (case aL => have := LMc20.out; omega); intro v544 w24 ho hb hg hat; rw [← Ny543.out] at ho; replace HO535 := aZ (Kd.R_over' (lZR HO535.out) (Kd.S_typed (lZS HO_8.out)) (by decide) hg); replace HB := aZ (hb); have HO545 := aZ (ho); clear HO_8 HO542; clear ho hb hg hat))
     go_roundg k2
     case measure => have := HJ3.out; have := HK2.out; omega
     case rel => exact ⟨(y543), (wrap64 (x9_2 + 1)), tZB, H', ⟨by have := HJ3.out; have := HK2.out; omega⟩, ⟨by (with_reducible repeat (first | apply Kd.S_alloc | apply Kd.S_drewN | apply Kd.S_drew)); exact Kd.S_mono HO545.out (fun _ hk => trivial)⟩, ⟨bZ⟩⟩
end Go.Proofs.Ytadehdkmggpehaa.PFnMutualWhole
